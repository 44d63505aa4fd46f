import Derived.Test.YtcbfnflnokoacaaGreatEvidenceJudgesP3
namespace Go.Proofs.YtcbfnflnokoacaaGreat
set_option maxRecDepth 100000
set_option maxHeartbeats 4000000
open Go Go.RowKit Go.Own Go.Shelf
def doub (a b : Att) : Bool := decide (a.fine ∧ b.fine ∧ a.v = b.v ∧ a.t = b.t ∧ ¬ a.dig = b.dig)
def doubP (a b : Pro) : Bool := decide (a.fine ∧ b.fine ∧ a.v = b.v ∧ a.h = b.h ∧ ¬ a.dig = b.dig)
theorem ne_dec (l m : List UInt8) : (!(l == m)) = decide (¬ l = m) := by by_cases h : l = m <;> simp [h]
theorem hash_guard : Tryz.prog.eqGuardType Tryz.prog.depth 23 = false := by kernel_rfl
theorem hash_ne (l m : List UInt8) (hl : l.length = 32) (hm : m.length = 32) (w : World) : (binOp .neq 23 (.agg (B l).toArray) (.agg (B m).toArray)).run Tryz.prog w = .ok (.bool (!(l == m))) w := by
  obtain ⟨i0, hi, _, _, _⟩ := info_parts u8_info0
  have h := run_equalIn_bytes (P := Tryz.prog) (t := 23) (e := 5) (n := 32) Tryz.underlying23 hi (by kernel_rfl) Tryz.underlying5 (by kernel_rfl) 9998 l m w hl hm
  rw [run_neq_struct, h]; rfl
def Att.dg (a : Att) : List UInt8 := if a.fine then a.dig else zhash
def Pro.dg (a : Pro) : List UInt8 := if a.fine then a.dig else zhash
theorem Att.dg_len (a : Att) : a.dg.length = 32 := by unfold Att.dg; split; exact a.dig_len; exact zhash_len
theorem Pro.dg_len (a : Pro) : a.dg.length = 32 := by unfold Pro.dg; split; exact a.dig_len; exact zhash_len
theorem vDigest_any (a : Att) (w : World) (ha : a.Ok) : Calls Tryz.prog 39 #[.agg (Att.c a)] w fun e w' => e = .returned (.tuple #[.agg (B a.dg).toArray, .int .i64 a.err]) ∧ Keeps Nob w w' := by
  by_cases hf : a.fine
  · rw [Att.err_ok hf, Att.dg, if_pos hf]; exact vDigest_ok a w ha hf
  · rw [Att.err_no hf, Att.dg, if_neg hf]; exact vDigest_bad a w ha hf
noncomputable def qc50_1 (n : Nat) : Code := partOf Tryz.f32 n
theorem vDoubles_ok (a b : Att) (w : World) (ha : a.Ok) (hb : b.Ok) :
    Calls Tryz.prog 32 #[.agg (Att.c a), .agg (Att.c b)] w (fun e w' => e = .returned (.bool (doub a b)) ∧ Keeps Nob w w') := by
  have hr := ha.r
  have hs := hb.r
  have K0 : Keeps Nob w w := Keeps.refl _ _
  refine sy_enter (qc50_1 1) ⟨#[.agg (Att.c a), .agg (Att.c b), ud, ud, ud, ud, ud, ud, ud, ud, ud, ud, ud, ud, ud, ud, ud, ud, ud, ud, ud, ud, ud, ud, ud, ud, ud, ud, ud, ud, ud, ud, ud, ud, ud, ud, ud, ud, ud, ud, ud, ud, ud, ud], []⟩ Tryz.func32 (by kernel_rfl) (by kernel_rfl) <| qr_ [0, 1, 2] <| pbx 26 ((Att.c a)) (.agg (Att.c a)) fun V1 ga ega h2 kV1 => ?_
  have n3 : w.heap.size ≤ ga := ega ▸ K0.size
  have K4 := K0.nn kV1
  have z5 := kV1.size
  refine pbx 26 ((Att.c b)) (.agg (Att.c b)) fun V6 gb egb h7 kV6 => ?_
  have n8 : ga < gb := egb ▸ lt_of_block h2
  have n9 : w.heap.size ≤ gb := egb ▸ K4.size
  have h10 := kV6.bk h2
  have K11 := K4.nn kV6
  have z12 := kV6.size
  refine pkq (.bool false) <| eqr_ [0, 1, 2, 3, 4, 5, 6, 7] <| ppq (.agg (Att.c a)) (ldr 26 ga (h10) (by rw [Att.c_size _ hr]; kernel_rfl)) ?_
  refine pcq 39 #[.agg (Att.c a)] Tryz.func39 ((vDigest_any a _ ha).mono ?_)
  rintro e V13 ⟨rfl, kV13⟩
  refine ⟨_, rfl, ?_⟩
  have h14 := kV13.bk h10
  have h15 := kV13.bk h7
  have K16 := K11.nn kV13
  have z17 := kV13.size
  refine pkq (.tuple #[.agg (B a.dg).toArray, .int .i64 a.err]) <| pkq (.agg (B a.dg).toArray) <| pkq (.int .i64 a.err) <| pal 23 (zr_u8_32) (.agg (zr_u8_32)) fun V18 gx egx h19 kV18 => ?_
  have n20 : ga < gx := egx ▸ lt_of_block h14
  have n21 : gb < gx := egx ▸ lt_of_block h15
  have n22 : w.heap.size ≤ gx := egx ▸ K16.size
  have h23 := kV18.bk h14
  have h24 := kV18.bk h15
  have K25 := K16.nn kV18
  have z26 := kV18.size
  refine pst 23 gx ((B a.dg).toArray) h19 (by rw [Bz_size, Att.dg_len]; kernel_rfl) (by rw [Bz_size, Att.dg_len]; rfl) (by rw [List.all_toArray]; exact List.all_eq_true.2 (B_one _)) fun V27 h28 kV27 => ?_
  have h29 := kV27.bO h23
  have h30 := kV27.bO h24
  have K31 := K25.nO kV27
  have z32 := kV27.size
  refine pkq (.int .i64 a.err) <| eqr_ [0, 1, 2, 3, 4, 5, 6, 7] <| ppq (.agg (Att.c b)) (ldr 26 gb (h30) (by rw [Att.c_size _ hs]; kernel_rfl)) ?_
  refine pcq 39 #[.agg (Att.c b)] Tryz.func39 ((vDigest_any b _ hb).mono ?_)
  rintro e V33 ⟨rfl, kV33⟩
  refine ⟨_, rfl, ?_⟩
  have h34 := kV33.bk h29
  have h35 := kV33.bk h30
  have h36 := kV33.bk h28
  have K37 := K31.nn kV33
  have z38 := kV33.size
  refine pkq (.tuple #[.agg (B b.dg).toArray, .int .i64 b.err]) <| pkq (.agg (B b.dg).toArray) <| pkq (.int .i64 b.err) <| pal 23 (zr_u8_32) (.agg (zr_u8_32)) fun V39 gy egy h40 kV39 => ?_
  have n41 : ga < gy := egy ▸ lt_of_block h34
  have n42 : gb < gy := egy ▸ lt_of_block h35
  have n43 : gx < gy := egy ▸ lt_of_block h36
  have n44 : w.heap.size ≤ gy := egy ▸ K37.size
  have h45 := kV39.bk h34
  have h46 := kV39.bk h35
  have h47 := kV39.bk h36
  have K48 := K37.nn kV39
  have z49 := kV39.size
  refine pst 23 gy ((B b.dg).toArray) h40 (by rw [Bz_size, Att.dg_len]; kernel_rfl) (by rw [Bz_size, Att.dg_len]; rfl) (by rw [List.all_toArray]; exact List.all_eq_true.2 (B_one _)) fun V50 h51 kV50 => ?_
  have h52 := kV50.bO h45
  have h53 := kV50.bO h46
  have h54 := kV50.bO h47
  have K55 := K48.nO kV50
  have z56 := kV50.size
  refine pkq (.int .i64 b.err) <| eqr_ [0, 1, 2, 3, 4, 5, 6, 7, 8, 9, 10, 11, 12, 13, 14, 15, 16, 17, 18, 19, 20, 21, 22, 23, 24, 25] <| pkq (.int .i64 a.err) ?_
  by_cases c0 : a.fine
  · have e0 := Att.err_ok c0
    refine ppq (.bool true) (eqt ((a.err) : Int) ((0) : Int) (by omega)) <| pkq (.bool true) <| pkq (.int .i64 b.err) ?_
    by_cases c1 : b.fine
    · have e1 := Att.err_ok c1
      refine ppq (.bool true) (eqt ((b.err) : Int) ((0) : Int) (by omega)) <| pkq (.bool true) <| pkq (.bool true) <| pkq (pT ga 0) <| ppq (.int .i64 a.v) (ldc 3 ga 0 (rc (h52) (Att.c_0 _))) <| pkq (pT gb 0) <| ppq (.int .i64 b.v) (ldc 3 gb 0 (rc (h53) (Att.c_0 _))) ?_
      by_cases c2 : a.v = b.v
      · have e2 := c2
        refine ppq (.bool true) (eqt ((a.v) : Int) ((b.v) : Int) (by omega)) <| pkq (.bool true) <| pkq (.bool true) <| pkq (pT ga 2) <| ppq (.int .i64 a.t) (ldc 3 ga 2 (rc (h52) (Att.c_2 _))) <| pkq (pT gb 2) <| ppq (.int .i64 b.t) (ldc 3 gb 2 (rc (h53) (Att.c_2 _))) ?_
        by_cases c3 : a.t = b.t
        · have e3 := c3
          refine ppq (.bool true) (eqt ((a.t) : Int) ((b.t) : Int) (by omega)) <| pkq (.bool true) <| pkq (.bool true) <| ppq (.agg ((B a.dg).toArray)) (ldr 23 gx (h54) (by rw [Bz_size, (Att.dg_len a)]; kernel_rfl)) <| ppq (.agg ((B b.dg).toArray)) (ldr 23 gy (h51) (by rw [Bz_size, (Att.dg_len b)]; kernel_rfl)) <| ppq (.bool (!(a.dg == b.dg))) (exec_binop .neq 23 23 (.tmp 40) (.tmp 41) (by kernel_rfl) (.agg (B a.dg).toArray) (.agg (B b.dg).toArray) _ (by kernel_rfl) (by kernel_rfl) (run_eqGuard_agg _ _ _ _ _ _ _ hash_guard) (hash_ne _ _ (Att.dg_len a) (Att.dg_len b) _)) <| pkq (.bool (!(a.dg == b.dg))) <| pkq (.bool (!(a.dg == b.dg))) <| ps_end <| sy_a ⟨#[.agg (Att.c a), .agg (Att.c b), pT ga 0, pT gb 0, .bool (!(a.dg == b.dg)), pT gx 0, .int .i64 a.err, pT gy 0, .int .i64 b.err, .tuple #[.agg (B a.dg).toArray, .int .i64 a.err], .agg (Att.c a), .tuple #[.agg (B a.dg).toArray, .int .i64 a.err], .agg (B a.dg).toArray, .int .i64 a.err, .tuple #[.agg (B b.dg).toArray, .int .i64 b.err], .agg (Att.c b), .tuple #[.agg (B b.dg).toArray, .int .i64 b.err], .agg (B b.dg).toArray, .int .i64 b.err, .int .i64 a.err, .bool true, .bool true, .int .i64 b.err, .bool true, .bool true, .bool true, pT ga 0, .int .i64 a.v, pT gb 0, .int .i64 b.v, .bool true, .bool true, .bool true, pT ga 2, .int .i64 a.t, pT gb 2, .int .i64 b.t, .bool true, .bool true, .bool true, .agg ((B a.dg).toArray), .agg ((B b.dg).toArray), .bool (!(a.dg == b.dg)), .bool (!(a.dg == b.dg))], []⟩ <| then_n <| u_ <| so_ (.bool (!(a.dg == b.dg))) ?_
          exact ⟨by rw [ne_dec, Att.dg, Att.dg, if_pos c0, if_pos c1]; unfold doub; simp [c0, c1, c2, c3], K55⟩
        · have e3 := c3
          refine ppq (.bool false) (eqf ((a.t) : Int) ((b.t) : Int) (by omega)) <| pkq (.bool false) <| pkq (.bool false) <| pnq <| pnq <| pnq <| pkq (.bool false) <| pkq (.bool false) <| ps_end <| sy_a ⟨#[.agg (Att.c a), .agg (Att.c b), pT ga 0, pT gb 0, .bool false, pT gx 0, .int .i64 a.err, pT gy 0, .int .i64 b.err, .tuple #[.agg (B a.dg).toArray, .int .i64 a.err], .agg (Att.c a), .tuple #[.agg (B a.dg).toArray, .int .i64 a.err], .agg (B a.dg).toArray, .int .i64 a.err, .tuple #[.agg (B b.dg).toArray, .int .i64 b.err], .agg (Att.c b), .tuple #[.agg (B b.dg).toArray, .int .i64 b.err], .agg (B b.dg).toArray, .int .i64 b.err, .int .i64 a.err, .bool true, .bool true, .int .i64 b.err, .bool true, .bool true, .bool true, pT ga 0, .int .i64 a.v, pT gb 0, .int .i64 b.v, .bool true, .bool true, .bool true, pT ga 2, .int .i64 a.t, pT gb 2, .int .i64 b.t, .bool false, .bool false, .bool false, ud, ud, ud, .bool false], []⟩ <| then_n <| u_ <| so_ (.bool false) ?_
          exact ⟨by unfold doub; simp [c0, c1, c2, c3], K55⟩
      · have e2 := c2
        refine ppq (.bool false) (eqf ((a.v) : Int) ((b.v) : Int) (by omega)) <| pkq (.bool false) <| pkq (.bool false) <| pnq <| pnq <| pnq <| pnq <| pnq <| pkq (.bool false) <| pkq (.bool false) <| pnq <| pnq <| pnq <| pkq (.bool false) ?_
        refine pkq (.bool false) <| ps_end <| sy_a ⟨#[.agg (Att.c a), .agg (Att.c b), pT ga 0, pT gb 0, .bool false, pT gx 0, .int .i64 a.err, pT gy 0, .int .i64 b.err, .tuple #[.agg (B a.dg).toArray, .int .i64 a.err], .agg (Att.c a), .tuple #[.agg (B a.dg).toArray, .int .i64 a.err], .agg (B a.dg).toArray, .int .i64 a.err, .tuple #[.agg (B b.dg).toArray, .int .i64 b.err], .agg (Att.c b), .tuple #[.agg (B b.dg).toArray, .int .i64 b.err], .agg (B b.dg).toArray, .int .i64 b.err, .int .i64 a.err, .bool true, .bool true, .int .i64 b.err, .bool true, .bool true, .bool true, pT ga 0, .int .i64 a.v, pT gb 0, .int .i64 b.v, .bool false, .bool false, .bool false, ud, ud, ud, ud, ud, .bool false, .bool false, ud, ud, ud, .bool false], []⟩ <| then_n <| u_ <| so_ (.bool false) ?_
        exact ⟨by unfold doub; simp [c0, c1, c2], K55⟩
    · have e1 := Att.err_no c1
      refine ppq (.bool false) (eqf ((b.err) : Int) ((0) : Int) (by omega)) <| pkq (.bool false) <| pkq (.bool false) <| pnq <| pnq <| pnq <| pnq <| pnq <| pkq (.bool false) <| pkq (.bool false) <| pnq <| pnq <| pnq <| pnq ?_
      refine pnq <| pkq (.bool false) <| pkq (.bool false) <| pnq <| pnq <| pnq <| pkq (.bool false) <| pkq (.bool false) <| ps_end <| sy_a ⟨#[.agg (Att.c a), .agg (Att.c b), pT ga 0, pT gb 0, .bool false, pT gx 0, .int .i64 a.err, pT gy 0, .int .i64 b.err, .tuple #[.agg (B a.dg).toArray, .int .i64 a.err], .agg (Att.c a), .tuple #[.agg (B a.dg).toArray, .int .i64 a.err], .agg (B a.dg).toArray, .int .i64 a.err, .tuple #[.agg (B b.dg).toArray, .int .i64 b.err], .agg (Att.c b), .tuple #[.agg (B b.dg).toArray, .int .i64 b.err], .agg (B b.dg).toArray, .int .i64 b.err, .int .i64 a.err, .bool true, .bool true, .int .i64 b.err, .bool false, .bool false, .bool false, ud, ud, ud, ud, ud, .bool false, .bool false, ud, ud, ud, ud, ud, .bool false, .bool false, ud, ud, ud, .bool false], []⟩ <| then_n <| u_ <| so_ (.bool false) ?_
      exact ⟨by unfold doub; simp [c0, c1], K55⟩
  · have e0 := Att.err_no c0
    refine ppq (.bool false) (eqf ((a.err) : Int) ((0) : Int) (by omega)) <| pkq (.bool false) <| pnq <| pnq <| pkq (.bool false) <| pkq (.bool false) <| pnq <| pnq <| pnq <| pnq <| pnq <| pkq (.bool false) <| pkq (.bool false) <| pnq ?_
    refine pnq <| pnq <| pnq <| pnq <| pkq (.bool false) <| pkq (.bool false) <| pnq <| pnq <| pnq <| pkq (.bool false) <| pkq (.bool false) <| ps_end <| sy_a ⟨#[.agg (Att.c a), .agg (Att.c b), pT ga 0, pT gb 0, .bool false, pT gx 0, .int .i64 a.err, pT gy 0, .int .i64 b.err, .tuple #[.agg (B a.dg).toArray, .int .i64 a.err], .agg (Att.c a), .tuple #[.agg (B a.dg).toArray, .int .i64 a.err], .agg (B a.dg).toArray, .int .i64 a.err, .tuple #[.agg (B b.dg).toArray, .int .i64 b.err], .agg (Att.c b), .tuple #[.agg (B b.dg).toArray, .int .i64 b.err], .agg (B b.dg).toArray, .int .i64 b.err, .int .i64 a.err, .bool false, .bool false, ud, ud, .bool false, .bool false, ud, ud, ud, ud, ud, .bool false, .bool false, ud, ud, ud, ud, ud, .bool false, .bool false, ud, ud, ud, .bool false], []⟩ <| then_n ?_
    refine u_ <| so_ (.bool false) ?_
    exact ⟨by unfold doub; simp [c0], K55⟩
theorem vDigestBlock_any (a : Pro) (w : World) (ha : a.Ok) : Calls Tryz.prog 37 #[.agg (Pro.c a)] w fun e w' => e = .returned (.tuple #[.agg (B a.dg).toArray, .int .i64 a.err]) ∧ Keeps Nob w w' := by
  by_cases hf : a.fine
  · rw [Pro.err_ok hf, Pro.dg, if_pos hf]; exact vDigestBlock_ok a w ha hf
  · rw [Pro.err_no hf, Pro.dg, if_neg hf]; exact vDigestBlock_bad a w ha hf
noncomputable def qc50_0 (n : Nat) : Code := partOf Tryz.f35 n
theorem vDoublesBlock_ok (a b : Pro) (w : World) (ha : a.Ok) (hb : b.Ok) :
    Calls Tryz.prog 35 #[.agg (Pro.c a), .agg (Pro.c b)] w (fun e w' => e = .returned (.bool (doubP a b)) ∧ Keeps Nob w w') := by
  have hr := ha.r
  have hs := hb.r
  have K0 : Keeps Nob w w := Keeps.refl _ _
  refine sy_enter (qc50_0 1) ⟨#[.agg (Pro.c a), .agg (Pro.c b), ud, ud, ud, ud, ud, ud, ud, ud, ud, ud, ud, ud, ud, ud, ud, ud, ud, ud, ud, ud, ud, ud, ud, ud, ud, ud, ud, ud, ud, ud, ud, ud, ud, ud, ud, ud, ud, ud, ud, ud, ud, ud], []⟩ Tryz.func35 (by kernel_rfl) (by kernel_rfl) <| qr_ [0, 1, 2] <| pbx 28 ((Pro.c a)) (.agg (Pro.c a)) fun V1 ga ega h2 kV1 => ?_
  have n3 : w.heap.size ≤ ga := ega ▸ K0.size
  have K4 := K0.nn kV1
  have z5 := kV1.size
  refine pbx 28 ((Pro.c b)) (.agg (Pro.c b)) fun V6 gb egb h7 kV6 => ?_
  have n8 : ga < gb := egb ▸ lt_of_block h2
  have n9 : w.heap.size ≤ gb := egb ▸ K4.size
  have h10 := kV6.bk h2
  have K11 := K4.nn kV6
  have z12 := kV6.size
  refine pkq (.bool false) <| eqr_ [0, 1, 2, 3, 4, 5, 6, 7] <| ppq (.agg (Pro.c a)) (ldr 28 ga (h10) (by rw [Pro.c_size _ hr]; kernel_rfl)) ?_
  refine pcq 37 #[.agg (Pro.c a)] Tryz.func37 ((vDigestBlock_any a _ ha).mono ?_)
  rintro e V13 ⟨rfl, kV13⟩
  refine ⟨_, rfl, ?_⟩
  have h14 := kV13.bk h10
  have h15 := kV13.bk h7
  have K16 := K11.nn kV13
  have z17 := kV13.size
  refine pkq (.tuple #[.agg (B a.dg).toArray, .int .i64 a.err]) <| pkq (.agg (B a.dg).toArray) <| pkq (.int .i64 a.err) <| pal 23 (zr_u8_32) (.agg (zr_u8_32)) fun V18 gx egx h19 kV18 => ?_
  have n20 : ga < gx := egx ▸ lt_of_block h14
  have n21 : gb < gx := egx ▸ lt_of_block h15
  have n22 : w.heap.size ≤ gx := egx ▸ K16.size
  have h23 := kV18.bk h14
  have h24 := kV18.bk h15
  have K25 := K16.nn kV18
  have z26 := kV18.size
  refine pst 23 gx ((B a.dg).toArray) h19 (by rw [Bz_size, Pro.dg_len]; kernel_rfl) (by rw [Bz_size, Pro.dg_len]; rfl) (by rw [List.all_toArray]; exact List.all_eq_true.2 (B_one _)) fun V27 h28 kV27 => ?_
  have h29 := kV27.bO h23
  have h30 := kV27.bO h24
  have K31 := K25.nO kV27
  have z32 := kV27.size
  refine pkq (.int .i64 a.err) <| eqr_ [0, 1, 2, 3, 4, 5, 6, 7] <| ppq (.agg (Pro.c b)) (ldr 28 gb (h30) (by rw [Pro.c_size _ hs]; kernel_rfl)) ?_
  refine pcq 37 #[.agg (Pro.c b)] Tryz.func37 ((vDigestBlock_any b _ hb).mono ?_)
  rintro e V33 ⟨rfl, kV33⟩
  refine ⟨_, rfl, ?_⟩
  have h34 := kV33.bk h29
  have h35 := kV33.bk h30
  have h36 := kV33.bk h28
  have K37 := K31.nn kV33
  have z38 := kV33.size
  refine pkq (.tuple #[.agg (B b.dg).toArray, .int .i64 b.err]) <| pkq (.agg (B b.dg).toArray) <| pkq (.int .i64 b.err) <| pal 23 (zr_u8_32) (.agg (zr_u8_32)) fun V39 gy egy h40 kV39 => ?_
  have n41 : ga < gy := egy ▸ lt_of_block h34
  have n42 : gb < gy := egy ▸ lt_of_block h35
  have n43 : gx < gy := egy ▸ lt_of_block h36
  have n44 : w.heap.size ≤ gy := egy ▸ K37.size
  have h45 := kV39.bk h34
  have h46 := kV39.bk h35
  have h47 := kV39.bk h36
  have K48 := K37.nn kV39
  have z49 := kV39.size
  refine pst 23 gy ((B b.dg).toArray) h40 (by rw [Bz_size, Pro.dg_len]; kernel_rfl) (by rw [Bz_size, Pro.dg_len]; rfl) (by rw [List.all_toArray]; exact List.all_eq_true.2 (B_one _)) fun V50 h51 kV50 => ?_
  have h52 := kV50.bO h45
  have h53 := kV50.bO h46
  have h54 := kV50.bO h47
  have K55 := K48.nO kV50
  have z56 := kV50.size
  refine pkq (.int .i64 b.err) <| eqr_ [0, 1, 2, 3, 4, 5, 6, 7, 8, 9, 10, 11, 12, 13, 14, 15, 16, 17, 18, 19, 20, 21, 22, 23, 24, 25] <| pkq (.int .i64 a.err) ?_
  by_cases c0 : a.fine
  · have e0 := Pro.err_ok c0
    refine ppq (.bool true) (eqt ((a.err) : Int) ((0) : Int) (by omega)) <| pkq (.bool true) <| pkq (.int .i64 b.err) ?_
    by_cases c1 : b.fine
    · have e1 := Pro.err_ok c1
      refine ppq (.bool true) (eqt ((b.err) : Int) ((0) : Int) (by omega)) <| pkq (.bool true) <| pkq (.bool true) <| pkq (pT ga 0) <| ppq (.int .i64 a.v) (ldc 3 ga 0 (rc (h52) (Pro.c_0 _))) <| pkq (pT gb 0) <| ppq (.int .i64 b.v) (ldc 3 gb 0 (rc (h53) (Pro.c_0 _))) ?_
      by_cases c2 : a.v = b.v
      · have e2 := c2
        refine ppq (.bool true) (eqt ((a.v) : Int) ((b.v) : Int) (by omega)) <| pkq (.bool true) <| pkq (.bool true) <| pkq (pT ga 1) <| ppq (.int .i64 a.h) (ldc 3 ga 1 (rc (h52) (Pro.c_1 _))) <| pkq (pT gb 1) <| ppq (.int .i64 b.h) (ldc 3 gb 1 (rc (h53) (Pro.c_1 _))) ?_
        by_cases c3 : a.h = b.h
        · have e3 := c3
          refine ppq (.bool true) (eqt ((a.h) : Int) ((b.h) : Int) (by omega)) <| pkq (.bool true) <| pkq (.bool true) <| ppq (.agg ((B a.dg).toArray)) (ldr 23 gx (h54) (by rw [Bz_size, (Pro.dg_len a)]; kernel_rfl)) <| ppq (.agg ((B b.dg).toArray)) (ldr 23 gy (h51) (by rw [Bz_size, (Pro.dg_len b)]; kernel_rfl)) <| ppq (.bool (!(a.dg == b.dg))) (exec_binop .neq 23 23 (.tmp 40) (.tmp 41) (by kernel_rfl) (.agg (B a.dg).toArray) (.agg (B b.dg).toArray) _ (by kernel_rfl) (by kernel_rfl) (run_eqGuard_agg _ _ _ _ _ _ _ hash_guard) (hash_ne _ _ (Pro.dg_len a) (Pro.dg_len b) _)) <| pkq (.bool (!(a.dg == b.dg))) <| pkq (.bool (!(a.dg == b.dg))) <| ps_end <| sy_a ⟨#[.agg (Pro.c a), .agg (Pro.c b), pT ga 0, pT gb 0, .bool (!(a.dg == b.dg)), pT gx 0, .int .i64 a.err, pT gy 0, .int .i64 b.err, .tuple #[.agg (B a.dg).toArray, .int .i64 a.err], .agg (Pro.c a), .tuple #[.agg (B a.dg).toArray, .int .i64 a.err], .agg (B a.dg).toArray, .int .i64 a.err, .tuple #[.agg (B b.dg).toArray, .int .i64 b.err], .agg (Pro.c b), .tuple #[.agg (B b.dg).toArray, .int .i64 b.err], .agg (B b.dg).toArray, .int .i64 b.err, .int .i64 a.err, .bool true, .bool true, .int .i64 b.err, .bool true, .bool true, .bool true, pT ga 0, .int .i64 a.v, pT gb 0, .int .i64 b.v, .bool true, .bool true, .bool true, pT ga 1, .int .i64 a.h, pT gb 1, .int .i64 b.h, .bool true, .bool true, .bool true, .agg ((B a.dg).toArray), .agg ((B b.dg).toArray), .bool (!(a.dg == b.dg)), .bool (!(a.dg == b.dg))], []⟩ <| then_n <| u_ <| so_ (.bool (!(a.dg == b.dg))) ?_
          exact ⟨by rw [ne_dec, Pro.dg, Pro.dg, if_pos c0, if_pos c1]; unfold doubP; simp [c0, c1, c2, c3], K55⟩
        · have e3 := c3
          refine ppq (.bool false) (eqf ((a.h) : Int) ((b.h) : Int) (by omega)) <| pkq (.bool false) <| pkq (.bool false) <| pnq <| pnq <| pnq <| pkq (.bool false) <| pkq (.bool false) <| ps_end <| sy_a ⟨#[.agg (Pro.c a), .agg (Pro.c b), pT ga 0, pT gb 0, .bool false, pT gx 0, .int .i64 a.err, pT gy 0, .int .i64 b.err, .tuple #[.agg (B a.dg).toArray, .int .i64 a.err], .agg (Pro.c a), .tuple #[.agg (B a.dg).toArray, .int .i64 a.err], .agg (B a.dg).toArray, .int .i64 a.err, .tuple #[.agg (B b.dg).toArray, .int .i64 b.err], .agg (Pro.c b), .tuple #[.agg (B b.dg).toArray, .int .i64 b.err], .agg (B b.dg).toArray, .int .i64 b.err, .int .i64 a.err, .bool true, .bool true, .int .i64 b.err, .bool true, .bool true, .bool true, pT ga 0, .int .i64 a.v, pT gb 0, .int .i64 b.v, .bool true, .bool true, .bool true, pT ga 1, .int .i64 a.h, pT gb 1, .int .i64 b.h, .bool false, .bool false, .bool false, ud, ud, ud, .bool false], []⟩ <| then_n <| u_ <| so_ (.bool false) ?_
          exact ⟨by unfold doubP; simp [c0, c1, c2, c3], K55⟩
      · have e2 := c2
        refine ppq (.bool false) (eqf ((a.v) : Int) ((b.v) : Int) (by omega)) <| pkq (.bool false) <| pkq (.bool false) <| pnq <| pnq <| pnq <| pnq <| pnq <| pkq (.bool false) <| pkq (.bool false) <| pnq <| pnq <| pnq <| pkq (.bool false) ?_
        refine pkq (.bool false) <| ps_end <| sy_a ⟨#[.agg (Pro.c a), .agg (Pro.c b), pT ga 0, pT gb 0, .bool false, pT gx 0, .int .i64 a.err, pT gy 0, .int .i64 b.err, .tuple #[.agg (B a.dg).toArray, .int .i64 a.err], .agg (Pro.c a), .tuple #[.agg (B a.dg).toArray, .int .i64 a.err], .agg (B a.dg).toArray, .int .i64 a.err, .tuple #[.agg (B b.dg).toArray, .int .i64 b.err], .agg (Pro.c b), .tuple #[.agg (B b.dg).toArray, .int .i64 b.err], .agg (B b.dg).toArray, .int .i64 b.err, .int .i64 a.err, .bool true, .bool true, .int .i64 b.err, .bool true, .bool true, .bool true, pT ga 0, .int .i64 a.v, pT gb 0, .int .i64 b.v, .bool false, .bool false, .bool false, ud, ud, ud, ud, ud, .bool false, .bool false, ud, ud, ud, .bool false], []⟩ <| then_n <| u_ <| so_ (.bool false) ?_
        exact ⟨by unfold doubP; simp [c0, c1, c2], K55⟩
    · have e1 := Pro.err_no c1
      refine ppq (.bool false) (eqf ((b.err) : Int) ((0) : Int) (by omega)) <| pkq (.bool false) <| pkq (.bool false) <| pnq <| pnq <| pnq <| pnq <| pnq <| pkq (.bool false) <| pkq (.bool false) <| pnq <| pnq <| pnq <| pnq ?_
      refine pnq <| pkq (.bool false) <| pkq (.bool false) <| pnq <| pnq <| pnq <| pkq (.bool false) <| pkq (.bool false) <| ps_end <| sy_a ⟨#[.agg (Pro.c a), .agg (Pro.c b), pT ga 0, pT gb 0, .bool false, pT gx 0, .int .i64 a.err, pT gy 0, .int .i64 b.err, .tuple #[.agg (B a.dg).toArray, .int .i64 a.err], .agg (Pro.c a), .tuple #[.agg (B a.dg).toArray, .int .i64 a.err], .agg (B a.dg).toArray, .int .i64 a.err, .tuple #[.agg (B b.dg).toArray, .int .i64 b.err], .agg (Pro.c b), .tuple #[.agg (B b.dg).toArray, .int .i64 b.err], .agg (B b.dg).toArray, .int .i64 b.err, .int .i64 a.err, .bool true, .bool true, .int .i64 b.err, .bool false, .bool false, .bool false, ud, ud, ud, ud, ud, .bool false, .bool false, ud, ud, ud, ud, ud, .bool false, .bool false, ud, ud, ud, .bool false], []⟩ <| then_n <| u_ <| so_ (.bool false) ?_
      exact ⟨by unfold doubP; simp [c0, c1], K55⟩
  · have e0 := Pro.err_no c0
    refine ppq (.bool false) (eqf ((a.err) : Int) ((0) : Int) (by omega)) <| pkq (.bool false) <| pnq <| pnq <| pkq (.bool false) <| pkq (.bool false) <| pnq <| pnq <| pnq <| pnq <| pnq <| pkq (.bool false) <| pkq (.bool false) <| pnq ?_
    refine pnq <| pnq <| pnq <| pnq <| pkq (.bool false) <| pkq (.bool false) <| pnq <| pnq <| pnq <| pkq (.bool false) <| pkq (.bool false) <| ps_end <| sy_a ⟨#[.agg (Pro.c a), .agg (Pro.c b), pT ga 0, pT gb 0, .bool false, pT gx 0, .int .i64 a.err, pT gy 0, .int .i64 b.err, .tuple #[.agg (B a.dg).toArray, .int .i64 a.err], .agg (Pro.c a), .tuple #[.agg (B a.dg).toArray, .int .i64 a.err], .agg (B a.dg).toArray, .int .i64 a.err, .tuple #[.agg (B b.dg).toArray, .int .i64 b.err], .agg (Pro.c b), .tuple #[.agg (B b.dg).toArray, .int .i64 b.err], .agg (B b.dg).toArray, .int .i64 b.err, .int .i64 a.err, .bool false, .bool false, ud, ud, .bool false, .bool false, ud, ud, ud, ud, ud, .bool false, .bool false, ud, ud, ud, ud, ud, .bool false, .bool false, ud, ud, ud, .bool false], []⟩ <| then_n ?_
    refine u_ <| so_ (.bool false) ?_
    exact ⟨by unfold doubP; simp [c0], K55⟩
end Go.Proofs.YtcbfnflnokoacaaGreat
namespace Go.Proofs.YtcbfnflnokoacaaGreat
set_option maxRecDepth 100000
set_option maxHeartbeats 4000000
open Go Go.RowKit Go.Own Go.Shelf
def surr (a b : Att) : Bool := decide (a.fine ∧ b.fine ∧ a.v = b.v ∧ a.s < b.s ∧ a.t > b.t)
noncomputable def qc51_1 (n : Nat) : Code := partOf Tryz.f33 n
theorem vSurrounds_ok (a b : Att) (w : World) (ha : a.Ok) (hb : b.Ok) :
    Calls Tryz.prog 33 #[.agg (Att.c a), .agg (Att.c b)] w (fun e w' => e = .returned (.bool (surr a b)) ∧ Keeps Nob w w') := by
  have hr := ha.r
  have hs := hb.r
  have K0 : Keeps Nob w w := Keeps.refl _ _
  refine sy_enter (qc51_1 1) ⟨#[.agg (Att.c a), .agg (Att.c b), ud, ud, ud, ud, ud, ud, ud, ud, ud, ud, ud, ud, ud, ud, ud, ud, ud, ud, ud, ud, ud, ud, ud, ud, ud, ud, ud, ud, ud, ud, ud, ud], []⟩ Tryz.func33 (by kernel_rfl) (by kernel_rfl) <| qr_ [0, 1, 2] <| pbx 26 ((Att.c a)) (.agg (Att.c a)) fun V1 ga ega h2 kV1 => ?_
  have n3 : w.heap.size ≤ ga := ega ▸ K0.size
  have K4 := K0.nn kV1
  have z5 := kV1.size
  refine pbx 26 ((Att.c b)) (.agg (Att.c b)) fun V6 gb egb h7 kV6 => ?_
  have n8 : ga < gb := egb ▸ lt_of_block h2
  have n9 : w.heap.size ≤ gb := egb ▸ K4.size
  have h10 := kV6.bk h2
  have K11 := K4.nn kV6
  have z12 := kV6.size
  refine pkq (.bool false) <| eqr_ [0, 1, 2, 3, 4, 5, 6, 7, 8, 9, 10, 11, 12, 13, 14, 15, 16, 17, 18, 19, 20, 21, 22, 23, 24, 25, 26, 27, 28, 29] <| ppq (.agg (Att.c a)) (ldr 26 ga (h10) (by rw [Att.c_size _ hr]; kernel_rfl)) ?_
  refine pcq 66 #[.agg (Att.c a)] Tryz.func66 ((vCheck_ok a _ hr).mono ?_)
  rintro e V13 ⟨rfl, kV13⟩
  refine ⟨_, rfl, ?_⟩
  have h14 := kV13.bk h10
  have h15 := kV13.bk h7
  have K16 := K11.nn kV13
  have z17 := kV13.size
  by_cases c0 : a.fine
  · have e0 := Att.err_ok c0
    refine ppq (.bool true) (eqt ((a.err) : Int) ((0) : Int) (by omega)) <| pkq (.bool true) <| ppq (.agg (Att.c b)) (ldr 26 gb (h15) (by rw [Att.c_size _ hs]; kernel_rfl)) ?_
    refine pcq 66 #[.agg (Att.c b)] Tryz.func66 ((vCheck_ok b _ hs).mono ?_)
    rintro e V18 ⟨rfl, kV18⟩
    refine ⟨_, rfl, ?_⟩
    have h19 := kV18.bk h14
    have h20 := kV18.bk h15
    have K21 := K16.nn kV18
    have z22 := kV18.size
    by_cases c1 : b.fine
    · have e1 := Att.err_ok c1
      refine ppq (.bool true) (eqt ((b.err) : Int) ((0) : Int) (by omega)) <| pkq (.bool true) <| pkq (.bool true) <| pkq (pT ga 0) <| ppq (.int .i64 a.v) (ldc 3 ga 0 (rc (h19) (Att.c_0 _))) <| pkq (pT gb 0) <| ppq (.int .i64 b.v) (ldc 3 gb 0 (rc (h20) (Att.c_0 _))) ?_
      by_cases c2 : a.v = b.v
      · have e2 := c2
        refine ppq (.bool true) (eqt ((a.v) : Int) ((b.v) : Int) (by omega)) <| pkq (.bool true) <| pkq (.bool true) <| pkq (pT ga 1) <| ppq (.int .i64 a.s) (ldc 3 ga 1 (rc (h19) (Att.c_1 _))) <| pkq (pT gb 1) <| ppq (.int .i64 b.s) (ldc 3 gb 1 (rc (h20) (Att.c_1 _))) ?_
        by_cases c3 : a.s < b.s
        · have e3 := c3
          refine ppq (.bool true) (dct (((a.s) : Int) < ((b.s) : Int)) (by omega)) <| pkq (.bool true) <| pkq (.bool true) <| pkq (pT ga 2) <| ppq (.int .i64 a.t) (ldc 3 ga 2 (rc (h19) (Att.c_2 _))) <| pkq (pT gb 2) <| ppq (.int .i64 b.t) (ldc 3 gb 2 (rc (h20) (Att.c_2 _))) ?_
          by_cases c4 : b.t < a.t
          · have e4 := c4
            refine ppq (.bool true) (dct (((a.t) : Int) > ((b.t) : Int)) (by omega)) <| pkq (.bool true) <| pkq (.bool true) <| ps_end <| sy_a ⟨#[.agg (Att.c a), .agg (Att.c b), pT ga 0, pT gb 0, .bool true, .agg (Att.c a), .int .i64 a.err, .bool true, .bool true, .agg (Att.c b), .int .i64 b.err, .bool true, .bool true, .bool true, pT ga 0, .int .i64 a.v, pT gb 0, .int .i64 b.v, .bool true, .bool true, .bool true, pT ga 1, .int .i64 a.s, pT gb 1, .int .i64 b.s, .bool true, .bool true, .bool true, pT ga 2, .int .i64 a.t, pT gb 2, .int .i64 b.t, .bool true, .bool true], []⟩ <| then_n <| u_ <| so_ (.bool true) ?_
            exact ⟨by unfold surr; simp [c0, c1, c2, c3, c4], K21⟩
          · have e4 := c4
            refine ppq (.bool false) (dcf (((a.t) : Int) > ((b.t) : Int)) (by omega)) <| pkq (.bool false) <| pkq (.bool false) <| ps_end <| sy_a ⟨#[.agg (Att.c a), .agg (Att.c b), pT ga 0, pT gb 0, .bool false, .agg (Att.c a), .int .i64 a.err, .bool true, .bool true, .agg (Att.c b), .int .i64 b.err, .bool true, .bool true, .bool true, pT ga 0, .int .i64 a.v, pT gb 0, .int .i64 b.v, .bool true, .bool true, .bool true, pT ga 1, .int .i64 a.s, pT gb 1, .int .i64 b.s, .bool true, .bool true, .bool true, pT ga 2, .int .i64 a.t, pT gb 2, .int .i64 b.t, .bool false, .bool false], []⟩ <| then_n <| u_ <| so_ (.bool false) ?_
            exact ⟨by unfold surr; simp [c0, c1, c2, c3, c4], K21⟩
        · have e3 := c3
          refine ppq (.bool false) (dcf (((a.s) : Int) < ((b.s) : Int)) (by omega)) <| pkq (.bool false) <| pkq (.bool false) <| pnq <| pnq <| pnq <| pnq <| pnq <| pkq (.bool false) <| pkq (.bool false) <| ps_end <| sy_a ⟨#[.agg (Att.c a), .agg (Att.c b), pT ga 0, pT gb 0, .bool false, .agg (Att.c a), .int .i64 a.err, .bool true, .bool true, .agg (Att.c b), .int .i64 b.err, .bool true, .bool true, .bool true, pT ga 0, .int .i64 a.v, pT gb 0, .int .i64 b.v, .bool true, .bool true, .bool true, pT ga 1, .int .i64 a.s, pT gb 1, .int .i64 b.s, .bool false, .bool false, .bool false, ud, ud, ud, ud, ud, .bool false], []⟩ <| then_n <| u_ ?_
          refine so_ (.bool false) ?_
          exact ⟨by unfold surr; simp [c0, c1, c2, c3], K21⟩
      · have e2 := c2
        refine ppq (.bool false) (eqf ((a.v) : Int) ((b.v) : Int) (by omega)) <| pkq (.bool false) <| pkq (.bool false) <| pnq <| pnq <| pnq <| pnq <| pnq <| pkq (.bool false) <| pkq (.bool false) <| pnq <| pnq <| pnq <| pnq ?_
        refine pnq <| pkq (.bool false) <| pkq (.bool false) <| ps_end <| sy_a ⟨#[.agg (Att.c a), .agg (Att.c b), pT ga 0, pT gb 0, .bool false, .agg (Att.c a), .int .i64 a.err, .bool true, .bool true, .agg (Att.c b), .int .i64 b.err, .bool true, .bool true, .bool true, pT ga 0, .int .i64 a.v, pT gb 0, .int .i64 b.v, .bool false, .bool false, .bool false, ud, ud, ud, ud, ud, .bool false, .bool false, ud, ud, ud, ud, ud, .bool false], []⟩ <| then_n <| u_ <| so_ (.bool false) ?_
        exact ⟨by unfold surr; simp [c0, c1, c2], K21⟩
    · have e1 := Att.err_no c1
      refine ppq (.bool false) (eqf ((b.err) : Int) ((0) : Int) (by omega)) <| pkq (.bool false) <| pkq (.bool false) <| pnq <| pnq <| pnq <| pnq <| pnq <| pkq (.bool false) <| pkq (.bool false) <| pnq <| pnq <| pnq <| pnq ?_
      refine pnq <| pkq (.bool false) <| pkq (.bool false) <| pnq <| pnq <| pnq <| pnq <| pnq <| pkq (.bool false) <| pkq (.bool false) <| ps_end <| sy_a ⟨#[.agg (Att.c a), .agg (Att.c b), pT ga 0, pT gb 0, .bool false, .agg (Att.c a), .int .i64 a.err, .bool true, .bool true, .agg (Att.c b), .int .i64 b.err, .bool false, .bool false, .bool false, ud, ud, ud, ud, ud, .bool false, .bool false, ud, ud, ud, ud, ud, .bool false, .bool false, ud, ud, ud, ud, ud, .bool false], []⟩ <| then_n <| u_ ?_
      refine so_ (.bool false) ?_
      exact ⟨by unfold surr; simp [c0, c1], K21⟩
  · have e0 := Att.err_no c0
    refine ppq (.bool false) (eqf ((a.err) : Int) ((0) : Int) (by omega)) <| pkq (.bool false) <| pnq <| pnq <| pnq <| pkq (.bool false) <| pkq (.bool false) <| pnq <| pnq <| pnq <| pnq <| pnq <| pkq (.bool false) <| pkq (.bool false) ?_
    refine pnq <| pnq <| pnq <| pnq <| pnq <| pkq (.bool false) <| pkq (.bool false) <| pnq <| pnq <| pnq <| pnq <| pnq <| pkq (.bool false) <| pkq (.bool false) ?_
    refine ps_end <| sy_a ⟨#[.agg (Att.c a), .agg (Att.c b), pT ga 0, pT gb 0, .bool false, .agg (Att.c a), .int .i64 a.err, .bool false, .bool false, ud, ud, ud, .bool false, .bool false, ud, ud, ud, ud, ud, .bool false, .bool false, ud, ud, ud, ud, ud, .bool false, .bool false, ud, ud, ud, ud, ud, .bool false], []⟩ <| then_n <| u_ <| so_ (.bool false) ?_
    exact ⟨by unfold surr; simp [c0], K16⟩
noncomputable def qc51_0 (n : Nat) : Code := partOf Tryz.f46 n
theorem rvSurrounds_ok (a b : Att) (w : World) (ha : a.Ok) (hb : b.Ok) :
    Calls Tryz.prog 46 #[.agg (Att.c a), .agg (Att.c b)] w (fun e w' => e = .returned (.bool (surr a b)) ∧ Keeps Nob w w') := by
  have hr := ha.r
  have hs := hb.r
  have K0 : Keeps Nob w w := Keeps.refl _ _
  refine sy_enter (qc51_0 1) ⟨#[.agg (Att.c a), .agg (Att.c b), ud, ud, ud, ud, ud, ud, ud, ud, ud, ud, ud, ud, ud, ud, ud, ud, ud, ud, ud, ud, ud, ud, ud, ud, ud, ud, ud, ud, ud, ud, ud, ud], []⟩ Tryz.func46 (by kernel_rfl) (by kernel_rfl) <| qr_ [0, 1, 2] <| pbx 26 ((Att.c a)) (.agg (Att.c a)) fun V1 ga ega h2 kV1 => ?_
  have n3 : w.heap.size ≤ ga := ega ▸ K0.size
  have K4 := K0.nn kV1
  have z5 := kV1.size
  refine pbx 26 ((Att.c b)) (.agg (Att.c b)) fun V6 gb egb h7 kV6 => ?_
  have n8 : ga < gb := egb ▸ lt_of_block h2
  have n9 : w.heap.size ≤ gb := egb ▸ K4.size
  have h10 := kV6.bk h2
  have K11 := K4.nn kV6
  have z12 := kV6.size
  refine pkq (.bool false) <| eqr_ [0, 1, 2, 3, 4, 5, 6, 7, 8, 9, 10, 11, 12, 13, 14, 15, 16, 17, 18, 19, 20, 21, 22, 23, 24, 25, 26, 27, 28, 29] <| ppq (.agg (Att.c a)) (ldr 26 ga (h10) (by rw [Att.c_size _ hr]; kernel_rfl)) ?_
  refine pcq 77 #[.agg (Att.c a)] Tryz.func77 ((rvCheck_ok a _ hr).mono ?_)
  rintro e V13 ⟨rfl, kV13⟩
  refine ⟨_, rfl, ?_⟩
  have h14 := kV13.bk h10
  have h15 := kV13.bk h7
  have K16 := K11.nn kV13
  have z17 := kV13.size
  by_cases c0 : a.fine
  · have e0 := Att.err_ok c0
    refine ppq (.bool true) (eqt ((a.err) : Int) ((0) : Int) (by omega)) <| pkq (.bool true) <| ppq (.agg (Att.c b)) (ldr 26 gb (h15) (by rw [Att.c_size _ hs]; kernel_rfl)) ?_
    refine pcq 77 #[.agg (Att.c b)] Tryz.func77 ((rvCheck_ok b _ hs).mono ?_)
    rintro e V18 ⟨rfl, kV18⟩
    refine ⟨_, rfl, ?_⟩
    have h19 := kV18.bk h14
    have h20 := kV18.bk h15
    have K21 := K16.nn kV18
    have z22 := kV18.size
    by_cases c1 : b.fine
    · have e1 := Att.err_ok c1
      refine ppq (.bool true) (eqt ((b.err) : Int) ((0) : Int) (by omega)) <| pkq (.bool true) <| pkq (.bool true) <| pkq (pT ga 0) <| ppq (.int .i64 a.v) (ldc 3 ga 0 (rc (h19) (Att.c_0 _))) <| pkq (pT gb 0) <| ppq (.int .i64 b.v) (ldc 3 gb 0 (rc (h20) (Att.c_0 _))) ?_
      by_cases c2 : a.v = b.v
      · have e2 := c2
        refine ppq (.bool true) (eqt ((a.v) : Int) ((b.v) : Int) (by omega)) <| pkq (.bool true) <| pkq (.bool true) <| pkq (pT ga 1) <| ppq (.int .i64 a.s) (ldc 3 ga 1 (rc (h19) (Att.c_1 _))) <| pkq (pT gb 1) <| ppq (.int .i64 b.s) (ldc 3 gb 1 (rc (h20) (Att.c_1 _))) ?_
        by_cases c3 : a.s < b.s
        · have e3 := c3
          refine ppq (.bool true) (dct (((a.s) : Int) < ((b.s) : Int)) (by omega)) <| pkq (.bool true) <| pkq (.bool true) <| pkq (pT ga 2) <| ppq (.int .i64 a.t) (ldc 3 ga 2 (rc (h19) (Att.c_2 _))) <| pkq (pT gb 2) <| ppq (.int .i64 b.t) (ldc 3 gb 2 (rc (h20) (Att.c_2 _))) ?_
          by_cases c4 : b.t < a.t
          · have e4 := c4
            refine ppq (.bool true) (dct (((a.t) : Int) > ((b.t) : Int)) (by omega)) <| pkq (.bool true) <| pkq (.bool true) <| ps_end <| sy_a ⟨#[.agg (Att.c a), .agg (Att.c b), pT ga 0, pT gb 0, .bool true, .agg (Att.c a), .int .i64 a.err, .bool true, .bool true, .agg (Att.c b), .int .i64 b.err, .bool true, .bool true, .bool true, pT ga 0, .int .i64 a.v, pT gb 0, .int .i64 b.v, .bool true, .bool true, .bool true, pT ga 1, .int .i64 a.s, pT gb 1, .int .i64 b.s, .bool true, .bool true, .bool true, pT ga 2, .int .i64 a.t, pT gb 2, .int .i64 b.t, .bool true, .bool true], []⟩ <| then_n <| u_ <| so_ (.bool true) ?_
            exact ⟨by unfold surr; simp [c0, c1, c2, c3, c4], K21⟩
          · have e4 := c4
            refine ppq (.bool false) (dcf (((a.t) : Int) > ((b.t) : Int)) (by omega)) <| pkq (.bool false) <| pkq (.bool false) <| ps_end <| sy_a ⟨#[.agg (Att.c a), .agg (Att.c b), pT ga 0, pT gb 0, .bool false, .agg (Att.c a), .int .i64 a.err, .bool true, .bool true, .agg (Att.c b), .int .i64 b.err, .bool true, .bool true, .bool true, pT ga 0, .int .i64 a.v, pT gb 0, .int .i64 b.v, .bool true, .bool true, .bool true, pT ga 1, .int .i64 a.s, pT gb 1, .int .i64 b.s, .bool true, .bool true, .bool true, pT ga 2, .int .i64 a.t, pT gb 2, .int .i64 b.t, .bool false, .bool false], []⟩ <| then_n <| u_ <| so_ (.bool false) ?_
            exact ⟨by unfold surr; simp [c0, c1, c2, c3, c4], K21⟩
        · have e3 := c3
          refine ppq (.bool false) (dcf (((a.s) : Int) < ((b.s) : Int)) (by omega)) <| pkq (.bool false) <| pkq (.bool false) <| pnq <| pnq <| pnq <| pnq <| pnq <| pkq (.bool false) <| pkq (.bool false) <| ps_end <| sy_a ⟨#[.agg (Att.c a), .agg (Att.c b), pT ga 0, pT gb 0, .bool false, .agg (Att.c a), .int .i64 a.err, .bool true, .bool true, .agg (Att.c b), .int .i64 b.err, .bool true, .bool true, .bool true, pT ga 0, .int .i64 a.v, pT gb 0, .int .i64 b.v, .bool true, .bool true, .bool true, pT ga 1, .int .i64 a.s, pT gb 1, .int .i64 b.s, .bool false, .bool false, .bool false, ud, ud, ud, ud, ud, .bool false], []⟩ <| then_n <| u_ ?_
          refine so_ (.bool false) ?_
          exact ⟨by unfold surr; simp [c0, c1, c2, c3], K21⟩
      · have e2 := c2
        refine ppq (.bool false) (eqf ((a.v) : Int) ((b.v) : Int) (by omega)) <| pkq (.bool false) <| pkq (.bool false) <| pnq <| pnq <| pnq <| pnq <| pnq <| pkq (.bool false) <| pkq (.bool false) <| pnq <| pnq <| pnq <| pnq ?_
        refine pnq <| pkq (.bool false) <| pkq (.bool false) <| ps_end <| sy_a ⟨#[.agg (Att.c a), .agg (Att.c b), pT ga 0, pT gb 0, .bool false, .agg (Att.c a), .int .i64 a.err, .bool true, .bool true, .agg (Att.c b), .int .i64 b.err, .bool true, .bool true, .bool true, pT ga 0, .int .i64 a.v, pT gb 0, .int .i64 b.v, .bool false, .bool false, .bool false, ud, ud, ud, ud, ud, .bool false, .bool false, ud, ud, ud, ud, ud, .bool false], []⟩ <| then_n <| u_ <| so_ (.bool false) ?_
        exact ⟨by unfold surr; simp [c0, c1, c2], K21⟩
    · have e1 := Att.err_no c1
      refine ppq (.bool false) (eqf ((b.err) : Int) ((0) : Int) (by omega)) <| pkq (.bool false) <| pkq (.bool false) <| pnq <| pnq <| pnq <| pnq <| pnq <| pkq (.bool false) <| pkq (.bool false) <| pnq <| pnq <| pnq <| pnq ?_
      refine pnq <| pkq (.bool false) <| pkq (.bool false) <| pnq <| pnq <| pnq <| pnq <| pnq <| pkq (.bool false) <| pkq (.bool false) <| ps_end <| sy_a ⟨#[.agg (Att.c a), .agg (Att.c b), pT ga 0, pT gb 0, .bool false, .agg (Att.c a), .int .i64 a.err, .bool true, .bool true, .agg (Att.c b), .int .i64 b.err, .bool false, .bool false, .bool false, ud, ud, ud, ud, ud, .bool false, .bool false, ud, ud, ud, ud, ud, .bool false, .bool false, ud, ud, ud, ud, ud, .bool false], []⟩ <| then_n <| u_ ?_
      refine so_ (.bool false) ?_
      exact ⟨by unfold surr; simp [c0, c1], K21⟩
  · have e0 := Att.err_no c0
    refine ppq (.bool false) (eqf ((a.err) : Int) ((0) : Int) (by omega)) <| pkq (.bool false) <| pnq <| pnq <| pnq <| pkq (.bool false) <| pkq (.bool false) <| pnq <| pnq <| pnq <| pnq <| pnq <| pkq (.bool false) <| pkq (.bool false) ?_
    refine pnq <| pnq <| pnq <| pnq <| pnq <| pkq (.bool false) <| pkq (.bool false) <| pnq <| pnq <| pnq <| pnq <| pnq <| pkq (.bool false) <| pkq (.bool false) ?_
    refine ps_end <| sy_a ⟨#[.agg (Att.c a), .agg (Att.c b), pT ga 0, pT gb 0, .bool false, .agg (Att.c a), .int .i64 a.err, .bool false, .bool false, ud, ud, ud, .bool false, .bool false, ud, ud, ud, ud, ud, .bool false, .bool false, ud, ud, ud, ud, ud, .bool false, .bool false, ud, ud, ud, ud, ud, .bool false], []⟩ <| then_n <| u_ <| so_ (.bool false) ?_
    exact ⟨by unfold surr; simp [c0], K16⟩
end Go.Proofs.YtcbfnflnokoacaaGreat
namespace Go.Proofs.YtcbfnflnokoacaaGreat
set_option maxRecDepth 100000
set_option maxHeartbeats 4000000
open Go Go.RowKit Go.Own Go.Shelf
/-- A field as it is made: name, bounds, reader, setter, and the box that both hold. -/
def fieldV (nm : Value) (lo hi : Int) (f g : Nat) (k : Nat) : Value :=
  .agg #[nm, .int .u64 lo, .int .u64 hi, .func (.func f) #[] #[.pointer (some ⟨k, 0, none⟩)], .func (.func g) #[] #[.pointer (some ⟨k, 0, none⟩)]]
theorem mf_run : ∀ (fn : Fn) (first cap : Array Value) (w : World), (Instr.makeFunc fn first cap).run Tryz.prog w = .ok (.func fn first cap) w := fun _ _ _ _ => rfl
theorem field_info : (Tryz.prog.info? 91).map (·.size) = some 5 := by kernel_rfl
theorem of_ok (nm : ByteArray) (lo hi : Int) (q : Addr) (w : World) :
    Calls Tryz.prog 89 #[.string nm, .int .u64 lo, .int .u64 hi, .pointer (some q)] w fun e w' => e = .returned (fieldV (.string nm) lo hi 111 112 w.heap.size) ∧ w'.cell? ⟨w.heap.size, 0, none⟩ = some (.pointer (some q)) ∧ w.heap.size < w'.heap.size ∧ Keeps Nob w w' := by
  have hmf := mf_run
  go_enter Tryz.func89, Tryz.ntmps89
  go_wp2_with (refine wpList_store_row rfl 91 _ _ rfl (w.heap.size + 1) #[.string nm, .int .u64 lo, .int .u64 hi, .func (.func 111) #[] #[.pointer (some ⟨w.heap.size, 0, none⟩)], .func (.func 112) #[] #[.pointer (some ⟨w.heap.size, 0, none⟩)]] rfl rfl 91 #[.string ⟨#[]⟩, .int .u64 0, .int .u64 0, .nilFunc, .nilFunc] (by rw [show w.heap.size + 1 = (w.alloc (.cells #[.pointer (some q)] 126)).heap.size by simp]; exact World.alloc_heap_new _ _) field_info rfl (by simp [Value.oneCell']) ?_)
  have k1 : Keeps Nob w (w.alloc (.cells #[.pointer (some q)] 126)) := (Keeps.refl _ _).alloc _
  have c1 : (w.alloc (.cells #[.pointer (some q)] 126)).cell? ⟨w.heap.size, 0, none⟩ = some (.pointer (some q)) := (World.cell?_alloc_at _ _ _ _ rfl).trans rfl
  have s1 : (w.alloc (.cells #[.pointer (some q)] 126)).heap.size = w.heap.size + 1 := by simp
  (try simp only [Exit.inBlock, Exit.then])
  refine bodyPost_ret (v := .agg #[.string nm, .int .u64 lo, .int .u64 hi, .func (.func 111) #[] #[.pointer (some ⟨w.heap.size, 0, none⟩)], .func (.func 112) #[] #[.pointer (some ⟨w.heap.size, 0, none⟩)]]) ?_ rfl ?_
  · exact results_cell_row rfl _ _ (w.heap.size + 1) 91 #[.string nm, .int .u64 lo, .int .u64 hi, .func (.func 111) #[] #[.pointer (some ⟨w.heap.size, 0, none⟩)], .func (.func 112) #[] #[.pointer (some ⟨w.heap.size, 0, none⟩)]] (0, 0) _ rfl (setRow_heap _ _ #[.string ⟨#[]⟩, .int .u64 0, .int .u64 0, .nilFunc, .nilFunc] _ _ _ (by rw [show w.heap.size + 1 = (w.alloc (.cells #[.pointer (some q)] 126)).heap.size by simp]; exact World.alloc_heap_new _ _)) Tryz.underlying91 rfl field_info
  have k2 : ∀ o cs, Keeps Nob (w.alloc (.cells #[.pointer (some q)] 126)) (((w.alloc (.cells #[.pointer (some q)] 126)).alloc o).setRow (w.heap.size + 1) cs) := fun o cs => ((Keeps.refl _ _).alloc _).setRow (fun x => absurd x (by omega)) cs
  exact ⟨rfl, ((k2 _ _).cell (by omega) (fun x => x)).trans c1, Nat.lt_of_lt_of_le (by omega) (k2 _ _).size, k1.trans (k2 _ _)⟩
theorem word_ok (nm : ByteArray) (hi : Int) (q : Addr) (w : World) :
    Calls Tryz.prog 90 #[.string nm, .int .u64 hi, .pointer (some q)] w fun e w' => e = .returned (fieldV (.string nm) 0 hi 113 114 w.heap.size) ∧ w'.cell? ⟨w.heap.size, 0, none⟩ = some (.pointer (some q)) ∧ w.heap.size < w'.heap.size ∧ Keeps Nob w w' := by
  have hmf := mf_run
  go_enter Tryz.func90, Tryz.ntmps90
  go_wp2_with (refine wpList_store_row rfl 91 _ _ rfl (w.heap.size + 1) #[.string nm, .int .u64 0, .int .u64 hi, .func (.func 113) #[] #[.pointer (some ⟨w.heap.size, 0, none⟩)], .func (.func 114) #[] #[.pointer (some ⟨w.heap.size, 0, none⟩)]] rfl rfl 91 #[.string ⟨#[]⟩, .int .u64 0, .int .u64 0, .nilFunc, .nilFunc] (by rw [show w.heap.size + 1 = (w.alloc (.cells #[.pointer (some q)] 128)).heap.size by simp]; exact World.alloc_heap_new _ _) field_info rfl (by simp [Value.oneCell']) ?_)
  have k1 : Keeps Nob w (w.alloc (.cells #[.pointer (some q)] 128)) := (Keeps.refl _ _).alloc _
  have c1 : (w.alloc (.cells #[.pointer (some q)] 128)).cell? ⟨w.heap.size, 0, none⟩ = some (.pointer (some q)) := (World.cell?_alloc_at _ _ _ _ rfl).trans rfl
  have s1 : (w.alloc (.cells #[.pointer (some q)] 128)).heap.size = w.heap.size + 1 := by simp
  (try simp only [Exit.inBlock, Exit.then])
  refine bodyPost_ret (v := .agg #[.string nm, .int .u64 0, .int .u64 hi, .func (.func 113) #[] #[.pointer (some ⟨w.heap.size, 0, none⟩)], .func (.func 114) #[] #[.pointer (some ⟨w.heap.size, 0, none⟩)]]) ?_ rfl ?_
  · exact results_cell_row rfl _ _ (w.heap.size + 1) 91 #[.string nm, .int .u64 0, .int .u64 hi, .func (.func 113) #[] #[.pointer (some ⟨w.heap.size, 0, none⟩)], .func (.func 114) #[] #[.pointer (some ⟨w.heap.size, 0, none⟩)]] (0, 0) _ rfl (setRow_heap _ _ #[.string ⟨#[]⟩, .int .u64 0, .int .u64 0, .nilFunc, .nilFunc] _ _ _ (by rw [show w.heap.size + 1 = (w.alloc (.cells #[.pointer (some q)] 128)).heap.size by simp]; exact World.alloc_heap_new _ _)) Tryz.underlying91 rfl field_info
  have k2 : ∀ o cs, Keeps Nob (w.alloc (.cells #[.pointer (some q)] 128)) (((w.alloc (.cells #[.pointer (some q)] 128)).alloc o).setRow (w.heap.size + 1) cs) := fun o cs => ((Keeps.refl _ _).alloc _).setRow (fun x => absurd x (by omega)) cs
  exact ⟨rfl, ((k2 _ _).cell (by omega) (fun x => x)).trans c1, Nat.lt_of_lt_of_le (by omega) (k2 _ _).size, k1.trans (k2 _ _)⟩
end Go.Proofs.YtcbfnflnokoacaaGreat
namespace Go.Proofs.YtcbfnflnokoacaaGreat
set_option maxRecDepth 100000
set_option maxHeartbeats 4000000
open Go Go.RowKit Go.Own Go.Shelf
theorem of1_ok (k : Nat) (q : Addr) (x : Int) (w : World) (h1 : w.cell? ⟨k, 0, none⟩ = some (.pointer (some q))) (h2 : w.cell? q = some (.int .i64 x)) (b1 : -9223372036854775808 ≤ x) (b2 : x ≤ 9223372036854775807) :
    Calls Tryz.prog 111 #[.pointer (some ⟨k, 0, none⟩)] w fun e w' => e = .returned (.tuple #[.int .u64 (max x 0), .bool (decide (0 ≤ x))]) ∧ Keeps Nob w w' := by
  by_cases hx : 0 ≤ x
  · have hm : max x 0 = x := by omega
    rw [hm]
    go_enter Tryz.func111, Tryz.ntmps111
    go_wp2
    go_region
    go_wp2
    all_goals (go_ret2; exact ⟨by simp [hx], (Keeps.refl _ _).drew⟩)
  · have hm : max x 0 = 0 := by omega
    rw [hm]
    have hd : decide (0 ≤ x) = false := by simpa using hx
    go_enter Tryz.func111, Tryz.ntmps111
    go_wp2
    go_region
    go_wp2
    all_goals (go_ret2; exact ⟨by simp [hd], (Keeps.refl _ _).drew⟩)
theorem word1_ok (k : Nat) (q : Addr) (x : Int) (w : World) (h1 : w.cell? ⟨k, 0, none⟩ = some (.pointer (some q))) (h2 : w.cell? q = some (.int .u64 x)) :
    Calls Tryz.prog 113 #[.pointer (some ⟨k, 0, none⟩)] w fun e w' => e = .returned (.tuple #[.int .u64 x, .bool true]) ∧ Keeps Nob w w' := by
  go_enter Tryz.func113, Tryz.ntmps113
  go_wp2
  go_ret2
  exact ⟨rfl, Keeps.refl _ _⟩
theorem within_ok (nm f g : Value) (lo hi n : Int) (w : World) :
    Calls Tryz.prog 65 #[.agg #[nm, .int .u64 lo, .int .u64 hi, f, g], .int .u64 n] w fun e w' => e = .returned (.bool (decide (lo ≤ n) && decide (n ≤ hi))) ∧ Keeps Nob w w' := by
  by_cases h1 : lo ≤ n
  · go_enter Tryz.func65, Tryz.ntmps65
    go_wp2
    go_ret
    exact ⟨by simp [h1], (Keeps.refl _ _).alloc _⟩
  · have h2 : decide (lo ≤ n) = false := by simpa using h1
    go_enter Tryz.func65, Tryz.ntmps65
    go_wp2
    go_ret
    exact ⟨by simp [h2], (Keeps.refl _ _).alloc _⟩
end Go.Proofs.YtcbfnflnokoacaaGreat
namespace Go.Proofs.YtcbfnflnokoacaaGreat
set_option maxRecDepth 100000
set_option maxHeartbeats 4000000
open Go Go.Own
noncomputable def opsFields : Array Oper := opsOf Tryz.f64 1
end Go.Proofs.YtcbfnflnokoacaaGreat
namespace Go.Proofs.YtcbfnflnokoacaaGreat
set_option maxRecDepth 100000
set_option maxHeartbeats 4000000
open Go Go.RowKit Go.Own Go.Shelf
/-- The names, bounds and functions of the fields. -/
def parName : List ByteArray := [⟨#[117, 110, 98, 111, 110, 100, 105, 110, 103]⟩, ⟨#[109, 97, 120, 97, 103, 101]⟩, ⟨#[101, 112, 111, 99, 104, 108, 101, 110]⟩, ⟨#[119, 105, 110, 100, 111, 119]⟩, ⟨#[101, 110, 116, 114, 105, 101, 115]⟩, ⟨#[109, 97, 120, 97, 99, 116, 105, 118, 101]⟩, ⟨#[106, 97, 105, 108, 116, 105, 109, 101]⟩, ⟨#[98, 97, 115, 101]⟩, ⟨#[109, 117, 108, 116]⟩, ⟨#[99, 111, 114, 114, 119, 105, 110, 100, 111, 119]⟩, ⟨#[114, 101, 119, 97, 114, 100]⟩]
def parLoU : List Int := [1, 0, 1, 1, 1, 1, 1, 0, 0, 1, 0]
def parHiU : List Int := [1048576, 1048576, 1000, 256, 16, 32, 1048576, 1000000000, 1000, 1048576, 1000000000]
def parGet : List Nat := [111, 111, 111, 111, 111, 111, 111, 113, 113, 111, 113]
def parSet : List Nat := [112, 112, 112, 112, 112, 112, 112, 114, 114, 112, 114]
def parField (i k : Nat) : Value := fieldV (.string (parName[i]?.getD ⟨#[]⟩)) (parLoU[i]?.getD 0) (parHiU[i]?.getD 0) (parGet[i]?.getD 0) (parSet[i]?.getD 0) k
/-- The fields of the record at block b lie at block g; field i's box is block ks i. -/
structure FieldsAt (w : World) (g b : Nat) (ks : Nat → Nat) : Prop where
  cell : ∀ i j : Nat, i < 11 → j < 5 → w.cell? ⟨g, i * 5 + j, none⟩ = (parField i (ks i)).cells[j]?
  box : ∀ i : Nat, i < 11 → w.cell? ⟨ks i, 0, none⟩ = some (.pointer (some ⟨b, i, none⟩))
/-- All cells of the fields. -/
def fieldCells (zs : List Nat) : Array Value := ((List.range 11).map fun i => (parField i (zs[i]?.getD 0)).cells.toList).flatten.toArray
theorem fieldCells_get (z0 z1 z2 z3 z4 z5 z6 z7 z8 z9 z10 : Nat) (i j : Nat) (hi : i < 11) (hj : j < 5) :
    (fieldCells [z0, z1, z2, z3, z4, z5, z6, z7, z8, z9, z10])[i * 5 + j]? = (parField i ([z0, z1, z2, z3, z4, z5, z6, z7, z8, z9, z10][i]?.getD 0)).cells[j]? := by
  have h : j = 0 ∨ j = 1 ∨ j = 2 ∨ j = 3 ∨ j = 4 := by omega
  have h' : i = 0 ∨ i = 1 ∨ i = 2 ∨ i = 3 ∨ i = 4 ∨ i = 5 ∨ i = 6 ∨ i = 7 ∨ i = 8 ∨ i = 9 ∨ i = 10 := by omega
  rcases h' with rfl | rfl | rfl | rfl | rfl | rfl | rfl | rfl | rfl | rfl | rfl <;> rcases h with rfl | rfl | rfl | rfl | rfl <;> rfl
theorem fields_sel : Region.noSelect opsFields = true := by kernel_rfl
theorem fields_size : opsFields.size = 46 := by kernel_rfl
theorem fields_pure (b : Nat) : pureRun Tryz.prog .any opsFields [0, 1, 2, 4, 5, 6, 8, 9, 10, 12, 13, 14, 16, 17, 18, 20, 21, 22, 24, 25, 26, 28, 29, 30, 32, 33, 34, 36, 37, 38, 40, 41, 42] (Array.replicate 46 false) ⟨#[.pointer (some ⟨b, 0, none⟩), ud, .slice none 0 0, ud, ud, ud, ud, ud, ud, ud, ud, ud, ud, ud, ud, ud, ud, ud, ud, ud, ud, ud, ud, ud, ud, ud, ud, ud, ud, ud, ud, ud, ud, ud, ud, ud, ud, ud, ud, ud, ud, ud, ud, ud, ud, ud, ud, ud], []⟩ = some (#[true, true, true, false, true, true, true, false, true, true, true, false, true, true, true, false, true, true, true, false, true, true, true, false, true, true, true, false, true, true, true, false, true, true, true, false, true, true, true, false, true, true, true, false, false, false], ⟨#[.pointer (some ⟨b, 0, none⟩), ud, .slice none 0 0, .pointer (some ⟨b, 0, none⟩), .pointer (some ⟨b, 0, none⟩), .pointer (some ⟨b, 0, none⟩), ud, .pointer (some ⟨b, 0, none⟩), .pointer (some ⟨b, 0, none⟩), .pointer (some ⟨b, 1, none⟩), ud, .pointer (some ⟨b, 0, none⟩), .pointer (some ⟨b, 0, none⟩), .pointer (some ⟨b, 2, none⟩), ud, .pointer (some ⟨b, 0, none⟩), .pointer (some ⟨b, 0, none⟩), .pointer (some ⟨b, 3, none⟩), ud, .pointer (some ⟨b, 0, none⟩), .pointer (some ⟨b, 0, none⟩), .pointer (some ⟨b, 4, none⟩), ud, .pointer (some ⟨b, 0, none⟩), .pointer (some ⟨b, 0, none⟩), .pointer (some ⟨b, 5, none⟩), ud, .pointer (some ⟨b, 0, none⟩), .pointer (some ⟨b, 0, none⟩), .pointer (some ⟨b, 6, none⟩), ud, .pointer (some ⟨b, 0, none⟩), .pointer (some ⟨b, 0, none⟩), .pointer (some ⟨b, 7, none⟩), ud, .pointer (some ⟨b, 0, none⟩), .pointer (some ⟨b, 0, none⟩), .pointer (some ⟨b, 8, none⟩), ud, .pointer (some ⟨b, 0, none⟩), .pointer (some ⟨b, 0, none⟩), .pointer (some ⟨b, 9, none⟩), ud, .pointer (some ⟨b, 0, none⟩), .pointer (some ⟨b, 0, none⟩), .pointer (some ⟨b, 10, none⟩), ud, ud], []⟩) := by kernel_rfl
theorem fields_fn0 : (opsFields.getD 3 default).op = .call { callee := .value (.func 89), args := callArgs (opsFields.getD 3 default), argTypes := callTypes (opsFields.getD 3 default) } := by kernel_rfl
theorem fields_fn1 : (opsFields.getD 7 default).op = .call { callee := .value (.func 89), args := callArgs (opsFields.getD 7 default), argTypes := callTypes (opsFields.getD 7 default) } := by kernel_rfl
theorem fields_fn2 : (opsFields.getD 11 default).op = .call { callee := .value (.func 89), args := callArgs (opsFields.getD 11 default), argTypes := callTypes (opsFields.getD 11 default) } := by kernel_rfl
theorem fields_fn3 : (opsFields.getD 15 default).op = .call { callee := .value (.func 89), args := callArgs (opsFields.getD 15 default), argTypes := callTypes (opsFields.getD 15 default) } := by kernel_rfl
theorem fields_fn4 : (opsFields.getD 19 default).op = .call { callee := .value (.func 89), args := callArgs (opsFields.getD 19 default), argTypes := callTypes (opsFields.getD 19 default) } := by kernel_rfl
theorem fields_fn5 : (opsFields.getD 23 default).op = .call { callee := .value (.func 89), args := callArgs (opsFields.getD 23 default), argTypes := callTypes (opsFields.getD 23 default) } := by kernel_rfl
theorem fields_fn6 : (opsFields.getD 27 default).op = .call { callee := .value (.func 89), args := callArgs (opsFields.getD 27 default), argTypes := callTypes (opsFields.getD 27 default) } := by kernel_rfl
theorem fields_fn7 : (opsFields.getD 31 default).op = .call { callee := .value (.func 90), args := callArgs (opsFields.getD 31 default), argTypes := callTypes (opsFields.getD 31 default) } := by kernel_rfl
theorem fields_fn8 : (opsFields.getD 35 default).op = .call { callee := .value (.func 90), args := callArgs (opsFields.getD 35 default), argTypes := callTypes (opsFields.getD 35 default) } := by kernel_rfl
theorem fields_fn9 : (opsFields.getD 39 default).op = .call { callee := .value (.func 89), args := callArgs (opsFields.getD 39 default), argTypes := callTypes (opsFields.getD 39 default) } := by kernel_rfl
theorem fields_fn10 : (opsFields.getD 43 default).op = .call { callee := .value (.func 90), args := callArgs (opsFields.getD 43 default), argTypes := callTypes (opsFields.getD 43 default) } := by kernel_rfl
theorem ent_of : ∀ args w, (callFunc 89 args).run Tryz.prog w = .ok (.enter 89 args) w := enters_of Tryz.func89 (by kernel_rfl) rfl
theorem ent_word : ∀ args w, (callFunc 90 args).run Tryz.prog w = .ok (.enter 90 args) w := enters_of Tryz.func90 (by kernel_rfl) rfl
theorem fields_ok (b : Nat) (w : World) :
    Calls Tryz.prog 64 #[.pointer (some ⟨b, 0, none⟩)] w fun e w' => ∃ g ks, e = .returned (.slice (some ⟨g, 0, none⟩) 11 11) ∧ FieldsAt w' g b ks ∧ g < w'.heap.size ∧ Keeps Nob w w' := by
  go_enter Tryz.func64, Tryz.ntmps64
  go_wp2_with fail
  refine wp_region_noPanic <| region_named (R := opsFields) (by kernel_rfl) <| wp_region_fuel 46 (Array.replicate 46 false) (by kernel_rfl) fields_size rfl <| wpAny_pure' fields_sel (fun _ _ _ _ _ h => h) [0, 1, 2, 4, 5, 6, 8, 9, 10, 12, 13, 14, 16, 17, 18, 20, 21, 22, 24, 25, 26, 28, 29, 30, 32, 33, 34, 36, 37, 38, 40, 41, 42] _ _ _ _ _ 13 46 rfl (fields_pure b) ?_
  refine wpAny_call' (i := 3) (opsFields.getD 3 default) 89 #[.string ⟨#[117, 110, 98, 111, 110, 100, 105, 110, 103]⟩, .int .u64 1, .int .u64 1048576, .pointer (some ⟨b, 0, none⟩)] (by kernel_rfl) (by kernel_rfl) (by kernel_rfl) fields_fn0 (by kernel_rfl) ent_of ((of_ok ⟨#[117, 110, 98, 111, 110, 100, 105, 110, 103]⟩ 1 1048576 ⟨b, 0, none⟩ _).mono ?_)
  rintro e W0 ⟨rfl, c0, s0, k0⟩
  refine ⟨_, rfl, ?_⟩
  obtain ⟨z0, hz0⟩ : ∃ z, z = w.drew.heap.size := ⟨_, rfl⟩
  rw [← hz0] at c0 s0 ⊢
  refine wpAny_call' (i := 7) (opsFields.getD 7 default) 89 #[.string ⟨#[109, 97, 120, 97, 103, 101]⟩, .int .u64 0, .int .u64 1048576, .pointer (some ⟨b, 1, none⟩)] (by kernel_rfl) (by kernel_rfl) (by kernel_rfl) fields_fn1 (by kernel_rfl) ent_of ((of_ok ⟨#[109, 97, 120, 97, 103, 101]⟩ 0 1048576 ⟨b, 1, none⟩ _).mono ?_)
  rintro e W1 ⟨rfl, c1, s1, k1⟩
  refine ⟨_, rfl, ?_⟩
  obtain ⟨z1, hz1⟩ : ∃ z, z = W0.heap.size := ⟨_, rfl⟩
  rw [← hz1] at c1 s1 ⊢
  refine wpAny_call' (i := 11) (opsFields.getD 11 default) 89 #[.string ⟨#[101, 112, 111, 99, 104, 108, 101, 110]⟩, .int .u64 1, .int .u64 1000, .pointer (some ⟨b, 2, none⟩)] (by kernel_rfl) (by kernel_rfl) (by kernel_rfl) fields_fn2 (by kernel_rfl) ent_of ((of_ok ⟨#[101, 112, 111, 99, 104, 108, 101, 110]⟩ 1 1000 ⟨b, 2, none⟩ _).mono ?_)
  rintro e W2 ⟨rfl, c2, s2, k2⟩
  refine ⟨_, rfl, ?_⟩
  obtain ⟨z2, hz2⟩ : ∃ z, z = W1.heap.size := ⟨_, rfl⟩
  rw [← hz2] at c2 s2 ⊢
  refine wpAny_call' (i := 15) (opsFields.getD 15 default) 89 #[.string ⟨#[119, 105, 110, 100, 111, 119]⟩, .int .u64 1, .int .u64 256, .pointer (some ⟨b, 3, none⟩)] (by kernel_rfl) (by kernel_rfl) (by kernel_rfl) fields_fn3 (by kernel_rfl) ent_of ((of_ok ⟨#[119, 105, 110, 100, 111, 119]⟩ 1 256 ⟨b, 3, none⟩ _).mono ?_)
  rintro e W3 ⟨rfl, c3, s3, k3⟩
  refine ⟨_, rfl, ?_⟩
  obtain ⟨z3, hz3⟩ : ∃ z, z = W2.heap.size := ⟨_, rfl⟩
  rw [← hz3] at c3 s3 ⊢
  refine wpAny_call' (i := 19) (opsFields.getD 19 default) 89 #[.string ⟨#[101, 110, 116, 114, 105, 101, 115]⟩, .int .u64 1, .int .u64 16, .pointer (some ⟨b, 4, none⟩)] (by kernel_rfl) (by kernel_rfl) (by kernel_rfl) fields_fn4 (by kernel_rfl) ent_of ((of_ok ⟨#[101, 110, 116, 114, 105, 101, 115]⟩ 1 16 ⟨b, 4, none⟩ _).mono ?_)
  rintro e W4 ⟨rfl, c4, s4, k4⟩
  refine ⟨_, rfl, ?_⟩
  obtain ⟨z4, hz4⟩ : ∃ z, z = W3.heap.size := ⟨_, rfl⟩
  rw [← hz4] at c4 s4 ⊢
  refine wpAny_call' (i := 23) (opsFields.getD 23 default) 89 #[.string ⟨#[109, 97, 120, 97, 99, 116, 105, 118, 101]⟩, .int .u64 1, .int .u64 32, .pointer (some ⟨b, 5, none⟩)] (by kernel_rfl) (by kernel_rfl) (by kernel_rfl) fields_fn5 (by kernel_rfl) ent_of ((of_ok ⟨#[109, 97, 120, 97, 99, 116, 105, 118, 101]⟩ 1 32 ⟨b, 5, none⟩ _).mono ?_)
  rintro e W5 ⟨rfl, c5, s5, k5⟩
  refine ⟨_, rfl, ?_⟩
  obtain ⟨z5, hz5⟩ : ∃ z, z = W4.heap.size := ⟨_, rfl⟩
  rw [← hz5] at c5 s5 ⊢
  refine wpAny_call' (i := 27) (opsFields.getD 27 default) 89 #[.string ⟨#[106, 97, 105, 108, 116, 105, 109, 101]⟩, .int .u64 1, .int .u64 1048576, .pointer (some ⟨b, 6, none⟩)] (by kernel_rfl) (by kernel_rfl) (by kernel_rfl) fields_fn6 (by kernel_rfl) ent_of ((of_ok ⟨#[106, 97, 105, 108, 116, 105, 109, 101]⟩ 1 1048576 ⟨b, 6, none⟩ _).mono ?_)
  rintro e W6 ⟨rfl, c6, s6, k6⟩
  refine ⟨_, rfl, ?_⟩
  obtain ⟨z6, hz6⟩ : ∃ z, z = W5.heap.size := ⟨_, rfl⟩
  rw [← hz6] at c6 s6 ⊢
  refine wpAny_call' (i := 31) (opsFields.getD 31 default) 90 #[.string ⟨#[98, 97, 115, 101]⟩, .int .u64 1000000000, .pointer (some ⟨b, 7, none⟩)] (by kernel_rfl) (by kernel_rfl) (by kernel_rfl) fields_fn7 (by kernel_rfl) ent_word ((word_ok ⟨#[98, 97, 115, 101]⟩ 1000000000 ⟨b, 7, none⟩ _).mono ?_)
  rintro e W7 ⟨rfl, c7, s7, k7⟩
  refine ⟨_, rfl, ?_⟩
  obtain ⟨z7, hz7⟩ : ∃ z, z = W6.heap.size := ⟨_, rfl⟩
  rw [← hz7] at c7 s7 ⊢
  refine wpAny_call' (i := 35) (opsFields.getD 35 default) 90 #[.string ⟨#[109, 117, 108, 116]⟩, .int .u64 1000, .pointer (some ⟨b, 8, none⟩)] (by kernel_rfl) (by kernel_rfl) (by kernel_rfl) fields_fn8 (by kernel_rfl) ent_word ((word_ok ⟨#[109, 117, 108, 116]⟩ 1000 ⟨b, 8, none⟩ _).mono ?_)
  rintro e W8 ⟨rfl, c8, s8, k8⟩
  refine ⟨_, rfl, ?_⟩
  obtain ⟨z8, hz8⟩ : ∃ z, z = W7.heap.size := ⟨_, rfl⟩
  rw [← hz8] at c8 s8 ⊢
  refine wpAny_call' (i := 39) (opsFields.getD 39 default) 89 #[.string ⟨#[99, 111, 114, 114, 119, 105, 110, 100, 111, 119]⟩, .int .u64 1, .int .u64 1048576, .pointer (some ⟨b, 9, none⟩)] (by kernel_rfl) (by kernel_rfl) (by kernel_rfl) fields_fn9 (by kernel_rfl) ent_of ((of_ok ⟨#[99, 111, 114, 114, 119, 105, 110, 100, 111, 119]⟩ 1 1048576 ⟨b, 9, none⟩ _).mono ?_)
  rintro e W9 ⟨rfl, c9, s9, k9⟩
  refine ⟨_, rfl, ?_⟩
  obtain ⟨z9, hz9⟩ : ∃ z, z = W8.heap.size := ⟨_, rfl⟩
  rw [← hz9] at c9 s9 ⊢
  refine wpAny_call' (i := 43) (opsFields.getD 43 default) 90 #[.string ⟨#[114, 101, 119, 97, 114, 100]⟩, .int .u64 1000000000, .pointer (some ⟨b, 10, none⟩)] (by kernel_rfl) (by kernel_rfl) (by kernel_rfl) fields_fn10 (by kernel_rfl) ent_word ((word_ok ⟨#[114, 101, 119, 97, 114, 100]⟩ 1000000000 ⟨b, 10, none⟩ _).mono ?_)
  rintro e W10 ⟨rfl, c10, s10, k10⟩
  refine ⟨_, rfl, ?_⟩
  obtain ⟨z10, hz10⟩ : ∃ z, z = W9.heap.size := ⟨_, rfl⟩
  rw [← hz10] at c10 s10 ⊢
  refine wpAny_run (i := 44) (opsFields.getD 44 default) (.slice (some ⟨W10.heap.size, 0, none⟩) 11 11) (w' := W10.alloc (.cells (fieldCells [z0, z1, z2, z3, z4, z5, z6, z7, z8, z9, z10]) 91)) (by kernel_rfl) (by kernel_rfl) (by kernel_rfl) (by kernel_rfl) <| wpAny_run (i := 45) (opsFields.getD 45 default) (.slice (some ⟨W10.heap.size, 0, none⟩) 11 11) (w' := W10.alloc (.cells (fieldCells [z0, z1, z2, z3, z4, z5, z6, z7, z8, z9, z10]) 91)) (by kernel_rfl) (by kernel_rfl) (by kernel_rfl) (by kernel_rfl) ?_
  refine wpAny_done (by kernel_rfl) ?_ _
  generalize hR : W10.alloc (.cells (fieldCells [z0, z1, z2, z3, z4, z5, z6, z7, z8, z9, z10]) 91) = V at *
  refine NoPanic.normal <| state_eq (b := ⟨#[.pointer (some ⟨b, 0, none⟩), ud, (.slice (some ⟨W10.heap.size, 0, none⟩) 11 11), .pointer (some ⟨b, 0, none⟩), .pointer (some ⟨b, 0, none⟩), .pointer (some ⟨b, 0, none⟩), fieldV (.string ⟨#[117, 110, 98, 111, 110, 100, 105, 110, 103]⟩) 1 1048576 111 112 z0, .pointer (some ⟨b, 0, none⟩), .pointer (some ⟨b, 0, none⟩), .pointer (some ⟨b, 1, none⟩), fieldV (.string ⟨#[109, 97, 120, 97, 103, 101]⟩) 0 1048576 111 112 z1, .pointer (some ⟨b, 0, none⟩), .pointer (some ⟨b, 0, none⟩), .pointer (some ⟨b, 2, none⟩), fieldV (.string ⟨#[101, 112, 111, 99, 104, 108, 101, 110]⟩) 1 1000 111 112 z2, .pointer (some ⟨b, 0, none⟩), .pointer (some ⟨b, 0, none⟩), .pointer (some ⟨b, 3, none⟩), fieldV (.string ⟨#[119, 105, 110, 100, 111, 119]⟩) 1 256 111 112 z3, .pointer (some ⟨b, 0, none⟩), .pointer (some ⟨b, 0, none⟩), .pointer (some ⟨b, 4, none⟩), fieldV (.string ⟨#[101, 110, 116, 114, 105, 101, 115]⟩) 1 16 111 112 z4, .pointer (some ⟨b, 0, none⟩), .pointer (some ⟨b, 0, none⟩), .pointer (some ⟨b, 5, none⟩), fieldV (.string ⟨#[109, 97, 120, 97, 99, 116, 105, 118, 101]⟩) 1 32 111 112 z5, .pointer (some ⟨b, 0, none⟩), .pointer (some ⟨b, 0, none⟩), .pointer (some ⟨b, 6, none⟩), fieldV (.string ⟨#[106, 97, 105, 108, 116, 105, 109, 101]⟩) 1 1048576 111 112 z6, .pointer (some ⟨b, 0, none⟩), .pointer (some ⟨b, 0, none⟩), .pointer (some ⟨b, 7, none⟩), fieldV (.string ⟨#[98, 97, 115, 101]⟩) 0 1000000000 113 114 z7, .pointer (some ⟨b, 0, none⟩), .pointer (some ⟨b, 0, none⟩), .pointer (some ⟨b, 8, none⟩), fieldV (.string ⟨#[109, 117, 108, 116]⟩) 0 1000 113 114 z8, .pointer (some ⟨b, 0, none⟩), .pointer (some ⟨b, 0, none⟩), .pointer (some ⟨b, 9, none⟩), fieldV (.string ⟨#[99, 111, 114, 114, 119, 105, 110, 100, 111, 119]⟩) 1 1048576 111 112 z9, .pointer (some ⟨b, 0, none⟩), .pointer (some ⟨b, 0, none⟩), .pointer (some ⟨b, 10, none⟩), fieldV (.string ⟨#[114, 101, 119, 97, 114, 100]⟩) 0 1000000000 113 114 z10, (.slice (some ⟨W10.heap.size, 0, none⟩) 11 11)], []⟩) (by kernel_rfl) ?_
  have hk : Keeps Nob W10 V := by rw [← hR]; exact (Keeps.refl _ _).alloc _
  have hcl : ∀ j, V.cell? ⟨W10.heap.size, j, none⟩ = (fieldCells [z0, z1, z2, z3, z4, z5, z6, z7, z8, z9, z10])[j]? := fun j => by rw [← hR]; exact World.cell?_alloc_at _ _ _ _ rfl
  have hsz : W10.heap.size < V.heap.size := by rw [← hR]; simp
  have q10 : Keeps Nob W10 V := hk
  have q9 : Keeps Nob W9 V := k10.trans q10
  have q8 : Keeps Nob W8 V := k9.trans q9
  have q7 : Keeps Nob W7 V := k8.trans q8
  have q6 : Keeps Nob W6 V := k7.trans q7
  have q5 : Keeps Nob W5 V := k6.trans q6
  have q4 : Keeps Nob W4 V := k5.trans q5
  have q3 : Keeps Nob W3 V := k4.trans q4
  have q2 : Keeps Nob W2 V := k3.trans q3
  have q1 : Keeps Nob W1 V := k2.trans q2
  have q0 : Keeps Nob W0 V := k1.trans q1
  have hall : Keeps Nob w V := ((Keeps.refl Nob w).drew.trans k0).trans q0
  have d0 := (q0.cell (i := 0) s0 (fun x => x)).trans c0
  have d1 := (q1.cell (i := 0) s1 (fun x => x)).trans c1
  have d2 := (q2.cell (i := 0) s2 (fun x => x)).trans c2
  have d3 := (q3.cell (i := 0) s3 (fun x => x)).trans c3
  have d4 := (q4.cell (i := 0) s4 (fun x => x)).trans c4
  have d5 := (q5.cell (i := 0) s5 (fun x => x)).trans c5
  have d6 := (q6.cell (i := 0) s6 (fun x => x)).trans c6
  have d7 := (q7.cell (i := 0) s7 (fun x => x)).trans c7
  have d8 := (q8.cell (i := 0) s8 (fun x => x)).trans c8
  have d9 := (q9.cell (i := 0) s9 (fun x => x)).trans c9
  have d10 := (q10.cell (i := 0) s10 (fun x => x)).trans c10
  have HF : Hid (FieldsAt V W10.heap.size b (fun i => [z0, z1, z2, z3, z4, z5, z6, z7, z8, z9, z10][i]?.getD 0)) := Lib.hid ⟨fun i j hi hj => (hcl _).trans (fieldCells_get _ _ _ _ _ _ _ _ _ _ _ i j hi hj), fun i hi => by
    have h' : i = 0 ∨ i = 1 ∨ i = 2 ∨ i = 3 ∨ i = 4 ∨ i = 5 ∨ i = 6 ∨ i = 7 ∨ i = 8 ∨ i = 9 ∨ i = 10 := by omega
    rcases h' with rfl | rfl | rfl | rfl | rfl | rfl | rfl | rfl | rfl | rfl | rfl <;> assumption⟩
  clear hcl c0 s0 k0 d0 q0 hz0 c1 s1 k1 d1 q1 hz1 c2 s2 k2 d2 q2 hz2 c3 s3 k3 d3 q3 hz3 c4 s4 k4 d4 q4 hz4 c5 s5 k5 d5 q5 hz5 c6 s6 k6 d6 q6 hz6 c7 s7 k7 d7 q7 hz7 c8 s8 k8 d8 q8 hz8 c9 s9 k9 d9 q9 hz9 c10 s10 k10 d10 q10 hz10 hR
  go_wp2
  go_ret
  exact ⟨_, _, rfl, HF.out, hsz, hall⟩
end Go.Proofs.YtcbfnflnokoacaaGreat
namespace Go.Proofs.YtcbfnflnokoacaaGreat
set_option maxRecDepth 100000
set_option maxHeartbeats 4000000
open Go Go.RowKit Go.Own Go.Shelf
/-- Eleven params. -/
structure Par where
  (unb mage elen win ent act jail base mult corr rew : Int)
def Par.cells (p : Par) : Array Value := #[.int .i64 p.unb, .int .i64 p.mage, .int .i64 p.elen, .int .i64 p.win, .int .i64 p.ent, .int .i64 p.act, .int .i64 p.jail, .int .u64 p.base, .int .u64 p.mult, .int .i64 p.corr, .int .u64 p.rew]
def Par.v (p : Par) : Value := .agg p.cells
def i64ok (x : Int) : Prop := -9223372036854775808 ≤ x ∧ x ≤ 9223372036854775807
def u64ok (x : Int) : Prop := 0 ≤ x ∧ x ≤ 18446744073709551615
structure Par.Ok (p : Par) : Prop where
  unb : i64ok p.unb
  mage : i64ok p.mage
  elen : i64ok p.elen
  win : i64ok p.win
  ent : i64ok p.ent
  act : i64ok p.act
  jail : i64ok p.jail
  base : u64ok p.base
  mult : u64ok p.mult
  corr : i64ok p.corr
  rew : u64ok p.rew
/-- Its numbers, bounds. -/
def Par.l (p : Par) : List Int := [p.unb, p.mage, p.elen, p.win, p.ent, p.act, p.jail, p.base, p.mult, p.corr, p.rew]
def parLo : List Int := [1, 0, 1, 1, 1, 1, 1, 0, 0, 1, 0]
def parHi : List Int := [1048576, 1048576, 1000, 256, 16, 32, 1048576, 1000000000, 1000, 1048576, 1000000000]
def Par.good (p : Par) (i : Nat) : Prop := parLo[i]?.getD 0 ≤ p.l[i]?.getD 0 ∧ p.l[i]?.getD 0 ≤ parHi[i]?.getD 0
instance (p : Par) (i : Nat) : Decidable (p.good i) := by unfold Par.good; infer_instance
/-- What Check tells. -/
def Par.check (p : Par) : Int × Int := match (List.range 11).find? (fun i => decide (¬ p.good i)) with | some i => (3, i) | none => if p.unb < p.mage then (9, 1) else (0, 0)
theorem Par.check_bad (p : Par) (i : Nat) (hi : i < 11) (h : ∀ j, j < i → p.good j) (hb : ¬ p.good i) : p.check = (3, (i : Int)) := by
  have : (List.range 11).find? (fun i => decide (¬ p.good i)) = some i := by
    rw [List.find?_range_eq_some]
    exact ⟨by simpa using hb, by simpa using hi, fun j hj => by simpa using h j hj⟩
  unfold Par.check; rw [this]
theorem Par.check_good (p : Par) (h : ∀ j, j < 11 → p.good j) : p.check = if p.unb < p.mage then (9, 1) else (0, 0) := by
  have : (List.range 11).find? (fun i => decide (¬ p.good i)) = none := by
    rw [List.find?_eq_none]
    intro j hj
    simpa using h j (by simpa using hj)
  unfold Par.check; rw [this]
/-- What the reference's numbers are: words are cut at 1 << 40. -/
def Par.r (p : Par) : List Int := [p.unb, p.mage, p.elen, p.win, p.ent, p.act, p.jail, min p.base 1099511627776, min p.mult 1099511627776, p.corr, min p.rew 1099511627776]
theorem Par.good_r (p : Par) (i : Nat) (hi : i < 11) : p.good i ↔ parLo[i]?.getD 0 ≤ p.r[i]?.getD 0 ∧ p.r[i]?.getD 0 ≤ parHi[i]?.getD 0 := by
  have h : i = 0 ∨ i = 1 ∨ i = 2 ∨ i = 3 ∨ i = 4 ∨ i = 5 ∨ i = 6 ∨ i = 7 ∨ i = 8 ∨ i = 9 ∨ i = 10 := by omega
  rcases h with rfl | rfl | rfl | rfl | rfl | rfl | rfl | rfl | rfl | rfl | rfl <;> simp [Par.good, Par.l, Par.r, parLo, parHi] <;> omega
theorem least_ok (w : World) : Calls Tryz.prog 105 #[] w fun e w' => ∃ cap, e = .returned (.slice (some ⟨w.heap.size, 0, none⟩) 11 cap) ∧ (∀ i : Nat, i < 11 → w'.cell? ⟨w.heap.size, i, none⟩ = some (.int .i64 (parLo[i]?.getD 0))) ∧ Keeps Nob w w' ∧ w.heap.size < w'.heap.size := by
  go_enter Tryz.func105, Tryz.ntmps105
  go_wp2
  go_ret
  refine ⟨_, rfl, fun i hi => ?_, (Keeps.refl _ _).alloc _, by simp⟩
  refine (World.cell?_alloc_at _ _ _ _ rfl).trans ?_
  have h : i = 0 ∨ i = 1 ∨ i = 2 ∨ i = 3 ∨ i = 4 ∨ i = 5 ∨ i = 6 ∨ i = 7 ∨ i = 8 ∨ i = 9 ∨ i = 10 := by omega
  rcases h with rfl | rfl | rfl | rfl | rfl | rfl | rfl | rfl | rfl | rfl | rfl <;> rfl
theorem most_ok (w : World) : Calls Tryz.prog 106 #[] w fun e w' => ∃ cap, e = .returned (.slice (some ⟨w.heap.size, 0, none⟩) 11 cap) ∧ (∀ i : Nat, i < 11 → w'.cell? ⟨w.heap.size, i, none⟩ = some (.int .i64 (parHi[i]?.getD 0))) ∧ Keeps Nob w w' ∧ w.heap.size < w'.heap.size := by
  go_enter Tryz.func106, Tryz.ntmps106
  go_wp2
  go_ret
  refine ⟨_, rfl, fun i hi => ?_, (Keeps.refl _ _).alloc _, by simp⟩
  refine (World.cell?_alloc_at _ _ _ _ rfl).trans ?_
  have h : i = 0 ∨ i = 1 ∨ i = 2 ∨ i = 3 ∨ i = 4 ∨ i = 5 ∨ i = 6 ∨ i = 7 ∨ i = 8 ∨ i = 9 ∨ i = 10 := by omega
  rcases h with rfl | rfl | rfl | rfl | rfl | rfl | rfl | rfl | rfl | rfl | rfl <;> rfl
end Go.Proofs.YtcbfnflnokoacaaGreat
namespace Go.Proofs.YtcbfnflnokoacaaGreat
set_option maxRecDepth 100000
set_option maxHeartbeats 4000000
set_option maxRecDepth 100000
open Go Go.RowKit Go.Own Go.Shelf
/-- A field's reader tells its number. -/
theorem get_ok (p : Par) (hp : p.Ok) (i b k : Nat) (hi : i < 11) (V : World) (hbox : V.cell? ⟨k, 0, none⟩ = some (.pointer (some ⟨b, i, none⟩))) (hc : ∀ x, p.cells[i]? = some x → V.cell? ⟨b, i, none⟩ = some x) :
    Calls Tryz.prog (parGet[i]?.getD 0) #[.pointer (some ⟨k, 0, none⟩)] V fun e w' => e = .returned (.tuple #[.int .u64 (max (p.l[i]?.getD 0) 0), .bool (decide (0 ≤ p.l[i]?.getD 0))]) ∧ Keeps Nob V w' := by
  have h' : i = 0 ∨ i = 1 ∨ i = 2 ∨ i = 3 ∨ i = 4 ∨ i = 5 ∨ i = 6 ∨ i = 7 ∨ i = 8 ∨ i = 9 ∨ i = 10 := by omega
  rcases h' with rfl | rfl | rfl | rfl | rfl | rfl | rfl | rfl | rfl | rfl | rfl
  · exact of1_ok k ⟨b, 0, none⟩ p.unb V hbox (hc _ rfl) hp.unb.1 hp.unb.2
  · exact of1_ok k ⟨b, 1, none⟩ p.mage V hbox (hc _ rfl) hp.mage.1 hp.mage.2
  · exact of1_ok k ⟨b, 2, none⟩ p.elen V hbox (hc _ rfl) hp.elen.1 hp.elen.2
  · exact of1_ok k ⟨b, 3, none⟩ p.win V hbox (hc _ rfl) hp.win.1 hp.win.2
  · exact of1_ok k ⟨b, 4, none⟩ p.ent V hbox (hc _ rfl) hp.ent.1 hp.ent.2
  · exact of1_ok k ⟨b, 5, none⟩ p.act V hbox (hc _ rfl) hp.act.1 hp.act.2
  · exact of1_ok k ⟨b, 6, none⟩ p.jail V hbox (hc _ rfl) hp.jail.1 hp.jail.2
  · have h0 := hp.base.1
    have := word1_ok k ⟨b, 7, none⟩ p.base V hbox (hc _ rfl)
    simpa [parGet, Par.l, h0, Int.max_eq_left h0] using this
  · have h0 := hp.mult.1
    have := word1_ok k ⟨b, 8, none⟩ p.mult V hbox (hc _ rfl)
    simpa [parGet, Par.l, h0, Int.max_eq_left h0] using this
  · exact of1_ok k ⟨b, 9, none⟩ p.corr V hbox (hc _ rfl) hp.corr.1 hp.corr.2
  · have h0 := hp.rew.1
    have := word1_ok k ⟨b, 10, none⟩ p.rew V hbox (hc _ rfl)
    simpa [parGet, Par.l, h0, Int.max_eq_left h0] using this
theorem get_enters (i : Nat) (hi : i < 11) : ∀ args w, (callFunc (parGet[i]?.getD 0) args).run Tryz.prog w = .ok (.enter (parGet[i]?.getD 0) args) w := by
  have h' : i = 0 ∨ i = 1 ∨ i = 2 ∨ i = 3 ∨ i = 4 ∨ i = 5 ∨ i = 6 ∨ i = 7 ∨ i = 8 ∨ i = 9 ∨ i = 10 := by omega
  have e1 : ∀ args w, (callFunc 111 args).run Tryz.prog w = .ok (.enter 111 args) w := enters_of Tryz.func111 (by kernel_rfl) rfl
  have e2 : ∀ args w, (callFunc 113 args).run Tryz.prog w = .ok (.enter 113 args) w := enters_of Tryz.func113 (by kernel_rfl) rfl
  rcases h' with rfl | rfl | rfl | rfl | rfl | rfl | rfl | rfl | rfl | rfl | rfl <;> first | exact e1 | exact e2
theorem good_iff (p : Par) (i : Nat) (hi : i < 11) : p.good i ↔ 0 ≤ p.l[i]?.getD 0 ∧ parLoU[i]?.getD 0 ≤ max (p.l[i]?.getD 0) 0 ∧ max (p.l[i]?.getD 0) 0 ≤ parHiU[i]?.getD 0 := by
  have h' : i = 0 ∨ i = 1 ∨ i = 2 ∨ i = 3 ∨ i = 4 ∨ i = 5 ∨ i = 6 ∨ i = 7 ∨ i = 8 ∨ i = 9 ∨ i = 10 := by omega
  rcases h' with rfl | rfl | rfl | rfl | rfl | rfl | rfl | rfl | rfl | rfl | rfl <;> simp [Par.good, Par.l, parLo, parHi, parLoU, parHiU] <;> omega
theorem pCheck_ok (p : Par) (hp : p.Ok) (w : World) :
    Calls Tryz.prog 31 #[p.v] w fun e w' => e = .returned (.tuple #[.int .i64 p.check.1, .int .i64 p.check.2]) ∧ Keeps Nob w w' := by
  obtain ⟨ce, hce⟩ : ∃ c, p.check = c := ⟨_, rfl⟩
  rw [hce]
  have HCE := Lib.hid hce; clear hce
  obtain ⟨cs, hcs⟩ : ∃ cs, p.cells = cs := ⟨_, rfl⟩
  have hv : p.v = .agg cs := by rw [← hcs]; rfl
  rw [hv]
  have hcz : cs.size = 11 := by rw [← hcs]; rfl
  have hc0 : cs[0]? = some (.int .i64 p.unb) := by rw [← hcs]; rfl
  have hc1 : cs[1]? = some (.int .i64 p.mage) := by rw [← hcs]; rfl
  have HCS := Lib.hid hcs
  clear hcs hv
  go_enter Tryz.func31, Tryz.ntmps31
  go_wp2_with (go_at_call 64; refine (fields_ok _ _).mono ?_; rintro e V ⟨g, ks, rfl, hF, hg, hk⟩; have HF := Lib.hid hF; clear hF)
  have hk0 := ((Keeps.refl Nob w).alloc (.cells cs 45)).trans hk
  have hb : w.heap.size < (w.alloc (.cells cs 45)).heap.size := by simp
  have HP : Hid (∀ i x, cs[i]? = some x → V.cell? ⟨w.heap.size, i, none⟩ = some x) := Lib.hid (fun i x hx => (hk.cell (i := i) hb (fun x => x)).trans ((World.cell?_alloc_at _ _ _ _ rfl).trans hx))
  have q0 := HP.out 0 _ hc0
  have q1 := HP.out 1 _ hc1
  have hsz : w.heap.size < V.heap.size := Nat.lt_of_lt_of_le hb hk.size
  clear hk hb hc0 hc1
  go_loopg [10] 11 (fun g i V1 => ∃ k : Nat, k ≤ 11 ∧ g = 11 - k ∧ i = .int .i64 k ∧ Hid (∀ j, j < k → p.good j) ∧ Keeps Nob V V1)
  case atStart => exact ⟨0, by omega, rfl, rfl, Lib.hid (fun j hj => by omega), Keeps.refl _ _⟩
  case round =>
    obtain ⟨k, hk, hgf, rfl, HG, hkp⟩ := hrel
    by_cases hlt : k < 11
    · have hfc : ∀ j v, j < 5 → (parField k (ks k)).cells[j]? = some v → wr.cell? ⟨g, k * 5 + j, none⟩ = some v := fun j v hj hv => (hkp.cell (i := k * 5 + j) hg (fun x => x)).trans ((HF.out.cell k j hlt hj).trans hv)
      have f0 : wr.cell? ⟨g, k * 5, none⟩ = some (.string (parName[k]?.getD ⟨#[]⟩)) := hfc 0 _ (by omega) rfl
      have f1 : wr.cell? ⟨g, k * 5 + 1, none⟩ = some (.int .u64 (parLoU[k]?.getD 0)) := hfc 1 _ (by omega) rfl
      have f2 : wr.cell? ⟨g, k * 5 + 2, none⟩ = some (.int .u64 (parHiU[k]?.getD 0)) := hfc 2 _ (by omega) rfl
      have f3 : wr.cell? ⟨g, k * 5 + 3, none⟩ = some (.func (.func (parGet[k]?.getD 0)) #[] #[.pointer (some ⟨ks k, 0, none⟩)]) := hfc 3 _ (by omega) rfl
      have f4 : wr.cell? ⟨g, k * 5 + 4, none⟩ = some (.func (.func (parSet[k]?.getD 0)) #[] #[.pointer (some ⟨ks k, 0, none⟩)]) := hfc 4 _ (by omega) rfl
      clear hfc
      have hent := get_enters k hlt
      have hks : ks k < V.heap.size := World.block_lt_of_cell? V _ (HF.out.box k hlt)
      have GETH : Hid (∀ W, Keeps Nob V W → Calls Tryz.prog (parGet[k]?.getD 0) #[.pointer (some ⟨ks k, 0, none⟩)] W fun e w' => e = .returned (.tuple #[.int .u64 (max (p.l[k]?.getD 0) 0), .bool (decide (0 ≤ p.l[k]?.getD 0))]) ∧ Keeps Nob W w') :=
        Lib.hid (fun W hW => get_ok p hp k w.heap.size (ks k) hlt W ((hW.cell hks (fun x => x)).trans (HF.out.box k hlt)) (fun x hx => (hW.cell hsz (fun x => x)).trans (HP.out k x (by rw [← HCS.out]; exact hx))))
      have hgi := good_iff p k hlt
      generalize parName[k]?.getD ⟨#[]⟩ = nm at *
      generalize parLoU[k]?.getD 0 = lo at *
      generalize parHiU[k]?.getD 0 = hi at *
      generalize parGet[k]?.getD 0 = gk at *
      generalize parSet[k]?.getD 0 = sk at *
      generalize max (p.l[k]?.getD 0) 0 = x at *
      by_cases h1 : 0 ≤ p.l[k]?.getD 0
      · have hd := decide_eq_true h1
        rw [hd] at GETH
        by_cases h2 : lo ≤ x ∧ x ≤ hi
        · have hw : (decide (lo ≤ x) && decide (x ≤ hi)) = true := by simp; exact h2
          have hgood := hgi.2 ⟨h1, h2⟩
          have HG1 := Lib.hid (fun j hj => (Nat.lt_succ_iff_lt_or_eq.1 hj).elim (HG.out j) (fun e => e ▸ hgood) : ∀ j, j < k + 1 → p.good j)
          have WI := Lib.hid (fun nm f g W => within_ok nm f g lo hi x W)
          rw [hw] at WI
          clear hgi hgood hd h1 h2 hw
          go_wp2_with fail
          refine (GETH.out _ (hkp.alloc _)).mono ?_
          rintro e W1 ⟨rfl, k1⟩
          have c0 := (k1.cell (k := wr.heap.size) (i := 0) (by simp) (fun x => x)).trans ((World.cell?_alloc_at _ _ _ _ rfl).trans rfl)
          have c1 := (k1.cell (k := wr.heap.size) (i := 1) (by simp) (fun x => x)).trans ((World.cell?_alloc_at _ _ _ _ rfl).trans rfl)
          have c2 := (k1.cell (k := wr.heap.size) (i := 2) (by simp) (fun x => x)).trans ((World.cell?_alloc_at _ _ _ _ rfl).trans rfl)
          have c3 := (k1.cell (k := wr.heap.size) (i := 3) (by simp) (fun x => x)).trans ((World.cell?_alloc_at _ _ _ _ rfl).trans rfl)
          have c4 := (k1.cell (k := wr.heap.size) (i := 4) (by simp) (fun x => x)).trans ((World.cell?_alloc_at _ _ _ _ rfl).trans rfl)
          go_wp2_with fail
          refine (WI.out _ _ _ _).mono ?_
          rintro e W2 ⟨rfl, k2⟩
          clear c0 c1 c2 c3 c4
          go_wp2_with fail
          go_roundg (11 - (k + 1))
          case measure => omega
          case rel => exact ⟨k + 1, by omega, rfl, by go_num, HG1, ((hkp.alloc _).trans k1).trans k2⟩
        · have hw : (decide (lo ≤ x) && decide (x ≤ hi)) = false := by
            rw [Bool.and_eq_false_iff]; simp; omega
          obtain rfl : ce = (3, (k : Int)) := HCE.out.symm.trans (p.check_bad k hlt HG.out (fun h => h2 (hgi.1 h).2))
          have WI := Lib.hid (fun nm f g W => within_ok nm f g lo hi x W)
          rw [hw] at WI
          clear hgi hd h1 h2 hw
          go_wp2_with fail
          refine (GETH.out _ (hkp.alloc _)).mono ?_
          rintro e W1 ⟨rfl, k1⟩
          have c0 := (k1.cell (k := wr.heap.size) (i := 0) (by simp) (fun x => x)).trans ((World.cell?_alloc_at _ _ _ _ rfl).trans rfl)
          have c1 := (k1.cell (k := wr.heap.size) (i := 1) (by simp) (fun x => x)).trans ((World.cell?_alloc_at _ _ _ _ rfl).trans rfl)
          have c2 := (k1.cell (k := wr.heap.size) (i := 2) (by simp) (fun x => x)).trans ((World.cell?_alloc_at _ _ _ _ rfl).trans rfl)
          have c3 := (k1.cell (k := wr.heap.size) (i := 3) (by simp) (fun x => x)).trans ((World.cell?_alloc_at _ _ _ _ rfl).trans rfl)
          have c4 := (k1.cell (k := wr.heap.size) (i := 4) (by simp) (fun x => x)).trans ((World.cell?_alloc_at _ _ _ _ rfl).trans rfl)
          go_wp2_with fail
          refine (WI.out _ _ _ _).mono ?_
          rintro e W2 ⟨rfl, k2⟩
          clear c0 c1 c2 c3 c4
          go_wp2_with fail
          go_ret2
          exact ⟨rfl, hk0.trans (((hkp.alloc _).trans k1).trans k2)⟩
      · have hd := decide_eq_false h1
        rw [hd] at GETH
        obtain rfl : ce = (3, (k : Int)) := HCE.out.symm.trans (p.check_bad k hlt HG.out (fun h => h1 (hgi.1 h).1))
        clear hgi hd h1
        go_wp2_with fail
        refine (GETH.out _ (hkp.alloc _)).mono ?_
        rintro e W1 ⟨rfl, k1⟩
        go_wp2_with fail
        go_ret2
        exact ⟨rfl, hk0.trans ((hkp.alloc _).trans k1)⟩
    · have h1 : decide ((k : Int) < 11) = false := by simp; omega
      have hk11 : k = 11 := by omega
      have q0 := (hkp.cell (i := 0) hsz (fun x => x)).trans q0
      have q1 := (hkp.cell (i := 1) hsz (fun x => x)).trans q1
      have hce := HCE.out.symm.trans (p.check_good (fun j hj => HG.out j (by omega)))
      by_cases hm : p.unb < p.mage
      · rw [if_pos hm] at hce
        subst hce
        clear HCE
        go_wp2_with fail
        go_ret2
        exact ⟨rfl, hk0.trans hkp⟩
      · rw [if_neg hm] at hce
        subst hce
        clear HCE
        have hmd : decide (p.unb < p.mage) = false := by simpa using hm
        go_wp2_with fail
        go_ret2
        exact ⟨rfl, hk0.trans hkp⟩
end Go.Proofs.YtcbfnflnokoacaaGreat
namespace Go.Proofs.YtcbfnflnokoacaaGreat
set_option maxRecDepth 100000
set_option maxHeartbeats 4000000
open Go Go.RowKit Go.Own Go.Shelf
theorem r7within_ok (i : Nat) (n : Int) (w : World) (hi : i < 11) :
    Calls Tryz.prog 85 #[.int .i64 i, .int .i64 n] w fun e w' => e = .returned (.bool (decide (parLo[i]?.getD 0 ≤ n ∧ n ≤ parHi[i]?.getD 0))) ∧ Keeps Nob w w' := by
  obtain ⟨lo, hlo⟩ : ∃ lo, parLo[i]?.getD 0 = lo := ⟨_, rfl⟩
  obtain ⟨hh, hhi⟩ : ∃ h, parHi[i]?.getD 0 = h := ⟨_, rfl⟩
  rw [hlo, hhi]
  by_cases h1 : lo ≤ n
  · go_enter Tryz.func85, Tryz.ntmps85
    go_wp2_with (first
      | (go_at_call 105; refine (least_ok _).mono ?_; rintro e V ⟨cap, rfl, hc, hk, hs⟩; have c1 := hc i hi; rw [hlo] at c1)
      | (go_at_call 106; refine (most_ok _).mono ?_; rintro e V2 ⟨cap2, rfl, hc2, hk2, hs2⟩; have c2 := hc2 i hi; rw [hhi] at c2))
    go_ret
    exact ⟨by simp [h1], hk.trans hk2⟩
  · have h2 : decide (lo ≤ n) = false := by simpa using h1
    go_enter Tryz.func85, Tryz.ntmps85
    go_wp2_with (first
      | (go_at_call 105; refine (least_ok _).mono ?_; rintro e V ⟨cap, rfl, hc, hk, hs⟩; have c1 := hc i hi; rw [hlo] at c1))
    go_ret
    exact ⟨by simp; intro h; exact absurd h (by omega), hk⟩
theorem kFields_ok (p : Par) (hp : p.Ok) (w : World) :
    Calls Tryz.prog 84 #[p.v] w fun e w' => ∃ g, (∃ cap, e = .returned (.slice (some ⟨g, 0, none⟩) 11 cap)) ∧ (∀ i : Nat, i < 11 → w'.cell? ⟨g, i, none⟩ = some (.int .i64 (p.r[i]?.getD 0))) ∧ g < w'.heap.size ∧ Keeps Nob w w' := by
  obtain ⟨b1, b2⟩ := hp.base
  obtain ⟨m1, m2⟩ := hp.mult
  obtain ⟨r1, r2⟩ := hp.rew
  unfold Par.v Par.cells Par.r
  obtain ⟨unb, mage, elen, win, ent, act, jail, base, mult, corr, rew⟩ := p
  simp only at b1 b2 m1 m2 r1 r2 ⊢
  clear hp
  have key : ∀ x : Int, (x ≤ 1099511627776 ∧ min x 1099511627776 = x) ∨ (¬ x ≤ 1099511627776 ∧ min x 1099511627776 = 1099511627776) := fun x => by omega
  rcases key base with ⟨k1, e1⟩ | ⟨k1, e1⟩ <;> rcases key mult with ⟨k2, e2⟩ | ⟨k2, e2⟩ <;> rcases key rew with ⟨k3, e3⟩ | ⟨k3, e3⟩
  all_goals
    rw [e1, e2, e3]
    clear key e1 e2 e3
    go_enter Tryz.func84, Tryz.ntmps84
    go_wp2
    go_ret
    refine ⟨w.heap.size + 1, ⟨_, rfl⟩, fun i hi => ?_, by simp, ((Keeps.refl _ _).alloc _).alloc _⟩
    refine (World.cell?_alloc_at _ _ _ _ (by simp)).trans ?_
    have h : i = 0 ∨ i = 1 ∨ i = 2 ∨ i = 3 ∨ i = 4 ∨ i = 5 ∨ i = 6 ∨ i = 7 ∨ i = 8 ∨ i = 9 ∨ i = 10 := by omega
    rcases h with rfl | rfl | rfl | rfl | rfl | rfl | rfl | rfl | rfl | rfl | rfl <;> rfl
theorem r7Check_ok (p : Par) (hp : p.Ok) (w : World) :
    Calls Tryz.prog 55 #[p.v] w fun e w' => e = .returned (.tuple #[.int .i64 p.check.1, .int .i64 p.check.2]) ∧ Keeps Nob w w' := by
  have FL := fun V => kFields_ok p hp V
  obtain ⟨ce, hce⟩ : ∃ c, p.check = c := ⟨_, rfl⟩
  rw [hce]
  have HCE := Lib.hid hce; clear hce
  obtain ⟨cs, hcs⟩ : ∃ cs, p.cells = cs := ⟨_, rfl⟩
  have hv : p.v = .agg p.cells := rfl
  rw [hv] at FL ⊢
  unfold Par.cells at FL ⊢
  have FLH := Lib.hid FL; clear FL hv hcs
  go_enter Tryz.func55, Tryz.ntmps55
  go_wp2_with (go_at_call 84; refine (FLH.out _).mono ?_; rintro e V ⟨g, ⟨cap, rfl⟩, hc, hg, hk⟩)
  have hk0 := ((Keeps.refl Nob w).alloc (.cells p.cells 45)).trans hk
  have hb : w.heap.size < (w.alloc (.cells p.cells 45)).heap.size := by simp
  have c0 : (w.alloc (.cells p.cells 45)).cell? ⟨w.heap.size, 0, none⟩ = some (.int .i64 p.unb) := (World.cell?_alloc_at _ _ _ _ rfl).trans rfl
  have c1 : (w.alloc (.cells p.cells 45)).cell? ⟨w.heap.size, 1, none⟩ = some (.int .i64 p.mage) := (World.cell?_alloc_at _ _ _ _ rfl).trans rfl
  have q0 := (hk.cell (i := 0) hb (fun x => x)).trans c0
  have q1 := (hk.cell (i := 1) hb (fun x => x)).trans c1
  have hsz : w.heap.size < V.heap.size := Nat.lt_of_lt_of_le hb hk.size
  clear hk c0 c1 hb
  go_loopg [5] 11 (fun g i V1 => ∃ k : Nat, k ≤ 11 ∧ g = 11 - k ∧ i = .int .i64 k ∧ Hid (∀ j, j < k → p.good j) ∧ Keeps Nob V V1)
  case atStart => exact ⟨0, by omega, rfl, rfl, Lib.hid (fun j hj => by omega), Keeps.refl _ _⟩
  case round =>
    obtain ⟨k, hk, hgf, rfl, HG, hkp⟩ := hrel
    by_cases hlt : k < 11
    · have c1 := (hkp.cell (i := k) hg (fun x => x)).trans (hc k hlt)
      have hgr := p.good_r k hlt
      obtain ⟨n, hn⟩ : ∃ n, p.r[k]?.getD 0 = n := ⟨_, rfl⟩
      rw [hn] at c1 hgr
      have RW := fun V => r7within_ok k n V hlt
      by_cases hgood : p.good k
      · have hd := decide_eq_true (hgr.1 hgood)
        rw [hd] at RW
        have RWH := Lib.hid RW
        have HG1 := Lib.hid (fun j hj => (Nat.lt_succ_iff_lt_or_eq.1 hj).elim (HG.out j) (fun e => e ▸ hgood) : ∀ j, j < k + 1 → p.good j)
        clear RW hd hgr hgood hc
        go_wp2_with (go_at_call 85; refine (RWH.out _).mono ?_; rintro e V1 ⟨rfl, hk1⟩)
        go_roundg (11 - (k + 1))
        case measure => omega
        case rel => exact ⟨k + 1, by omega, rfl, by go_num, HG1, hkp.trans hk1⟩
      · have hd := decide_eq_false (fun x => hgood (hgr.2 x))
        rw [hd] at RW
        have RWH := Lib.hid RW
        obtain rfl : ce = (3, (k : Int)) := HCE.out.symm.trans (p.check_bad k hlt HG.out hgood)
        clear RW hd hgr hgood hc
        go_wp2_with (go_at_call 85; refine (RWH.out _).mono ?_; rintro e V1 ⟨rfl, hk1⟩)
        go_ret2
        exact ⟨rfl, (hk0.trans hkp).trans hk1⟩
    · have h1 : decide ((k : Int) < 11) = false := by simp; omega
      have hk11 : k = 11 := by omega
      have q0 := (hkp.cell (i := 0) hsz (fun x => x)).trans q0
      have q1 := (hkp.cell (i := 1) hsz (fun x => x)).trans q1
      have hce := HCE.out.symm.trans (p.check_good (fun j hj => HG.out j (by omega)))
      by_cases hm : p.unb < p.mage
      · rw [if_pos hm] at hce
        subst hce
        clear hc HCE
        go_wp2_with fail
        go_ret2
        exact ⟨rfl, hk0.trans hkp⟩
      · rw [if_neg hm] at hce
        subst hce
        clear hc HCE
        have hmd : decide (p.unb < p.mage) = false := by simpa using hm
        go_wp2_with fail
        go_ret2
        exact ⟨rfl, hk0.trans hkp⟩
end Go.Proofs.YtcbfnflnokoacaaGreat
namespace Go.Own
set_option maxRecDepth 100000
set_option maxHeartbeats 4000000
open Go Go.ChangeShapes Go.WideShapes Go.ChangeAt Go.RowKit Go.WideElems
variable {H : Type} {enc : TypeId × Value → H} {P : Program}
theorem trodAll_stays (hl : laidOutB P = true) {W W' : World} {sp : Nat → Bool} : ∀ (ts : List TypeId) (vs : List Value) (ds : List (DataW H)) (ps : List MemPlace),
    ts.all (fun t => P.readableRec t && decide (t < P.types.size)) = true → DataW.TrodAll enc P W 0 (fun _ => true) true ts vs ds ps → (∀ p ∈ ps, W.sameAt W' p) → (∀ p ∈ ps, sp p.block = true) →
    DataW.TrodAll enc P W' 0 sp true ts vs ds ps
  | [], vs, ds, ps, _, h, _, _ => by
    obtain ⟨rfl, rfl, rfl⟩ := trodAll_nil h
    exact trodAll_mk0
  | t :: ts, vs, ds, ps, hr, h, hs, hsp => by
    obtain ⟨v, vs', d, ds', p, q, rfl, rfl, rfl, h0, r⟩ := trodAll_cons h
    simp only [List.all_cons, Bool.and_eq_true, decide_eq_true_eq] at hr
    exact trodAll_cons_mk (Trod_stays hl hr.1.1 hr.1.2 h0 (fun x hx => hs x (by simp [hx])) (fun x hx => hsp x (by simp [hx])))
      (trodAll_stays hl ts vs' ds' q hr.2 r (fun x hx => hs x (by simp [hx])) (fun x hx => hsp x (by simp [hx])))
theorem law_post {f : Func} {s : ChangeSpec} {W W' : World} {args : Array Value} {ds gs : List (DataW H)} {before : List MemPlace} {tb : TypeId} (hl : laidOutB P = true) (hr : f.params.toList.all (fun t => P.readableRec t && decide (t < P.types.size)) = true)
    (hres : f.resultTypes = #[tb]) (hb : P.underlying tb = some .bool) (hvars : s.vars = []) (hfn : s.fn H (ds ++ gs) = { results := [.lit (.bool true)], args := ds })
    (hW : DataW.Whole enc P f.params.toList s.vars false W args.toList ds gs before) (hB : Below W.heap.size W W') : s.post enc P f false true false false W args (.bool true) W' := by
  have hlt := hW.lt
  have hW0 := hW
  obtain ⟨p, q, hA, hV, rfl, hfz, hnd⟩ := hW
  rw [hvars] at hV
  obtain ⟨rfl, rfl⟩ := trodVars_none hV
  refine ⟨ds, [], p ++ [], [], p, [], hW0, ?_, ?_, ?_, hB.frame _, fun h => by cases h⟩
  · rw [hfn, hres]
    exact trodAll_mk1 (shut_bool hb _)
  · rw [hfn]
    exact trodAll_stays hl _ _ _ _ hr hA (fun x hx => hB.same (hlt x (by simp [hx]))) (fun x hx => by simpa using hlt x (by simp [hx]))
  · rw [hfn, hvars]
    rfl
/-- A slice that came in: its length, and each element's cells with the element's own reading. -/
theorem open_elemsN {t e : TypeId} {W : World} {sp : Nat → Bool} {held : Bool} {v : Value} {d : DataW H} {ps : List MemPlace} (ht : P.underlying t = some (.slice e)) (hpos : 0 < P.cellsOf e) (h : DataW.Trod enc P W 0 sp held t v d ps) (hv : ∃ a len cap, v = .slice a len cap) :
    ∃ (a : Option Addr) (len cap : Nat), v = .slice a len cap ∧ len ≤ cap ∧ cap ≤ maxLen ∧ (a = none → cap = 0) ∧ ∀ i, i < len → ∃ b o cs n y, a = some ⟨b, o, none⟩ ∧ cs.length = P.cellsOf e ∧
      (∀ j, j < P.cellsOf e → W.cell? ⟨b, o + i * P.cellsOf e + j, none⟩ = cs[j]?) ∧ DataW.trod enc P W 0 sp held n e cs = some y := by
  obtain ⟨fuel, hf⟩ := h
  obtain ⟨a0, len0, cap0, rfl⟩ := hv
  rcases Go.Deep.open_slice ht (by simpa [Value.cells] using hf) with ⟨h0, _⟩ | ⟨a, len, cap, m, n, D, Pl, hcs, _, hl, hm, hmm, _, hi⟩
  · simp only [List.cons.injEq, Value.slice.injEq, and_true] at h0
    obtain ⟨rfl, rfl, rfl⟩ := h0
    exact ⟨_, _, _, rfl, Nat.le_refl _, Nat.zero_le _, fun _ => rfl, fun i h => absurd h (Nat.not_lt_zero i)⟩
  · simp only [List.cons.injEq, Value.slice.injEq, and_true] at hcs
    obtain ⟨rfl, rfl, rfl⟩ := hcs
    refine ⟨_, _, _, rfl, hl, hm, (fun h => by cases h), fun i hlt => ?_⟩
    have him : i < m := by rw [hmm]; split <;> omega
    obtain ⟨cs', hc, ht'⟩ := hi i him
    obtain ⟨_, hcl, hat⟩ := World.cells?_some hc
    have hsp : a.spot = none := by
      obtain ⟨cs0, hc0, _⟩ := hi 0 (by omega)
      obtain ⟨_, hcl0, hat0⟩ := World.cells?_some hc0
      have h0 := hat0 0 hpos
      have e1 : (a.add (0 * P.cellsOf e)).add 0 = a := by simp [Addr.add]
      rw [e1, List.getElem?_eq_getElem (by omega)] at h0
      cases hs : a.spot with
      | none => rfl
      | some s =>
        exfalso
        unfold World.cell? at h0
        split at h0
        · rw [if_pos (by simp [hs])] at h0; cases h0
        · cases h0
    obtain ⟨b, o, s⟩ := a
    cases hsp
    refine ⟨b, o, cs', n, _, rfl, hcl, fun j hj => ?_, ht'⟩
    have h2 := hat j hj
    have e2 : ((⟨b, o, none⟩ : Addr).add (i * P.cellsOf e)).add j = ⟨b, o + i * P.cellsOf e + j, none⟩ := by simp [Addr.add_lit]
    rw [e2] at h2
    exact h2
theorem list_of {α : Type} (Q : Nat → α → Prop) (n : Nat) (h : ∀ i, i < n → ∃ x, Q i x) : ∃ l : List α, l.length = n ∧ ∀ k x, l[k]? = some x → Q k x := by
  induction n with
  | zero => exact ⟨[], rfl, fun k x hk => by simp at hk⟩
  | succ n ih =>
    obtain ⟨l, hl, hq⟩ := ih (fun i hi => h i (by omega))
    obtain ⟨x, hx⟩ := h n (by omega)
    refine ⟨l ++ [x], by simp [hl], fun k y hk => ?_⟩
    rw [List.getElem?_append] at hk
    split at hk
    · exact hq k y hk
    · rename_i hlt
      obtain ⟨hk1, hk2⟩ := List.getElem?_eq_some_iff.1 hk
      have : k = n := by simp at hk1; omega
      subst this
      simp at hk2
      rw [← hk2]; exact hx
/-- One cell of a struct that is read as an integer. -/
theorem field_int {t : TypeId} {k : IntKind} {W : World} {sp : Nat → Bool} {held : Bool} {n off : Nat} {cs : List Value} {y : Option (DataW H × List MemPlace)} {z : DataW H × List MemPlace} (ht : P.underlying t = some (.int k)) (h1 : P.cellsOf t = 1) (h : DataW.trod enc P W 0 sp held n t ((cs.drop off).take (P.cellsOf t)) = y) (hy : y = some z) :
    ∃ q : Int, cs[off]? = some (.int k q) ∧ (Lit.int k q).wf = true := by
  subst hy
  rw [h1] at h
  obtain ⟨q, e1, _, e3⟩ := DataW.trod_int ht h
  refine ⟨q, ?_, e3⟩
  cases hc : cs.drop off with
  | nil => rw [hc] at e1; simp at e1
  | cons c r =>
    rw [hc] at e1
    simp at e1
    have : (cs.drop off)[0]? = some c := by rw [hc]; rfl
    rw [List.getElem?_drop] at this
    rw [show off = off + 0 by omega, this, e1]
/-- A slice of ints that came in. -/
structure IntsAt (w : World) (v : Value) (l : List Int) : Prop where
  len : ∃ a cap, v = .slice a l.length cap
  at_ : ∀ k x, l[k]? = some x → -9223372036854775808 ≤ x ∧ x ≤ 9223372036854775807 ∧ ∃ b o cap, v = .slice (some ⟨b, o, none⟩) l.length cap ∧ b < w.heap.size ∧ w.cell? ⟨b, o + k, none⟩ = some (.int .i64 x)
theorem IntsAt.keeps {w w' : World} {v : Value} {l : List Int} (h : IntsAt w v l) (k : Keeps Nob w w') : IntsAt w' v l :=
  ⟨h.len, fun i x hi => by
    obtain ⟨b1, b2, b, o, cap, e, hb, hc⟩ := h.at_ i x hi
    exact ⟨b1, b2, b, o, cap, e, Nat.lt_of_lt_of_le hb k.size, (k.cell hb (fun x => x)).trans hc⟩⟩
theorem u64_nat {a : Int} (h : (Lit.int .u64 a).wf = true) : ∃ n : Nat, n < 2 ^ 64 ∧ a = (n : Int) := by
  have h1 : 0 ≤ a ∧ a < 18446744073709551616 := by
    simp [Lit.wf, IntKind.min, IntKind.max, IntKind.bits, IntKind.signed] at h
    omega
  exact ⟨a.toNat, by omega, by omega⟩
theorem u8_nat {a : Int} (h : (Lit.int .u8 a).wf = true) : ∃ c : UInt8, a = (c.toNat : Int) := by
  have h1 : 0 ≤ a ∧ a < 256 := by
    simp [Lit.wf, IntKind.min, IntKind.max, IntKind.bits, IntKind.signed] at h
    omega
  exact ⟨UInt8.ofNat a.toNat, by simp; omega⟩
end Go.Own
namespace Go.Proofs.YtcbfnflnokoacaaGreat
set_option maxRecDepth 100000
set_option maxHeartbeats 4000000
open Go Go.RowKit Go.Own Go.Shelf
def hOk (h : Int) : Prop := 1 ≤ h ∧ h ≤ 4294967296
instance (h : Int) : Decidable (hOk h) := by unfold hOk; infer_instance
/-- May params, and heights, be? -/
def Par.fine (p : Par) (l : List Int) : Int := if p.check.1 = 0 then (if l.all (fun h => decide (hOk h)) then 0 else 3) else p.check.1
theorem Par.fine_bad (p : Par) (l : List Int) (k : Nat) (h : Int) (hk : l[k]? = some h) (hb : ¬ hOk h) (hp : p.check.1 = 0) : p.fine l = 3 := by
  have : l.all (fun h => decide (hOk h)) = false := by
    rw [List.all_eq_false]
    exact ⟨h, List.mem_of_getElem? hk, by simpa using hb⟩
  unfold Par.fine; rw [if_pos hp, this]; rfl
theorem Par.fine_ok (p : Par) (l : List Int) (h : ∀ (k : Nat) x, l[k]? = some x → hOk x) (hp : p.check.1 = 0) : p.fine l = 0 := by
  have : l.all (fun h => decide (hOk h)) = true := by
    rw [List.all_eq_true]
    intro x hx
    obtain ⟨k, hk⟩ := List.getElem?_of_mem hx
    simpa using h k x hk
  unfold Par.fine; rw [if_pos hp, this]; rfl
theorem rfine_ok (p : Par) (hp : p.Ok) (v : Value) (l : List Int) (w : World) (hl : l.length ≤ 1000) (hv : IntsAt w v l) :
    Calls Tryz.prog 87 #[p.v, v] w fun e w' => e = .returned (.int .i64 (p.fine l)) ∧ Keeps Nob w w' := by
  obtain ⟨a0, cap, rfl⟩ := hv.len
  have HV := Lib.hid hv; clear hv
  have CH := fun V => r7Check_ok p hp V
  obtain ⟨er, her⟩ : ∃ c, p.fine l = c := ⟨_, rfl⟩
  rw [her]
  have HER := Lib.hid her; clear her
  obtain ⟨ce, hce⟩ : ∃ c, p.check.1 = c := ⟨_, rfl⟩
  obtain ⟨ci, hci⟩ : ∃ c, p.check.2 = c := ⟨_, rfl⟩
  rw [hce, hci] at CH
  clear hci
  have hpv : p.v = .agg p.cells := rfl
  rw [hpv] at CH ⊢
  unfold Par.cells at CH ⊢
  have CHH := Lib.hid CH; clear CH hpv
  by_cases hc : ce = 0
  · subst hc
    have HP := Lib.hid hce; clear hce
    go_enter Tryz.func87, Tryz.ntmps87
    go_wp2_with (go_at_call 55; refine (CHH.out _).mono ?_; rintro e V ⟨rfl, hk⟩)
    have hk0 : Keeps Nob w V := ((Keeps.refl Nob w).alloc _).trans hk
    clear hk
    go_loopg [7] l.length (fun g i V1 => ∃ k : Nat, k ≤ l.length ∧ g = l.length - k ∧ i = .int .i64 k ∧ Hid (∀ j x, j < k → l[j]? = some x → hOk x) ∧ Keeps Nob w V1)
    case atStart => exact ⟨0, by omega, rfl, rfl, Lib.hid (fun j x hj => by omega), hk0⟩
    case round =>
      obtain ⟨k, hk, hg, rfl, HG, hkp⟩ := hrel
      by_cases hlt : k < l.length
      · obtain ⟨x, hx⟩ : ∃ x, l[k]? = some x := ⟨l[k], List.getElem?_eq_getElem hlt⟩
        obtain ⟨bx1, bx2, bl, ol, cl, hvl, hbl, q0⟩ := HV.out.at_ k _ hx
        simp only [Value.slice.injEq, true_and] at hvl
        obtain ⟨rfl, rfl⟩ := hvl
        have p0 := (hkp.cell hbl (fun x => x)).trans q0
        have HX := Lib.hid hx
        clear q0 hx
        by_cases h1 : x < 1
        · obtain rfl : er = 3 := HER.out.symm.trans (p.fine_bad l k x HX.out (fun h => by unfold hOk at h; omega) HP.out)
          go_wp2_with fail
          go_ret
          exact ⟨rfl, hkp⟩
        · have h1d : decide (x < 1) = false := by simpa using h1
          by_cases h2 : 4294967296 < x
          · obtain rfl : er = 3 := HER.out.symm.trans (p.fine_bad l k x HX.out (fun h => by unfold hOk at h; omega) HP.out)
            go_wp2_with fail
            go_ret
            exact ⟨rfl, hkp⟩
          · have h2d : decide (4294967296 < x) = false := by simpa using h2
            have HG1 : Hid (∀ j y, j < k + 1 → l[j]? = some y → hOk y) := Lib.hid (fun j y hj hy => (Nat.lt_succ_iff_lt_or_eq.1 hj).elim (fun h => HG.out j y h hy) (fun e => by subst e; have e2 := HX.out.symm.trans hy; simp at e2; subst e2; unfold hOk; omega))
            go_wp2_with fail
            go_roundg (l.length - (k + 1))
            case measure => omega
            case rel => exact ⟨k + 1, by omega, rfl, by go_num, HG1, hkp⟩
      · have h1 : decide ((k : Int) < (l.length : Int)) = false := by simp; omega
        obtain rfl : er = 0 := HER.out.symm.trans (p.fine_ok l (fun j x hx => HG.out j x (by have := (List.getElem?_eq_some_iff.1 hx).1; omega) hx) HP.out)
        go_wp2_with fail
        go_ret
        exact ⟨rfl, hkp⟩
  · have hcd : (ce == 0) = false := by simpa using hc
    obtain rfl : ce = er := by rw [← HER.out]; unfold Par.fine; rw [hce, if_neg hc]
    go_enter Tryz.func87, Tryz.ntmps87
    go_wp2_with (go_at_call 55; refine (CHH.out _).mono ?_; rintro e V ⟨rfl, hk⟩)
    go_ret
    exact ⟨rfl, ((Keeps.refl Nob w).alloc _).trans hk⟩
end Go.Proofs.YtcbfnflnokoacaaGreat
namespace Go.Proofs.YtcbfnflnokoacaaGreat
set_option maxRecDepth 100000
set_option maxHeartbeats 4000000
open Go Go.RowKit Go.Own Go.Shelf
/-- What good params are. -/
theorem Par.bounds (p : Par) (h : p.check.1 = 0) : (1 ≤ p.unb ∧ p.unb ≤ 1048576) ∧ (0 ≤ p.mage ∧ p.mage ≤ 1048576) ∧ (1 ≤ p.elen ∧ p.elen ≤ 1000) ∧ (1 ≤ p.win ∧ p.win ≤ 256) ∧ (1 ≤ p.jail ∧ p.jail ≤ 1048576) ∧ (1 ≤ p.corr ∧ p.corr ≤ 1048576) ∧ p.mage ≤ p.unb := by
  unfold Par.check at h
  split at h
  · simp at h
  · rename_i hn
    rw [List.find?_eq_none] at hn
    have g : ∀ i, i < 11 → p.good i := fun i hi => by simpa using hn i (by simpa using hi)
    have g0 := g 0 (by omega); have g1 := g 1 (by omega); have g2 := g 2 (by omega); have g3 := g 3 (by omega); have g6 := g 6 (by omega); have g9 := g 9 (by omega)
    simp [Par.good, parLo, parHi, Par.l] at g0 g1 g2 g3 g6 g9
    refine ⟨g0, g1, g2, g3, g6, g9, ?_⟩
    split at h
    · simp at h
    · omega
theorem Par.fine_zero (p : Par) (l : List Int) (h : p.fine l = 0) : p.check.1 = 0 ∧ ∀ x ∈ l, hOk x := by
  unfold Par.fine at h
  split at h
  · rename_i hc
    refine ⟨hc, ?_⟩
    split at h
    · rename_i ha
      rw [List.all_eq_true] at ha
      intro x hx; simpa using ha x hx
    · simp at h
  · rename_i hc; exact absurd h hc
theorem par_cell (p : Par) (w w' : World) (t : TypeId) (hk : Keeps Nob (w.alloc (.cells p.cells t)) w') (i : Nat) (x : Value) (hx : p.cells[i]? = some x) : w'.cell? ⟨w.heap.size, i, none⟩ = some x :=
  (hk.cell (by simp) (fun x => x)).trans ((World.cell?_alloc_at _ _ _ _ rfl).trans hx)
end Go.Proofs.YtcbfnflnokoacaaGreat
namespace Go.Proofs.YtcbfnflnokoacaaGreat
set_option maxRecDepth 100000
set_option maxHeartbeats 4000000
open Go Go.RowKit Go.Own Go.Shelf
end Go.Proofs.YtcbfnflnokoacaaGreat
namespace Go.Proofs.YtcbfnflnokoacaaGreat
set_option maxRecDepth 100000
set_option maxHeartbeats 4000000
open Go Go.RowKit Go.Own Go.Shelf
end Go.Proofs.YtcbfnflnokoacaaGreat
namespace Go.Proofs.YtcbfnflnokoacaaGreat
set_option maxRecDepth 100000
set_option maxHeartbeats 4000000
open Go Go.RowKit Go.Own Go.Shelf
def Par.low (p : Par) (h : Int) : Int × Int := if p.fine [h] = 0 then (max 0 ((h - 1) / p.elen - p.win + 1), 0) else (0, p.fine [h])
def Par.first (p : Par) (e : Int) : Int × Int := if p.fine [] = 0 then (if 0 ≤ e ∧ e ≤ 4294967296 ∧ e * p.elen + 1 ≤ 4294967296 then (e * p.elen + 1, 0) else (0, 3)) else (0, p.fine [])
end Go.Proofs.YtcbfnflnokoacaaGreat
namespace Go.Proofs.YtcbfnflnokoacaaGreat
set_option maxRecDepth 100000
set_option maxHeartbeats 4000000
open Go Go.RowKit Go.Own Go.Shelf
theorem ints_none (w : World) : IntsAt w (.slice none 0 0) [] := ⟨⟨_, _, rfl⟩, fun k x hk => by simp at hk⟩
theorem rFirst_ok (p : Par) (hp : p.Ok) (e : Int) (he : i64ok e) (w : World) :
    Calls Tryz.prog 58 #[p.v, .int .i64 e] w fun x w' => x = .returned (.tuple #[.int .i64 (p.first e).1, .int .i64 (p.first e).2]) ∧ Keeps Nob w w' := by
  have FN := fun V v hv => rfine_ok p hp v [] V (by simp) hv
  have hb := fun hc => p.bounds (p.fine_zero [] hc).1
  unfold Par.first
  generalize p.fine [] = er at *
  have hpv : p.v = .agg p.cells := rfl
  rw [hpv] at FN ⊢
  unfold Par.cells at FN ⊢
  have FH := Lib.hid FN; clear FN hpv
  obtain ⟨he1, he2⟩ := he
  by_cases hc : er = 0
  · subst hc
    obtain ⟨_, _, ⟨x5, x6⟩, _⟩ := hb rfl
    clear hb
    rw [if_pos rfl]
    by_cases k1 : e < 0
    · rw [if_neg (by omega)]
      go_enter Tryz.func58, Tryz.ntmps58
      go_wp2_with (go_at_call 87; refine (FH.out _ _ (ints_none _)).mono ?_; rintro x V ⟨rfl, hk⟩)
      go_ret2
      exact ⟨rfl, ((Keeps.refl Nob w).alloc _).trans hk⟩
    · have k1d : decide (e < 0) = false := by simpa using k1
      by_cases k2 : 4294967296 < e
      · rw [if_neg (by omega)]
        go_enter Tryz.func58, Tryz.ntmps58
        go_wp2_with (go_at_call 87; refine (FH.out _ _ (ints_none _)).mono ?_; rintro x V ⟨rfl, hk⟩)
        go_ret2
        exact ⟨rfl, ((Keeps.refl Nob w).alloc _).trans hk⟩
      · have k2d : decide (4294967296 < e) = false := by simpa using k2
        have m1 : 0 ≤ e * p.elen := Int.mul_nonneg (by omega) (by omega)
        have m2 : e * p.elen ≤ 4294967296000 := by have := Int.mul_le_mul (show e ≤ 4294967296 by omega) x6 (by omega) (by omega); omega
        by_cases k3 : e * p.elen + 1 ≤ 4294967296
        · rw [if_pos ⟨by omega, by omega, k3⟩]
          have k3d : decide (4294967296 < e * p.elen + 1) = false := by simp; omega
          go_enter Tryz.func58, Tryz.ntmps58
          go_wp2_with (go_at_call 87; refine (FH.out _ _ (ints_none _)).mono ?_; rintro x V ⟨rfl, hk⟩; have q2 := par_cell p w V 45 hk 2 (.int .i64 p.elen) rfl)
          go_ret2
          exact ⟨rfl, ((Keeps.refl Nob w).alloc _).trans hk⟩
        · rw [if_neg (by omega)]
          have k3d : 4294967296 < e * p.elen + 1 := by omega
          go_enter Tryz.func58, Tryz.ntmps58
          go_wp2_with (go_at_call 87; refine (FH.out _ _ (ints_none _)).mono ?_; rintro x V ⟨rfl, hk⟩; have q2 := par_cell p w V 45 hk 2 (.int .i64 p.elen) rfl)
          go_ret2
          exact ⟨rfl, ((Keeps.refl Nob w).alloc _).trans hk⟩
  · have hcd : (er == 0) = false := by simpa using hc
    rw [if_neg hc]
    clear hb
    go_enter Tryz.func58, Tryz.ntmps58
    go_wp2_with (go_at_call 87; refine (FH.out _ _ (ints_none _)).mono ?_; rintro x V ⟨rfl, hk⟩)
    go_ret2
    exact ⟨rfl, ((Keeps.refl Nob w).alloc _).trans hk⟩
end Go.Proofs.YtcbfnflnokoacaaGreat
namespace Go.Proofs.YtcbfnflnokoacaaGreat
set_option maxRecDepth 100000
set_option maxHeartbeats 4000000
open Go Go.RowKit Go.Own Go.Shelf
def Par.last (p : Par) (e : Int) : Int × Int := if (p.first e).2 = 0 then (min 4294967296 ((e + 1) * p.elen), 0) else (0, (p.first e).2)
end Go.Proofs.YtcbfnflnokoacaaGreat
namespace Go.Proofs.YtcbfnflnokoacaaGreat
set_option maxRecDepth 100000
set_option maxHeartbeats 4000000
open Go Go.RowKit Go.Own Go.Shelf
def errFirst (l : List Int) : Int := (l.find? (fun x => decide (x ≠ 0))).getD 0
theorem errFirst_hit (l : List Int) (k : Nat) (x : Int) (hx : l[k]? = some x) (h0 : x ≠ 0) (h : ∀ j y, j < k → l[j]? = some y → y = 0) : errFirst l = x := by
  unfold errFirst
  have : l.find? (fun x => decide (x ≠ 0)) = some x := by
    rw [List.find?_eq_some_iff_getElem]
    obtain ⟨hk, e⟩ := List.getElem?_eq_some_iff.1 hx
    refine ⟨by simpa using h0, k, hk, e, fun j hj => ?_⟩
    simpa using h j _ hj (List.getElem?_eq_getElem (by omega))
  rw [this]; rfl
theorem errFirst_none (l : List Int) (h : ∀ (j : Nat) y, l[j]? = some y → y = 0) : errFirst l = 0 := by
  unfold errFirst
  have : l.find? (fun x => decide (x ≠ 0)) = none := by
    rw [List.find?_eq_none]
    intro x hx
    obtain ⟨j, hj⟩ := List.getElem?_of_mem hx
    simpa using h j x hj
  rw [this]; rfl
def errOf (h : Int) : Int := if hOk h then 0 else 3
theorem errOf_ok (h : Int) (x : hOk h) : errOf h = 0 := if_pos x
theorem errOf_bad (h : Int) (x : ¬ hOk h) : errOf h = 3 := if_neg x
theorem errFirst_cons (x : Int) (l : List Int) : errFirst (x :: l) = if x = 0 then errFirst l else x := by
  unfold errFirst
  rw [List.find?_cons]
  by_cases h : x = 0
  · simp [h]
  · simp [h]
theorem errFirst_map (l : List Int) : errFirst (l.map errOf) = if l.all (fun h => decide (hOk h)) then 0 else 3 := by
  induction l with
  | nil => rfl
  | cons h t ih =>
    rw [List.map_cons, errFirst_cons, ih]
    by_cases hh : hOk h
    · rw [errOf_ok h hh]; simp [hh]
    · rw [errOf_bad h hh]; simp [hh]
theorem fine_eq (p : Par) (l : List Int) : p.fine l = errFirst (p.check.1 :: l.map errOf) := by
  rw [errFirst_cons, errFirst_map]
  rfl
theorem pfine_ok (h : Int) (w : World) : Calls Tryz.prog 68 #[.int .i64 h] w fun e w' => e = .returned (.int .i64 (errOf h)) ∧ w = w' := by
  by_cases h1 : h < 1
  · have he : errOf h = 3 := errOf_bad h (fun x => by unfold hOk at x; omega)
    rw [he]
    go_enter Tryz.func68, Tryz.ntmps68
    go_wp2
    go_ret
    exact ⟨rfl, rfl⟩
  · have h1d : decide (h < 1) = false := by simpa using h1
    by_cases h2 : 4294967296 < h
    · have he : errOf h = 3 := errOf_bad h (fun x => by unfold hOk at x; omega)
      rw [he]
      go_enter Tryz.func68, Tryz.ntmps68
      go_wp2
      go_ret
      exact ⟨rfl, rfl⟩
    · have h2d : decide (4294967296 < h) = false := by simpa using h2
      have he : errOf h = 0 := errOf_ok h (by unfold hOk; omega)
      rw [he]
      go_enter Tryz.func68, Tryz.ntmps68
      go_wp2
      go_ret
      exact ⟨rfl, rfl⟩
/-- Errors that the call laid itself. -/
def E (l : List Int) : List Value := l.map fun x => .int .i64 x
theorem E_get (l : List Int) (k : Nat) (x : Int) (h : l[k]? = some x) : (E l)[k]? = some (.int .i64 x) := by simp [E, h]
theorem first_ok (v : Value) (l : List Int) (w : World) (hv : Row w 31 1 v l.length (E l)) (hl : l.length ≤ 1000) :
    Calls Tryz.prog 93 #[v] w fun e w' => e = .returned (.int .i64 (errFirst l)) ∧ w = w' := by
  obtain ⟨er, her⟩ : ∃ c, errFirst l = c := ⟨_, rfl⟩
  rw [her]
  have HER := Lib.hid her; clear her
  have hform : ∃ A cap, v = .slice A l.length cap := by
    rcases hv.2 with ⟨rfl, h0⟩ | ⟨g, cap, cur, rfl, _⟩
    · exact ⟨none, 0, by rw [h0]⟩
    · exact ⟨_, _, rfl⟩
  obtain ⟨A, cap, rfl⟩ := hform
  have HV := Lib.hid hv; clear hv
  go_enter Tryz.func93, Tryz.ntmps93
  go_wp2_with fail
  go_loop [7] (fun i => ∃ k : Nat, k ≤ l.length ∧ i = .int .i64 k ∧ Hid (∀ j y, j < k → l[j]? = some y → y = 0)) (fun i => l.length - (intOf i).toNat)
  case atStart => exact ⟨0, Nat.zero_le _, rfl, Lib.hid (fun j y hj => by omega)⟩
  case round =>
    obtain ⟨k, hk, rfl, HK⟩ := hrel
    by_cases hlt : k < l.length
    · obtain ⟨x, hx⟩ : ∃ x, l[k]? = some x := ⟨_, List.getElem?_eq_getElem hlt⟩
      obtain ⟨g, cap', hv, hg⟩ := HV.out.spell (by omega)
      simp only [Value.slice.injEq, true_and] at hv
      obtain ⟨rfl, rfl⟩ := hv
      have c0 : w.cell? ⟨g, k, none⟩ = some (.int .i64 x) := (World.ownsRow.cellAt HV.out k (by omega)).trans (E_get l k x hx)
      have HX := Lib.hid hx
      clear hx
      by_cases h0 : x = 0
      · have hb : (x != 0) = false := by simpa using h0
        have HK1 : Hid (∀ j y, j < k + 1 → l[j]? = some y → y = 0) := Lib.hid (fun j y hj hy => (Nat.lt_succ_iff_lt_or_eq.1 hj).elim (fun h => HK.out j y h hy) (fun e => by subst e; have := HX.out.symm.trans hy; simp at this; omega))
        clear h0
        go_wp2_with fail
        go_round
        case rel => exact ⟨k + 1, by omega, by go_num, HK1⟩
        case measure => simp [intOf]; omega
      · have hb : (x != 0) = true := by simpa using h0
        obtain rfl : er = x := HER.out.symm.trans (errFirst_hit l k x HX.out h0 HK.out)
        go_wp2_with fail
        go_ret
        exact ⟨rfl, rfl⟩
    · have hd : decide ((k : Int) < (l.length : Int)) = false := by simp; omega
      obtain rfl : er = 0 := HER.out.symm.trans (errFirst_none l (fun j y hy => HK.out j y (by have := (List.getElem?_eq_some_iff.1 hy).1; omega) hy))
      go_wp2_with fail
      go_ret
      exact ⟨rfl, rfl⟩
end Go.Proofs.YtcbfnflnokoacaaGreat
namespace Go.Proofs.YtcbfnflnokoacaaGreat
set_option maxRecDepth 100000
set_option maxHeartbeats 4000000
open Go Go.RowKit Go.Own Go.Shelf
noncomputable def opsGood : Array Oper := opsOf Tryz.f67 8
theorem err_info : (Tryz.prog.info? 31).map (fun i => (i.zero, i.size, i.bytes)) = some (some (.int .i64 0), 1, 8) := by kernel_rfl
theorem E_append (l m : List Int) : E (l ++ m) = E l ++ E m := by simp [E]
theorem Row.newE (w : World) (x : Int) : Row (w.alloc (.cells #[.int .i64 x] 31)) 31 1 (.slice (some ⟨w.heap.size, 0, none⟩) 1 1) 1 (E [x]) :=
  ⟨rfl, .inr ⟨_, _, _, rfl, Nat.zero_le _, heap_alloc_new _ _, Nat.le_refl _, by unfold maxLen; omega, rfl, rfl⟩⟩
theorem good_ok (p : Par) (hp : p.Ok) (v : Value) (l : List Int) (w : World) (hl : l.length ≤ 900) (hv : IntsAt w v l) :
    Calls Tryz.prog 67 #[p.v, v] w fun e w' => e = .returned (.tuple #[p.v, .int .i64 (p.fine l)]) ∧ Keeps Nob w w' := by
  obtain ⟨i0, hi, hz0, hz1, hz2⟩ := info_parts err_info
  obtain ⟨a0, cap, rfl⟩ := hv.len
  have HV := Lib.hid hv; clear hv
  have CH := fun V => pCheck_ok p hp V
  obtain ⟨er, her⟩ : ∃ c, p.fine l = c := ⟨_, rfl⟩
  rw [her]
  have HER := Lib.hid ((fine_eq p l).symm.trans her); clear her
  obtain ⟨ce, hce⟩ : ∃ c, p.check.1 = c := ⟨_, rfl⟩
  obtain ⟨ci, hci⟩ : ∃ c, p.check.2 = c := ⟨_, rfl⟩
  rw [hce, hci] at CH
  rw [hce] at HER
  clear hci hce
  have hpv : p.v = .agg p.cells := rfl
  rw [hpv] at CH ⊢
  unfold Par.cells at CH ⊢
  have CHH := Lib.hid CH; clear CH hpv
  go_enter Tryz.func67, Tryz.ntmps67
  go_wp2_with (go_at_call 31; refine (CHH.out _).mono ?_; rintro e V ⟨rfl, hk⟩)
  obtain ⟨W2, hW2⟩ : ∃ W2, ((w.alloc (.cells #[.int .i64 p.unb, .int .i64 p.mage, .int .i64 p.elen, .int .i64 p.win, .int .i64 p.ent, .int .i64 p.act, .int .i64 p.jail, .int .u64 p.base, .int .u64 p.mult, .int .i64 p.corr, .int .u64 p.rew] 45)).alloc (.cells #[.int .i64 0, .int .i64 0, .int .i64 0, .int .i64 0, .int .i64 0, .int .i64 0, .int .i64 0, .int .u64 0, .int .u64 0, .int .i64 0, .int .u64 0] 96)) = W2 := ⟨_, rfl⟩
  rw [hW2] at hk
  have hb1 : W2.heap[w.heap.size]? = some (.cells #[.int .i64 p.unb, .int .i64 p.mage, .int .i64 p.elen, .int .i64 p.win, .int .i64 p.ent, .int .i64 p.act, .int .i64 p.jail, .int .u64 p.base, .int .u64 p.mult, .int .i64 p.corr, .int .u64 p.rew] 45 (0, 0)) := by
    rw [← hW2]; exact (Below.heap_alloc _ _ _ (by simp)).trans (heap_alloc_new _ _)
  have hb2 : W2.heap[w.heap.size + 1]? = some (.cells #[.int .i64 0, .int .i64 0, .int .i64 0, .int .i64 0, .int .i64 0, .int .i64 0, .int .i64 0, .int .u64 0, .int .u64 0, .int .i64 0, .int .u64 0] 96 (0, 0)) := by
    rw [← hW2]; have := heap_alloc_new (w.alloc (.cells #[.int .i64 p.unb, .int .i64 p.mage, .int .i64 p.elen, .int .i64 p.win, .int .i64 p.ent, .int .i64 p.act, .int .i64 p.jail, .int .u64 p.base, .int .u64 p.mult, .int .i64 p.corr, .int .u64 p.rew] 45)) (.cells #[.int .i64 0, .int .i64 0, .int .i64 0, .int .i64 0, .int .i64 0, .int .i64 0, .int .i64 0, .int .u64 0, .int .u64 0, .int .i64 0, .int .u64 0] 96)
    simpa using this
  have hkw : Keeps Nob w W2 := by rw [← hW2]; exact ((Keeps.refl _ _).alloc _).alloc _
  have hs2 : W2.heap.size = w.heap.size + 2 := by rw [← hW2]; simp
  have HB := Lib.hid (And.intro hb1 hb2)
  clear hW2 hb1 hb2
  have hVs := hk.size
  go_loopw [8, 20] (fun v i wr => ∃ k A c, k ≤ l.length ∧ i = .int .i64 k ∧ v = .slice A (k + 1) c ∧ Hid (Row wr 31 1 (.slice A (k + 1) c) (k + 1) (E (ce :: (l.take k).map errOf))) ∧ Hid (∀ j, (Value.slice A (k + 1) c).ownBlock = some j → V.heap.size ≤ j) ∧ Keeps Nob V wr) (fun _ i _ => l.length - (intOf i).toNat)
  case atStart =>
    exact ⟨0, some ⟨V.heap.size, 0, none⟩, 1, Nat.zero_le _, rfl, rfl, Lib.hid (Row.newE V ce), Lib.hid (fun j hj => by simp [Value.ownBlock] at hj; omega), (Keeps.refl _ _).alloc _⟩
  case round =>
    obtain ⟨k, A, c, hkl, rfl, rfl, HR, HN, hkp⟩ := hrel
    by_cases hlt : k < l.length
    · obtain ⟨x, hx⟩ : ∃ x, l[k]? = some x := ⟨l[k], List.getElem?_eq_getElem hlt⟩
      obtain ⟨bx1, bx2, bl, ol, cl, hvl, hbl, q0⟩ := HV.out.at_ k _ hx
      simp only [Value.slice.injEq, true_and] at hvl
      obtain ⟨rfl, rfl⟩ := hvl
      have p0 := ((hkw.trans (hk.trans hkp)).cell hbl (fun x => x)).trans q0
      have HT : Hid (l.take (k + 1) = l.take k ++ [x]) := Lib.hid (by rw [List.take_add_one, hx]; rfl)
      clear q0 hx
      have hown := HR.out.keeps ((Keeps.refl Nob wr).alloc (.cells #[.int .i64 (errOf x)] 31)) (fun _ _ x => x)
      have hsrc := Src.new wr 1 1 [.int .i64 (errOf x)] 31 rfl (by simp [Value.oneCell']) 1
      have HO := Lib.hid hown
      have HS := Lib.hid hsrc
      clear hown hsrc
      go_wp2_with (first
        | (go_at_call 68; refine (pfine_ok x _).mono ?_; rintro e w' ⟨rfl, rfl⟩)
        | (at_builtin; refine own_append2 rfl _ _ 133 rfl 31 i0 (.int .i64 0) 1 8 Tryz.underlying133 hi hz0 hz1 hz2 rfl (by decide) (.slice A (k + 1) c) (k + 1) _ rfl HO.out (.slice (some ⟨wr.heap.size, 0, none⟩) 1 1) 1 _ rfl HS.out (by unfold maxLen; omega) (by omega) ?_; intro v' w1 hown' hgrow hnil hat; obtain ⟨g', cap', rfl, hg'⟩ := hown'.spell (by omega); have HW := Lib.hid hown'; have HT2 := Lib.hid hat; have HGr := Lib.hid hgrow; clear hown' hat hgrow hnil))
      go_roundw
      case rel =>
        refine ⟨k + 1, some ⟨g', 0, none⟩, cap', by omega, by go_num, rfl, Lib.hid ?_, Lib.hid (fun j hj => ?_), ?_⟩
        · rw [HT.out, List.map_append, ← List.cons_append, E_append]; exact HW.out
        · rcases HT2.out j hj with h | ⟨h, _⟩
          · exact HN.out j h
          · have := hkp.size; simp at h; omega
        · exact (hkp.alloc _).grown HGr.out (fun j hj hlt => by have := HN.out j hj; omega)
      case measure => simp [intOf]; omega
    · have hd : decide ((k : Int) < (l.length : Int)) = false := by simp; omega
      have hkk : k = l.length := by omega
      have hR := HR.out
      have hn1 : (ce :: (l.take k).map errOf).length = k + 1 := by simp; omega
      rw [← hn1] at hR
      have FO := fun W hW => first_ok _ _ W (hR.keeps (w' := W) hW (fun _ _ x => x)) (by rw [hn1]; omega)
      rw [hn1, show (l.take k) = l by rw [hkk]; exact List.take_of_length_le (Nat.le_refl _), HER.out] at FO
      have FOH := Lib.hid FO
      obtain ⟨hb1, hb2⟩ := HB.out
      have kV2 := hk.trans hkp
      have e1 := (kV2.block w.heap.size (by omega) (fun x => x)).trans hb1
      have e2 := (kV2.block (w.heap.size + 1) (by omega) (fun x => x)).trans hb2
      clear FO hR hn1 hb1 hb2
      go_wp2_with fail
      refine wp_region_noPanic <| region_named (R := opsGood) (by kernel_rfl) <| wp_regionH_fuel (fun W => W.heap[w.heap.size]? = some (.cells p.cells 45 (0, 0))) 6 #[false, false, false, false, false, false] (by kernel_rfl) (by kernel_rfl) rfl <| wpAnyH_val (i := 0) (opsGood.getD 0 default) (.agg p.cells) (by kernel_rfl) (fun _ _ _ _ _ h => h) (by kernel_rfl) (by kernel_rfl) (by kernel_rfl) (by kernel_rfl) (fun W hW => exec_load_row 45 (.tmp 2) (by kernel_rfl) w.heap.size (by kernel_rfl) 45 p.cells (0, 0) _ hW Tryz.underlying45 rfl (by kernel_rfl)) e1 <| wpAnyH_val (i := 1) (opsGood.getD 1 default) (.agg p.cells) (by kernel_rfl) (fun _ _ _ _ _ h => h) (by kernel_rfl) (by kernel_rfl) (by kernel_rfl) (by kernel_rfl) (fun W hW => by kernel_rfl) e1 <| wpAnyH_val (i := 2) (opsGood.getD 2 default) (.slice A (k + 1) c) (by kernel_rfl) (fun _ _ _ _ _ h => h) (by kernel_rfl) (by kernel_rfl) (by kernel_rfl) (by kernel_rfl) (fun W hW => by kernel_rfl) e1 ?_
      refine wpAnyH_call (i := 3) (opsGood.getD 3 default) 93 #[.slice A (k + 1) c] (by kernel_rfl) (by kernel_rfl) (by kernel_rfl) (by kernel_rfl) (by kernel_rfl) (enters_of Tryz.func93 (by kernel_rfl) rfl) ((FOH.out _ ((Keeps.refl _ _).drew)).mono ?_)
      rintro e w' ⟨rfl, rfl⟩
      refine ⟨_, rfl, e1, ?_⟩
      have eS : (wr.drew.setRow (w.heap.size + 1) p.cells).heap[w.heap.size]? = some (.cells p.cells 45 (0, 0)) := (setRow_other wr.drew (w.heap.size + 1) w.heap.size p.cells (by omega)).trans e1
      refine wpAnyH_run (i := 4) (opsGood.getD 4 default) undef (w' := wr.drew.setRow (w.heap.size + 1) p.cells) (by kernel_rfl) (by kernel_rfl) (by kernel_rfl) (.inr ⟨exec_store_row 96 (.tmp 4) (.tmp 31) (by kernel_rfl) (w.heap.size + 1) p.cells (by kernel_rfl) (by kernel_rfl) 96 _ e2 (by kernel_rfl) rfl (by kernel_rfl), rfl⟩) eS <| wpAnyH_run (i := 5) (opsGood.getD 5 default) (.int .i64 er) (w' := wr.drew.setRow (w.heap.size + 1) p.cells) (by kernel_rfl) (by kernel_rfl) (by kernel_rfl) (.inl (by kernel_rfl)) eS ?_
      refine wpAnyH_done (by kernel_rfl) ?_ _
      refine NoPanic.normal ?_
      refine state_eq (b := ⟨#[.agg p.cells, .slice a0 l.length cap, .pointer (some ⟨w.heap.size, 0, none⟩), undef, .pointer (some ⟨w.heap.size + 1, 0, none⟩), .int .i64 er, .int .i64 ce, .int .i64 ci, .slice A (k + 1) c, undef, u10,
        .tuple #[.int .i64 ce, .int .i64 ci], .agg p.cells, .tuple #[.int .i64 ce, .int .i64 ci], .int .i64 ce, .int .i64 ci, .int .i64 ce, .slice (some ⟨V.heap.size, 0, none⟩) 1 1, .slice a0 l.length cap, .int .i64 l.length, .int .i64 k, .bool false, u22, u23, u24, u25, u26, u27, u28, u29,
        .agg p.cells, .agg p.cells, .slice A (k + 1) c, .int .i64 er], []⟩) (by kernel_rfl) ?_
      have eR : (wr.drew.setRow (w.heap.size + 1) p.cells).heap[w.heap.size + 1]? = some (.cells p.cells 96 (0, 0)) := setRow_heap _ _ _ _ _ _ e2
      have hfin : Keeps Nob w (wr.drew.setRow (w.heap.size + 1) p.cells) := ((hkw.trans kV2).drew).setRow (fun x => absurd x (by omega)) _
      generalize wr.drew.setRow (w.heap.size + 1) p.cells = WF at *
      have eld := fun (t : TypeId) => run_loadVar_row (P := Tryz.prog) WF (w.heap.size + 1) 96 96 p.cells (0, 0) _ eR Tryz.underlying96 rfl (by kernel_rfl)
      go_wp2
      refine bodyPost_ret (v := .tuple #[.agg p.cells, .int .i64 er]) ?_ rfl ⟨rfl, hfin⟩
      simp [results, Tryz.results67, asAddr, eld 0]
end Go.Proofs.YtcbfnflnokoacaaGreat
namespace Go.Proofs.YtcbfnflnokoacaaGreat
set_option maxRecDepth 100000
set_option maxHeartbeats 4000000
open Go Go.RowKit Go.Own Go.Shelf
end Go.Proofs.YtcbfnflnokoacaaGreat
namespace Go.Proofs.YtcbfnflnokoacaaGreat
set_option maxRecDepth 100000
set_option maxHeartbeats 4000000
open Go Go.RowKit Go.Own Go.Shelf
end Go.Proofs.YtcbfnflnokoacaaGreat
namespace Go.Proofs.YtcbfnflnokoacaaGreat
set_option maxRecDepth 100000
set_option maxHeartbeats 4000000
open Go Go.RowKit Go.Own Go.Shelf
theorem pFirst_ok (p : Par) (hp : p.Ok) (e : Int) (he : i64ok e) (w : World) :
    Calls Tryz.prog 34 #[p.v, .int .i64 e] w fun x w' => x = .returned (.tuple #[.int .i64 (p.first e).1, .int .i64 (p.first e).2]) ∧ Keeps Nob w w' := by
  have FN := fun V v hv => good_ok p hp v [] V (by simp) hv
  have hb := fun hc => p.bounds (p.fine_zero [] hc).1
  unfold Par.first
  generalize p.fine [] = er at *
  have hpv : p.v = .agg p.cells := rfl
  rw [hpv] at FN ⊢
  unfold Par.cells at FN ⊢
  have FH := Lib.hid FN; clear FN hpv
  obtain ⟨he1, he2⟩ := he
  by_cases hc : er = 0
  · subst hc
    obtain ⟨_, _, ⟨x5, x6⟩, _⟩ := hb rfl
    clear hb
    rw [if_pos rfl]
    by_cases k1 : e < 0
    · rw [if_neg (by omega)]
      go_enter Tryz.func34, Tryz.ntmps34
      go_wp2_with (go_at_call 67; refine (FH.out _ _ (ints_none _)).mono ?_; rintro x V ⟨rfl, hk⟩)
      go_ret2
      exact ⟨rfl, (((Keeps.refl Nob w).alloc _).trans hk).alloc _⟩
    · have k1d : decide (e < 0) = false := by simpa using k1
      by_cases k2 : 4294967296 < e
      · rw [if_neg (by omega)]
        go_enter Tryz.func34, Tryz.ntmps34
        go_wp2_with (go_at_call 67; refine (FH.out _ _ (ints_none _)).mono ?_; rintro x V ⟨rfl, hk⟩)
        go_ret2
        exact ⟨rfl, (((Keeps.refl Nob w).alloc _).trans hk).alloc _⟩
      · have k2d : decide (4294967296 < e) = false := by simpa using k2
        have m1 : 0 ≤ e * p.elen := Int.mul_nonneg (by omega) (by omega)
        have m2 : e * p.elen ≤ 4294967296000 := by have := Int.mul_le_mul (show e ≤ 4294967296 by omega) x6 (by omega) (by omega); omega
        by_cases k3 : e * p.elen + 1 ≤ 4294967296
        · rw [if_pos ⟨by omega, by omega, k3⟩]
          have hf := fun W => pfine_ok (e * p.elen + 1) W
          rw [errOf_ok _ (by unfold hOk; omega)] at hf
          have HF := Lib.hid hf; clear hf
          go_enter Tryz.func34, Tryz.ntmps34
          go_wp2_with (first
            | (go_at_call 67; refine (FH.out _ _ (ints_none _)).mono ?_; rintro x V ⟨rfl, hk⟩)
            | (go_at_call 68; refine (HF.out _).mono ?_; rintro e w' ⟨rfl, rfl⟩))
          go_ret2
          exact ⟨rfl, (((Keeps.refl Nob w).alloc _).trans hk).alloc _⟩
        · rw [if_neg (by omega)]
          have hf := fun W => pfine_ok (e * p.elen + 1) W
          rw [errOf_bad _ (by unfold hOk; omega)] at hf
          have HF := Lib.hid hf; clear hf
          go_enter Tryz.func34, Tryz.ntmps34
          go_wp2_with (first
            | (go_at_call 67; refine (FH.out _ _ (ints_none _)).mono ?_; rintro x V ⟨rfl, hk⟩)
            | (go_at_call 68; refine (HF.out _).mono ?_; rintro e w' ⟨rfl, rfl⟩))
          go_ret2
          exact ⟨rfl, (((Keeps.refl Nob w).alloc _).trans hk).alloc _⟩
  · have hcd : (er != 0) = true := by simpa using hc
    rw [if_neg hc]
    clear hb
    go_enter Tryz.func34, Tryz.ntmps34
    go_wp2_with (go_at_call 67; refine (FH.out _ _ (ints_none _)).mono ?_; rintro x V ⟨rfl, hk⟩)
    go_ret2
    exact ⟨rfl, (((Keeps.refl Nob w).alloc _).trans hk).alloc _⟩
end Go.Proofs.YtcbfnflnokoacaaGreat
namespace Go.Own
set_option maxRecDepth 100000
set_option maxHeartbeats 4000000
open Go Go.RowKit Go.Shelf
section
variable {P : Program} {Q : Exit → Act → World → Prop} {a : Act} {w : World} {ops : Array Oper} {i : Nat} {S : World → Prop} {fuel : Nat} {l : Array Bool}
end
/-! A function that yields. -/
section
variable {P : Program} {Q : Exit → Act → World → Prop} {a : Act} {w : World} {ops : Array Oper} {i n : Nat} {rest : List Nat} {c : Code}
end
/-! Slices of elements of s cells each. -/
section
variable {P : Program} {o : Oper} {ρ : Operand → Value} {w : World}
def cutW (A : Option Addr) (n cap s k : Nat) : Value := .slice (if cap = k then A else A.map (·.add (k * s))) (n - k) (cap - k)
end
/-! What a step leaves of all that is no cells. -/
/-- A slice of elements x of s cells each, 'c x'. -/
structure Sl {α : Type} (w : World) (s : Nat) (c : α → List Value) (v : Value) (xs : List α) : Prop where
  form : ∃ A cap, v = .slice A xs.length cap ∧ xs.length ≤ cap ∧ cap ≤ maxLen ∧ (A = none → cap = 0)
  at_ : ∀ (k : Nat) (x : α), xs[k]? = some x → ∃ b o cap, v = .slice (some ⟨b, o, none⟩) xs.length cap ∧ b < w.heap.size ∧ ∀ (j : Nat) (u : Value), (c x)[j]? = some u → w.cell? ⟨b, o + k * s + j, none⟩ = some u
section
variable {α : Type} {w w' : World} {M : Nat → Prop} {s : Nat} {c : α → List Value} {v : Value} {xs : List α}
theorem Sl.keeps (h : Sl w s c v xs) (k : Keeps M w w') (hm : ∀ j, v.ownBlock = some j → j < w.heap.size → ¬ M j) : Sl w' s c v xs :=
  ⟨h.form, fun i x hi => by
    obtain ⟨b, o, cap, e, hb, hc⟩ := h.at_ i x hi
    exact ⟨b, o, cap, e, Nat.lt_of_lt_of_le hb k.size, fun j u hj => (k.cell hb (hm b (by rw [e]; rfl) hb)).trans (hc j u hj)⟩⟩
theorem Sl.keepsN (h : Sl w s c v xs) (k : Keeps Nob w w') : Sl w' s c v xs := h.keeps k (fun _ _ _ x => x)
/-- Below 'w0' nothing is turned. -/
theorem Sl.keepsB {w0 : World} (h0 : Sl w0 s c v xs) (h : Sl w s c v xs) (k : Keeps M w w') (hm : ∀ j, M j → w0.heap.size ≤ j) : Sl w' s c v xs :=
  ⟨h.form, fun i x hi => by
    obtain ⟨b, o, cap, e, hb, hc⟩ := h.at_ i x hi
    obtain ⟨b0, o0, cap0, e0, hb0, _⟩ := h0.at_ i x hi
    rw [e] at e0
    simp only [Value.slice.injEq, Option.some.injEq, Addr.mk.injEq] at e0
    obtain ⟨⟨rfl, _⟩, _⟩ := e0
    exact ⟨b, o, cap, e, Nat.lt_of_lt_of_le hb k.size, fun j u hj => (k.cell hb (fun x => by have := hm _ x; omega)).trans (hc j u hj)⟩⟩
theorem Sl.nil (w : World) (s : Nat) (c : α → List Value) : Sl w s c (.slice none 0 0) [] := ⟨⟨none, 0, rfl, Nat.le_refl _, by simp [maxLen], fun _ => rfl⟩, fun k x h => by simp at h⟩
theorem Sl.len_le (h : Sl w s c v xs) : xs.length ≤ 9223372036854775807 := by
  obtain ⟨A, cap, e, h1, h2, _⟩ := h.form
  unfold maxLen at h2; omega
theorem flat_get (hc : ∀ x ∈ xs, (c x).length = s) (k : Nat) (x : α) (hx : xs[k]? = some x) (j : Nat) (u : Value) (hj : (c x)[j]? = some u) : (xs.flatMap c)[k * s + j]? = some u := by
  induction xs generalizing k with
  | nil => simp at hx
  | cons y r ih =>
    rw [List.flatMap_cons]
    have hy := hc y (by simp)
    cases k with
    | zero =>
      simp only [List.getElem?_cons_zero, Option.some.injEq] at hx; subst hx
      rw [Nat.zero_mul, Nat.zero_add, List.getElem?_append_left (List.getElem?_eq_some_iff.1 hj).1]; exact hj
    | succ k =>
      rw [List.getElem?_append_right (by rw [hy, Nat.succ_mul]; omega), hy, show (k + 1) * s + j - s = k * s + j by rw [Nat.succ_mul]; omega]
      exact ih (fun z hz => hc z (by simp [hz])) k (by simpa using hx)
theorem flat_len (hc : ∀ x ∈ xs, (c x).length = s) : (xs.flatMap c).length = xs.length * s := by
  induction xs with
  | nil => simp
  | cons y r ih =>
    rw [List.flatMap_cons, List.length_append, ih (fun z hz => hc z (by simp [hz])), hc y (by simp), List.length_cons, Nat.succ_mul]; omega
theorem Row.sl {e : TypeId} {n : Nat} (h : Row w e s v n (xs.flatMap c)) (hn : n = xs.length) (hc : ∀ x ∈ xs, (c x).length = s) : Sl w s c v xs := by
  subst hn
  have hh := h
  rcases h.2 with ⟨rfl, h0⟩ | ⟨g, cap, cur, rfl, hb, hg, h1, h2, h3⟩
  · have h0 : xs = [] := List.eq_nil_of_length_eq_zero h0
    subst h0
    exact ⟨⟨none, 0, rfl, Nat.le_refl _, by simp [maxLen], fun _ => rfl⟩, fun k x hx => by simp at hx⟩
  · exact ⟨⟨_, _, rfl, h1, by omega, fun h => by cases h⟩, fun k x hx => ⟨g, 0, cap, rfl, (Array.getElem?_eq_some_iff.1 hg).1, fun j u hj => by
      have := World.ownsRow.cells hh (g := g) rfl (k * s + j) u (flat_get hc k x hx j u hj)
      simpa [Addr.add_lit] using this⟩⟩
theorem mem_flat {c : α → List Value} {xs : List α} {u : Value} (h : u ∈ xs.flatMap c) : ∃ x ∈ xs, u ∈ c x := by simpa using h
theorem Sl.src (h : Sl w s c v xs) (hc : ∀ x ∈ xs, (c x).length = s) (hs : 0 < s) (h1 : ∀ x ∈ xs, ∀ u ∈ c x, u.oneCell' = true) : Src w s v xs.length (xs.flatMap c) := by
  refine ⟨flat_len hc, fun u hu => let ⟨x, hx, hu⟩ := mem_flat hu; h1 x hx u hu, ?_⟩
  obtain ⟨A, cap, rfl, h2, h3, h4⟩ := h.form
  cases A with
  | none => have := h4 rfl; exact .inl ⟨by rw [this] at h2 ⊢; rw [Nat.le_zero.1 h2], by omega⟩
  | some ad =>
    refine .inr ⟨ad, cap, rfl, fun j u hj => ?_⟩
    have hj2 : j < xs.length * s := by rw [← flat_len hc]; exact (List.getElem?_eq_some_iff.1 hj).1
    have hk : j / s < xs.length := Nat.div_lt_of_lt_mul (by rw [Nat.mul_comm]; exact hj2)
    obtain ⟨b, o, cap', e, _, hcell⟩ := h.at_ (j / s) xs[j / s] (List.getElem?_eq_getElem hk)
    simp only [Value.slice.injEq, Option.some.injEq, true_and] at e
    obtain ⟨rfl, _⟩ := e
    have hl := hc xs[j / s] (List.getElem_mem hk)
    have hm : j % s < (c xs[j / s]).length := by rw [hl]; exact Nat.mod_lt _ hs
    have e2 := flat_get hc (j / s) xs[j / s] (List.getElem?_eq_getElem hk) (j % s) _ (List.getElem?_eq_getElem hm)
    have hd : j / s * s + j % s = j := by rw [Nat.mul_comm]; exact Nat.div_add_mod j s
    rw [hd, hj] at e2
    have := hcell (j % s) u (by rw [List.getElem?_eq_getElem hm]; exact e2.symm)
    rw [show o + j / s * s + j % s = o + j by omega] at this
    simpa [Addr.add_lit] using this
theorem Sl.take (h : Sl w s c v xs) (k : Nat) (hk : k ≤ xs.length) : ∀ A n cap, v = .slice A n cap → Sl w s c (.slice A k cap) (xs.take k) := by
  rintro A n cap rfl
  obtain ⟨A', cap', e, h2, h3, h4⟩ := h.form
  simp only [Value.slice.injEq] at e
  obtain ⟨rfl, rfl, rfl⟩ := e
  have hl : (xs.take k).length = k := by simp; omega
  refine ⟨⟨_, _, by rw [hl], by omega, h3, h4⟩, fun i x hi => ?_⟩
  have hik : i < k := by have := (List.getElem?_eq_some_iff.1 hi).1; omega
  rw [List.getElem?_take_of_lt hik] at hi
  obtain ⟨b, o, cap'', e, hb, hcell⟩ := h.at_ i x hi
  simp only [Value.slice.injEq, true_and] at e
  obtain ⟨rfl, rfl⟩ := e
  exact ⟨b, o, _, by rw [hl], hb, hcell⟩
theorem Sl.drop (h : Sl w s c v xs) (k : Nat) (hk : k ≤ xs.length) : ∀ A n cap, v = .slice A n cap → Sl w s c (cutW A n cap s k) (xs.drop k) := by
  rintro A n cap rfl
  obtain ⟨A', cap', e, h2, h3, h4⟩ := h.form
  simp only [Value.slice.injEq] at e
  obtain ⟨rfl, rfl, rfl⟩ := e
  unfold cutW
  refine ⟨⟨_, _, by rw [List.length_drop], by rw [List.length_drop]; omega, by omega, fun hn => ?_⟩, fun i x hi => ?_⟩
  · split at hn
    · omega
    · cases A with
      | none => have := h4 rfl; omega
      | some a => cases hn
  · rw [List.getElem?_drop] at hi
    have hlt := (List.getElem?_eq_some_iff.1 hi).1
    obtain ⟨b, o, cap'', e, hb, hcell⟩ := h.at_ (k + i) x hi
    simp only [Value.slice.injEq, true_and] at e
    obtain ⟨rfl, rfl⟩ := e
    rw [if_neg (by omega)]
    refine ⟨b, o + k * s, cap - k, by rw [List.length_drop]; simp [Addr.add], hb, fun j u hj => ?_⟩
    have := hcell j u hj
    rwa [show o + (k + i) * s + j = o + k * s + i * s + j by rw [Nat.add_mul]; omega] at this
end
end Go.Own
namespace Go.Proofs.YtcbfnflnokoacaaGreat
set_option maxRecDepth 100000
set_option maxHeartbeats 4000000
open Go Go.RowKit Go.Own Go.Shelf
theorem _root_.Go.Own.Sl.cell {α : Type} {w : World} {s : Nat} {c : α → List Value} {v : Value} {xs : List α} (h : Sl w s c v xs) {k : Nat} {x : α} (hx : xs[k]? = some x) {b o n cap : Nat} (hv : v = .slice (some ⟨b, o, none⟩) n cap) {j : Nat} {u : Value} (hu : (c x)[j]? = some u) :
    w.cell? ⟨b, o + k * s + j, none⟩ = some u := by
  obtain ⟨b2, o2, cap2, e, _, hc⟩ := h.at_ k x hx
  rw [hv] at e
  simp only [Value.slice.injEq, Option.some.injEq, Addr.mk.injEq, and_true] at e
  obtain ⟨⟨rfl, rfl⟩, _⟩ := e
  exact hc j u hu
theorem _root_.Go.Own.Sl.range {α : Type} {w : World} {s : Nat} {c : α → List Value} {v : Value} {xs : List α} (h : Sl w s c v xs) {k : Nat} {x : α} (hx : xs[k]? = some x) {b o n cap : Nat} (hv : v = .slice (some ⟨b, o, none⟩) n cap) : w.rangeAt b (o + k * s) (c x) := fun j u hu => h.cell hx hv hu
theorem exec_len_sl {P : Program} {o : Oper} {ρ : Operand → Value} {w w0 : World} (x : Operand) (t e : TypeId) (ho : o.op = .call { callee := .builtin .len, args := #[x], argTypes := #[t] }) (ht : P.underlying t = some (.slice e)) {v : Value} (hx : ρ x = v) {α : Type} {s : Nat} {c : α → List Value} {xs : List α} (hv : Sl w0 s c v xs) :
    (execOp ρ o).run P w = .ok (.value (.int .i64 (xs.length : Int))) w := by
  obtain ⟨A, cap, rfl, _⟩ := hv.form
  exact exec_len x t e ho ht A xs.length cap hx
end Go.Proofs.YtcbfnflnokoacaaGreat
namespace Go.Own
set_option maxRecDepth 100000
set_option maxHeartbeats 4000000
open Go Go.RowKit Go.Shelf
theorem fold_seg (off : Nat) (vs : List Value) (cs : Array Value) (h : off + vs.length ≤ cs.size) : (vs.zipIdx 0).foldl (fun cs (x : Value × Nat) => cs.setIfInBounds (off + x.2) x.1) cs = seg cs off vs := by
  obtain ⟨h1, h2⟩ := Great.foldl_set off vs 0 cs
  apply Array.ext_getElem?
  intro k
  rw [h2 k]
  simp only [seg, List.getElem?_toArray, Nat.add_zero]
  by_cases ha : k < off
  · rw [if_neg (by omega), List.append_assoc, List.getElem?_append_left (by simp; omega), List.getElem?_take_of_lt ha]; simp
  · by_cases hb : k < off + vs.length
    · rw [if_pos (by omega), List.append_assoc, List.getElem?_append_right (by simp; omega), List.length_take, Nat.min_eq_left (by simp; omega), List.getElem?_append_left (by omega)]
    · rw [if_neg (by omega), List.getElem?_append_right (by simp; omega), List.getElem?_drop, List.length_append, List.length_take, Nat.min_eq_left (by simp; omega), show off + vs.length + (k - (off + vs.length)) = k by omega]; simp
theorem fill_seg {place : Nat → Option (Nat × Nat)} {cs ds r : Array Value} {i off n : Nat} {v : Value} {rest : List (Nat × Value)} (hp : place i = some (off, n)) (hv : v.cells.size = n) (hn : off + n ≤ cs.size) (hs : seg cs off v.cells.toList = ds) (h : Instr.fill place ds rest = some r) : Instr.fill place cs ((i, v) :: rest) = some r := by
  unfold Instr.fill
  simp only [hp, hv]
  rw [if_neg (by simp; omega), ← Array.foldl_toList, Array.toList_zipIdx, fold_seg off v.cells.toList cs (by simpa [hv] using hn), hs]
  exact h
section
variable {P : Program} {o : Oper} {ρ : Operand → Value} {w : World}
theorem exec_build_fill (t : TypeId) (ps : Array (Nat × Operand)) (ho : o.op = .build t ps) (qs : List (Nat × Value)) (hq : (ps.map fun (i, x) => (i, ρ x)).toList = qs) (fs : Array Field) (hu : P.underlying t = some (.struct fs)) (zv : Value) (hz : ∀ w, (zeroValue t).run P w = .ok zv w)
    (places : Array (Nat × Nat)) (hp : ∀ w, (fs.mapM fun f => do pure (f.offset, ← sizeOf f.type) : Sem (Array (Nat × Nat))).run P w = .ok places w) (cells : Array Value) (hf : Instr.fill (places[·]?) zv.cells qs = some cells) : (execOp ρ o).run P w = .ok (.value (.agg cells)) w := by
  subst hq
  refine exec_build t ps ho _ rfl ?_
  unfold Instr.build
  simp only [Sem.run_bind, hz, Result.andThen_ok, run_underlying hu, hp]
  rw [hf]
  rfl
/-- A slice literal, all of whose elements are given. -/
theorem exec_buildAll (t e : TypeId) (n : Nat) (ps : Array (Nat × Operand)) (ho : o.op = .buildSlice t n ps) (vs : List Value) (hq : (ps.map fun (i, x) => (i, ρ x)).toList = ((vs.zipIdx 0).map fun x => (x.2, x.1))) (ie : TypeInfo) (z : Value) (hu : P.underlying t = some (.slice e)) (hie : P.info? e = some ie) (hz : ie.zero = some z)
    (s : Nat) (hs : ie.size = s) (hs0 : 0 < s) (hn : vs.length = n) (hn0 : 0 < n) (hs1 : n * s ≤ 16777216) (hv : ∀ v ∈ vs, v.cells.size = s) : (execOp ρ o).run P w = .ok (.value (.slice (some ⟨w.heap.size, 0, none⟩) n n)) (w.alloc (.cells (vs.flatMap fun v => v.cells.toList).toArray e)) := by
  have hf : Instr.fill (fun i => some (i * ie.size, ie.size)) ((Array.range (n * ie.size)).map (z.cells[· % z.cells.size]!)) (ps.map fun (i, x) => (i, ρ x)).toList = some (vs.flatMap fun v => v.cells.toList).toArray := by
    rw [hq]
    exact Great.fill_whole (s := ie.size) (by omega) vs _ (fun u hu => by rw [hv u hu, hs]) (by simp [hn])
  have hp : ¬ n * ie.size = 0 := by rw [hs]; exact Nat.ne_of_gt (Nat.mul_pos hn0 hs0)
  unfold execOp
  simp only [ho, Sem.run_bind, run_buildSlice w t e n _ _ ie z hu hie hz (by rw [hs]; omega) hp hf, Result.andThen_ok, Sem.run_pure]
end
end Go.Own
namespace Go.Proofs.YtcbfnflnokoacaaGreat
set_option maxRecDepth 100000
set_option maxHeartbeats 4000000
open Go Go.RowKit Go.Own Go.Shelf
/-- A vote's stamp: whose, of what, its tag. -/
structure Sel where
  (v : Int) (r : List UInt8) (g : Nat)
  deriving DecidableEq
def Sel.c (a : Sel) : Array Value := (.int .i64 a.v :: (B a.r ++ [.int .u64 ((a.g : Nat) : Int)])).toArray
def Sel.cl (a : Sel) : List Value := a.c.toList
structure Sel.Ok (a : Sel) : Prop where
  v : i64b a.v
  r : a.r.length = 32
  g : a.g < 2 ^ 64
section
variable (a : Sel)
theorem Sel.c_size (h : a.r.length = 32) : a.c.size = 34 := by simp [Sel.c, B_length, h]
theorem Sel.cl_len {a : Sel} (h : a.r.length = 32) : a.cl.length = 34 := by simp [Sel.cl, Sel.c, B_length, h]
theorem Sel.c_0 : a.c[0]? = some (.int .i64 a.v) := by simp [Sel.c]
theorem Sel.c_tag (h : a.r.length = 32) : a.c[33]? = some (.int .u64 ((a.g : Nat) : Int)) := by
  simp only [Sel.c, List.getElem?_toArray, List.getElem?_cons_succ]
  rw [List.getElem?_append_right (by rw [B_length]; omega), B_length, h]; rfl
theorem Sel.c_seg : ∀ (j : Nat) (x : Value), (B a.r)[j]? = some x → a.c[1 + j]? = some x := fun j x h => by
  simp only [Sel.c, List.getElem?_toArray, show 1 + j = j + 1 by omega, List.getElem?_cons_succ]
  rw [List.getElem?_append_left (List.getElem?_eq_some_iff.1 h).1]; exact h
theorem Sel.c_one : a.c.all (·.oneCell') = true := by
  simp only [Sel.c, List.all_toArray, List.all_cons, List.all_append]
  rw [List.all_eq_true.2 (B_one a.r)]; rfl
theorem Sel.cl_one : ∀ u ∈ a.cl, u.oneCell' = true := by
  have := a.c_one
  rw [← Array.all_toList, List.all_eq_true] at this
  exact this
theorem Sel.c_seth (x : List UInt8) (h : a.r.length = 32) (hx : x.length = 32) : seg a.c 1 (B x) = Sel.c ⟨a.v, x, a.g⟩ := by
  apply Array.toList_inj.1
  simp only [seg, Sel.c, B_length, hx]
  simp only [List.take_succ_cons, List.take_zero, List.drop_succ_cons, Nat.reduceAdd]
  rw [show List.drop 32 (B a.r ++ [Value.int IntKind.u64 ((a.g : Nat) : Int)]) = [Value.int IntKind.u64 ((a.g : Nat) : Int)] by rw [List.drop_append_of_le_length (by rw [B_length]; omega), List.drop_of_length_le (by rw [B_length]; omega)]; rfl]
  simp
theorem Sel.c_setg (x : Nat) (h : a.r.length = 32) : seg a.c 33 [.int .u64 ((x : Nat) : Int)] = Sel.c ⟨a.v, a.r, x⟩ := by
  apply Array.toList_inj.1
  simp only [seg, Sel.c, List.length_cons, List.length_nil, Nat.reduceAdd]
  simp only [List.take_succ_cons, List.drop_succ_cons]
  rw [List.take_append_of_le_length (by rw [B_length]; omega), List.take_of_length_le (by rw [B_length]; omega), List.drop_of_length_le (by simp [B_length, h])]
  simp
end
def selZ : Sel := ⟨0, zhash, 0⟩
theorem selZ_r : selZ.r.length = 32 := rfl
def Att.sel (a : Att) : Sel := if a.fine then ⟨a.v, a.dg, a.g⟩ else selZ
def Pro.sel (a : Pro) : Sel := if a.fine then ⟨a.v, a.dg, a.g⟩ else selZ
theorem Att.sel_ok {a : Att} (h : a.fine) : a.sel = ⟨a.v, a.dg, a.g⟩ := if_pos h
theorem Att.sel_no {a : Att} (h : ¬ a.fine) : a.sel = selZ := if_neg h
theorem Pro.sel_ok {a : Pro} (h : a.fine) : a.sel = ⟨a.v, a.dg, a.g⟩ := if_pos h
theorem Pro.sel_no {a : Pro} (h : ¬ a.fine) : a.sel = selZ := if_neg h
theorem Att.sel_r (a : Att) : a.sel.r.length = 32 := by unfold Att.sel; split; exact a.dg_len; rfl
theorem Pro.sel_r (a : Pro) : a.sel.r.length = 32 := by unfold Pro.sel; split; exact a.dg_len; rfl
/-- A seal's literal. -/
theorem fill_sel (v : Int) (d : List UInt8) (g : Nat) (hd : d.length = 32) : Instr.fill ((#[(0, 1), (1, 32), (33, 1)] : Array (Nat × Nat))[·]?) selZ.c [(0, .int .i64 v), (1, .agg (B d).toArray), (2, .int .u64 ((g : Nat) : Int))] = some (Sel.c ⟨v, d, g⟩) := by
  have h0 : (⟨v, zhash, 0⟩ : Sel).r.length = 32 := rfl
  refine fill_seg (ds := Sel.c ⟨v, zhash, 0⟩) rfl rfl (by decide) (by kernel_rfl) <| fill_seg (ds := Sel.c ⟨v, d, 0⟩) rfl (by rw [show (Value.agg (B d).toArray).cells = (B d).toArray from rfl]; simp [B_length, hd]) (by rw [Sel.c_size _ h0]; decide) (Sel.c_seth ⟨v, zhash, 0⟩ d h0 hd) ?_
  refine fill_seg (ds := Sel.c ⟨v, d, g⟩) rfl rfl (by rw [Sel.c_size _ hd]; decide) (Sel.c_setg ⟨v, d, 0⟩ g hd) rfl
/-- Is evidence that may be an offence? -/
def Msg.cla (m : Msg) : Bool := if m.pf = 1 then doub m.a m.b else if m.pf = 2 then surr m.a m.b else doubP m.p m.q
/-- Why a message is no evidence. -/
def Msg.evi (m : Msg) : Int := if m.chk = 0 then (if m.k = 8 then 0 else 5) else m.chk
def hgt (p : Par) (m : Msg) : Int × Int := if m.pf = 1 ∨ m.pf = 2 then p.first (max m.a.t m.b.t) else (m.p.h, 0)
def firstE : List Int → Int
  | [] => 0
  | x :: r => if x = 0 then firstE r else x
/-- An offence: whose, of which class, when. -/
structure Off where
  (v c h : Int)
  deriving DecidableEq
def Off.cs (o : Off) : Array Value := #[.int .i64 o.v, .int .i64 o.c, .int .i64 o.h]
def offZ : Off := ⟨0, 0, 0⟩
def offE (p : Par) (m : Msg) : Int := firstE [p.check.1, m.evi, if m.cla then 0 else 18]
def offe (p : Par) (m : Msg) : Off × Int := if offE p m = 0 then (if (hgt p m).2 = 0 then (if m.pf = 3 then (⟨m.p.v, 2, (hgt p m).1⟩, 0) else (⟨m.a.v, 1, (hgt p m).1⟩, 0)) else (offZ, (hgt p m).2)) else (offZ, offE p m)
def Msg.sls (m : Msg) : List Sel := if m.pf = 3 then [m.p.sel, m.q.sel] else [m.a.sel, m.b.sel]
def hasE (l xs : List Sel) : Int := if xs.all (fun x => decide (x ∈ l)) then 0 else 15
def sgnd (l : List Sel) (m : Msg) : Int := firstE [m.evi, hasE l m.sls]
def jud (p : Par) (l : List Sel) (n : Int) (m : Msg) : Off × Int := if (offe p m).2 = 0 then (if n ≤ (offe p m).1.v then (offZ, 10) else if sgnd l m = 0 then ((offe p m).1, 0) else (offZ, sgnd l m)) else (offZ, (offe p m).2)
/-- What two votes prove. -/
def proves (a b : Att) : Msg × Bool := if doub a b then ({ msgZ with k := 8, pf := 1, a := a, b := b }, true) else if surr a b then ({ msgZ with k := 8, pf := 2, a := a, b := b }, true) else if surr b a then ({ msgZ with k := 8, pf := 2, a := b, b := a }, true) else (msgZ, false)
abbrev SelsAt (w : World) (v : Value) (l : List Sel) : Prop := Sl w 34 Sel.cl v l
end Go.Proofs.YtcbfnflnokoacaaGreat
namespace Go.Proofs.YtcbfnflnokoacaaGreat
set_option maxRecDepth 100000
set_option maxHeartbeats 4000000
open Go Go.RowKit Go.Own Go.Shelf
theorem Sel.c_ext (a : Sel) (h : a.r.length = 32) : a.c.extract 1 33 = (B a.r).toArray := by
  apply Array.toList_inj.1
  rw [Array.toList_extract]
  simp only [Sel.c, List.extract_eq_take_drop, List.drop_succ_cons, List.drop_zero, Nat.reduceSub]
  rw [List.take_append_of_le_length (by rw [B_length]; omega), List.take_of_length_le (by rw [B_length]; omega)]
theorem sel_guard : Tryz.prog.eqGuardType Tryz.prog.depth 30 = false := by kernel_rfl
theorem sel_equal (a b : Sel) (ha : a.r.length = 32) (hb : b.r.length = 32) (w : World) : (Op.equalIn 10000 30 (.agg a.c) (.agg b.c)).run Tryz.prog w = .ok (decide (a = b)) w := by
  rw [run_equalIn_struct w 9999 30 _ _ (by kernel_rfl) (by kernel_rfl)]
  simp only [Program.fieldsOf, Tryz.underlying30]
  rw [eqF_int (d := 9998) (k := .i64) (a := a.v) (b := b.v) w (by decide) Tryz.underlying3 (by kernel_rfl) (Sel.c_0 a) (Sel.c_0 b), eqF_hash (d := 9997) (l := a.r) (m := b.r) w (by decide) rfl (Sel.c_ext a ha) (Sel.c_ext b hb) ha hb,
    eqF_int (d := 9998) (k := .u64) (a := ((a.g : Nat) : Int)) (b := ((b.g : Nat) : Int)) w (by decide) Tryz.underlying24 (by kernel_rfl) (Sel.c_tag a ha) (Sel.c_tag b hb)]
  simp only [Op.eqFields, Sem.run_pure]
  obtain ⟨v, r, g⟩ := a
  obtain ⟨v', r', g'⟩ := b
  simp only [Sel.mk.injEq]
  by_cases h1 : v = v' <;> by_cases h4 : r = r' <;> by_cases h5 : g = g' <;> simp [h1, h4, h5] <;> omega
theorem sel_eq (a b : Sel) (ha : a.r.length = 32) (hb : b.r.length = 32) (w : World) : (binOp .eql 30 (.agg a.c) (.agg b.c)).run Tryz.prog w = .ok (.bool (decide (a = b))) w := by rw [run_eql_struct, sel_equal a b ha hb]; rfl
noncomputable def qc75_3 (n : Nat) : Code := partOf Tryz.f41 n
noncomputable abbrev qo75_3 (n k : Nat) : Oper := (opsAt (qc75_3 n)).getD k default
theorem esealedA_ok (a : Att) (w : World) (ha : a.Ok) :
    Calls Tryz.prog 41 #[.agg (Att.c a), .func (.func 39) #[] #[], .int .i64 a.v, .int .u64 ((a.g : Nat) : Int)] w (fun e w' => e = .returned (.tuple #[.agg (Sel.c a.sel), .int .i64 a.err]) ∧ Keeps Nob w w') := by
  have hr := ha.r
  have K0 : Keeps Nob w w := Keeps.refl _ _
  refine sy_enter (qc75_3 1) ⟨#[.agg (Att.c a), .func (.func 39) #[] #[], .int .i64 a.v, uN a.g, ud, ud, ud, ud, ud, ud, ud, ud, ud, ud, ud, ud, ud, ud, ud, ud, ud, ud, ud, ud, ud, ud], []⟩ Tryz.func41 (by kernel_rfl) (by kernel_rfl) <| qr_ [0, 1, 2] <| pbx 26 ((Att.c a)) (.agg (Att.c a)) fun V1 ga ega h2 kV1 => ?_
  have n3 : w.heap.size ≤ ga := ega ▸ K0.size
  have K4 := K0.nn kV1
  have z5 := kV1.size
  refine pal 30 ((Sel.c selZ)) (.agg ((Sel.c selZ))) fun V6 gs egs h7 kV6 => ?_
  have n8 : ga < gs := egs ▸ lt_of_block h2
  have n9 : w.heap.size ≤ gs := egs ▸ K4.size
  have h10 := kV6.bk h2
  have K11 := K4.nn kV6
  have z12 := kV6.size
  refine pkq (.int .i64 0) <| eqr_ [0, 1, 2, 3, 4, 5, 6, 7, 8] <| pkq (.func (.func 39) #[] #[]) <| ppq (.agg (Att.c a)) (ldr 26 ga (h10) (by rw [Att.c_size _ hr]; kernel_rfl)) ?_
  refine ps_callV (qo75_3 6 2) (.tmp 13) 39 #[] #[] #[.agg (Att.c a)] (by kernel_rfl) (by kernel_rfl) (by kernel_rfl) (by kernel_rfl) (by kernel_rfl) (enters_of Tryz.func39 (by kernel_rfl) rfl) ((vDigest_any a _ ha).mono ?_)
  rintro e V13 ⟨rfl, kV13⟩
  refine ⟨_, rfl, ?_⟩
  have h14 := kV13.bk h10
  have h15 := kV13.bk h7
  have K16 := K11.nn kV13
  have z17 := kV13.size
  refine pkq (.tuple #[.agg (B a.dg).toArray, .int .i64 a.err]) <| pkq (.agg (B a.dg).toArray) <| pkq (.int .i64 a.err) <| pal 23 (zr_u8_32) (.agg (zr_u8_32)) fun V18 gx egx h19 kV18 => ?_
  have n20 : ga < gx := egx ▸ lt_of_block h14
  have n21 : gs < gx := egx ▸ lt_of_block h15
  have n22 : w.heap.size ≤ gx := egx ▸ K16.size
  have h24 := kV18.bk h15
  have K25 := K16.nn kV18
  have z26 := kV18.size
  refine pst 23 gx ((B a.dg).toArray) h19 (by rw [Bz_size, Att.dg_len]; kernel_rfl) (by rw [Bz_size, Att.dg_len]; rfl) (by rw [List.all_toArray]; exact List.all_eq_true.2 (B_one _)) fun V27 h28 kV27 => ?_
  have h30 := kV27.bO h24
  have K31 := K25.nO kV27
  have z32 := kV27.size
  refine pkq (.int .i64 a.err) <| eq_ <| qr_ [0, 1] ?_
  by_cases c0 : a.fine
  · have e0 := Att.err_ok c0
    refine pkq (.int .i64 a.err) <| ppq (.bool false) (nqf ((a.err) : Int) ((0) : Int) (by omega)) <| en_ <| s_ <| tqr_ [0, 1, 2, 3, 4, 5] <| pkq (.int .i64 a.v) <| ppq (.agg ((B a.dg).toArray)) (ldr 23 gx (h28) (by rw [Bz_size, (Att.dg_len a)]; kernel_rfl)) <| pkq (uN a.g) <| ppq (.agg (Sel.c ⟨a.v, a.dg, a.g⟩)) (exec_build_fill 30 #[(0, .tmp 22), (1, .tmp 23), (2, .tmp 24)] (by kernel_rfl) [(0, .int .i64 a.v), (1, .agg ((B a.dg).toArray)), (2, uN a.g)] (by kernel_rfl) _ Tryz.underlying30 (.agg selZ.c) (fun _ => by kernel_rfl) #[(0, 1), (1, 32), (33, 1)] (fun _ => by kernel_rfl) _ (fill_sel a.v a.dg a.g a.dg_len)) <| pst 30 gs ((Sel.c ⟨a.v, a.dg, a.g⟩)) h30 (by rw [Sel.c_size _ (show (⟨a.v, a.dg, a.g⟩ : Sel).r.length = 32 from a.dg_len)]; kernel_rfl) (by rw [Sel.c_size _ (show (⟨a.v, a.dg, a.g⟩ : Sel).r.length = 32 from a.dg_len)]; rfl) (Sel.c_one _) fun V33 h34 kV33 => ?_
    have K37 := K31.nO kV33
    have z38 := kV33.size
    refine pkq (.int .i64 0) <| eu_ <| sy_out (.tuple #[.agg (Sel.c ⟨a.v, a.dg, a.g⟩), .int .i64 0]) rfl (results_row_tmp (p := 8) (q := 9) (ty := 30) (by kernel_rfl) _ _ gs 30 (Sel.c ⟨a.v, a.dg, a.g⟩) (0, 0) _ (.int .i64 0) (by kernel_rfl) h34 Tryz.underlying30 rfl (by rw [Sel.c_size _ (show (⟨a.v, a.dg, a.g⟩ : Sel).r.length = 32 from a.dg_len)]; kernel_rfl) (by kernel_rfl)) ?_
    exact ⟨by simp only [Att.sel_ok c0, e0], K37⟩
  · have e0 := Att.err_no c0
    refine pkq (.int .i64 a.err) <| ppq (.bool true) (nqt ((a.err) : Int) ((0) : Int) (by omega)) <| ey_ <| qr_ [0, 1, 2, 3] <| pkq (.agg (Sel.c selZ)) <| pkq (.int .i64 a.err) <| pst 30 gs ((Sel.c selZ)) h30 (by rw [Sel.c_size _ selZ_r]; kernel_rfl) rfl (Sel.c_one _) fun V39 h40 kV39 => ?_
    have K43 := K31.nO kV39
    have z44 := kV39.size
    refine pkq (.int .i64 a.err) <| eu_ <| then_r <| sy_out (.tuple #[.agg (Sel.c selZ), .int .i64 a.err]) rfl (results_row_tmp (p := 8) (q := 9) (ty := 30) (by kernel_rfl) _ _ gs 30 (Sel.c selZ) (0, 0) _ (.int .i64 a.err) (by kernel_rfl) h40 Tryz.underlying30 rfl (by rw [Sel.c_size _ selZ_r]; kernel_rfl) (by kernel_rfl)) ?_
    exact ⟨by simp only [Att.sel_no c0], K43⟩
noncomputable def qc75_6 (n : Nat) : Code := partOf Tryz.f8 n
theorem eSeal_ok (a : Att) (w : World) (ha : a.Ok) :
    Calls Tryz.prog 8 #[.agg (Att.c a)] w (fun e w' => e = .returned (.tuple #[.agg (Sel.c a.sel), .int .i64 a.err]) ∧ Keeps Nob w w') := by
  have hr := ha.r
  have K0 : Keeps Nob w w := Keeps.refl _ _
  refine sy_enter (qc75_6 1) ⟨#[.agg (Att.c a), ud, ud, ud, ud, ud, ud, ud, ud, ud, ud, ud], []⟩ Tryz.func8 (by kernel_rfl) (by kernel_rfl) <| qr_ [0, 1, 2] <| pbx 26 ((Att.c a)) (.agg (Att.c a)) fun V1 ga ega h2 kV1 => ?_
  have n3 : w.heap.size ≤ ga := ega ▸ K0.size
  have K4 := K0.nn kV1
  have z5 := kV1.size
  refine pal 30 ((Sel.c selZ)) (.agg ((Sel.c selZ))) fun V6 gs egs h7 kV6 => ?_
  have n8 : ga < gs := egs ▸ lt_of_block h2
  have n9 : w.heap.size ≤ gs := egs ▸ K4.size
  have h10 := kV6.bk h2
  have K11 := K4.nn kV6
  have z12 := kV6.size
  refine pkq (.int .i64 0) <| eqr_ [0, 1, 2, 3, 4, 5, 6, 7, 8, 9] <| ppq (.agg (Att.c a)) (ldr 26 ga (h10) (by rw [Att.c_size _ hr]; kernel_rfl)) <| pkq (pT ga 0) <| ppq (.int .i64 a.v) (ldc 3 ga 0 (rc (h10) (Att.c_0 _))) <| pkq (pT ga 35) <| ppq (uN a.g) (ldc 24 ga 35 (rc (h10) (Att.c_tag _ hr))) ?_
  refine pcq 41 #[.agg (Att.c a), .func (.func 39) #[] #[], .int .i64 a.v, uN a.g] Tryz.func41 ((esealedA_ok a _ ha).mono ?_)
  rintro e V13 ⟨rfl, kV13⟩
  refine ⟨_, rfl, ?_⟩
  have h15 := kV13.bk h7
  have K16 := K11.nn kV13
  have z17 := kV13.size
  refine pkq (.agg (Sel.c a.sel)) <| pkq (.int .i64 a.err) <| pst 30 gs ((Sel.c a.sel)) h15 (by rw [Sel.c_size _ a.sel_r]; kernel_rfl) (by rw [Sel.c_size _ a.sel_r]; rfl) (Sel.c_one _) fun V18 h19 kV18 => ?_
  have K21 := K16.nO kV18
  have z22 := kV18.size
  refine pkq (.int .i64 a.err) <| eu_ <| sy_out (.tuple #[.agg (Sel.c a.sel), .int .i64 a.err]) rfl (results_row_tmp (p := 2) (q := 3) (ty := 30) (by kernel_rfl) _ _ gs 30 (Sel.c a.sel) (0, 0) _ (.int .i64 a.err) (by kernel_rfl) h19 Tryz.underlying30 rfl (by rw [Sel.c_size _ a.sel_r]; kernel_rfl) (by kernel_rfl)) ?_
  exact ⟨rfl, K21⟩
noncomputable def qc75_2 (n : Nat) : Code := partOf Tryz.f43 n
noncomputable abbrev qo75_2 (n k : Nat) : Oper := (opsAt (qc75_2 n)).getD k default
theorem esealedP_ok (a : Pro) (w : World) (ha : a.Ok) :
    Calls Tryz.prog 43 #[.agg (Pro.c a), .func (.func 37) #[] #[], .int .i64 a.v, .int .u64 ((a.g : Nat) : Int)] w (fun e w' => e = .returned (.tuple #[.agg (Sel.c a.sel), .int .i64 a.err]) ∧ Keeps Nob w w') := by
  have hr := ha.r
  have K0 : Keeps Nob w w := Keeps.refl _ _
  refine sy_enter (qc75_2 1) ⟨#[.agg (Pro.c a), .func (.func 37) #[] #[], .int .i64 a.v, uN a.g, ud, ud, ud, ud, ud, ud, ud, ud, ud, ud, ud, ud, ud, ud, ud, ud, ud, ud, ud, ud, ud, ud], []⟩ Tryz.func43 (by kernel_rfl) (by kernel_rfl) <| qr_ [0, 1, 2] <| pbx 28 ((Pro.c a)) (.agg (Pro.c a)) fun V1 ga ega h2 kV1 => ?_
  have n3 : w.heap.size ≤ ga := ega ▸ K0.size
  have K4 := K0.nn kV1
  have z5 := kV1.size
  refine pal 30 ((Sel.c selZ)) (.agg ((Sel.c selZ))) fun V6 gs egs h7 kV6 => ?_
  have n8 : ga < gs := egs ▸ lt_of_block h2
  have n9 : w.heap.size ≤ gs := egs ▸ K4.size
  have h10 := kV6.bk h2
  have K11 := K4.nn kV6
  have z12 := kV6.size
  refine pkq (.int .i64 0) <| eqr_ [0, 1, 2, 3, 4, 5, 6, 7, 8] <| pkq (.func (.func 37) #[] #[]) <| ppq (.agg (Pro.c a)) (ldr 28 ga (h10) (by rw [Pro.c_size _ hr]; kernel_rfl)) ?_
  refine ps_callV (qo75_2 6 2) (.tmp 13) 37 #[] #[] #[.agg (Pro.c a)] (by kernel_rfl) (by kernel_rfl) (by kernel_rfl) (by kernel_rfl) (by kernel_rfl) (enters_of Tryz.func37 (by kernel_rfl) rfl) ((vDigestBlock_any a _ ha).mono ?_)
  rintro e V13 ⟨rfl, kV13⟩
  refine ⟨_, rfl, ?_⟩
  have h14 := kV13.bk h10
  have h15 := kV13.bk h7
  have K16 := K11.nn kV13
  have z17 := kV13.size
  refine pkq (.tuple #[.agg (B a.dg).toArray, .int .i64 a.err]) <| pkq (.agg (B a.dg).toArray) <| pkq (.int .i64 a.err) <| pal 23 (zr_u8_32) (.agg (zr_u8_32)) fun V18 gx egx h19 kV18 => ?_
  have n20 : ga < gx := egx ▸ lt_of_block h14
  have n21 : gs < gx := egx ▸ lt_of_block h15
  have n22 : w.heap.size ≤ gx := egx ▸ K16.size
  have h24 := kV18.bk h15
  have K25 := K16.nn kV18
  have z26 := kV18.size
  refine pst 23 gx ((B a.dg).toArray) h19 (by rw [Bz_size, Pro.dg_len]; kernel_rfl) (by rw [Bz_size, Pro.dg_len]; rfl) (by rw [List.all_toArray]; exact List.all_eq_true.2 (B_one _)) fun V27 h28 kV27 => ?_
  have h30 := kV27.bO h24
  have K31 := K25.nO kV27
  have z32 := kV27.size
  refine pkq (.int .i64 a.err) <| eq_ <| qr_ [0, 1] ?_
  by_cases c0 : a.fine
  · have e0 := Pro.err_ok c0
    refine pkq (.int .i64 a.err) <| ppq (.bool false) (nqf ((a.err) : Int) ((0) : Int) (by omega)) <| en_ <| s_ <| tqr_ [0, 1, 2, 3, 4, 5] <| pkq (.int .i64 a.v) <| ppq (.agg ((B a.dg).toArray)) (ldr 23 gx (h28) (by rw [Bz_size, (Pro.dg_len a)]; kernel_rfl)) <| pkq (uN a.g) <| ppq (.agg (Sel.c ⟨a.v, a.dg, a.g⟩)) (exec_build_fill 30 #[(0, .tmp 22), (1, .tmp 23), (2, .tmp 24)] (by kernel_rfl) [(0, .int .i64 a.v), (1, .agg ((B a.dg).toArray)), (2, uN a.g)] (by kernel_rfl) _ Tryz.underlying30 (.agg selZ.c) (fun _ => by kernel_rfl) #[(0, 1), (1, 32), (33, 1)] (fun _ => by kernel_rfl) _ (fill_sel a.v a.dg a.g a.dg_len)) <| pst 30 gs ((Sel.c ⟨a.v, a.dg, a.g⟩)) h30 (by rw [Sel.c_size _ (show (⟨a.v, a.dg, a.g⟩ : Sel).r.length = 32 from a.dg_len)]; kernel_rfl) (by rw [Sel.c_size _ (show (⟨a.v, a.dg, a.g⟩ : Sel).r.length = 32 from a.dg_len)]; rfl) (Sel.c_one _) fun V33 h34 kV33 => ?_
    have K37 := K31.nO kV33
    have z38 := kV33.size
    refine pkq (.int .i64 0) <| eu_ <| sy_out (.tuple #[.agg (Sel.c ⟨a.v, a.dg, a.g⟩), .int .i64 0]) rfl (results_row_tmp (p := 8) (q := 9) (ty := 30) (by kernel_rfl) _ _ gs 30 (Sel.c ⟨a.v, a.dg, a.g⟩) (0, 0) _ (.int .i64 0) (by kernel_rfl) h34 Tryz.underlying30 rfl (by rw [Sel.c_size _ (show (⟨a.v, a.dg, a.g⟩ : Sel).r.length = 32 from a.dg_len)]; kernel_rfl) (by kernel_rfl)) ?_
    exact ⟨by simp only [Pro.sel_ok c0, e0], K37⟩
  · have e0 := Pro.err_no c0
    refine pkq (.int .i64 a.err) <| ppq (.bool true) (nqt ((a.err) : Int) ((0) : Int) (by omega)) <| ey_ <| qr_ [0, 1, 2, 3] <| pkq (.agg (Sel.c selZ)) <| pkq (.int .i64 a.err) <| pst 30 gs ((Sel.c selZ)) h30 (by rw [Sel.c_size _ selZ_r]; kernel_rfl) rfl (Sel.c_one _) fun V39 h40 kV39 => ?_
    have K43 := K31.nO kV39
    have z44 := kV39.size
    refine pkq (.int .i64 a.err) <| eu_ <| then_r <| sy_out (.tuple #[.agg (Sel.c selZ), .int .i64 a.err]) rfl (results_row_tmp (p := 8) (q := 9) (ty := 30) (by kernel_rfl) _ _ gs 30 (Sel.c selZ) (0, 0) _ (.int .i64 a.err) (by kernel_rfl) h40 Tryz.underlying30 rfl (by rw [Sel.c_size _ selZ_r]; kernel_rfl) (by kernel_rfl)) ?_
    exact ⟨by simp only [Pro.sel_no c0], K43⟩
noncomputable def qc75_0 (n : Nat) : Code := partOf Tryz.f10 n
theorem eSealBlock_ok (a : Pro) (w : World) (ha : a.Ok) :
    Calls Tryz.prog 10 #[.agg (Pro.c a)] w (fun e w' => e = .returned (.tuple #[.agg (Sel.c a.sel), .int .i64 a.err]) ∧ Keeps Nob w w') := by
  have hr := ha.r
  have K0 : Keeps Nob w w := Keeps.refl _ _
  refine sy_enter (qc75_0 1) ⟨#[.agg (Pro.c a), ud, ud, ud, ud, ud, ud, ud, ud, ud, ud, ud], []⟩ Tryz.func10 (by kernel_rfl) (by kernel_rfl) <| qr_ [0, 1, 2] <| pbx 28 ((Pro.c a)) (.agg (Pro.c a)) fun V1 ga ega h2 kV1 => ?_
  have n3 : w.heap.size ≤ ga := ega ▸ K0.size
  have K4 := K0.nn kV1
  have z5 := kV1.size
  refine pal 30 ((Sel.c selZ)) (.agg ((Sel.c selZ))) fun V6 gs egs h7 kV6 => ?_
  have n8 : ga < gs := egs ▸ lt_of_block h2
  have n9 : w.heap.size ≤ gs := egs ▸ K4.size
  have h10 := kV6.bk h2
  have K11 := K4.nn kV6
  have z12 := kV6.size
  refine pkq (.int .i64 0) <| eqr_ [0, 1, 2, 3, 4, 5, 6, 7, 8, 9] <| ppq (.agg (Pro.c a)) (ldr 28 ga (h10) (by rw [Pro.c_size _ hr]; kernel_rfl)) <| pkq (pT ga 0) <| ppq (.int .i64 a.v) (ldc 3 ga 0 (rc (h10) (Pro.c_0 _))) <| pkq (pT ga 34) <| ppq (uN a.g) (ldc 24 ga 34 (rc (h10) (Pro.c_tag _ hr))) ?_
  refine pcq 43 #[.agg (Pro.c a), .func (.func 37) #[] #[], .int .i64 a.v, uN a.g] Tryz.func43 ((esealedP_ok a _ ha).mono ?_)
  rintro e V13 ⟨rfl, kV13⟩
  refine ⟨_, rfl, ?_⟩
  have h15 := kV13.bk h7
  have K16 := K11.nn kV13
  have z17 := kV13.size
  refine pkq (.agg (Sel.c a.sel)) <| pkq (.int .i64 a.err) <| pst 30 gs ((Sel.c a.sel)) h15 (by rw [Sel.c_size _ a.sel_r]; kernel_rfl) (by rw [Sel.c_size _ a.sel_r]; rfl) (Sel.c_one _) fun V18 h19 kV18 => ?_
  have K21 := K16.nO kV18
  have z22 := kV18.size
  refine pkq (.int .i64 a.err) <| eu_ <| sy_out (.tuple #[.agg (Sel.c a.sel), .int .i64 a.err]) rfl (results_row_tmp (p := 2) (q := 3) (ty := 30) (by kernel_rfl) _ _ gs 30 (Sel.c a.sel) (0, 0) _ (.int .i64 a.err) (by kernel_rfl) h19 Tryz.underlying30 rfl (by rw [Sel.c_size _ a.sel_r]; kernel_rfl) (by kernel_rfl)) ?_
  exact ⟨rfl, K21⟩
noncomputable def qc75_5 (n : Nat) : Code := partOf Tryz.f110 n
noncomputable abbrev qo75_5 (n k : Nat) : Oper := (opsAt (qc75_5 n)).getD k default
theorem sIndex_ok (v : Value) (l : List Sel) (x : Sel) (w : World) (hl : SelsAt w v l) (hlr : ∀ y ∈ l, y.r.length = 32) (hx : x.r.length = 32) :
    Calls Tryz.prog 110 #[v, .agg (Sel.c x)] w (fun e w' => ∃ n : Int, e = .returned (.int .i64 n) ∧ decide (0 ≤ n) = decide (x ∈ l) ∧ Keeps Nob w w') := by
  have hll := hl.len_le
  have K0 : Keeps Nob w w := Keeps.refl _ _
  refine sy_enter (qc75_5 1) ⟨#[v, .agg (Sel.c x), ud, ud, ud, ud, ud, ud, ud, ud, ud, ud, ud, ud, ud, ud, ud, ud, ud], []⟩ Tryz.func110 (by kernel_rfl) (by kernel_rfl) <| qr_ [0, 1] <| pbx 30 ((Sel.c x)) (.agg (Sel.c x)) fun V1 gx egx h2 kV1 => ?_
  have n3 : w.heap.size ≤ gx := egx ▸ K0.size
  have h4 : SelsAt V1 v l := hl.keepsN kV1
  have K5 := K0.nn kV1
  refine pkq (.int .i64 0) <| eq_ <| qr_ [0, 1, 2] <| pkq (v) <| ppq (iN l.length) (exec_len_sl (.tmp 6) 46 30 (by kernel_rfl) Tryz.underlying46 (by kernel_rfl) h4) <| pkq (.int .i64 0) <| et_ <| b_ 0 ?_
  refine sy_loop (qc75_5 52) (fun a V => ∃ (k : Nat) (u4 u5 u9 u10 u11 u12 u13 u14 u15 u16 u17 u18 : Value), (a = ⟨#[v, .agg (Sel.c x), ud, pT gx 0, u4, u5, v, iN l.length, iN k, u9, u10, u11, u12, u13, u14, u15, u16, u17, u18], []⟩) ∧ (k ≤ l.length) ∧ (∀ j, j < k → l[j]? ≠ some x) ∧ (SelsAt V v l) ∧ (V.heap[gx]? = some (.cells (Sel.c x) 30 (0, 0))) ∧ (Keeps Nob w V)) (fun a _ => l.length - (intOf (a.tmps.getD 8 undef)).toNat) (by kernel_rfl) ?_ ?_
  · exact ⟨0, (.int .i64 0), undef, undef, undef, undef, undef, undef, undef, undef, undef, undef, undef, by kernel_rfl, Nat.zero_le _, fun j h => absurd h (by omega), h4, h2, K5⟩
  · rintro a V6 ⟨k, u4, u5, u9, u10, u11, u12, u13, u14, u15, u16, u17, u18, rfl, hk, hs, h7, h8, K9⟩
    rcases (show (∃ y, l[k]? = some y ∧ x = y) ∨ (∃ y, l[k]? = some y ∧ ¬ x = y) ∨ ¬ k < l.length by
        by_cases h : k < l.length
        · by_cases e : x = l[k]
          · exact .inl ⟨_, List.getElem?_eq_getElem h, e⟩
          · exact .inr (.inl ⟨_, List.getElem?_eq_getElem h, e⟩)
        · exact .inr (.inr h)) with ⟨y, hy, hxy⟩ | ⟨y, hy, hxy⟩ | lt_k
    · have lt_k := (List.getElem?_eq_some_iff.1 hy).1
      have hyr := hlr y (List.mem_of_getElem? hy)
      obtain ⟨b_a, o_a, c_a, hv_a, hb_a, _⟩ := (h7).at_ k _ hy
      refine qr_ [0] <| ppq (.bool true) (dct ((((k : Nat) : Int)) < (((l.length : Nat) : Int))) (by omega)) <| eq_ <| y_ <| s_ <| tq_ <| b_ 1 <| qr_ [0, 1] <| pkq (iN k) <| pkq (iN k) <| eq_ <| sy_reg <| rg_still 4 5 (opsAt (qc75_5 3378)) [qo75_5 3378 0, qo75_5 3378 1, qo75_5 3378 2, qo75_5 3378 3, qo75_5 3378 4] [qo75_5 3378 5] (by kernel_rfl) (by kernel_rfl) (by kernel_rfl) (by kernel_rfl) (by kernel_rfl) ?_
      obtain ⟨V11, eV11, kV11⟩ := drew_step V6
      rw [eV11]
      clear eV11
      have h12 : SelsAt V11 v l := h7.keepsN kV11
      have h13 := kV11.bk h8
      have K14 := K9.nn kV11
      refine spq (.agg (Sel.c x)) (ldr 30 gx (h13) (by rw [Sel.c_size _ hx]; kernel_rfl)) <| skq (v) <| skq (iN k) <| spq (pT b_a (o_a + k * 34)) (exec_indexAt_slice 46 (.tmp 12) (.tmp 13) (by kernel_rfl) b_a o_a l.length c_a (Eq.trans (b := v) (by kernel_rfl) hv_a) .i64 k (by kernel_rfl) _ 34 Tryz.underlying46 (by kernel_rfl) (by omega)) <| spq (.agg (Sel.c y)) (exec_load_mid 30 (.tmp 14) (by kernel_rfl) b_a (o_a + k * 34) (by kernel_rfl) (Sel.cl y) _ (Sl.range h12 hy hv_a) Tryz.underlying30 rfl (by rw [Sel.cl_len hyr]; kernel_rfl)) <| st_end <| ls_run (qo75_5 3378 5) (.bool true) (w' := V11) (by kernel_rfl) (exec_cast (congrArg Value.bool (decide_eq_true hxy)) (exec_binop .eql 30 30 (.tmp 11) (.tmp 15) (by kernel_rfl) (.agg (Sel.c x)) (.agg (Sel.c y)) _ (by kernel_rfl) (by kernel_rfl) (run_eqGuard_agg _ _ _ _ _ _ _ sel_guard) (sel_eq x y hx hyr _))) <| ls_end <| then_n <| y_ <| qr_ [0, 1] <| pkq (iN k) <| pkq (iN k) <| eu_ ?_
      refine blk_r <| then_r <| then_r <| blk_r <| then_r <| so_ (.int .i64 ((k : Nat) : Int)) ?_
      exact ⟨_, rfl, by rw [decide_eq_true (show x ∈ l from hxy ▸ List.mem_of_getElem? hy), decide_eq_true (by omega)], K14⟩
    · have lt_k := (List.getElem?_eq_some_iff.1 hy).1
      have hyr := hlr y (List.mem_of_getElem? hy)
      obtain ⟨b_a, o_a, c_a, hv_a, hb_a, _⟩ := (h7).at_ k _ hy
      refine qr_ [0] <| ppq (.bool true) (dct ((((k : Nat) : Int)) < (((l.length : Nat) : Int))) (by omega)) <| eq_ <| y_ <| s_ <| tq_ <| b_ 1 <| qr_ [0, 1] <| pkq (iN k) <| pkq (iN k) <| eq_ <| sy_reg <| rg_still 4 5 (opsAt (qc75_5 3378)) [qo75_5 3378 0, qo75_5 3378 1, qo75_5 3378 2, qo75_5 3378 3, qo75_5 3378 4] [qo75_5 3378 5] (by kernel_rfl) (by kernel_rfl) (by kernel_rfl) (by kernel_rfl) (by kernel_rfl) ?_
      obtain ⟨V16, eV16, kV16⟩ := drew_step V6
      rw [eV16]
      clear eV16
      have h17 : SelsAt V16 v l := h7.keepsN kV16
      have h18 := kV16.bk h8
      have K19 := K9.nn kV16
      refine spq (.agg (Sel.c x)) (ldr 30 gx (h18) (by rw [Sel.c_size _ hx]; kernel_rfl)) <| skq (v) <| skq (iN k) <| spq (pT b_a (o_a + k * 34)) (exec_indexAt_slice 46 (.tmp 12) (.tmp 13) (by kernel_rfl) b_a o_a l.length c_a (Eq.trans (b := v) (by kernel_rfl) hv_a) .i64 k (by kernel_rfl) _ 34 Tryz.underlying46 (by kernel_rfl) (by omega)) <| spq (.agg (Sel.c y)) (exec_load_mid 30 (.tmp 14) (by kernel_rfl) b_a (o_a + k * 34) (by kernel_rfl) (Sel.cl y) _ (Sl.range h17 hy hv_a) Tryz.underlying30 rfl (by rw [Sel.cl_len hyr]; kernel_rfl)) <| st_end <| ls_run (qo75_5 3378 5) (.bool false) (w' := V16) (by kernel_rfl) (exec_cast (congrArg Value.bool (decide_eq_false hxy)) (exec_binop .eql 30 30 (.tmp 11) (.tmp 15) (by kernel_rfl) (.agg (Sel.c x)) (.agg (Sel.c y)) _ (by kernel_rfl) (by kernel_rfl) (run_eqGuard_agg _ _ _ _ _ _ _ sel_guard) (sel_eq x y hx hyr _))) <| ls_end <| then_n <| n_ <| s_ <| blk_n <| tr_ [0, 1] <| ppq (iN (k + 1)) (exec_cast (congrArg (Value.int .i64) (wrapN (k + 1) (by omega))) (by kernel_rfl)) ?_
      refine pkq (iN (k + 1)) <| et_ ?_
      refine ⟨⟨k + 1, u4, (iN k), (.bool true), (iN k), (.agg (Sel.c x)), v, (iN k), (pT b_a (o_a + k * 34)), (.agg (Sel.c y)), (.bool false), u17, (iN (k + 1)), by kernel_rfl, by omega, fun j hj => by by_cases e : j = k; (subst e; rw [hy]; intro e; exact hxy (Option.some.inj e).symm); exact hs j (by omega), h17, h18, K19⟩, ?_⟩
      exact lt_meas (x := l.length - (k + 1)) (y := l.length - k) (by kernel_rfl) (by kernel_rfl) (by omega)
    · have eq_k : k = l.length := by omega
      refine qr_ [0] <| ppq (.bool false) (dcf ((((k : Nat) : Int)) < (((l.length : Nat) : Int))) (by omega)) <| eq_ <| n_ <| sy_exit 0 (by kernel_rfl) <| then_e <| then_e <| blk_e <| tqr_ [0] <| pkq (.int .i64 (-1)) <| eu_ <| so_ (.int .i64 (-1)) ?_
      exact ⟨_, rfl, by rw [decide_eq_false (show ¬ x ∈ l from fun hm => by obtain ⟨j, hj⟩ := List.getElem?_of_mem hm; exact hs j (by have := (List.getElem?_eq_some_iff.1 hj).1; omega) hj)]; rfl, K9⟩
noncomputable def qc75_1 (n : Nat) : Code := partOf Tryz.f88 n
theorem sContains_ok (v : Value) (l : List Sel) (x : Sel) (w : World) (hl : SelsAt w v l) (hlr : ∀ y ∈ l, y.r.length = 32) (hx : x.r.length = 32) :
    Calls Tryz.prog 88 #[v, .agg (Sel.c x)] w (fun e w' => e = .returned (.bool (decide (x ∈ l))) ∧ Keeps Nob w w') := by
  have K0 : Keeps Nob w w := Keeps.refl _ _
  refine sy_enter (qc75_1 1) ⟨#[v, .agg (Sel.c x), ud, ud, ud, ud, ud, ud, ud], []⟩ Tryz.func88 (by kernel_rfl) (by kernel_rfl) <| qr_ [0, 1] <| pbx 30 ((Sel.c x)) (.agg (Sel.c x)) fun V1 gx egx h2 kV1 => ?_
  have n3 : w.heap.size ≤ gx := egx ▸ K0.size
  have h4 : SelsAt V1 v l := hl.keepsN kV1
  have K5 := K0.nn kV1
  have z6 := kV1.size
  refine pkq (.bool false) <| eqr_ [0, 1, 2, 3, 4] <| pkq (v) <| ppq (.agg (Sel.c x)) (ldr 30 gx (h2) (by rw [Sel.c_size _ hx]; kernel_rfl)) ?_
  refine pcq 110 #[v, .agg (Sel.c x)] Tryz.func110 ((sIndex_ok v l x _ h4 hlr hx).mono ?_)
  rintro e V7 ⟨n, rfl, hn, kV7⟩
  refine ⟨_, rfl, ?_⟩
  have K10 := K5.nn kV7
  have z11 := kV7.size
  refine ppq (.bool (decide (x ∈ l))) (exec_cast (congrArg Value.bool (show decide ((n : Int) ≥ ((0 : Int))) = decide (x ∈ l) from hn)) (by kernel_rfl)) <| pkq (.bool (decide (x ∈ l))) <| eu_ <| so_ (.bool (decide (x ∈ l))) ?_
  exact ⟨rfl, K10⟩
noncomputable def qc75_7 (n : Nat) : Code := partOf Tryz.f62 n
theorem sHas_ok (v : Value) (l : List Sel) (x : Sel) (w : World) (hl : SelsAt w v l) (hlr : ∀ y ∈ l, y.r.length = 32) (hx : x.r.length = 32) :
    Calls Tryz.prog 62 #[v, .agg (Sel.c x)] w (fun e w' => e = .returned (.bool (decide (x ∈ l))) ∧ Keeps Nob w w') := by
  have K0 : Keeps Nob w w := Keeps.refl _ _
  refine sy_enter (qc75_7 1) ⟨#[v, .agg (Sel.c x), ud, ud, ud, ud, ud, ud], []⟩ Tryz.func62 (by kernel_rfl) (by kernel_rfl) <| qr_ [0, 1] <| pbx 30 ((Sel.c x)) (.agg (Sel.c x)) fun V1 gx egx h2 kV1 => ?_
  have n3 : w.heap.size ≤ gx := egx ▸ K0.size
  have h4 : SelsAt V1 v l := hl.keepsN kV1
  have K5 := K0.nn kV1
  have z6 := kV1.size
  refine pkq (.bool false) <| eqr_ [0, 1, 2, 3] <| pkq (v) <| ppq (.agg (Sel.c x)) (ldr 30 gx (h2) (by rw [Sel.c_size _ hx]; kernel_rfl)) ?_
  refine pcq 88 #[v, .agg (Sel.c x)] Tryz.func88 ((sContains_ok v l x _ h4 hlr hx).mono ?_)
  rintro e V7 ⟨rfl, kV7⟩
  refine ⟨_, rfl, ?_⟩
  have K10 := K5.nn kV7
  have z11 := kV7.size
  refine pkq (.bool (decide (x ∈ l))) <| eu_ <| so_ (.bool (decide (x ∈ l))) ?_
  exact ⟨rfl, K10⟩
noncomputable def qc75_4 (n : Nat) : Code := partOf Tryz.f48 n
noncomputable abbrev qo75_4 (n k : Nat) : Oper := (opsAt (qc75_4 n)).getD k default
theorem efirst_aa (F0 : FuncId) (A0 : Value) (x0 : Int) (F1 : FuncId) (A1 : Value) (x1 : Int) (g : Nat) (w : World) (hb : w.heap[g]? = some (.cells #[.func (.func (F0)) #[] #[A0], .func (.func (F1)) #[] #[A1]] 80 (0, 0))) (hE0 : ∀ args w, (callFunc F0 args).run Tryz.prog w = .ok (.enter F0 args) w) (hc0 : ∀ W, Keeps Nob w W → Calls Tryz.prog F0 #[A0] W fun e w' => e = .returned (.int .i64 x0) ∧ Keeps Nob W w') (hE1 : ∀ args w, (callFunc F1 args).run Tryz.prog w = .ok (.enter F1 args) w) (hc1 : ∀ W, Keeps Nob w W → Calls Tryz.prog F1 #[A1] W fun e w' => e = .returned (.int .i64 x1) ∧ Keeps Nob W w') :
    Calls Tryz.prog 48 #[.slice (some ⟨g, 0, none⟩) 2 2] w (fun e w' => e = .returned (.int .i64 (firstE [x0, x1])) ∧ Keeps Nob w w') := by
  have K0 : Keeps Nob w w := Keeps.refl _ _
  refine sy_enter (qc75_4 1) ⟨#[.slice (some ⟨g, 0, none⟩) 2 2, ud, ud, ud, ud, ud, ud, ud, ud, ud, ud, ud, ud, ud, ud, ud, ud, ud], []⟩ Tryz.func48 (by kernel_rfl) (by kernel_rfl) <| qr_ [0] <| pkq (.int .i64 0) <| eq_ <| qr_ [0, 1, 2] <| pkq (.slice (some ⟨g, 0, none⟩) 2 2) <| ppq (.int .i64 2) (exec_len (.tmp 6) 120 _ (by kernel_rfl) Tryz.underlying120 (some ⟨g, 0, none⟩) 2 2 (by kernel_rfl)) <| pkq (.int .i64 0) <| et_ <| b_ 0 <| sy_rounds 3 (qc75_4 52) (by kernel_rfl) <| rd_step <| qr_ [0] <| pkq (.bool true) ?_
  refine eq_ <| y_ <| s_ <| tq_ <| b_ 1 <| qr_ [0, 1, 2] <| ppq (pT g 0) (exec_cast (v := pT g (0 + 0 * 1)) (by simp) (exec_indexAt_slice 120 (.tmp 6) (.tmp 8) (by kernel_rfl) g 0 2 2 (by kernel_rfl) .i64 0 (by kernel_rfl) _ 1 Tryz.underlying120 (by kernel_rfl) (by omega))) <| ppq (.func (.func (F0)) #[] #[A0]) (ldk 80 g 0 hb) <| pkq (.func (.func (F0)) #[] #[A0]) <| eqr_ [0, 1, 2] <| pkq (.func (.func (F0)) #[] #[A0]) ?_
  refine ps_callV (qo75_4 3378 1) (.tmp 12) (F0) #[] #[A0] #[A0] (by kernel_rfl) (by kernel_rfl) (by kernel_rfl) (by kernel_rfl) (by kernel_rfl) hE0 ((hc0 _ K0).mono ?_)
  rintro e V1 ⟨rfl, kV1⟩
  refine ⟨_, rfl, ?_⟩
  have h2 := kV1.bk hb
  have K3 := K0.nn kV1
  have z4 := kV1.size
  refine pkq (.int .i64 x0) <| eqr_ [0, 1] ?_
  by_cases c0 : x0 = 0
  · refine pkq (.int .i64 x0) <| ppq (.bool false) (nqf ((x0) : Int) ((0) : Int) (by omega)) <| en_ <| s_ <| blk_n <| tr_ [0, 1] <| pkq (.int .i64 1) <| pkq (.int .i64 1) <| et_ <| rd_step <| qr_ [0] <| pkq (.bool true) <| eq_ <| y_ ?_
    refine s_ <| tq_ <| b_ 1 <| qr_ [0, 1, 2] <| ppq (pT g 1) (exec_cast (v := pT g (0 + 1 * 1)) (by simp) (exec_indexAt_slice 120 (.tmp 6) (.tmp 8) (by kernel_rfl) g 0 2 2 (by kernel_rfl) .i64 1 (by kernel_rfl) _ 1 Tryz.underlying120 (by kernel_rfl) (by omega))) <| ppq (.func (.func (F1)) #[] #[A1]) (ldk 80 g 1 h2) <| pkq (.func (.func (F1)) #[] #[A1]) <| eqr_ [0, 1, 2] <| pkq (.func (.func (F1)) #[] #[A1]) ?_
    refine ps_callV (qo75_4 3378 1) (.tmp 12) (F1) #[] #[A1] #[A1] (by kernel_rfl) (by kernel_rfl) (by kernel_rfl) (by kernel_rfl) (by kernel_rfl) hE1 ((hc1 _ K3).mono ?_)
    rintro e V5 ⟨rfl, kV5⟩
    refine ⟨_, rfl, ?_⟩
    have K7 := K3.nn kV5
    have z8 := kV5.size
    refine pkq (.int .i64 x1) <| eqr_ [0, 1] ?_
    by_cases c1 : x1 = 0
    · refine pkq (.int .i64 x1) <| ppq (.bool false) (nqf ((x1) : Int) ((0) : Int) (by omega)) <| ps_end <| sy_a ⟨#[.slice (some ⟨g, 0, none⟩) 2 2, ud, .int .i64 0, ud, .func (.func (F1)) #[] #[A1], .int .i64 x1, .slice (some ⟨g, 0, none⟩) 2 2, .int .i64 2, .int .i64 1, .bool true, pT g 1, .func (.func (F1)) #[] #[A1], .func (.func (F1)) #[] #[A1], .int .i64 x1, .int .i64 x1, .bool false, ud, .int .i64 1], []⟩ <| then_n <| n_ <| s_ <| blk_n <| tr_ [0, 1] <| pkq (.int .i64 2) <| pkq (.int .i64 2) <| et_ <| rd_step <| qr_ [0] ?_
      refine pkq (.bool false) <| eq_ <| n_ <| sy_exit 0 (by kernel_rfl) <| then_e <| then_e <| blk_e <| tqr_ [0] <| pkq (.int .i64 0) <| eu_ <| so_ (.int .i64 0) ?_
      exact ⟨by simp only [firstE]; simp [c0, c1], K7⟩
    · refine pkq (.int .i64 x1) <| ppq (.bool true) (nqt ((x1) : Int) ((0) : Int) (by omega)) <| ps_end <| sy_a ⟨#[.slice (some ⟨g, 0, none⟩) 2 2, ud, .int .i64 0, ud, .func (.func (F1)) #[] #[A1], .int .i64 x1, .slice (some ⟨g, 0, none⟩) 2 2, .int .i64 2, .int .i64 1, .bool true, pT g 1, .func (.func (F1)) #[] #[A1], .func (.func (F1)) #[] #[A1], .int .i64 x1, .int .i64 x1, .bool true, ud, .int .i64 1], []⟩ <| then_n <| y_ <| qr_ [0, 1] <| pkq (.int .i64 x1) <| pkq (.int .i64 x1) <| eu_ <| blk_r <| then_r <| then_r <| blk_r ?_
      refine then_r <| so_ (.int .i64 x1) ?_
      exact ⟨by simp only [firstE]; simp [c0, c1], K7⟩
  · refine pkq (.int .i64 x0) <| ppq (.bool true) (nqt ((x0) : Int) ((0) : Int) (by omega)) <| ey_ <| qr_ [0, 1] <| pkq (.int .i64 x0) <| pkq (.int .i64 x0) <| eu_ <| blk_r <| then_r <| then_r <| blk_r <| then_r <| so_ (.int .i64 x0) ?_
    exact ⟨by simp only [firstE]; simp [c0], K3⟩
theorem efirst_ab (F0 : FuncId) (A0 : Value) (x0 : Int) (F1 : FuncId) (A1 B1 : Value) (x1 : Int) (g : Nat) (w : World) (hb : w.heap[g]? = some (.cells #[.func (.func (F0)) #[] #[A0], .func (.func (F1)) #[] #[A1, B1]] 80 (0, 0))) (hE0 : ∀ args w, (callFunc F0 args).run Tryz.prog w = .ok (.enter F0 args) w) (hc0 : ∀ W, Keeps Nob w W → Calls Tryz.prog F0 #[A0] W fun e w' => e = .returned (.int .i64 x0) ∧ Keeps Nob W w') (hE1 : ∀ args w, (callFunc F1 args).run Tryz.prog w = .ok (.enter F1 args) w) (hc1 : ∀ W, Keeps Nob w W → Calls Tryz.prog F1 #[A1, B1] W fun e w' => e = .returned (.int .i64 x1) ∧ Keeps Nob W w') :
    Calls Tryz.prog 48 #[.slice (some ⟨g, 0, none⟩) 2 2] w (fun e w' => e = .returned (.int .i64 (firstE [x0, x1])) ∧ Keeps Nob w w') := by
  have K0 : Keeps Nob w w := Keeps.refl _ _
  refine sy_enter (qc75_4 1) ⟨#[.slice (some ⟨g, 0, none⟩) 2 2, ud, ud, ud, ud, ud, ud, ud, ud, ud, ud, ud, ud, ud, ud, ud, ud, ud], []⟩ Tryz.func48 (by kernel_rfl) (by kernel_rfl) <| qr_ [0] <| pkq (.int .i64 0) <| eq_ <| qr_ [0, 1, 2] <| pkq (.slice (some ⟨g, 0, none⟩) 2 2) <| ppq (.int .i64 2) (exec_len (.tmp 6) 120 _ (by kernel_rfl) Tryz.underlying120 (some ⟨g, 0, none⟩) 2 2 (by kernel_rfl)) <| pkq (.int .i64 0) <| et_ <| b_ 0 <| sy_rounds 3 (qc75_4 52) (by kernel_rfl) <| rd_step <| qr_ [0] <| pkq (.bool true) ?_
  refine eq_ <| y_ <| s_ <| tq_ <| b_ 1 <| qr_ [0, 1, 2] <| ppq (pT g 0) (exec_cast (v := pT g (0 + 0 * 1)) (by simp) (exec_indexAt_slice 120 (.tmp 6) (.tmp 8) (by kernel_rfl) g 0 2 2 (by kernel_rfl) .i64 0 (by kernel_rfl) _ 1 Tryz.underlying120 (by kernel_rfl) (by omega))) <| ppq (.func (.func (F0)) #[] #[A0]) (ldk 80 g 0 hb) <| pkq (.func (.func (F0)) #[] #[A0]) <| eqr_ [0, 1, 2] <| pkq (.func (.func (F0)) #[] #[A0]) ?_
  refine ps_callV (qo75_4 3378 1) (.tmp 12) (F0) #[] #[A0] #[A0] (by kernel_rfl) (by kernel_rfl) (by kernel_rfl) (by kernel_rfl) (by kernel_rfl) hE0 ((hc0 _ K0).mono ?_)
  rintro e V1 ⟨rfl, kV1⟩
  refine ⟨_, rfl, ?_⟩
  have h2 := kV1.bk hb
  have K3 := K0.nn kV1
  have z4 := kV1.size
  refine pkq (.int .i64 x0) <| eqr_ [0, 1] ?_
  by_cases c0 : x0 = 0
  · refine pkq (.int .i64 x0) <| ppq (.bool false) (nqf ((x0) : Int) ((0) : Int) (by omega)) <| en_ <| s_ <| blk_n <| tr_ [0, 1] <| pkq (.int .i64 1) <| pkq (.int .i64 1) <| et_ <| rd_step <| qr_ [0] <| pkq (.bool true) <| eq_ <| y_ ?_
    refine s_ <| tq_ <| b_ 1 <| qr_ [0, 1, 2] <| ppq (pT g 1) (exec_cast (v := pT g (0 + 1 * 1)) (by simp) (exec_indexAt_slice 120 (.tmp 6) (.tmp 8) (by kernel_rfl) g 0 2 2 (by kernel_rfl) .i64 1 (by kernel_rfl) _ 1 Tryz.underlying120 (by kernel_rfl) (by omega))) <| ppq (.func (.func (F1)) #[] #[A1, B1]) (ldk 80 g 1 h2) <| pkq (.func (.func (F1)) #[] #[A1, B1]) <| eqr_ [0, 1, 2] <| pkq (.func (.func (F1)) #[] #[A1, B1]) ?_
    refine ps_callV (qo75_4 3378 1) (.tmp 12) (F1) #[] #[A1, B1] #[A1, B1] (by kernel_rfl) (by kernel_rfl) (by kernel_rfl) (by kernel_rfl) (by kernel_rfl) hE1 ((hc1 _ K3).mono ?_)
    rintro e V5 ⟨rfl, kV5⟩
    refine ⟨_, rfl, ?_⟩
    have K7 := K3.nn kV5
    have z8 := kV5.size
    refine pkq (.int .i64 x1) <| eqr_ [0, 1] ?_
    by_cases c1 : x1 = 0
    · refine pkq (.int .i64 x1) <| ppq (.bool false) (nqf ((x1) : Int) ((0) : Int) (by omega)) <| ps_end <| sy_a ⟨#[.slice (some ⟨g, 0, none⟩) 2 2, ud, .int .i64 0, ud, .func (.func (F1)) #[] #[A1, B1], .int .i64 x1, .slice (some ⟨g, 0, none⟩) 2 2, .int .i64 2, .int .i64 1, .bool true, pT g 1, .func (.func (F1)) #[] #[A1, B1], .func (.func (F1)) #[] #[A1, B1], .int .i64 x1, .int .i64 x1, .bool false, ud, .int .i64 1], []⟩ <| then_n <| n_ <| s_ <| blk_n <| tr_ [0, 1] <| pkq (.int .i64 2) <| pkq (.int .i64 2) <| et_ <| rd_step <| qr_ [0] ?_
      refine pkq (.bool false) <| eq_ <| n_ <| sy_exit 0 (by kernel_rfl) <| then_e <| then_e <| blk_e <| tqr_ [0] <| pkq (.int .i64 0) <| eu_ <| so_ (.int .i64 0) ?_
      exact ⟨by simp only [firstE]; simp [c0, c1], K7⟩
    · refine pkq (.int .i64 x1) <| ppq (.bool true) (nqt ((x1) : Int) ((0) : Int) (by omega)) <| ps_end <| sy_a ⟨#[.slice (some ⟨g, 0, none⟩) 2 2, ud, .int .i64 0, ud, .func (.func (F1)) #[] #[A1, B1], .int .i64 x1, .slice (some ⟨g, 0, none⟩) 2 2, .int .i64 2, .int .i64 1, .bool true, pT g 1, .func (.func (F1)) #[] #[A1, B1], .func (.func (F1)) #[] #[A1, B1], .int .i64 x1, .int .i64 x1, .bool true, ud, .int .i64 1], []⟩ <| then_n <| y_ <| qr_ [0, 1] <| pkq (.int .i64 x1) <| pkq (.int .i64 x1) <| eu_ <| blk_r <| then_r <| then_r <| blk_r ?_
      refine then_r <| so_ (.int .i64 x1) ?_
      exact ⟨by simp only [firstE]; simp [c0, c1], K7⟩
  · refine pkq (.int .i64 x0) <| ppq (.bool true) (nqt ((x0) : Int) ((0) : Int) (by omega)) <| ey_ <| qr_ [0, 1] <| pkq (.int .i64 x0) <| pkq (.int .i64 x0) <| eu_ <| blk_r <| then_r <| then_r <| blk_r <| then_r <| so_ (.int .i64 x0) ?_
    exact ⟨by simp only [firstE]; simp [c0], K3⟩
theorem efirst_aaa (F0 : FuncId) (A0 : Value) (x0 : Int) (F1 : FuncId) (A1 : Value) (x1 : Int) (F2 : FuncId) (A2 : Value) (x2 : Int) (g : Nat) (w : World) (hb : w.heap[g]? = some (.cells #[.func (.func (F0)) #[] #[A0], .func (.func (F1)) #[] #[A1], .func (.func (F2)) #[] #[A2]] 80 (0, 0))) (hE0 : ∀ args w, (callFunc F0 args).run Tryz.prog w = .ok (.enter F0 args) w) (hc0 : ∀ W, Keeps Nob w W → Calls Tryz.prog F0 #[A0] W fun e w' => e = .returned (.int .i64 x0) ∧ Keeps Nob W w') (hE1 : ∀ args w, (callFunc F1 args).run Tryz.prog w = .ok (.enter F1 args) w) (hc1 : ∀ W, Keeps Nob w W → Calls Tryz.prog F1 #[A1] W fun e w' => e = .returned (.int .i64 x1) ∧ Keeps Nob W w') (hE2 : ∀ args w, (callFunc F2 args).run Tryz.prog w = .ok (.enter F2 args) w) (hc2 : ∀ W, Keeps Nob w W → Calls Tryz.prog F2 #[A2] W fun e w' => e = .returned (.int .i64 x2) ∧ Keeps Nob W w') :
    Calls Tryz.prog 48 #[.slice (some ⟨g, 0, none⟩) 3 3] w (fun e w' => e = .returned (.int .i64 (firstE [x0, x1, x2])) ∧ Keeps Nob w w') := by
  have K0 : Keeps Nob w w := Keeps.refl _ _
  refine sy_enter (qc75_4 1) ⟨#[.slice (some ⟨g, 0, none⟩) 3 3, ud, ud, ud, ud, ud, ud, ud, ud, ud, ud, ud, ud, ud, ud, ud, ud, ud], []⟩ Tryz.func48 (by kernel_rfl) (by kernel_rfl) <| qr_ [0] <| pkq (.int .i64 0) <| eq_ <| qr_ [0, 1, 2] <| pkq (.slice (some ⟨g, 0, none⟩) 3 3) <| ppq (.int .i64 3) (exec_len (.tmp 6) 120 _ (by kernel_rfl) Tryz.underlying120 (some ⟨g, 0, none⟩) 3 3 (by kernel_rfl)) <| pkq (.int .i64 0) <| et_ <| b_ 0 <| sy_rounds 4 (qc75_4 52) (by kernel_rfl) <| rd_step <| qr_ [0] <| pkq (.bool true) ?_
  refine eq_ <| y_ <| s_ <| tq_ <| b_ 1 <| qr_ [0, 1, 2] <| ppq (pT g 0) (exec_cast (v := pT g (0 + 0 * 1)) (by simp) (exec_indexAt_slice 120 (.tmp 6) (.tmp 8) (by kernel_rfl) g 0 3 3 (by kernel_rfl) .i64 0 (by kernel_rfl) _ 1 Tryz.underlying120 (by kernel_rfl) (by omega))) <| ppq (.func (.func (F0)) #[] #[A0]) (ldk 80 g 0 hb) <| pkq (.func (.func (F0)) #[] #[A0]) <| eqr_ [0, 1, 2] <| pkq (.func (.func (F0)) #[] #[A0]) ?_
  refine ps_callV (qo75_4 3378 1) (.tmp 12) (F0) #[] #[A0] #[A0] (by kernel_rfl) (by kernel_rfl) (by kernel_rfl) (by kernel_rfl) (by kernel_rfl) hE0 ((hc0 _ K0).mono ?_)
  rintro e V1 ⟨rfl, kV1⟩
  refine ⟨_, rfl, ?_⟩
  have h2 := kV1.bk hb
  have K3 := K0.nn kV1
  have z4 := kV1.size
  refine pkq (.int .i64 x0) <| eqr_ [0, 1] ?_
  by_cases c0 : x0 = 0
  · refine pkq (.int .i64 x0) <| ppq (.bool false) (nqf ((x0) : Int) ((0) : Int) (by omega)) <| en_ <| s_ <| blk_n <| tr_ [0, 1] <| pkq (.int .i64 1) <| pkq (.int .i64 1) <| et_ <| rd_step <| qr_ [0] <| pkq (.bool true) <| eq_ <| y_ ?_
    refine s_ <| tq_ <| b_ 1 <| qr_ [0, 1, 2] <| ppq (pT g 1) (exec_cast (v := pT g (0 + 1 * 1)) (by simp) (exec_indexAt_slice 120 (.tmp 6) (.tmp 8) (by kernel_rfl) g 0 3 3 (by kernel_rfl) .i64 1 (by kernel_rfl) _ 1 Tryz.underlying120 (by kernel_rfl) (by omega))) <| ppq (.func (.func (F1)) #[] #[A1]) (ldk 80 g 1 h2) <| pkq (.func (.func (F1)) #[] #[A1]) <| eqr_ [0, 1, 2] <| pkq (.func (.func (F1)) #[] #[A1]) ?_
    refine ps_callV (qo75_4 3378 1) (.tmp 12) (F1) #[] #[A1] #[A1] (by kernel_rfl) (by kernel_rfl) (by kernel_rfl) (by kernel_rfl) (by kernel_rfl) hE1 ((hc1 _ K3).mono ?_)
    rintro e V5 ⟨rfl, kV5⟩
    refine ⟨_, rfl, ?_⟩
    have h6 := kV5.bk h2
    have K7 := K3.nn kV5
    have z8 := kV5.size
    refine pkq (.int .i64 x1) <| eqr_ [0, 1] ?_
    by_cases c1 : x1 = 0
    · refine pkq (.int .i64 x1) <| ppq (.bool false) (nqf ((x1) : Int) ((0) : Int) (by omega)) <| ps_end <| sy_a ⟨#[.slice (some ⟨g, 0, none⟩) 3 3, ud, .int .i64 0, ud, .func (.func (F1)) #[] #[A1], .int .i64 x1, .slice (some ⟨g, 0, none⟩) 3 3, .int .i64 3, .int .i64 1, .bool true, pT g 1, .func (.func (F1)) #[] #[A1], .func (.func (F1)) #[] #[A1], .int .i64 x1, .int .i64 x1, .bool false, ud, .int .i64 1], []⟩ <| then_n <| n_ <| s_ <| blk_n <| tr_ [0, 1] <| pkq (.int .i64 2) <| pkq (.int .i64 2) <| et_ <| rd_step <| qr_ [0] ?_
      refine pkq (.bool true) <| eq_ <| y_ <| s_ <| tq_ <| b_ 1 <| qr_ [0, 1, 2] <| ppq (pT g 2) (exec_cast (v := pT g (0 + 2 * 1)) (by simp) (exec_indexAt_slice 120 (.tmp 6) (.tmp 8) (by kernel_rfl) g 0 3 3 (by kernel_rfl) .i64 2 (by kernel_rfl) _ 1 Tryz.underlying120 (by kernel_rfl) (by omega))) <| ppq (.func (.func (F2)) #[] #[A2]) (ldk 80 g 2 h6) <| pkq (.func (.func (F2)) #[] #[A2]) <| eqr_ [0, 1, 2] <| pkq (.func (.func (F2)) #[] #[A2]) ?_
      refine ps_callV (qo75_4 3378 1) (.tmp 12) (F2) #[] #[A2] #[A2] (by kernel_rfl) (by kernel_rfl) (by kernel_rfl) (by kernel_rfl) (by kernel_rfl) hE2 ((hc2 _ K7).mono ?_)
      rintro e V9 ⟨rfl, kV9⟩
      refine ⟨_, rfl, ?_⟩
      have K11 := K7.nn kV9
      have z12 := kV9.size
      refine pkq (.int .i64 x2) <| eqr_ [0, 1] ?_
      by_cases c2 : x2 = 0
      · refine pkq (.int .i64 x2) <| ppq (.bool false) (nqf ((x2) : Int) ((0) : Int) (by omega)) <| en_ <| s_ <| blk_n <| tr_ [0, 1] <| pkq (.int .i64 3) <| pkq (.int .i64 3) <| et_ <| rd_step <| qr_ [0] <| pkq (.bool false) <| eq_ <| n_ ?_
        refine sy_exit 0 (by kernel_rfl) <| then_e <| then_e <| blk_e <| tqr_ [0] <| pkq (.int .i64 0) <| eu_ <| so_ (.int .i64 0) ?_
        exact ⟨by simp only [firstE]; simp [c0, c1, c2], K11⟩
      · refine pkq (.int .i64 x2) <| ppq (.bool true) (nqt ((x2) : Int) ((0) : Int) (by omega)) <| ey_ <| qr_ [0, 1] <| pkq (.int .i64 x2) <| pkq (.int .i64 x2) <| eu_ <| blk_r <| then_r <| then_r <| blk_r <| then_r <| so_ (.int .i64 x2) ?_
        exact ⟨by simp only [firstE]; simp [c0, c1, c2], K11⟩
    · refine pkq (.int .i64 x1) <| ppq (.bool true) (nqt ((x1) : Int) ((0) : Int) (by omega)) <| ps_end <| sy_a ⟨#[.slice (some ⟨g, 0, none⟩) 3 3, ud, .int .i64 0, ud, .func (.func (F1)) #[] #[A1], .int .i64 x1, .slice (some ⟨g, 0, none⟩) 3 3, .int .i64 3, .int .i64 1, .bool true, pT g 1, .func (.func (F1)) #[] #[A1], .func (.func (F1)) #[] #[A1], .int .i64 x1, .int .i64 x1, .bool true, ud, .int .i64 1], []⟩ <| then_n <| y_ <| qr_ [0, 1] <| pkq (.int .i64 x1) <| pkq (.int .i64 x1) <| eu_ <| blk_r <| then_r <| then_r <| blk_r ?_
      refine then_r <| so_ (.int .i64 x1) ?_
      exact ⟨by simp only [firstE]; simp [c0, c1], K7⟩
  · refine pkq (.int .i64 x0) <| ppq (.bool true) (nqt ((x0) : Int) ((0) : Int) (by omega)) <| ey_ <| qr_ [0, 1] <| pkq (.int .i64 x0) <| pkq (.int .i64 x0) <| eu_ <| blk_r <| then_r <| then_r <| blk_r <| then_r <| so_ (.int .i64 x0) ?_
    exact ⟨by simp only [firstE]; simp [c0], K3⟩
end Go.Proofs.YtcbfnflnokoacaaGreat
namespace Go.Proofs.YtcbfnflnokoacaaGreat
set_option maxRecDepth 100000
set_option maxHeartbeats 4000000
open Go Go.RowKit Go.Own Go.Shelf
def putS (m x : Msg) : Msg := { m with sv := x.sv, ss := x.ss, sp := x.sp, sf := x.sf }
def putA (m : Msg) (x : Att) : Msg := { m with a := x }
def putB (m : Msg) (x : Att) : Msg := { m with b := x }
def putP (m : Msg) (x : Pro) : Msg := { m with p := x }
def putQ (m : Msg) (x : Pro) : Msg := { m with q := x }
section
variable {m : Msg}
theorem putS_R {x : Msg} (h : m.R) : (putS m x).R := ⟨h.a, h.b, h.p, h.q⟩
theorem putA_R {x : Att} (h : m.R) (hx : x.r.length = 32) : (putA m x).R := ⟨hx, h.b, h.p, h.q⟩
theorem putB_R {x : Att} (h : m.R) (hx : x.r.length = 32) : (putB m x).R := ⟨h.a, hx, h.p, h.q⟩
theorem putP_R {x : Pro} (h : m.R) (hx : x.r.length = 32) : (putP m x).R := ⟨h.a, h.b, hx, h.q⟩
theorem putQ_R {x : Pro} (h : m.R) (hx : x.r.length = 32) : (putQ m x).R := ⟨h.a, h.b, h.p, hx⟩
theorem Msg.seg_S (m : Msg) : ∀ (j : Nat) (u : Value), m.st.toList[j]? = some u → m.c[6 + j]? = some u := by
  intro j u h
  have hj : j < 4 := (List.getElem?_eq_some_iff.1 h).1
  match j, hj with
  | 0, _ => exact h
  | 1, _ => exact h
  | 2, _ => exact h
  | 3, _ => exact h
theorem Msg.seg_A (hr : m.R) : ∀ (j : Nat) (u : Value), m.a.c.toList[j]? = some u → m.c[12 + j]? = some u := fun j u h => getA m (by rw [Array.getElem?_toList] at h; exact h)
theorem Msg.seg_B (hr : m.R) : ∀ (j : Nat) (u : Value), m.b.c.toList[j]? = some u → m.c[48 + j]? = some u := fun j u h => getB hr (by rw [Array.getElem?_toList] at h; exact h)
theorem Msg.seg_P (hr : m.R) : ∀ (j : Nat) (u : Value), m.p.c.toList[j]? = some u → m.c[84 + j]? = some u := fun j u h => getP hr (by rw [Array.getElem?_toList] at h; exact h)
theorem Msg.seg_Q (hr : m.R) : ∀ (j : Nat) (u : Value), m.q.c.toList[j]? = some u → m.c[119 + j]? = some u := fun j u h => getQ hr (by rw [Array.getElem?_toList] at h; exact h)
theorem Msg.set_S (_hr : m.R) (x : Msg) : seg m.c 6 x.st.toList = (putS m x).c := rfl
theorem full_seg {y xs : List Value} (h : xs.length = y.length) : y.take 0 ++ (xs ++ y.drop (0 + xs.length)) = xs := by
  rw [Nat.zero_add, h, List.drop_length]; simp
theorem Msg.set_A (hr : m.R) (x : Att) (hx : x.r.length = 32) : seg m.c 12 x.c.toList = (putA m x).c :=
  (segM (Msg.cl_a m) Msg.hd_len (j := 0) (by rw [Att.tl hr.a, Att.tl hx]; decide) (full_seg (by rw [Att.tl hr.a, Att.tl hx]))).trans rfl
theorem Msg.set_B (hr : m.R) (x : Att) (hx : x.r.length = 32) : seg m.c 48 x.c.toList = (putB m x).c :=
  (segM (Msg.cl_b m) (len_b hr) (j := 0) (by rw [Att.tl hr.b, Att.tl hx]; decide) (full_seg (by rw [Att.tl hr.b, Att.tl hx]))).trans (by rw [Msg.c, Msg.cl_b]; rfl)
theorem Msg.set_P (hr : m.R) (x : Pro) (hx : x.r.length = 32) : seg m.c 84 x.c.toList = (putP m x).c :=
  (segM (Msg.cl_p m) (len_p hr) (j := 0) (by rw [Pro.tl hr.p, Pro.tl hx]; decide) (full_seg (by rw [Pro.tl hr.p, Pro.tl hx]))).trans (by rw [Msg.c, Msg.cl_p]; rfl)
theorem Msg.set_Q (hr : m.R) (x : Pro) (hx : x.r.length = 32) : seg m.c 119 x.c.toList = (putQ m x).c :=
  (segM (Msg.cl_q m) (len_q hr) (j := 0) (by rw [Pro.tl hr.q, Pro.tl hx]; decide) (full_seg (by rw [Pro.tl hr.q, Pro.tl hx]))).trans (by rw [Msg.c, Msg.cl_q]; rfl)
end
end Go.Proofs.YtcbfnflnokoacaaGreat
