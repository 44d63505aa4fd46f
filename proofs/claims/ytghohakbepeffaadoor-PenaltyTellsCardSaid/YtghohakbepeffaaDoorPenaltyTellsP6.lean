/-
  PenaltyTells proved: for every input the law returns true, and each argument reads as it did. Conditions: none.
-/
import Derived.Test.YtghohakbepeffaaDoorPenaltyTellsP5
namespace Go.Proofs.YtghohakbepeffaaDoor
set_option maxRecDepth 100000
set_option maxHeartbeats 4000000
open Go Go.RowKit Go.Own Go.Shelf
/-- Why this note may not be behind these, for the document's look. -/
theorem radd_cases (l : List Nt) (x : Nt) : (x.bad ∧ nmay x l = 3) ∨ (¬ x.bad ∧ l.length = 0 ∧ nmay x l = 0) ∨ (∃ k y, ¬ x.bad ∧ k + 1 = l.length ∧ l[k]? = some y ∧ x.h < y.h ∧ nmay x l = 9) ∨ (∃ k y, ¬ x.bad ∧ k + 1 = l.length ∧ l[k]? = some y ∧ ¬ x.h < y.h ∧ nmay x l = 0) := by
  by_cases hb : x.bad
  · exact .inl ⟨hb, nmay_bad hb⟩
  · by_cases h0 : l = []
    · subst h0; exact .inr (.inl ⟨hb, rfl, nmay_nil hb⟩)
    · obtain ⟨k, y, hk, hy⟩ := nt_last h0
      have e := nmay_last hb hk hy
      by_cases ho : x.h < y.h
      · exact .inr (.inr (.inl ⟨k, y, hb, hk, hy, ho, by rw [e, if_pos ho]⟩))
      · exact .inr (.inr (.inr ⟨k, y, hb, hk, hy, ho, by rw [e, if_neg ho]⟩))
noncomputable def qc77_1 (n : Nat) : Code := partOf Tryd.f13 n
noncomputable abbrev qo77_1 (n k : Nat) : Oper := (opsAt (qc77_1 n)).getD k default
theorem r23Add_chk (l : List Nt) (x : Nt) (v : Value) (w : World) (hl : Sl w 2 Nt.cl v l) (hc : ¬ (ncheck l).1 = 0) :
    Calls Tryd.prog 13 #[v, .agg #[.int .i64 x.h, .int .u64 ((x.s : Nat) : Int)]] w (fun e w' => ∃ X, e = .returned (.tuple #[X, .int .i64 (nadd l x).2]) ∧ Row w' 27 2 X ((nadd l x).1).length (((nadd l x).1).flatMap Nt.cl) ∧ NewFrom w.heap.size X ∧ Keeps Nob w w') := by
  obtain ⟨i2, hi2, hs0, hs1, hs2⟩ := info_parts note_info0
  have hln := Sl.len_le hl
  have K0 : Keeps Nob w w := Keeps.refl _ _
  refine sy_enter (qc77_1 1) ⟨#[v, .agg #[.int .i64 x.h, uN x.s], ud, ud, ud, ud, ud, ud, ud, ud, ud, ud, ud, ud, ud, ud, ud, ud, ud, ud, ud, ud, ud, ud, ud, ud, ud, ud, ud, ud, ud, ud, ud, ud, ud, ud, ud, ud, ud, ud, ud, ud, ud, ud, ud, ud], []⟩ Tryd.func13 (by kernel_rfl) (by kernel_rfl) <| qr_ [0, 1, 2] <| pbx 27 (#[.int .i64 x.h, .int .u64 ((x.s : Nat) : Int)]) (.agg #[.int .i64 x.h, uN x.s]) fun V1 gx egx h2 kV1 => ?_
  have n3 : w.heap.size ≤ gx := egx ▸ K0.size
  have K4 := K0.nn kV1
  have z5 := kV1.size
  refine pkq (.slice none 0 0) <| pkq (.int .i64 0) <| eqr_ [0, 1, 2, 3, 4, 5, 6] <| pkq (v) ?_
  refine pcq 7 #[v] Tryd.func7 ((r23Check_is l v _ _ (hl.keepsN K4) rfl).mono ?_)
  rintro e V6 ⟨rfl, kV6⟩
  refine ⟨_, rfl, ?_⟩
  have K8 := K4.nn kV6
  have z9 := kV6.size
  refine pkq (.tuple #[.int .i64 (ncheck l).1, .int .i64 (ncheck l).2]) <| pkq (.int .i64 (ncheck l).1) <| pkq (.int .i64 (ncheck l).2) <| pkq (.int .i64 (ncheck l).1) <| pkq (.int .i64 (ncheck l).2) <| eq_ <| bl_ 0 <| qr_ [0, 1, 2] <| pkq (.int .i64 (ncheck l).1) <| ppq (.bool true) (nqt (((ncheck l).1) : Int) ((0) : Int) (by omega)) <| pkq (.bool true) <| ey_ <| qr_ [0, 1, 2] <| pkq (.int .i64 (ncheck l).1) ?_
  refine pkq (.slice none 0 0) <| pkq (.int .i64 (ncheck l).1) <| eu_ <| blk_r <| then_r <| so_ (.tuple #[.slice none 0 0, .int .i64 (ncheck l).1]) ?_
  exact ⟨_, by rw [nadd_chk hc], by rw [nadd_chk hc]; exact World.ownsRow_nil _ _ _ _, NewFrom.nil _, K8⟩
theorem r23Add_bad (l : List Nt) (x : Nt) (v : Value) (w : World) (hl : Sl w 2 Nt.cl v l) (hc : (ncheck l).1 = 0) (hb : x.bad) (he : nmay x l = 3) :
    Calls Tryd.prog 13 #[v, .agg #[.int .i64 x.h, .int .u64 ((x.s : Nat) : Int)]] w (fun e w' => ∃ X, e = .returned (.tuple #[X, .int .i64 (nadd l x).2]) ∧ Row w' 27 2 X ((nadd l x).1).length (((nadd l x).1).flatMap Nt.cl) ∧ NewFrom w.heap.size X ∧ Keeps Nob w w') := by
  obtain ⟨i2, hi2, hs0, hs1, hs2⟩ := info_parts note_info0
  have hln := Sl.len_le hl
  have K0 : Keeps Nob w w := Keeps.refl _ _
  refine sy_enter (qc77_1 1) ⟨#[v, .agg #[.int .i64 x.h, uN x.s], ud, ud, ud, ud, ud, ud, ud, ud, ud, ud, ud, ud, ud, ud, ud, ud, ud, ud, ud, ud, ud, ud, ud, ud, ud, ud, ud, ud, ud, ud, ud, ud, ud, ud, ud, ud, ud, ud, ud, ud, ud, ud, ud, ud], []⟩ Tryd.func13 (by kernel_rfl) (by kernel_rfl) <| qr_ [0, 1, 2] <| pbx 27 (#[.int .i64 x.h, .int .u64 ((x.s : Nat) : Int)]) (.agg #[.int .i64 x.h, uN x.s]) fun V1 gx egx h2 kV1 => ?_
  have n3 : w.heap.size ≤ gx := egx ▸ K0.size
  have K4 := K0.nn kV1
  have z5 := kV1.size
  refine pkq (.slice none 0 0) <| pkq (.int .i64 0) <| eqr_ [0, 1, 2, 3, 4, 5, 6] <| pkq (v) ?_
  refine pcq 7 #[v] Tryd.func7 ((r23Check_is l v _ _ (hl.keepsN K4) hc).mono ?_)
  rintro e V6 ⟨rfl, kV6⟩
  refine ⟨_, rfl, ?_⟩
  have h7 := kV6.bk h2
  have K8 := K4.nn kV6
  have z9 := kV6.size
  refine pkq (.tuple #[.int .i64 0, .int .i64 (ncheck l).2]) <| pkq (.int .i64 0) <| pkq (.int .i64 (ncheck l).2) <| pkq (.int .i64 0) <| pkq (.int .i64 (ncheck l).2) <| eq_ <| bl_ 0 <| qr_ [0, 1, 2] <| pkq (.int .i64 0) <| pkq (.bool false) <| pkq (.bool false) <| en_ <| qr_ [0, 1, 2, 3] <| ppq (.agg #[.int .i64 x.h, uN x.s]) (ldr 27 gx (h7) (by kernel_rfl)) ?_
  refine pcq 24 #[.agg #[.int .i64 x.h, uN x.s]] Tryd.func24 ((r23may_bad x _ hb).mono ?_)
  rintro e V10 ⟨rfl, kV10⟩
  refine ⟨_, rfl, ?_⟩
  have K12 := K8.nn kV10
  have z13 := kV10.size
  refine pkq (.bool true) <| pkq (.bool true) <| ey_ <| qr_ [0, 1] <| pkq (.slice none 0 0) <| pkq (.int .i64 3) <| eu_ <| blk_r <| then_r <| so_ (.tuple #[.slice none 0 0, .int .i64 3]) ?_
  exact ⟨_, by rw [nadd_may hc he (by decide)], by rw [nadd_may hc he (by decide)]; exact World.ownsRow_nil _ _ _ _, NewFrom.nil _, K12⟩
theorem r23Add_ord (l : List Nt) (x : Nt) (v : Value) (w : World) (hl : Sl w 2 Nt.cl v l) (hc : (ncheck l).1 = 0) (hb : ¬ x.bad) (k : Nat) (y : Nt) (hk : k + 1 = l.length) (hy : l[k]? = some y) (ho : x.h < y.h) (he : nmay x l = 9) :
    Calls Tryd.prog 13 #[v, .agg #[.int .i64 x.h, .int .u64 ((x.s : Nat) : Int)]] w (fun e w' => ∃ X, e = .returned (.tuple #[X, .int .i64 (nadd l x).2]) ∧ Row w' 27 2 X ((nadd l x).1).length (((nadd l x).1).flatMap Nt.cl) ∧ NewFrom w.heap.size X ∧ Keeps Nob w w') := by
  obtain ⟨i2, hi2, hs0, hs1, hs2⟩ := info_parts note_info0
  have hln := Sl.len_le hl
  obtain ⟨b_, o_, c_, hv_, hb_, _⟩ := hl.at_ k _ hy
  have K0 : Keeps Nob w w := Keeps.refl _ _
  refine sy_enter (qc77_1 1) ⟨#[v, .agg #[.int .i64 x.h, uN x.s], ud, ud, ud, ud, ud, ud, ud, ud, ud, ud, ud, ud, ud, ud, ud, ud, ud, ud, ud, ud, ud, ud, ud, ud, ud, ud, ud, ud, ud, ud, ud, ud, ud, ud, ud, ud, ud, ud, ud, ud, ud, ud, ud, ud], []⟩ Tryd.func13 (by kernel_rfl) (by kernel_rfl) <| qr_ [0, 1, 2] <| pbx 27 (#[.int .i64 x.h, .int .u64 ((x.s : Nat) : Int)]) (.agg #[.int .i64 x.h, uN x.s]) fun V1 gx egx h2 kV1 => ?_
  have n3 : w.heap.size ≤ gx := egx ▸ K0.size
  have K4 := K0.nn kV1
  have z5 := kV1.size
  refine pkq (.slice none 0 0) <| pkq (.int .i64 0) <| eqr_ [0, 1, 2, 3, 4, 5, 6] <| pkq (v) ?_
  refine pcq 7 #[v] Tryd.func7 ((r23Check_is l v _ _ (hl.keepsN K4) hc).mono ?_)
  rintro e V6 ⟨rfl, kV6⟩
  refine ⟨_, rfl, ?_⟩
  have h7 := kV6.bk h2
  have K8 := K4.nn kV6
  have z9 := kV6.size
  refine pkq (.tuple #[.int .i64 0, .int .i64 (ncheck l).2]) <| pkq (.int .i64 0) <| pkq (.int .i64 (ncheck l).2) <| pkq (.int .i64 0) <| pkq (.int .i64 (ncheck l).2) <| eq_ <| bl_ 0 <| qr_ [0, 1, 2] <| pkq (.int .i64 0) <| pkq (.bool false) <| pkq (.bool false) <| en_ <| qr_ [0, 1, 2, 3] <| ppq (.agg #[.int .i64 x.h, uN x.s]) (ldr 27 gx (h7) (by kernel_rfl)) ?_
  refine pcq 24 #[.agg #[.int .i64 x.h, uN x.s]] Tryd.func24 ((r23may_good x _ hb).mono ?_)
  rintro e V10 ⟨rfl, kV10⟩
  refine ⟨_, rfl, ?_⟩
  have h11 := kV10.bk h7
  have K12 := K8.nn kV10
  have z13 := kV10.size
  refine pkq (.bool false) <| pkq (.bool false) <| en_ <| q_ <| sy_reg <| rg_still 6 15 (opsAt (qc77_1 926)) [qo77_1 926 0, qo77_1 926 1, qo77_1 926 2, qo77_1 926 3, qo77_1 926 4, qo77_1 926 5, qo77_1 926 6, qo77_1 926 7, qo77_1 926 8, qo77_1 926 9, qo77_1 926 10, qo77_1 926 11, qo77_1 926 12, qo77_1 926 13, qo77_1 926 14] [qo77_1 926 15] (by kernel_rfl) (by kernel_rfl) (by kernel_rfl) (by kernel_rfl) (by kernel_rfl) ?_
  obtain ⟨V15, eV15, kV15⟩ := drew_step V10
  rw [eV15]
  clear eV15
  have h16 := kV15.bk h11
  have K17 := K12.nn kV15
  have z18 := kV15.size
  refine skq (v) <| spq (iN l.length) (exec_len_sl (.tmp 22) 25 27 (by kernel_rfl) Tryd.underlying25 (by kernel_rfl) (hl.keepsN K17)) <| spq (.bool true) (dct ((((l.length : Nat) : Int)) > ((0) : Int)) (by omega)) <| skq (.bool true) <| skq (pT gx 0) <| spq (.int .i64 x.h) (ldk 3 gx 0 h16) <| skq (v) <| skq (v) <| spq (iN l.length) (exec_len_sl (.tmp 29) 25 27 (by kernel_rfl) Tryd.underlying25 (by kernel_rfl) (hl.keepsN K17)) <| spq (iN k) (exec_cast (congrArg (Value.int .i64) (wrapI (((l.length : Nat) : Int) - 1) ((k : Nat) : Int) (by omega) (by omega) (by omega))) (by kernel_rfl)) <| spq (pT b_ (o_ + k * 2)) (exec_indexAt_slice 25 (.tmp 28) (.tmp 31) (by kernel_rfl) b_ o_ l.length c_ (Eq.trans (b := v) (by kernel_rfl) hv_) .i64 k (by kernel_rfl) _ 2 Tryd.underlying25 (by kernel_rfl) (by omega)) <| skq (pT b_ (o_ + k * 2 + 0)) <| spq (.int .i64 y.h) (ldc 3 b_ (o_ + k * 2 + 0) (Sl.cell (hl.keepsN K17) hy hv_ rfl)) <| spq (.bool true) (dct (((x.h) : Int) < ((y.h) : Int)) (by omega)) ?_
  refine skq (.bool true) <| st_end <| ls_run (qo77_1 926 15) (.bool true) (w' := V15) (by kernel_rfl) (by kernel_rfl) <| ls_end <| sy_a ⟨#[v, .agg #[.int .i64 x.h, uN x.s], ud, pT gx 0, .slice none 0 0, .int .i64 0, .int .i64 0, .int .i64 (ncheck l).2, .tuple #[.int .i64 0, .int .i64 (ncheck l).2], v, .tuple #[.int .i64 0, .int .i64 (ncheck l).2], .int .i64 0, .int .i64 (ncheck l).2, .bool false, .int .i64 0, .bool false, ud, .bool false, .agg #[.int .i64 x.h, uN x.s], .bool true, .bool false, .bool true, v, iN l.length, .bool true, .bool true, pT gx 0, .int .i64 x.h, v, v, iN l.length, iN k, pT b_ (o_ + k * 2), pT b_ (o_ + k * 2 + 0), .int .i64 y.h, .bool true, .bool true, ud, ud, ud, ud, ud, ud, ud, ud, ud], []⟩ <| then_n <| y_ <| qr_ [0, 1] <| pkq (.slice none 0 0) <| pkq (.int .i64 9) <| eu_ <| blk_r <| then_r <| so_ (.tuple #[.slice none 0 0, .int .i64 9]) ?_
  exact ⟨_, by rw [nadd_may hc he (by decide)], by rw [nadd_may hc he (by decide)]; exact World.ownsRow_nil _ _ _ _, NewFrom.nil _, K17⟩
theorem r23Add_full (l : List Nt) (x : Nt) (v : Value) (w : World) (hl : Sl w 2 Nt.cl v l) (hc : (ncheck l).1 = 0) (hb : ¬ x.bad) (k : Nat) (y : Nt) (hk : k + 1 = l.length) (hy : l[k]? = some y) (ho : ¬ x.h < y.h) (he : nmay x l = 0) (hf : 64 ≤ l.length) :
    Calls Tryd.prog 13 #[v, .agg #[.int .i64 x.h, .int .u64 ((x.s : Nat) : Int)]] w (fun e w' => ∃ X, e = .returned (.tuple #[X, .int .i64 (nadd l x).2]) ∧ Row w' 27 2 X ((nadd l x).1).length (((nadd l x).1).flatMap Nt.cl) ∧ NewFrom w.heap.size X ∧ Keeps Nob w w') := by
  obtain ⟨i2, hi2, hs0, hs1, hs2⟩ := info_parts note_info0
  have hln := Sl.len_le hl
  obtain ⟨b_, o_, c_, hv_, hb_, _⟩ := hl.at_ k _ hy
  have K0 : Keeps Nob w w := Keeps.refl _ _
  refine sy_enter (qc77_1 1) ⟨#[v, .agg #[.int .i64 x.h, uN x.s], ud, ud, ud, ud, ud, ud, ud, ud, ud, ud, ud, ud, ud, ud, ud, ud, ud, ud, ud, ud, ud, ud, ud, ud, ud, ud, ud, ud, ud, ud, ud, ud, ud, ud, ud, ud, ud, ud, ud, ud, ud, ud, ud, ud], []⟩ Tryd.func13 (by kernel_rfl) (by kernel_rfl) <| qr_ [0, 1, 2] <| pbx 27 (#[.int .i64 x.h, .int .u64 ((x.s : Nat) : Int)]) (.agg #[.int .i64 x.h, uN x.s]) fun V1 gx egx h2 kV1 => ?_
  have n3 : w.heap.size ≤ gx := egx ▸ K0.size
  have K4 := K0.nn kV1
  have z5 := kV1.size
  refine pkq (.slice none 0 0) <| pkq (.int .i64 0) <| eqr_ [0, 1, 2, 3, 4, 5, 6] <| pkq (v) ?_
  refine pcq 7 #[v] Tryd.func7 ((r23Check_is l v _ _ (hl.keepsN K4) hc).mono ?_)
  rintro e V6 ⟨rfl, kV6⟩
  refine ⟨_, rfl, ?_⟩
  have h7 := kV6.bk h2
  have K8 := K4.nn kV6
  have z9 := kV6.size
  refine pkq (.tuple #[.int .i64 0, .int .i64 (ncheck l).2]) <| pkq (.int .i64 0) <| pkq (.int .i64 (ncheck l).2) <| pkq (.int .i64 0) <| pkq (.int .i64 (ncheck l).2) <| eq_ <| bl_ 0 <| qr_ [0, 1, 2] <| pkq (.int .i64 0) <| pkq (.bool false) <| pkq (.bool false) <| en_ <| qr_ [0, 1, 2, 3] <| ppq (.agg #[.int .i64 x.h, uN x.s]) (ldr 27 gx (h7) (by kernel_rfl)) ?_
  refine pcq 24 #[.agg #[.int .i64 x.h, uN x.s]] Tryd.func24 ((r23may_good x _ hb).mono ?_)
  rintro e V10 ⟨rfl, kV10⟩
  refine ⟨_, rfl, ?_⟩
  have h11 := kV10.bk h7
  have K12 := K8.nn kV10
  have z13 := kV10.size
  refine pkq (.bool false) <| pkq (.bool false) <| en_ <| q_ <| sy_reg <| rg_still 6 15 (opsAt (qc77_1 926)) [qo77_1 926 0, qo77_1 926 1, qo77_1 926 2, qo77_1 926 3, qo77_1 926 4, qo77_1 926 5, qo77_1 926 6, qo77_1 926 7, qo77_1 926 8, qo77_1 926 9, qo77_1 926 10, qo77_1 926 11, qo77_1 926 12, qo77_1 926 13, qo77_1 926 14] [qo77_1 926 15] (by kernel_rfl) (by kernel_rfl) (by kernel_rfl) (by kernel_rfl) (by kernel_rfl) ?_
  obtain ⟨V15, eV15, kV15⟩ := drew_step V10
  rw [eV15]
  clear eV15
  have h16 := kV15.bk h11
  have K17 := K12.nn kV15
  have z18 := kV15.size
  refine skq (v) <| spq (iN l.length) (exec_len_sl (.tmp 22) 25 27 (by kernel_rfl) Tryd.underlying25 (by kernel_rfl) (hl.keepsN K17)) <| spq (.bool true) (dct ((((l.length : Nat) : Int)) > ((0) : Int)) (by omega)) <| skq (.bool true) <| skq (pT gx 0) <| spq (.int .i64 x.h) (ldk 3 gx 0 h16) <| skq (v) <| skq (v) <| spq (iN l.length) (exec_len_sl (.tmp 29) 25 27 (by kernel_rfl) Tryd.underlying25 (by kernel_rfl) (hl.keepsN K17)) <| spq (iN k) (exec_cast (congrArg (Value.int .i64) (wrapI (((l.length : Nat) : Int) - 1) ((k : Nat) : Int) (by omega) (by omega) (by omega))) (by kernel_rfl)) <| spq (pT b_ (o_ + k * 2)) (exec_indexAt_slice 25 (.tmp 28) (.tmp 31) (by kernel_rfl) b_ o_ l.length c_ (Eq.trans (b := v) (by kernel_rfl) hv_) .i64 k (by kernel_rfl) _ 2 Tryd.underlying25 (by kernel_rfl) (by omega)) <| skq (pT b_ (o_ + k * 2 + 0)) <| spq (.int .i64 y.h) (ldc 3 b_ (o_ + k * 2 + 0) (Sl.cell (hl.keepsN K17) hy hv_ rfl)) <| spq (.bool false) (dcf (((x.h) : Int) < ((y.h) : Int)) (by omega)) ?_
  refine skq (.bool false) <| st_end <| ls_run (qo77_1 926 15) (.bool false) (w' := V15) (by kernel_rfl) (by kernel_rfl) <| ls_end <| sy_a ⟨#[v, .agg #[.int .i64 x.h, uN x.s], ud, pT gx 0, .slice none 0 0, .int .i64 0, .int .i64 0, .int .i64 (ncheck l).2, .tuple #[.int .i64 0, .int .i64 (ncheck l).2], v, .tuple #[.int .i64 0, .int .i64 (ncheck l).2], .int .i64 0, .int .i64 (ncheck l).2, .bool false, .int .i64 0, .bool false, ud, .bool false, .agg #[.int .i64 x.h, uN x.s], .bool true, .bool false, .bool false, v, iN l.length, .bool true, .bool true, pT gx 0, .int .i64 x.h, v, v, iN l.length, iN k, pT b_ (o_ + k * 2), pT b_ (o_ + k * 2 + 0), .int .i64 y.h, .bool false, .bool false, ud, ud, ud, ud, ud, ud, ud, ud, ud], []⟩ <| then_n <| n_ <| qr_ [0, 1, 2, 3] <| pkq (v) <| ppq (iN l.length) (exec_len_sl (.tmp 38) 25 27 (by kernel_rfl) Tryd.underlying25 (by kernel_rfl) (hl.keepsN K17)) <| ppq (.bool true) (dct ((((l.length : Nat) : Int)) ≥ ((64) : Int)) (by omega)) <| pkq (.bool true) <| ey_ <| qr_ [0, 1] ?_
  refine pkq (.slice none 0 0) <| pkq (.int .i64 4) <| eu_ <| blk_r <| then_r <| so_ (.tuple #[.slice none 0 0, .int .i64 4]) ?_
  exact ⟨_, by rw [nadd_full hc he hf], by rw [nadd_full hc he hf]; exact World.ownsRow_nil _ _ _ _, NewFrom.nil _, K17⟩
theorem r23Add_ok (l : List Nt) (x : Nt) (v : Value) (w : World) (hl : Sl w 2 Nt.cl v l) (hc : (ncheck l).1 = 0) (hb : ¬ x.bad) (k : Nat) (y : Nt) (hk : k + 1 = l.length) (hy : l[k]? = some y) (ho : ¬ x.h < y.h) (he : nmay x l = 0) (hf : ¬ 64 ≤ l.length) :
    Calls Tryd.prog 13 #[v, .agg #[.int .i64 x.h, .int .u64 ((x.s : Nat) : Int)]] w (fun e w' => ∃ X, e = .returned (.tuple #[X, .int .i64 (nadd l x).2]) ∧ Row w' 27 2 X ((nadd l x).1).length (((nadd l x).1).flatMap Nt.cl) ∧ NewFrom w.heap.size X ∧ Keeps Nob w w') := by
  obtain ⟨i2, hi2, hs0, hs1, hs2⟩ := info_parts note_info0
  have hln := Sl.len_le hl
  obtain ⟨b_, o_, c_, hv_, hb_, _⟩ := hl.at_ k _ hy
  have K0 : Keeps Nob w w := Keeps.refl _ _
  refine sy_enter (qc77_1 1) ⟨#[v, .agg #[.int .i64 x.h, uN x.s], ud, ud, ud, ud, ud, ud, ud, ud, ud, ud, ud, ud, ud, ud, ud, ud, ud, ud, ud, ud, ud, ud, ud, ud, ud, ud, ud, ud, ud, ud, ud, ud, ud, ud, ud, ud, ud, ud, ud, ud, ud, ud, ud, ud], []⟩ Tryd.func13 (by kernel_rfl) (by kernel_rfl) <| qr_ [0, 1, 2] <| pbx 27 (#[.int .i64 x.h, .int .u64 ((x.s : Nat) : Int)]) (.agg #[.int .i64 x.h, uN x.s]) fun V1 gx egx h2 kV1 => ?_
  have n3 : w.heap.size ≤ gx := egx ▸ K0.size
  have K4 := K0.nn kV1
  have z5 := kV1.size
  refine pkq (.slice none 0 0) <| pkq (.int .i64 0) <| eqr_ [0, 1, 2, 3, 4, 5, 6] <| pkq (v) ?_
  refine pcq 7 #[v] Tryd.func7 ((r23Check_is l v _ _ (hl.keepsN K4) hc).mono ?_)
  rintro e V6 ⟨rfl, kV6⟩
  refine ⟨_, rfl, ?_⟩
  have h7 := kV6.bk h2
  have K8 := K4.nn kV6
  have z9 := kV6.size
  refine pkq (.tuple #[.int .i64 0, .int .i64 (ncheck l).2]) <| pkq (.int .i64 0) <| pkq (.int .i64 (ncheck l).2) <| pkq (.int .i64 0) <| pkq (.int .i64 (ncheck l).2) <| eq_ <| bl_ 0 <| qr_ [0, 1, 2] <| pkq (.int .i64 0) <| pkq (.bool false) <| pkq (.bool false) <| en_ <| qr_ [0, 1, 2, 3] <| ppq (.agg #[.int .i64 x.h, uN x.s]) (ldr 27 gx (h7) (by kernel_rfl)) ?_
  refine pcq 24 #[.agg #[.int .i64 x.h, uN x.s]] Tryd.func24 ((r23may_good x _ hb).mono ?_)
  rintro e V10 ⟨rfl, kV10⟩
  refine ⟨_, rfl, ?_⟩
  have h11 := kV10.bk h7
  have K12 := K8.nn kV10
  have z13 := kV10.size
  refine pkq (.bool false) <| pkq (.bool false) <| en_ <| q_ <| sy_reg <| rg_still 6 15 (opsAt (qc77_1 926)) [qo77_1 926 0, qo77_1 926 1, qo77_1 926 2, qo77_1 926 3, qo77_1 926 4, qo77_1 926 5, qo77_1 926 6, qo77_1 926 7, qo77_1 926 8, qo77_1 926 9, qo77_1 926 10, qo77_1 926 11, qo77_1 926 12, qo77_1 926 13, qo77_1 926 14] [qo77_1 926 15] (by kernel_rfl) (by kernel_rfl) (by kernel_rfl) (by kernel_rfl) (by kernel_rfl) ?_
  obtain ⟨V15, eV15, kV15⟩ := drew_step V10
  rw [eV15]
  clear eV15
  have h16 := kV15.bk h11
  have K17 := K12.nn kV15
  have z18 := kV15.size
  refine skq (v) <| spq (iN l.length) (exec_len_sl (.tmp 22) 25 27 (by kernel_rfl) Tryd.underlying25 (by kernel_rfl) (hl.keepsN K17)) <| spq (.bool true) (dct ((((l.length : Nat) : Int)) > ((0) : Int)) (by omega)) <| skq (.bool true) <| skq (pT gx 0) <| spq (.int .i64 x.h) (ldk 3 gx 0 h16) <| skq (v) <| skq (v) <| spq (iN l.length) (exec_len_sl (.tmp 29) 25 27 (by kernel_rfl) Tryd.underlying25 (by kernel_rfl) (hl.keepsN K17)) <| spq (iN k) (exec_cast (congrArg (Value.int .i64) (wrapI (((l.length : Nat) : Int) - 1) ((k : Nat) : Int) (by omega) (by omega) (by omega))) (by kernel_rfl)) <| spq (pT b_ (o_ + k * 2)) (exec_indexAt_slice 25 (.tmp 28) (.tmp 31) (by kernel_rfl) b_ o_ l.length c_ (Eq.trans (b := v) (by kernel_rfl) hv_) .i64 k (by kernel_rfl) _ 2 Tryd.underlying25 (by kernel_rfl) (by omega)) <| skq (pT b_ (o_ + k * 2 + 0)) <| spq (.int .i64 y.h) (ldc 3 b_ (o_ + k * 2 + 0) (Sl.cell (hl.keepsN K17) hy hv_ rfl)) <| spq (.bool false) (dcf (((x.h) : Int) < ((y.h) : Int)) (by omega)) ?_
  refine skq (.bool false) <| st_end <| ls_run (qo77_1 926 15) (.bool false) (w' := V15) (by kernel_rfl) (by kernel_rfl) <| ls_end <| sy_a ⟨#[v, .agg #[.int .i64 x.h, uN x.s], ud, pT gx 0, .slice none 0 0, .int .i64 0, .int .i64 0, .int .i64 (ncheck l).2, .tuple #[.int .i64 0, .int .i64 (ncheck l).2], v, .tuple #[.int .i64 0, .int .i64 (ncheck l).2], .int .i64 0, .int .i64 (ncheck l).2, .bool false, .int .i64 0, .bool false, ud, .bool false, .agg #[.int .i64 x.h, uN x.s], .bool true, .bool false, .bool false, v, iN l.length, .bool true, .bool true, pT gx 0, .int .i64 x.h, v, v, iN l.length, iN k, pT b_ (o_ + k * 2), pT b_ (o_ + k * 2 + 0), .int .i64 y.h, .bool false, .bool false, ud, ud, ud, ud, ud, ud, ud, ud, ud], []⟩ <| then_n <| n_ <| qr_ [0, 1, 2, 3] <| pkq (v) <| ppq (iN l.length) (exec_len_sl (.tmp 38) 25 27 (by kernel_rfl) Tryd.underlying25 (by kernel_rfl) (hl.keepsN K17)) <| ppq (.bool false) (dcf ((((l.length : Nat) : Int)) ≥ ((64) : Int)) (by omega)) <| pkq (.bool false) <| en_ <| s_ ?_
  refine blk_n <| tq_ <| sy_np <| sy_reg <| an_begin 10 7 (opsAt (qc77_1 30)) (fun W => (W.heap[gx]? = some (.cells (#[.int .i64 x.h, .int .u64 ((x.s : Nat) : Int)]) 27 (0, 0)))) #[false, false, false, false, false, false, false] (by kernel_rfl) (by kernel_rfl) (by kernel_rfl) (by kernel_rfl) ?_
  obtain ⟨V19, eV19, kV19⟩ := drew_step V15
  rw [eV19]
  clear eV19
  have h20 := kV19.bk h16
  have K21 := K17.nn kV19
  have z22 := kV19.size
  refine akq 0 (v) h20 <| avq 2 (.agg #[.int .i64 x.h, uN x.s]) (fun W hS => ldr 27 gx (hS) (by kernel_rfl)) h20 ?_
  refine an_two 1 3 (by kernel_rfl) ?_ ?_
  · have lt_gx10 := lt_of_block h20
    obtain ⟨NB, hNB⟩ : ∃ n, V19.heap.size = n := ⟨_, rfl⟩
    have hNw : w.heap.size ≤ NB := hNB ▸ K21.size
    refine ncq 5 #[v] Tryd.func5 ((kCopyNotes_ok v l _ (hl.keepsN K21) (by omega)).mono ?_)
    rintro e V23 ⟨X, rfl, hX, hXn, kV23⟩
    have hXn2 : NewFrom NB X := hNB ▸ hXn
    refine ⟨_, rfl, ?_⟩
    have h24 := kV23.bk h20
    have K25 := K21.nn kV23
    have z26 := kV23.size
    refine ⟨h24, ?_⟩
    refine an_o 3 ?_
    obtain ⟨V27, eV27, lit, elit, h28, kV27⟩ := alloc_step V23 (#[.int .i64 x.h, .int .u64 ((x.s : Nat) : Int)]) 27
    have n29 : gx < lit := elit ▸ lt_of_block h24
    have n30 : w.heap.size ≤ lit := elit ▸ K25.size
    refine nrq (.slice (some ⟨lit, 0, none⟩) 1 1) (w' := V27) (by rw [← eV27, ← elit]; kernel_rfl) ?_
    have h31 := kV27.bk h24
    have h32 : Row V27 27 2 X l.length (l.flatMap Nt.cl) := hX.keeps kV27 (fun _ _ x => x)
    have K33 := K25.nn kV27
    have z34 := kV27.size
    refine ⟨h31, ?_⟩
    refine an_o 4 ?_
    obtain ⟨Y, V35, hr36, h37, hg38, hn39, ha40⟩ := run_append_any (P := Tryd.prog) (w := V27) 25 (Oper.type (qo77_1 30 4)) 27 i2 (.agg #[.int .i64 0, .int .u64 0]) 2 16 Tryd.underlying25 hi2 hs0 hs1 hs2 rfl (by decide) X l.length (l.flatMap Nt.cl) h32 (.slice (some ⟨lit, 0, none⟩) 1 1) 1 (Nt.cl x) (src_nt h28) (by unfold maxLen; omega) (by omega)
    have kV35 : Keeps (fun j => (X : Value).ownBlock = some j) V27 V35 := Keeps.rowAdd hg38
    have hw41 : NewFrom NB Y := hXn2.next (by omega) ha40
    refine nrq Y (w' := V35) (exec_append (.tmp 42) (.tmp 44) 25 (by kernel_rfl) X (.slice (some ⟨lit, 0, none⟩) 1 1) (by kernel_rfl) (by kernel_rfl) hr36) ?_
    have h42 : Row V35 27 2 Y ((l ++ [x]).length) ((l ++ [x]).flatMap Nt.cl) := (row_nt rfl h37)
    have h43 : V35.heap[gx]? = some (.cells (#[.int .i64 x.h, .int .u64 ((x.s : Nat) : Int)]) 27 (0, 0)) := (kV35.block gx (lt_of_block h31) (fun e => by have := hXn2 _ e; omega)).trans h31
    have K44 : Keeps Nob w V35 := K33.then kV35 (fun i hi hm => absurd hi (by have := hXn2 i hm; omega))
    have z45 := kV35.size
    refine ⟨h43, ?_⟩
    refine an_o 5 <| nrq (Y) (w' := V35) (by kernel_rfl) ?_
    refine ⟨h43, ?_⟩
    refine an_o 6 <| nrq (.int .i64 0) (w' := V35) (by kernel_rfl) ?_
    refine ⟨h43, ?_⟩
    refine an_end (by kernel_rfl) <| then_n <| u_ <| so_ (.tuple #[Y, .int .i64 0]) ?_
    exact ⟨_, by rw [nadd_ok hc he hf], by rw [nadd_ok hc he hf]; exact h42, (fun j hj => Nat.le_trans hNw (hw41 j hj)), K44⟩
  · obtain ⟨V46, eV46, lit, elit, h47, kV46⟩ := alloc_step V19 (#[.int .i64 x.h, .int .u64 ((x.s : Nat) : Int)]) 27
    have n48 : gx < lit := elit ▸ lt_of_block h20
    have n49 : w.heap.size ≤ lit := elit ▸ K21.size
    refine nrq (.slice (some ⟨lit, 0, none⟩) 1 1) (w' := V46) (by rw [← eV46, ← elit]; kernel_rfl) ?_
    have h50 := kV46.bk h20
    have K51 := K21.nn kV46
    have z52 := kV46.size
    refine ⟨h50, ?_⟩
    refine an_o 1 ?_
    have lt_gx10 := lt_of_block h50
    obtain ⟨NB, hNB⟩ : ∃ n, V46.heap.size = n := ⟨_, rfl⟩
    have hNw : w.heap.size ≤ NB := hNB ▸ K51.size
    refine ncq 5 #[v] Tryd.func5 ((kCopyNotes_ok v l _ (hl.keepsN K51) (by omega)).mono ?_)
    rintro e V53 ⟨X, rfl, hX, hXn, kV53⟩
    have hXn2 : NewFrom NB X := hNB ▸ hXn
    refine ⟨_, rfl, ?_⟩
    have h54 := kV53.bk h50
    have h55 := kV53.bk h47
    have K56 := K51.nn kV53
    have z57 := kV53.size
    refine ⟨h54, ?_⟩
    refine an_o 4 ?_
    obtain ⟨Y, V58, hr59, h60, hg61, hn62, ha63⟩ := run_append_any (P := Tryd.prog) (w := V53) 25 (Oper.type (qo77_1 30 4)) 27 i2 (.agg #[.int .i64 0, .int .u64 0]) 2 16 Tryd.underlying25 hi2 hs0 hs1 hs2 rfl (by decide) X l.length (l.flatMap Nt.cl) hX (.slice (some ⟨lit, 0, none⟩) 1 1) 1 (Nt.cl x) (src_nt h55) (by unfold maxLen; omega) (by omega)
    have kV58 : Keeps (fun j => (X : Value).ownBlock = some j) V53 V58 := Keeps.rowAdd hg61
    have hw64 : NewFrom NB Y := hXn2.next (by omega) ha63
    refine nrq Y (w' := V58) (exec_append (.tmp 42) (.tmp 44) 25 (by kernel_rfl) X (.slice (some ⟨lit, 0, none⟩) 1 1) (by kernel_rfl) (by kernel_rfl) hr59) ?_
    have h65 : Row V58 27 2 Y ((l ++ [x]).length) ((l ++ [x]).flatMap Nt.cl) := (row_nt rfl h60)
    have h66 : V58.heap[gx]? = some (.cells (#[.int .i64 x.h, .int .u64 ((x.s : Nat) : Int)]) 27 (0, 0)) := (kV58.block gx (lt_of_block h54) (fun e => by have := hXn2 _ e; omega)).trans h54
    have K67 : Keeps Nob w V58 := K56.then kV58 (fun i hi hm => absurd hi (by have := hXn2 i hm; omega))
    have z68 := kV58.size
    refine ⟨h66, ?_⟩
    refine an_o 5 <| nrq (Y) (w' := V58) (by kernel_rfl) ?_
    refine ⟨h66, ?_⟩
    refine an_o 6 <| nrq (.int .i64 0) (w' := V58) (by kernel_rfl) ?_
    refine ⟨h66, ?_⟩
    refine an_end (by kernel_rfl) <| then_n <| u_ <| so_ (.tuple #[Y, .int .i64 0]) ?_
    exact ⟨_, by rw [nadd_ok hc he hf], by rw [nadd_ok hc he hf]; exact h65, (fun j hj => Nat.le_trans hNw (hw64 j hj)), K67⟩
theorem r23Add_nil (l : List Nt) (x : Nt) (v : Value) (w : World) (hl : Sl w 2 Nt.cl v l) (hc : (ncheck l).1 = 0) (hb : ¬ x.bad) (hk0 : l.length = 0) (he : nmay x l = 0) (hf : ¬ 64 ≤ l.length) :
    Calls Tryd.prog 13 #[v, .agg #[.int .i64 x.h, .int .u64 ((x.s : Nat) : Int)]] w (fun e w' => ∃ X, e = .returned (.tuple #[X, .int .i64 (nadd l x).2]) ∧ Row w' 27 2 X ((nadd l x).1).length (((nadd l x).1).flatMap Nt.cl) ∧ NewFrom w.heap.size X ∧ Keeps Nob w w') := by
  obtain ⟨i2, hi2, hs0, hs1, hs2⟩ := info_parts note_info0
  have hln := Sl.len_le hl
  have K0 : Keeps Nob w w := Keeps.refl _ _
  refine sy_enter (qc77_1 1) ⟨#[v, .agg #[.int .i64 x.h, uN x.s], ud, ud, ud, ud, ud, ud, ud, ud, ud, ud, ud, ud, ud, ud, ud, ud, ud, ud, ud, ud, ud, ud, ud, ud, ud, ud, ud, ud, ud, ud, ud, ud, ud, ud, ud, ud, ud, ud, ud, ud, ud, ud, ud, ud], []⟩ Tryd.func13 (by kernel_rfl) (by kernel_rfl) <| qr_ [0, 1, 2] <| pbx 27 (#[.int .i64 x.h, .int .u64 ((x.s : Nat) : Int)]) (.agg #[.int .i64 x.h, uN x.s]) fun V1 gx egx h2 kV1 => ?_
  have n3 : w.heap.size ≤ gx := egx ▸ K0.size
  have K4 := K0.nn kV1
  have z5 := kV1.size
  refine pkq (.slice none 0 0) <| pkq (.int .i64 0) <| eqr_ [0, 1, 2, 3, 4, 5, 6] <| pkq (v) ?_
  refine pcq 7 #[v] Tryd.func7 ((r23Check_is l v _ _ (hl.keepsN K4) hc).mono ?_)
  rintro e V6 ⟨rfl, kV6⟩
  refine ⟨_, rfl, ?_⟩
  have h7 := kV6.bk h2
  have K8 := K4.nn kV6
  have z9 := kV6.size
  refine pkq (.tuple #[.int .i64 0, .int .i64 (ncheck l).2]) <| pkq (.int .i64 0) <| pkq (.int .i64 (ncheck l).2) <| pkq (.int .i64 0) <| pkq (.int .i64 (ncheck l).2) <| eq_ <| bl_ 0 <| qr_ [0, 1, 2] <| pkq (.int .i64 0) <| pkq (.bool false) <| pkq (.bool false) <| en_ <| qr_ [0, 1, 2, 3] <| ppq (.agg #[.int .i64 x.h, uN x.s]) (ldr 27 gx (h7) (by kernel_rfl)) ?_
  refine pcq 24 #[.agg #[.int .i64 x.h, uN x.s]] Tryd.func24 ((r23may_good x _ hb).mono ?_)
  rintro e V10 ⟨rfl, kV10⟩
  refine ⟨_, rfl, ?_⟩
  have h11 := kV10.bk h7
  have K12 := K8.nn kV10
  have z13 := kV10.size
  refine pkq (.bool false) <| pkq (.bool false) <| en_ <| q_ <| sy_reg <| rg_still 6 15 (opsAt (qc77_1 926)) [qo77_1 926 0, qo77_1 926 1, qo77_1 926 2, qo77_1 926 3, qo77_1 926 4, qo77_1 926 5, qo77_1 926 6, qo77_1 926 7, qo77_1 926 8, qo77_1 926 9, qo77_1 926 10, qo77_1 926 11, qo77_1 926 12, qo77_1 926 13, qo77_1 926 14] [qo77_1 926 15] (by kernel_rfl) (by kernel_rfl) (by kernel_rfl) (by kernel_rfl) (by kernel_rfl) ?_
  obtain ⟨V15, eV15, kV15⟩ := drew_step V10
  rw [eV15]
  clear eV15
  have h16 := kV15.bk h11
  have K17 := K12.nn kV15
  have z18 := kV15.size
  refine skq (v) <| spq (iN l.length) (exec_len_sl (.tmp 22) 25 27 (by kernel_rfl) Tryd.underlying25 (by kernel_rfl) (hl.keepsN K17)) <| spq (.bool false) (dcf ((((l.length : Nat) : Int)) > ((0) : Int)) (by omega)) <| skq (.bool false) <| snq <| snq <| snq <| snq <| snq <| snq <| snq <| snq <| snq <| snq ?_
  refine skq (.bool false) <| st_end <| ls_run (qo77_1 926 15) (.bool false) (w' := V15) (by kernel_rfl) (by kernel_rfl) <| ls_end <| sy_a ⟨#[v, .agg #[.int .i64 x.h, uN x.s], ud, pT gx 0, .slice none 0 0, .int .i64 0, .int .i64 0, .int .i64 (ncheck l).2, .tuple #[.int .i64 0, .int .i64 (ncheck l).2], v, .tuple #[.int .i64 0, .int .i64 (ncheck l).2], .int .i64 0, .int .i64 (ncheck l).2, .bool false, .int .i64 0, .bool false, ud, .bool false, .agg #[.int .i64 x.h, uN x.s], .bool true, .bool false, .bool false, v, iN l.length, .bool false, .bool false, ud, ud, ud, ud, ud, ud, ud, ud, ud, ud, .bool false, ud, ud, ud, ud, ud, ud, ud, ud, ud], []⟩ <| then_n <| n_ <| qr_ [0, 1, 2, 3] <| pkq (v) <| ppq (iN l.length) (exec_len_sl (.tmp 38) 25 27 (by kernel_rfl) Tryd.underlying25 (by kernel_rfl) (hl.keepsN K17)) <| ppq (.bool false) (dcf ((((l.length : Nat) : Int)) ≥ ((64) : Int)) (by omega)) <| pkq (.bool false) <| en_ <| s_ ?_
  refine blk_n <| tq_ <| sy_np <| sy_reg <| an_begin 10 7 (opsAt (qc77_1 30)) (fun W => (W.heap[gx]? = some (.cells (#[.int .i64 x.h, .int .u64 ((x.s : Nat) : Int)]) 27 (0, 0)))) #[false, false, false, false, false, false, false] (by kernel_rfl) (by kernel_rfl) (by kernel_rfl) (by kernel_rfl) ?_
  obtain ⟨V19, eV19, kV19⟩ := drew_step V15
  rw [eV19]
  clear eV19
  have h20 := kV19.bk h16
  have K21 := K17.nn kV19
  have z22 := kV19.size
  refine akq 0 (v) h20 <| avq 2 (.agg #[.int .i64 x.h, uN x.s]) (fun W hS => ldr 27 gx (hS) (by kernel_rfl)) h20 ?_
  refine an_two 1 3 (by kernel_rfl) ?_ ?_
  · have lt_gx10 := lt_of_block h20
    obtain ⟨NB, hNB⟩ : ∃ n, V19.heap.size = n := ⟨_, rfl⟩
    have hNw : w.heap.size ≤ NB := hNB ▸ K21.size
    refine ncq 5 #[v] Tryd.func5 ((kCopyNotes_ok v l _ (hl.keepsN K21) (by omega)).mono ?_)
    rintro e V23 ⟨X, rfl, hX, hXn, kV23⟩
    have hXn2 : NewFrom NB X := hNB ▸ hXn
    refine ⟨_, rfl, ?_⟩
    have h24 := kV23.bk h20
    have K25 := K21.nn kV23
    have z26 := kV23.size
    refine ⟨h24, ?_⟩
    refine an_o 3 ?_
    obtain ⟨V27, eV27, lit, elit, h28, kV27⟩ := alloc_step V23 (#[.int .i64 x.h, .int .u64 ((x.s : Nat) : Int)]) 27
    have n29 : gx < lit := elit ▸ lt_of_block h24
    have n30 : w.heap.size ≤ lit := elit ▸ K25.size
    refine nrq (.slice (some ⟨lit, 0, none⟩) 1 1) (w' := V27) (by rw [← eV27, ← elit]; kernel_rfl) ?_
    have h31 := kV27.bk h24
    have h32 : Row V27 27 2 X l.length (l.flatMap Nt.cl) := hX.keeps kV27 (fun _ _ x => x)
    have K33 := K25.nn kV27
    have z34 := kV27.size
    refine ⟨h31, ?_⟩
    refine an_o 4 ?_
    obtain ⟨Y, V35, hr36, h37, hg38, hn39, ha40⟩ := run_append_any (P := Tryd.prog) (w := V27) 25 (Oper.type (qo77_1 30 4)) 27 i2 (.agg #[.int .i64 0, .int .u64 0]) 2 16 Tryd.underlying25 hi2 hs0 hs1 hs2 rfl (by decide) X l.length (l.flatMap Nt.cl) h32 (.slice (some ⟨lit, 0, none⟩) 1 1) 1 (Nt.cl x) (src_nt h28) (by unfold maxLen; omega) (by omega)
    have kV35 : Keeps (fun j => (X : Value).ownBlock = some j) V27 V35 := Keeps.rowAdd hg38
    have hw41 : NewFrom NB Y := hXn2.next (by omega) ha40
    refine nrq Y (w' := V35) (exec_append (.tmp 42) (.tmp 44) 25 (by kernel_rfl) X (.slice (some ⟨lit, 0, none⟩) 1 1) (by kernel_rfl) (by kernel_rfl) hr36) ?_
    have h42 : Row V35 27 2 Y ((l ++ [x]).length) ((l ++ [x]).flatMap Nt.cl) := (row_nt rfl h37)
    have h43 : V35.heap[gx]? = some (.cells (#[.int .i64 x.h, .int .u64 ((x.s : Nat) : Int)]) 27 (0, 0)) := (kV35.block gx (lt_of_block h31) (fun e => by have := hXn2 _ e; omega)).trans h31
    have K44 : Keeps Nob w V35 := K33.then kV35 (fun i hi hm => absurd hi (by have := hXn2 i hm; omega))
    have z45 := kV35.size
    refine ⟨h43, ?_⟩
    refine an_o 5 <| nrq (Y) (w' := V35) (by kernel_rfl) ?_
    refine ⟨h43, ?_⟩
    refine an_o 6 <| nrq (.int .i64 0) (w' := V35) (by kernel_rfl) ?_
    refine ⟨h43, ?_⟩
    refine an_end (by kernel_rfl) <| then_n <| u_ <| so_ (.tuple #[Y, .int .i64 0]) ?_
    exact ⟨_, by rw [nadd_ok hc he hf], by rw [nadd_ok hc he hf]; exact h42, (fun j hj => Nat.le_trans hNw (hw41 j hj)), K44⟩
  · obtain ⟨V46, eV46, lit, elit, h47, kV46⟩ := alloc_step V19 (#[.int .i64 x.h, .int .u64 ((x.s : Nat) : Int)]) 27
    have n48 : gx < lit := elit ▸ lt_of_block h20
    have n49 : w.heap.size ≤ lit := elit ▸ K21.size
    refine nrq (.slice (some ⟨lit, 0, none⟩) 1 1) (w' := V46) (by rw [← eV46, ← elit]; kernel_rfl) ?_
    have h50 := kV46.bk h20
    have K51 := K21.nn kV46
    have z52 := kV46.size
    refine ⟨h50, ?_⟩
    refine an_o 1 ?_
    have lt_gx10 := lt_of_block h50
    obtain ⟨NB, hNB⟩ : ∃ n, V46.heap.size = n := ⟨_, rfl⟩
    have hNw : w.heap.size ≤ NB := hNB ▸ K51.size
    refine ncq 5 #[v] Tryd.func5 ((kCopyNotes_ok v l _ (hl.keepsN K51) (by omega)).mono ?_)
    rintro e V53 ⟨X, rfl, hX, hXn, kV53⟩
    have hXn2 : NewFrom NB X := hNB ▸ hXn
    refine ⟨_, rfl, ?_⟩
    have h54 := kV53.bk h50
    have h55 := kV53.bk h47
    have K56 := K51.nn kV53
    have z57 := kV53.size
    refine ⟨h54, ?_⟩
    refine an_o 4 ?_
    obtain ⟨Y, V58, hr59, h60, hg61, hn62, ha63⟩ := run_append_any (P := Tryd.prog) (w := V53) 25 (Oper.type (qo77_1 30 4)) 27 i2 (.agg #[.int .i64 0, .int .u64 0]) 2 16 Tryd.underlying25 hi2 hs0 hs1 hs2 rfl (by decide) X l.length (l.flatMap Nt.cl) hX (.slice (some ⟨lit, 0, none⟩) 1 1) 1 (Nt.cl x) (src_nt h55) (by unfold maxLen; omega) (by omega)
    have kV58 : Keeps (fun j => (X : Value).ownBlock = some j) V53 V58 := Keeps.rowAdd hg61
    have hw64 : NewFrom NB Y := hXn2.next (by omega) ha63
    refine nrq Y (w' := V58) (exec_append (.tmp 42) (.tmp 44) 25 (by kernel_rfl) X (.slice (some ⟨lit, 0, none⟩) 1 1) (by kernel_rfl) (by kernel_rfl) hr59) ?_
    have h65 : Row V58 27 2 Y ((l ++ [x]).length) ((l ++ [x]).flatMap Nt.cl) := (row_nt rfl h60)
    have h66 : V58.heap[gx]? = some (.cells (#[.int .i64 x.h, .int .u64 ((x.s : Nat) : Int)]) 27 (0, 0)) := (kV58.block gx (lt_of_block h54) (fun e => by have := hXn2 _ e; omega)).trans h54
    have K67 : Keeps Nob w V58 := K56.then kV58 (fun i hi hm => absurd hi (by have := hXn2 i hm; omega))
    have z68 := kV58.size
    refine ⟨h66, ?_⟩
    refine an_o 5 <| nrq (Y) (w' := V58) (by kernel_rfl) ?_
    refine ⟨h66, ?_⟩
    refine an_o 6 <| nrq (.int .i64 0) (w' := V58) (by kernel_rfl) ?_
    refine ⟨h66, ?_⟩
    refine an_end (by kernel_rfl) <| then_n <| u_ <| so_ (.tuple #[Y, .int .i64 0]) ?_
    exact ⟨_, by rw [nadd_ok hc he hf], by rw [nadd_ok hc he hf]; exact h65, (fun j hj => Nat.le_trans hNw (hw64 j hj)), K67⟩
theorem r23Add_all (l : List Nt) (x : Nt) (v : Value) (w : World) (hl : Sl w 2 Nt.cl v l) : Calls Tryd.prog 13 #[v, .agg #[.int .i64 x.h, .int .u64 ((x.s : Nat) : Int)]] w (fun e w' => ∃ X, e = .returned (.tuple #[X, .int .i64 (nadd l x).2]) ∧ Row w' 27 2 X ((nadd l x).1).length (((nadd l x).1).flatMap Nt.cl) ∧ NewFrom w.heap.size X ∧ Keeps Nob w w') := by
  by_cases hc : (ncheck l).1 = 0
  · rcases radd_cases l x with ⟨hb, he⟩ | ⟨hb, hk0, he⟩ | ⟨k, y, hb, hk, hy, ho, he⟩ | ⟨k, y, hb, hk, hy, ho, he⟩
    · exact r23Add_bad l x v w hl hc hb he
    · exact r23Add_nil l x v w hl hc hb hk0 he (by omega)
    · exact r23Add_ord l x v w hl hc hb k y hk hy ho he
    · by_cases hf : 64 ≤ l.length
      · exact r23Add_full l x v w hl hc hb k y hk hy ho he hf
      · exact r23Add_ok l x v w hl hc hb k y hk hy ho he hf
  · exact r23Add_chk l x v w hl hc
theorem r23Add_is {l l2 : List Nt} {x : Nt} {er : Int} {v : Value} {w : World} (hl : Sl w 2 Nt.cl v l) (hx : nadd l x = (l2, er)) : Calls Tryd.prog 13 #[v, .agg #[.int .i64 x.h, .int .u64 ((x.s : Nat) : Int)]] w (fun e w' => ∃ X, e = .returned (.tuple #[X, .int .i64 er]) ∧ Row w' 27 2 X (l2).length ((l2).flatMap Nt.cl) ∧ NewFrom w.heap.size X ∧ Keeps Nob w w') := by
  have h := r23Add_all l x v w hl; rw [hx] at h; exact h
theorem nAdd_is {l l2 : List Nt} {x : Nt} {er : Int} {v : Value} {w : World} (hl : Sl w 2 Nt.cl v l) (het : ErrTab w) (hx : nadd l x = (l2, er)) : Calls Tryd.prog 12 #[v, .agg #[.int .i64 x.h, .int .u64 ((x.s : Nat) : Int)]] w (fun e w' => ∃ X, e = .returned (.tuple #[X, .int .i64 er]) ∧ Row w' 27 2 X (l2).length ((l2).flatMap Nt.cl) ∧ NewFrom w.heap.size X ∧ Keeps Nob w w') := by
  have h := nAdd_all l x v w hl het; rw [hx] at h; exact h
theorem ncheck_both {l : List Nt} {a b : Int} {v : Value} {w : World} (hx : ncheck l = (a, b)) (hl : Sl w 2 Nt.cl v l) (het : ErrTab w) : Calls Tryd.prog 6 #[v] w (fun e w' => e = .returned (.tuple #[.int .i64 a, .int .i64 b]) ∧ Keeps Nob w w') := by
  have h := nCheck_ok l v w hl het; rw [hx] at h; exact h
theorem r23check_both {l : List Nt} {a b : Int} {v : Value} {w : World} (hx : ncheck l = (a, b)) (hl : Sl w 2 Nt.cl v l) : Calls Tryd.prog 7 #[v] w (fun e w' => e = .returned (.tuple #[.int .i64 a, .int .i64 b]) ∧ Keeps Nob w w') := by
  have h := r23Check_ok l v w hl; rw [hx] at h; exact h
theorem nadd_len {l l2 : List Nt} {x : Nt} {er : Int} (h : nadd l x = (l2, er)) (hl : l.length ≤ 70) : l2.length ≤ 71 := by
  unfold nadd at h
  split at h
  · have e := congrArg Prod.fst h; simp only at e; rw [← e]; exact Nat.zero_le _
  · split at h
    · have e := congrArg Prod.fst h; simp only at e; rw [← e]; exact Nat.zero_le _
    · split at h
      · have e := congrArg Prod.fst h; simp only at e; rw [← e]; exact Nat.zero_le _
      · have e := congrArg Prod.fst h; simp only at e; rw [← e, List.length_append, List.length_singleton]; omega
theorem nlive_len (p : Par) (l : List Nt) (h : Int) : (nlive p l h).1.length ≤ l.length := by
  unfold nlive; split
  · exact Nat.zero_le _
  · exact List.length_filter_le _ _
noncomputable def qc77_0 (n : Nat) : Code := partOf Tryd.f3 n
theorem tells_long (p : Par) (hp : p.Ok) (v : Value) (l : List Nt) (x : Nt) (h : Int) (hh1 : i64ok h) (s t : Nat) (hs : s < 18446744073709551616) (ht : t < 18446744073709551616) (w : World) (hl : Sl w 2 Nt.cl v l) (het : ErrTab w) (g1 : 70 < l.length) :
    Calls Tryd.prog 3 #[.agg p.cells, v, .agg #[.int .i64 x.h, .int .u64 ((x.s : Nat) : Int)], .int .i64 h, .int .u64 ((s : Nat) : Int), .int .u64 ((t : Nat) : Int)] w (fun e w' => e = .returned (.bool true) ∧ Keeps Nob w w') := by
  have hln := Sl.len_le hl
  have K0 : Keeps Nob w w := Keeps.refl _ _
  refine sy_enter (qc77_0 1) ⟨#[.agg p.cells, v, .agg #[.int .i64 x.h, uN x.s], .int .i64 h, uN s, uN t, ud, ud, ud, ud, ud, ud, ud, ud, ud, ud, ud, ud, ud, ud, ud, ud, ud, ud, ud, ud, ud, ud, ud, ud, ud, ud, ud, ud, ud, ud, ud, ud, ud, ud, ud, ud, ud, ud, ud, ud, ud, ud, ud, ud, ud, ud, ud, ud, ud, ud, ud, ud, ud, ud, ud, ud, ud, ud, ud, ud, ud, ud, ud, ud, ud, ud, ud, ud, ud, ud, ud, ud, ud, ud, ud, ud, ud, ud, ud, ud, ud, ud, ud, ud, ud, ud, ud, ud, ud, ud, ud, ud, ud, ud, ud, ud, ud, ud, ud, ud, ud, ud, ud, ud, ud, ud, ud, ud, ud, ud, ud, ud, ud, ud, ud, ud, ud, ud, ud, ud, ud, ud, ud, ud, ud, ud, ud, ud, ud, ud, ud, ud, ud, ud, ud, ud, ud, ud, ud, ud, ud, ud, ud, ud, ud, ud], []⟩ Tryd.func3 (by kernel_rfl) (by kernel_rfl) <| qr_ [0, 1, 2] <| pbx 24 p.cells (.agg p.cells) fun V1 gp egp h2 kV1 => ?_
  have n3 : w.heap.size ≤ gp := egp ▸ K0.size
  have K4 := K0.nn kV1
  have z5 := kV1.size
  refine pbx 27 (#[.int .i64 x.h, .int .u64 ((x.s : Nat) : Int)]) (.agg #[.int .i64 x.h, uN x.s]) fun V6 gx egx h7 kV6 => ?_
  have n8 : gp < gx := egx ▸ lt_of_block h2
  have n9 : w.heap.size ≤ gx := egx ▸ K4.size
  have K11 := K4.nn kV6
  have z12 := kV6.size
  refine pkq (.bool false) <| eq_ <| qr_ [0, 1, 2] <| pkq (v) <| ppq (iN l.length) (exec_len_sl (.tmp 30) 25 27 (by kernel_rfl) Tryd.underlying25 (by kernel_rfl) (hl.keepsN K11)) <| ppq (.bool true) (dct ((((l.length : Nat) : Int)) > ((70) : Int)) (by omega)) <| ey_ <| qr_ [0, 1] ?_
  refine pcq 4 #[] Tryd.func4 ((lnawake_ok _ (ErrTab.keeps het K11)).mono ?_)
  rintro e V13 ⟨rfl, kV13⟩
  refine ⟨_, rfl, ?_⟩
  have K16 := K11.nn kV13
  have z17 := kV13.size
  refine pkq (.bool true) <| eu_ <| then_r <| so_ (.bool true) ?_
  exact ⟨rfl, K16⟩
theorem tells_short (p : Par) (hp : p.Ok) (v : Value) (l : List Nt) (x : Nt) (h : Int) (hh1 : i64ok h) (s t : Nat) (hs : s < 18446744073709551616) (ht : t < 18446744073709551616) (w : World) (hl : Sl w 2 Nt.cl v l) (het : ErrTab w) (g1 : ¬ 70 < l.length) :
    Calls Tryd.prog 3 #[.agg p.cells, v, .agg #[.int .i64 x.h, .int .u64 ((x.s : Nat) : Int)], .int .i64 h, .int .u64 ((s : Nat) : Int), .int .u64 ((t : Nat) : Int)] w (fun e w' => e = .returned (.bool true) ∧ Keeps Nob w w') := by
  have hln := Sl.len_le hl
  obtain ⟨ce, ci, hck⟩ : ∃ a b, ncheck l = (a, b) := ⟨_, _, rfl⟩
  obtain ⟨n, g, hn⟩ : ∃ a b, nnoted p l h = (a, b) := ⟨_, _, rfl⟩
  obtain ⟨f, d, hf⟩ : ∃ a b, nfrac p l h s t = (a, b) := ⟨_, _, rfl⟩
  obtain ⟨l2, e2, had⟩ : ∃ a b, nadd l x = (a, b) := ⟨_, _, rfl⟩
  obtain ⟨l3, hlv1⟩ : ∃ a, (nlive p l h).1 = a := ⟨_, rfl⟩
  obtain ⟨e3, hlv2⟩ : ∃ a, (nlive p l h).2 = a := ⟨_, rfl⟩
  have hl2 := nadd_len had (by omega)
  have hl3 : l3.length ≤ l.length := hlv1 ▸ nlive_len p l h
  have K0 : Keeps Nob w w := Keeps.refl _ _
  refine sy_enter (qc77_0 1) ⟨#[.agg p.cells, v, .agg #[.int .i64 x.h, uN x.s], .int .i64 h, uN s, uN t, ud, ud, ud, ud, ud, ud, ud, ud, ud, ud, ud, ud, ud, ud, ud, ud, ud, ud, ud, ud, ud, ud, ud, ud, ud, ud, ud, ud, ud, ud, ud, ud, ud, ud, ud, ud, ud, ud, ud, ud, ud, ud, ud, ud, ud, ud, ud, ud, ud, ud, ud, ud, ud, ud, ud, ud, ud, ud, ud, ud, ud, ud, ud, ud, ud, ud, ud, ud, ud, ud, ud, ud, ud, ud, ud, ud, ud, ud, ud, ud, ud, ud, ud, ud, ud, ud, ud, ud, ud, ud, ud, ud, ud, ud, ud, ud, ud, ud, ud, ud, ud, ud, ud, ud, ud, ud, ud, ud, ud, ud, ud, ud, ud, ud, ud, ud, ud, ud, ud, ud, ud, ud, ud, ud, ud, ud, ud, ud, ud, ud, ud, ud, ud, ud, ud, ud, ud, ud, ud, ud, ud, ud, ud, ud, ud, ud], []⟩ Tryd.func3 (by kernel_rfl) (by kernel_rfl) <| qr_ [0, 1, 2] <| pbx 24 p.cells (.agg p.cells) fun V1 gp egp h2 kV1 => ?_
  have n3 : w.heap.size ≤ gp := egp ▸ K0.size
  have K4 := K0.nn kV1
  have z5 := kV1.size
  refine pbx 27 (#[.int .i64 x.h, .int .u64 ((x.s : Nat) : Int)]) (.agg #[.int .i64 x.h, uN x.s]) fun V6 gx egx h7 kV6 => ?_
  have n8 : gp < gx := egx ▸ lt_of_block h2
  have n9 : w.heap.size ≤ gx := egx ▸ K4.size
  have h10 := kV6.bk h2
  have K11 := K4.nn kV6
  have z12 := kV6.size
  refine pkq (.bool false) <| eq_ <| qr_ [0, 1, 2] <| pkq (v) <| ppq (iN l.length) (exec_len_sl (.tmp 30) 25 27 (by kernel_rfl) Tryd.underlying25 (by kernel_rfl) (hl.keepsN K11)) <| ppq (.bool false) (dcf ((((l.length : Nat) : Int)) > ((70) : Int)) (by omega)) <| en_ <| s_ <| tqr_ [0, 1, 2] <| pkq (v) ?_
  refine pcq 5 #[v] Tryd.func5 ((kCopyNotes_ok v l _ (hl.keepsN K11) (by omega)).mono ?_)
  rintro e V13 ⟨I, rfl, hI, hIn, kV13⟩
  refine ⟨_, rfl, ?_⟩
  have h14 := kV13.bk h10
  have h15 := kV13.bk h7
  have K16 := K11.nn kV13
  have z17 := kV13.size
  refine pkq (I) <| eqr_ [0, 1, 2, 3, 4, 5, 6] <| pkq (I) ?_
  refine pcq 6 #[I] Tryd.func6 ((ncheck_both hck (row_nts hI) (ErrTab.keeps het K16)).mono ?_)
  rintro e V18 ⟨rfl, kV18⟩
  refine ⟨_, rfl, ?_⟩
  have h19 := kV18.bk h14
  have h20 := kV18.bk h15
  have h21 : Sl V18 2 Nt.cl I l := (row_nts hI).keepsN kV18
  have K22 := K16.nn kV18
  have z23 := kV18.size
  refine pkq (.tuple #[.int .i64 ce, .int .i64 ci]) <| pkq (.int .i64 ce) <| pkq (.int .i64 ci) <| pkq (.int .i64 ce) <| pkq (.int .i64 ci) <| eqr_ [0, 1, 2, 3, 4, 5, 6] <| pkq (v) ?_
  refine pcq 7 #[v] Tryd.func7 ((r23check_both hck (hl.keepsN K22)).mono ?_)
  rintro e V24 ⟨rfl, kV24⟩
  refine ⟨_, rfl, ?_⟩
  have h25 := kV24.bk h19
  have h26 := kV24.bk h20
  have h27 : Sl V24 2 Nt.cl I l := h21.keepsN kV24
  have K28 := K22.nn kV24
  have z29 := kV24.size
  refine pkq (.tuple #[.int .i64 ce, .int .i64 ci]) <| pkq (.int .i64 ce) <| pkq (.int .i64 ci) <| pkq (.int .i64 ce) <| pkq (.int .i64 ci) <| eqr_ [0, 1, 2, 3, 4, 5, 6, 7, 8] <| ppq (.agg (p.cells)) (ldr 24 gp (h25) (by kernel_rfl)) <| pkq (I) <| pkq (.int .i64 h) ?_
  refine pcq 8 #[.agg (p.cells), I, .int .i64 h] Tryd.func8 ((nnoted_is (congrArg Prod.fst hn) (congrArg Prod.snd hn) (nNoted_all p hp l _ h hh1 _ h27 (ErrTab.keeps het K28))).mono ?_)
  rintro e V30 ⟨rfl, kV30⟩
  refine ⟨_, rfl, ?_⟩
  have h31 := kV30.bk h25
  have h32 := kV30.bk h26
  have h33 : Sl V30 2 Nt.cl I l := h27.keepsN kV30
  have K34 := K28.nn kV30
  have z35 := kV30.size
  refine pkq (.tuple #[uN n, .int .i64 g]) <| pkq (uN n) <| pkq (.int .i64 g) <| pkq (uN n) <| pkq (.int .i64 g) <| ps_end <| sy_a ⟨#[.agg p.cells, v, .agg #[.int .i64 x.h, uN x.s], .int .i64 h, uN s, uN t, pT gp 0, ud, pT gx 0, ud, ud, ud, .bool false, I, .int .i64 ce, .int .i64 ci, .int .i64 ce, .int .i64 ci, uN n, .int .i64 g, ud, ud, ud, ud, ud, ud, ud, ud, ud, ud, v, iN l.length, .bool false, ud, v, I, .tuple #[.int .i64 ce, .int .i64 ci], I, .tuple #[.int .i64 ce, .int .i64 ci], .int .i64 ce, .int .i64 ci, .tuple #[.int .i64 ce, .int .i64 ci], v, .tuple #[.int .i64 ce, .int .i64 ci], .int .i64 ce, .int .i64 ci, .tuple #[uN n, .int .i64 g], .agg (p.cells), I, .int .i64 h, .tuple #[uN n, .int .i64 g], uN n, .int .i64 g, ud, ud, ud, ud, ud, ud, ud, ud, ud, ud, ud, ud, ud, ud, ud, ud, ud, ud, ud, ud, ud, ud, ud, ud, ud, ud, ud, ud, ud, ud, ud, ud, ud, ud, ud, ud, ud, ud, ud, ud, ud, ud, ud, ud, ud, ud, ud, ud, ud, ud, ud, ud, ud, ud, ud, ud, ud, ud, ud, ud, ud, ud, ud, ud, ud, ud, ud, ud, ud, ud, ud, ud, ud, ud, ud, ud, ud, ud, ud, ud, ud, ud, ud, ud, ud, ud, ud, ud, ud, ud, ud, ud, ud, ud, ud, ud, ud, ud, ud], []⟩ <| tqr_ [0, 1, 2, 3, 4, 5, 6, 7, 8] <| ppq (.agg (p.cells)) (ldr 24 gp (h31) (by kernel_rfl)) <| pkq (v) <| pkq (.int .i64 h) ?_
  refine pcq 9 #[.agg (p.cells), v, .int .i64 h] Tryd.func9 ((r23Noted_is p hp l _ h n g _ (hl.keepsN K34) (congrArg Prod.fst hn) (congrArg Prod.snd hn)).mono ?_)
  rintro e V36 ⟨rfl, kV36⟩
  refine ⟨_, rfl, ?_⟩
  have h37 := kV36.bk h31
  have h38 := kV36.bk h32
  have h39 : Sl V36 2 Nt.cl I l := h33.keepsN kV36
  have K40 := K34.nn kV36
  have z41 := kV36.size
  refine pkq (.tuple #[uN n, .int .i64 g]) <| pkq (uN n) <| pkq (.int .i64 g) <| pkq (uN n) <| pkq (.int .i64 g) <| eqr_ [0, 1, 2, 3, 4, 5, 6, 7, 8, 9, 10] <| ppq (.agg (p.cells)) (ldr 24 gp (h37) (by kernel_rfl)) <| pkq (I) <| pkq (.int .i64 h) <| pkq (uN s) <| pkq (uN t) ?_
  refine pcq 10 #[.agg (p.cells), I, .int .i64 h, uN s, uN t] Tryd.func10 ((frac_is hf (nFrac_all p hp l _ h hh1 s t hs ht _ h39 (ErrTab.keeps het K40))).mono ?_)
  rintro e V42 ⟨rfl, kV42⟩
  refine ⟨_, rfl, ?_⟩
  have h43 := kV42.bk h37
  have h44 := kV42.bk h38
  have h45 : Sl V42 2 Nt.cl I l := h39.keepsN kV42
  have K46 := K40.nn kV42
  have z47 := kV42.size
  refine pkq (.tuple #[uN f, .int .i64 d]) <| pkq (uN f) <| pkq (.int .i64 d) <| pkq (uN f) <| pkq (.int .i64 d) <| eqr_ [0, 1, 2, 3, 4, 5, 6, 7, 8, 9, 10] <| ppq (.agg (p.cells)) (ldr 24 gp (h43) (by kernel_rfl)) <| pkq (v) <| pkq (.int .i64 h) <| pkq (uN s) <| pkq (uN t) ?_
  refine pcq 11 #[.agg (p.cells), v, .int .i64 h, uN s, uN t] Tryd.func11 ((r23Frac_is p hp l _ h s t hs ht f d _ (hl.keepsN K46) hf).mono ?_)
  rintro e V48 ⟨rfl, kV48⟩
  refine ⟨_, rfl, ?_⟩
  have h49 := kV48.bk h43
  have h50 := kV48.bk h44
  have h51 : Sl V48 2 Nt.cl I l := h45.keepsN kV48
  have K52 := K46.nn kV48
  have z53 := kV48.size
  refine pkq (.tuple #[uN f, .int .i64 d]) <| pkq (uN f) <| pkq (.int .i64 d) <| pkq (uN f) <| pkq (.int .i64 d) <| ps_end <| sy_a ⟨#[.agg p.cells, v, .agg #[.int .i64 x.h, uN x.s], .int .i64 h, uN s, uN t, pT gp 0, ud, pT gx 0, ud, ud, ud, .bool false, I, .int .i64 ce, .int .i64 ci, .int .i64 ce, .int .i64 ci, uN n, .int .i64 g, uN n, .int .i64 g, uN f, .int .i64 d, uN f, .int .i64 d, ud, ud, ud, ud, v, iN l.length, .bool false, ud, v, I, .tuple #[.int .i64 ce, .int .i64 ci], I, .tuple #[.int .i64 ce, .int .i64 ci], .int .i64 ce, .int .i64 ci, .tuple #[.int .i64 ce, .int .i64 ci], v, .tuple #[.int .i64 ce, .int .i64 ci], .int .i64 ce, .int .i64 ci, .tuple #[uN n, .int .i64 g], .agg (p.cells), I, .int .i64 h, .tuple #[uN n, .int .i64 g], uN n, .int .i64 g, .tuple #[uN n, .int .i64 g], .agg (p.cells), v, .int .i64 h, .tuple #[uN n, .int .i64 g], uN n, .int .i64 g, .tuple #[uN f, .int .i64 d], .agg (p.cells), I, .int .i64 h, uN s, uN t, .tuple #[uN f, .int .i64 d], uN f, .int .i64 d, .tuple #[uN f, .int .i64 d], .agg (p.cells), v, .int .i64 h, uN s, uN t, .tuple #[uN f, .int .i64 d], uN f, .int .i64 d, ud, ud, ud, ud, ud, ud, ud, ud, ud, ud, ud, ud, ud, ud, ud, ud, ud, ud, ud, ud, ud, ud, ud, ud, ud, ud, ud, ud, ud, ud, ud, ud, ud, ud, ud, ud, ud, ud, ud, ud, ud, ud, ud, ud, ud, ud, ud, ud, ud, ud, ud, ud, ud, ud, ud, ud, ud, ud, ud, ud, ud, ud, ud, ud, ud, ud, ud, ud, ud, ud, ud, ud, ud, ud], []⟩ <| tq_ <| qr_ [0, 1, 2, 3, 4, 5, 6, 7, 8, 9, 10, 11, 12, 13, 14, 15, 16, 17, 18, 19, 20, 21, 22, 23, 24, 25, 26, 27] <| pkq (.int .i64 ce) <| pkq (.int .i64 ce) <| ppq (.bool false) (nqf ((ce) : Int) ((ce) : Int) (by omega)) <| pkq (.bool false) <| pkq (.int .i64 ci) ?_
  refine pkq (.int .i64 ci) <| ppq (.bool false) (nqf ((ci) : Int) ((ci) : Int) (by omega)) <| pkq (.bool false) <| pkq (.bool false) <| pkq (uN n) <| pkq (uN n) <| ppq (.bool false) (nqf (((n : Nat) : Int)) (((n : Nat) : Int)) (by omega)) <| pkq (.bool false) <| pkq (.bool false) <| pkq (.int .i64 g) <| pkq (.int .i64 g) <| ppq (.bool false) (nqf ((g) : Int) ((g) : Int) (by omega)) <| pkq (.bool false) <| pkq (.bool false) ?_
  refine pkq (uN f) <| pkq (uN f) <| ppq (.bool false) (nqf (((f : Nat) : Int)) (((f : Nat) : Int)) (by omega)) <| pkq (.bool false) <| pkq (.bool false) <| pkq (.int .i64 d) <| pkq (.int .i64 d) <| ppq (.bool false) (nqf ((d) : Int) ((d) : Int) (by omega)) <| pkq (.bool false) <| ps_end <| sy_a ⟨#[.agg p.cells, v, .agg #[.int .i64 x.h, uN x.s], .int .i64 h, uN s, uN t, pT gp 0, ud, pT gx 0, ud, ud, ud, .bool false, I, .int .i64 ce, .int .i64 ci, .int .i64 ce, .int .i64 ci, uN n, .int .i64 g, uN n, .int .i64 g, uN f, .int .i64 d, uN f, .int .i64 d, ud, ud, ud, ud, v, iN l.length, .bool false, ud, v, I, .tuple #[.int .i64 ce, .int .i64 ci], I, .tuple #[.int .i64 ce, .int .i64 ci], .int .i64 ce, .int .i64 ci, .tuple #[.int .i64 ce, .int .i64 ci], v, .tuple #[.int .i64 ce, .int .i64 ci], .int .i64 ce, .int .i64 ci, .tuple #[uN n, .int .i64 g], .agg (p.cells), I, .int .i64 h, .tuple #[uN n, .int .i64 g], uN n, .int .i64 g, .tuple #[uN n, .int .i64 g], .agg (p.cells), v, .int .i64 h, .tuple #[uN n, .int .i64 g], uN n, .int .i64 g, .tuple #[uN f, .int .i64 d], .agg (p.cells), I, .int .i64 h, uN s, uN t, .tuple #[uN f, .int .i64 d], uN f, .int .i64 d, .tuple #[uN f, .int .i64 d], .agg (p.cells), v, .int .i64 h, uN s, uN t, .tuple #[uN f, .int .i64 d], uN f, .int .i64 d, .int .i64 ce, .int .i64 ce, .bool false, .bool false, .int .i64 ci, .int .i64 ci, .bool false, .bool false, .bool false, uN n, uN n, .bool false, .bool false, .bool false, .int .i64 g, .int .i64 g, .bool false, .bool false, .bool false, uN f, uN f, .bool false, .bool false, .bool false, .int .i64 d, .int .i64 d, .bool false, .bool false, ud, ud, ud, ud, ud, ud, ud, ud, ud, ud, ud, ud, ud, ud, ud, ud, ud, ud, ud, ud, ud, ud, ud, ud, ud, ud, ud, ud, ud, ud, ud, ud, ud, ud, ud, ud, ud, ud, ud, ud, ud, ud, ud, ud, ud, ud], []⟩ <| then_n <| n_ <| s_ ?_
  refine tqr_ [0, 1, 2, 3, 4, 5, 6, 7] <| pkq (I) <| ppq (.agg #[.int .i64 x.h, uN x.s]) (ldr 27 gx (h50) (by kernel_rfl)) ?_
  refine pcq 12 #[I, .agg #[.int .i64 x.h, uN x.s]] Tryd.func12 ((nAdd_is h51 (ErrTab.keeps het K52) had).mono ?_)
  rintro e V54 ⟨X2, rfl, hX2, hX2n, kV54⟩
  refine ⟨_, rfl, ?_⟩
  have h55 := kV54.bk h49
  have h56 := kV54.bk h50
  have h57 : Sl V54 2 Nt.cl I l := h51.keepsN kV54
  have K58 := K52.nn kV54
  have z59 := kV54.size
  refine pkq (.tuple #[X2, .int .i64 e2]) <| pkq (X2) <| pkq (.int .i64 e2) <| pkq (X2) <| pkq (.int .i64 e2) <| eqr_ [0, 1, 2, 3, 4, 5, 6, 7] <| pkq (v) <| ppq (.agg #[.int .i64 x.h, uN x.s]) (ldr 27 gx (h56) (by kernel_rfl)) ?_
  refine pcq 13 #[v, .agg #[.int .i64 x.h, uN x.s]] Tryd.func13 ((r23Add_is (hl.keepsN K58) had).mono ?_)
  rintro e V60 ⟨Y2, rfl, hY2, hY2n, kV60⟩
  refine ⟨_, rfl, ?_⟩
  have h61 := kV60.bk h55
  have h63 : Sl V60 2 Nt.cl I l := h57.keepsN kV60
  have h64 : Row V60 27 2 X2 l2.length (l2.flatMap Nt.cl) := hX2.keeps kV60 (fun _ _ x => x)
  have K65 := K58.nn kV60
  have z66 := kV60.size
  refine pkq (.tuple #[Y2, .int .i64 e2]) <| pkq (Y2) <| pkq (.int .i64 e2) <| pkq (Y2) <| pkq (.int .i64 e2) <| eqr_ [0, 1, 2, 3, 4, 5, 6, 7, 8] <| ppq (.agg (p.cells)) (ldr 24 gp (h61) (by kernel_rfl)) <| pkq (I) <| pkq (.int .i64 h) ?_
  have hX2lt : ∀ j, X2.ownBlock = some j → j < V60.heap.size := fun j hj => h64.lt hj
  refine pcq 14 #[.agg (p.cells), I, .int .i64 h] Tryd.func14 ((live_is p hp l _ h hh1 e3 l3 _ h63 (ErrTab.keeps het K65) hlv2 hlv1).mono ?_)
  rintro e V67 ⟨X3, rfl, hX3, hX3n, kV67⟩
  refine ⟨_, rfl, ?_⟩
  have h68 := kV67.bk h61
  have h70 : Sl V67 2 Nt.cl I l := h63.keepsN kV67
  have h71 : Row V67 27 2 X2 l2.length (l2.flatMap Nt.cl) := h64.keeps kV67 (fun _ _ x => x)
  have h72 : Row V67 27 2 Y2 l2.length (l2.flatMap Nt.cl) := hY2.keeps kV67 (fun _ _ x => x)
  have K73 := K65.nn kV67
  have z74 := kV67.size
  refine pkq (.tuple #[X3, .int .i64 e3]) <| pkq (X3) <| pkq (.int .i64 e3) <| pkq (X3) <| pkq (.int .i64 e3) <| ps_end <| sy_a ⟨#[.agg p.cells, v, .agg #[.int .i64 x.h, uN x.s], .int .i64 h, uN s, uN t, pT gp 0, ud, pT gx 0, ud, ud, ud, .bool false, I, .int .i64 e2, .int .i64 ci, .int .i64 e2, .int .i64 ci, uN n, .int .i64 e3, uN n, .int .i64 g, uN f, .int .i64 d, uN f, .int .i64 d, X2, Y2, X3, ud, v, iN l.length, .bool false, ud, v, I, .tuple #[.int .i64 ce, .int .i64 ci], I, .tuple #[.int .i64 ce, .int .i64 ci], .int .i64 ce, .int .i64 ci, .tuple #[.int .i64 ce, .int .i64 ci], v, .tuple #[.int .i64 ce, .int .i64 ci], .int .i64 ce, .int .i64 ci, .tuple #[uN n, .int .i64 g], .agg (p.cells), I, .int .i64 h, .tuple #[uN n, .int .i64 g], uN n, .int .i64 g, .tuple #[uN n, .int .i64 g], .agg (p.cells), v, .int .i64 h, .tuple #[uN n, .int .i64 g], uN n, .int .i64 g, .tuple #[uN f, .int .i64 d], .agg (p.cells), I, .int .i64 h, uN s, uN t, .tuple #[uN f, .int .i64 d], uN f, .int .i64 d, .tuple #[uN f, .int .i64 d], .agg (p.cells), v, .int .i64 h, uN s, uN t, .tuple #[uN f, .int .i64 d], uN f, .int .i64 d, .int .i64 ce, .int .i64 ce, .bool false, .bool false, .int .i64 ci, .int .i64 ci, .bool false, .bool false, .bool false, uN n, uN n, .bool false, .bool false, .bool false, .int .i64 g, .int .i64 g, .bool false, .bool false, .bool false, uN f, uN f, .bool false, .bool false, .bool false, .int .i64 d, .int .i64 d, .bool false, .bool false, .tuple #[X2, .int .i64 e2], I, .agg #[.int .i64 x.h, uN x.s], .tuple #[X2, .int .i64 e2], X2, .int .i64 e2, .tuple #[Y2, .int .i64 e2], v, .agg #[.int .i64 x.h, uN x.s], .tuple #[Y2, .int .i64 e2], Y2, .int .i64 e2, .tuple #[X3, .int .i64 e3], .agg (p.cells), I, .int .i64 h, .tuple #[X3, .int .i64 e3], X3, .int .i64 e3, ud, ud, ud, ud, ud, ud, ud, ud, ud, ud, ud, ud, ud, ud, ud, ud, ud, ud, ud, ud, ud, ud, ud, ud, ud, ud, ud], []⟩ <| tqr_ [0, 1, 2, 3, 4, 5, 6, 7, 8] <| ppq (.agg (p.cells)) (ldr 24 gp (h68) (by kernel_rfl)) <| pkq (v) <| pkq (.int .i64 h) ?_
  refine pcq 15 #[.agg (p.cells), v, .int .i64 h] Tryd.func15 ((r23Live_is p hp l _ h l3 e3 _ (hl.keepsN K73) hlv1 hlv2).mono ?_)
  rintro e V75 ⟨Y3, rfl, hY3, hY3n, kV75⟩
  refine ⟨_, rfl, ?_⟩
  have h78 : Sl V75 2 Nt.cl I l := h70.keepsN kV75
  have h79 : Row V75 27 2 X2 l2.length (l2.flatMap Nt.cl) := h71.keeps kV75 (fun _ _ x => x)
  have h80 : Row V75 27 2 Y2 l2.length (l2.flatMap Nt.cl) := h72.keeps kV75 (fun _ _ x => x)
  have h81 : Row V75 27 2 X3 l3.length (l3.flatMap Nt.cl) := hX3.keeps kV75 (fun _ _ x => x)
  have K82 := K73.nn kV75
  have z83 := kV75.size
  refine pkq (.tuple #[Y3, .int .i64 e3]) <| pkq (Y3) <| pkq (.int .i64 e3) <| pkq (Y3) <| pkq (.int .i64 e3) <| eqr_ [0, 1, 2, 3, 4, 5, 6, 7, 8, 9, 10, 11, 12, 13, 14, 15, 16, 17, 18, 19, 20] <| pkq (X2) <| pkq (Y2) <| pkq (.int .i64 e2) <| pkq (.int .i64 e2) ?_
  refine pcq 16 #[X2, Y2, .int .i64 e2, .int .i64 e2] Tryd.func16 ((lntold_ok X2 Y2 l2 e2 _ (by omega) h79 (row_nts h80)).mono ?_)
  rintro e V84 ⟨rfl, kV84⟩
  refine ⟨_, rfl, ?_⟩
  have h85 : Sl V84 2 Nt.cl I l := Sl.keepsB (row_nts hI) h78 kV84 (fun j e => by have := hX2n j e; omega)
  have h86 : Row V84 27 2 X3 l3.length (l3.flatMap Nt.cl) := h81.keeps kV84 (fun j hj e => by have := hX3n j hj; have := hX2lt j e; omega)
  have h87 : Row V84 27 2 Y3 l3.length (l3.flatMap Nt.cl) := hY3.keeps kV84 (fun j hj e => by have := hY3n j hj; have := hX2lt j e; omega)
  have K88 : Keeps Nob w V84 := K82.then kV84 (fun i hi hm => absurd hi (by have := hX2n i hm; omega))
  have z89 := kV84.size
  refine pkq (.bool true) <| pkq (X3) <| pkq (Y3) <| pkq (.int .i64 e3) <| pkq (.int .i64 e3) ?_
  refine pcq 16 #[X3, Y3, .int .i64 e3, .int .i64 e3] Tryd.func16 ((lntold_ok X3 Y3 l3 e3 _ (by omega) h86 (row_nts h87)).mono ?_)
  rintro e V90 ⟨rfl, kV90⟩
  refine ⟨_, rfl, ?_⟩
  have h91 : Sl V90 2 Nt.cl I l := Sl.keepsB (row_nts hI) h85 kV90 (fun j e => by have := hX3n j e; omega)
  have K92 : Keeps Nob w V90 := K88.then kV90 (fun i hi hm => absurd hi (by have := hX3n i hm; omega))
  have z93 := kV90.size
  refine pkq (.bool true) <| pkq (.bool true) <| pkq (I) <| pkq (v) ?_
  refine pcq 17 #[I, v] Tryd.func17 ((kSameNotes_is true _ h91 (hl.keepsN K92) (decide_eq_true rfl)).mono ?_)
  rintro e V94 ⟨rfl, kV94⟩
  refine ⟨_, rfl, ?_⟩
  have K96 := K92.nn kV94
  have z97 := kV94.size
  refine pkq (.bool true) <| pkq (.bool true) ?_
  refine pcq 4 #[] Tryd.func4 ((lnawake_ok _ (ErrTab.keeps het K96)).mono ?_)
  rintro e V98 ⟨rfl, kV98⟩
  refine ⟨_, rfl, ?_⟩
  have K100 := K96.nn kV98
  have z101 := kV98.size
  refine pkq (.bool true) <| pkq (.bool true) <| ps_end <| sy_a ⟨#[.agg p.cells, v, .agg #[.int .i64 x.h, uN x.s], .int .i64 h, uN s, uN t, pT gp 0, ud, pT gx 0, ud, ud, ud, .bool true, I, .int .i64 e2, .int .i64 ci, .int .i64 e2, .int .i64 ci, uN n, .int .i64 e3, uN n, .int .i64 e3, uN f, .int .i64 d, uN f, .int .i64 d, X2, Y2, X3, Y3, v, iN l.length, .bool false, ud, v, I, .tuple #[.int .i64 ce, .int .i64 ci], I, .tuple #[.int .i64 ce, .int .i64 ci], .int .i64 ce, .int .i64 ci, .tuple #[.int .i64 ce, .int .i64 ci], v, .tuple #[.int .i64 ce, .int .i64 ci], .int .i64 ce, .int .i64 ci, .tuple #[uN n, .int .i64 g], .agg (p.cells), I, .int .i64 h, .tuple #[uN n, .int .i64 g], uN n, .int .i64 g, .tuple #[uN n, .int .i64 g], .agg (p.cells), v, .int .i64 h, .tuple #[uN n, .int .i64 g], uN n, .int .i64 g, .tuple #[uN f, .int .i64 d], .agg (p.cells), I, .int .i64 h, uN s, uN t, .tuple #[uN f, .int .i64 d], uN f, .int .i64 d, .tuple #[uN f, .int .i64 d], .agg (p.cells), v, .int .i64 h, uN s, uN t, .tuple #[uN f, .int .i64 d], uN f, .int .i64 d, .int .i64 ce, .int .i64 ce, .bool false, .bool false, .int .i64 ci, .int .i64 ci, .bool false, .bool false, .bool false, uN n, uN n, .bool false, .bool false, .bool false, .int .i64 g, .int .i64 g, .bool false, .bool false, .bool false, uN f, uN f, .bool false, .bool false, .bool false, .int .i64 d, .int .i64 d, .bool false, .bool false, .tuple #[X2, .int .i64 e2], I, .agg #[.int .i64 x.h, uN x.s], .tuple #[X2, .int .i64 e2], X2, .int .i64 e2, .tuple #[Y2, .int .i64 e2], v, .agg #[.int .i64 x.h, uN x.s], .tuple #[Y2, .int .i64 e2], Y2, .int .i64 e2, .tuple #[X3, .int .i64 e3], .agg (p.cells), I, .int .i64 h, .tuple #[X3, .int .i64 e3], X3, .int .i64 e3, .tuple #[Y3, .int .i64 e3], .agg (p.cells), v, .int .i64 h, .tuple #[Y3, .int .i64 e3], Y3, .int .i64 e3, X2, Y2, .int .i64 e2, .int .i64 e2, .bool true, .bool true, X3, Y3, .int .i64 e3, .int .i64 e3, .bool true, .bool true, .bool true, I, v, .bool true, .bool true, .bool true, .bool true, .bool true], []⟩ <| then_n <| u_ <| so_ (.bool true) ?_
  exact ⟨rfl, K100⟩
theorem tells_all (p : Par) (hp : p.Ok) (v : Value) (l : List Nt) (x : Nt) (h : Int) (hh : -9223372036854775808 ≤ h ∧ h ≤ 9223372036854775807) (s : Nat) (hs : s < 2 ^ 64) (t : Nat) (ht : t < 2 ^ 64) (w : World) (hl : Sl w 2 Nt.cl v l ∧ ∀ x ∈ l, x.Ok) (_ : x.Ok) (het : ErrTab w) : Calls Tryd.prog 3 #[.agg p.cells, v, .agg x.c, .int .i64 h, .int .u64 ((s : Nat) : Int), .int .u64 ((t : Nat) : Int)] w (fun e w' => e = .returned (.bool true) ∧ Keeps Nob w w') := by
  by_cases g1 : 70 < l.length
  · exact tells_long p hp v l x h hh s t hs ht w hl.1 het g1
  · exact tells_short p hp v l x h hh s t hs ht w hl.1 het g1
end Go.Proofs.YtghohakbepeffaaDoor
namespace Go.Proofs.YtghohakbepeffaaDoor.penaltyTells
open Go.ChangeShapes Go.WideShapes Go.ChangeAt Go.RowKit Go.Own
open Go.ChangeMaps (open_string shut_string)
theorem own : ownKnob Tryd.prog.godebug = none := by kernel_rfl
theorem laid : laidOutB Tryd.prog = true := by kernel_rfl
set_option maxRecDepth 100000 in
theorem lifted (os : Os) (started : os.Started) (H : Type) (enc : TypeId × Value → H) :
    ReturnsInHanded {} Tryd.checked os 3 .any (fun w args => (Rows.penaltyTellsSpec.pre enc Tryd.prog Tryd.f3 Rows.penaltyTellsRow.domain false w args ∧ laidMetH Tryd.prog Rows.penaltyTellsRow.laid w) ∧ sizedMet enc Tryd.prog Tryd.f3 (OpenSpec.ofChange Rows.penaltyTellsSpec) false w args)
      (Rows.penaltyTellsSpec.post enc Tryd.prog Tryd.f3 false true false false) := by
  refine returnsInHanded_of_change_and (C := Tryd.checked) (X := fun w _ => laidMetH Tryd.prog Rows.penaltyTellsRow.laid w) (fun _ _ _ hh h => h.of_heap hh) own started (by kernel_rfl) Tryd.func3
    (ChangeSpec.witness_at (enc := enc) (C := Tryd.checked) (os := os) (X := fun w _ => laidMetH Tryd.prog Rows.penaltyTellsRow.laid w) false (laidWorld os) #[.agg #[.int .i64 0, .int .i64 0, .int .i64 0, .int .i64 0, .int .i64 0, .int .i64 0, .int .i64 0, .int .u64 0, .int .u64 0, .int .i64 0, .int .u64 0], .slice none 0 0, .agg #[.int .i64 0, .int .u64 0], .int .i64 0, .int .u64 0, .int .u64 0] 8 rfl (by kernel_rfl) (by kernel_rfl) (by kernel_rfl) (by kernel_rfl) (by kernel_rfl) (laidWorld_met os _)) ?_
  intro W base args ds gs before hval0 hW hcnd _ hL hsz0
  have hval : ∀ (j : Nat) t v, Tryd.f3.params[j]? = some t → args[j]? = some v → Value.okWide Tryd.prog W .any base t v := hval0
  have hW' := hW
  obtain ⟨p, q, hA0, hV, rfl, hfz, hnd⟩ := hW
  have hA : DataW.TrodAll enc Tryd.prog W 0 (fun _ => true) true Tryd.f3.params.toList args.toList ds p := hA0
  rw [Tryd.params3] at hA hval
  obtain ⟨v0, vs0, d0, ds0, p0, q0, hargs, rfl, rfl, h0, r0⟩ := trodAll_cons hA
  obtain ⟨v1, vs1, d1, ds1, p1, q1, rfl, rfl, rfl, h1, r1⟩ := trodAll_cons r0
  obtain ⟨v2, vs2, d2, ds2, p2, q2, rfl, rfl, rfl, h2, r2⟩ := trodAll_cons r1
  obtain ⟨v3, vs3, d3, ds3, p3, q3, rfl, rfl, rfl, h3, r3⟩ := trodAll_cons r2
  obtain ⟨v4, vs4, d4, ds4, p4, q4, rfl, rfl, rfl, h4, r4⟩ := trodAll_cons r3
  obtain ⟨v5, vs5, d5, ds5, p5, q5, rfl, rfl, rfl, h5, r5⟩ := trodAll_cons r4
  obtain ⟨rfl, rfl, rfl⟩ := trodAll_nil r5
  obtain rfl : args = #[v0, v1, v2, v3, v4, v5] := by cases args; simp_all
  obtain ⟨rfl, rfl⟩ := trodVars_none hV
  obtain ⟨p0, rfl, hp0⟩ := open_params h0 (hval 0 24 v0 rfl rfl)
  obtain ⟨l1, hl1⟩ := open_notes h1 (okWide_slice Tryd.underlying25 (hval 1 25 v1 rfl rfl))
  obtain ⟨x2, rfl, hn2⟩ := open_note h2 (hval 2 27 v2 rfl rfl)
  obtain ⟨a3, rfl, rfl, rfl, w3⟩ := open_int Tryd.underlying3 (hval 3 3 v3 rfl rfl) h3
  obtain ⟨a4, rfl, rfl, rfl, w4⟩ := open_int Tryd.underlying22 (hval 4 22 v4 rfl rfl) h4
  obtain ⟨n4, hn4, rfl⟩ := u64_nat w4
  obtain ⟨a5, rfl, rfl, rfl, w5⟩ := open_int Tryd.underlying22 (hval 5 22 v5 rfl rfl) h5
  obtain ⟨n5, hn5, rfl⟩ := u64_nat w5
  clear hA0 hval0
  refine (tells_all p0 hp0 v1 l1 x2 a3 (bounds_i64 w3) n4 hn4 n5 hn5 W hl1 hn2 (err_tab hL)).mono fun e W' ⟨he, hg⟩ => ?_
  subst he
  exact ⟨_, rfl, law_post laid (by kernel_rfl) rfl Tryd.underlying4 rfl rfl hW' (hg.below (Nat.le_refl _) (fun _ _ x => x))⟩
theorem row : Rows.PenaltyTellsSaid :=
  OpenClaim.holds_of_wide 3 Tryd.f3 rfl rfl rfl rfl rfl rfl rfl ⟨rfl, rfl, rfl, rfl, rfl⟩ rfl rfl rfl rfl rfl (by kernel_rfl) Tryd.func3 (by kernel_rfl)
    (of_decide_eq_true (by kernel_rfl)) (by unfold Func.isWrapper; first | (rw [if_pos (by decide +kernel)]; kernel_rfl) | (rw [if_neg (by decide +kernel)]; exact ⟨rfl, rfl⟩))
    (fun os started H enc _ => lifted os started H enc)
theorem proved : Rows.PenaltyTellsCardSaid :=
  Claim7.holds_tied_plain_at .later [] Rows.penaltyTellsCard.laidKinds true Rows.penaltyTellsCard.stood.harness Rows.penaltyTellsCard.stood.looks row (fun _ h => by cases h) (by kernel_rfl) (fun _ h => by cases h) penaltyTells_row_tie rfl ⟨rfl, rfl⟩ (by kernel_rfl) rfl
    (fun f fn hf hfn => by
      obtain rfl : f = 3 := Option.some.inj ((show Tryd.prog.funcNamed Rows.penaltyTellsRow.func = some 3 by kernel_rfl).symm.trans hf) |>.symm
      obtain rfl : fn = Tryd.f3 := (Option.some.inj (Tryd.func3.symm.trans hfn)).symm
      exact ⟨by kernel_rfl, fun j t ht => by
        have hall : (Tryd.f3.params.toList.all fun u => !Tryd.prog.wantsStandIn u) = true := by kernel_rfl
        exact (show Tryd.prog.wantsStandIn t = false by simpa using List.all_eq_true.1 hall t (by simpa using Array.mem_of_getElem? ht))⟩)
    (by kernel_rfl)
end Go.Proofs.YtghohakbepeffaaDoor.penaltyTells
