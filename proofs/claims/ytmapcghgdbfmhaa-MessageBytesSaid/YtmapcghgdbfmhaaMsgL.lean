/-
  Messages: their bytes, by the document (printed by msg8.py). Conditions: none.
-/
import Derived.Test.YtmapcghgdbfmhaaMsgK
import Derived.Test.YtmapcghgdbfmhaaMsgPut
import Derived.Test.YtmapcghgdbfmhaaVoteE
namespace Go.Proofs.Ytmapcghgdbfmhaa
open Go Go.RowKit Go.Own Go.Shelf
/-- The bytes of a vote, if it may be. -/
def Att.tb (a : Att) : List UInt8 := if a.fine then a.bytes else []
def Pro.tb (a : Pro) : List UInt8 := if a.fine then a.bytes else []
theorem Att.tb_ok {a : Att} (h : a.fine) : a.tb = a.bytes := if_pos h
theorem Pro.tb_ok {a : Pro} (h : a.fine) : a.tb = a.bytes := if_pos h
theorem Att.tb_len {a : Att} (h : a.r.length = 32) : a.tb.length ≤ 82 := by
  unfold Att.tb; split
  · exact (att_len h).1
  · simp
theorem Pro.tb_len {a : Pro} (h : a.r.length = 32) : a.tb.length ≤ 82 := by
  unfold Pro.tb; split
  · have := (pro_len h).1; omega
  · simp
theorem rvBytes_tb (a : Att) (w : World) (ha : a.Ok) : Calls Try.prog 74 #[.agg (Att.c a)] w fun e w' => ∃ X, e = .returned (.tuple #[X, .int .i64 a.err]) ∧ Row w' 5 1 X a.tb.length (B a.tb) ∧ NewFrom w.heap.size X ∧ Keeps Nob w w' := by
  by_cases hf : a.fine
  · rw [Att.err_ok hf, Att.tb_ok hf]; exact rvBytes_ok a w ha hf
  · rw [Att.err_no hf, Att.tb, if_neg hf]; exact (rvBytes_bad a w ha hf).mono fun e w' ⟨h1, h2⟩ => ⟨_, h1, World.ownsRow_nil _ _ _ _, NewFrom.nil _, h2⟩
theorem rvBytesBlock_tb (a : Pro) (w : World) (ha : a.Ok) : Calls Try.prog 75 #[.agg (Pro.c a)] w fun e w' => ∃ X, e = .returned (.tuple #[X, .int .i64 a.err]) ∧ Row w' 5 1 X a.tb.length (B a.tb) ∧ NewFrom w.heap.size X ∧ Keeps Nob w w' := by
  by_cases hf : a.fine
  · rw [Pro.err_ok hf, Pro.tb_ok hf]; exact rvBytesBlock_ok a w ha hf
  · rw [Pro.err_no hf, Pro.tb, if_neg hf]; exact (rvBytesBlock_bad a w ha hf).mono fun e w' ⟨h1, h2⟩ => ⟨_, h1, World.ownsRow_nil _ _ _ _, NewFrom.nil _, h2⟩
noncomputable def part_rmstamped (n : Nat) : Code := partOf Try.f76 n
noncomputable abbrev o_rmstamped (n k : Nat) : Oper := (opsAt (part_rmstamped n)).getD k default
set_option maxRecDepth 100000 in
set_option maxHeartbeats 4000000 in
theorem rmstamped_ok (m : Msg) (w : World) (b0 : 0 ≤ m.sv ∧ m.sv ≤ 31) (b1 : 1 ≤ m.ss ∧ m.ss ≤ 4294967296) (b2 : -1 ≤ m.sp ∧ m.sp ≤ 31) (b3 : 0 ≤ m.sf ∧ m.sf ≤ 4294967296) :
    Calls Try.prog 76 #[.agg #[.int .i64 m.sv, .int .i64 m.ss, .int .i64 m.sp, .int .i64 m.sf]] w (fun e w' => ∃ X, e = .returned X ∧ Row w' 5 1 X (encs [m.sv.toNat, m.ss.toNat, (m.sp + 1).toNat, m.sf.toNat]).length (B (encs [m.sv.toNat, m.ss.toNat, (m.sp + 1).toNat, m.sf.toNat])) ∧ NewFrom w.heap.size X ∧ Keeps Nob w w') := by
  have K0 : Keeps Nob w w := Keeps.refl _ _
  refine sy_enter (part_rmstamped 1) ⟨#[.agg #[.int .i64 m.sv, .int .i64 m.ss, .int .i64 m.sp, .int .i64 m.sf], undef, undef, undef, undef, undef, undef, undef, undef, undef, undef, undef, undef, undef, undef, undef, undef, undef], []⟩ Try.func76 (by kernel_rfl) (by kernel_rfl) ?_
  refine sy_sq (part_rmstamped 2) (part_rmstamped 3) ?_
  refine sy_reg ?_
  refine rg_plain 0 (opsAt (part_rmstamped 2)) [0, 1] (by kernel_rfl) (by kernel_rfl) ?_
  obtain ⟨V1, eV1, gs, egs, h2, kV1⟩ := alloc_step w (#[.int .i64 m.sv, .int .i64 m.ss, .int .i64 m.sp, .int .i64 m.sf]) 27
  have n3 : w.heap.size ≤ gs := egs ▸ K0.size
  refine ps_r (o_rmstamped 2 0) (pT gs 0) (w' := V1) (by rw [← eV1, ← egs]; exact exec_box 27 (.tmp 0) (by kernel_rfl) (.agg #[.int .i64 m.sv, .int .i64 m.ss, .int .i64 m.sp, .int .i64 m.sf]) (by kernel_rfl)) ?_
  clear eV1
  have K4 := K0.nn kV1
  have z5 := kV1.size
  refine ps_k (o_rmstamped 2 1) (.slice none 0 0) ?_
  refine ps_end ?_
  refine then_n ?_
  refine sy_sq (part_rmstamped 6) (part_rmstamped 7) ?_
  refine sy_reg ?_
  refine rg_plain 1 (opsAt (part_rmstamped 6)) [0, 1, 2, 3, 4, 5, 6, 7, 8, 9, 10, 11, 12, 13, 14, 15] (by kernel_rfl) (by kernel_rfl) ?_
  refine ps_k (o_rmstamped 6 0) (pT gs 0) ?_
  refine ps_p (o_rmstamped 6 1) (.int .i64 m.sv) (exec_ld 3 (.tmp 3) gs 0 Try.underlying3 (rc (h2) (by kernel_rfl))) ?_
  refine ps_p (o_rmstamped 6 2) (uN m.sv.toNat) (exec_cast (congrArg (Value.int .u64) (wrapNat (by omega) (by omega))) (by kernel_rfl)) ?_
  refine ps_k (o_rmstamped 6 3) (pT gs 1) ?_
  refine ps_p (o_rmstamped 6 4) (.int .i64 m.ss) (exec_ld 3 (.tmp 6) gs 1 Try.underlying3 (rc (h2) (by kernel_rfl))) ?_
  refine ps_p (o_rmstamped 6 5) (uN m.ss.toNat) (exec_cast (congrArg (Value.int .u64) (wrapNat (by omega) (by omega))) (by kernel_rfl)) ?_
  refine ps_k (o_rmstamped 6 6) (pT gs 2) ?_
  refine ps_p (o_rmstamped 6 7) (.int .i64 m.sp) (exec_ld 3 (.tmp 9) gs 2 Try.underlying3 (rc (h2) (by kernel_rfl))) ?_
  refine ps_p (o_rmstamped 6 8) (.int .i64 (m.sp + 1)) (exec_cast (congrArg (Value.int .i64) (wrapI (m.sp + 1) (m.sp + 1) rfl (by omega) (by omega))) (by kernel_rfl)) ?_
  refine ps_p (o_rmstamped 6 9) (uN (((m.sp + 1)).toNat)) (exec_cast (congrArg (Value.int .u64) (wrapNat (by omega) (by omega))) (by kernel_rfl)) ?_
  refine ps_k (o_rmstamped 6 10) (pT gs 3) ?_
  refine ps_p (o_rmstamped 6 11) (.int .i64 m.sf) (exec_ld 3 (.tmp 13) gs 3 Try.underlying3 (rc (h2) (by kernel_rfl))) ?_
  refine ps_p (o_rmstamped 6 12) (uN m.sf.toNat) (exec_cast (congrArg (Value.int .u64) (wrapNat (by omega) (by omega))) (by kernel_rfl)) ?_
  obtain ⟨V6, eV6, gl, egl, h7, kV6⟩ := alloc_step V1 (#[.int .u64 ((m.sv.toNat : Nat) : Int), .int .u64 ((m.ss.toNat : Nat) : Int), .int .u64 ((((m.sp + 1)).toNat : Nat) : Int), .int .u64 ((m.sf.toNat : Nat) : Int)]) 25
  have n8 : gs < gl := egl ▸ lt_of_block h2
  have n9 : w.heap.size ≤ gl := egl ▸ K4.size
  refine ps_r (o_rmstamped 6 13) (.slice (some ⟨gl, 0, none⟩) 4 4) (w' := V6) (by rw [← eV6, ← egl]; kernel_rfl) ?_
  have h10 := kV6.bk h2
  have K11 := K4.nn kV6
  have z12 := kV6.size
  have zpX14 : w.heap.size ≤ V6.heap.size := K11.size
  refine ps_c (o_rmstamped 6 14) 50 #[.slice (some ⟨gl, 0, none⟩) 4 4] Try.func50 ((rmput_4 gl m.sv.toNat m.ss.toNat ((m.sp + 1).toNat) m.sf.toNat _ h7 (by omega) (by omega) (by omega) (by omega)).mono ?_)
  rintro e V13 ⟨X14, rfl, hX14, hnX14, kV13⟩
  have hwX14 : NewFrom w.heap.size X14 := fun j hj => by have := hnX14 j hj; omega
  refine ⟨_, rfl, ?_⟩
  have h15 := kV13.bk h10
  have K16 := K11.nn kV13
  have z17 := kV13.size
  refine ps_k (o_rmstamped 6 15) (X14) ?_
  refine ps_end ?_
  refine then_n ?_
  refine sy_ret (by kernel_rfl) ?_
  refine sy_out (X14) rfl (by kernel_rfl) ?_
  exact ⟨_, rfl, hX14, hwX14, K16⟩
noncomputable def part_rmfields (n : Nat) : Code := partOf Try.f51 n
noncomputable abbrev o_rmfields (n k : Nat) : Oper := (opsAt (part_rmfields n)).getD k default
set_option maxRecDepth 100000 in
set_option maxHeartbeats 4000000 in
theorem rmfields_1 (m : Msg) (w : World) (hok : m.Ok) (hk : m.k = 1) (ht : 0 ≤ m.t ∧ m.t ≤ 63) :
    Calls Try.prog 51 #[.agg (Msg.c m)] w (fun e w' => ∃ X, e = .returned X ∧ Row w' 5 1 X (encs [m.t.toNat, m.am]).length (B (encs [m.t.toNat, m.am])) ∧ NewFrom w.heap.size X ∧ Keeps Nob w w') := by
  obtain ⟨i0, hi0, hz0, hz1, hz2⟩ := info_parts u8_info0
  have hr := hok.R
  have la := Att.tb_len hr.a
  have lb := Att.tb_len hr.b
  have lp := Pro.tb_len hr.p
  have lq := Pro.tb_len hr.q
  have K0 : Keeps Nob w w := Keeps.refl _ _
  refine sy_enter (part_rmfields 1) ⟨#[.agg (Msg.c m), undef, undef, undef, undef, undef, undef, undef, undef, undef, undef, undef, undef, undef, undef, undef, undef, undef, undef, undef, undef, undef, undef, undef, undef, undef, undef, undef, undef, undef, undef, undef, undef, undef, undef, undef, undef, undef, undef, undef, undef, undef, undef, undef, undef, undef, undef, undef, undef, undef, undef, undef, undef, undef, undef, undef, undef, undef, undef, undef, undef, undef, undef, undef, undef, undef, undef, undef, undef, undef, undef, undef, undef, undef, undef, undef, undef, undef, undef, undef, undef, undef, undef, undef, undef, undef, undef, undef, undef, undef, undef, undef, undef, undef, undef, undef, undef, undef, undef, undef, undef, undef, undef, undef, undef, undef, undef, undef, undef, undef, undef, undef, undef, undef, undef, undef, undef, undef, undef, undef, undef, undef], []⟩ Try.func51 (by kernel_rfl) (by kernel_rfl) ?_
  refine sy_sq (part_rmfields 2) (part_rmfields 3) ?_
  refine sy_reg ?_
  refine rg_plain 0 (opsAt (part_rmfields 2)) [0, 1] (by kernel_rfl) (by kernel_rfl) ?_
  obtain ⟨V1, eV1, gm, egm, h2, kV1⟩ := alloc_step w ((Msg.c m)) 35
  have n3 : w.heap.size ≤ gm := egm ▸ K0.size
  refine ps_r (o_rmfields 2 0) (pT gm 0) (w' := V1) (by rw [← eV1, ← egm]; exact exec_box 35 (.tmp 0) (by kernel_rfl) (.agg (Msg.c m)) (by kernel_rfl)) ?_
  clear eV1
  have K4 := K0.nn kV1
  have z5 := kV1.size
  refine ps_k (o_rmfields 2 1) (.slice none 0 0) ?_
  refine ps_end ?_
  refine then_n ?_
  refine sy_sq (part_rmfields 6) (part_rmfields 7) ?_
  refine sy_reg ?_
  refine rg_plain 1 (opsAt (part_rmfields 6)) [0, 1, 2, 3, 4, 5, 6, 7] (by kernel_rfl) (by kernel_rfl) ?_
  refine ps_k (o_rmfields 6 0) (pT gm 12) ?_
  refine ps_p (o_rmfields 6 1) (.agg (Att.c m.a)) (exec_load_seg 31 (.tmp 12) (by kernel_rfl) gm 12 (by kernel_rfl) (Att.c m.a).toList _ _ _ h2 (Msg.seg_A hr) Try.underlying31 rfl (by rw [Att.tl hr.a]; kernel_rfl)) ?_
  refine ps_c (o_rmfields 6 2) 74 #[.agg (Att.c m.a)] Try.func74 ((rvBytes_tb m.a _ hok.a).mono ?_)
  rintro e V6 ⟨Xa, rfl, hXa, hnXa, kV6⟩
  have hlXa : ∀ j, Xa.ownBlock = some j → j < V6.heap.size := fun j hj => hXa.lt hj
  have hwXa : NewFrom w.heap.size Xa := fun j hj => by have := hnXa j hj; omega
  refine ⟨_, rfl, ?_⟩
  have h7 := kV6.bk h2
  have K8 := K4.nn kV6
  have z9 := kV6.size
  refine ps_k (o_rmfields 6 3) (.tuple #[Xa, .int .i64 m.a.err]) ?_
  refine ps_k (o_rmfields 6 4) (Xa) ?_
  refine ps_k (o_rmfields 6 5) (.int .i64 m.a.err) ?_
  refine ps_k (o_rmfields 6 6) (Xa) ?_
  refine ps_k (o_rmfields 6 7) (.int .i64 m.a.err) ?_
  refine ps_end ?_
  refine then_n ?_
  refine sy_sq (part_rmfields 14) (part_rmfields 15) ?_
  refine sy_reg ?_
  refine rg_plain 2 (opsAt (part_rmfields 14)) [0, 1, 2, 3, 4, 5, 6, 7] (by kernel_rfl) (by kernel_rfl) ?_
  refine ps_k (o_rmfields 14 0) (pT gm 48) ?_
  refine ps_p (o_rmfields 14 1) (.agg (Att.c m.b)) (exec_load_seg 31 (.tmp 18) (by kernel_rfl) gm 48 (by kernel_rfl) (Att.c m.b).toList _ _ _ h7 (Msg.seg_B hr) Try.underlying31 rfl (by rw [Att.tl hr.b]; kernel_rfl)) ?_
  refine ps_c (o_rmfields 14 2) 74 #[.agg (Att.c m.b)] Try.func74 ((rvBytes_tb m.b _ hok.b).mono ?_)
  rintro e V10 ⟨Xb, rfl, hXb, hnXb, kV10⟩
  have hlXb : ∀ j, Xb.ownBlock = some j → j < V10.heap.size := fun j hj => hXb.lt hj
  have hwXb : NewFrom w.heap.size Xb := fun j hj => by have := hnXb j hj; omega
  refine ⟨_, rfl, ?_⟩
  have h11 := kV10.bk h7
  have K12 := K8.nn kV10
  have z13 := kV10.size
  refine ps_k (o_rmfields 14 3) (.tuple #[Xb, .int .i64 m.b.err]) ?_
  refine ps_k (o_rmfields 14 4) (Xb) ?_
  refine ps_k (o_rmfields 14 5) (.int .i64 m.b.err) ?_
  refine ps_k (o_rmfields 14 6) (Xb) ?_
  refine ps_k (o_rmfields 14 7) (.int .i64 m.b.err) ?_
  refine ps_end ?_
  refine then_n ?_
  refine sy_sq (part_rmfields 30) (part_rmfields 31) ?_
  refine sy_reg ?_
  refine rg_plain 3 (opsAt (part_rmfields 30)) [0, 1, 2, 3, 4, 5, 6, 7] (by kernel_rfl) (by kernel_rfl) ?_
  refine ps_k (o_rmfields 30 0) (pT gm 84) ?_
  refine ps_p (o_rmfields 30 1) (.agg (Pro.c m.p)) (exec_load_seg 33 (.tmp 24) (by kernel_rfl) gm 84 (by kernel_rfl) (Pro.c m.p).toList _ _ _ h11 (Msg.seg_P hr) Try.underlying33 rfl (by rw [Pro.tl hr.p]; kernel_rfl)) ?_
  refine ps_c (o_rmfields 30 2) 75 #[.agg (Pro.c m.p)] Try.func75 ((rvBytesBlock_tb m.p _ hok.p).mono ?_)
  rintro e V14 ⟨Xp, rfl, hXp, hnXp, kV14⟩
  have hlXp : ∀ j, Xp.ownBlock = some j → j < V14.heap.size := fun j hj => hXp.lt hj
  have hwXp : NewFrom w.heap.size Xp := fun j hj => by have := hnXp j hj; omega
  refine ⟨_, rfl, ?_⟩
  have h15 := kV14.bk h11
  have K16 := K12.nn kV14
  have z17 := kV14.size
  refine ps_k (o_rmfields 30 3) (.tuple #[Xp, .int .i64 m.p.err]) ?_
  refine ps_k (o_rmfields 30 4) (Xp) ?_
  refine ps_k (o_rmfields 30 5) (.int .i64 m.p.err) ?_
  refine ps_k (o_rmfields 30 6) (Xp) ?_
  refine ps_k (o_rmfields 30 7) (.int .i64 m.p.err) ?_
  refine ps_end ?_
  refine sy_a ⟨#[.agg (Msg.c m), pT gm 0, .slice none 0 0, Xa, .int .i64 m.a.err, Xb, .int .i64 m.b.err, Xp, .int .i64 m.p.err, undef, undef, .tuple #[Xa, .int .i64 m.a.err], pT gm 12, .agg (Att.c m.a), .tuple #[Xa, .int .i64 m.a.err], Xa, .int .i64 m.a.err, .tuple #[Xb, .int .i64 m.b.err], pT gm 48, .agg (Att.c m.b), .tuple #[Xb, .int .i64 m.b.err], Xb, .int .i64 m.b.err, .tuple #[Xp, .int .i64 m.p.err], pT gm 84, .agg (Pro.c m.p), .tuple #[Xp, .int .i64 m.p.err], Xp, .int .i64 m.p.err, undef, undef, undef, undef, undef, undef, undef, undef, undef, undef, undef, undef, undef, undef, undef, undef, undef, undef, undef, undef, undef, undef, undef, undef, undef, undef, undef, undef, undef, undef, undef, undef, undef, undef, undef, undef, undef, undef, undef, undef, undef, undef, undef, undef, undef, undef, undef, undef, undef, undef, undef, undef, undef, undef, undef, undef, undef, undef, undef, undef, undef, undef, undef, undef, undef, undef, undef, undef, undef, undef, undef, undef, undef, undef, undef, undef, undef, undef, undef, undef, undef, undef, undef, undef, undef, undef, undef, undef, undef, undef, undef, undef, undef], []⟩ ?_
  refine then_n ?_
  refine sy_sq (part_rmfields 62) (part_rmfields 63) ?_
  refine sy_reg ?_
  refine rg_plain 4 (opsAt (part_rmfields 62)) [0, 1, 2, 3, 4, 5, 6, 7] (by kernel_rfl) (by kernel_rfl) ?_
  refine ps_k (o_rmfields 62 0) (pT gm 119) ?_
  refine ps_p (o_rmfields 62 1) (.agg (Pro.c m.q)) (exec_load_seg 33 (.tmp 30) (by kernel_rfl) gm 119 (by kernel_rfl) (Pro.c m.q).toList _ _ _ h15 (Msg.seg_Q hr) Try.underlying33 rfl (by rw [Pro.tl hr.q]; kernel_rfl)) ?_
  refine ps_c (o_rmfields 62 2) 75 #[.agg (Pro.c m.q)] Try.func75 ((rvBytesBlock_tb m.q _ hok.q).mono ?_)
  rintro e V18 ⟨Xq, rfl, hXq, hnXq, kV18⟩
  have hlXq : ∀ j, Xq.ownBlock = some j → j < V18.heap.size := fun j hj => hXq.lt hj
  have hwXq : NewFrom w.heap.size Xq := fun j hj => by have := hnXq j hj; omega
  obtain ⟨zz, hzz⟩ : ∃ z, V18.heap.size = z := ⟨_, rfl⟩
  have hgz : gm < zz := by have := lt_of_block h15; have := kV18.size; omega
  refine ⟨_, rfl, ?_⟩
  have h19 := kV18.bk h15
  have K20 := K16.nn kV18
  have z21 := kV18.size
  refine ps_k (o_rmfields 62 3) (.tuple #[Xq, .int .i64 m.q.err]) ?_
  refine ps_k (o_rmfields 62 4) (Xq) ?_
  refine ps_k (o_rmfields 62 5) (.int .i64 m.q.err) ?_
  refine ps_k (o_rmfields 62 6) (Xq) ?_
  refine ps_k (o_rmfields 62 7) (.int .i64 m.q.err) ?_
  refine ps_end ?_
  refine then_n ?_
  refine sy_sq (part_rmfields 126) (part_rmfields 127) ?_
  refine sy_sq (part_rmfields 252) (part_rmfields 253) ?_
  refine sy_reg ?_
  refine rg_plain 5 (opsAt (part_rmfields 252)) [0, 1] (by kernel_rfl) (by kernel_rfl) ?_
  refine ps_k (o_rmfields 252 0) (pT gm 0) ?_
  refine ps_p (o_rmfields 252 1) (.int .i64 m.k) (exec_ld 3 (.tmp 35) gm 0 Try.underlying3 (rc (h19) (Msg.get_n hr NF.k))) ?_
  refine ps_end ?_
  refine then_n ?_
  refine sy_bk 0 (part_rmfields 506) ?_
  refine sy_sq (part_rmfields 1012) (part_rmfields 1013) ?_
  refine sy_reg ?_
  refine rg_plain 6 (opsAt (part_rmfields 1012)) [0, 1] (by kernel_rfl) (by kernel_rfl) ?_
  refine ps_p (o_rmfields 1012 0) (.bool true) (eqt ((m.k) : Int) ((1) : Int) (by omega)) ?_
  refine ps_k (o_rmfields 1012 1) (.bool true) ?_
  refine ps_end ?_
  refine then_n ?_
  refine sy_ys (.tmp 37) (part_rmfields 2026) (part_rmfields 2027) ?_
  refine sy_sq (part_rmfields 4052) (part_rmfields 4053) ?_
  refine sy_reg ?_
  refine rg_plain 7 (opsAt (part_rmfields 4052)) [0, 1, 2, 3, 4, 5, 6, 7] (by kernel_rfl) (by kernel_rfl) ?_
  refine ps_k (o_rmfields 4052 0) (pT gm 3) ?_
  refine ps_p (o_rmfields 4052 1) (.int .i64 m.t) (exec_ld 3 (.tmp 39) gm 3 Try.underlying3 (rc (h19) (Msg.get_n hr NF.t))) ?_
  refine ps_p (o_rmfields 4052 2) (uN m.t.toNat) (exec_cast (congrArg (Value.int .u64) (wrapNat (by omega) (by omega))) (by kernel_rfl)) ?_
  refine ps_k (o_rmfields 4052 3) (pT gm 4) ?_
  refine ps_p (o_rmfields 4052 4) (uN m.am) (exec_ld 25 (.tmp 42) gm 4 Try.underlying25 (rc (h19) (Msg.get_a hr AF.am))) ?_
  obtain ⟨V22, eV22, gl, egl, h23, kV22⟩ := alloc_step V18 (#[.int .u64 ((m.t.toNat : Nat) : Int), .int .u64 ((m.am : Nat) : Int)]) 25
  have n24 : gm < gl := egl ▸ lt_of_block h19
  have n25 : w.heap.size ≤ gl := egl ▸ K20.size
  refine ps_r (o_rmfields 4052 5) (.slice (some ⟨gl, 0, none⟩) 2 2) (w' := V22) (by rw [← eV22, ← egl]; kernel_rfl) ?_
  have h26 := kV22.bk h19
  have K27 := K20.nn kV22
  have z28 := kV22.size
  have zpX30 : w.heap.size ≤ V22.heap.size := K27.size
  refine ps_c (o_rmfields 4052 6) 50 #[.slice (some ⟨gl, 0, none⟩) 2 2] Try.func50 ((rmput_2 gl m.t.toNat m.am _ h23 (by omega) hok.am).mono ?_)
  rintro e V29 ⟨X30, rfl, hX30, hnX30, kV29⟩
  have hwX30 : NewFrom zz X30 := fun j hj => by have := hnX30 j hj; omega
  refine ⟨_, rfl, ?_⟩
  have h31 := kV29.bk h26
  have K32 := K27.nn kV29
  have z33 := kV29.size
  refine ps_k (o_rmfields 4052 7) (X30) ?_
  refine ps_end ?_
  refine then_n ?_
  refine sy_ret (by kernel_rfl) ?_
  refine blk_r ?_
  refine then_r ?_
  refine sy_out (X30) rfl (by kernel_rfl) ?_
  exact ⟨_, rfl, hX30, fun j hj => by have := hwX30 j hj; omega, K32⟩
set_option maxRecDepth 100000 in
set_option maxHeartbeats 4000000 in
theorem rmfields_2 (m : Msg) (w : World) (hok : m.Ok) (hk : m.k = 2)  :
    Calls Try.prog 51 #[.agg (Msg.c m)] w (fun e w' => ∃ X, e = .returned X ∧ Row w' 5 1 X (encs [m.mn, m.am]).length (B (encs [m.mn, m.am])) ∧ NewFrom w.heap.size X ∧ Keeps Nob w w') := by
  obtain ⟨i0, hi0, hz0, hz1, hz2⟩ := info_parts u8_info0
  have hr := hok.R
  have la := Att.tb_len hr.a
  have lb := Att.tb_len hr.b
  have lp := Pro.tb_len hr.p
  have lq := Pro.tb_len hr.q
  have K0 : Keeps Nob w w := Keeps.refl _ _
  refine sy_enter (part_rmfields 1) ⟨#[.agg (Msg.c m), undef, undef, undef, undef, undef, undef, undef, undef, undef, undef, undef, undef, undef, undef, undef, undef, undef, undef, undef, undef, undef, undef, undef, undef, undef, undef, undef, undef, undef, undef, undef, undef, undef, undef, undef, undef, undef, undef, undef, undef, undef, undef, undef, undef, undef, undef, undef, undef, undef, undef, undef, undef, undef, undef, undef, undef, undef, undef, undef, undef, undef, undef, undef, undef, undef, undef, undef, undef, undef, undef, undef, undef, undef, undef, undef, undef, undef, undef, undef, undef, undef, undef, undef, undef, undef, undef, undef, undef, undef, undef, undef, undef, undef, undef, undef, undef, undef, undef, undef, undef, undef, undef, undef, undef, undef, undef, undef, undef, undef, undef, undef, undef, undef, undef, undef, undef, undef, undef, undef, undef, undef], []⟩ Try.func51 (by kernel_rfl) (by kernel_rfl) ?_
  refine sy_sq (part_rmfields 2) (part_rmfields 3) ?_
  refine sy_reg ?_
  refine rg_plain 0 (opsAt (part_rmfields 2)) [0, 1] (by kernel_rfl) (by kernel_rfl) ?_
  obtain ⟨V1, eV1, gm, egm, h2, kV1⟩ := alloc_step w ((Msg.c m)) 35
  have n3 : w.heap.size ≤ gm := egm ▸ K0.size
  refine ps_r (o_rmfields 2 0) (pT gm 0) (w' := V1) (by rw [← eV1, ← egm]; exact exec_box 35 (.tmp 0) (by kernel_rfl) (.agg (Msg.c m)) (by kernel_rfl)) ?_
  clear eV1
  have K4 := K0.nn kV1
  have z5 := kV1.size
  refine ps_k (o_rmfields 2 1) (.slice none 0 0) ?_
  refine ps_end ?_
  refine then_n ?_
  refine sy_sq (part_rmfields 6) (part_rmfields 7) ?_
  refine sy_reg ?_
  refine rg_plain 1 (opsAt (part_rmfields 6)) [0, 1, 2, 3, 4, 5, 6, 7] (by kernel_rfl) (by kernel_rfl) ?_
  refine ps_k (o_rmfields 6 0) (pT gm 12) ?_
  refine ps_p (o_rmfields 6 1) (.agg (Att.c m.a)) (exec_load_seg 31 (.tmp 12) (by kernel_rfl) gm 12 (by kernel_rfl) (Att.c m.a).toList _ _ _ h2 (Msg.seg_A hr) Try.underlying31 rfl (by rw [Att.tl hr.a]; kernel_rfl)) ?_
  refine ps_c (o_rmfields 6 2) 74 #[.agg (Att.c m.a)] Try.func74 ((rvBytes_tb m.a _ hok.a).mono ?_)
  rintro e V6 ⟨Xa, rfl, hXa, hnXa, kV6⟩
  have hlXa : ∀ j, Xa.ownBlock = some j → j < V6.heap.size := fun j hj => hXa.lt hj
  have hwXa : NewFrom w.heap.size Xa := fun j hj => by have := hnXa j hj; omega
  refine ⟨_, rfl, ?_⟩
  have h7 := kV6.bk h2
  have K8 := K4.nn kV6
  have z9 := kV6.size
  refine ps_k (o_rmfields 6 3) (.tuple #[Xa, .int .i64 m.a.err]) ?_
  refine ps_k (o_rmfields 6 4) (Xa) ?_
  refine ps_k (o_rmfields 6 5) (.int .i64 m.a.err) ?_
  refine ps_k (o_rmfields 6 6) (Xa) ?_
  refine ps_k (o_rmfields 6 7) (.int .i64 m.a.err) ?_
  refine ps_end ?_
  refine then_n ?_
  refine sy_sq (part_rmfields 14) (part_rmfields 15) ?_
  refine sy_reg ?_
  refine rg_plain 2 (opsAt (part_rmfields 14)) [0, 1, 2, 3, 4, 5, 6, 7] (by kernel_rfl) (by kernel_rfl) ?_
  refine ps_k (o_rmfields 14 0) (pT gm 48) ?_
  refine ps_p (o_rmfields 14 1) (.agg (Att.c m.b)) (exec_load_seg 31 (.tmp 18) (by kernel_rfl) gm 48 (by kernel_rfl) (Att.c m.b).toList _ _ _ h7 (Msg.seg_B hr) Try.underlying31 rfl (by rw [Att.tl hr.b]; kernel_rfl)) ?_
  refine ps_c (o_rmfields 14 2) 74 #[.agg (Att.c m.b)] Try.func74 ((rvBytes_tb m.b _ hok.b).mono ?_)
  rintro e V10 ⟨Xb, rfl, hXb, hnXb, kV10⟩
  have hlXb : ∀ j, Xb.ownBlock = some j → j < V10.heap.size := fun j hj => hXb.lt hj
  have hwXb : NewFrom w.heap.size Xb := fun j hj => by have := hnXb j hj; omega
  refine ⟨_, rfl, ?_⟩
  have h11 := kV10.bk h7
  have K12 := K8.nn kV10
  have z13 := kV10.size
  refine ps_k (o_rmfields 14 3) (.tuple #[Xb, .int .i64 m.b.err]) ?_
  refine ps_k (o_rmfields 14 4) (Xb) ?_
  refine ps_k (o_rmfields 14 5) (.int .i64 m.b.err) ?_
  refine ps_k (o_rmfields 14 6) (Xb) ?_
  refine ps_k (o_rmfields 14 7) (.int .i64 m.b.err) ?_
  refine ps_end ?_
  refine then_n ?_
  refine sy_sq (part_rmfields 30) (part_rmfields 31) ?_
  refine sy_reg ?_
  refine rg_plain 3 (opsAt (part_rmfields 30)) [0, 1, 2, 3, 4, 5, 6, 7] (by kernel_rfl) (by kernel_rfl) ?_
  refine ps_k (o_rmfields 30 0) (pT gm 84) ?_
  refine ps_p (o_rmfields 30 1) (.agg (Pro.c m.p)) (exec_load_seg 33 (.tmp 24) (by kernel_rfl) gm 84 (by kernel_rfl) (Pro.c m.p).toList _ _ _ h11 (Msg.seg_P hr) Try.underlying33 rfl (by rw [Pro.tl hr.p]; kernel_rfl)) ?_
  refine ps_c (o_rmfields 30 2) 75 #[.agg (Pro.c m.p)] Try.func75 ((rvBytesBlock_tb m.p _ hok.p).mono ?_)
  rintro e V14 ⟨Xp, rfl, hXp, hnXp, kV14⟩
  have hlXp : ∀ j, Xp.ownBlock = some j → j < V14.heap.size := fun j hj => hXp.lt hj
  have hwXp : NewFrom w.heap.size Xp := fun j hj => by have := hnXp j hj; omega
  refine ⟨_, rfl, ?_⟩
  have h15 := kV14.bk h11
  have K16 := K12.nn kV14
  have z17 := kV14.size
  refine ps_k (o_rmfields 30 3) (.tuple #[Xp, .int .i64 m.p.err]) ?_
  refine ps_k (o_rmfields 30 4) (Xp) ?_
  refine ps_k (o_rmfields 30 5) (.int .i64 m.p.err) ?_
  refine ps_k (o_rmfields 30 6) (Xp) ?_
  refine ps_k (o_rmfields 30 7) (.int .i64 m.p.err) ?_
  refine ps_end ?_
  refine sy_a ⟨#[.agg (Msg.c m), pT gm 0, .slice none 0 0, Xa, .int .i64 m.a.err, Xb, .int .i64 m.b.err, Xp, .int .i64 m.p.err, undef, undef, .tuple #[Xa, .int .i64 m.a.err], pT gm 12, .agg (Att.c m.a), .tuple #[Xa, .int .i64 m.a.err], Xa, .int .i64 m.a.err, .tuple #[Xb, .int .i64 m.b.err], pT gm 48, .agg (Att.c m.b), .tuple #[Xb, .int .i64 m.b.err], Xb, .int .i64 m.b.err, .tuple #[Xp, .int .i64 m.p.err], pT gm 84, .agg (Pro.c m.p), .tuple #[Xp, .int .i64 m.p.err], Xp, .int .i64 m.p.err, undef, undef, undef, undef, undef, undef, undef, undef, undef, undef, undef, undef, undef, undef, undef, undef, undef, undef, undef, undef, undef, undef, undef, undef, undef, undef, undef, undef, undef, undef, undef, undef, undef, undef, undef, undef, undef, undef, undef, undef, undef, undef, undef, undef, undef, undef, undef, undef, undef, undef, undef, undef, undef, undef, undef, undef, undef, undef, undef, undef, undef, undef, undef, undef, undef, undef, undef, undef, undef, undef, undef, undef, undef, undef, undef, undef, undef, undef, undef, undef, undef, undef, undef, undef, undef, undef, undef, undef, undef, undef, undef, undef, undef], []⟩ ?_
  refine then_n ?_
  refine sy_sq (part_rmfields 62) (part_rmfields 63) ?_
  refine sy_reg ?_
  refine rg_plain 4 (opsAt (part_rmfields 62)) [0, 1, 2, 3, 4, 5, 6, 7] (by kernel_rfl) (by kernel_rfl) ?_
  refine ps_k (o_rmfields 62 0) (pT gm 119) ?_
  refine ps_p (o_rmfields 62 1) (.agg (Pro.c m.q)) (exec_load_seg 33 (.tmp 30) (by kernel_rfl) gm 119 (by kernel_rfl) (Pro.c m.q).toList _ _ _ h15 (Msg.seg_Q hr) Try.underlying33 rfl (by rw [Pro.tl hr.q]; kernel_rfl)) ?_
  refine ps_c (o_rmfields 62 2) 75 #[.agg (Pro.c m.q)] Try.func75 ((rvBytesBlock_tb m.q _ hok.q).mono ?_)
  rintro e V18 ⟨Xq, rfl, hXq, hnXq, kV18⟩
  have hlXq : ∀ j, Xq.ownBlock = some j → j < V18.heap.size := fun j hj => hXq.lt hj
  have hwXq : NewFrom w.heap.size Xq := fun j hj => by have := hnXq j hj; omega
  obtain ⟨zz, hzz⟩ : ∃ z, V18.heap.size = z := ⟨_, rfl⟩
  have hgz : gm < zz := by have := lt_of_block h15; have := kV18.size; omega
  refine ⟨_, rfl, ?_⟩
  have h19 := kV18.bk h15
  have K20 := K16.nn kV18
  have z21 := kV18.size
  refine ps_k (o_rmfields 62 3) (.tuple #[Xq, .int .i64 m.q.err]) ?_
  refine ps_k (o_rmfields 62 4) (Xq) ?_
  refine ps_k (o_rmfields 62 5) (.int .i64 m.q.err) ?_
  refine ps_k (o_rmfields 62 6) (Xq) ?_
  refine ps_k (o_rmfields 62 7) (.int .i64 m.q.err) ?_
  refine ps_end ?_
  refine then_n ?_
  refine sy_sq (part_rmfields 126) (part_rmfields 127) ?_
  refine sy_sq (part_rmfields 252) (part_rmfields 253) ?_
  refine sy_reg ?_
  refine rg_plain 5 (opsAt (part_rmfields 252)) [0, 1] (by kernel_rfl) (by kernel_rfl) ?_
  refine ps_k (o_rmfields 252 0) (pT gm 0) ?_
  refine ps_p (o_rmfields 252 1) (.int .i64 m.k) (exec_ld 3 (.tmp 35) gm 0 Try.underlying3 (rc (h19) (Msg.get_n hr NF.k))) ?_
  refine ps_end ?_
  refine then_n ?_
  refine sy_bk 0 (part_rmfields 506) ?_
  refine sy_sq (part_rmfields 1012) (part_rmfields 1013) ?_
  refine sy_reg ?_
  refine rg_plain 6 (opsAt (part_rmfields 1012)) [0, 1] (by kernel_rfl) (by kernel_rfl) ?_
  refine ps_p (o_rmfields 1012 0) (.bool false) (eqf ((m.k) : Int) ((1) : Int) (by omega)) ?_
  refine ps_k (o_rmfields 1012 1) (.bool false) ?_
  refine ps_end ?_
  refine then_n ?_
  refine sy_n (.tmp 37) (part_rmfields 2026) (part_rmfields 2027) ?_
  refine sy_sq (part_rmfields 4054) (part_rmfields 4055) ?_
  refine sy_reg ?_
  refine rg_plain 8 (opsAt (part_rmfields 4054)) [0, 1] (by kernel_rfl) (by kernel_rfl) ?_
  refine ps_p (o_rmfields 4054 0) (.bool true) (eqt ((m.k) : Int) ((2) : Int) (by omega)) ?_
  refine ps_k (o_rmfields 4054 1) (.bool true) ?_
  refine ps_end ?_
  refine then_n ?_
  refine sy_ys (.tmp 46) (part_rmfields 8110) (part_rmfields 8111) ?_
  refine sy_sq (part_rmfields 16220) (part_rmfields 16221) ?_
  refine sy_reg ?_
  refine rg_plain 9 (opsAt (part_rmfields 16220)) [0, 1, 2, 3, 4, 5, 6] (by kernel_rfl) (by kernel_rfl) ?_
  refine ps_k (o_rmfields 16220 0) (pT gm 5) ?_
  refine ps_p (o_rmfields 16220 1) (uN m.mn) (exec_ld 25 (.tmp 48) gm 5 Try.underlying25 (rc (h19) (Msg.get_a hr AF.mn))) ?_
  refine ps_k (o_rmfields 16220 2) (pT gm 4) ?_
  refine ps_p (o_rmfields 16220 3) (uN m.am) (exec_ld 25 (.tmp 50) gm 4 Try.underlying25 (rc (h19) (Msg.get_a hr AF.am))) ?_
  obtain ⟨V22, eV22, gl, egl, h23, kV22⟩ := alloc_step V18 (#[.int .u64 ((m.mn : Nat) : Int), .int .u64 ((m.am : Nat) : Int)]) 25
  have n24 : gm < gl := egl ▸ lt_of_block h19
  have n25 : w.heap.size ≤ gl := egl ▸ K20.size
  refine ps_r (o_rmfields 16220 4) (.slice (some ⟨gl, 0, none⟩) 2 2) (w' := V22) (by rw [← eV22, ← egl]; kernel_rfl) ?_
  have h26 := kV22.bk h19
  have K27 := K20.nn kV22
  have z28 := kV22.size
  have zpX30 : w.heap.size ≤ V22.heap.size := K27.size
  refine ps_c (o_rmfields 16220 5) 50 #[.slice (some ⟨gl, 0, none⟩) 2 2] Try.func50 ((rmput_2 gl m.mn m.am _ h23 hok.mn hok.am).mono ?_)
  rintro e V29 ⟨X30, rfl, hX30, hnX30, kV29⟩
  have hwX30 : NewFrom zz X30 := fun j hj => by have := hnX30 j hj; omega
  refine ⟨_, rfl, ?_⟩
  have h31 := kV29.bk h26
  have K32 := K27.nn kV29
  have z33 := kV29.size
  refine ps_k (o_rmfields 16220 6) (X30) ?_
  refine ps_end ?_
  refine then_n ?_
  refine sy_ret (by kernel_rfl) ?_
  refine blk_r ?_
  refine then_r ?_
  refine sy_out (X30) rfl (by kernel_rfl) ?_
  exact ⟨_, rfl, hX30, fun j hj => by have := hwX30 j hj; omega, K32⟩
set_option maxRecDepth 100000 in
set_option maxHeartbeats 4000000 in
theorem rmfields_3 (m : Msg) (w : World) (hok : m.Ok) (hk : m.k = 3) (hv : 0 ≤ m.vl ∧ m.vl ≤ 31) :
    Calls Try.prog 51 #[.agg (Msg.c m)] w (fun e w' => ∃ X, e = .returned X ∧ Row w' 5 1 X (encs [m.vl.toNat, m.am]).length (B (encs [m.vl.toNat, m.am])) ∧ NewFrom w.heap.size X ∧ Keeps Nob w w') := by
  obtain ⟨i0, hi0, hz0, hz1, hz2⟩ := info_parts u8_info0
  have hr := hok.R
  have la := Att.tb_len hr.a
  have lb := Att.tb_len hr.b
  have lp := Pro.tb_len hr.p
  have lq := Pro.tb_len hr.q
  have K0 : Keeps Nob w w := Keeps.refl _ _
  refine sy_enter (part_rmfields 1) ⟨#[.agg (Msg.c m), undef, undef, undef, undef, undef, undef, undef, undef, undef, undef, undef, undef, undef, undef, undef, undef, undef, undef, undef, undef, undef, undef, undef, undef, undef, undef, undef, undef, undef, undef, undef, undef, undef, undef, undef, undef, undef, undef, undef, undef, undef, undef, undef, undef, undef, undef, undef, undef, undef, undef, undef, undef, undef, undef, undef, undef, undef, undef, undef, undef, undef, undef, undef, undef, undef, undef, undef, undef, undef, undef, undef, undef, undef, undef, undef, undef, undef, undef, undef, undef, undef, undef, undef, undef, undef, undef, undef, undef, undef, undef, undef, undef, undef, undef, undef, undef, undef, undef, undef, undef, undef, undef, undef, undef, undef, undef, undef, undef, undef, undef, undef, undef, undef, undef, undef, undef, undef, undef, undef, undef, undef], []⟩ Try.func51 (by kernel_rfl) (by kernel_rfl) ?_
  refine sy_sq (part_rmfields 2) (part_rmfields 3) ?_
  refine sy_reg ?_
  refine rg_plain 0 (opsAt (part_rmfields 2)) [0, 1] (by kernel_rfl) (by kernel_rfl) ?_
  obtain ⟨V1, eV1, gm, egm, h2, kV1⟩ := alloc_step w ((Msg.c m)) 35
  have n3 : w.heap.size ≤ gm := egm ▸ K0.size
  refine ps_r (o_rmfields 2 0) (pT gm 0) (w' := V1) (by rw [← eV1, ← egm]; exact exec_box 35 (.tmp 0) (by kernel_rfl) (.agg (Msg.c m)) (by kernel_rfl)) ?_
  clear eV1
  have K4 := K0.nn kV1
  have z5 := kV1.size
  refine ps_k (o_rmfields 2 1) (.slice none 0 0) ?_
  refine ps_end ?_
  refine then_n ?_
  refine sy_sq (part_rmfields 6) (part_rmfields 7) ?_
  refine sy_reg ?_
  refine rg_plain 1 (opsAt (part_rmfields 6)) [0, 1, 2, 3, 4, 5, 6, 7] (by kernel_rfl) (by kernel_rfl) ?_
  refine ps_k (o_rmfields 6 0) (pT gm 12) ?_
  refine ps_p (o_rmfields 6 1) (.agg (Att.c m.a)) (exec_load_seg 31 (.tmp 12) (by kernel_rfl) gm 12 (by kernel_rfl) (Att.c m.a).toList _ _ _ h2 (Msg.seg_A hr) Try.underlying31 rfl (by rw [Att.tl hr.a]; kernel_rfl)) ?_
  refine ps_c (o_rmfields 6 2) 74 #[.agg (Att.c m.a)] Try.func74 ((rvBytes_tb m.a _ hok.a).mono ?_)
  rintro e V6 ⟨Xa, rfl, hXa, hnXa, kV6⟩
  have hlXa : ∀ j, Xa.ownBlock = some j → j < V6.heap.size := fun j hj => hXa.lt hj
  have hwXa : NewFrom w.heap.size Xa := fun j hj => by have := hnXa j hj; omega
  refine ⟨_, rfl, ?_⟩
  have h7 := kV6.bk h2
  have K8 := K4.nn kV6
  have z9 := kV6.size
  refine ps_k (o_rmfields 6 3) (.tuple #[Xa, .int .i64 m.a.err]) ?_
  refine ps_k (o_rmfields 6 4) (Xa) ?_
  refine ps_k (o_rmfields 6 5) (.int .i64 m.a.err) ?_
  refine ps_k (o_rmfields 6 6) (Xa) ?_
  refine ps_k (o_rmfields 6 7) (.int .i64 m.a.err) ?_
  refine ps_end ?_
  refine then_n ?_
  refine sy_sq (part_rmfields 14) (part_rmfields 15) ?_
  refine sy_reg ?_
  refine rg_plain 2 (opsAt (part_rmfields 14)) [0, 1, 2, 3, 4, 5, 6, 7] (by kernel_rfl) (by kernel_rfl) ?_
  refine ps_k (o_rmfields 14 0) (pT gm 48) ?_
  refine ps_p (o_rmfields 14 1) (.agg (Att.c m.b)) (exec_load_seg 31 (.tmp 18) (by kernel_rfl) gm 48 (by kernel_rfl) (Att.c m.b).toList _ _ _ h7 (Msg.seg_B hr) Try.underlying31 rfl (by rw [Att.tl hr.b]; kernel_rfl)) ?_
  refine ps_c (o_rmfields 14 2) 74 #[.agg (Att.c m.b)] Try.func74 ((rvBytes_tb m.b _ hok.b).mono ?_)
  rintro e V10 ⟨Xb, rfl, hXb, hnXb, kV10⟩
  have hlXb : ∀ j, Xb.ownBlock = some j → j < V10.heap.size := fun j hj => hXb.lt hj
  have hwXb : NewFrom w.heap.size Xb := fun j hj => by have := hnXb j hj; omega
  refine ⟨_, rfl, ?_⟩
  have h11 := kV10.bk h7
  have K12 := K8.nn kV10
  have z13 := kV10.size
  refine ps_k (o_rmfields 14 3) (.tuple #[Xb, .int .i64 m.b.err]) ?_
  refine ps_k (o_rmfields 14 4) (Xb) ?_
  refine ps_k (o_rmfields 14 5) (.int .i64 m.b.err) ?_
  refine ps_k (o_rmfields 14 6) (Xb) ?_
  refine ps_k (o_rmfields 14 7) (.int .i64 m.b.err) ?_
  refine ps_end ?_
  refine then_n ?_
  refine sy_sq (part_rmfields 30) (part_rmfields 31) ?_
  refine sy_reg ?_
  refine rg_plain 3 (opsAt (part_rmfields 30)) [0, 1, 2, 3, 4, 5, 6, 7] (by kernel_rfl) (by kernel_rfl) ?_
  refine ps_k (o_rmfields 30 0) (pT gm 84) ?_
  refine ps_p (o_rmfields 30 1) (.agg (Pro.c m.p)) (exec_load_seg 33 (.tmp 24) (by kernel_rfl) gm 84 (by kernel_rfl) (Pro.c m.p).toList _ _ _ h11 (Msg.seg_P hr) Try.underlying33 rfl (by rw [Pro.tl hr.p]; kernel_rfl)) ?_
  refine ps_c (o_rmfields 30 2) 75 #[.agg (Pro.c m.p)] Try.func75 ((rvBytesBlock_tb m.p _ hok.p).mono ?_)
  rintro e V14 ⟨Xp, rfl, hXp, hnXp, kV14⟩
  have hlXp : ∀ j, Xp.ownBlock = some j → j < V14.heap.size := fun j hj => hXp.lt hj
  have hwXp : NewFrom w.heap.size Xp := fun j hj => by have := hnXp j hj; omega
  refine ⟨_, rfl, ?_⟩
  have h15 := kV14.bk h11
  have K16 := K12.nn kV14
  have z17 := kV14.size
  refine ps_k (o_rmfields 30 3) (.tuple #[Xp, .int .i64 m.p.err]) ?_
  refine ps_k (o_rmfields 30 4) (Xp) ?_
  refine ps_k (o_rmfields 30 5) (.int .i64 m.p.err) ?_
  refine ps_k (o_rmfields 30 6) (Xp) ?_
  refine ps_k (o_rmfields 30 7) (.int .i64 m.p.err) ?_
  refine ps_end ?_
  refine sy_a ⟨#[.agg (Msg.c m), pT gm 0, .slice none 0 0, Xa, .int .i64 m.a.err, Xb, .int .i64 m.b.err, Xp, .int .i64 m.p.err, undef, undef, .tuple #[Xa, .int .i64 m.a.err], pT gm 12, .agg (Att.c m.a), .tuple #[Xa, .int .i64 m.a.err], Xa, .int .i64 m.a.err, .tuple #[Xb, .int .i64 m.b.err], pT gm 48, .agg (Att.c m.b), .tuple #[Xb, .int .i64 m.b.err], Xb, .int .i64 m.b.err, .tuple #[Xp, .int .i64 m.p.err], pT gm 84, .agg (Pro.c m.p), .tuple #[Xp, .int .i64 m.p.err], Xp, .int .i64 m.p.err, undef, undef, undef, undef, undef, undef, undef, undef, undef, undef, undef, undef, undef, undef, undef, undef, undef, undef, undef, undef, undef, undef, undef, undef, undef, undef, undef, undef, undef, undef, undef, undef, undef, undef, undef, undef, undef, undef, undef, undef, undef, undef, undef, undef, undef, undef, undef, undef, undef, undef, undef, undef, undef, undef, undef, undef, undef, undef, undef, undef, undef, undef, undef, undef, undef, undef, undef, undef, undef, undef, undef, undef, undef, undef, undef, undef, undef, undef, undef, undef, undef, undef, undef, undef, undef, undef, undef, undef, undef, undef, undef, undef, undef], []⟩ ?_
  refine then_n ?_
  refine sy_sq (part_rmfields 62) (part_rmfields 63) ?_
  refine sy_reg ?_
  refine rg_plain 4 (opsAt (part_rmfields 62)) [0, 1, 2, 3, 4, 5, 6, 7] (by kernel_rfl) (by kernel_rfl) ?_
  refine ps_k (o_rmfields 62 0) (pT gm 119) ?_
  refine ps_p (o_rmfields 62 1) (.agg (Pro.c m.q)) (exec_load_seg 33 (.tmp 30) (by kernel_rfl) gm 119 (by kernel_rfl) (Pro.c m.q).toList _ _ _ h15 (Msg.seg_Q hr) Try.underlying33 rfl (by rw [Pro.tl hr.q]; kernel_rfl)) ?_
  refine ps_c (o_rmfields 62 2) 75 #[.agg (Pro.c m.q)] Try.func75 ((rvBytesBlock_tb m.q _ hok.q).mono ?_)
  rintro e V18 ⟨Xq, rfl, hXq, hnXq, kV18⟩
  have hlXq : ∀ j, Xq.ownBlock = some j → j < V18.heap.size := fun j hj => hXq.lt hj
  have hwXq : NewFrom w.heap.size Xq := fun j hj => by have := hnXq j hj; omega
  obtain ⟨zz, hzz⟩ : ∃ z, V18.heap.size = z := ⟨_, rfl⟩
  have hgz : gm < zz := by have := lt_of_block h15; have := kV18.size; omega
  refine ⟨_, rfl, ?_⟩
  have h19 := kV18.bk h15
  have K20 := K16.nn kV18
  have z21 := kV18.size
  refine ps_k (o_rmfields 62 3) (.tuple #[Xq, .int .i64 m.q.err]) ?_
  refine ps_k (o_rmfields 62 4) (Xq) ?_
  refine ps_k (o_rmfields 62 5) (.int .i64 m.q.err) ?_
  refine ps_k (o_rmfields 62 6) (Xq) ?_
  refine ps_k (o_rmfields 62 7) (.int .i64 m.q.err) ?_
  refine ps_end ?_
  refine then_n ?_
  refine sy_sq (part_rmfields 126) (part_rmfields 127) ?_
  refine sy_sq (part_rmfields 252) (part_rmfields 253) ?_
  refine sy_reg ?_
  refine rg_plain 5 (opsAt (part_rmfields 252)) [0, 1] (by kernel_rfl) (by kernel_rfl) ?_
  refine ps_k (o_rmfields 252 0) (pT gm 0) ?_
  refine ps_p (o_rmfields 252 1) (.int .i64 m.k) (exec_ld 3 (.tmp 35) gm 0 Try.underlying3 (rc (h19) (Msg.get_n hr NF.k))) ?_
  refine ps_end ?_
  refine then_n ?_
  refine sy_bk 0 (part_rmfields 506) ?_
  refine sy_sq (part_rmfields 1012) (part_rmfields 1013) ?_
  refine sy_reg ?_
  refine rg_plain 6 (opsAt (part_rmfields 1012)) [0, 1] (by kernel_rfl) (by kernel_rfl) ?_
  refine ps_p (o_rmfields 1012 0) (.bool false) (eqf ((m.k) : Int) ((1) : Int) (by omega)) ?_
  refine ps_k (o_rmfields 1012 1) (.bool false) ?_
  refine ps_end ?_
  refine then_n ?_
  refine sy_n (.tmp 37) (part_rmfields 2026) (part_rmfields 2027) ?_
  refine sy_sq (part_rmfields 4054) (part_rmfields 4055) ?_
  refine sy_reg ?_
  refine rg_plain 8 (opsAt (part_rmfields 4054)) [0, 1] (by kernel_rfl) (by kernel_rfl) ?_
  refine ps_p (o_rmfields 4054 0) (.bool false) (eqf ((m.k) : Int) ((2) : Int) (by omega)) ?_
  refine ps_k (o_rmfields 4054 1) (.bool false) ?_
  refine ps_end ?_
  refine then_n ?_
  refine sy_n (.tmp 46) (part_rmfields 8110) (part_rmfields 8111) ?_
  refine sy_sq (part_rmfields 16222) (part_rmfields 16223) ?_
  refine sy_reg ?_
  refine rg_plain 10 (opsAt (part_rmfields 16222)) [0, 1] (by kernel_rfl) (by kernel_rfl) ?_
  refine ps_p (o_rmfields 16222 0) (.bool true) (eqt ((m.k) : Int) ((3) : Int) (by omega)) ?_
  refine ps_k (o_rmfields 16222 1) (.bool true) ?_
  refine ps_end ?_
  refine then_n ?_
  refine sy_ys (.tmp 54) (part_rmfields 32446) (part_rmfields 32447) ?_
  refine sy_sq (part_rmfields 64892) (part_rmfields 64893) ?_
  refine sy_reg ?_
  refine rg_plain 11 (opsAt (part_rmfields 64892)) [0, 1, 2, 3, 4, 5, 6, 7] (by kernel_rfl) (by kernel_rfl) ?_
  refine ps_k (o_rmfields 64892 0) (pT gm 2) ?_
  refine ps_p (o_rmfields 64892 1) (.int .i64 m.vl) (exec_ld 3 (.tmp 56) gm 2 Try.underlying3 (rc (h19) (Msg.get_n hr NF.vl))) ?_
  refine ps_p (o_rmfields 64892 2) (uN m.vl.toNat) (exec_cast (congrArg (Value.int .u64) (wrapNat (by omega) (by omega))) (by kernel_rfl)) ?_
  refine ps_k (o_rmfields 64892 3) (pT gm 4) ?_
  refine ps_p (o_rmfields 64892 4) (uN m.am) (exec_ld 25 (.tmp 59) gm 4 Try.underlying25 (rc (h19) (Msg.get_a hr AF.am))) ?_
  obtain ⟨V22, eV22, gl, egl, h23, kV22⟩ := alloc_step V18 (#[.int .u64 ((m.vl.toNat : Nat) : Int), .int .u64 ((m.am : Nat) : Int)]) 25
  have n24 : gm < gl := egl ▸ lt_of_block h19
  have n25 : w.heap.size ≤ gl := egl ▸ K20.size
  refine ps_r (o_rmfields 64892 5) (.slice (some ⟨gl, 0, none⟩) 2 2) (w' := V22) (by rw [← eV22, ← egl]; kernel_rfl) ?_
  have h26 := kV22.bk h19
  have K27 := K20.nn kV22
  have z28 := kV22.size
  have zpX30 : w.heap.size ≤ V22.heap.size := K27.size
  refine ps_c (o_rmfields 64892 6) 50 #[.slice (some ⟨gl, 0, none⟩) 2 2] Try.func50 ((rmput_2 gl m.vl.toNat m.am _ h23 (by omega) hok.am).mono ?_)
  rintro e V29 ⟨X30, rfl, hX30, hnX30, kV29⟩
  have hwX30 : NewFrom zz X30 := fun j hj => by have := hnX30 j hj; omega
  refine ⟨_, rfl, ?_⟩
  have h31 := kV29.bk h26
  have K32 := K27.nn kV29
  have z33 := kV29.size
  refine ps_k (o_rmfields 64892 7) (X30) ?_
  refine ps_end ?_
  refine sy_a ⟨#[.agg (Msg.c m), pT gm 0, X30, Xa, .int .i64 m.a.err, Xb, .int .i64 m.b.err, Xp, .int .i64 m.p.err, Xq, .int .i64 m.q.err, .tuple #[Xa, .int .i64 m.a.err], pT gm 12, .agg (Att.c m.a), .tuple #[Xa, .int .i64 m.a.err], Xa, .int .i64 m.a.err, .tuple #[Xb, .int .i64 m.b.err], pT gm 48, .agg (Att.c m.b), .tuple #[Xb, .int .i64 m.b.err], Xb, .int .i64 m.b.err, .tuple #[Xp, .int .i64 m.p.err], pT gm 84, .agg (Pro.c m.p), .tuple #[Xp, .int .i64 m.p.err], Xp, .int .i64 m.p.err, .tuple #[Xq, .int .i64 m.q.err], pT gm 119, .agg (Pro.c m.q), .tuple #[Xq, .int .i64 m.q.err], Xq, .int .i64 m.q.err, pT gm 0, .int .i64 m.k, .bool false, .bool false, undef, undef, undef, undef, undef, undef, undef, .bool false, .bool false, undef, undef, undef, undef, undef, undef, .bool true, .bool true, pT gm 2, .int .i64 m.vl, uN m.vl.toNat, pT gm 4, uN m.am, .slice (some ⟨gl, 0, none⟩) 2 2, X30, undef, undef, undef, undef, undef, undef, undef, undef, undef, undef, undef, undef, undef, undef, undef, undef, undef, undef, undef, undef, undef, undef, undef, undef, undef, undef, undef, undef, undef, undef, undef, undef, undef, undef, undef, undef, undef, undef, undef, undef, undef, undef, undef, undef, undef, undef, undef, undef, undef, undef, undef, undef, undef, undef, undef, undef, undef, undef, undef], []⟩ ?_
  refine then_n ?_
  refine sy_ret (by kernel_rfl) ?_
  refine blk_r ?_
  refine then_r ?_
  refine sy_out (X30) rfl (by kernel_rfl) ?_
  exact ⟨_, rfl, hX30, fun j hj => by have := hwX30 j hj; omega, K32⟩
set_option maxRecDepth 100000 in
set_option maxHeartbeats 4000000 in
theorem rmfields_4 (m : Msg) (w : World) (hok : m.Ok) (hk : m.k = 4) (b0 : 0 ≤ m.sv ∧ m.sv ≤ 31) (b1 : 1 ≤ m.ss ∧ m.ss ≤ 4294967296) (b2 : -1 ≤ m.sp ∧ m.sp ≤ 31) (b3 : 0 ≤ m.sf ∧ m.sf ≤ 4294967296) :
    Calls Try.prog 51 #[.agg (Msg.c m)] w (fun e w' => ∃ X, e = .returned X ∧ Row w' 5 1 X (encs [m.sv.toNat, m.ss.toNat, (m.sp + 1).toNat, m.sf.toNat] ++ encs [m.am]).length (B (encs [m.sv.toNat, m.ss.toNat, (m.sp + 1).toNat, m.sf.toNat] ++ encs [m.am])) ∧ NewFrom w.heap.size X ∧ Keeps Nob w w') := by
  obtain ⟨i0, hi0, hz0, hz1, hz2⟩ := info_parts u8_info0
  have hr := hok.R
  have la := Att.tb_len hr.a
  have lb := Att.tb_len hr.b
  have lp := Pro.tb_len hr.p
  have lq := Pro.tb_len hr.q
  have lst := encs_len [m.sv.toNat, m.ss.toNat, (m.sp + 1).toNat, m.sf.toNat]
  simp only [List.length_cons, List.length_nil] at lst
  have le1 := encs_len [m.am]
  simp only [List.length_cons, List.length_nil] at le1
  have K0 : Keeps Nob w w := Keeps.refl _ _
  refine sy_enter (part_rmfields 1) ⟨#[.agg (Msg.c m), undef, undef, undef, undef, undef, undef, undef, undef, undef, undef, undef, undef, undef, undef, undef, undef, undef, undef, undef, undef, undef, undef, undef, undef, undef, undef, undef, undef, undef, undef, undef, undef, undef, undef, undef, undef, undef, undef, undef, undef, undef, undef, undef, undef, undef, undef, undef, undef, undef, undef, undef, undef, undef, undef, undef, undef, undef, undef, undef, undef, undef, undef, undef, undef, undef, undef, undef, undef, undef, undef, undef, undef, undef, undef, undef, undef, undef, undef, undef, undef, undef, undef, undef, undef, undef, undef, undef, undef, undef, undef, undef, undef, undef, undef, undef, undef, undef, undef, undef, undef, undef, undef, undef, undef, undef, undef, undef, undef, undef, undef, undef, undef, undef, undef, undef, undef, undef, undef, undef, undef, undef], []⟩ Try.func51 (by kernel_rfl) (by kernel_rfl) ?_
  refine sy_sq (part_rmfields 2) (part_rmfields 3) ?_
  refine sy_reg ?_
  refine rg_plain 0 (opsAt (part_rmfields 2)) [0, 1] (by kernel_rfl) (by kernel_rfl) ?_
  obtain ⟨V1, eV1, gm, egm, h2, kV1⟩ := alloc_step w ((Msg.c m)) 35
  have n3 : w.heap.size ≤ gm := egm ▸ K0.size
  refine ps_r (o_rmfields 2 0) (pT gm 0) (w' := V1) (by rw [← eV1, ← egm]; exact exec_box 35 (.tmp 0) (by kernel_rfl) (.agg (Msg.c m)) (by kernel_rfl)) ?_
  clear eV1
  have K4 := K0.nn kV1
  have z5 := kV1.size
  refine ps_k (o_rmfields 2 1) (.slice none 0 0) ?_
  refine ps_end ?_
  refine then_n ?_
  refine sy_sq (part_rmfields 6) (part_rmfields 7) ?_
  refine sy_reg ?_
  refine rg_plain 1 (opsAt (part_rmfields 6)) [0, 1, 2, 3, 4, 5, 6, 7] (by kernel_rfl) (by kernel_rfl) ?_
  refine ps_k (o_rmfields 6 0) (pT gm 12) ?_
  refine ps_p (o_rmfields 6 1) (.agg (Att.c m.a)) (exec_load_seg 31 (.tmp 12) (by kernel_rfl) gm 12 (by kernel_rfl) (Att.c m.a).toList _ _ _ h2 (Msg.seg_A hr) Try.underlying31 rfl (by rw [Att.tl hr.a]; kernel_rfl)) ?_
  refine ps_c (o_rmfields 6 2) 74 #[.agg (Att.c m.a)] Try.func74 ((rvBytes_tb m.a _ hok.a).mono ?_)
  rintro e V6 ⟨Xa, rfl, hXa, hnXa, kV6⟩
  have hlXa : ∀ j, Xa.ownBlock = some j → j < V6.heap.size := fun j hj => hXa.lt hj
  have hwXa : NewFrom w.heap.size Xa := fun j hj => by have := hnXa j hj; omega
  refine ⟨_, rfl, ?_⟩
  have h7 := kV6.bk h2
  have K8 := K4.nn kV6
  have z9 := kV6.size
  refine ps_k (o_rmfields 6 3) (.tuple #[Xa, .int .i64 m.a.err]) ?_
  refine ps_k (o_rmfields 6 4) (Xa) ?_
  refine ps_k (o_rmfields 6 5) (.int .i64 m.a.err) ?_
  refine ps_k (o_rmfields 6 6) (Xa) ?_
  refine ps_k (o_rmfields 6 7) (.int .i64 m.a.err) ?_
  refine ps_end ?_
  refine then_n ?_
  refine sy_sq (part_rmfields 14) (part_rmfields 15) ?_
  refine sy_reg ?_
  refine rg_plain 2 (opsAt (part_rmfields 14)) [0, 1, 2, 3, 4, 5, 6, 7] (by kernel_rfl) (by kernel_rfl) ?_
  refine ps_k (o_rmfields 14 0) (pT gm 48) ?_
  refine ps_p (o_rmfields 14 1) (.agg (Att.c m.b)) (exec_load_seg 31 (.tmp 18) (by kernel_rfl) gm 48 (by kernel_rfl) (Att.c m.b).toList _ _ _ h7 (Msg.seg_B hr) Try.underlying31 rfl (by rw [Att.tl hr.b]; kernel_rfl)) ?_
  refine ps_c (o_rmfields 14 2) 74 #[.agg (Att.c m.b)] Try.func74 ((rvBytes_tb m.b _ hok.b).mono ?_)
  rintro e V10 ⟨Xb, rfl, hXb, hnXb, kV10⟩
  have hlXb : ∀ j, Xb.ownBlock = some j → j < V10.heap.size := fun j hj => hXb.lt hj
  have hwXb : NewFrom w.heap.size Xb := fun j hj => by have := hnXb j hj; omega
  refine ⟨_, rfl, ?_⟩
  have h11 := kV10.bk h7
  have K12 := K8.nn kV10
  have z13 := kV10.size
  refine ps_k (o_rmfields 14 3) (.tuple #[Xb, .int .i64 m.b.err]) ?_
  refine ps_k (o_rmfields 14 4) (Xb) ?_
  refine ps_k (o_rmfields 14 5) (.int .i64 m.b.err) ?_
  refine ps_k (o_rmfields 14 6) (Xb) ?_
  refine ps_k (o_rmfields 14 7) (.int .i64 m.b.err) ?_
  refine ps_end ?_
  refine then_n ?_
  refine sy_sq (part_rmfields 30) (part_rmfields 31) ?_
  refine sy_reg ?_
  refine rg_plain 3 (opsAt (part_rmfields 30)) [0, 1, 2, 3, 4, 5, 6, 7] (by kernel_rfl) (by kernel_rfl) ?_
  refine ps_k (o_rmfields 30 0) (pT gm 84) ?_
  refine ps_p (o_rmfields 30 1) (.agg (Pro.c m.p)) (exec_load_seg 33 (.tmp 24) (by kernel_rfl) gm 84 (by kernel_rfl) (Pro.c m.p).toList _ _ _ h11 (Msg.seg_P hr) Try.underlying33 rfl (by rw [Pro.tl hr.p]; kernel_rfl)) ?_
  refine ps_c (o_rmfields 30 2) 75 #[.agg (Pro.c m.p)] Try.func75 ((rvBytesBlock_tb m.p _ hok.p).mono ?_)
  rintro e V14 ⟨Xp, rfl, hXp, hnXp, kV14⟩
  have hlXp : ∀ j, Xp.ownBlock = some j → j < V14.heap.size := fun j hj => hXp.lt hj
  have hwXp : NewFrom w.heap.size Xp := fun j hj => by have := hnXp j hj; omega
  refine ⟨_, rfl, ?_⟩
  have h15 := kV14.bk h11
  have K16 := K12.nn kV14
  have z17 := kV14.size
  refine ps_k (o_rmfields 30 3) (.tuple #[Xp, .int .i64 m.p.err]) ?_
  refine ps_k (o_rmfields 30 4) (Xp) ?_
  refine ps_k (o_rmfields 30 5) (.int .i64 m.p.err) ?_
  refine ps_k (o_rmfields 30 6) (Xp) ?_
  refine ps_k (o_rmfields 30 7) (.int .i64 m.p.err) ?_
  refine ps_end ?_
  refine sy_a ⟨#[.agg (Msg.c m), pT gm 0, .slice none 0 0, Xa, .int .i64 m.a.err, Xb, .int .i64 m.b.err, Xp, .int .i64 m.p.err, undef, undef, .tuple #[Xa, .int .i64 m.a.err], pT gm 12, .agg (Att.c m.a), .tuple #[Xa, .int .i64 m.a.err], Xa, .int .i64 m.a.err, .tuple #[Xb, .int .i64 m.b.err], pT gm 48, .agg (Att.c m.b), .tuple #[Xb, .int .i64 m.b.err], Xb, .int .i64 m.b.err, .tuple #[Xp, .int .i64 m.p.err], pT gm 84, .agg (Pro.c m.p), .tuple #[Xp, .int .i64 m.p.err], Xp, .int .i64 m.p.err, undef, undef, undef, undef, undef, undef, undef, undef, undef, undef, undef, undef, undef, undef, undef, undef, undef, undef, undef, undef, undef, undef, undef, undef, undef, undef, undef, undef, undef, undef, undef, undef, undef, undef, undef, undef, undef, undef, undef, undef, undef, undef, undef, undef, undef, undef, undef, undef, undef, undef, undef, undef, undef, undef, undef, undef, undef, undef, undef, undef, undef, undef, undef, undef, undef, undef, undef, undef, undef, undef, undef, undef, undef, undef, undef, undef, undef, undef, undef, undef, undef, undef, undef, undef, undef, undef, undef, undef, undef, undef, undef, undef, undef], []⟩ ?_
  refine then_n ?_
  refine sy_sq (part_rmfields 62) (part_rmfields 63) ?_
  refine sy_reg ?_
  refine rg_plain 4 (opsAt (part_rmfields 62)) [0, 1, 2, 3, 4, 5, 6, 7] (by kernel_rfl) (by kernel_rfl) ?_
  refine ps_k (o_rmfields 62 0) (pT gm 119) ?_
  refine ps_p (o_rmfields 62 1) (.agg (Pro.c m.q)) (exec_load_seg 33 (.tmp 30) (by kernel_rfl) gm 119 (by kernel_rfl) (Pro.c m.q).toList _ _ _ h15 (Msg.seg_Q hr) Try.underlying33 rfl (by rw [Pro.tl hr.q]; kernel_rfl)) ?_
  refine ps_c (o_rmfields 62 2) 75 #[.agg (Pro.c m.q)] Try.func75 ((rvBytesBlock_tb m.q _ hok.q).mono ?_)
  rintro e V18 ⟨Xq, rfl, hXq, hnXq, kV18⟩
  have hlXq : ∀ j, Xq.ownBlock = some j → j < V18.heap.size := fun j hj => hXq.lt hj
  have hwXq : NewFrom w.heap.size Xq := fun j hj => by have := hnXq j hj; omega
  obtain ⟨zz, hzz⟩ : ∃ z, V18.heap.size = z := ⟨_, rfl⟩
  have hgz : gm < zz := by have := lt_of_block h15; have := kV18.size; omega
  refine ⟨_, rfl, ?_⟩
  have h19 := kV18.bk h15
  have K20 := K16.nn kV18
  have z21 := kV18.size
  refine ps_k (o_rmfields 62 3) (.tuple #[Xq, .int .i64 m.q.err]) ?_
  refine ps_k (o_rmfields 62 4) (Xq) ?_
  refine ps_k (o_rmfields 62 5) (.int .i64 m.q.err) ?_
  refine ps_k (o_rmfields 62 6) (Xq) ?_
  refine ps_k (o_rmfields 62 7) (.int .i64 m.q.err) ?_
  refine ps_end ?_
  refine then_n ?_
  refine sy_sq (part_rmfields 126) (part_rmfields 127) ?_
  refine sy_sq (part_rmfields 252) (part_rmfields 253) ?_
  refine sy_reg ?_
  refine rg_plain 5 (opsAt (part_rmfields 252)) [0, 1] (by kernel_rfl) (by kernel_rfl) ?_
  refine ps_k (o_rmfields 252 0) (pT gm 0) ?_
  refine ps_p (o_rmfields 252 1) (.int .i64 m.k) (exec_ld 3 (.tmp 35) gm 0 Try.underlying3 (rc (h19) (Msg.get_n hr NF.k))) ?_
  refine ps_end ?_
  refine then_n ?_
  refine sy_bk 0 (part_rmfields 506) ?_
  refine sy_sq (part_rmfields 1012) (part_rmfields 1013) ?_
  refine sy_reg ?_
  refine rg_plain 6 (opsAt (part_rmfields 1012)) [0, 1] (by kernel_rfl) (by kernel_rfl) ?_
  refine ps_p (o_rmfields 1012 0) (.bool false) (eqf ((m.k) : Int) ((1) : Int) (by omega)) ?_
  refine ps_k (o_rmfields 1012 1) (.bool false) ?_
  refine ps_end ?_
  refine then_n ?_
  refine sy_n (.tmp 37) (part_rmfields 2026) (part_rmfields 2027) ?_
  refine sy_sq (part_rmfields 4054) (part_rmfields 4055) ?_
  refine sy_reg ?_
  refine rg_plain 8 (opsAt (part_rmfields 4054)) [0, 1] (by kernel_rfl) (by kernel_rfl) ?_
  refine ps_p (o_rmfields 4054 0) (.bool false) (eqf ((m.k) : Int) ((2) : Int) (by omega)) ?_
  refine ps_k (o_rmfields 4054 1) (.bool false) ?_
  refine ps_end ?_
  refine then_n ?_
  refine sy_n (.tmp 46) (part_rmfields 8110) (part_rmfields 8111) ?_
  refine sy_sq (part_rmfields 16222) (part_rmfields 16223) ?_
  refine sy_reg ?_
  refine rg_plain 10 (opsAt (part_rmfields 16222)) [0, 1] (by kernel_rfl) (by kernel_rfl) ?_
  refine ps_p (o_rmfields 16222 0) (.bool false) (eqf ((m.k) : Int) ((3) : Int) (by omega)) ?_
  refine ps_k (o_rmfields 16222 1) (.bool false) ?_
  refine ps_end ?_
  refine then_n ?_
  refine sy_n (.tmp 54) (part_rmfields 32446) (part_rmfields 32447) ?_
  refine sy_sq (part_rmfields 64894) (part_rmfields 64895) ?_
  refine sy_reg ?_
  refine rg_plain 12 (opsAt (part_rmfields 64894)) [0, 1] (by kernel_rfl) (by kernel_rfl) ?_
  refine ps_p (o_rmfields 64894 0) (.bool true) (eqt ((m.k) : Int) ((4) : Int) (by omega)) ?_
  refine ps_k (o_rmfields 64894 1) (.bool true) ?_
  refine ps_end ?_
  refine then_n ?_
  refine sy_ys (.tmp 63) (part_rmfields 129790) (part_rmfields 129791) ?_
  refine sy_sq (part_rmfields 259580) (part_rmfields 259581) ?_
  refine sy_np ?_
  refine sy_reg ?_
  refine an_begin 13 9 (opsAt (part_rmfields 259580)) (fun W => (W.heap[gm]? = some (.cells (Msg.c m) 35 (0, 0)))) #[false, false, false, false, false, false, false, false, false] (by kernel_rfl) (by kernel_rfl) (by kernel_rfl) (by kernel_rfl) ?_
  obtain ⟨V22, eV22, kV22⟩ := drew_step V18
  rw [eV22]
  clear eV22
  have h23 := kV22.bk h19
  have K24 := K20.nn kV22
  have z25 := kV22.size
  refine an_k 0 (o_rmfields 259580 0) (pT gm 6) h23 ?_
  refine an_v 1 (o_rmfields 259580 1) (.agg (Msg.st m)) (fun W hS => exec_load_seg 27 (.tmp 65) (by kernel_rfl) gm 6 (by kernel_rfl) (Msg.st m).toList _ _ _ hS (Msg.seg_S _) Try.underlying27 rfl (by kernel_rfl)) h23 ?_
  refine an_k 3 (o_rmfields 259580 3) (pT gm 4) h23 ?_
  refine an_v 4 (o_rmfields 259580 4) (uN m.am) (fun W hS => exec_ld 25 (.tmp 68) gm 4 Try.underlying25 (rc (hS) (Msg.get_a hr AF.am))) h23 ?_
  refine an_two 2 5 (by kernel_rfl) ?_ ?_
  · refine on_c (o_rmfields 259580 2) 76 #[.agg (Msg.st m)] Try.func76 ((rmstamped_ok m _ b0 b1 b2 b3).mono ?_)
    rintro e V26 ⟨Xs, rfl, hXs, hnXs, kV26⟩
    have hwXs : NewFrom zz Xs := fun j hj => by have := hnXs j hj; omega
    refine ⟨_, rfl, ?_⟩
    have h27 := kV26.bk h23
    have K28 := K24.nn kV26
    have z29 := kV26.size
    refine ⟨h27, ?_⟩
    refine an_o 5 ?_
    obtain ⟨V30, eV30, gl, egl, h31, kV30⟩ := alloc_step V26 (#[.int .u64 ((m.am : Nat) : Int)]) 25
    have n32 : gm < gl := egl ▸ lt_of_block h27
    have n33 : w.heap.size ≤ gl := egl ▸ K28.size
    refine on_r (o_rmfields 259580 5) (.slice (some ⟨gl, 0, none⟩) 1 1) (w' := V30) (by rw [← eV30, ← egl]; kernel_rfl) ?_
    have h34 := kV30.bk h27
    have h35 : Row V30 5 1 Xs ((encs [m.sv.toNat, m.ss.toNat, (m.sp + 1).toNat, m.sf.toNat]).length) (B (encs [m.sv.toNat, m.ss.toNat, (m.sp + 1).toNat, m.sf.toNat])) := hXs.keeps kV30 (fun _ _ x => x)
    have K36 := K28.nn kV30
    have z37 := kV30.size
    refine ⟨h34, ?_⟩
    refine an_o 6 ?_
    have zpX39 : w.heap.size ≤ V30.heap.size := K36.size
    refine on_c (o_rmfields 259580 6) 50 #[.slice (some ⟨gl, 0, none⟩) 1 1] Try.func50 ((rmput_1 gl m.am _ h31 hok.am).mono ?_)
    rintro e V38 ⟨X39, rfl, hX39, hnX39, kV38⟩
    have hlX39 : ∀ j, X39.ownBlock = some j → j < V38.heap.size := fun j hj => hX39.lt hj
    refine ⟨_, rfl, ?_⟩
    have h40 := kV38.bk h34
    have h41 : Row V38 5 1 Xs ((encs [m.sv.toNat, m.ss.toNat, (m.sp + 1).toNat, m.sf.toNat]).length) (B (encs [m.sv.toNat, m.ss.toNat, (m.sp + 1).toNat, m.sf.toNat])) := h35.keeps kV38 (fun _ _ x => x)
    have K42 := K36.nn kV38
    have z43 := kV38.size
    refine ⟨h40, ?_⟩
    refine an_o 7 ?_
    obtain ⟨v44, V45, hr46, h47, hg48, hn49, ha50⟩ := run_append_any (P := Try.prog) (w := V38) 22 (Oper.type (o_rmfields 259580 7)) 5 i0 (.int .u8 0) 1 1 Try.underlying22 hi0 hz0 hz1 hz2 rfl (by decide) Xs ((encs [m.sv.toNat, m.ss.toNat, (m.sp + 1).toNat, m.sf.toNat]).length) (B (encs [m.sv.toNat, m.ss.toNat, (m.sp + 1).toNat, m.sf.toNat])) h41 X39 ((encs [m.am]).length) (B (encs [m.am])) (Row.src hX39 (B_one _)) (by unfold maxLen; omega) (by omega)
    have kV45 : Keeps (fun j => (Xs : Value).ownBlock = some j) V38 V45 := Keeps.rowAdd hg48
    have hw51 : NewFrom zz v44 := hwXs.next (by omega) ha50
    refine on_r (o_rmfields 259580 7) v44 (w' := V45) (exec_append (.tmp 67) (.tmp 71) 22 (by kernel_rfl) Xs X39 (by kernel_rfl) (by kernel_rfl) hr46) ?_
    have h52 : Row V45 5 1 v44 ((encs [m.sv.toNat, m.ss.toNat, (m.sp + 1).toNat, m.sf.toNat] ++ encs [m.am]).length) (B (encs [m.sv.toNat, m.ss.toNat, (m.sp + 1).toNat, m.sf.toNat] ++ encs [m.am])) := row_cast h47 rfl (by simp only [List.length_append])
    have h53 : V45.heap[gm]? = some (.cells (Msg.c m) 35 (0, 0)) := (kV45.block gm (lt_of_block h40) (fun e => by have := hwXs _ e; omega)).trans h40
    have K54 : Keeps Nob w V45 := K42.then kV45 (fun i hi hm => absurd hi (by have := hwXs i hm; omega))
    have z55 := kV45.size
    refine ⟨h53, ?_⟩
    refine an_o 8 ?_
    refine on_r (o_rmfields 259580 8) (v44) (w' := V45) (by kernel_rfl) ?_
    refine ⟨h53, ?_⟩
    refine an_end (by kernel_rfl) ?_
    refine sy_a ⟨#[.agg (Msg.c m), pT gm 0, v44, Xa, .int .i64 m.a.err, Xb, .int .i64 m.b.err, Xp, .int .i64 m.p.err, Xq, .int .i64 m.q.err, .tuple #[Xa, .int .i64 m.a.err], pT gm 12, .agg (Att.c m.a), .tuple #[Xa, .int .i64 m.a.err], Xa, .int .i64 m.a.err, .tuple #[Xb, .int .i64 m.b.err], pT gm 48, .agg (Att.c m.b), .tuple #[Xb, .int .i64 m.b.err], Xb, .int .i64 m.b.err, .tuple #[Xp, .int .i64 m.p.err], pT gm 84, .agg (Pro.c m.p), .tuple #[Xp, .int .i64 m.p.err], Xp, .int .i64 m.p.err, .tuple #[Xq, .int .i64 m.q.err], pT gm 119, .agg (Pro.c m.q), .tuple #[Xq, .int .i64 m.q.err], Xq, .int .i64 m.q.err, pT gm 0, .int .i64 m.k, .bool false, .bool false, undef, undef, undef, undef, undef, undef, undef, .bool false, .bool false, undef, undef, undef, undef, undef, undef, .bool false, .bool false, undef, undef, undef, undef, undef, undef, undef, .bool true, .bool true, pT gm 6, .agg (Msg.st m), Xs, pT gm 4, uN m.am, .slice (some ⟨gl, 0, none⟩) 1 1, X39, v44, undef, undef, undef, undef, undef, undef, undef, undef, undef, undef, undef, undef, undef, undef, undef, undef, undef, undef, undef, undef, undef, undef, undef, undef, undef, undef, undef, undef, undef, undef, undef, undef, undef, undef, undef, undef, undef, undef, undef, undef, undef, undef, undef, undef, undef, undef, undef, undef, undef], []⟩ ?_
    refine then_n ?_
    refine sy_ret (by kernel_rfl) ?_
    refine blk_r ?_
    refine then_r ?_
    refine sy_out (v44) rfl (by kernel_rfl) ?_
    exact ⟨_, rfl, h52, fun j hj => by have := hw51 j hj; omega, K54⟩
  · obtain ⟨V56, eV56, gl, egl, h57, kV56⟩ := alloc_step V22 (#[.int .u64 ((m.am : Nat) : Int)]) 25
    have n58 : gm < gl := egl ▸ lt_of_block h23
    have n59 : w.heap.size ≤ gl := egl ▸ K24.size
    refine on_r (o_rmfields 259580 5) (.slice (some ⟨gl, 0, none⟩) 1 1) (w' := V56) (by rw [← eV56, ← egl]; kernel_rfl) ?_
    have h60 := kV56.bk h23
    have K61 := K24.nn kV56
    have z62 := kV56.size
    refine ⟨h60, ?_⟩
    refine an_o 2 ?_
    refine on_c (o_rmfields 259580 2) 76 #[.agg (Msg.st m)] Try.func76 ((rmstamped_ok m _ b0 b1 b2 b3).mono ?_)
    rintro e V63 ⟨Xs, rfl, hXs, hnXs, kV63⟩
    have hwXs : NewFrom zz Xs := fun j hj => by have := hnXs j hj; omega
    refine ⟨_, rfl, ?_⟩
    have h64 := kV63.bk h60
    have h65 := kV63.bk h57
    have K66 := K61.nn kV63
    have z67 := kV63.size
    refine ⟨h64, ?_⟩
    refine an_o 6 ?_
    have zpX69 : w.heap.size ≤ V63.heap.size := K66.size
    refine on_c (o_rmfields 259580 6) 50 #[.slice (some ⟨gl, 0, none⟩) 1 1] Try.func50 ((rmput_1 gl m.am _ h65 hok.am).mono ?_)
    rintro e V68 ⟨X69, rfl, hX69, hnX69, kV68⟩
    have hlX69 : ∀ j, X69.ownBlock = some j → j < V68.heap.size := fun j hj => hX69.lt hj
    refine ⟨_, rfl, ?_⟩
    have h70 := kV68.bk h64
    have h71 : Row V68 5 1 Xs ((encs [m.sv.toNat, m.ss.toNat, (m.sp + 1).toNat, m.sf.toNat]).length) (B (encs [m.sv.toNat, m.ss.toNat, (m.sp + 1).toNat, m.sf.toNat])) := hXs.keeps kV68 (fun _ _ x => x)
    have K72 := K66.nn kV68
    have z73 := kV68.size
    refine ⟨h70, ?_⟩
    refine an_o 7 ?_
    obtain ⟨v74, V75, hr76, h77, hg78, hn79, ha80⟩ := run_append_any (P := Try.prog) (w := V68) 22 (Oper.type (o_rmfields 259580 7)) 5 i0 (.int .u8 0) 1 1 Try.underlying22 hi0 hz0 hz1 hz2 rfl (by decide) Xs ((encs [m.sv.toNat, m.ss.toNat, (m.sp + 1).toNat, m.sf.toNat]).length) (B (encs [m.sv.toNat, m.ss.toNat, (m.sp + 1).toNat, m.sf.toNat])) h71 X69 ((encs [m.am]).length) (B (encs [m.am])) (Row.src hX69 (B_one _)) (by unfold maxLen; omega) (by omega)
    have kV75 : Keeps (fun j => (Xs : Value).ownBlock = some j) V68 V75 := Keeps.rowAdd hg78
    have hw81 : NewFrom zz v74 := hwXs.next (by omega) ha80
    refine on_r (o_rmfields 259580 7) v74 (w' := V75) (exec_append (.tmp 67) (.tmp 71) 22 (by kernel_rfl) Xs X69 (by kernel_rfl) (by kernel_rfl) hr76) ?_
    have h82 : Row V75 5 1 v74 ((encs [m.sv.toNat, m.ss.toNat, (m.sp + 1).toNat, m.sf.toNat] ++ encs [m.am]).length) (B (encs [m.sv.toNat, m.ss.toNat, (m.sp + 1).toNat, m.sf.toNat] ++ encs [m.am])) := row_cast h77 rfl (by simp only [List.length_append])
    have h83 : V75.heap[gm]? = some (.cells (Msg.c m) 35 (0, 0)) := (kV75.block gm (lt_of_block h70) (fun e => by have := hwXs _ e; omega)).trans h70
    have K84 : Keeps Nob w V75 := K72.then kV75 (fun i hi hm => absurd hi (by have := hwXs i hm; omega))
    have z85 := kV75.size
    refine ⟨h83, ?_⟩
    refine an_o 8 ?_
    refine on_r (o_rmfields 259580 8) (v74) (w' := V75) (by kernel_rfl) ?_
    refine ⟨h83, ?_⟩
    refine an_end (by kernel_rfl) ?_
    refine sy_a ⟨#[.agg (Msg.c m), pT gm 0, v74, Xa, .int .i64 m.a.err, Xb, .int .i64 m.b.err, Xp, .int .i64 m.p.err, Xq, .int .i64 m.q.err, .tuple #[Xa, .int .i64 m.a.err], pT gm 12, .agg (Att.c m.a), .tuple #[Xa, .int .i64 m.a.err], Xa, .int .i64 m.a.err, .tuple #[Xb, .int .i64 m.b.err], pT gm 48, .agg (Att.c m.b), .tuple #[Xb, .int .i64 m.b.err], Xb, .int .i64 m.b.err, .tuple #[Xp, .int .i64 m.p.err], pT gm 84, .agg (Pro.c m.p), .tuple #[Xp, .int .i64 m.p.err], Xp, .int .i64 m.p.err, .tuple #[Xq, .int .i64 m.q.err], pT gm 119, .agg (Pro.c m.q), .tuple #[Xq, .int .i64 m.q.err], Xq, .int .i64 m.q.err, pT gm 0, .int .i64 m.k, .bool false, .bool false, undef, undef, undef, undef, undef, undef, undef, .bool false, .bool false, undef, undef, undef, undef, undef, undef, .bool false, .bool false, undef, undef, undef, undef, undef, undef, undef, .bool true, .bool true, pT gm 6, .agg (Msg.st m), Xs, pT gm 4, uN m.am, .slice (some ⟨gl, 0, none⟩) 1 1, X69, v74, undef, undef, undef, undef, undef, undef, undef, undef, undef, undef, undef, undef, undef, undef, undef, undef, undef, undef, undef, undef, undef, undef, undef, undef, undef, undef, undef, undef, undef, undef, undef, undef, undef, undef, undef, undef, undef, undef, undef, undef, undef, undef, undef, undef, undef, undef, undef, undef, undef], []⟩ ?_
    refine then_n ?_
    refine sy_ret (by kernel_rfl) ?_
    refine blk_r ?_
    refine then_r ?_
    refine sy_out (v74) rfl (by kernel_rfl) ?_
    exact ⟨_, rfl, h82, fun j hj => by have := hw81 j hj; omega, K84⟩
set_option maxRecDepth 100000 in
set_option maxHeartbeats 4000000 in
theorem rmfields_5 (m : Msg) (w : World) (hok : m.Ok) (hk : m.k = 5) (b0 : 0 ≤ m.sv ∧ m.sv ≤ 31) (b1 : 1 ≤ m.ss ∧ m.ss ≤ 4294967296) (b2 : -1 ≤ m.sp ∧ m.sp ≤ 31) (b3 : 0 ≤ m.sf ∧ m.sf ≤ 4294967296) (ht : 0 ≤ m.t ∧ m.t ≤ 31) :
    Calls Try.prog 51 #[.agg (Msg.c m)] w (fun e w' => ∃ X, e = .returned X ∧ Row w' 5 1 X (encs [m.sv.toNat, m.ss.toNat, (m.sp + 1).toNat, m.sf.toNat] ++ encs [m.am, m.t.toNat]).length (B (encs [m.sv.toNat, m.ss.toNat, (m.sp + 1).toNat, m.sf.toNat] ++ encs [m.am, m.t.toNat])) ∧ NewFrom w.heap.size X ∧ Keeps Nob w w') := by
  obtain ⟨i0, hi0, hz0, hz1, hz2⟩ := info_parts u8_info0
  have hr := hok.R
  have la := Att.tb_len hr.a
  have lb := Att.tb_len hr.b
  have lp := Pro.tb_len hr.p
  have lq := Pro.tb_len hr.q
  have lst := encs_len [m.sv.toNat, m.ss.toNat, (m.sp + 1).toNat, m.sf.toNat]
  simp only [List.length_cons, List.length_nil] at lst
  have le1 := encs_len [m.am, m.t.toNat]
  simp only [List.length_cons, List.length_nil] at le1
  have K0 : Keeps Nob w w := Keeps.refl _ _
  refine sy_enter (part_rmfields 1) ⟨#[.agg (Msg.c m), undef, undef, undef, undef, undef, undef, undef, undef, undef, undef, undef, undef, undef, undef, undef, undef, undef, undef, undef, undef, undef, undef, undef, undef, undef, undef, undef, undef, undef, undef, undef, undef, undef, undef, undef, undef, undef, undef, undef, undef, undef, undef, undef, undef, undef, undef, undef, undef, undef, undef, undef, undef, undef, undef, undef, undef, undef, undef, undef, undef, undef, undef, undef, undef, undef, undef, undef, undef, undef, undef, undef, undef, undef, undef, undef, undef, undef, undef, undef, undef, undef, undef, undef, undef, undef, undef, undef, undef, undef, undef, undef, undef, undef, undef, undef, undef, undef, undef, undef, undef, undef, undef, undef, undef, undef, undef, undef, undef, undef, undef, undef, undef, undef, undef, undef, undef, undef, undef, undef, undef, undef], []⟩ Try.func51 (by kernel_rfl) (by kernel_rfl) ?_
  refine sy_sq (part_rmfields 2) (part_rmfields 3) ?_
  refine sy_reg ?_
  refine rg_plain 0 (opsAt (part_rmfields 2)) [0, 1] (by kernel_rfl) (by kernel_rfl) ?_
  obtain ⟨V1, eV1, gm, egm, h2, kV1⟩ := alloc_step w ((Msg.c m)) 35
  have n3 : w.heap.size ≤ gm := egm ▸ K0.size
  refine ps_r (o_rmfields 2 0) (pT gm 0) (w' := V1) (by rw [← eV1, ← egm]; exact exec_box 35 (.tmp 0) (by kernel_rfl) (.agg (Msg.c m)) (by kernel_rfl)) ?_
  clear eV1
  have K4 := K0.nn kV1
  have z5 := kV1.size
  refine ps_k (o_rmfields 2 1) (.slice none 0 0) ?_
  refine ps_end ?_
  refine then_n ?_
  refine sy_sq (part_rmfields 6) (part_rmfields 7) ?_
  refine sy_reg ?_
  refine rg_plain 1 (opsAt (part_rmfields 6)) [0, 1, 2, 3, 4, 5, 6, 7] (by kernel_rfl) (by kernel_rfl) ?_
  refine ps_k (o_rmfields 6 0) (pT gm 12) ?_
  refine ps_p (o_rmfields 6 1) (.agg (Att.c m.a)) (exec_load_seg 31 (.tmp 12) (by kernel_rfl) gm 12 (by kernel_rfl) (Att.c m.a).toList _ _ _ h2 (Msg.seg_A hr) Try.underlying31 rfl (by rw [Att.tl hr.a]; kernel_rfl)) ?_
  refine ps_c (o_rmfields 6 2) 74 #[.agg (Att.c m.a)] Try.func74 ((rvBytes_tb m.a _ hok.a).mono ?_)
  rintro e V6 ⟨Xa, rfl, hXa, hnXa, kV6⟩
  have hlXa : ∀ j, Xa.ownBlock = some j → j < V6.heap.size := fun j hj => hXa.lt hj
  have hwXa : NewFrom w.heap.size Xa := fun j hj => by have := hnXa j hj; omega
  refine ⟨_, rfl, ?_⟩
  have h7 := kV6.bk h2
  have K8 := K4.nn kV6
  have z9 := kV6.size
  refine ps_k (o_rmfields 6 3) (.tuple #[Xa, .int .i64 m.a.err]) ?_
  refine ps_k (o_rmfields 6 4) (Xa) ?_
  refine ps_k (o_rmfields 6 5) (.int .i64 m.a.err) ?_
  refine ps_k (o_rmfields 6 6) (Xa) ?_
  refine ps_k (o_rmfields 6 7) (.int .i64 m.a.err) ?_
  refine ps_end ?_
  refine then_n ?_
  refine sy_sq (part_rmfields 14) (part_rmfields 15) ?_
  refine sy_reg ?_
  refine rg_plain 2 (opsAt (part_rmfields 14)) [0, 1, 2, 3, 4, 5, 6, 7] (by kernel_rfl) (by kernel_rfl) ?_
  refine ps_k (o_rmfields 14 0) (pT gm 48) ?_
  refine ps_p (o_rmfields 14 1) (.agg (Att.c m.b)) (exec_load_seg 31 (.tmp 18) (by kernel_rfl) gm 48 (by kernel_rfl) (Att.c m.b).toList _ _ _ h7 (Msg.seg_B hr) Try.underlying31 rfl (by rw [Att.tl hr.b]; kernel_rfl)) ?_
  refine ps_c (o_rmfields 14 2) 74 #[.agg (Att.c m.b)] Try.func74 ((rvBytes_tb m.b _ hok.b).mono ?_)
  rintro e V10 ⟨Xb, rfl, hXb, hnXb, kV10⟩
  have hlXb : ∀ j, Xb.ownBlock = some j → j < V10.heap.size := fun j hj => hXb.lt hj
  have hwXb : NewFrom w.heap.size Xb := fun j hj => by have := hnXb j hj; omega
  refine ⟨_, rfl, ?_⟩
  have h11 := kV10.bk h7
  have K12 := K8.nn kV10
  have z13 := kV10.size
  refine ps_k (o_rmfields 14 3) (.tuple #[Xb, .int .i64 m.b.err]) ?_
  refine ps_k (o_rmfields 14 4) (Xb) ?_
  refine ps_k (o_rmfields 14 5) (.int .i64 m.b.err) ?_
  refine ps_k (o_rmfields 14 6) (Xb) ?_
  refine ps_k (o_rmfields 14 7) (.int .i64 m.b.err) ?_
  refine ps_end ?_
  refine then_n ?_
  refine sy_sq (part_rmfields 30) (part_rmfields 31) ?_
  refine sy_reg ?_
  refine rg_plain 3 (opsAt (part_rmfields 30)) [0, 1, 2, 3, 4, 5, 6, 7] (by kernel_rfl) (by kernel_rfl) ?_
  refine ps_k (o_rmfields 30 0) (pT gm 84) ?_
  refine ps_p (o_rmfields 30 1) (.agg (Pro.c m.p)) (exec_load_seg 33 (.tmp 24) (by kernel_rfl) gm 84 (by kernel_rfl) (Pro.c m.p).toList _ _ _ h11 (Msg.seg_P hr) Try.underlying33 rfl (by rw [Pro.tl hr.p]; kernel_rfl)) ?_
  refine ps_c (o_rmfields 30 2) 75 #[.agg (Pro.c m.p)] Try.func75 ((rvBytesBlock_tb m.p _ hok.p).mono ?_)
  rintro e V14 ⟨Xp, rfl, hXp, hnXp, kV14⟩
  have hlXp : ∀ j, Xp.ownBlock = some j → j < V14.heap.size := fun j hj => hXp.lt hj
  have hwXp : NewFrom w.heap.size Xp := fun j hj => by have := hnXp j hj; omega
  refine ⟨_, rfl, ?_⟩
  have h15 := kV14.bk h11
  have K16 := K12.nn kV14
  have z17 := kV14.size
  refine ps_k (o_rmfields 30 3) (.tuple #[Xp, .int .i64 m.p.err]) ?_
  refine ps_k (o_rmfields 30 4) (Xp) ?_
  refine ps_k (o_rmfields 30 5) (.int .i64 m.p.err) ?_
  refine ps_k (o_rmfields 30 6) (Xp) ?_
  refine ps_k (o_rmfields 30 7) (.int .i64 m.p.err) ?_
  refine ps_end ?_
  refine sy_a ⟨#[.agg (Msg.c m), pT gm 0, .slice none 0 0, Xa, .int .i64 m.a.err, Xb, .int .i64 m.b.err, Xp, .int .i64 m.p.err, undef, undef, .tuple #[Xa, .int .i64 m.a.err], pT gm 12, .agg (Att.c m.a), .tuple #[Xa, .int .i64 m.a.err], Xa, .int .i64 m.a.err, .tuple #[Xb, .int .i64 m.b.err], pT gm 48, .agg (Att.c m.b), .tuple #[Xb, .int .i64 m.b.err], Xb, .int .i64 m.b.err, .tuple #[Xp, .int .i64 m.p.err], pT gm 84, .agg (Pro.c m.p), .tuple #[Xp, .int .i64 m.p.err], Xp, .int .i64 m.p.err, undef, undef, undef, undef, undef, undef, undef, undef, undef, undef, undef, undef, undef, undef, undef, undef, undef, undef, undef, undef, undef, undef, undef, undef, undef, undef, undef, undef, undef, undef, undef, undef, undef, undef, undef, undef, undef, undef, undef, undef, undef, undef, undef, undef, undef, undef, undef, undef, undef, undef, undef, undef, undef, undef, undef, undef, undef, undef, undef, undef, undef, undef, undef, undef, undef, undef, undef, undef, undef, undef, undef, undef, undef, undef, undef, undef, undef, undef, undef, undef, undef, undef, undef, undef, undef, undef, undef, undef, undef, undef, undef, undef, undef], []⟩ ?_
  refine then_n ?_
  refine sy_sq (part_rmfields 62) (part_rmfields 63) ?_
  refine sy_reg ?_
  refine rg_plain 4 (opsAt (part_rmfields 62)) [0, 1, 2, 3, 4, 5, 6, 7] (by kernel_rfl) (by kernel_rfl) ?_
  refine ps_k (o_rmfields 62 0) (pT gm 119) ?_
  refine ps_p (o_rmfields 62 1) (.agg (Pro.c m.q)) (exec_load_seg 33 (.tmp 30) (by kernel_rfl) gm 119 (by kernel_rfl) (Pro.c m.q).toList _ _ _ h15 (Msg.seg_Q hr) Try.underlying33 rfl (by rw [Pro.tl hr.q]; kernel_rfl)) ?_
  refine ps_c (o_rmfields 62 2) 75 #[.agg (Pro.c m.q)] Try.func75 ((rvBytesBlock_tb m.q _ hok.q).mono ?_)
  rintro e V18 ⟨Xq, rfl, hXq, hnXq, kV18⟩
  have hlXq : ∀ j, Xq.ownBlock = some j → j < V18.heap.size := fun j hj => hXq.lt hj
  have hwXq : NewFrom w.heap.size Xq := fun j hj => by have := hnXq j hj; omega
  obtain ⟨zz, hzz⟩ : ∃ z, V18.heap.size = z := ⟨_, rfl⟩
  have hgz : gm < zz := by have := lt_of_block h15; have := kV18.size; omega
  refine ⟨_, rfl, ?_⟩
  have h19 := kV18.bk h15
  have K20 := K16.nn kV18
  have z21 := kV18.size
  refine ps_k (o_rmfields 62 3) (.tuple #[Xq, .int .i64 m.q.err]) ?_
  refine ps_k (o_rmfields 62 4) (Xq) ?_
  refine ps_k (o_rmfields 62 5) (.int .i64 m.q.err) ?_
  refine ps_k (o_rmfields 62 6) (Xq) ?_
  refine ps_k (o_rmfields 62 7) (.int .i64 m.q.err) ?_
  refine ps_end ?_
  refine then_n ?_
  refine sy_sq (part_rmfields 126) (part_rmfields 127) ?_
  refine sy_sq (part_rmfields 252) (part_rmfields 253) ?_
  refine sy_reg ?_
  refine rg_plain 5 (opsAt (part_rmfields 252)) [0, 1] (by kernel_rfl) (by kernel_rfl) ?_
  refine ps_k (o_rmfields 252 0) (pT gm 0) ?_
  refine ps_p (o_rmfields 252 1) (.int .i64 m.k) (exec_ld 3 (.tmp 35) gm 0 Try.underlying3 (rc (h19) (Msg.get_n hr NF.k))) ?_
  refine ps_end ?_
  refine then_n ?_
  refine sy_bk 0 (part_rmfields 506) ?_
  refine sy_sq (part_rmfields 1012) (part_rmfields 1013) ?_
  refine sy_reg ?_
  refine rg_plain 6 (opsAt (part_rmfields 1012)) [0, 1] (by kernel_rfl) (by kernel_rfl) ?_
  refine ps_p (o_rmfields 1012 0) (.bool false) (eqf ((m.k) : Int) ((1) : Int) (by omega)) ?_
  refine ps_k (o_rmfields 1012 1) (.bool false) ?_
  refine ps_end ?_
  refine then_n ?_
  refine sy_n (.tmp 37) (part_rmfields 2026) (part_rmfields 2027) ?_
  refine sy_sq (part_rmfields 4054) (part_rmfields 4055) ?_
  refine sy_reg ?_
  refine rg_plain 8 (opsAt (part_rmfields 4054)) [0, 1] (by kernel_rfl) (by kernel_rfl) ?_
  refine ps_p (o_rmfields 4054 0) (.bool false) (eqf ((m.k) : Int) ((2) : Int) (by omega)) ?_
  refine ps_k (o_rmfields 4054 1) (.bool false) ?_
  refine ps_end ?_
  refine then_n ?_
  refine sy_n (.tmp 46) (part_rmfields 8110) (part_rmfields 8111) ?_
  refine sy_sq (part_rmfields 16222) (part_rmfields 16223) ?_
  refine sy_reg ?_
  refine rg_plain 10 (opsAt (part_rmfields 16222)) [0, 1] (by kernel_rfl) (by kernel_rfl) ?_
  refine ps_p (o_rmfields 16222 0) (.bool false) (eqf ((m.k) : Int) ((3) : Int) (by omega)) ?_
  refine ps_k (o_rmfields 16222 1) (.bool false) ?_
  refine ps_end ?_
  refine then_n ?_
  refine sy_n (.tmp 54) (part_rmfields 32446) (part_rmfields 32447) ?_
  refine sy_sq (part_rmfields 64894) (part_rmfields 64895) ?_
  refine sy_reg ?_
  refine rg_plain 12 (opsAt (part_rmfields 64894)) [0, 1] (by kernel_rfl) (by kernel_rfl) ?_
  refine ps_p (o_rmfields 64894 0) (.bool false) (eqf ((m.k) : Int) ((4) : Int) (by omega)) ?_
  refine ps_k (o_rmfields 64894 1) (.bool false) ?_
  refine ps_end ?_
  refine then_n ?_
  refine sy_n (.tmp 63) (part_rmfields 129790) (part_rmfields 129791) ?_
  refine sy_sq (part_rmfields 259582) (part_rmfields 259583) ?_
  refine sy_reg ?_
  refine rg_plain 14 (opsAt (part_rmfields 259582)) [0, 1] (by kernel_rfl) (by kernel_rfl) ?_
  refine ps_p (o_rmfields 259582 0) (.bool true) (eqt ((m.k) : Int) ((5) : Int) (by omega)) ?_
  refine ps_k (o_rmfields 259582 1) (.bool true) ?_
  refine ps_end ?_
  refine then_n ?_
  refine sy_ys (.tmp 73) (part_rmfields 519166) (part_rmfields 519167) ?_
  refine sy_sq (part_rmfields 1038332) (part_rmfields 1038333) ?_
  refine sy_np ?_
  refine sy_reg ?_
  refine an_begin 15 12 (opsAt (part_rmfields 1038332)) (fun W => (W.heap[gm]? = some (.cells (Msg.c m) 35 (0, 0)))) #[false, false, false, false, false, false, false, false, false, false, false, false] (by kernel_rfl) (by kernel_rfl) (by kernel_rfl) (by kernel_rfl) ?_
  obtain ⟨V22, eV22, kV22⟩ := drew_step V18
  rw [eV22]
  clear eV22
  have h23 := kV22.bk h19
  have K24 := K20.nn kV22
  have z25 := kV22.size
  refine an_k 0 (o_rmfields 1038332 0) (pT gm 6) h23 ?_
  refine an_v 1 (o_rmfields 1038332 1) (.agg (Msg.st m)) (fun W hS => exec_load_seg 27 (.tmp 75) (by kernel_rfl) gm 6 (by kernel_rfl) (Msg.st m).toList _ _ _ hS (Msg.seg_S _) Try.underlying27 rfl (by kernel_rfl)) h23 ?_
  refine an_k 3 (o_rmfields 1038332 3) (pT gm 4) h23 ?_
  refine an_v 4 (o_rmfields 1038332 4) (uN m.am) (fun W hS => exec_ld 25 (.tmp 78) gm 4 Try.underlying25 (rc (hS) (Msg.get_a hr AF.am))) h23 ?_
  refine an_k 5 (o_rmfields 1038332 5) (pT gm 3) h23 ?_
  refine an_v 6 (o_rmfields 1038332 6) (.int .i64 m.t) (fun W hS => exec_ld 3 (.tmp 80) gm 3 Try.underlying3 (rc (hS) (Msg.get_n hr NF.t))) h23 ?_
  refine an_v 7 (o_rmfields 1038332 7) (uN m.t.toNat) (fun W hS => exec_cast (congrArg (Value.int .u64) (wrapNat (by omega) (by omega))) (by kernel_rfl)) h23 ?_
  refine an_two 2 8 (by kernel_rfl) ?_ ?_
  · refine on_c (o_rmfields 1038332 2) 76 #[.agg (Msg.st m)] Try.func76 ((rmstamped_ok m _ b0 b1 b2 b3).mono ?_)
    rintro e V26 ⟨Xs, rfl, hXs, hnXs, kV26⟩
    have hwXs : NewFrom zz Xs := fun j hj => by have := hnXs j hj; omega
    refine ⟨_, rfl, ?_⟩
    have h27 := kV26.bk h23
    have K28 := K24.nn kV26
    have z29 := kV26.size
    refine ⟨h27, ?_⟩
    refine an_o 8 ?_
    obtain ⟨V30, eV30, gl, egl, h31, kV30⟩ := alloc_step V26 (#[.int .u64 ((m.am : Nat) : Int), .int .u64 ((m.t.toNat : Nat) : Int)]) 25
    have n32 : gm < gl := egl ▸ lt_of_block h27
    have n33 : w.heap.size ≤ gl := egl ▸ K28.size
    refine on_r (o_rmfields 1038332 8) (.slice (some ⟨gl, 0, none⟩) 2 2) (w' := V30) (by rw [← eV30, ← egl]; kernel_rfl) ?_
    have h34 := kV30.bk h27
    have h35 : Row V30 5 1 Xs ((encs [m.sv.toNat, m.ss.toNat, (m.sp + 1).toNat, m.sf.toNat]).length) (B (encs [m.sv.toNat, m.ss.toNat, (m.sp + 1).toNat, m.sf.toNat])) := hXs.keeps kV30 (fun _ _ x => x)
    have K36 := K28.nn kV30
    have z37 := kV30.size
    refine ⟨h34, ?_⟩
    refine an_o 9 ?_
    have zpX39 : w.heap.size ≤ V30.heap.size := K36.size
    refine on_c (o_rmfields 1038332 9) 50 #[.slice (some ⟨gl, 0, none⟩) 2 2] Try.func50 ((rmput_2 gl m.am m.t.toNat _ h31 hok.am (by omega)).mono ?_)
    rintro e V38 ⟨X39, rfl, hX39, hnX39, kV38⟩
    have hlX39 : ∀ j, X39.ownBlock = some j → j < V38.heap.size := fun j hj => hX39.lt hj
    refine ⟨_, rfl, ?_⟩
    have h40 := kV38.bk h34
    have h41 : Row V38 5 1 Xs ((encs [m.sv.toNat, m.ss.toNat, (m.sp + 1).toNat, m.sf.toNat]).length) (B (encs [m.sv.toNat, m.ss.toNat, (m.sp + 1).toNat, m.sf.toNat])) := h35.keeps kV38 (fun _ _ x => x)
    have K42 := K36.nn kV38
    have z43 := kV38.size
    refine ⟨h40, ?_⟩
    refine an_o 10 ?_
    obtain ⟨v44, V45, hr46, h47, hg48, hn49, ha50⟩ := run_append_any (P := Try.prog) (w := V38) 22 (Oper.type (o_rmfields 1038332 10)) 5 i0 (.int .u8 0) 1 1 Try.underlying22 hi0 hz0 hz1 hz2 rfl (by decide) Xs ((encs [m.sv.toNat, m.ss.toNat, (m.sp + 1).toNat, m.sf.toNat]).length) (B (encs [m.sv.toNat, m.ss.toNat, (m.sp + 1).toNat, m.sf.toNat])) h41 X39 ((encs [m.am, m.t.toNat]).length) (B (encs [m.am, m.t.toNat])) (Row.src hX39 (B_one _)) (by unfold maxLen; omega) (by omega)
    have kV45 : Keeps (fun j => (Xs : Value).ownBlock = some j) V38 V45 := Keeps.rowAdd hg48
    have hw51 : NewFrom zz v44 := hwXs.next (by omega) ha50
    refine on_r (o_rmfields 1038332 10) v44 (w' := V45) (exec_append (.tmp 77) (.tmp 84) 22 (by kernel_rfl) Xs X39 (by kernel_rfl) (by kernel_rfl) hr46) ?_
    have h52 : Row V45 5 1 v44 ((encs [m.sv.toNat, m.ss.toNat, (m.sp + 1).toNat, m.sf.toNat] ++ encs [m.am, m.t.toNat]).length) (B (encs [m.sv.toNat, m.ss.toNat, (m.sp + 1).toNat, m.sf.toNat] ++ encs [m.am, m.t.toNat])) := row_cast h47 rfl (by simp only [List.length_append])
    have h53 : V45.heap[gm]? = some (.cells (Msg.c m) 35 (0, 0)) := (kV45.block gm (lt_of_block h40) (fun e => by have := hwXs _ e; omega)).trans h40
    have K54 : Keeps Nob w V45 := K42.then kV45 (fun i hi hm => absurd hi (by have := hwXs i hm; omega))
    have z55 := kV45.size
    refine ⟨h53, ?_⟩
    refine an_o 11 ?_
    refine on_r (o_rmfields 1038332 11) (v44) (w' := V45) (by kernel_rfl) ?_
    refine ⟨h53, ?_⟩
    refine an_end (by kernel_rfl) ?_
    refine sy_a ⟨#[.agg (Msg.c m), pT gm 0, v44, Xa, .int .i64 m.a.err, Xb, .int .i64 m.b.err, Xp, .int .i64 m.p.err, Xq, .int .i64 m.q.err, .tuple #[Xa, .int .i64 m.a.err], pT gm 12, .agg (Att.c m.a), .tuple #[Xa, .int .i64 m.a.err], Xa, .int .i64 m.a.err, .tuple #[Xb, .int .i64 m.b.err], pT gm 48, .agg (Att.c m.b), .tuple #[Xb, .int .i64 m.b.err], Xb, .int .i64 m.b.err, .tuple #[Xp, .int .i64 m.p.err], pT gm 84, .agg (Pro.c m.p), .tuple #[Xp, .int .i64 m.p.err], Xp, .int .i64 m.p.err, .tuple #[Xq, .int .i64 m.q.err], pT gm 119, .agg (Pro.c m.q), .tuple #[Xq, .int .i64 m.q.err], Xq, .int .i64 m.q.err, pT gm 0, .int .i64 m.k, .bool false, .bool false, undef, undef, undef, undef, undef, undef, undef, .bool false, .bool false, undef, undef, undef, undef, undef, undef, .bool false, .bool false, undef, undef, undef, undef, undef, undef, undef, .bool false, .bool false, undef, undef, undef, undef, undef, undef, undef, undef, .bool true, .bool true, pT gm 6, .agg (Msg.st m), Xs, pT gm 4, uN m.am, pT gm 3, .int .i64 m.t, uN m.t.toNat, .slice (some ⟨gl, 0, none⟩) 2 2, X39, v44, undef, undef, undef, undef, undef, undef, undef, undef, undef, undef, undef, undef, undef, undef, undef, undef, undef, undef, undef, undef, undef, undef, undef, undef, undef, undef, undef, undef, undef, undef, undef, undef, undef, undef, undef, undef], []⟩ ?_
    refine then_n ?_
    refine sy_ret (by kernel_rfl) ?_
    refine blk_r ?_
    refine then_r ?_
    refine sy_out (v44) rfl (by kernel_rfl) ?_
    exact ⟨_, rfl, h52, fun j hj => by have := hw51 j hj; omega, K54⟩
  · obtain ⟨V56, eV56, gl, egl, h57, kV56⟩ := alloc_step V22 (#[.int .u64 ((m.am : Nat) : Int), .int .u64 ((m.t.toNat : Nat) : Int)]) 25
    have n58 : gm < gl := egl ▸ lt_of_block h23
    have n59 : w.heap.size ≤ gl := egl ▸ K24.size
    refine on_r (o_rmfields 1038332 8) (.slice (some ⟨gl, 0, none⟩) 2 2) (w' := V56) (by rw [← eV56, ← egl]; kernel_rfl) ?_
    have h60 := kV56.bk h23
    have K61 := K24.nn kV56
    have z62 := kV56.size
    refine ⟨h60, ?_⟩
    refine an_o 2 ?_
    refine on_c (o_rmfields 1038332 2) 76 #[.agg (Msg.st m)] Try.func76 ((rmstamped_ok m _ b0 b1 b2 b3).mono ?_)
    rintro e V63 ⟨Xs, rfl, hXs, hnXs, kV63⟩
    have hwXs : NewFrom zz Xs := fun j hj => by have := hnXs j hj; omega
    refine ⟨_, rfl, ?_⟩
    have h64 := kV63.bk h60
    have h65 := kV63.bk h57
    have K66 := K61.nn kV63
    have z67 := kV63.size
    refine ⟨h64, ?_⟩
    refine an_o 9 ?_
    have zpX69 : w.heap.size ≤ V63.heap.size := K66.size
    refine on_c (o_rmfields 1038332 9) 50 #[.slice (some ⟨gl, 0, none⟩) 2 2] Try.func50 ((rmput_2 gl m.am m.t.toNat _ h65 hok.am (by omega)).mono ?_)
    rintro e V68 ⟨X69, rfl, hX69, hnX69, kV68⟩
    have hlX69 : ∀ j, X69.ownBlock = some j → j < V68.heap.size := fun j hj => hX69.lt hj
    refine ⟨_, rfl, ?_⟩
    have h70 := kV68.bk h64
    have h71 : Row V68 5 1 Xs ((encs [m.sv.toNat, m.ss.toNat, (m.sp + 1).toNat, m.sf.toNat]).length) (B (encs [m.sv.toNat, m.ss.toNat, (m.sp + 1).toNat, m.sf.toNat])) := hXs.keeps kV68 (fun _ _ x => x)
    have K72 := K66.nn kV68
    have z73 := kV68.size
    refine ⟨h70, ?_⟩
    refine an_o 10 ?_
    obtain ⟨v74, V75, hr76, h77, hg78, hn79, ha80⟩ := run_append_any (P := Try.prog) (w := V68) 22 (Oper.type (o_rmfields 1038332 10)) 5 i0 (.int .u8 0) 1 1 Try.underlying22 hi0 hz0 hz1 hz2 rfl (by decide) Xs ((encs [m.sv.toNat, m.ss.toNat, (m.sp + 1).toNat, m.sf.toNat]).length) (B (encs [m.sv.toNat, m.ss.toNat, (m.sp + 1).toNat, m.sf.toNat])) h71 X69 ((encs [m.am, m.t.toNat]).length) (B (encs [m.am, m.t.toNat])) (Row.src hX69 (B_one _)) (by unfold maxLen; omega) (by omega)
    have kV75 : Keeps (fun j => (Xs : Value).ownBlock = some j) V68 V75 := Keeps.rowAdd hg78
    have hw81 : NewFrom zz v74 := hwXs.next (by omega) ha80
    refine on_r (o_rmfields 1038332 10) v74 (w' := V75) (exec_append (.tmp 77) (.tmp 84) 22 (by kernel_rfl) Xs X69 (by kernel_rfl) (by kernel_rfl) hr76) ?_
    have h82 : Row V75 5 1 v74 ((encs [m.sv.toNat, m.ss.toNat, (m.sp + 1).toNat, m.sf.toNat] ++ encs [m.am, m.t.toNat]).length) (B (encs [m.sv.toNat, m.ss.toNat, (m.sp + 1).toNat, m.sf.toNat] ++ encs [m.am, m.t.toNat])) := row_cast h77 rfl (by simp only [List.length_append])
    have h83 : V75.heap[gm]? = some (.cells (Msg.c m) 35 (0, 0)) := (kV75.block gm (lt_of_block h70) (fun e => by have := hwXs _ e; omega)).trans h70
    have K84 : Keeps Nob w V75 := K72.then kV75 (fun i hi hm => absurd hi (by have := hwXs i hm; omega))
    have z85 := kV75.size
    refine ⟨h83, ?_⟩
    refine an_o 11 ?_
    refine on_r (o_rmfields 1038332 11) (v74) (w' := V75) (by kernel_rfl) ?_
    refine ⟨h83, ?_⟩
    refine an_end (by kernel_rfl) ?_
    refine sy_a ⟨#[.agg (Msg.c m), pT gm 0, v74, Xa, .int .i64 m.a.err, Xb, .int .i64 m.b.err, Xp, .int .i64 m.p.err, Xq, .int .i64 m.q.err, .tuple #[Xa, .int .i64 m.a.err], pT gm 12, .agg (Att.c m.a), .tuple #[Xa, .int .i64 m.a.err], Xa, .int .i64 m.a.err, .tuple #[Xb, .int .i64 m.b.err], pT gm 48, .agg (Att.c m.b), .tuple #[Xb, .int .i64 m.b.err], Xb, .int .i64 m.b.err, .tuple #[Xp, .int .i64 m.p.err], pT gm 84, .agg (Pro.c m.p), .tuple #[Xp, .int .i64 m.p.err], Xp, .int .i64 m.p.err, .tuple #[Xq, .int .i64 m.q.err], pT gm 119, .agg (Pro.c m.q), .tuple #[Xq, .int .i64 m.q.err], Xq, .int .i64 m.q.err, pT gm 0, .int .i64 m.k, .bool false, .bool false, undef, undef, undef, undef, undef, undef, undef, .bool false, .bool false, undef, undef, undef, undef, undef, undef, .bool false, .bool false, undef, undef, undef, undef, undef, undef, undef, .bool false, .bool false, undef, undef, undef, undef, undef, undef, undef, undef, .bool true, .bool true, pT gm 6, .agg (Msg.st m), Xs, pT gm 4, uN m.am, pT gm 3, .int .i64 m.t, uN m.t.toNat, .slice (some ⟨gl, 0, none⟩) 2 2, X69, v74, undef, undef, undef, undef, undef, undef, undef, undef, undef, undef, undef, undef, undef, undef, undef, undef, undef, undef, undef, undef, undef, undef, undef, undef, undef, undef, undef, undef, undef, undef, undef, undef, undef, undef, undef, undef], []⟩ ?_
    refine then_n ?_
    refine sy_ret (by kernel_rfl) ?_
    refine blk_r ?_
    refine then_r ?_
    refine sy_out (v74) rfl (by kernel_rfl) ?_
    exact ⟨_, rfl, h82, fun j hj => by have := hw81 j hj; omega, K84⟩
set_option maxRecDepth 100000 in
set_option maxHeartbeats 4000000 in
theorem rmfields_6 (m : Msg) (w : World) (hok : m.Ok) (hk : m.k = 6)  :
    Calls Try.prog 51 #[.agg (Msg.c m)] w (fun e w' => ∃ X, e = .returned X ∧ Row w' 5 1 X (m.a.tb).length (B (m.a.tb)) ∧ NewFrom w.heap.size X ∧ Keeps Nob w w') := by
  obtain ⟨i0, hi0, hz0, hz1, hz2⟩ := info_parts u8_info0
  have hr := hok.R
  have la := Att.tb_len hr.a
  have lb := Att.tb_len hr.b
  have lp := Pro.tb_len hr.p
  have lq := Pro.tb_len hr.q
  have K0 : Keeps Nob w w := Keeps.refl _ _
  refine sy_enter (part_rmfields 1) ⟨#[.agg (Msg.c m), undef, undef, undef, undef, undef, undef, undef, undef, undef, undef, undef, undef, undef, undef, undef, undef, undef, undef, undef, undef, undef, undef, undef, undef, undef, undef, undef, undef, undef, undef, undef, undef, undef, undef, undef, undef, undef, undef, undef, undef, undef, undef, undef, undef, undef, undef, undef, undef, undef, undef, undef, undef, undef, undef, undef, undef, undef, undef, undef, undef, undef, undef, undef, undef, undef, undef, undef, undef, undef, undef, undef, undef, undef, undef, undef, undef, undef, undef, undef, undef, undef, undef, undef, undef, undef, undef, undef, undef, undef, undef, undef, undef, undef, undef, undef, undef, undef, undef, undef, undef, undef, undef, undef, undef, undef, undef, undef, undef, undef, undef, undef, undef, undef, undef, undef, undef, undef, undef, undef, undef, undef], []⟩ Try.func51 (by kernel_rfl) (by kernel_rfl) ?_
  refine sy_sq (part_rmfields 2) (part_rmfields 3) ?_
  refine sy_reg ?_
  refine rg_plain 0 (opsAt (part_rmfields 2)) [0, 1] (by kernel_rfl) (by kernel_rfl) ?_
  obtain ⟨V1, eV1, gm, egm, h2, kV1⟩ := alloc_step w ((Msg.c m)) 35
  have n3 : w.heap.size ≤ gm := egm ▸ K0.size
  refine ps_r (o_rmfields 2 0) (pT gm 0) (w' := V1) (by rw [← eV1, ← egm]; exact exec_box 35 (.tmp 0) (by kernel_rfl) (.agg (Msg.c m)) (by kernel_rfl)) ?_
  clear eV1
  have K4 := K0.nn kV1
  have z5 := kV1.size
  refine ps_k (o_rmfields 2 1) (.slice none 0 0) ?_
  refine ps_end ?_
  refine then_n ?_
  refine sy_sq (part_rmfields 6) (part_rmfields 7) ?_
  refine sy_reg ?_
  refine rg_plain 1 (opsAt (part_rmfields 6)) [0, 1, 2, 3, 4, 5, 6, 7] (by kernel_rfl) (by kernel_rfl) ?_
  refine ps_k (o_rmfields 6 0) (pT gm 12) ?_
  refine ps_p (o_rmfields 6 1) (.agg (Att.c m.a)) (exec_load_seg 31 (.tmp 12) (by kernel_rfl) gm 12 (by kernel_rfl) (Att.c m.a).toList _ _ _ h2 (Msg.seg_A hr) Try.underlying31 rfl (by rw [Att.tl hr.a]; kernel_rfl)) ?_
  refine ps_c (o_rmfields 6 2) 74 #[.agg (Att.c m.a)] Try.func74 ((rvBytes_tb m.a _ hok.a).mono ?_)
  rintro e V6 ⟨Xa, rfl, hXa, hnXa, kV6⟩
  have hlXa : ∀ j, Xa.ownBlock = some j → j < V6.heap.size := fun j hj => hXa.lt hj
  have hwXa : NewFrom w.heap.size Xa := fun j hj => by have := hnXa j hj; omega
  refine ⟨_, rfl, ?_⟩
  have h7 := kV6.bk h2
  have K8 := K4.nn kV6
  have z9 := kV6.size
  refine ps_k (o_rmfields 6 3) (.tuple #[Xa, .int .i64 m.a.err]) ?_
  refine ps_k (o_rmfields 6 4) (Xa) ?_
  refine ps_k (o_rmfields 6 5) (.int .i64 m.a.err) ?_
  refine ps_k (o_rmfields 6 6) (Xa) ?_
  refine ps_k (o_rmfields 6 7) (.int .i64 m.a.err) ?_
  refine ps_end ?_
  refine then_n ?_
  refine sy_sq (part_rmfields 14) (part_rmfields 15) ?_
  refine sy_reg ?_
  refine rg_plain 2 (opsAt (part_rmfields 14)) [0, 1, 2, 3, 4, 5, 6, 7] (by kernel_rfl) (by kernel_rfl) ?_
  refine ps_k (o_rmfields 14 0) (pT gm 48) ?_
  refine ps_p (o_rmfields 14 1) (.agg (Att.c m.b)) (exec_load_seg 31 (.tmp 18) (by kernel_rfl) gm 48 (by kernel_rfl) (Att.c m.b).toList _ _ _ h7 (Msg.seg_B hr) Try.underlying31 rfl (by rw [Att.tl hr.b]; kernel_rfl)) ?_
  refine ps_c (o_rmfields 14 2) 74 #[.agg (Att.c m.b)] Try.func74 ((rvBytes_tb m.b _ hok.b).mono ?_)
  rintro e V10 ⟨Xb, rfl, hXb, hnXb, kV10⟩
  have hlXb : ∀ j, Xb.ownBlock = some j → j < V10.heap.size := fun j hj => hXb.lt hj
  have hwXb : NewFrom w.heap.size Xb := fun j hj => by have := hnXb j hj; omega
  refine ⟨_, rfl, ?_⟩
  have h11 := kV10.bk h7
  have h12 : Row V10 5 1 Xa (m.a.tb).length (B (m.a.tb)) := hXa.keeps kV10 (fun _ _ x => x)
  have K13 := K8.nn kV10
  have z14 := kV10.size
  refine ps_k (o_rmfields 14 3) (.tuple #[Xb, .int .i64 m.b.err]) ?_
  refine ps_k (o_rmfields 14 4) (Xb) ?_
  refine ps_k (o_rmfields 14 5) (.int .i64 m.b.err) ?_
  refine ps_k (o_rmfields 14 6) (Xb) ?_
  refine ps_k (o_rmfields 14 7) (.int .i64 m.b.err) ?_
  refine ps_end ?_
  refine then_n ?_
  refine sy_sq (part_rmfields 30) (part_rmfields 31) ?_
  refine sy_reg ?_
  refine rg_plain 3 (opsAt (part_rmfields 30)) [0, 1, 2, 3, 4, 5, 6, 7] (by kernel_rfl) (by kernel_rfl) ?_
  refine ps_k (o_rmfields 30 0) (pT gm 84) ?_
  refine ps_p (o_rmfields 30 1) (.agg (Pro.c m.p)) (exec_load_seg 33 (.tmp 24) (by kernel_rfl) gm 84 (by kernel_rfl) (Pro.c m.p).toList _ _ _ h11 (Msg.seg_P hr) Try.underlying33 rfl (by rw [Pro.tl hr.p]; kernel_rfl)) ?_
  refine ps_c (o_rmfields 30 2) 75 #[.agg (Pro.c m.p)] Try.func75 ((rvBytesBlock_tb m.p _ hok.p).mono ?_)
  rintro e V15 ⟨Xp, rfl, hXp, hnXp, kV15⟩
  have hlXp : ∀ j, Xp.ownBlock = some j → j < V15.heap.size := fun j hj => hXp.lt hj
  have hwXp : NewFrom w.heap.size Xp := fun j hj => by have := hnXp j hj; omega
  refine ⟨_, rfl, ?_⟩
  have h16 := kV15.bk h11
  have h17 : Row V15 5 1 Xa (m.a.tb).length (B (m.a.tb)) := h12.keeps kV15 (fun _ _ x => x)
  have K18 := K13.nn kV15
  have z19 := kV15.size
  refine ps_k (o_rmfields 30 3) (.tuple #[Xp, .int .i64 m.p.err]) ?_
  refine ps_k (o_rmfields 30 4) (Xp) ?_
  refine ps_k (o_rmfields 30 5) (.int .i64 m.p.err) ?_
  refine ps_k (o_rmfields 30 6) (Xp) ?_
  refine ps_k (o_rmfields 30 7) (.int .i64 m.p.err) ?_
  refine ps_end ?_
  refine sy_a ⟨#[.agg (Msg.c m), pT gm 0, .slice none 0 0, Xa, .int .i64 m.a.err, Xb, .int .i64 m.b.err, Xp, .int .i64 m.p.err, undef, undef, .tuple #[Xa, .int .i64 m.a.err], pT gm 12, .agg (Att.c m.a), .tuple #[Xa, .int .i64 m.a.err], Xa, .int .i64 m.a.err, .tuple #[Xb, .int .i64 m.b.err], pT gm 48, .agg (Att.c m.b), .tuple #[Xb, .int .i64 m.b.err], Xb, .int .i64 m.b.err, .tuple #[Xp, .int .i64 m.p.err], pT gm 84, .agg (Pro.c m.p), .tuple #[Xp, .int .i64 m.p.err], Xp, .int .i64 m.p.err, undef, undef, undef, undef, undef, undef, undef, undef, undef, undef, undef, undef, undef, undef, undef, undef, undef, undef, undef, undef, undef, undef, undef, undef, undef, undef, undef, undef, undef, undef, undef, undef, undef, undef, undef, undef, undef, undef, undef, undef, undef, undef, undef, undef, undef, undef, undef, undef, undef, undef, undef, undef, undef, undef, undef, undef, undef, undef, undef, undef, undef, undef, undef, undef, undef, undef, undef, undef, undef, undef, undef, undef, undef, undef, undef, undef, undef, undef, undef, undef, undef, undef, undef, undef, undef, undef, undef, undef, undef, undef, undef, undef, undef], []⟩ ?_
  refine then_n ?_
  refine sy_sq (part_rmfields 62) (part_rmfields 63) ?_
  refine sy_reg ?_
  refine rg_plain 4 (opsAt (part_rmfields 62)) [0, 1, 2, 3, 4, 5, 6, 7] (by kernel_rfl) (by kernel_rfl) ?_
  refine ps_k (o_rmfields 62 0) (pT gm 119) ?_
  refine ps_p (o_rmfields 62 1) (.agg (Pro.c m.q)) (exec_load_seg 33 (.tmp 30) (by kernel_rfl) gm 119 (by kernel_rfl) (Pro.c m.q).toList _ _ _ h16 (Msg.seg_Q hr) Try.underlying33 rfl (by rw [Pro.tl hr.q]; kernel_rfl)) ?_
  refine ps_c (o_rmfields 62 2) 75 #[.agg (Pro.c m.q)] Try.func75 ((rvBytesBlock_tb m.q _ hok.q).mono ?_)
  rintro e V20 ⟨Xq, rfl, hXq, hnXq, kV20⟩
  have hlXq : ∀ j, Xq.ownBlock = some j → j < V20.heap.size := fun j hj => hXq.lt hj
  have hwXq : NewFrom w.heap.size Xq := fun j hj => by have := hnXq j hj; omega
  obtain ⟨zz, hzz⟩ : ∃ z, V20.heap.size = z := ⟨_, rfl⟩
  have hgz : gm < zz := by have := lt_of_block h16; have := kV20.size; omega
  refine ⟨_, rfl, ?_⟩
  have h21 := kV20.bk h16
  have h22 : Row V20 5 1 Xa (m.a.tb).length (B (m.a.tb)) := h17.keeps kV20 (fun _ _ x => x)
  have K23 := K18.nn kV20
  have z24 := kV20.size
  refine ps_k (o_rmfields 62 3) (.tuple #[Xq, .int .i64 m.q.err]) ?_
  refine ps_k (o_rmfields 62 4) (Xq) ?_
  refine ps_k (o_rmfields 62 5) (.int .i64 m.q.err) ?_
  refine ps_k (o_rmfields 62 6) (Xq) ?_
  refine ps_k (o_rmfields 62 7) (.int .i64 m.q.err) ?_
  refine ps_end ?_
  refine then_n ?_
  refine sy_sq (part_rmfields 126) (part_rmfields 127) ?_
  refine sy_sq (part_rmfields 252) (part_rmfields 253) ?_
  refine sy_reg ?_
  refine rg_plain 5 (opsAt (part_rmfields 252)) [0, 1] (by kernel_rfl) (by kernel_rfl) ?_
  refine ps_k (o_rmfields 252 0) (pT gm 0) ?_
  refine ps_p (o_rmfields 252 1) (.int .i64 m.k) (exec_ld 3 (.tmp 35) gm 0 Try.underlying3 (rc (h21) (Msg.get_n hr NF.k))) ?_
  refine ps_end ?_
  refine then_n ?_
  refine sy_bk 0 (part_rmfields 506) ?_
  refine sy_sq (part_rmfields 1012) (part_rmfields 1013) ?_
  refine sy_reg ?_
  refine rg_plain 6 (opsAt (part_rmfields 1012)) [0, 1] (by kernel_rfl) (by kernel_rfl) ?_
  refine ps_p (o_rmfields 1012 0) (.bool false) (eqf ((m.k) : Int) ((1) : Int) (by omega)) ?_
  refine ps_k (o_rmfields 1012 1) (.bool false) ?_
  refine ps_end ?_
  refine then_n ?_
  refine sy_n (.tmp 37) (part_rmfields 2026) (part_rmfields 2027) ?_
  refine sy_sq (part_rmfields 4054) (part_rmfields 4055) ?_
  refine sy_reg ?_
  refine rg_plain 8 (opsAt (part_rmfields 4054)) [0, 1] (by kernel_rfl) (by kernel_rfl) ?_
  refine ps_p (o_rmfields 4054 0) (.bool false) (eqf ((m.k) : Int) ((2) : Int) (by omega)) ?_
  refine ps_k (o_rmfields 4054 1) (.bool false) ?_
  refine ps_end ?_
  refine then_n ?_
  refine sy_n (.tmp 46) (part_rmfields 8110) (part_rmfields 8111) ?_
  refine sy_sq (part_rmfields 16222) (part_rmfields 16223) ?_
  refine sy_reg ?_
  refine rg_plain 10 (opsAt (part_rmfields 16222)) [0, 1] (by kernel_rfl) (by kernel_rfl) ?_
  refine ps_p (o_rmfields 16222 0) (.bool false) (eqf ((m.k) : Int) ((3) : Int) (by omega)) ?_
  refine ps_k (o_rmfields 16222 1) (.bool false) ?_
  refine ps_end ?_
  refine then_n ?_
  refine sy_n (.tmp 54) (part_rmfields 32446) (part_rmfields 32447) ?_
  refine sy_sq (part_rmfields 64894) (part_rmfields 64895) ?_
  refine sy_reg ?_
  refine rg_plain 12 (opsAt (part_rmfields 64894)) [0, 1] (by kernel_rfl) (by kernel_rfl) ?_
  refine ps_p (o_rmfields 64894 0) (.bool false) (eqf ((m.k) : Int) ((4) : Int) (by omega)) ?_
  refine ps_k (o_rmfields 64894 1) (.bool false) ?_
  refine ps_end ?_
  refine then_n ?_
  refine sy_n (.tmp 63) (part_rmfields 129790) (part_rmfields 129791) ?_
  refine sy_sq (part_rmfields 259582) (part_rmfields 259583) ?_
  refine sy_reg ?_
  refine rg_plain 14 (opsAt (part_rmfields 259582)) [0, 1] (by kernel_rfl) (by kernel_rfl) ?_
  refine ps_p (o_rmfields 259582 0) (.bool false) (eqf ((m.k) : Int) ((5) : Int) (by omega)) ?_
  refine ps_k (o_rmfields 259582 1) (.bool false) ?_
  refine ps_end ?_
  refine then_n ?_
  refine sy_n (.tmp 73) (part_rmfields 519166) (part_rmfields 519167) ?_
  refine sy_sq (part_rmfields 1038334) (part_rmfields 1038335) ?_
  refine sy_reg ?_
  refine rg_plain 16 (opsAt (part_rmfields 1038334)) [0, 1] (by kernel_rfl) (by kernel_rfl) ?_
  refine ps_p (o_rmfields 1038334 0) (.bool true) (eqt ((m.k) : Int) ((6) : Int) (by omega)) ?_
  refine ps_k (o_rmfields 1038334 1) (.bool true) ?_
  refine ps_end ?_
  refine then_n ?_
  refine sy_ys (.tmp 86) (part_rmfields 2076670) (part_rmfields 2076671) ?_
  refine sy_sq (part_rmfields 4153340) (part_rmfields 4153341) ?_
  refine sy_reg ?_
  refine rg_plain 17 (opsAt (part_rmfields 4153340)) [0, 1] (by kernel_rfl) (by kernel_rfl) ?_
  refine ps_k (o_rmfields 4153340 0) (Xa) ?_
  refine ps_k (o_rmfields 4153340 1) (Xa) ?_
  refine ps_end ?_
  refine sy_a ⟨#[.agg (Msg.c m), pT gm 0, Xa, Xa, .int .i64 m.a.err, Xb, .int .i64 m.b.err, Xp, .int .i64 m.p.err, Xq, .int .i64 m.q.err, .tuple #[Xa, .int .i64 m.a.err], pT gm 12, .agg (Att.c m.a), .tuple #[Xa, .int .i64 m.a.err], Xa, .int .i64 m.a.err, .tuple #[Xb, .int .i64 m.b.err], pT gm 48, .agg (Att.c m.b), .tuple #[Xb, .int .i64 m.b.err], Xb, .int .i64 m.b.err, .tuple #[Xp, .int .i64 m.p.err], pT gm 84, .agg (Pro.c m.p), .tuple #[Xp, .int .i64 m.p.err], Xp, .int .i64 m.p.err, .tuple #[Xq, .int .i64 m.q.err], pT gm 119, .agg (Pro.c m.q), .tuple #[Xq, .int .i64 m.q.err], Xq, .int .i64 m.q.err, pT gm 0, .int .i64 m.k, .bool false, .bool false, undef, undef, undef, undef, undef, undef, undef, .bool false, .bool false, undef, undef, undef, undef, undef, undef, .bool false, .bool false, undef, undef, undef, undef, undef, undef, undef, .bool false, .bool false, undef, undef, undef, undef, undef, undef, undef, undef, .bool false, .bool false, undef, undef, undef, undef, undef, undef, undef, undef, undef, undef, undef, .bool true, .bool true, Xa, undef, undef, undef, undef, undef, undef, undef, undef, undef, undef, undef, undef, undef, undef, undef, undef, undef, undef, undef, undef, undef, undef, undef, undef, undef, undef, undef, undef, undef, undef, undef, undef, undef], []⟩ ?_
  refine then_n ?_
  refine sy_ret (by kernel_rfl) ?_
  refine blk_r ?_
  refine then_r ?_
  refine sy_out (Xa) rfl (by kernel_rfl) ?_
  exact ⟨Xa, rfl, h22, hwXa, K23⟩
set_option maxRecDepth 100000 in
set_option maxHeartbeats 4000000 in
theorem rmfields_7 (m : Msg) (w : World) (hok : m.Ok) (hk : m.k = 7)  :
    Calls Try.prog 51 #[.agg (Msg.c m)] w (fun e w' => ∃ X, e = .returned X ∧ Row w' 5 1 X (m.p.tb).length (B (m.p.tb)) ∧ NewFrom w.heap.size X ∧ Keeps Nob w w') := by
  obtain ⟨i0, hi0, hz0, hz1, hz2⟩ := info_parts u8_info0
  have hr := hok.R
  have la := Att.tb_len hr.a
  have lb := Att.tb_len hr.b
  have lp := Pro.tb_len hr.p
  have lq := Pro.tb_len hr.q
  have K0 : Keeps Nob w w := Keeps.refl _ _
  refine sy_enter (part_rmfields 1) ⟨#[.agg (Msg.c m), undef, undef, undef, undef, undef, undef, undef, undef, undef, undef, undef, undef, undef, undef, undef, undef, undef, undef, undef, undef, undef, undef, undef, undef, undef, undef, undef, undef, undef, undef, undef, undef, undef, undef, undef, undef, undef, undef, undef, undef, undef, undef, undef, undef, undef, undef, undef, undef, undef, undef, undef, undef, undef, undef, undef, undef, undef, undef, undef, undef, undef, undef, undef, undef, undef, undef, undef, undef, undef, undef, undef, undef, undef, undef, undef, undef, undef, undef, undef, undef, undef, undef, undef, undef, undef, undef, undef, undef, undef, undef, undef, undef, undef, undef, undef, undef, undef, undef, undef, undef, undef, undef, undef, undef, undef, undef, undef, undef, undef, undef, undef, undef, undef, undef, undef, undef, undef, undef, undef, undef, undef], []⟩ Try.func51 (by kernel_rfl) (by kernel_rfl) ?_
  refine sy_sq (part_rmfields 2) (part_rmfields 3) ?_
  refine sy_reg ?_
  refine rg_plain 0 (opsAt (part_rmfields 2)) [0, 1] (by kernel_rfl) (by kernel_rfl) ?_
  obtain ⟨V1, eV1, gm, egm, h2, kV1⟩ := alloc_step w ((Msg.c m)) 35
  have n3 : w.heap.size ≤ gm := egm ▸ K0.size
  refine ps_r (o_rmfields 2 0) (pT gm 0) (w' := V1) (by rw [← eV1, ← egm]; exact exec_box 35 (.tmp 0) (by kernel_rfl) (.agg (Msg.c m)) (by kernel_rfl)) ?_
  clear eV1
  have K4 := K0.nn kV1
  have z5 := kV1.size
  refine ps_k (o_rmfields 2 1) (.slice none 0 0) ?_
  refine ps_end ?_
  refine then_n ?_
  refine sy_sq (part_rmfields 6) (part_rmfields 7) ?_
  refine sy_reg ?_
  refine rg_plain 1 (opsAt (part_rmfields 6)) [0, 1, 2, 3, 4, 5, 6, 7] (by kernel_rfl) (by kernel_rfl) ?_
  refine ps_k (o_rmfields 6 0) (pT gm 12) ?_
  refine ps_p (o_rmfields 6 1) (.agg (Att.c m.a)) (exec_load_seg 31 (.tmp 12) (by kernel_rfl) gm 12 (by kernel_rfl) (Att.c m.a).toList _ _ _ h2 (Msg.seg_A hr) Try.underlying31 rfl (by rw [Att.tl hr.a]; kernel_rfl)) ?_
  refine ps_c (o_rmfields 6 2) 74 #[.agg (Att.c m.a)] Try.func74 ((rvBytes_tb m.a _ hok.a).mono ?_)
  rintro e V6 ⟨Xa, rfl, hXa, hnXa, kV6⟩
  have hlXa : ∀ j, Xa.ownBlock = some j → j < V6.heap.size := fun j hj => hXa.lt hj
  have hwXa : NewFrom w.heap.size Xa := fun j hj => by have := hnXa j hj; omega
  refine ⟨_, rfl, ?_⟩
  have h7 := kV6.bk h2
  have K8 := K4.nn kV6
  have z9 := kV6.size
  refine ps_k (o_rmfields 6 3) (.tuple #[Xa, .int .i64 m.a.err]) ?_
  refine ps_k (o_rmfields 6 4) (Xa) ?_
  refine ps_k (o_rmfields 6 5) (.int .i64 m.a.err) ?_
  refine ps_k (o_rmfields 6 6) (Xa) ?_
  refine ps_k (o_rmfields 6 7) (.int .i64 m.a.err) ?_
  refine ps_end ?_
  refine then_n ?_
  refine sy_sq (part_rmfields 14) (part_rmfields 15) ?_
  refine sy_reg ?_
  refine rg_plain 2 (opsAt (part_rmfields 14)) [0, 1, 2, 3, 4, 5, 6, 7] (by kernel_rfl) (by kernel_rfl) ?_
  refine ps_k (o_rmfields 14 0) (pT gm 48) ?_
  refine ps_p (o_rmfields 14 1) (.agg (Att.c m.b)) (exec_load_seg 31 (.tmp 18) (by kernel_rfl) gm 48 (by kernel_rfl) (Att.c m.b).toList _ _ _ h7 (Msg.seg_B hr) Try.underlying31 rfl (by rw [Att.tl hr.b]; kernel_rfl)) ?_
  refine ps_c (o_rmfields 14 2) 74 #[.agg (Att.c m.b)] Try.func74 ((rvBytes_tb m.b _ hok.b).mono ?_)
  rintro e V10 ⟨Xb, rfl, hXb, hnXb, kV10⟩
  have hlXb : ∀ j, Xb.ownBlock = some j → j < V10.heap.size := fun j hj => hXb.lt hj
  have hwXb : NewFrom w.heap.size Xb := fun j hj => by have := hnXb j hj; omega
  refine ⟨_, rfl, ?_⟩
  have h11 := kV10.bk h7
  have K12 := K8.nn kV10
  have z13 := kV10.size
  refine ps_k (o_rmfields 14 3) (.tuple #[Xb, .int .i64 m.b.err]) ?_
  refine ps_k (o_rmfields 14 4) (Xb) ?_
  refine ps_k (o_rmfields 14 5) (.int .i64 m.b.err) ?_
  refine ps_k (o_rmfields 14 6) (Xb) ?_
  refine ps_k (o_rmfields 14 7) (.int .i64 m.b.err) ?_
  refine ps_end ?_
  refine then_n ?_
  refine sy_sq (part_rmfields 30) (part_rmfields 31) ?_
  refine sy_reg ?_
  refine rg_plain 3 (opsAt (part_rmfields 30)) [0, 1, 2, 3, 4, 5, 6, 7] (by kernel_rfl) (by kernel_rfl) ?_
  refine ps_k (o_rmfields 30 0) (pT gm 84) ?_
  refine ps_p (o_rmfields 30 1) (.agg (Pro.c m.p)) (exec_load_seg 33 (.tmp 24) (by kernel_rfl) gm 84 (by kernel_rfl) (Pro.c m.p).toList _ _ _ h11 (Msg.seg_P hr) Try.underlying33 rfl (by rw [Pro.tl hr.p]; kernel_rfl)) ?_
  refine ps_c (o_rmfields 30 2) 75 #[.agg (Pro.c m.p)] Try.func75 ((rvBytesBlock_tb m.p _ hok.p).mono ?_)
  rintro e V14 ⟨Xp, rfl, hXp, hnXp, kV14⟩
  have hlXp : ∀ j, Xp.ownBlock = some j → j < V14.heap.size := fun j hj => hXp.lt hj
  have hwXp : NewFrom w.heap.size Xp := fun j hj => by have := hnXp j hj; omega
  refine ⟨_, rfl, ?_⟩
  have h15 := kV14.bk h11
  have K16 := K12.nn kV14
  have z17 := kV14.size
  refine ps_k (o_rmfields 30 3) (.tuple #[Xp, .int .i64 m.p.err]) ?_
  refine ps_k (o_rmfields 30 4) (Xp) ?_
  refine ps_k (o_rmfields 30 5) (.int .i64 m.p.err) ?_
  refine ps_k (o_rmfields 30 6) (Xp) ?_
  refine ps_k (o_rmfields 30 7) (.int .i64 m.p.err) ?_
  refine ps_end ?_
  refine sy_a ⟨#[.agg (Msg.c m), pT gm 0, .slice none 0 0, Xa, .int .i64 m.a.err, Xb, .int .i64 m.b.err, Xp, .int .i64 m.p.err, undef, undef, .tuple #[Xa, .int .i64 m.a.err], pT gm 12, .agg (Att.c m.a), .tuple #[Xa, .int .i64 m.a.err], Xa, .int .i64 m.a.err, .tuple #[Xb, .int .i64 m.b.err], pT gm 48, .agg (Att.c m.b), .tuple #[Xb, .int .i64 m.b.err], Xb, .int .i64 m.b.err, .tuple #[Xp, .int .i64 m.p.err], pT gm 84, .agg (Pro.c m.p), .tuple #[Xp, .int .i64 m.p.err], Xp, .int .i64 m.p.err, undef, undef, undef, undef, undef, undef, undef, undef, undef, undef, undef, undef, undef, undef, undef, undef, undef, undef, undef, undef, undef, undef, undef, undef, undef, undef, undef, undef, undef, undef, undef, undef, undef, undef, undef, undef, undef, undef, undef, undef, undef, undef, undef, undef, undef, undef, undef, undef, undef, undef, undef, undef, undef, undef, undef, undef, undef, undef, undef, undef, undef, undef, undef, undef, undef, undef, undef, undef, undef, undef, undef, undef, undef, undef, undef, undef, undef, undef, undef, undef, undef, undef, undef, undef, undef, undef, undef, undef, undef, undef, undef, undef, undef], []⟩ ?_
  refine then_n ?_
  refine sy_sq (part_rmfields 62) (part_rmfields 63) ?_
  refine sy_reg ?_
  refine rg_plain 4 (opsAt (part_rmfields 62)) [0, 1, 2, 3, 4, 5, 6, 7] (by kernel_rfl) (by kernel_rfl) ?_
  refine ps_k (o_rmfields 62 0) (pT gm 119) ?_
  refine ps_p (o_rmfields 62 1) (.agg (Pro.c m.q)) (exec_load_seg 33 (.tmp 30) (by kernel_rfl) gm 119 (by kernel_rfl) (Pro.c m.q).toList _ _ _ h15 (Msg.seg_Q hr) Try.underlying33 rfl (by rw [Pro.tl hr.q]; kernel_rfl)) ?_
  refine ps_c (o_rmfields 62 2) 75 #[.agg (Pro.c m.q)] Try.func75 ((rvBytesBlock_tb m.q _ hok.q).mono ?_)
  rintro e V18 ⟨Xq, rfl, hXq, hnXq, kV18⟩
  have hlXq : ∀ j, Xq.ownBlock = some j → j < V18.heap.size := fun j hj => hXq.lt hj
  have hwXq : NewFrom w.heap.size Xq := fun j hj => by have := hnXq j hj; omega
  obtain ⟨zz, hzz⟩ : ∃ z, V18.heap.size = z := ⟨_, rfl⟩
  have hgz : gm < zz := by have := lt_of_block h15; have := kV18.size; omega
  refine ⟨_, rfl, ?_⟩
  have h19 := kV18.bk h15
  have h20 : Row V18 5 1 Xp (m.p.tb).length (B (m.p.tb)) := hXp.keeps kV18 (fun _ _ x => x)
  have K21 := K16.nn kV18
  have z22 := kV18.size
  refine ps_k (o_rmfields 62 3) (.tuple #[Xq, .int .i64 m.q.err]) ?_
  refine ps_k (o_rmfields 62 4) (Xq) ?_
  refine ps_k (o_rmfields 62 5) (.int .i64 m.q.err) ?_
  refine ps_k (o_rmfields 62 6) (Xq) ?_
  refine ps_k (o_rmfields 62 7) (.int .i64 m.q.err) ?_
  refine ps_end ?_
  refine then_n ?_
  refine sy_sq (part_rmfields 126) (part_rmfields 127) ?_
  refine sy_sq (part_rmfields 252) (part_rmfields 253) ?_
  refine sy_reg ?_
  refine rg_plain 5 (opsAt (part_rmfields 252)) [0, 1] (by kernel_rfl) (by kernel_rfl) ?_
  refine ps_k (o_rmfields 252 0) (pT gm 0) ?_
  refine ps_p (o_rmfields 252 1) (.int .i64 m.k) (exec_ld 3 (.tmp 35) gm 0 Try.underlying3 (rc (h19) (Msg.get_n hr NF.k))) ?_
  refine ps_end ?_
  refine then_n ?_
  refine sy_bk 0 (part_rmfields 506) ?_
  refine sy_sq (part_rmfields 1012) (part_rmfields 1013) ?_
  refine sy_reg ?_
  refine rg_plain 6 (opsAt (part_rmfields 1012)) [0, 1] (by kernel_rfl) (by kernel_rfl) ?_
  refine ps_p (o_rmfields 1012 0) (.bool false) (eqf ((m.k) : Int) ((1) : Int) (by omega)) ?_
  refine ps_k (o_rmfields 1012 1) (.bool false) ?_
  refine ps_end ?_
  refine then_n ?_
  refine sy_n (.tmp 37) (part_rmfields 2026) (part_rmfields 2027) ?_
  refine sy_sq (part_rmfields 4054) (part_rmfields 4055) ?_
  refine sy_reg ?_
  refine rg_plain 8 (opsAt (part_rmfields 4054)) [0, 1] (by kernel_rfl) (by kernel_rfl) ?_
  refine ps_p (o_rmfields 4054 0) (.bool false) (eqf ((m.k) : Int) ((2) : Int) (by omega)) ?_
  refine ps_k (o_rmfields 4054 1) (.bool false) ?_
  refine ps_end ?_
  refine then_n ?_
  refine sy_n (.tmp 46) (part_rmfields 8110) (part_rmfields 8111) ?_
  refine sy_sq (part_rmfields 16222) (part_rmfields 16223) ?_
  refine sy_reg ?_
  refine rg_plain 10 (opsAt (part_rmfields 16222)) [0, 1] (by kernel_rfl) (by kernel_rfl) ?_
  refine ps_p (o_rmfields 16222 0) (.bool false) (eqf ((m.k) : Int) ((3) : Int) (by omega)) ?_
  refine ps_k (o_rmfields 16222 1) (.bool false) ?_
  refine ps_end ?_
  refine then_n ?_
  refine sy_n (.tmp 54) (part_rmfields 32446) (part_rmfields 32447) ?_
  refine sy_sq (part_rmfields 64894) (part_rmfields 64895) ?_
  refine sy_reg ?_
  refine rg_plain 12 (opsAt (part_rmfields 64894)) [0, 1] (by kernel_rfl) (by kernel_rfl) ?_
  refine ps_p (o_rmfields 64894 0) (.bool false) (eqf ((m.k) : Int) ((4) : Int) (by omega)) ?_
  refine ps_k (o_rmfields 64894 1) (.bool false) ?_
  refine ps_end ?_
  refine then_n ?_
  refine sy_n (.tmp 63) (part_rmfields 129790) (part_rmfields 129791) ?_
  refine sy_sq (part_rmfields 259582) (part_rmfields 259583) ?_
  refine sy_reg ?_
  refine rg_plain 14 (opsAt (part_rmfields 259582)) [0, 1] (by kernel_rfl) (by kernel_rfl) ?_
  refine ps_p (o_rmfields 259582 0) (.bool false) (eqf ((m.k) : Int) ((5) : Int) (by omega)) ?_
  refine ps_k (o_rmfields 259582 1) (.bool false) ?_
  refine ps_end ?_
  refine then_n ?_
  refine sy_n (.tmp 73) (part_rmfields 519166) (part_rmfields 519167) ?_
  refine sy_sq (part_rmfields 1038334) (part_rmfields 1038335) ?_
  refine sy_reg ?_
  refine rg_plain 16 (opsAt (part_rmfields 1038334)) [0, 1] (by kernel_rfl) (by kernel_rfl) ?_
  refine ps_p (o_rmfields 1038334 0) (.bool false) (eqf ((m.k) : Int) ((6) : Int) (by omega)) ?_
  refine ps_k (o_rmfields 1038334 1) (.bool false) ?_
  refine ps_end ?_
  refine then_n ?_
  refine sy_n (.tmp 86) (part_rmfields 2076670) (part_rmfields 2076671) ?_
  refine sy_sq (part_rmfields 4153342) (part_rmfields 4153343) ?_
  refine sy_reg ?_
  refine rg_plain 18 (opsAt (part_rmfields 4153342)) [0, 1] (by kernel_rfl) (by kernel_rfl) ?_
  refine ps_p (o_rmfields 4153342 0) (.bool true) (eqt ((m.k) : Int) ((7) : Int) (by omega)) ?_
  refine ps_k (o_rmfields 4153342 1) (.bool true) ?_
  refine ps_end ?_
  refine sy_a ⟨#[.agg (Msg.c m), pT gm 0, .slice none 0 0, Xa, .int .i64 m.a.err, Xb, .int .i64 m.b.err, Xp, .int .i64 m.p.err, Xq, .int .i64 m.q.err, .tuple #[Xa, .int .i64 m.a.err], pT gm 12, .agg (Att.c m.a), .tuple #[Xa, .int .i64 m.a.err], Xa, .int .i64 m.a.err, .tuple #[Xb, .int .i64 m.b.err], pT gm 48, .agg (Att.c m.b), .tuple #[Xb, .int .i64 m.b.err], Xb, .int .i64 m.b.err, .tuple #[Xp, .int .i64 m.p.err], pT gm 84, .agg (Pro.c m.p), .tuple #[Xp, .int .i64 m.p.err], Xp, .int .i64 m.p.err, .tuple #[Xq, .int .i64 m.q.err], pT gm 119, .agg (Pro.c m.q), .tuple #[Xq, .int .i64 m.q.err], Xq, .int .i64 m.q.err, pT gm 0, .int .i64 m.k, .bool false, .bool false, undef, undef, undef, undef, undef, undef, undef, .bool false, .bool false, undef, undef, undef, undef, undef, undef, .bool false, .bool false, undef, undef, undef, undef, undef, undef, undef, .bool false, .bool false, undef, undef, undef, undef, undef, undef, undef, undef, .bool false, .bool false, undef, undef, undef, undef, undef, undef, undef, undef, undef, undef, undef, .bool false, .bool false, undef, .bool true, .bool true, undef, undef, undef, undef, undef, undef, undef, undef, undef, undef, undef, undef, undef, undef, undef, undef, undef, undef, undef, undef, undef, undef, undef, undef, undef, undef, undef, undef, undef, undef, undef], []⟩ ?_
  refine then_n ?_
  refine sy_ys (.tmp 89) (part_rmfields 8306686) (part_rmfields 8306687) ?_
  refine sy_sq (part_rmfields 16613372) (part_rmfields 16613373) ?_
  refine sy_reg ?_
  refine rg_plain 19 (opsAt (part_rmfields 16613372)) [0, 1] (by kernel_rfl) (by kernel_rfl) ?_
  refine ps_k (o_rmfields 16613372 0) (Xp) ?_
  refine ps_k (o_rmfields 16613372 1) (Xp) ?_
  refine ps_end ?_
  refine then_n ?_
  refine sy_ret (by kernel_rfl) ?_
  refine blk_r ?_
  refine then_r ?_
  refine sy_out (Xp) rfl (by kernel_rfl) ?_
  exact ⟨Xp, rfl, h20, hwXp, K21⟩
set_option maxRecDepth 100000 in
set_option maxHeartbeats 4000000 in
theorem rmfields_8t (m : Msg) (w : World) (hok : m.Ok) (hk : m.k = 8) (hp : 1 ≤ m.pf ∧ m.pf ≤ 3) (hx3 : m.pf = 3) :
    Calls Try.prog 51 #[.agg (Msg.c m)] w (fun e w' => ∃ X, e = .returned X ∧ Row w' 5 1 X (encs [m.pf.toNat] ++ m.p.tb ++ m.q.tb).length (B (encs [m.pf.toNat] ++ m.p.tb ++ m.q.tb)) ∧ NewFrom w.heap.size X ∧ Keeps Nob w w') := by
  obtain ⟨i0, hi0, hz0, hz1, hz2⟩ := info_parts u8_info0
  have hr := hok.R
  have la := Att.tb_len hr.a
  have lb := Att.tb_len hr.b
  have lp := Pro.tb_len hr.p
  have lq := Pro.tb_len hr.q
  have le1 := encs_len [m.pf.toNat]
  simp only [List.length_cons, List.length_nil] at le1
  have hla : (encs [m.pf.toNat] ++ m.p.tb).length = (encs [m.pf.toNat]).length + m.p.tb.length := List.length_append
  have K0 : Keeps Nob w w := Keeps.refl _ _
  refine sy_enter (part_rmfields 1) ⟨#[.agg (Msg.c m), undef, undef, undef, undef, undef, undef, undef, undef, undef, undef, undef, undef, undef, undef, undef, undef, undef, undef, undef, undef, undef, undef, undef, undef, undef, undef, undef, undef, undef, undef, undef, undef, undef, undef, undef, undef, undef, undef, undef, undef, undef, undef, undef, undef, undef, undef, undef, undef, undef, undef, undef, undef, undef, undef, undef, undef, undef, undef, undef, undef, undef, undef, undef, undef, undef, undef, undef, undef, undef, undef, undef, undef, undef, undef, undef, undef, undef, undef, undef, undef, undef, undef, undef, undef, undef, undef, undef, undef, undef, undef, undef, undef, undef, undef, undef, undef, undef, undef, undef, undef, undef, undef, undef, undef, undef, undef, undef, undef, undef, undef, undef, undef, undef, undef, undef, undef, undef, undef, undef, undef, undef], []⟩ Try.func51 (by kernel_rfl) (by kernel_rfl) ?_
  refine sy_sq (part_rmfields 2) (part_rmfields 3) ?_
  refine sy_reg ?_
  refine rg_plain 0 (opsAt (part_rmfields 2)) [0, 1] (by kernel_rfl) (by kernel_rfl) ?_
  obtain ⟨V1, eV1, gm, egm, h2, kV1⟩ := alloc_step w ((Msg.c m)) 35
  have n3 : w.heap.size ≤ gm := egm ▸ K0.size
  refine ps_r (o_rmfields 2 0) (pT gm 0) (w' := V1) (by rw [← eV1, ← egm]; exact exec_box 35 (.tmp 0) (by kernel_rfl) (.agg (Msg.c m)) (by kernel_rfl)) ?_
  clear eV1
  have K4 := K0.nn kV1
  have z5 := kV1.size
  refine ps_k (o_rmfields 2 1) (.slice none 0 0) ?_
  refine ps_end ?_
  refine then_n ?_
  refine sy_sq (part_rmfields 6) (part_rmfields 7) ?_
  refine sy_reg ?_
  refine rg_plain 1 (opsAt (part_rmfields 6)) [0, 1, 2, 3, 4, 5, 6, 7] (by kernel_rfl) (by kernel_rfl) ?_
  refine ps_k (o_rmfields 6 0) (pT gm 12) ?_
  refine ps_p (o_rmfields 6 1) (.agg (Att.c m.a)) (exec_load_seg 31 (.tmp 12) (by kernel_rfl) gm 12 (by kernel_rfl) (Att.c m.a).toList _ _ _ h2 (Msg.seg_A hr) Try.underlying31 rfl (by rw [Att.tl hr.a]; kernel_rfl)) ?_
  refine ps_c (o_rmfields 6 2) 74 #[.agg (Att.c m.a)] Try.func74 ((rvBytes_tb m.a _ hok.a).mono ?_)
  rintro e V6 ⟨Xa, rfl, hXa, hnXa, kV6⟩
  have hlXa : ∀ j, Xa.ownBlock = some j → j < V6.heap.size := fun j hj => hXa.lt hj
  have hwXa : NewFrom w.heap.size Xa := fun j hj => by have := hnXa j hj; omega
  refine ⟨_, rfl, ?_⟩
  have h7 := kV6.bk h2
  have K8 := K4.nn kV6
  have z9 := kV6.size
  refine ps_k (o_rmfields 6 3) (.tuple #[Xa, .int .i64 m.a.err]) ?_
  refine ps_k (o_rmfields 6 4) (Xa) ?_
  refine ps_k (o_rmfields 6 5) (.int .i64 m.a.err) ?_
  refine ps_k (o_rmfields 6 6) (Xa) ?_
  refine ps_k (o_rmfields 6 7) (.int .i64 m.a.err) ?_
  refine ps_end ?_
  refine then_n ?_
  refine sy_sq (part_rmfields 14) (part_rmfields 15) ?_
  refine sy_reg ?_
  refine rg_plain 2 (opsAt (part_rmfields 14)) [0, 1, 2, 3, 4, 5, 6, 7] (by kernel_rfl) (by kernel_rfl) ?_
  refine ps_k (o_rmfields 14 0) (pT gm 48) ?_
  refine ps_p (o_rmfields 14 1) (.agg (Att.c m.b)) (exec_load_seg 31 (.tmp 18) (by kernel_rfl) gm 48 (by kernel_rfl) (Att.c m.b).toList _ _ _ h7 (Msg.seg_B hr) Try.underlying31 rfl (by rw [Att.tl hr.b]; kernel_rfl)) ?_
  refine ps_c (o_rmfields 14 2) 74 #[.agg (Att.c m.b)] Try.func74 ((rvBytes_tb m.b _ hok.b).mono ?_)
  rintro e V10 ⟨Xb, rfl, hXb, hnXb, kV10⟩
  have hlXb : ∀ j, Xb.ownBlock = some j → j < V10.heap.size := fun j hj => hXb.lt hj
  have hwXb : NewFrom w.heap.size Xb := fun j hj => by have := hnXb j hj; omega
  refine ⟨_, rfl, ?_⟩
  have h11 := kV10.bk h7
  have K12 := K8.nn kV10
  have z13 := kV10.size
  refine ps_k (o_rmfields 14 3) (.tuple #[Xb, .int .i64 m.b.err]) ?_
  refine ps_k (o_rmfields 14 4) (Xb) ?_
  refine ps_k (o_rmfields 14 5) (.int .i64 m.b.err) ?_
  refine ps_k (o_rmfields 14 6) (Xb) ?_
  refine ps_k (o_rmfields 14 7) (.int .i64 m.b.err) ?_
  refine ps_end ?_
  refine then_n ?_
  refine sy_sq (part_rmfields 30) (part_rmfields 31) ?_
  refine sy_reg ?_
  refine rg_plain 3 (opsAt (part_rmfields 30)) [0, 1, 2, 3, 4, 5, 6, 7] (by kernel_rfl) (by kernel_rfl) ?_
  refine ps_k (o_rmfields 30 0) (pT gm 84) ?_
  refine ps_p (o_rmfields 30 1) (.agg (Pro.c m.p)) (exec_load_seg 33 (.tmp 24) (by kernel_rfl) gm 84 (by kernel_rfl) (Pro.c m.p).toList _ _ _ h11 (Msg.seg_P hr) Try.underlying33 rfl (by rw [Pro.tl hr.p]; kernel_rfl)) ?_
  refine ps_c (o_rmfields 30 2) 75 #[.agg (Pro.c m.p)] Try.func75 ((rvBytesBlock_tb m.p _ hok.p).mono ?_)
  rintro e V14 ⟨Xp, rfl, hXp, hnXp, kV14⟩
  have hlXp : ∀ j, Xp.ownBlock = some j → j < V14.heap.size := fun j hj => hXp.lt hj
  have hwXp : NewFrom w.heap.size Xp := fun j hj => by have := hnXp j hj; omega
  refine ⟨_, rfl, ?_⟩
  have h15 := kV14.bk h11
  have K16 := K12.nn kV14
  have z17 := kV14.size
  refine ps_k (o_rmfields 30 3) (.tuple #[Xp, .int .i64 m.p.err]) ?_
  refine ps_k (o_rmfields 30 4) (Xp) ?_
  refine ps_k (o_rmfields 30 5) (.int .i64 m.p.err) ?_
  refine ps_k (o_rmfields 30 6) (Xp) ?_
  refine ps_k (o_rmfields 30 7) (.int .i64 m.p.err) ?_
  refine ps_end ?_
  refine sy_a ⟨#[.agg (Msg.c m), pT gm 0, .slice none 0 0, Xa, .int .i64 m.a.err, Xb, .int .i64 m.b.err, Xp, .int .i64 m.p.err, undef, undef, .tuple #[Xa, .int .i64 m.a.err], pT gm 12, .agg (Att.c m.a), .tuple #[Xa, .int .i64 m.a.err], Xa, .int .i64 m.a.err, .tuple #[Xb, .int .i64 m.b.err], pT gm 48, .agg (Att.c m.b), .tuple #[Xb, .int .i64 m.b.err], Xb, .int .i64 m.b.err, .tuple #[Xp, .int .i64 m.p.err], pT gm 84, .agg (Pro.c m.p), .tuple #[Xp, .int .i64 m.p.err], Xp, .int .i64 m.p.err, undef, undef, undef, undef, undef, undef, undef, undef, undef, undef, undef, undef, undef, undef, undef, undef, undef, undef, undef, undef, undef, undef, undef, undef, undef, undef, undef, undef, undef, undef, undef, undef, undef, undef, undef, undef, undef, undef, undef, undef, undef, undef, undef, undef, undef, undef, undef, undef, undef, undef, undef, undef, undef, undef, undef, undef, undef, undef, undef, undef, undef, undef, undef, undef, undef, undef, undef, undef, undef, undef, undef, undef, undef, undef, undef, undef, undef, undef, undef, undef, undef, undef, undef, undef, undef, undef, undef, undef, undef, undef, undef, undef, undef], []⟩ ?_
  refine then_n ?_
  refine sy_sq (part_rmfields 62) (part_rmfields 63) ?_
  refine sy_reg ?_
  refine rg_plain 4 (opsAt (part_rmfields 62)) [0, 1, 2, 3, 4, 5, 6, 7] (by kernel_rfl) (by kernel_rfl) ?_
  refine ps_k (o_rmfields 62 0) (pT gm 119) ?_
  refine ps_p (o_rmfields 62 1) (.agg (Pro.c m.q)) (exec_load_seg 33 (.tmp 30) (by kernel_rfl) gm 119 (by kernel_rfl) (Pro.c m.q).toList _ _ _ h15 (Msg.seg_Q hr) Try.underlying33 rfl (by rw [Pro.tl hr.q]; kernel_rfl)) ?_
  refine ps_c (o_rmfields 62 2) 75 #[.agg (Pro.c m.q)] Try.func75 ((rvBytesBlock_tb m.q _ hok.q).mono ?_)
  rintro e V18 ⟨Xq, rfl, hXq, hnXq, kV18⟩
  have hlXq : ∀ j, Xq.ownBlock = some j → j < V18.heap.size := fun j hj => hXq.lt hj
  have hwXq : NewFrom w.heap.size Xq := fun j hj => by have := hnXq j hj; omega
  obtain ⟨zz, hzz⟩ : ∃ z, V18.heap.size = z := ⟨_, rfl⟩
  have hgz : gm < zz := by have := lt_of_block h15; have := kV18.size; omega
  refine ⟨_, rfl, ?_⟩
  have h19 := kV18.bk h15
  have h20 : Row V18 5 1 Xp (m.p.tb).length (B (m.p.tb)) := hXp.keeps kV18 (fun _ _ x => x)
  have K21 := K16.nn kV18
  have z22 := kV18.size
  refine ps_k (o_rmfields 62 3) (.tuple #[Xq, .int .i64 m.q.err]) ?_
  refine ps_k (o_rmfields 62 4) (Xq) ?_
  refine ps_k (o_rmfields 62 5) (.int .i64 m.q.err) ?_
  refine ps_k (o_rmfields 62 6) (Xq) ?_
  refine ps_k (o_rmfields 62 7) (.int .i64 m.q.err) ?_
  refine ps_end ?_
  refine then_n ?_
  refine sy_sq (part_rmfields 126) (part_rmfields 127) ?_
  refine sy_sq (part_rmfields 252) (part_rmfields 253) ?_
  refine sy_reg ?_
  refine rg_plain 5 (opsAt (part_rmfields 252)) [0, 1] (by kernel_rfl) (by kernel_rfl) ?_
  refine ps_k (o_rmfields 252 0) (pT gm 0) ?_
  refine ps_p (o_rmfields 252 1) (.int .i64 m.k) (exec_ld 3 (.tmp 35) gm 0 Try.underlying3 (rc (h19) (Msg.get_n hr NF.k))) ?_
  refine ps_end ?_
  refine then_n ?_
  refine sy_bk 0 (part_rmfields 506) ?_
  refine sy_sq (part_rmfields 1012) (part_rmfields 1013) ?_
  refine sy_reg ?_
  refine rg_plain 6 (opsAt (part_rmfields 1012)) [0, 1] (by kernel_rfl) (by kernel_rfl) ?_
  refine ps_p (o_rmfields 1012 0) (.bool false) (eqf ((m.k) : Int) ((1) : Int) (by omega)) ?_
  refine ps_k (o_rmfields 1012 1) (.bool false) ?_
  refine ps_end ?_
  refine then_n ?_
  refine sy_n (.tmp 37) (part_rmfields 2026) (part_rmfields 2027) ?_
  refine sy_sq (part_rmfields 4054) (part_rmfields 4055) ?_
  refine sy_reg ?_
  refine rg_plain 8 (opsAt (part_rmfields 4054)) [0, 1] (by kernel_rfl) (by kernel_rfl) ?_
  refine ps_p (o_rmfields 4054 0) (.bool false) (eqf ((m.k) : Int) ((2) : Int) (by omega)) ?_
  refine ps_k (o_rmfields 4054 1) (.bool false) ?_
  refine ps_end ?_
  refine then_n ?_
  refine sy_n (.tmp 46) (part_rmfields 8110) (part_rmfields 8111) ?_
  refine sy_sq (part_rmfields 16222) (part_rmfields 16223) ?_
  refine sy_reg ?_
  refine rg_plain 10 (opsAt (part_rmfields 16222)) [0, 1] (by kernel_rfl) (by kernel_rfl) ?_
  refine ps_p (o_rmfields 16222 0) (.bool false) (eqf ((m.k) : Int) ((3) : Int) (by omega)) ?_
  refine ps_k (o_rmfields 16222 1) (.bool false) ?_
  refine ps_end ?_
  refine then_n ?_
  refine sy_n (.tmp 54) (part_rmfields 32446) (part_rmfields 32447) ?_
  refine sy_sq (part_rmfields 64894) (part_rmfields 64895) ?_
  refine sy_reg ?_
  refine rg_plain 12 (opsAt (part_rmfields 64894)) [0, 1] (by kernel_rfl) (by kernel_rfl) ?_
  refine ps_p (o_rmfields 64894 0) (.bool false) (eqf ((m.k) : Int) ((4) : Int) (by omega)) ?_
  refine ps_k (o_rmfields 64894 1) (.bool false) ?_
  refine ps_end ?_
  refine then_n ?_
  refine sy_n (.tmp 63) (part_rmfields 129790) (part_rmfields 129791) ?_
  refine sy_sq (part_rmfields 259582) (part_rmfields 259583) ?_
  refine sy_reg ?_
  refine rg_plain 14 (opsAt (part_rmfields 259582)) [0, 1] (by kernel_rfl) (by kernel_rfl) ?_
  refine ps_p (o_rmfields 259582 0) (.bool false) (eqf ((m.k) : Int) ((5) : Int) (by omega)) ?_
  refine ps_k (o_rmfields 259582 1) (.bool false) ?_
  refine ps_end ?_
  refine then_n ?_
  refine sy_n (.tmp 73) (part_rmfields 519166) (part_rmfields 519167) ?_
  refine sy_sq (part_rmfields 1038334) (part_rmfields 1038335) ?_
  refine sy_reg ?_
  refine rg_plain 16 (opsAt (part_rmfields 1038334)) [0, 1] (by kernel_rfl) (by kernel_rfl) ?_
  refine ps_p (o_rmfields 1038334 0) (.bool false) (eqf ((m.k) : Int) ((6) : Int) (by omega)) ?_
  refine ps_k (o_rmfields 1038334 1) (.bool false) ?_
  refine ps_end ?_
  refine then_n ?_
  refine sy_n (.tmp 86) (part_rmfields 2076670) (part_rmfields 2076671) ?_
  refine sy_sq (part_rmfields 4153342) (part_rmfields 4153343) ?_
  refine sy_reg ?_
  refine rg_plain 18 (opsAt (part_rmfields 4153342)) [0, 1] (by kernel_rfl) (by kernel_rfl) ?_
  refine ps_p (o_rmfields 4153342 0) (.bool false) (eqf ((m.k) : Int) ((7) : Int) (by omega)) ?_
  refine ps_k (o_rmfields 4153342 1) (.bool false) ?_
  refine ps_end ?_
  refine sy_a ⟨#[.agg (Msg.c m), pT gm 0, .slice none 0 0, Xa, .int .i64 m.a.err, Xb, .int .i64 m.b.err, Xp, .int .i64 m.p.err, Xq, .int .i64 m.q.err, .tuple #[Xa, .int .i64 m.a.err], pT gm 12, .agg (Att.c m.a), .tuple #[Xa, .int .i64 m.a.err], Xa, .int .i64 m.a.err, .tuple #[Xb, .int .i64 m.b.err], pT gm 48, .agg (Att.c m.b), .tuple #[Xb, .int .i64 m.b.err], Xb, .int .i64 m.b.err, .tuple #[Xp, .int .i64 m.p.err], pT gm 84, .agg (Pro.c m.p), .tuple #[Xp, .int .i64 m.p.err], Xp, .int .i64 m.p.err, .tuple #[Xq, .int .i64 m.q.err], pT gm 119, .agg (Pro.c m.q), .tuple #[Xq, .int .i64 m.q.err], Xq, .int .i64 m.q.err, pT gm 0, .int .i64 m.k, .bool false, .bool false, undef, undef, undef, undef, undef, undef, undef, .bool false, .bool false, undef, undef, undef, undef, undef, undef, .bool false, .bool false, undef, undef, undef, undef, undef, undef, undef, .bool false, .bool false, undef, undef, undef, undef, undef, undef, undef, undef, .bool false, .bool false, undef, undef, undef, undef, undef, undef, undef, undef, undef, undef, undef, .bool false, .bool false, undef, .bool false, .bool false, undef, undef, undef, undef, undef, undef, undef, undef, undef, undef, undef, undef, undef, undef, undef, undef, undef, undef, undef, undef, undef, undef, undef, undef, undef, undef, undef, undef, undef, undef, undef], []⟩ ?_
  refine then_n ?_
  refine sy_n (.tmp 89) (part_rmfields 8306686) (part_rmfields 8306687) ?_
  refine sy_sq (part_rmfields 16613374) (part_rmfields 16613375) ?_
  refine sy_reg ?_
  refine rg_plain 20 (opsAt (part_rmfields 16613374)) [0, 1] (by kernel_rfl) (by kernel_rfl) ?_
  refine ps_p (o_rmfields 16613374 0) (.bool true) (eqt ((m.k) : Int) ((8) : Int) (by omega)) ?_
  refine ps_k (o_rmfields 16613374 1) (.bool true) ?_
  refine ps_end ?_
  refine then_n ?_
  refine sy_ys (.tmp 92) (part_rmfields 33226750) (part_rmfields 33226751) ?_
  refine sy_sq (part_rmfields 66453500) (part_rmfields 66453501) ?_
  refine sy_sq (part_rmfields 132907000) (part_rmfields 132907001) ?_
  refine sy_reg ?_
  refine rg_plain 21 (opsAt (part_rmfields 132907000)) [0, 1, 2] (by kernel_rfl) (by kernel_rfl) ?_
  refine ps_k (o_rmfields 132907000 0) (pT gm 11) ?_
  refine ps_p (o_rmfields 132907000 1) (.int .i64 m.pf) (exec_ld 3 (.tmp 94) gm 11 Try.underlying3 (rc (h19) (Msg.get_n hr NF.pf))) ?_
  refine ps_p (o_rmfields 132907000 2) (.bool true) (eqt ((m.pf) : Int) ((3) : Int) (by omega)) ?_
  refine ps_end ?_
  refine then_n ?_
  refine sy_ys (.tmp 96) (part_rmfields 265814002) (part_rmfields 265814003) ?_
  refine sy_sq (part_rmfields 531628004) (part_rmfields 531628005) ?_
  refine sy_reg ?_
  refine rg_plain 22 (opsAt (part_rmfields 531628004)) [0, 1, 2, 3, 4, 5, 6, 7, 8, 9] (by kernel_rfl) (by kernel_rfl) ?_
  refine ps_k (o_rmfields 531628004 0) (pT gm 11) ?_
  refine ps_p (o_rmfields 531628004 1) (.int .i64 m.pf) (exec_ld 3 (.tmp 97) gm 11 Try.underlying3 (rc (h19) (Msg.get_n hr NF.pf))) ?_
  refine ps_p (o_rmfields 531628004 2) (uN m.pf.toNat) (exec_cast (congrArg (Value.int .u64) (wrapNat (by omega) (by omega))) (by kernel_rfl)) ?_
  obtain ⟨V23, eV23, gl, egl, h24, kV23⟩ := alloc_step V18 (#[.int .u64 ((m.pf.toNat : Nat) : Int)]) 25
  have n25 : gm < gl := egl ▸ lt_of_block h19
  have n26 : w.heap.size ≤ gl := egl ▸ K21.size
  refine ps_r (o_rmfields 531628004 3) (.slice (some ⟨gl, 0, none⟩) 1 1) (w' := V23) (by rw [← eV23, ← egl]; kernel_rfl) ?_
  have h27 := kV23.bk h19
  have h28 : Row V23 5 1 Xp (m.p.tb).length (B (m.p.tb)) := h20.keeps kV23 (fun _ _ x => x)
  have h29 : Row V23 5 1 Xq (m.q.tb).length (B (m.q.tb)) := hXq.keeps kV23 (fun _ _ x => x)
  have K30 := K21.nn kV23
  have z31 := kV23.size
  have zpX33 : w.heap.size ≤ V23.heap.size := K30.size
  refine ps_c (o_rmfields 531628004 4) 50 #[.slice (some ⟨gl, 0, none⟩) 1 1] Try.func50 ((rmput_1 gl m.pf.toNat _ h24 (by omega)).mono ?_)
  rintro e V32 ⟨X33, rfl, hX33, hnX33, kV32⟩
  have hwX33 : NewFrom zz X33 := fun j hj => by have := hnX33 j hj; omega
  refine ⟨_, rfl, ?_⟩
  have h34 := kV32.bk h27
  have h35 : Row V32 5 1 Xp (m.p.tb).length (B (m.p.tb)) := h28.keeps kV32 (fun _ _ x => x)
  have h36 : Row V32 5 1 Xq (m.q.tb).length (B (m.q.tb)) := h29.keeps kV32 (fun _ _ x => x)
  have K37 := K30.nn kV32
  have z38 := kV32.size
  refine ps_k (o_rmfields 531628004 5) (Xp) ?_
  obtain ⟨v39, V40, hr41, h42, hg43, hn44, ha45⟩ := run_append_any (P := Try.prog) (w := V32) 22 (Oper.type (o_rmfields 531628004 6)) 5 i0 (.int .u8 0) 1 1 Try.underlying22 hi0 hz0 hz1 hz2 rfl (by decide) X33 ((encs [m.pf.toNat]).length) (B (encs [m.pf.toNat])) hX33 Xp ((m.p.tb).length) (B (m.p.tb)) (Row.src h35 (B_one _)) (by unfold maxLen; omega) (by omega)
  have kV40 : Keeps (fun j => (X33 : Value).ownBlock = some j) V32 V40 := Keeps.rowAdd hg43
  have hw46 : NewFrom zz v39 := hwX33.next (by omega) ha45
  refine ps_r (o_rmfields 531628004 6) v39 (w' := V40) (exec_append (.tmp 101) (.tmp 102) 22 (by kernel_rfl) X33 Xp (by kernel_rfl) (by kernel_rfl) hr41) ?_
  have h47 : Row V40 5 1 v39 ((encs [m.pf.toNat] ++ m.p.tb).length) (B (encs [m.pf.toNat] ++ m.p.tb)) := row_cast h42 rfl (by simp only [List.length_append])
  have h48 : V40.heap[gm]? = some (.cells (Msg.c m) 35 (0, 0)) := (kV40.block gm (lt_of_block h34) (fun e => by have := hwX33 _ e; omega)).trans h34
  have h49 : Row V40 5 1 Xq (m.q.tb).length (B (m.q.tb)) := h36.keeps kV40 (fun j hj e => by have := hlXq j hj; have := hwX33 j e; omega)
  have K50 : Keeps Nob w V40 := K37.then kV40 (fun i hi hm => absurd hi (by have := hwX33 i hm; omega))
  have z51 := kV40.size
  refine ps_k (o_rmfields 531628004 7) (Xq) ?_
  obtain ⟨v52, V53, hr54, h55, hg56, hn57, ha58⟩ := run_append_any (P := Try.prog) (w := V40) 22 (Oper.type (o_rmfields 531628004 8)) 5 i0 (.int .u8 0) 1 1 Try.underlying22 hi0 hz0 hz1 hz2 rfl (by decide) v39 ((encs [m.pf.toNat] ++ m.p.tb).length) (B (encs [m.pf.toNat] ++ m.p.tb)) h47 Xq ((m.q.tb).length) (B (m.q.tb)) (Row.src h49 (B_one _)) (by unfold maxLen; omega) (by omega)
  have kV53 : Keeps (fun j => v39.ownBlock = some j) V40 V53 := Keeps.rowAdd hg56
  have hw59 : NewFrom zz v52 := hw46.next (by omega) ha58
  refine ps_r (o_rmfields 531628004 8) v52 (w' := V53) (exec_append (.tmp 103) (.tmp 104) 22 (by kernel_rfl) v39 Xq (by kernel_rfl) (by kernel_rfl) hr54) ?_
  have h60 : Row V53 5 1 v52 ((encs [m.pf.toNat] ++ m.p.tb ++ m.q.tb).length) (B (encs [m.pf.toNat] ++ m.p.tb ++ m.q.tb)) := row_cast h55 rfl (by simp only [List.length_append])
  have h61 : V53.heap[gm]? = some (.cells (Msg.c m) 35 (0, 0)) := (kV53.block gm (lt_of_block h48) (fun e => by have := hw46 _ e; omega)).trans h48
  have K62 : Keeps Nob w V53 := K50.then kV53 (fun i hi hm => absurd hi (by have := hw46 i hm; omega))
  have z63 := kV53.size
  refine ps_k (o_rmfields 531628004 9) (v52) ?_
  refine ps_end ?_
  refine then_n ?_
  refine sy_ret (by kernel_rfl) ?_
  refine then_r ?_
  refine blk_r ?_
  refine then_r ?_
  refine sy_out (v52) rfl (by kernel_rfl) ?_
  exact ⟨_, rfl, h60, fun j hj => by have := hw59 j hj; omega, K62⟩
set_option maxRecDepth 100000 in
set_option maxHeartbeats 4000000 in
theorem rmfields_8f (m : Msg) (w : World) (hok : m.Ok) (hk : m.k = 8) (hp : 1 ≤ m.pf ∧ m.pf ≤ 3) (hx3 : ¬ m.pf = 3) :
    Calls Try.prog 51 #[.agg (Msg.c m)] w (fun e w' => ∃ X, e = .returned X ∧ Row w' 5 1 X (encs [m.pf.toNat] ++ m.a.tb ++ m.b.tb).length (B (encs [m.pf.toNat] ++ m.a.tb ++ m.b.tb)) ∧ NewFrom w.heap.size X ∧ Keeps Nob w w') := by
  obtain ⟨i0, hi0, hz0, hz1, hz2⟩ := info_parts u8_info0
  have hr := hok.R
  have la := Att.tb_len hr.a
  have lb := Att.tb_len hr.b
  have lp := Pro.tb_len hr.p
  have lq := Pro.tb_len hr.q
  have le1 := encs_len [m.pf.toNat]
  simp only [List.length_cons, List.length_nil] at le1
  have hla : (encs [m.pf.toNat] ++ m.a.tb).length = (encs [m.pf.toNat]).length + m.a.tb.length := List.length_append
  have K0 : Keeps Nob w w := Keeps.refl _ _
  refine sy_enter (part_rmfields 1) ⟨#[.agg (Msg.c m), undef, undef, undef, undef, undef, undef, undef, undef, undef, undef, undef, undef, undef, undef, undef, undef, undef, undef, undef, undef, undef, undef, undef, undef, undef, undef, undef, undef, undef, undef, undef, undef, undef, undef, undef, undef, undef, undef, undef, undef, undef, undef, undef, undef, undef, undef, undef, undef, undef, undef, undef, undef, undef, undef, undef, undef, undef, undef, undef, undef, undef, undef, undef, undef, undef, undef, undef, undef, undef, undef, undef, undef, undef, undef, undef, undef, undef, undef, undef, undef, undef, undef, undef, undef, undef, undef, undef, undef, undef, undef, undef, undef, undef, undef, undef, undef, undef, undef, undef, undef, undef, undef, undef, undef, undef, undef, undef, undef, undef, undef, undef, undef, undef, undef, undef, undef, undef, undef, undef, undef, undef], []⟩ Try.func51 (by kernel_rfl) (by kernel_rfl) ?_
  refine sy_sq (part_rmfields 2) (part_rmfields 3) ?_
  refine sy_reg ?_
  refine rg_plain 0 (opsAt (part_rmfields 2)) [0, 1] (by kernel_rfl) (by kernel_rfl) ?_
  obtain ⟨V1, eV1, gm, egm, h2, kV1⟩ := alloc_step w ((Msg.c m)) 35
  have n3 : w.heap.size ≤ gm := egm ▸ K0.size
  refine ps_r (o_rmfields 2 0) (pT gm 0) (w' := V1) (by rw [← eV1, ← egm]; exact exec_box 35 (.tmp 0) (by kernel_rfl) (.agg (Msg.c m)) (by kernel_rfl)) ?_
  clear eV1
  have K4 := K0.nn kV1
  have z5 := kV1.size
  refine ps_k (o_rmfields 2 1) (.slice none 0 0) ?_
  refine ps_end ?_
  refine then_n ?_
  refine sy_sq (part_rmfields 6) (part_rmfields 7) ?_
  refine sy_reg ?_
  refine rg_plain 1 (opsAt (part_rmfields 6)) [0, 1, 2, 3, 4, 5, 6, 7] (by kernel_rfl) (by kernel_rfl) ?_
  refine ps_k (o_rmfields 6 0) (pT gm 12) ?_
  refine ps_p (o_rmfields 6 1) (.agg (Att.c m.a)) (exec_load_seg 31 (.tmp 12) (by kernel_rfl) gm 12 (by kernel_rfl) (Att.c m.a).toList _ _ _ h2 (Msg.seg_A hr) Try.underlying31 rfl (by rw [Att.tl hr.a]; kernel_rfl)) ?_
  refine ps_c (o_rmfields 6 2) 74 #[.agg (Att.c m.a)] Try.func74 ((rvBytes_tb m.a _ hok.a).mono ?_)
  rintro e V6 ⟨Xa, rfl, hXa, hnXa, kV6⟩
  have hlXa : ∀ j, Xa.ownBlock = some j → j < V6.heap.size := fun j hj => hXa.lt hj
  have hwXa : NewFrom w.heap.size Xa := fun j hj => by have := hnXa j hj; omega
  refine ⟨_, rfl, ?_⟩
  have h7 := kV6.bk h2
  have K8 := K4.nn kV6
  have z9 := kV6.size
  refine ps_k (o_rmfields 6 3) (.tuple #[Xa, .int .i64 m.a.err]) ?_
  refine ps_k (o_rmfields 6 4) (Xa) ?_
  refine ps_k (o_rmfields 6 5) (.int .i64 m.a.err) ?_
  refine ps_k (o_rmfields 6 6) (Xa) ?_
  refine ps_k (o_rmfields 6 7) (.int .i64 m.a.err) ?_
  refine ps_end ?_
  refine then_n ?_
  refine sy_sq (part_rmfields 14) (part_rmfields 15) ?_
  refine sy_reg ?_
  refine rg_plain 2 (opsAt (part_rmfields 14)) [0, 1, 2, 3, 4, 5, 6, 7] (by kernel_rfl) (by kernel_rfl) ?_
  refine ps_k (o_rmfields 14 0) (pT gm 48) ?_
  refine ps_p (o_rmfields 14 1) (.agg (Att.c m.b)) (exec_load_seg 31 (.tmp 18) (by kernel_rfl) gm 48 (by kernel_rfl) (Att.c m.b).toList _ _ _ h7 (Msg.seg_B hr) Try.underlying31 rfl (by rw [Att.tl hr.b]; kernel_rfl)) ?_
  refine ps_c (o_rmfields 14 2) 74 #[.agg (Att.c m.b)] Try.func74 ((rvBytes_tb m.b _ hok.b).mono ?_)
  rintro e V10 ⟨Xb, rfl, hXb, hnXb, kV10⟩
  have hlXb : ∀ j, Xb.ownBlock = some j → j < V10.heap.size := fun j hj => hXb.lt hj
  have hwXb : NewFrom w.heap.size Xb := fun j hj => by have := hnXb j hj; omega
  refine ⟨_, rfl, ?_⟩
  have h11 := kV10.bk h7
  have h12 : Row V10 5 1 Xa (m.a.tb).length (B (m.a.tb)) := hXa.keeps kV10 (fun _ _ x => x)
  have K13 := K8.nn kV10
  have z14 := kV10.size
  refine ps_k (o_rmfields 14 3) (.tuple #[Xb, .int .i64 m.b.err]) ?_
  refine ps_k (o_rmfields 14 4) (Xb) ?_
  refine ps_k (o_rmfields 14 5) (.int .i64 m.b.err) ?_
  refine ps_k (o_rmfields 14 6) (Xb) ?_
  refine ps_k (o_rmfields 14 7) (.int .i64 m.b.err) ?_
  refine ps_end ?_
  refine then_n ?_
  refine sy_sq (part_rmfields 30) (part_rmfields 31) ?_
  refine sy_reg ?_
  refine rg_plain 3 (opsAt (part_rmfields 30)) [0, 1, 2, 3, 4, 5, 6, 7] (by kernel_rfl) (by kernel_rfl) ?_
  refine ps_k (o_rmfields 30 0) (pT gm 84) ?_
  refine ps_p (o_rmfields 30 1) (.agg (Pro.c m.p)) (exec_load_seg 33 (.tmp 24) (by kernel_rfl) gm 84 (by kernel_rfl) (Pro.c m.p).toList _ _ _ h11 (Msg.seg_P hr) Try.underlying33 rfl (by rw [Pro.tl hr.p]; kernel_rfl)) ?_
  refine ps_c (o_rmfields 30 2) 75 #[.agg (Pro.c m.p)] Try.func75 ((rvBytesBlock_tb m.p _ hok.p).mono ?_)
  rintro e V15 ⟨Xp, rfl, hXp, hnXp, kV15⟩
  have hlXp : ∀ j, Xp.ownBlock = some j → j < V15.heap.size := fun j hj => hXp.lt hj
  have hwXp : NewFrom w.heap.size Xp := fun j hj => by have := hnXp j hj; omega
  refine ⟨_, rfl, ?_⟩
  have h16 := kV15.bk h11
  have h17 : Row V15 5 1 Xa (m.a.tb).length (B (m.a.tb)) := h12.keeps kV15 (fun _ _ x => x)
  have h18 : Row V15 5 1 Xb (m.b.tb).length (B (m.b.tb)) := hXb.keeps kV15 (fun _ _ x => x)
  have K19 := K13.nn kV15
  have z20 := kV15.size
  refine ps_k (o_rmfields 30 3) (.tuple #[Xp, .int .i64 m.p.err]) ?_
  refine ps_k (o_rmfields 30 4) (Xp) ?_
  refine ps_k (o_rmfields 30 5) (.int .i64 m.p.err) ?_
  refine ps_k (o_rmfields 30 6) (Xp) ?_
  refine ps_k (o_rmfields 30 7) (.int .i64 m.p.err) ?_
  refine ps_end ?_
  refine sy_a ⟨#[.agg (Msg.c m), pT gm 0, .slice none 0 0, Xa, .int .i64 m.a.err, Xb, .int .i64 m.b.err, Xp, .int .i64 m.p.err, undef, undef, .tuple #[Xa, .int .i64 m.a.err], pT gm 12, .agg (Att.c m.a), .tuple #[Xa, .int .i64 m.a.err], Xa, .int .i64 m.a.err, .tuple #[Xb, .int .i64 m.b.err], pT gm 48, .agg (Att.c m.b), .tuple #[Xb, .int .i64 m.b.err], Xb, .int .i64 m.b.err, .tuple #[Xp, .int .i64 m.p.err], pT gm 84, .agg (Pro.c m.p), .tuple #[Xp, .int .i64 m.p.err], Xp, .int .i64 m.p.err, undef, undef, undef, undef, undef, undef, undef, undef, undef, undef, undef, undef, undef, undef, undef, undef, undef, undef, undef, undef, undef, undef, undef, undef, undef, undef, undef, undef, undef, undef, undef, undef, undef, undef, undef, undef, undef, undef, undef, undef, undef, undef, undef, undef, undef, undef, undef, undef, undef, undef, undef, undef, undef, undef, undef, undef, undef, undef, undef, undef, undef, undef, undef, undef, undef, undef, undef, undef, undef, undef, undef, undef, undef, undef, undef, undef, undef, undef, undef, undef, undef, undef, undef, undef, undef, undef, undef, undef, undef, undef, undef, undef, undef], []⟩ ?_
  refine then_n ?_
  refine sy_sq (part_rmfields 62) (part_rmfields 63) ?_
  refine sy_reg ?_
  refine rg_plain 4 (opsAt (part_rmfields 62)) [0, 1, 2, 3, 4, 5, 6, 7] (by kernel_rfl) (by kernel_rfl) ?_
  refine ps_k (o_rmfields 62 0) (pT gm 119) ?_
  refine ps_p (o_rmfields 62 1) (.agg (Pro.c m.q)) (exec_load_seg 33 (.tmp 30) (by kernel_rfl) gm 119 (by kernel_rfl) (Pro.c m.q).toList _ _ _ h16 (Msg.seg_Q hr) Try.underlying33 rfl (by rw [Pro.tl hr.q]; kernel_rfl)) ?_
  refine ps_c (o_rmfields 62 2) 75 #[.agg (Pro.c m.q)] Try.func75 ((rvBytesBlock_tb m.q _ hok.q).mono ?_)
  rintro e V21 ⟨Xq, rfl, hXq, hnXq, kV21⟩
  have hlXq : ∀ j, Xq.ownBlock = some j → j < V21.heap.size := fun j hj => hXq.lt hj
  have hwXq : NewFrom w.heap.size Xq := fun j hj => by have := hnXq j hj; omega
  obtain ⟨zz, hzz⟩ : ∃ z, V21.heap.size = z := ⟨_, rfl⟩
  have hgz : gm < zz := by have := lt_of_block h16; have := kV21.size; omega
  refine ⟨_, rfl, ?_⟩
  have h22 := kV21.bk h16
  have h23 : Row V21 5 1 Xa (m.a.tb).length (B (m.a.tb)) := h17.keeps kV21 (fun _ _ x => x)
  have h24 : Row V21 5 1 Xb (m.b.tb).length (B (m.b.tb)) := h18.keeps kV21 (fun _ _ x => x)
  have K25 := K19.nn kV21
  have z26 := kV21.size
  refine ps_k (o_rmfields 62 3) (.tuple #[Xq, .int .i64 m.q.err]) ?_
  refine ps_k (o_rmfields 62 4) (Xq) ?_
  refine ps_k (o_rmfields 62 5) (.int .i64 m.q.err) ?_
  refine ps_k (o_rmfields 62 6) (Xq) ?_
  refine ps_k (o_rmfields 62 7) (.int .i64 m.q.err) ?_
  refine ps_end ?_
  refine then_n ?_
  refine sy_sq (part_rmfields 126) (part_rmfields 127) ?_
  refine sy_sq (part_rmfields 252) (part_rmfields 253) ?_
  refine sy_reg ?_
  refine rg_plain 5 (opsAt (part_rmfields 252)) [0, 1] (by kernel_rfl) (by kernel_rfl) ?_
  refine ps_k (o_rmfields 252 0) (pT gm 0) ?_
  refine ps_p (o_rmfields 252 1) (.int .i64 m.k) (exec_ld 3 (.tmp 35) gm 0 Try.underlying3 (rc (h22) (Msg.get_n hr NF.k))) ?_
  refine ps_end ?_
  refine then_n ?_
  refine sy_bk 0 (part_rmfields 506) ?_
  refine sy_sq (part_rmfields 1012) (part_rmfields 1013) ?_
  refine sy_reg ?_
  refine rg_plain 6 (opsAt (part_rmfields 1012)) [0, 1] (by kernel_rfl) (by kernel_rfl) ?_
  refine ps_p (o_rmfields 1012 0) (.bool false) (eqf ((m.k) : Int) ((1) : Int) (by omega)) ?_
  refine ps_k (o_rmfields 1012 1) (.bool false) ?_
  refine ps_end ?_
  refine then_n ?_
  refine sy_n (.tmp 37) (part_rmfields 2026) (part_rmfields 2027) ?_
  refine sy_sq (part_rmfields 4054) (part_rmfields 4055) ?_
  refine sy_reg ?_
  refine rg_plain 8 (opsAt (part_rmfields 4054)) [0, 1] (by kernel_rfl) (by kernel_rfl) ?_
  refine ps_p (o_rmfields 4054 0) (.bool false) (eqf ((m.k) : Int) ((2) : Int) (by omega)) ?_
  refine ps_k (o_rmfields 4054 1) (.bool false) ?_
  refine ps_end ?_
  refine then_n ?_
  refine sy_n (.tmp 46) (part_rmfields 8110) (part_rmfields 8111) ?_
  refine sy_sq (part_rmfields 16222) (part_rmfields 16223) ?_
  refine sy_reg ?_
  refine rg_plain 10 (opsAt (part_rmfields 16222)) [0, 1] (by kernel_rfl) (by kernel_rfl) ?_
  refine ps_p (o_rmfields 16222 0) (.bool false) (eqf ((m.k) : Int) ((3) : Int) (by omega)) ?_
  refine ps_k (o_rmfields 16222 1) (.bool false) ?_
  refine ps_end ?_
  refine then_n ?_
  refine sy_n (.tmp 54) (part_rmfields 32446) (part_rmfields 32447) ?_
  refine sy_sq (part_rmfields 64894) (part_rmfields 64895) ?_
  refine sy_reg ?_
  refine rg_plain 12 (opsAt (part_rmfields 64894)) [0, 1] (by kernel_rfl) (by kernel_rfl) ?_
  refine ps_p (o_rmfields 64894 0) (.bool false) (eqf ((m.k) : Int) ((4) : Int) (by omega)) ?_
  refine ps_k (o_rmfields 64894 1) (.bool false) ?_
  refine ps_end ?_
  refine then_n ?_
  refine sy_n (.tmp 63) (part_rmfields 129790) (part_rmfields 129791) ?_
  refine sy_sq (part_rmfields 259582) (part_rmfields 259583) ?_
  refine sy_reg ?_
  refine rg_plain 14 (opsAt (part_rmfields 259582)) [0, 1] (by kernel_rfl) (by kernel_rfl) ?_
  refine ps_p (o_rmfields 259582 0) (.bool false) (eqf ((m.k) : Int) ((5) : Int) (by omega)) ?_
  refine ps_k (o_rmfields 259582 1) (.bool false) ?_
  refine ps_end ?_
  refine then_n ?_
  refine sy_n (.tmp 73) (part_rmfields 519166) (part_rmfields 519167) ?_
  refine sy_sq (part_rmfields 1038334) (part_rmfields 1038335) ?_
  refine sy_reg ?_
  refine rg_plain 16 (opsAt (part_rmfields 1038334)) [0, 1] (by kernel_rfl) (by kernel_rfl) ?_
  refine ps_p (o_rmfields 1038334 0) (.bool false) (eqf ((m.k) : Int) ((6) : Int) (by omega)) ?_
  refine ps_k (o_rmfields 1038334 1) (.bool false) ?_
  refine ps_end ?_
  refine then_n ?_
  refine sy_n (.tmp 86) (part_rmfields 2076670) (part_rmfields 2076671) ?_
  refine sy_sq (part_rmfields 4153342) (part_rmfields 4153343) ?_
  refine sy_reg ?_
  refine rg_plain 18 (opsAt (part_rmfields 4153342)) [0, 1] (by kernel_rfl) (by kernel_rfl) ?_
  refine ps_p (o_rmfields 4153342 0) (.bool false) (eqf ((m.k) : Int) ((7) : Int) (by omega)) ?_
  refine ps_k (o_rmfields 4153342 1) (.bool false) ?_
  refine ps_end ?_
  refine sy_a ⟨#[.agg (Msg.c m), pT gm 0, .slice none 0 0, Xa, .int .i64 m.a.err, Xb, .int .i64 m.b.err, Xp, .int .i64 m.p.err, Xq, .int .i64 m.q.err, .tuple #[Xa, .int .i64 m.a.err], pT gm 12, .agg (Att.c m.a), .tuple #[Xa, .int .i64 m.a.err], Xa, .int .i64 m.a.err, .tuple #[Xb, .int .i64 m.b.err], pT gm 48, .agg (Att.c m.b), .tuple #[Xb, .int .i64 m.b.err], Xb, .int .i64 m.b.err, .tuple #[Xp, .int .i64 m.p.err], pT gm 84, .agg (Pro.c m.p), .tuple #[Xp, .int .i64 m.p.err], Xp, .int .i64 m.p.err, .tuple #[Xq, .int .i64 m.q.err], pT gm 119, .agg (Pro.c m.q), .tuple #[Xq, .int .i64 m.q.err], Xq, .int .i64 m.q.err, pT gm 0, .int .i64 m.k, .bool false, .bool false, undef, undef, undef, undef, undef, undef, undef, .bool false, .bool false, undef, undef, undef, undef, undef, undef, .bool false, .bool false, undef, undef, undef, undef, undef, undef, undef, .bool false, .bool false, undef, undef, undef, undef, undef, undef, undef, undef, .bool false, .bool false, undef, undef, undef, undef, undef, undef, undef, undef, undef, undef, undef, .bool false, .bool false, undef, .bool false, .bool false, undef, undef, undef, undef, undef, undef, undef, undef, undef, undef, undef, undef, undef, undef, undef, undef, undef, undef, undef, undef, undef, undef, undef, undef, undef, undef, undef, undef, undef, undef, undef], []⟩ ?_
  refine then_n ?_
  refine sy_n (.tmp 89) (part_rmfields 8306686) (part_rmfields 8306687) ?_
  refine sy_sq (part_rmfields 16613374) (part_rmfields 16613375) ?_
  refine sy_reg ?_
  refine rg_plain 20 (opsAt (part_rmfields 16613374)) [0, 1] (by kernel_rfl) (by kernel_rfl) ?_
  refine ps_p (o_rmfields 16613374 0) (.bool true) (eqt ((m.k) : Int) ((8) : Int) (by omega)) ?_
  refine ps_k (o_rmfields 16613374 1) (.bool true) ?_
  refine ps_end ?_
  refine then_n ?_
  refine sy_ys (.tmp 92) (part_rmfields 33226750) (part_rmfields 33226751) ?_
  refine sy_sq (part_rmfields 66453500) (part_rmfields 66453501) ?_
  refine sy_sq (part_rmfields 132907000) (part_rmfields 132907001) ?_
  refine sy_reg ?_
  refine rg_plain 21 (opsAt (part_rmfields 132907000)) [0, 1, 2] (by kernel_rfl) (by kernel_rfl) ?_
  refine ps_k (o_rmfields 132907000 0) (pT gm 11) ?_
  refine ps_p (o_rmfields 132907000 1) (.int .i64 m.pf) (exec_ld 3 (.tmp 94) gm 11 Try.underlying3 (rc (h22) (Msg.get_n hr NF.pf))) ?_
  refine ps_p (o_rmfields 132907000 2) (.bool false) (eqf ((m.pf) : Int) ((3) : Int) (by omega)) ?_
  refine ps_end ?_
  refine then_n ?_
  refine sy_n (.tmp 96) (part_rmfields 265814002) (part_rmfields 265814003) ?_
  refine sy_sk ?_
  refine then_n ?_
  refine sy_sq (part_rmfields 132907002) (part_rmfields 132907003) ?_
  refine sy_reg ?_
  refine rg_plain 23 (opsAt (part_rmfields 132907002)) [0, 1, 2, 3, 4, 5, 6, 7, 8, 9] (by kernel_rfl) (by kernel_rfl) ?_
  refine ps_k (o_rmfields 132907002 0) (pT gm 11) ?_
  refine ps_p (o_rmfields 132907002 1) (.int .i64 m.pf) (exec_ld 3 (.tmp 106) gm 11 Try.underlying3 (rc (h22) (Msg.get_n hr NF.pf))) ?_
  refine ps_p (o_rmfields 132907002 2) (uN m.pf.toNat) (exec_cast (congrArg (Value.int .u64) (wrapNat (by omega) (by omega))) (by kernel_rfl)) ?_
  obtain ⟨V27, eV27, gl, egl, h28, kV27⟩ := alloc_step V21 (#[.int .u64 ((m.pf.toNat : Nat) : Int)]) 25
  have n29 : gm < gl := egl ▸ lt_of_block h22
  have n30 : w.heap.size ≤ gl := egl ▸ K25.size
  refine ps_r (o_rmfields 132907002 3) (.slice (some ⟨gl, 0, none⟩) 1 1) (w' := V27) (by rw [← eV27, ← egl]; kernel_rfl) ?_
  have h31 := kV27.bk h22
  have h32 : Row V27 5 1 Xa (m.a.tb).length (B (m.a.tb)) := h23.keeps kV27 (fun _ _ x => x)
  have h33 : Row V27 5 1 Xb (m.b.tb).length (B (m.b.tb)) := h24.keeps kV27 (fun _ _ x => x)
  have K34 := K25.nn kV27
  have z35 := kV27.size
  have zpX37 : w.heap.size ≤ V27.heap.size := K34.size
  refine ps_c (o_rmfields 132907002 4) 50 #[.slice (some ⟨gl, 0, none⟩) 1 1] Try.func50 ((rmput_1 gl m.pf.toNat _ h28 (by omega)).mono ?_)
  rintro e V36 ⟨X37, rfl, hX37, hnX37, kV36⟩
  have hwX37 : NewFrom zz X37 := fun j hj => by have := hnX37 j hj; omega
  refine ⟨_, rfl, ?_⟩
  have h38 := kV36.bk h31
  have h39 : Row V36 5 1 Xa (m.a.tb).length (B (m.a.tb)) := h32.keeps kV36 (fun _ _ x => x)
  have h40 : Row V36 5 1 Xb (m.b.tb).length (B (m.b.tb)) := h33.keeps kV36 (fun _ _ x => x)
  have K41 := K34.nn kV36
  have z42 := kV36.size
  refine ps_k (o_rmfields 132907002 5) (Xa) ?_
  obtain ⟨v43, V44, hr45, h46, hg47, hn48, ha49⟩ := run_append_any (P := Try.prog) (w := V36) 22 (Oper.type (o_rmfields 132907002 6)) 5 i0 (.int .u8 0) 1 1 Try.underlying22 hi0 hz0 hz1 hz2 rfl (by decide) X37 ((encs [m.pf.toNat]).length) (B (encs [m.pf.toNat])) hX37 Xa ((m.a.tb).length) (B (m.a.tb)) (Row.src h39 (B_one _)) (by unfold maxLen; omega) (by omega)
  have kV44 : Keeps (fun j => (X37 : Value).ownBlock = some j) V36 V44 := Keeps.rowAdd hg47
  have hw50 : NewFrom zz v43 := hwX37.next (by omega) ha49
  refine ps_r (o_rmfields 132907002 6) v43 (w' := V44) (exec_append (.tmp 110) (.tmp 111) 22 (by kernel_rfl) X37 Xa (by kernel_rfl) (by kernel_rfl) hr45) ?_
  have h51 : Row V44 5 1 v43 ((encs [m.pf.toNat] ++ m.a.tb).length) (B (encs [m.pf.toNat] ++ m.a.tb)) := row_cast h46 rfl (by simp only [List.length_append])
  have h52 : V44.heap[gm]? = some (.cells (Msg.c m) 35 (0, 0)) := (kV44.block gm (lt_of_block h38) (fun e => by have := hwX37 _ e; omega)).trans h38
  have h53 : Row V44 5 1 Xb (m.b.tb).length (B (m.b.tb)) := h40.keeps kV44 (fun j hj e => by have := hlXb j hj; have := hwX37 j e; omega)
  have K54 : Keeps Nob w V44 := K41.then kV44 (fun i hi hm => absurd hi (by have := hwX37 i hm; omega))
  have z55 := kV44.size
  refine ps_k (o_rmfields 132907002 7) (Xb) ?_
  obtain ⟨v56, V57, hr58, h59, hg60, hn61, ha62⟩ := run_append_any (P := Try.prog) (w := V44) 22 (Oper.type (o_rmfields 132907002 8)) 5 i0 (.int .u8 0) 1 1 Try.underlying22 hi0 hz0 hz1 hz2 rfl (by decide) v43 ((encs [m.pf.toNat] ++ m.a.tb).length) (B (encs [m.pf.toNat] ++ m.a.tb)) h51 Xb ((m.b.tb).length) (B (m.b.tb)) (Row.src h53 (B_one _)) (by unfold maxLen; omega) (by omega)
  have kV57 : Keeps (fun j => v43.ownBlock = some j) V44 V57 := Keeps.rowAdd hg60
  have hw63 : NewFrom zz v56 := hw50.next (by omega) ha62
  refine ps_r (o_rmfields 132907002 8) v56 (w' := V57) (exec_append (.tmp 112) (.tmp 113) 22 (by kernel_rfl) v43 Xb (by kernel_rfl) (by kernel_rfl) hr58) ?_
  have h64 : Row V57 5 1 v56 ((encs [m.pf.toNat] ++ m.a.tb ++ m.b.tb).length) (B (encs [m.pf.toNat] ++ m.a.tb ++ m.b.tb)) := row_cast h59 rfl (by simp only [List.length_append])
  have h65 : V57.heap[gm]? = some (.cells (Msg.c m) 35 (0, 0)) := (kV57.block gm (lt_of_block h52) (fun e => by have := hw50 _ e; omega)).trans h52
  have K66 : Keeps Nob w V57 := K54.then kV57 (fun i hi hm => absurd hi (by have := hw50 i hm; omega))
  have z67 := kV57.size
  refine ps_k (o_rmfields 132907002 9) (v56) ?_
  refine ps_end ?_
  refine then_n ?_
  refine sy_ret (by kernel_rfl) ?_
  refine blk_r ?_
  refine then_r ?_
  refine sy_out (v56) rfl (by kernel_rfl) ?_
  exact ⟨_, rfl, h64, fun j hj => by have := hw63 j hj; omega, K66⟩
set_option maxRecDepth 100000 in
set_option maxHeartbeats 4000000 in
theorem rmfields_9 (m : Msg) (w : World) (hok : m.Ok) (hk : m.k = 9) (hv : 0 ≤ m.vl ∧ m.vl ≤ 31) :
    Calls Try.prog 51 #[.agg (Msg.c m)] w (fun e w' => ∃ X, e = .returned X ∧ Row w' 5 1 X (encs [m.vl.toNat]).length (B (encs [m.vl.toNat])) ∧ NewFrom w.heap.size X ∧ Keeps Nob w w') := by
  obtain ⟨i0, hi0, hz0, hz1, hz2⟩ := info_parts u8_info0
  have hr := hok.R
  have la := Att.tb_len hr.a
  have lb := Att.tb_len hr.b
  have lp := Pro.tb_len hr.p
  have lq := Pro.tb_len hr.q
  have K0 : Keeps Nob w w := Keeps.refl _ _
  refine sy_enter (part_rmfields 1) ⟨#[.agg (Msg.c m), undef, undef, undef, undef, undef, undef, undef, undef, undef, undef, undef, undef, undef, undef, undef, undef, undef, undef, undef, undef, undef, undef, undef, undef, undef, undef, undef, undef, undef, undef, undef, undef, undef, undef, undef, undef, undef, undef, undef, undef, undef, undef, undef, undef, undef, undef, undef, undef, undef, undef, undef, undef, undef, undef, undef, undef, undef, undef, undef, undef, undef, undef, undef, undef, undef, undef, undef, undef, undef, undef, undef, undef, undef, undef, undef, undef, undef, undef, undef, undef, undef, undef, undef, undef, undef, undef, undef, undef, undef, undef, undef, undef, undef, undef, undef, undef, undef, undef, undef, undef, undef, undef, undef, undef, undef, undef, undef, undef, undef, undef, undef, undef, undef, undef, undef, undef, undef, undef, undef, undef, undef], []⟩ Try.func51 (by kernel_rfl) (by kernel_rfl) ?_
  refine sy_sq (part_rmfields 2) (part_rmfields 3) ?_
  refine sy_reg ?_
  refine rg_plain 0 (opsAt (part_rmfields 2)) [0, 1] (by kernel_rfl) (by kernel_rfl) ?_
  obtain ⟨V1, eV1, gm, egm, h2, kV1⟩ := alloc_step w ((Msg.c m)) 35
  have n3 : w.heap.size ≤ gm := egm ▸ K0.size
  refine ps_r (o_rmfields 2 0) (pT gm 0) (w' := V1) (by rw [← eV1, ← egm]; exact exec_box 35 (.tmp 0) (by kernel_rfl) (.agg (Msg.c m)) (by kernel_rfl)) ?_
  clear eV1
  have K4 := K0.nn kV1
  have z5 := kV1.size
  refine ps_k (o_rmfields 2 1) (.slice none 0 0) ?_
  refine ps_end ?_
  refine then_n ?_
  refine sy_sq (part_rmfields 6) (part_rmfields 7) ?_
  refine sy_reg ?_
  refine rg_plain 1 (opsAt (part_rmfields 6)) [0, 1, 2, 3, 4, 5, 6, 7] (by kernel_rfl) (by kernel_rfl) ?_
  refine ps_k (o_rmfields 6 0) (pT gm 12) ?_
  refine ps_p (o_rmfields 6 1) (.agg (Att.c m.a)) (exec_load_seg 31 (.tmp 12) (by kernel_rfl) gm 12 (by kernel_rfl) (Att.c m.a).toList _ _ _ h2 (Msg.seg_A hr) Try.underlying31 rfl (by rw [Att.tl hr.a]; kernel_rfl)) ?_
  refine ps_c (o_rmfields 6 2) 74 #[.agg (Att.c m.a)] Try.func74 ((rvBytes_tb m.a _ hok.a).mono ?_)
  rintro e V6 ⟨Xa, rfl, hXa, hnXa, kV6⟩
  have hlXa : ∀ j, Xa.ownBlock = some j → j < V6.heap.size := fun j hj => hXa.lt hj
  have hwXa : NewFrom w.heap.size Xa := fun j hj => by have := hnXa j hj; omega
  refine ⟨_, rfl, ?_⟩
  have h7 := kV6.bk h2
  have K8 := K4.nn kV6
  have z9 := kV6.size
  refine ps_k (o_rmfields 6 3) (.tuple #[Xa, .int .i64 m.a.err]) ?_
  refine ps_k (o_rmfields 6 4) (Xa) ?_
  refine ps_k (o_rmfields 6 5) (.int .i64 m.a.err) ?_
  refine ps_k (o_rmfields 6 6) (Xa) ?_
  refine ps_k (o_rmfields 6 7) (.int .i64 m.a.err) ?_
  refine ps_end ?_
  refine then_n ?_
  refine sy_sq (part_rmfields 14) (part_rmfields 15) ?_
  refine sy_reg ?_
  refine rg_plain 2 (opsAt (part_rmfields 14)) [0, 1, 2, 3, 4, 5, 6, 7] (by kernel_rfl) (by kernel_rfl) ?_
  refine ps_k (o_rmfields 14 0) (pT gm 48) ?_
  refine ps_p (o_rmfields 14 1) (.agg (Att.c m.b)) (exec_load_seg 31 (.tmp 18) (by kernel_rfl) gm 48 (by kernel_rfl) (Att.c m.b).toList _ _ _ h7 (Msg.seg_B hr) Try.underlying31 rfl (by rw [Att.tl hr.b]; kernel_rfl)) ?_
  refine ps_c (o_rmfields 14 2) 74 #[.agg (Att.c m.b)] Try.func74 ((rvBytes_tb m.b _ hok.b).mono ?_)
  rintro e V10 ⟨Xb, rfl, hXb, hnXb, kV10⟩
  have hlXb : ∀ j, Xb.ownBlock = some j → j < V10.heap.size := fun j hj => hXb.lt hj
  have hwXb : NewFrom w.heap.size Xb := fun j hj => by have := hnXb j hj; omega
  refine ⟨_, rfl, ?_⟩
  have h11 := kV10.bk h7
  have K12 := K8.nn kV10
  have z13 := kV10.size
  refine ps_k (o_rmfields 14 3) (.tuple #[Xb, .int .i64 m.b.err]) ?_
  refine ps_k (o_rmfields 14 4) (Xb) ?_
  refine ps_k (o_rmfields 14 5) (.int .i64 m.b.err) ?_
  refine ps_k (o_rmfields 14 6) (Xb) ?_
  refine ps_k (o_rmfields 14 7) (.int .i64 m.b.err) ?_
  refine ps_end ?_
  refine then_n ?_
  refine sy_sq (part_rmfields 30) (part_rmfields 31) ?_
  refine sy_reg ?_
  refine rg_plain 3 (opsAt (part_rmfields 30)) [0, 1, 2, 3, 4, 5, 6, 7] (by kernel_rfl) (by kernel_rfl) ?_
  refine ps_k (o_rmfields 30 0) (pT gm 84) ?_
  refine ps_p (o_rmfields 30 1) (.agg (Pro.c m.p)) (exec_load_seg 33 (.tmp 24) (by kernel_rfl) gm 84 (by kernel_rfl) (Pro.c m.p).toList _ _ _ h11 (Msg.seg_P hr) Try.underlying33 rfl (by rw [Pro.tl hr.p]; kernel_rfl)) ?_
  refine ps_c (o_rmfields 30 2) 75 #[.agg (Pro.c m.p)] Try.func75 ((rvBytesBlock_tb m.p _ hok.p).mono ?_)
  rintro e V14 ⟨Xp, rfl, hXp, hnXp, kV14⟩
  have hlXp : ∀ j, Xp.ownBlock = some j → j < V14.heap.size := fun j hj => hXp.lt hj
  have hwXp : NewFrom w.heap.size Xp := fun j hj => by have := hnXp j hj; omega
  refine ⟨_, rfl, ?_⟩
  have h15 := kV14.bk h11
  have K16 := K12.nn kV14
  have z17 := kV14.size
  refine ps_k (o_rmfields 30 3) (.tuple #[Xp, .int .i64 m.p.err]) ?_
  refine ps_k (o_rmfields 30 4) (Xp) ?_
  refine ps_k (o_rmfields 30 5) (.int .i64 m.p.err) ?_
  refine ps_k (o_rmfields 30 6) (Xp) ?_
  refine ps_k (o_rmfields 30 7) (.int .i64 m.p.err) ?_
  refine ps_end ?_
  refine sy_a ⟨#[.agg (Msg.c m), pT gm 0, .slice none 0 0, Xa, .int .i64 m.a.err, Xb, .int .i64 m.b.err, Xp, .int .i64 m.p.err, undef, undef, .tuple #[Xa, .int .i64 m.a.err], pT gm 12, .agg (Att.c m.a), .tuple #[Xa, .int .i64 m.a.err], Xa, .int .i64 m.a.err, .tuple #[Xb, .int .i64 m.b.err], pT gm 48, .agg (Att.c m.b), .tuple #[Xb, .int .i64 m.b.err], Xb, .int .i64 m.b.err, .tuple #[Xp, .int .i64 m.p.err], pT gm 84, .agg (Pro.c m.p), .tuple #[Xp, .int .i64 m.p.err], Xp, .int .i64 m.p.err, undef, undef, undef, undef, undef, undef, undef, undef, undef, undef, undef, undef, undef, undef, undef, undef, undef, undef, undef, undef, undef, undef, undef, undef, undef, undef, undef, undef, undef, undef, undef, undef, undef, undef, undef, undef, undef, undef, undef, undef, undef, undef, undef, undef, undef, undef, undef, undef, undef, undef, undef, undef, undef, undef, undef, undef, undef, undef, undef, undef, undef, undef, undef, undef, undef, undef, undef, undef, undef, undef, undef, undef, undef, undef, undef, undef, undef, undef, undef, undef, undef, undef, undef, undef, undef, undef, undef, undef, undef, undef, undef, undef, undef], []⟩ ?_
  refine then_n ?_
  refine sy_sq (part_rmfields 62) (part_rmfields 63) ?_
  refine sy_reg ?_
  refine rg_plain 4 (opsAt (part_rmfields 62)) [0, 1, 2, 3, 4, 5, 6, 7] (by kernel_rfl) (by kernel_rfl) ?_
  refine ps_k (o_rmfields 62 0) (pT gm 119) ?_
  refine ps_p (o_rmfields 62 1) (.agg (Pro.c m.q)) (exec_load_seg 33 (.tmp 30) (by kernel_rfl) gm 119 (by kernel_rfl) (Pro.c m.q).toList _ _ _ h15 (Msg.seg_Q hr) Try.underlying33 rfl (by rw [Pro.tl hr.q]; kernel_rfl)) ?_
  refine ps_c (o_rmfields 62 2) 75 #[.agg (Pro.c m.q)] Try.func75 ((rvBytesBlock_tb m.q _ hok.q).mono ?_)
  rintro e V18 ⟨Xq, rfl, hXq, hnXq, kV18⟩
  have hlXq : ∀ j, Xq.ownBlock = some j → j < V18.heap.size := fun j hj => hXq.lt hj
  have hwXq : NewFrom w.heap.size Xq := fun j hj => by have := hnXq j hj; omega
  obtain ⟨zz, hzz⟩ : ∃ z, V18.heap.size = z := ⟨_, rfl⟩
  have hgz : gm < zz := by have := lt_of_block h15; have := kV18.size; omega
  refine ⟨_, rfl, ?_⟩
  have h19 := kV18.bk h15
  have K20 := K16.nn kV18
  have z21 := kV18.size
  refine ps_k (o_rmfields 62 3) (.tuple #[Xq, .int .i64 m.q.err]) ?_
  refine ps_k (o_rmfields 62 4) (Xq) ?_
  refine ps_k (o_rmfields 62 5) (.int .i64 m.q.err) ?_
  refine ps_k (o_rmfields 62 6) (Xq) ?_
  refine ps_k (o_rmfields 62 7) (.int .i64 m.q.err) ?_
  refine ps_end ?_
  refine then_n ?_
  refine sy_sq (part_rmfields 126) (part_rmfields 127) ?_
  refine sy_sq (part_rmfields 252) (part_rmfields 253) ?_
  refine sy_reg ?_
  refine rg_plain 5 (opsAt (part_rmfields 252)) [0, 1] (by kernel_rfl) (by kernel_rfl) ?_
  refine ps_k (o_rmfields 252 0) (pT gm 0) ?_
  refine ps_p (o_rmfields 252 1) (.int .i64 m.k) (exec_ld 3 (.tmp 35) gm 0 Try.underlying3 (rc (h19) (Msg.get_n hr NF.k))) ?_
  refine ps_end ?_
  refine then_n ?_
  refine sy_bk 0 (part_rmfields 506) ?_
  refine sy_sq (part_rmfields 1012) (part_rmfields 1013) ?_
  refine sy_reg ?_
  refine rg_plain 6 (opsAt (part_rmfields 1012)) [0, 1] (by kernel_rfl) (by kernel_rfl) ?_
  refine ps_p (o_rmfields 1012 0) (.bool false) (eqf ((m.k) : Int) ((1) : Int) (by omega)) ?_
  refine ps_k (o_rmfields 1012 1) (.bool false) ?_
  refine ps_end ?_
  refine then_n ?_
  refine sy_n (.tmp 37) (part_rmfields 2026) (part_rmfields 2027) ?_
  refine sy_sq (part_rmfields 4054) (part_rmfields 4055) ?_
  refine sy_reg ?_
  refine rg_plain 8 (opsAt (part_rmfields 4054)) [0, 1] (by kernel_rfl) (by kernel_rfl) ?_
  refine ps_p (o_rmfields 4054 0) (.bool false) (eqf ((m.k) : Int) ((2) : Int) (by omega)) ?_
  refine ps_k (o_rmfields 4054 1) (.bool false) ?_
  refine ps_end ?_
  refine then_n ?_
  refine sy_n (.tmp 46) (part_rmfields 8110) (part_rmfields 8111) ?_
  refine sy_sq (part_rmfields 16222) (part_rmfields 16223) ?_
  refine sy_reg ?_
  refine rg_plain 10 (opsAt (part_rmfields 16222)) [0, 1] (by kernel_rfl) (by kernel_rfl) ?_
  refine ps_p (o_rmfields 16222 0) (.bool false) (eqf ((m.k) : Int) ((3) : Int) (by omega)) ?_
  refine ps_k (o_rmfields 16222 1) (.bool false) ?_
  refine ps_end ?_
  refine then_n ?_
  refine sy_n (.tmp 54) (part_rmfields 32446) (part_rmfields 32447) ?_
  refine sy_sq (part_rmfields 64894) (part_rmfields 64895) ?_
  refine sy_reg ?_
  refine rg_plain 12 (opsAt (part_rmfields 64894)) [0, 1] (by kernel_rfl) (by kernel_rfl) ?_
  refine ps_p (o_rmfields 64894 0) (.bool false) (eqf ((m.k) : Int) ((4) : Int) (by omega)) ?_
  refine ps_k (o_rmfields 64894 1) (.bool false) ?_
  refine ps_end ?_
  refine then_n ?_
  refine sy_n (.tmp 63) (part_rmfields 129790) (part_rmfields 129791) ?_
  refine sy_sq (part_rmfields 259582) (part_rmfields 259583) ?_
  refine sy_reg ?_
  refine rg_plain 14 (opsAt (part_rmfields 259582)) [0, 1] (by kernel_rfl) (by kernel_rfl) ?_
  refine ps_p (o_rmfields 259582 0) (.bool false) (eqf ((m.k) : Int) ((5) : Int) (by omega)) ?_
  refine ps_k (o_rmfields 259582 1) (.bool false) ?_
  refine ps_end ?_
  refine then_n ?_
  refine sy_n (.tmp 73) (part_rmfields 519166) (part_rmfields 519167) ?_
  refine sy_sq (part_rmfields 1038334) (part_rmfields 1038335) ?_
  refine sy_reg ?_
  refine rg_plain 16 (opsAt (part_rmfields 1038334)) [0, 1] (by kernel_rfl) (by kernel_rfl) ?_
  refine ps_p (o_rmfields 1038334 0) (.bool false) (eqf ((m.k) : Int) ((6) : Int) (by omega)) ?_
  refine ps_k (o_rmfields 1038334 1) (.bool false) ?_
  refine ps_end ?_
  refine then_n ?_
  refine sy_n (.tmp 86) (part_rmfields 2076670) (part_rmfields 2076671) ?_
  refine sy_sq (part_rmfields 4153342) (part_rmfields 4153343) ?_
  refine sy_reg ?_
  refine rg_plain 18 (opsAt (part_rmfields 4153342)) [0, 1] (by kernel_rfl) (by kernel_rfl) ?_
  refine ps_p (o_rmfields 4153342 0) (.bool false) (eqf ((m.k) : Int) ((7) : Int) (by omega)) ?_
  refine ps_k (o_rmfields 4153342 1) (.bool false) ?_
  refine ps_end ?_
  refine sy_a ⟨#[.agg (Msg.c m), pT gm 0, .slice none 0 0, Xa, .int .i64 m.a.err, Xb, .int .i64 m.b.err, Xp, .int .i64 m.p.err, Xq, .int .i64 m.q.err, .tuple #[Xa, .int .i64 m.a.err], pT gm 12, .agg (Att.c m.a), .tuple #[Xa, .int .i64 m.a.err], Xa, .int .i64 m.a.err, .tuple #[Xb, .int .i64 m.b.err], pT gm 48, .agg (Att.c m.b), .tuple #[Xb, .int .i64 m.b.err], Xb, .int .i64 m.b.err, .tuple #[Xp, .int .i64 m.p.err], pT gm 84, .agg (Pro.c m.p), .tuple #[Xp, .int .i64 m.p.err], Xp, .int .i64 m.p.err, .tuple #[Xq, .int .i64 m.q.err], pT gm 119, .agg (Pro.c m.q), .tuple #[Xq, .int .i64 m.q.err], Xq, .int .i64 m.q.err, pT gm 0, .int .i64 m.k, .bool false, .bool false, undef, undef, undef, undef, undef, undef, undef, .bool false, .bool false, undef, undef, undef, undef, undef, undef, .bool false, .bool false, undef, undef, undef, undef, undef, undef, undef, .bool false, .bool false, undef, undef, undef, undef, undef, undef, undef, undef, .bool false, .bool false, undef, undef, undef, undef, undef, undef, undef, undef, undef, undef, undef, .bool false, .bool false, undef, .bool false, .bool false, undef, undef, undef, undef, undef, undef, undef, undef, undef, undef, undef, undef, undef, undef, undef, undef, undef, undef, undef, undef, undef, undef, undef, undef, undef, undef, undef, undef, undef, undef, undef], []⟩ ?_
  refine then_n ?_
  refine sy_n (.tmp 89) (part_rmfields 8306686) (part_rmfields 8306687) ?_
  refine sy_sq (part_rmfields 16613374) (part_rmfields 16613375) ?_
  refine sy_reg ?_
  refine rg_plain 20 (opsAt (part_rmfields 16613374)) [0, 1] (by kernel_rfl) (by kernel_rfl) ?_
  refine ps_p (o_rmfields 16613374 0) (.bool false) (eqf ((m.k) : Int) ((8) : Int) (by omega)) ?_
  refine ps_k (o_rmfields 16613374 1) (.bool false) ?_
  refine ps_end ?_
  refine then_n ?_
  refine sy_n (.tmp 92) (part_rmfields 33226750) (part_rmfields 33226751) ?_
  refine sy_sq (part_rmfields 66453502) (part_rmfields 66453503) ?_
  refine sy_reg ?_
  refine rg_plain 24 (opsAt (part_rmfields 66453502)) [0, 1] (by kernel_rfl) (by kernel_rfl) ?_
  refine ps_p (o_rmfields 66453502 0) (.bool true) (eqt ((m.k) : Int) ((9) : Int) (by omega)) ?_
  refine ps_k (o_rmfields 66453502 1) (.bool true) ?_
  refine ps_end ?_
  refine then_n ?_
  refine sy_ys (.tmp 115) (part_rmfields 132907006) (part_rmfields 132907007) ?_
  refine sy_sq (part_rmfields 265814012) (part_rmfields 265814013) ?_
  refine sy_reg ?_
  refine rg_plain 25 (opsAt (part_rmfields 265814012)) [0, 1, 2, 3, 4, 5] (by kernel_rfl) (by kernel_rfl) ?_
  refine ps_k (o_rmfields 265814012 0) (pT gm 2) ?_
  refine ps_p (o_rmfields 265814012 1) (.int .i64 m.vl) (exec_ld 3 (.tmp 117) gm 2 Try.underlying3 (rc (h19) (Msg.get_n hr NF.vl))) ?_
  refine ps_p (o_rmfields 265814012 2) (uN m.vl.toNat) (exec_cast (congrArg (Value.int .u64) (wrapNat (by omega) (by omega))) (by kernel_rfl)) ?_
  obtain ⟨V22, eV22, gl, egl, h23, kV22⟩ := alloc_step V18 (#[.int .u64 ((m.vl.toNat : Nat) : Int)]) 25
  have n24 : gm < gl := egl ▸ lt_of_block h19
  have n25 : w.heap.size ≤ gl := egl ▸ K20.size
  refine ps_r (o_rmfields 265814012 3) (.slice (some ⟨gl, 0, none⟩) 1 1) (w' := V22) (by rw [← eV22, ← egl]; kernel_rfl) ?_
  have h26 := kV22.bk h19
  have K27 := K20.nn kV22
  have z28 := kV22.size
  have zpX30 : w.heap.size ≤ V22.heap.size := K27.size
  refine ps_c (o_rmfields 265814012 4) 50 #[.slice (some ⟨gl, 0, none⟩) 1 1] Try.func50 ((rmput_1 gl m.vl.toNat _ h23 (by omega)).mono ?_)
  rintro e V29 ⟨X30, rfl, hX30, hnX30, kV29⟩
  have hwX30 : NewFrom zz X30 := fun j hj => by have := hnX30 j hj; omega
  refine ⟨_, rfl, ?_⟩
  have h31 := kV29.bk h26
  have K32 := K27.nn kV29
  have z33 := kV29.size
  refine ps_k (o_rmfields 265814012 5) (X30) ?_
  refine ps_end ?_
  refine then_n ?_
  refine sy_ret (by kernel_rfl) ?_
  refine blk_r ?_
  refine then_r ?_
  refine sy_out (X30) rfl (by kernel_rfl) ?_
  exact ⟨_, rfl, hX30, fun j hj => by have := hwX30 j hj; omega, K32⟩
set_option maxRecDepth 100000 in
set_option maxHeartbeats 4000000 in
theorem rmfields_10 (m : Msg) (w : World) (hok : m.Ok) (hk : m.k = 10)  :
    Calls Try.prog 51 #[.agg (Msg.c m)] w (fun e w' => ∃ X, e = .returned X ∧ Row w' 5 1 X (([] : List UInt8)).length (B (([] : List UInt8))) ∧ NewFrom w.heap.size X ∧ Keeps Nob w w') := by
  obtain ⟨i0, hi0, hz0, hz1, hz2⟩ := info_parts u8_info0
  have hr := hok.R
  have la := Att.tb_len hr.a
  have lb := Att.tb_len hr.b
  have lp := Pro.tb_len hr.p
  have lq := Pro.tb_len hr.q
  have K0 : Keeps Nob w w := Keeps.refl _ _
  refine sy_enter (part_rmfields 1) ⟨#[.agg (Msg.c m), undef, undef, undef, undef, undef, undef, undef, undef, undef, undef, undef, undef, undef, undef, undef, undef, undef, undef, undef, undef, undef, undef, undef, undef, undef, undef, undef, undef, undef, undef, undef, undef, undef, undef, undef, undef, undef, undef, undef, undef, undef, undef, undef, undef, undef, undef, undef, undef, undef, undef, undef, undef, undef, undef, undef, undef, undef, undef, undef, undef, undef, undef, undef, undef, undef, undef, undef, undef, undef, undef, undef, undef, undef, undef, undef, undef, undef, undef, undef, undef, undef, undef, undef, undef, undef, undef, undef, undef, undef, undef, undef, undef, undef, undef, undef, undef, undef, undef, undef, undef, undef, undef, undef, undef, undef, undef, undef, undef, undef, undef, undef, undef, undef, undef, undef, undef, undef, undef, undef, undef, undef], []⟩ Try.func51 (by kernel_rfl) (by kernel_rfl) ?_
  refine sy_sq (part_rmfields 2) (part_rmfields 3) ?_
  refine sy_reg ?_
  refine rg_plain 0 (opsAt (part_rmfields 2)) [0, 1] (by kernel_rfl) (by kernel_rfl) ?_
  obtain ⟨V1, eV1, gm, egm, h2, kV1⟩ := alloc_step w ((Msg.c m)) 35
  have n3 : w.heap.size ≤ gm := egm ▸ K0.size
  refine ps_r (o_rmfields 2 0) (pT gm 0) (w' := V1) (by rw [← eV1, ← egm]; exact exec_box 35 (.tmp 0) (by kernel_rfl) (.agg (Msg.c m)) (by kernel_rfl)) ?_
  clear eV1
  have K4 := K0.nn kV1
  have z5 := kV1.size
  refine ps_k (o_rmfields 2 1) (.slice none 0 0) ?_
  refine ps_end ?_
  refine then_n ?_
  refine sy_sq (part_rmfields 6) (part_rmfields 7) ?_
  refine sy_reg ?_
  refine rg_plain 1 (opsAt (part_rmfields 6)) [0, 1, 2, 3, 4, 5, 6, 7] (by kernel_rfl) (by kernel_rfl) ?_
  refine ps_k (o_rmfields 6 0) (pT gm 12) ?_
  refine ps_p (o_rmfields 6 1) (.agg (Att.c m.a)) (exec_load_seg 31 (.tmp 12) (by kernel_rfl) gm 12 (by kernel_rfl) (Att.c m.a).toList _ _ _ h2 (Msg.seg_A hr) Try.underlying31 rfl (by rw [Att.tl hr.a]; kernel_rfl)) ?_
  refine ps_c (o_rmfields 6 2) 74 #[.agg (Att.c m.a)] Try.func74 ((rvBytes_tb m.a _ hok.a).mono ?_)
  rintro e V6 ⟨Xa, rfl, hXa, hnXa, kV6⟩
  have hlXa : ∀ j, Xa.ownBlock = some j → j < V6.heap.size := fun j hj => hXa.lt hj
  have hwXa : NewFrom w.heap.size Xa := fun j hj => by have := hnXa j hj; omega
  refine ⟨_, rfl, ?_⟩
  have h7 := kV6.bk h2
  have K8 := K4.nn kV6
  have z9 := kV6.size
  refine ps_k (o_rmfields 6 3) (.tuple #[Xa, .int .i64 m.a.err]) ?_
  refine ps_k (o_rmfields 6 4) (Xa) ?_
  refine ps_k (o_rmfields 6 5) (.int .i64 m.a.err) ?_
  refine ps_k (o_rmfields 6 6) (Xa) ?_
  refine ps_k (o_rmfields 6 7) (.int .i64 m.a.err) ?_
  refine ps_end ?_
  refine then_n ?_
  refine sy_sq (part_rmfields 14) (part_rmfields 15) ?_
  refine sy_reg ?_
  refine rg_plain 2 (opsAt (part_rmfields 14)) [0, 1, 2, 3, 4, 5, 6, 7] (by kernel_rfl) (by kernel_rfl) ?_
  refine ps_k (o_rmfields 14 0) (pT gm 48) ?_
  refine ps_p (o_rmfields 14 1) (.agg (Att.c m.b)) (exec_load_seg 31 (.tmp 18) (by kernel_rfl) gm 48 (by kernel_rfl) (Att.c m.b).toList _ _ _ h7 (Msg.seg_B hr) Try.underlying31 rfl (by rw [Att.tl hr.b]; kernel_rfl)) ?_
  refine ps_c (o_rmfields 14 2) 74 #[.agg (Att.c m.b)] Try.func74 ((rvBytes_tb m.b _ hok.b).mono ?_)
  rintro e V10 ⟨Xb, rfl, hXb, hnXb, kV10⟩
  have hlXb : ∀ j, Xb.ownBlock = some j → j < V10.heap.size := fun j hj => hXb.lt hj
  have hwXb : NewFrom w.heap.size Xb := fun j hj => by have := hnXb j hj; omega
  refine ⟨_, rfl, ?_⟩
  have h11 := kV10.bk h7
  have K12 := K8.nn kV10
  have z13 := kV10.size
  refine ps_k (o_rmfields 14 3) (.tuple #[Xb, .int .i64 m.b.err]) ?_
  refine ps_k (o_rmfields 14 4) (Xb) ?_
  refine ps_k (o_rmfields 14 5) (.int .i64 m.b.err) ?_
  refine ps_k (o_rmfields 14 6) (Xb) ?_
  refine ps_k (o_rmfields 14 7) (.int .i64 m.b.err) ?_
  refine ps_end ?_
  refine then_n ?_
  refine sy_sq (part_rmfields 30) (part_rmfields 31) ?_
  refine sy_reg ?_
  refine rg_plain 3 (opsAt (part_rmfields 30)) [0, 1, 2, 3, 4, 5, 6, 7] (by kernel_rfl) (by kernel_rfl) ?_
  refine ps_k (o_rmfields 30 0) (pT gm 84) ?_
  refine ps_p (o_rmfields 30 1) (.agg (Pro.c m.p)) (exec_load_seg 33 (.tmp 24) (by kernel_rfl) gm 84 (by kernel_rfl) (Pro.c m.p).toList _ _ _ h11 (Msg.seg_P hr) Try.underlying33 rfl (by rw [Pro.tl hr.p]; kernel_rfl)) ?_
  refine ps_c (o_rmfields 30 2) 75 #[.agg (Pro.c m.p)] Try.func75 ((rvBytesBlock_tb m.p _ hok.p).mono ?_)
  rintro e V14 ⟨Xp, rfl, hXp, hnXp, kV14⟩
  have hlXp : ∀ j, Xp.ownBlock = some j → j < V14.heap.size := fun j hj => hXp.lt hj
  have hwXp : NewFrom w.heap.size Xp := fun j hj => by have := hnXp j hj; omega
  refine ⟨_, rfl, ?_⟩
  have h15 := kV14.bk h11
  have K16 := K12.nn kV14
  have z17 := kV14.size
  refine ps_k (o_rmfields 30 3) (.tuple #[Xp, .int .i64 m.p.err]) ?_
  refine ps_k (o_rmfields 30 4) (Xp) ?_
  refine ps_k (o_rmfields 30 5) (.int .i64 m.p.err) ?_
  refine ps_k (o_rmfields 30 6) (Xp) ?_
  refine ps_k (o_rmfields 30 7) (.int .i64 m.p.err) ?_
  refine ps_end ?_
  refine sy_a ⟨#[.agg (Msg.c m), pT gm 0, .slice none 0 0, Xa, .int .i64 m.a.err, Xb, .int .i64 m.b.err, Xp, .int .i64 m.p.err, undef, undef, .tuple #[Xa, .int .i64 m.a.err], pT gm 12, .agg (Att.c m.a), .tuple #[Xa, .int .i64 m.a.err], Xa, .int .i64 m.a.err, .tuple #[Xb, .int .i64 m.b.err], pT gm 48, .agg (Att.c m.b), .tuple #[Xb, .int .i64 m.b.err], Xb, .int .i64 m.b.err, .tuple #[Xp, .int .i64 m.p.err], pT gm 84, .agg (Pro.c m.p), .tuple #[Xp, .int .i64 m.p.err], Xp, .int .i64 m.p.err, undef, undef, undef, undef, undef, undef, undef, undef, undef, undef, undef, undef, undef, undef, undef, undef, undef, undef, undef, undef, undef, undef, undef, undef, undef, undef, undef, undef, undef, undef, undef, undef, undef, undef, undef, undef, undef, undef, undef, undef, undef, undef, undef, undef, undef, undef, undef, undef, undef, undef, undef, undef, undef, undef, undef, undef, undef, undef, undef, undef, undef, undef, undef, undef, undef, undef, undef, undef, undef, undef, undef, undef, undef, undef, undef, undef, undef, undef, undef, undef, undef, undef, undef, undef, undef, undef, undef, undef, undef, undef, undef, undef, undef], []⟩ ?_
  refine then_n ?_
  refine sy_sq (part_rmfields 62) (part_rmfields 63) ?_
  refine sy_reg ?_
  refine rg_plain 4 (opsAt (part_rmfields 62)) [0, 1, 2, 3, 4, 5, 6, 7] (by kernel_rfl) (by kernel_rfl) ?_
  refine ps_k (o_rmfields 62 0) (pT gm 119) ?_
  refine ps_p (o_rmfields 62 1) (.agg (Pro.c m.q)) (exec_load_seg 33 (.tmp 30) (by kernel_rfl) gm 119 (by kernel_rfl) (Pro.c m.q).toList _ _ _ h15 (Msg.seg_Q hr) Try.underlying33 rfl (by rw [Pro.tl hr.q]; kernel_rfl)) ?_
  refine ps_c (o_rmfields 62 2) 75 #[.agg (Pro.c m.q)] Try.func75 ((rvBytesBlock_tb m.q _ hok.q).mono ?_)
  rintro e V18 ⟨Xq, rfl, hXq, hnXq, kV18⟩
  have hlXq : ∀ j, Xq.ownBlock = some j → j < V18.heap.size := fun j hj => hXq.lt hj
  have hwXq : NewFrom w.heap.size Xq := fun j hj => by have := hnXq j hj; omega
  obtain ⟨zz, hzz⟩ : ∃ z, V18.heap.size = z := ⟨_, rfl⟩
  have hgz : gm < zz := by have := lt_of_block h15; have := kV18.size; omega
  refine ⟨_, rfl, ?_⟩
  have h19 := kV18.bk h15
  have K20 := K16.nn kV18
  have z21 := kV18.size
  refine ps_k (o_rmfields 62 3) (.tuple #[Xq, .int .i64 m.q.err]) ?_
  refine ps_k (o_rmfields 62 4) (Xq) ?_
  refine ps_k (o_rmfields 62 5) (.int .i64 m.q.err) ?_
  refine ps_k (o_rmfields 62 6) (Xq) ?_
  refine ps_k (o_rmfields 62 7) (.int .i64 m.q.err) ?_
  refine ps_end ?_
  refine then_n ?_
  refine sy_sq (part_rmfields 126) (part_rmfields 127) ?_
  refine sy_sq (part_rmfields 252) (part_rmfields 253) ?_
  refine sy_reg ?_
  refine rg_plain 5 (opsAt (part_rmfields 252)) [0, 1] (by kernel_rfl) (by kernel_rfl) ?_
  refine ps_k (o_rmfields 252 0) (pT gm 0) ?_
  refine ps_p (o_rmfields 252 1) (.int .i64 m.k) (exec_ld 3 (.tmp 35) gm 0 Try.underlying3 (rc (h19) (Msg.get_n hr NF.k))) ?_
  refine ps_end ?_
  refine then_n ?_
  refine sy_bk 0 (part_rmfields 506) ?_
  refine sy_sq (part_rmfields 1012) (part_rmfields 1013) ?_
  refine sy_reg ?_
  refine rg_plain 6 (opsAt (part_rmfields 1012)) [0, 1] (by kernel_rfl) (by kernel_rfl) ?_
  refine ps_p (o_rmfields 1012 0) (.bool false) (eqf ((m.k) : Int) ((1) : Int) (by omega)) ?_
  refine ps_k (o_rmfields 1012 1) (.bool false) ?_
  refine ps_end ?_
  refine then_n ?_
  refine sy_n (.tmp 37) (part_rmfields 2026) (part_rmfields 2027) ?_
  refine sy_sq (part_rmfields 4054) (part_rmfields 4055) ?_
  refine sy_reg ?_
  refine rg_plain 8 (opsAt (part_rmfields 4054)) [0, 1] (by kernel_rfl) (by kernel_rfl) ?_
  refine ps_p (o_rmfields 4054 0) (.bool false) (eqf ((m.k) : Int) ((2) : Int) (by omega)) ?_
  refine ps_k (o_rmfields 4054 1) (.bool false) ?_
  refine ps_end ?_
  refine then_n ?_
  refine sy_n (.tmp 46) (part_rmfields 8110) (part_rmfields 8111) ?_
  refine sy_sq (part_rmfields 16222) (part_rmfields 16223) ?_
  refine sy_reg ?_
  refine rg_plain 10 (opsAt (part_rmfields 16222)) [0, 1] (by kernel_rfl) (by kernel_rfl) ?_
  refine ps_p (o_rmfields 16222 0) (.bool false) (eqf ((m.k) : Int) ((3) : Int) (by omega)) ?_
  refine ps_k (o_rmfields 16222 1) (.bool false) ?_
  refine ps_end ?_
  refine then_n ?_
  refine sy_n (.tmp 54) (part_rmfields 32446) (part_rmfields 32447) ?_
  refine sy_sq (part_rmfields 64894) (part_rmfields 64895) ?_
  refine sy_reg ?_
  refine rg_plain 12 (opsAt (part_rmfields 64894)) [0, 1] (by kernel_rfl) (by kernel_rfl) ?_
  refine ps_p (o_rmfields 64894 0) (.bool false) (eqf ((m.k) : Int) ((4) : Int) (by omega)) ?_
  refine ps_k (o_rmfields 64894 1) (.bool false) ?_
  refine ps_end ?_
  refine then_n ?_
  refine sy_n (.tmp 63) (part_rmfields 129790) (part_rmfields 129791) ?_
  refine sy_sq (part_rmfields 259582) (part_rmfields 259583) ?_
  refine sy_reg ?_
  refine rg_plain 14 (opsAt (part_rmfields 259582)) [0, 1] (by kernel_rfl) (by kernel_rfl) ?_
  refine ps_p (o_rmfields 259582 0) (.bool false) (eqf ((m.k) : Int) ((5) : Int) (by omega)) ?_
  refine ps_k (o_rmfields 259582 1) (.bool false) ?_
  refine ps_end ?_
  refine then_n ?_
  refine sy_n (.tmp 73) (part_rmfields 519166) (part_rmfields 519167) ?_
  refine sy_sq (part_rmfields 1038334) (part_rmfields 1038335) ?_
  refine sy_reg ?_
  refine rg_plain 16 (opsAt (part_rmfields 1038334)) [0, 1] (by kernel_rfl) (by kernel_rfl) ?_
  refine ps_p (o_rmfields 1038334 0) (.bool false) (eqf ((m.k) : Int) ((6) : Int) (by omega)) ?_
  refine ps_k (o_rmfields 1038334 1) (.bool false) ?_
  refine ps_end ?_
  refine then_n ?_
  refine sy_n (.tmp 86) (part_rmfields 2076670) (part_rmfields 2076671) ?_
  refine sy_sq (part_rmfields 4153342) (part_rmfields 4153343) ?_
  refine sy_reg ?_
  refine rg_plain 18 (opsAt (part_rmfields 4153342)) [0, 1] (by kernel_rfl) (by kernel_rfl) ?_
  refine ps_p (o_rmfields 4153342 0) (.bool false) (eqf ((m.k) : Int) ((7) : Int) (by omega)) ?_
  refine ps_k (o_rmfields 4153342 1) (.bool false) ?_
  refine ps_end ?_
  refine sy_a ⟨#[.agg (Msg.c m), pT gm 0, .slice none 0 0, Xa, .int .i64 m.a.err, Xb, .int .i64 m.b.err, Xp, .int .i64 m.p.err, Xq, .int .i64 m.q.err, .tuple #[Xa, .int .i64 m.a.err], pT gm 12, .agg (Att.c m.a), .tuple #[Xa, .int .i64 m.a.err], Xa, .int .i64 m.a.err, .tuple #[Xb, .int .i64 m.b.err], pT gm 48, .agg (Att.c m.b), .tuple #[Xb, .int .i64 m.b.err], Xb, .int .i64 m.b.err, .tuple #[Xp, .int .i64 m.p.err], pT gm 84, .agg (Pro.c m.p), .tuple #[Xp, .int .i64 m.p.err], Xp, .int .i64 m.p.err, .tuple #[Xq, .int .i64 m.q.err], pT gm 119, .agg (Pro.c m.q), .tuple #[Xq, .int .i64 m.q.err], Xq, .int .i64 m.q.err, pT gm 0, .int .i64 m.k, .bool false, .bool false, undef, undef, undef, undef, undef, undef, undef, .bool false, .bool false, undef, undef, undef, undef, undef, undef, .bool false, .bool false, undef, undef, undef, undef, undef, undef, undef, .bool false, .bool false, undef, undef, undef, undef, undef, undef, undef, undef, .bool false, .bool false, undef, undef, undef, undef, undef, undef, undef, undef, undef, undef, undef, .bool false, .bool false, undef, .bool false, .bool false, undef, undef, undef, undef, undef, undef, undef, undef, undef, undef, undef, undef, undef, undef, undef, undef, undef, undef, undef, undef, undef, undef, undef, undef, undef, undef, undef, undef, undef, undef, undef], []⟩ ?_
  refine then_n ?_
  refine sy_n (.tmp 89) (part_rmfields 8306686) (part_rmfields 8306687) ?_
  refine sy_sq (part_rmfields 16613374) (part_rmfields 16613375) ?_
  refine sy_reg ?_
  refine rg_plain 20 (opsAt (part_rmfields 16613374)) [0, 1] (by kernel_rfl) (by kernel_rfl) ?_
  refine ps_p (o_rmfields 16613374 0) (.bool false) (eqf ((m.k) : Int) ((8) : Int) (by omega)) ?_
  refine ps_k (o_rmfields 16613374 1) (.bool false) ?_
  refine ps_end ?_
  refine then_n ?_
  refine sy_n (.tmp 92) (part_rmfields 33226750) (part_rmfields 33226751) ?_
  refine sy_sq (part_rmfields 66453502) (part_rmfields 66453503) ?_
  refine sy_reg ?_
  refine rg_plain 24 (opsAt (part_rmfields 66453502)) [0, 1] (by kernel_rfl) (by kernel_rfl) ?_
  refine ps_p (o_rmfields 66453502 0) (.bool false) (eqf ((m.k) : Int) ((9) : Int) (by omega)) ?_
  refine ps_k (o_rmfields 66453502 1) (.bool false) ?_
  refine ps_end ?_
  refine then_n ?_
  refine sy_n (.tmp 115) (part_rmfields 132907006) (part_rmfields 132907007) ?_
  refine sy_sk ?_
  refine blk_n ?_
  refine then_n ?_
  refine sy_sq (part_rmfields 254) (part_rmfields 255) ?_
  refine sy_reg ?_
  refine rg_plain 26 (opsAt (part_rmfields 254)) [0] (by kernel_rfl) (by kernel_rfl) ?_
  refine ps_k (o_rmfields 254 0) (.slice none 0 0) ?_
  refine ps_end ?_
  refine then_n ?_
  refine sy_ret (by kernel_rfl) ?_
  refine sy_out (.slice none 0 0) rfl (by kernel_rfl) ?_
  exact ⟨_, rfl, World.ownsRow_nil _ _ _ _, NewFrom.nil _, K20⟩
end Go.Proofs.Ytmapcghgdbfmhaa
