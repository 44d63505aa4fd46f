/-
  Messages: the laws' own functions, names (printed by msg11.py). Conditions: none.
-/
import Derived.Test.YtmapcghgdbfmhaaMsgH
import Derived.Test.YtmapcghgdbfmhaaMsgI
namespace Go.Proofs.Ytmapcghgdbfmhaa
open Go Go.RowKit Go.Own Go.Shelf
theorem mSameBytes {w : World} {a b : Value} {l m : List UInt8} (ha : BytesAt w a l) (hb : BytesAt w b m) (he : l = m) : Calls Try.prog 16 #[a, b] w fun e w' => e = .returned (.bool true) ∧ w = w' := by
  have := sameBytes_ok a b l m w ha hb
  rwa [show (l == m) = true by simpa using he] at this
theorem mBytes_is (m : Msg) (l : List UInt8) (w : World) (hok : m.Ok) (hc : m.chk = 0) (hb : m.by = l) : Calls Try.prog 14 #[.agg (Msg.c m)] w (fun e w' => ∃ X, e = .returned (.tuple #[X, .int .i64 0]) ∧ Row w' 5 1 X l.length (B l) ∧ NewFrom w.heap.size X ∧ Keeps Nob w w') :=
  (mBytes_any m w hok).mono fun e w' ⟨X, h1, h2, h3, h4⟩ => ⟨X, by rw [h1, hc], by rw [Msg.told, if_pos hc, hb] at h2; exact h2, h3, h4⟩
theorem mRead_is (v0 : Value) (l : List UInt8) (m : Msg) (e p : Int) (w : World) (hx : BytesAt w v0 l) (hl : l.length ≤ 100000000) (hz : mFin l = (e, p)) (hm : mRes l = m) : Calls Try.prog 11 #[v0] w (fun e' w' => e' = .returned (.tuple #[.agg (Msg.c m), .agg #[.int .i64 e, .int .i64 p]]) ∧ Keeps Nob w w') := by
  have := mRead_any v0 l w hx hl
  rw [hz, hm] at this; exact this
theorem eq_strB (a : ByteArray) (w : World) : (binOp .eql 9 (.string a) (.string a)).run Try.prog w = .ok (.bool true) w := by
  rw [binOp_string_eql]; simp
def Tx (ss : List ByteArray) : List Value := ss.map .string
theorem Tx_get {ss : List ByteArray} {i : Nat} {s : ByteArray} (h : ss[i]? = some s) : (Tx ss).toArray[i]? = some (.string s) := by simp [Tx, h]
theorem Tx_set (ss : List ByteArray) (i : Nat) (s : ByteArray) : (Tx ss).toArray.setIfInBounds i (.string s) = (Tx (ss.set i s)).toArray := by simp [Tx, List.map_set]

noncomputable def part_lmbytes (n : Nat) : Code := partOf Try.f35 n
noncomputable abbrev o_lmbytes (n k : Nat) : Oper := (opsAt (part_lmbytes n)).getD k default
set_option maxRecDepth 100000 in
set_option maxHeartbeats 4000000 in
theorem lmbytes_ok (m : Msg) (v0 : Value) (l : List UInt8) (w : World) (hok : m.Ok) (hc : m.chk = 0) (hb : m.by = l) (hz : mFin l = (0, 0)) (hm : mRes l = m) (hx : BytesAt w v0 l) (hl : l.length ≤ 100000000) :
    Calls Try.prog 35 #[.agg (Msg.c m), v0] w (fun e w' => e = .returned (.bool true) ∧ Keeps Nob w w') := by
  have hr := hok.R
  have K0 : Keeps Nob w w := Keeps.refl _ _
  refine sy_enter (part_lmbytes 1) ⟨#[.agg (Msg.c m), v0, undef, undef, undef, undef, undef, undef, undef, undef, undef, undef, undef, undef, undef, undef, undef, undef, undef, undef, undef, undef, undef, undef, undef, undef, undef, undef, undef, undef, undef, undef, undef, undef, undef, undef], []⟩ Try.func35 (by kernel_rfl) (by kernel_rfl) ?_
  refine sy_sq (part_lmbytes 2) (part_lmbytes 3) ?_
  refine sy_reg ?_
  refine rg_plain 0 (opsAt (part_lmbytes 2)) [0, 1] (by kernel_rfl) (by kernel_rfl) ?_
  obtain ⟨V1, eV1, gm, egm, h2, kV1⟩ := alloc_step w ((Msg.c m)) 35
  have n3 : w.heap.size ≤ gm := egm ▸ K0.size
  refine ps_r (o_lmbytes 2 0) (pT gm 0) (w' := V1) (by rw [← eV1, ← egm]; exact exec_box 35 (.tmp 0) (by kernel_rfl) (.agg (Msg.c m)) (by kernel_rfl)) ?_
  clear eV1
  have K4 := K0.nn kV1
  have z5 := kV1.size
  refine ps_k (o_lmbytes 2 1) (.bool false) ?_
  refine ps_end ?_
  refine then_n ?_
  refine sy_sq (part_lmbytes 6) (part_lmbytes 7) ?_
  refine sy_reg ?_
  refine rg_plain 1 (opsAt (part_lmbytes 6)) [0, 1, 2, 3, 4, 5, 6] (by kernel_rfl) (by kernel_rfl) ?_
  refine ps_p (o_lmbytes 6 0) (.agg (Msg.c m)) (exec_load_row 35 (.tmp 2) (by kernel_rfl) gm (by kernel_rfl) _ _ (0, 0) _ (h2) Try.underlying35 rfl (by rw [Msg.c_size hr]; kernel_rfl)) ?_
  refine ps_c (o_lmbytes 6 1) 14 #[.agg (Msg.c m)] Try.func14 ((mBytes_is m l _ hok hc hb).mono ?_)
  rintro e V6 ⟨X, rfl, hX, hnX, kV6⟩
  have hlX : ∀ j, X.ownBlock = some j → j < V6.heap.size := fun j hj => hX.lt hj
  refine ⟨_, rfl, ?_⟩
  have h7 := kV6.bk h2
  have K8 := K4.nn kV6
  have z9 := kV6.size
  refine ps_k (o_lmbytes 6 2) (.tuple #[X, .int .i64 0]) ?_
  refine ps_k (o_lmbytes 6 3) (X) ?_
  refine ps_k (o_lmbytes 6 4) (.int .i64 0) ?_
  refine ps_k (o_lmbytes 6 5) (X) ?_
  refine ps_k (o_lmbytes 6 6) (.int .i64 0) ?_
  refine ps_end ?_
  refine then_n ?_
  refine sy_sq (part_lmbytes 14) (part_lmbytes 15) ?_
  refine sy_reg ?_
  refine rg_plain 2 (opsAt (part_lmbytes 14)) [0, 1, 2, 3, 4, 5, 6, 7, 8] (by kernel_rfl) (by kernel_rfl) ?_
  refine ps_k (o_lmbytes 14 0) (v0) ?_
  refine ps_c (o_lmbytes 14 1) 11 #[v0] Try.func11 ((mRead_is _ l m 0 0 _ (hx.keepsN K8) hl hz hm).mono ?_)
  rintro e V10 ⟨rfl, kV10⟩
  refine ⟨_, rfl, ?_⟩
  have h11 := kV10.bk h7
  have h12 : Row V10 5 1 X l.length (B l) := hX.keeps kV10 (fun _ _ x => x)
  have K13 := K8.nn kV10
  have z14 := kV10.size
  refine ps_k (o_lmbytes 14 2) (.tuple #[.agg (Msg.c m), .agg #[.int .i64 0, .int .i64 0]]) ?_
  refine ps_k (o_lmbytes 14 3) (.agg (Msg.c m)) ?_
  refine ps_k (o_lmbytes 14 4) (.agg #[.int .i64 0, .int .i64 0]) ?_
  obtain ⟨V15, eV15, gr, egr, h16, kV15⟩ := alloc_step V10 ((Msg.c msgZ)) 35
  have n17 : gm < gr := egr ▸ lt_of_block h11
  have n18 : w.heap.size ≤ gr := egr ▸ K13.size
  refine ps_r (o_lmbytes 14 5) (pT gr 0) (w' := V15) (by rw [← eV15, ← egr]; exact exec_alloc0 35 (by kernel_rfl) (.agg ((Msg.c msgZ))) (by kernel_rfl)) ?_
  clear eV15
  have h19 := kV15.bk h11
  have h20 : Row V15 5 1 X l.length (B l) := h12.keeps kV15 (fun _ _ x => x)
  have K21 := K13.nn kV15
  have z22 := kV15.size
  obtain ⟨V23, eV23, gf, egf, h24, kV23⟩ := alloc_step V15 (#[.int .i64 0, .int .i64 0]) 38
  have n25 : gm < gf := egf ▸ lt_of_block h19
  have n26 : gr < gf := egf ▸ lt_of_block h16
  have n27 : w.heap.size ≤ gf := egf ▸ K21.size
  refine ps_r (o_lmbytes 14 6) (pT gf 0) (w' := V23) (by rw [← eV23, ← egf]; exact exec_alloc0 38 (by kernel_rfl) (.agg (#[.int .i64 0, .int .i64 0])) (by kernel_rfl)) ?_
  clear eV23
  have h28 := kV23.bk h19
  have h29 : Row V23 5 1 X l.length (B l) := h20.keeps kV23 (fun _ _ x => x)
  have h30 := kV23.bk h16
  have K31 := K21.nn kV23
  have z32 := kV23.size
  obtain ⟨V33, eV33, kV33⟩ := rowset_step V23 gr ((Msg.c m))
  have h34 : V33.heap[gr]? = some (.cells (Msg.c m) 35 (0, 0)) := eV33 ▸ setRow_heap _ _ _ _ _ _ h30
  refine ps_s (o_lmbytes 14 7) (w' := V33) (by rw [← eV33]; exact exec_store_row 35 (.tmp 7) (.tmp 17) (by kernel_rfl) gr ((Msg.c m)) (by kernel_rfl) (by kernel_rfl) 35 ((Msg.c msgZ)) h30 (by rw [Msg.c_size hr]; kernel_rfl) (by rw [Msg.c_size hr]; exact (Msg.c_size msgZ_R).symm) (Msg.c_one _)) ?_
  clear eV33
  have h35 := kV33.bo h28 (by omega)
  have h36 : Row V33 5 1 X l.length (B l) := h29.keeps kV33 (fun j hj e => by have := hlX j hj; unfold Own.One at e; omega)
  have h37 := kV33.bo h24 (by omega)
  have K38 := K31.no kV33 (by omega)
  have z39 := kV33.size
  obtain ⟨V40, eV40, kV40⟩ := rowset_step V33 gf (#[.int .i64 0, .int .i64 0])
  have h41 : V40.heap[gf]? = some (.cells (#[.int .i64 0, .int .i64 0]) 38 (0, 0)) := eV40 ▸ setRow_heap _ _ _ _ _ _ h37
  refine ps_s (o_lmbytes 14 8) (w' := V40) (by rw [← eV40]; exact exec_store_row 38 (.tmp 8) (.tmp 18) (by kernel_rfl) gf (#[.int .i64 0, .int .i64 0]) (by kernel_rfl) (by kernel_rfl) 38 (#[.int .i64 0, .int .i64 0]) h37 (by kernel_rfl) rfl (by kernel_rfl)) ?_
  clear eV40
  have h42 := kV40.bo h35 (by omega)
  have h43 : Row V40 5 1 X l.length (B l) := h36.keeps kV40 (fun j hj e => by have := hlX j hj; unfold Own.One at e; omega)
  have h44 := kV40.bo h34 (by omega)
  have K45 := K38.no kV40 (by omega)
  have z46 := kV40.size
  refine ps_end ?_
  refine then_n ?_
  refine sy_sq (part_lmbytes 30) (part_lmbytes 31) ?_
  refine sy_reg ?_
  refine rg_plain 3 (opsAt (part_lmbytes 30)) [0, 1, 2, 3, 4, 5, 6, 7, 8, 9, 10, 11, 12, 13, 14, 15, 16, 17] (by kernel_rfl) (by kernel_rfl) ?_
  refine ps_k (o_lmbytes 30 0) (.int .i64 0) ?_
  refine ps_k (o_lmbytes 30 1) (.bool true) ?_
  refine ps_k (o_lmbytes 30 2) (.bool true) ?_
  refine ps_k (o_lmbytes 30 3) (X) ?_
  refine ps_k (o_lmbytes 30 4) (v0) ?_
  refine ps_c (o_lmbytes 30 5) 16 #[X, v0] Try.func16 ((mSameBytes (Row.bytes h43) (hx.keepsN K45) rfl).mono ?_)
  rintro e w1 ⟨rfl, rfl⟩
  refine ⟨_, rfl, ?_⟩
  refine ps_k (o_lmbytes 30 6) (.bool true) ?_
  refine ps_k (o_lmbytes 30 7) (.bool true) ?_
  refine ps_p (o_lmbytes 30 8) (.agg #[.int .i64 0, .int .i64 0]) (exec_load_row 38 (.tmp 8) (by kernel_rfl) gf (by kernel_rfl) _ _ (0, 0) _ (h41) Try.underlying38 rfl (by kernel_rfl)) ?_
  refine ps_k (o_lmbytes 30 9) (.agg #[.int .i64 0, .int .i64 0]) ?_
  refine ps_p (o_lmbytes 30 10) (.bool true) (exec_cast (congrArg Value.bool (by simp)) (exec_binop .eql 38 38 (.tmp 27) (.tmp 28) (by kernel_rfl) (.agg #[.int .i64 0, .int .i64 0]) (.agg #[.int .i64 0, .int .i64 0]) _ (by kernel_rfl) (by kernel_rfl) (run_eqGuard_agg _ _ _ _ _ _ _ fault_guard) (fault_eq _ _ _ _ _))) ?_
  refine ps_k (o_lmbytes 30 11) (.bool true) ?_
  refine ps_k (o_lmbytes 30 12) (.bool true) ?_
  refine ps_p (o_lmbytes 30 13) (.agg (Msg.c m)) (exec_load_row 35 (.tmp 7) (by kernel_rfl) gr (by kernel_rfl) _ _ (0, 0) _ (h44) Try.underlying35 rfl (by rw [Msg.c_size hr]; kernel_rfl)) ?_
  refine ps_p (o_lmbytes 30 14) (.agg (Msg.c m)) (exec_load_row 35 (.tmp 2) (by kernel_rfl) gm (by kernel_rfl) _ _ (0, 0) _ (h42) Try.underlying35 rfl (by rw [Msg.c_size hr]; kernel_rfl)) ?_
  refine ps_p (o_lmbytes 30 15) (.bool true) (exec_cast (congrArg Value.bool (by simp)) (exec_binop .eql 35 35 (.tmp 32) (.tmp 33) (by kernel_rfl) (.agg (Msg.c m)) (.agg (Msg.c m)) _ (by kernel_rfl) (by kernel_rfl) (run_eqGuard_agg _ _ _ _ _ _ _ msg_guard) (msg_eq m m hr hr _))) ?_
  refine ps_k (o_lmbytes 30 16) (.bool true) ?_
  refine ps_k (o_lmbytes 30 17) (.bool true) ?_
  refine ps_end ?_
  refine sy_a ⟨#[.agg (Msg.c m), v0, pT gm 0, undef, .bool true, X, .int .i64 0, pT gr 0, pT gf 0, .tuple #[X, .int .i64 0], .agg (Msg.c m), .tuple #[X, .int .i64 0], X, .int .i64 0, .tuple #[.agg (Msg.c m), .agg #[.int .i64 0, .int .i64 0]], v0, .tuple #[.agg (Msg.c m), .agg #[.int .i64 0, .int .i64 0]], .agg (Msg.c m), .agg #[.int .i64 0, .int .i64 0], .int .i64 0, .bool true, .bool true, X, v0, .bool true, .bool true, .bool true, .agg #[.int .i64 0, .int .i64 0], .agg #[.int .i64 0, .int .i64 0], .bool true, .bool true, .bool true, .agg (Msg.c m), .agg (Msg.c m), .bool true, .bool true], []⟩ ?_
  refine then_n ?_
  refine sy_ret (by kernel_rfl) ?_
  refine sy_out (.bool true) rfl (by kernel_rfl) ?_
  exact ⟨rfl, K45⟩
noncomputable def part_lmfails (n : Nat) : Code := partOf Try.f36 n
noncomputable abbrev o_lmfails (n k : Nat) : Oper := (opsAt (part_lmfails n)).getD k default
set_option maxRecDepth 100000 in
set_option maxHeartbeats 4000000 in
theorem lmfails_ok (er at_ : Int) (v0 : Value) (l : List UInt8) (w : World) (hz : mFin l = (er, at_)) (hm : mRes l = msgZ) (hx : BytesAt w v0 l) (hl : l.length ≤ 100000000) :
    Calls Try.prog 36 #[.int .i64 er, .int .i64 at_, v0] w (fun e w' => e = .returned (.bool true) ∧ Keeps Nob w w') := by
  have K0 : Keeps Nob w w := Keeps.refl _ _
  refine sy_enter (part_lmfails 1) ⟨#[.int .i64 er, .int .i64 at_, v0, undef, undef, undef, undef, undef, undef, undef, undef, undef, undef, undef, undef, undef, undef, undef, undef, undef, undef, undef, undef, undef], []⟩ Try.func36 (by kernel_rfl) (by kernel_rfl) ?_
  refine sy_sq (part_lmfails 2) (part_lmfails 3) ?_
  refine sy_reg ?_
  refine rg_plain 0 (opsAt (part_lmfails 2)) [0] (by kernel_rfl) (by kernel_rfl) ?_
  refine ps_k (o_lmfails 2 0) (.bool false) ?_
  refine ps_end ?_
  refine then_n ?_
  refine sy_sq (part_lmfails 6) (part_lmfails 7) ?_
  refine sy_reg ?_
  refine rg_plain 1 (opsAt (part_lmfails 6)) [0, 1, 2, 3, 4, 5, 6, 7, 8] (by kernel_rfl) (by kernel_rfl) ?_
  refine ps_k (o_lmfails 6 0) (v0) ?_
  refine ps_c (o_lmfails 6 1) 11 #[v0] Try.func11 ((mRead_is _ l msgZ er at_ _ hx hl hz hm).mono ?_)
  rintro e V1 ⟨rfl, kV1⟩
  refine ⟨_, rfl, ?_⟩
  have K2 := K0.nn kV1
  have z3 := kV1.size
  refine ps_k (o_lmfails 6 2) (.tuple #[.agg (Msg.c msgZ), .agg #[.int .i64 er, .int .i64 at_]]) ?_
  refine ps_k (o_lmfails 6 3) (.agg (Msg.c msgZ)) ?_
  refine ps_k (o_lmfails 6 4) (.agg #[.int .i64 er, .int .i64 at_]) ?_
  obtain ⟨V4, eV4, gr, egr, h5, kV4⟩ := alloc_step V1 ((Msg.c msgZ)) 35
  have n6 : w.heap.size ≤ gr := egr ▸ K2.size
  refine ps_r (o_lmfails 6 5) (pT gr 0) (w' := V4) (by rw [← eV4, ← egr]; exact exec_alloc0 35 (by kernel_rfl) (.agg ((Msg.c msgZ))) (by kernel_rfl)) ?_
  clear eV4
  have K7 := K2.nn kV4
  have z8 := kV4.size
  obtain ⟨V9, eV9, gf, egf, h10, kV9⟩ := alloc_step V4 (#[.int .i64 0, .int .i64 0]) 38
  have n11 : gr < gf := egf ▸ lt_of_block h5
  have n12 : w.heap.size ≤ gf := egf ▸ K7.size
  refine ps_r (o_lmfails 6 6) (pT gf 0) (w' := V9) (by rw [← eV9, ← egf]; exact exec_alloc0 38 (by kernel_rfl) (.agg (#[.int .i64 0, .int .i64 0])) (by kernel_rfl)) ?_
  clear eV9
  have h13 := kV9.bk h5
  have K14 := K7.nn kV9
  have z15 := kV9.size
  obtain ⟨V16, eV16, kV16⟩ := rowset_step V9 gr ((Msg.c msgZ))
  have h17 : V16.heap[gr]? = some (.cells (Msg.c msgZ) 35 (0, 0)) := eV16 ▸ setRow_heap _ _ _ _ _ _ h13
  refine ps_s (o_lmfails 6 7) (w' := V16) (by rw [← eV16]; exact exec_store_row 35 (.tmp 7) (.tmp 12) (by kernel_rfl) gr ((Msg.c msgZ)) (by kernel_rfl) (by kernel_rfl) 35 ((Msg.c msgZ)) h13 (by rw [Msg.c_size msgZ_R]; kernel_rfl) rfl (Msg.c_one _)) ?_
  clear eV16
  have h18 := kV16.bo h10 (by omega)
  have K19 := K14.no kV16 (by omega)
  have z20 := kV16.size
  obtain ⟨V21, eV21, kV21⟩ := rowset_step V16 gf (#[.int .i64 er, .int .i64 at_])
  have h22 : V21.heap[gf]? = some (.cells (#[.int .i64 er, .int .i64 at_]) 38 (0, 0)) := eV21 ▸ setRow_heap _ _ _ _ _ _ h18
  refine ps_s (o_lmfails 6 8) (w' := V21) (by rw [← eV21]; exact exec_store_row 38 (.tmp 8) (.tmp 13) (by kernel_rfl) gf (#[.int .i64 er, .int .i64 at_]) (by kernel_rfl) (by kernel_rfl) 38 (#[.int .i64 0, .int .i64 0]) h18 (by kernel_rfl) rfl (by kernel_rfl)) ?_
  clear eV21
  have h23 := kV21.bo h17 (by omega)
  have K24 := K19.no kV21 (by omega)
  have z25 := kV21.size
  refine ps_end ?_
  refine then_n ?_
  refine sy_sq (part_lmfails 14) (part_lmfails 15) ?_
  refine sy_reg ?_
  refine rg_plain 2 (opsAt (part_lmfails 14)) [0, 1, 2, 3, 4, 5, 6, 7, 8, 9, 10] (by kernel_rfl) (by kernel_rfl) ?_
  refine ps_p (o_lmfails 14 0) (.agg (Msg.c msgZ)) (exec_load_row 35 (.tmp 7) (by kernel_rfl) gr (by kernel_rfl) _ _ (0, 0) _ (h23) Try.underlying35 rfl (by rw [Msg.c_size msgZ_R]; kernel_rfl)) ?_
  refine ps_k (o_lmfails 14 1) (.agg (Msg.c msgZ)) ?_
  refine ps_p (o_lmfails 14 2) (.bool true) (exec_cast (congrArg Value.bool (by simp)) (exec_binop .eql 35 35 (.tmp 14) (.tmp 15) (by kernel_rfl) (.agg (Msg.c msgZ)) (.agg (Msg.c msgZ)) _ (by kernel_rfl) (by kernel_rfl) (run_eqGuard_agg _ _ _ _ _ _ _ msg_guard) (msg_eq msgZ msgZ msgZ_R msgZ_R _))) ?_
  refine ps_k (o_lmfails 14 3) (.bool true) ?_
  refine ps_p (o_lmfails 14 4) (.agg #[.int .i64 er, .int .i64 at_]) (exec_load_row 38 (.tmp 8) (by kernel_rfl) gf (by kernel_rfl) _ _ (0, 0) _ (h22) Try.underlying38 rfl (by kernel_rfl)) ?_
  refine ps_k (o_lmfails 14 5) (.int .i64 er) ?_
  refine ps_k (o_lmfails 14 6) (.int .i64 at_) ?_
  refine ps_k (o_lmfails 14 7) (.agg #[.int .i64 er, .int .i64 at_]) ?_
  refine ps_p (o_lmfails 14 8) (.bool true) (exec_cast (congrArg Value.bool (by simp)) (exec_binop .eql 38 38 (.tmp 18) (.tmp 21) (by kernel_rfl) (.agg #[.int .i64 er, .int .i64 at_]) (.agg #[.int .i64 er, .int .i64 at_]) _ (by kernel_rfl) (by kernel_rfl) (run_eqGuard_agg _ _ _ _ _ _ _ fault_guard) (fault_eq _ _ _ _ _))) ?_
  refine ps_k (o_lmfails 14 9) (.bool true) ?_
  refine ps_k (o_lmfails 14 10) (.bool true) ?_
  refine ps_end ?_
  refine then_n ?_
  refine sy_ret (by kernel_rfl) ?_
  refine sy_out (.bool true) rfl (by kernel_rfl) ?_
  exact ⟨rfl, K24⟩
theorem vzA : (⟨0, 0, 0, zeroH, 0⟩ : Att).Ok := ⟨by decide, by decide, by decide, rfl, by decide⟩
theorem vzP : (⟨0, 0, zeroH, 0⟩ : Pro).Ok := ⟨by decide, by decide, rfl, by decide⟩
def mA : Msg := ⟨1, 2, 0, 3, 300, 0, 0, 0, 0, 0, 0, 0, ⟨0, 0, 0, zeroH, 0⟩, ⟨0, 0, 0, zeroH, 0⟩, ⟨0, 0, zeroH, 0⟩, ⟨0, 0, zeroH, 0⟩⟩
theorem mA_ok : mA.Ok := ⟨by decide, by decide, by decide, by decide, by decide, by decide, by decide, by decide, by decide, by decide, by decide, by decide, vzA, vzA, vzP, vzP⟩
theorem mA_c : mA.chk = 0 := by kernel_rfl
theorem mA_b : mA.by = [1, 2, 3, 172, 2] := by kernel_rfl
theorem mA_z : mFin [1, 2, 3, 172, 2] = (0, 0) := by kernel_rfl
theorem mA_m : mRes [1, 2, 3, 172, 2] = mA := by kernel_rfl
def mB : Msg := ⟨4, 2, 0, 0, 9, 0, 1, 7, -1, 0, 0, 0, ⟨0, 0, 0, zeroH, 0⟩, ⟨0, 0, 0, zeroH, 0⟩, ⟨0, 0, zeroH, 0⟩, ⟨0, 0, zeroH, 0⟩⟩
theorem mB_ok : mB.Ok := ⟨by decide, by decide, by decide, by decide, by decide, by decide, by decide, by decide, by decide, by decide, by decide, by decide, vzA, vzA, vzP, vzP⟩
theorem mB_c : mB.chk = 0 := by kernel_rfl
theorem mB_b : mB.by = [4, 2, 1, 7, 0, 0, 9] := by kernel_rfl
theorem mB_z : mFin [4, 2, 1, 7, 0, 0, 9] = (0, 0) := by kernel_rfl
theorem mB_m : mRes [4, 2, 1, 7, 0, 0, 9] = mB := by kernel_rfl
theorem f12_z : mFin [12] = (3, 0) := by kernel_rfl
theorem f12_m : mRes [12] = msgZ := by kernel_rfl
noncomputable def part_lmawake (n : Nat) : Code := partOf Try.f9 n
noncomputable abbrev o_lmawake (n k : Nat) : Oper := (opsAt (part_lmawake n)).getD k default
set_option maxRecDepth 100000 in
set_option maxHeartbeats 4000000 in
theorem lmawake_ok (w : World) :
    Calls Try.prog 9 #[] w (fun e w' => e = .returned (.bool true) ∧ Keeps Nob w w') := by
  have K0 : Keeps Nob w w := Keeps.refl _ _
  refine sy_enter (part_lmawake 1) ⟨#[undef, undef, undef, undef, undef, undef, undef, undef, undef, undef, undef, undef, undef, undef], []⟩ Try.func9 (by kernel_rfl) (by kernel_rfl) ?_
  refine sy_sq (part_lmawake 2) (part_lmawake 3) ?_
  refine sy_reg ?_
  refine rg_plain 0 (opsAt (part_lmawake 2)) [0] (by kernel_rfl) (by kernel_rfl) ?_
  refine ps_k (o_lmawake 2 0) (.bool false) ?_
  refine ps_end ?_
  refine then_n ?_
  refine sy_sq (part_lmawake 6) (part_lmawake 7) ?_
  refine sy_reg ?_
  refine rg_plain 1 (opsAt (part_lmawake 6)) [0, 1, 2, 3, 4, 5, 6, 7, 8, 9, 10, 11, 12, 13] (by kernel_rfl) (by kernel_rfl) ?_
  refine ps_k (o_lmawake 6 0) (.agg (Msg.c mA)) ?_
  obtain ⟨V1, eV1, g1, eg1, h2, kV1⟩ := alloc_step w (#[.int .u8 1, .int .u8 2, .int .u8 3, .int .u8 172, .int .u8 2]) 5
  have n3 : w.heap.size ≤ g1 := eg1 ▸ K0.size
  refine ps_r (o_lmawake 6 1) (.slice (some ⟨g1, 0, none⟩) 5 5) (w' := V1) (by rw [← eV1, ← eg1]; kernel_rfl) ?_
  have K4 := K0.nn kV1
  have z5 := kV1.size
  refine ps_c (o_lmawake 6 2) 35 #[.agg (Msg.c mA), .slice (some ⟨g1, 0, none⟩) 5 5] Try.func35 ((lmbytes_ok mA _ [1, 2, 3, 172, 2] _ mA_ok mA_c mA_b mA_z mA_m (Own.bytes_of_block h2 (by kernel_rfl) rfl (by decide)) (by decide)).mono ?_)
  rintro e V6 ⟨rfl, kV6⟩
  refine ⟨_, rfl, ?_⟩
  have h7 := kV6.bk h2
  have K8 := K4.nn kV6
  have z9 := kV6.size
  refine ps_k (o_lmawake 6 3) (.bool true) ?_
  refine ps_k (o_lmawake 6 4) (.agg #[.int .i64 1, .int .i64 7, .int .i64 (-1), .int .i64 0]) ?_
  refine ps_k (o_lmawake 6 5) (.agg (Msg.c mB)) ?_
  obtain ⟨V10, eV10, g2, eg2, h11, kV10⟩ := alloc_step V6 (#[.int .u8 4, .int .u8 2, .int .u8 1, .int .u8 7, .int .u8 0, .int .u8 0, .int .u8 9]) 5
  have n12 : g1 < g2 := eg2 ▸ lt_of_block h7
  have n13 : w.heap.size ≤ g2 := eg2 ▸ K8.size
  refine ps_r (o_lmawake 6 6) (.slice (some ⟨g2, 0, none⟩) 7 7) (w' := V10) (by rw [← eV10, ← eg2]; kernel_rfl) ?_
  have h14 := kV10.bk h7
  have K15 := K8.nn kV10
  have z16 := kV10.size
  refine ps_c (o_lmawake 6 7) 35 #[.agg (Msg.c mB), .slice (some ⟨g2, 0, none⟩) 7 7] Try.func35 ((lmbytes_ok mB _ [4, 2, 1, 7, 0, 0, 9] _ mB_ok mB_c mB_b mB_z mB_m (Own.bytes_of_block h11 (by kernel_rfl) rfl (by decide)) (by decide)).mono ?_)
  rintro e V17 ⟨rfl, kV17⟩
  refine ⟨_, rfl, ?_⟩
  have h18 := kV17.bk h14
  have h19 := kV17.bk h11
  have K20 := K15.nn kV17
  have z21 := kV17.size
  refine ps_k (o_lmawake 6 8) (.bool true) ?_
  refine ps_k (o_lmawake 6 9) (.bool true) ?_
  obtain ⟨V22, eV22, g3, eg3, h23, kV22⟩ := alloc_step V17 (#[.int .u8 12]) 5
  have n24 : g1 < g3 := eg3 ▸ lt_of_block h18
  have n25 : g2 < g3 := eg3 ▸ lt_of_block h19
  have n26 : w.heap.size ≤ g3 := eg3 ▸ K20.size
  refine ps_r (o_lmawake 6 10) (.slice (some ⟨g3, 0, none⟩) 1 1) (w' := V22) (by rw [← eV22, ← eg3]; kernel_rfl) ?_
  have h27 := kV22.bk h18
  have h28 := kV22.bk h19
  have K29 := K20.nn kV22
  have z30 := kV22.size
  refine ps_c (o_lmawake 6 11) 36 #[.int .i64 3, .int .i64 0, .slice (some ⟨g3, 0, none⟩) 1 1] Try.func36 ((lmfails_ok 3 0 _ [12] _ f12_z f12_m (Own.bytes_of_block h23 (by kernel_rfl) rfl (by decide)) (by decide)).mono ?_)
  rintro e V31 ⟨rfl, kV31⟩
  refine ⟨_, rfl, ?_⟩
  have h32 := kV31.bk h27
  have h33 := kV31.bk h28
  have h34 := kV31.bk h23
  have K35 := K29.nn kV31
  have z36 := kV31.size
  refine ps_k (o_lmawake 6 12) (.bool true) ?_
  refine ps_k (o_lmawake 6 13) (.bool true) ?_
  refine ps_end ?_
  refine then_n ?_
  refine sy_ret (by kernel_rfl) ?_
  refine sy_out (.bool true) rfl (by kernel_rfl) ?_
  exact ⟨rfl, K35⟩
def namesL : List ByteArray := [⟨#[116, 114, 97, 110, 115, 102, 101, 114]⟩, ⟨#[99, 114, 101, 97, 116, 101]⟩, ⟨#[100, 101, 108, 101, 103, 97, 116, 101]⟩, ⟨#[117, 110, 100, 101, 108, 101, 103, 97, 116, 101]⟩, ⟨#[114, 101, 100, 101, 108, 101, 103, 97, 116, 101]⟩, ⟨#[97, 116, 116, 101, 115, 116]⟩, ⟨#[112, 114, 111, 112, 111, 115, 101]⟩, ⟨#[101, 118, 105, 100, 101, 110, 99, 101]⟩, ⟨#[117, 110, 106, 97, 105, 108]⟩, ⟨#[99, 108, 97, 105, 109]⟩, ⟨#[116, 105, 99, 107]⟩]
noncomputable def part_mNames (n : Nat) : Code := partOf Try.f22 n
noncomputable abbrev o_mNames (n k : Nat) : Oper := (opsAt (part_mNames n)).getD k default
set_option maxRecDepth 100000 in
set_option maxHeartbeats 4000000 in
theorem mNames_ok (w : World) :
    Calls Try.prog 22 #[] w (fun e w' => ∃ g, e = .returned (.slice (some ⟨g, 0, none⟩) 11 11) ∧ w'.heap[g]? = some (.cells (Tx namesL).toArray 9 (0, 0)) ∧ w.heap.size ≤ g ∧ Keeps Nob w w') := by
  have K0 : Keeps Nob w w := Keeps.refl _ _
  refine sy_enter (part_mNames 1) ⟨#[undef, undef], []⟩ Try.func22 (by kernel_rfl) (by kernel_rfl) ?_
  refine sy_sq (part_mNames 2) (part_mNames 3) ?_
  refine sy_reg ?_
  refine rg_plain 0 (opsAt (part_mNames 2)) [0] (by kernel_rfl) (by kernel_rfl) ?_
  refine ps_k (o_mNames 2 0) (.slice none 0 0) ?_
  refine ps_end ?_
  refine then_n ?_
  refine sy_sq (part_mNames 6) (part_mNames 7) ?_
  refine sy_reg ?_
  refine rg_plain 1 (opsAt (part_mNames 6)) [0, 1] (by kernel_rfl) (by kernel_rfl) ?_
  obtain ⟨V1, eV1, g, eg, h2, kV1⟩ := alloc_step w (#[.string { data := #[116, 114, 97, 110, 115, 102, 101, 114] }, .string { data := #[99, 114, 101, 97, 116, 101] }, .string { data := #[100, 101, 108, 101, 103, 97, 116, 101] }, .string { data := #[117, 110, 100, 101, 108, 101, 103, 97, 116, 101] }, .string { data := #[114, 101, 100, 101, 108, 101, 103, 97, 116, 101] }, .string { data := #[97, 116, 116, 101, 115, 116] }, .string { data := #[112, 114, 111, 112, 111, 115, 101] }, .string { data := #[101, 118, 105, 100, 101, 110, 99, 101] }, .string { data := #[117, 110, 106, 97, 105, 108] }, .string { data := #[99, 108, 97, 105, 109] }, .string { data := #[116, 105, 99, 107] }]) 9
  have n3 : w.heap.size ≤ g := eg ▸ K0.size
  refine ps_r (o_mNames 6 0) (.slice (some ⟨g, 0, none⟩) 11 11) (w' := V1) (by rw [← eV1, ← eg]; kernel_rfl) ?_
  have K4 := K0.nn kV1
  have z5 := kV1.size
  refine ps_k (o_mNames 6 1) (.slice (some ⟨g, 0, none⟩) 11 11) ?_
  refine ps_end ?_
  refine then_n ?_
  refine sy_ret (by kernel_rfl) ?_
  refine sy_out (.slice (some ⟨g, 0, none⟩) 11 11) rfl (by kernel_rfl) ?_
  exact ⟨g, rfl, h2.trans (by kernel_rfl), by omega, K4⟩
noncomputable def part_rmNames (n : Nat) : Code := partOf Try.f24 n
noncomputable abbrev o_rmNames (n k : Nat) : Oper := (opsAt (part_rmNames n)).getD k default
set_option maxRecDepth 100000 in
set_option maxHeartbeats 4000000 in
theorem rmNames_ok (w : World) :
    Calls Try.prog 24 #[] w (fun e w' => ∃ g, e = .returned (.slice (some ⟨g, 0, none⟩) 11 11) ∧ w'.heap[g]? = some (.cells (Tx namesL).toArray 9 (0, 0)) ∧ w.heap.size ≤ g ∧ Keeps Nob w w') := by
  have K0 : Keeps Nob w w := Keeps.refl _ _
  refine sy_enter (part_rmNames 1) ⟨#[undef, undef], []⟩ Try.func24 (by kernel_rfl) (by kernel_rfl) ?_
  refine sy_sq (part_rmNames 2) (part_rmNames 3) ?_
  refine sy_reg ?_
  refine rg_plain 0 (opsAt (part_rmNames 2)) [0] (by kernel_rfl) (by kernel_rfl) ?_
  refine ps_k (o_rmNames 2 0) (.slice none 0 0) ?_
  refine ps_end ?_
  refine then_n ?_
  refine sy_sq (part_rmNames 6) (part_rmNames 7) ?_
  refine sy_reg ?_
  refine rg_plain 1 (opsAt (part_rmNames 6)) [0, 1] (by kernel_rfl) (by kernel_rfl) ?_
  obtain ⟨V1, eV1, g, eg, h2, kV1⟩ := alloc_step w (#[.string { data := #[116, 114, 97, 110, 115, 102, 101, 114] }, .string { data := #[99, 114, 101, 97, 116, 101] }, .string { data := #[100, 101, 108, 101, 103, 97, 116, 101] }, .string { data := #[117, 110, 100, 101, 108, 101, 103, 97, 116, 101] }, .string { data := #[114, 101, 100, 101, 108, 101, 103, 97, 116, 101] }, .string { data := #[97, 116, 116, 101, 115, 116] }, .string { data := #[112, 114, 111, 112, 111, 115, 101] }, .string { data := #[101, 118, 105, 100, 101, 110, 99, 101] }, .string { data := #[117, 110, 106, 97, 105, 108] }, .string { data := #[99, 108, 97, 105, 109] }, .string { data := #[116, 105, 99, 107] }]) 9
  have n3 : w.heap.size ≤ g := eg ▸ K0.size
  refine ps_r (o_rmNames 6 0) (.slice (some ⟨g, 0, none⟩) 11 11) (w' := V1) (by rw [← eV1, ← eg]; kernel_rfl) ?_
  have K4 := K0.nn kV1
  have z5 := kV1.size
  refine ps_k (o_rmNames 6 1) (.slice (some ⟨g, 0, none⟩) 11 11) ?_
  refine ps_end ?_
  refine then_n ?_
  refine sy_ret (by kernel_rfl) ?_
  refine sy_out (.slice (some ⟨g, 0, none⟩) 11 11) rfl (by kernel_rfl) ?_
  exact ⟨g, rfl, h2.trans (by kernel_rfl), by omega, K4⟩
noncomputable def part_kSameTexts (n : Nat) : Code := partOf Try.f23 n
noncomputable abbrev o_kSameTexts (n k : Nat) : Oper := (opsAt (part_kSameTexts n)).getD k default
set_option maxRecDepth 100000 in
set_option maxHeartbeats 4000000 in
theorem kSameTexts_ok (p q : Nat) (ss : List ByteArray) (w : World) (ha : w.heap[p]? = some (.cells (Tx ss).toArray 9 (0, 0))) (hb : w.heap[q]? = some (.cells (Tx ss).toArray 9 (0, 0))) (hl : ss.length ≤ 1000) :
    Calls Try.prog 23 #[.slice (some ⟨p, 0, none⟩) ss.length ss.length, .slice (some ⟨q, 0, none⟩) ss.length ss.length] w (fun e w' => e = .returned (.bool true) ∧ Keeps Nob w w') := by
  have K0 : Keeps Nob w w := Keeps.refl _ _
  refine sy_enter (part_kSameTexts 1) ⟨#[.slice (some ⟨p, 0, none⟩) ss.length ss.length, .slice (some ⟨q, 0, none⟩) ss.length ss.length, undef, undef, undef, undef, undef, undef, undef, undef, undef, undef, undef, undef, undef, undef, undef, undef, undef, undef, undef, undef, undef, undef, undef, undef, undef, undef, undef, undef, undef], []⟩ Try.func23 (by kernel_rfl) (by kernel_rfl) ?_
  refine sy_sq (part_kSameTexts 2) (part_kSameTexts 3) ?_
  refine sy_reg ?_
  refine rg_plain 0 (opsAt (part_kSameTexts 2)) [0] (by kernel_rfl) (by kernel_rfl) ?_
  refine ps_k (o_kSameTexts 2 0) (.bool false) ?_
  refine ps_end ?_
  refine then_n ?_
  refine sy_sq (part_kSameTexts 6) (part_kSameTexts 7) ?_
  refine sy_reg ?_
  refine rg_plain 1 (opsAt (part_kSameTexts 6)) [0, 1, 2, 3, 4, 5] (by kernel_rfl) (by kernel_rfl) ?_
  refine ps_k (o_kSameTexts 6 0) (.slice (some ⟨p, 0, none⟩) ss.length ss.length) ?_
  refine ps_p (o_kSameTexts 6 1) (iN ss.length) (exec_len (.tmp 7) 49 _ (by kernel_rfl) Try.underlying49 (some ⟨p, 0, none⟩) ss.length ss.length (by kernel_rfl)) ?_
  refine ps_k (o_kSameTexts 6 2) (.slice (some ⟨q, 0, none⟩) ss.length ss.length) ?_
  refine ps_p (o_kSameTexts 6 3) (iN ss.length) (exec_len (.tmp 9) 49 _ (by kernel_rfl) Try.underlying49 (some ⟨q, 0, none⟩) ss.length ss.length (by kernel_rfl)) ?_
  refine ps_p (o_kSameTexts 6 4) (.bool true) (eqt (((ss.length : Nat) : Int)) (((ss.length : Nat) : Int)) (by omega)) ?_
  refine ps_k (o_kSameTexts 6 5) (.bool true) ?_
  refine ps_end ?_
  refine then_n ?_
  refine sy_sq (part_kSameTexts 14) (part_kSameTexts 15) ?_
  refine sy_sq (part_kSameTexts 28) (part_kSameTexts 29) ?_
  refine sy_reg ?_
  refine rg_plain 2 (opsAt (part_kSameTexts 28)) [0] (by kernel_rfl) (by kernel_rfl) ?_
  refine ps_k (o_kSameTexts 28 0) (.int .i64 0) ?_
  refine ps_end ?_
  refine then_n ?_
  refine sy_bk 0 (part_kSameTexts 58) ?_
  refine sy_loop (part_kSameTexts 116) (fun a V => ∃ (i : Nat) (u12 u13 u14 u15 u16 u17 u18 u19 u20 u21 u22 u23 u24 u25 u26 u27 u28 u29 : Value), (a = ⟨#[.slice (some ⟨p, 0, none⟩) ss.length ss.length, .slice (some ⟨q, 0, none⟩) ss.length ss.length, undef, undef, .bool false, .bool true, iN i, .slice (some ⟨p, 0, none⟩) ss.length ss.length, iN ss.length, .slice (some ⟨q, 0, none⟩) ss.length ss.length, iN ss.length, .bool true, u12, u13, u14, u15, u16, u17, u18, u19, u20, u21, u22, u23, u24, u25, u26, u27, u28, u29, undef], []⟩) ∧ (i ≤ ss.length) ∧ (Keeps Nob w V)) (fun a _ => ss.length - (intOf (a.tmps.getD 6 undef)).toNat) (by kernel_rfl) ?_ ?_
  · exact ⟨0, undef, undef, undef, undef, undef, undef, undef, undef, undef, undef, undef, undef, undef, undef, undef, undef, undef, undef, by kernel_rfl, Nat.zero_le _, K0⟩
  · rintro a V1 ⟨i, u12, u13, u14, u15, u16, u17, u18, u19, u20, u21, u22, u23, u24, u25, u26, u27, u28, u29, rfl, hi, K2⟩
    by_cases lt_i : i < ss.length
    · obtain ⟨x, hx⟩ : ∃ x, ss[i]? = some x := ⟨_, List.getElem?_eq_getElem lt_i⟩
      refine sy_sq (part_kSameTexts 232) (part_kSameTexts 233) ?_
      refine sy_sq (part_kSameTexts 464) (part_kSameTexts 465) ?_
      refine sy_reg ?_
      refine rg_plain 3 (opsAt (part_kSameTexts 464)) [0, 1, 2, 3, 4, 5, 6] (by kernel_rfl) (by kernel_rfl) ?_
      refine ps_k (o_kSameTexts 464 0) (.bool true) ?_
      refine ps_k (o_kSameTexts 464 1) (.bool true) ?_
      refine ps_k (o_kSameTexts 464 2) (iN i) ?_
      refine ps_k (o_kSameTexts 464 3) (.slice (some ⟨p, 0, none⟩) ss.length ss.length) ?_
      refine ps_p (o_kSameTexts 464 4) (iN ss.length) (exec_len (.tmp 15) 49 _ (by kernel_rfl) Try.underlying49 (some ⟨p, 0, none⟩) ss.length ss.length (by kernel_rfl)) ?_
      refine ps_p (o_kSameTexts 464 5) (.bool true) (dct ((((i : Nat) : Int)) < (((ss.length : Nat) : Int))) (by omega)) ?_
      refine ps_k (o_kSameTexts 464 6) (.bool true) ?_
      refine ps_end ?_
      refine then_n ?_
      refine sy_ys (.tmp 18) (part_kSameTexts 930) (part_kSameTexts 931) ?_
      refine sy_sk ?_
      refine then_n ?_
      refine sy_sq (part_kSameTexts 466) (part_kSameTexts 467) ?_
      refine sy_bk 1 (part_kSameTexts 932) ?_
      refine sy_reg ?_
      refine rg_still 5 9 (opsAt (part_kSameTexts 932)) [o_kSameTexts 932 0, o_kSameTexts 932 1, o_kSameTexts 932 2, o_kSameTexts 932 3, o_kSameTexts 932 4, o_kSameTexts 932 5, o_kSameTexts 932 6, o_kSameTexts 932 7, o_kSameTexts 932 8] [o_kSameTexts 932 9] (by kernel_rfl) (by kernel_rfl) (by kernel_rfl) (by kernel_rfl) (by kernel_rfl) ?_
      obtain ⟨V4, eV4, kV4⟩ := drew_step V1
      rw [eV4]
      clear eV4
      have K5 := K2.nn kV4
      have z6 := kV4.size
      refine st_k (o_kSameTexts 932 0) (.slice (some ⟨p, 0, none⟩) ss.length ss.length) ?_
      refine st_k (o_kSameTexts 932 1) (iN i) ?_
      refine st_p (o_kSameTexts 932 2) (pT p i) (exec_cast (v := pT p (0 + i * 1)) (by simp) (exec_indexAt_slice 49 (.tmp 21) (.tmp 22) (by kernel_rfl) p 0 ss.length ss.length (by kernel_rfl) .i64 i (by kernel_rfl) _ 1 Try.underlying49 (by kernel_rfl) (by omega))) ?_
      refine st_p (o_kSameTexts 932 3) (.string x) (exec_ld 9 (.tmp 23) p i Try.underlying9 ((cell_of_row _ _ _ _ _ _ ((K5.block p (lt_of_block ha) (fun x => x)).trans ha)).trans (Tx_get hx))) ?_
      refine st_k (o_kSameTexts 932 4) (.slice (some ⟨q, 0, none⟩) ss.length ss.length) ?_
      refine st_k (o_kSameTexts 932 5) (iN i) ?_
      refine st_p (o_kSameTexts 932 6) (pT q i) (exec_cast (v := pT q (0 + i * 1)) (by simp) (exec_indexAt_slice 49 (.tmp 25) (.tmp 26) (by kernel_rfl) q 0 ss.length ss.length (by kernel_rfl) .i64 i (by kernel_rfl) _ 1 Try.underlying49 (by kernel_rfl) (by omega))) ?_
      refine st_p (o_kSameTexts 932 7) (.string x) (exec_ld 9 (.tmp 27) q i Try.underlying9 ((cell_of_row _ _ _ _ _ _ ((K5.block q (lt_of_block hb) (fun x => x)).trans hb)).trans (Tx_get hx))) ?_
      refine st_p (o_kSameTexts 932 8) (.bool true) (exec_binop .eql 9 9 (.tmp 24) (.tmp 28) (by kernel_rfl) (.string x) (.string x) _ (by kernel_rfl) (by kernel_rfl) (by kernel_rfl) (eq_strB x _)) ?_
      refine st_end ?_
      refine ls_run (o_kSameTexts 932 9) (.bool true) (w' := V4) (by kernel_rfl) (by kernel_rfl) ?_
      refine ls_end ?_
      refine blk_n ?_
      refine then_n ?_
      refine sy_reg ?_
      refine rg_plain 4 (opsAt (part_kSameTexts 467)) [0, 1, 2] (by kernel_rfl) (by kernel_rfl) ?_
      refine ps_k (o_kSameTexts 467 0) (iN i) ?_
      refine ps_p (o_kSameTexts 467 1) (iN (i + 1)) (exec_cast (congrArg (Value.int .i64) (wrapN (i + 1) (by omega))) (by kernel_rfl)) ?_
      refine ps_k (o_kSameTexts 467 2) (iN (i + 1)) ?_
      refine ps_end ?_
      refine then_n ?_
      refine ⟨⟨i + 1, (.bool true), (.bool true), (iN i), (.slice (some ⟨p, 0, none⟩) ss.length ss.length), (iN ss.length), (.bool true), (.bool true), (iN i), (iN (i + 1)), (.slice (some ⟨p, 0, none⟩) ss.length ss.length), (iN i), (pT p i), (.string x), (.slice (some ⟨q, 0, none⟩) ss.length ss.length), (iN i), (pT q i), (.string x), (.bool true), by kernel_rfl, by omega, K5⟩, ?_⟩
      exact lt_meas (x := ss.length - (i + 1)) (y := ss.length - i) (by kernel_rfl) (by kernel_rfl) (by omega)
    · skip
      refine sy_sq (part_kSameTexts 232) (part_kSameTexts 233) ?_
      refine sy_sq (part_kSameTexts 464) (part_kSameTexts 465) ?_
      refine sy_reg ?_
      refine rg_plain 3 (opsAt (part_kSameTexts 464)) [0, 1, 2, 3, 4, 5, 6] (by kernel_rfl) (by kernel_rfl) ?_
      refine ps_k (o_kSameTexts 464 0) (.bool true) ?_
      refine ps_k (o_kSameTexts 464 1) (.bool true) ?_
      refine ps_k (o_kSameTexts 464 2) (iN i) ?_
      refine ps_k (o_kSameTexts 464 3) (.slice (some ⟨p, 0, none⟩) ss.length ss.length) ?_
      refine ps_p (o_kSameTexts 464 4) (iN ss.length) (exec_len (.tmp 15) 49 _ (by kernel_rfl) Try.underlying49 (some ⟨p, 0, none⟩) ss.length ss.length (by kernel_rfl)) ?_
      refine ps_p (o_kSameTexts 464 5) (.bool false) (dcf ((((i : Nat) : Int)) < (((ss.length : Nat) : Int))) (by omega)) ?_
      refine ps_k (o_kSameTexts 464 6) (.bool false) ?_
      refine ps_end ?_
      refine then_n ?_
      refine sy_n (.tmp 18) (part_kSameTexts 930) (part_kSameTexts 931) ?_
      refine sy_exit 0 (by kernel_rfl) ?_
      refine then_e ?_
      refine then_e ?_
      refine blk_e ?_
      refine then_n ?_
      refine sy_sq (part_kSameTexts 30) (part_kSameTexts 31) ?_
      refine sy_reg ?_
      refine rg_plain 6 (opsAt (part_kSameTexts 30)) [0, 1] (by kernel_rfl) (by kernel_rfl) ?_
      refine ps_k (o_kSameTexts 30 0) (.bool true) ?_
      refine ps_k (o_kSameTexts 30 1) (.bool true) ?_
      refine ps_end ?_
      refine then_n ?_
      refine sy_ret (by kernel_rfl) ?_
      refine sy_out (.bool true) rfl (by kernel_rfl) ?_
      exact ⟨rfl, K2⟩
noncomputable def part_kOverTexts (n : Nat) : Code := partOf Try.f25 n
noncomputable abbrev o_kOverTexts (n k : Nat) : Oper := (opsAt (part_kOverTexts n)).getD k default
set_option maxRecDepth 100000 in
set_option maxHeartbeats 4000000 in
theorem kOverTexts_ok (g n : Nat) (ss : List ByteArray) (w : World) (h0 : w.heap[g]? = some (.cells (Tx ss).toArray 9 (0, 0))) (hn : ss.length = n) (hl : n ≤ 1000) :
    Calls Try.prog 25 #[.slice (some ⟨g, 0, none⟩) n n] w (fun e w' => e = .returned (.tuple #[]) ∧ Keeps (One g) w w') := by
  have K0 : Keeps (One g) w w := Keeps.refl _ _
  refine sy_enter (part_kOverTexts 1) ⟨#[.slice (some ⟨g, 0, none⟩) n n, undef, undef, undef, undef, undef, undef, undef, undef, undef, undef, undef], []⟩ Try.func25 (by kernel_rfl) (by kernel_rfl) ?_
  refine sy_sq (part_kOverTexts 2) (part_kOverTexts 3) ?_
  refine sy_reg ?_
  refine rg_plain 0 (opsAt (part_kOverTexts 2)) [0] (by kernel_rfl) (by kernel_rfl) ?_
  refine ps_k (o_kOverTexts 2 0) (.int .i64 0) ?_
  refine ps_end ?_
  refine then_n ?_
  refine sy_bk 0 (part_kOverTexts 6) ?_
  refine sy_loop (part_kOverTexts 12) (fun a V => ∃ (i : Nat) (ys : List ByteArray) (u3 u4 u5 u6 u7 u8 u9 u10 u11 : Value), (a = ⟨#[.slice (some ⟨g, 0, none⟩) n n, undef, iN i, u3, u4, u5, u6, u7, u8, u9, u10, u11], []⟩) ∧ (i ≤ n) ∧ (ys.length = n) ∧ (V.heap[g]? = some (.cells ((Tx ys).toArray) 9 (0, 0))) ∧ (Keeps (One g) w V)) (fun a _ => n - (intOf (a.tmps.getD 2 undef)).toNat) (by kernel_rfl) ?_ ?_
  · exact ⟨0, ss, undef, undef, undef, undef, undef, undef, undef, undef, undef, by kernel_rfl, Nat.zero_le _, hn, h0, K0⟩
  · rintro a V1 ⟨i, ys, u3, u4, u5, u6, u7, u8, u9, u10, u11, rfl, hi, hy, h2, K3⟩
    by_cases lt_i : i < n
    · obtain ⟨x, hx⟩ : ∃ x, ys[i]? = some x := ⟨_, List.getElem?_eq_getElem (by omega)⟩
      refine sy_sq (part_kOverTexts 24) (part_kOverTexts 25) ?_
      refine sy_sq (part_kOverTexts 48) (part_kOverTexts 49) ?_
      refine sy_reg ?_
      refine rg_plain 1 (opsAt (part_kOverTexts 48)) [0, 1, 2, 3] (by kernel_rfl) (by kernel_rfl) ?_
      refine ps_k (o_kOverTexts 48 0) (iN i) ?_
      refine ps_k (o_kOverTexts 48 1) (.slice (some ⟨g, 0, none⟩) n n) ?_
      refine ps_p (o_kOverTexts 48 2) (iN n) (exec_len (.tmp 4) 49 _ (by kernel_rfl) Try.underlying49 (some ⟨g, 0, none⟩) n n (by kernel_rfl)) ?_
      refine ps_p (o_kOverTexts 48 3) (.bool true) (dct ((((i : Nat) : Int)) < (((n : Nat) : Int))) (by omega)) ?_
      refine ps_end ?_
      refine then_n ?_
      refine sy_ys (.tmp 6) (part_kOverTexts 98) (part_kOverTexts 99) ?_
      refine sy_sk ?_
      refine then_n ?_
      refine sy_sq (part_kOverTexts 50) (part_kOverTexts 51) ?_
      refine sy_bk 1 (part_kOverTexts 100) ?_
      refine sy_reg ?_
      refine rg_plain 3 (opsAt (part_kOverTexts 100)) [0, 1, 2, 3] (by kernel_rfl) (by kernel_rfl) ?_
      refine ps_k (o_kOverTexts 100 0) (.slice (some ⟨g, 0, none⟩) n n) ?_
      refine ps_k (o_kOverTexts 100 1) (iN i) ?_
      refine ps_p (o_kOverTexts 100 2) (pT g i) (exec_cast (v := pT g (0 + i * 1)) (by simp) (exec_indexAt_slice 49 (.tmp 9) (.tmp 10) (by kernel_rfl) g 0 n n (by kernel_rfl) .i64 i (by kernel_rfl) _ 1 Try.underlying49 (by kernel_rfl) (by omega))) ?_
      obtain ⟨V4, eV4, kV4⟩ := cell_step V1 g i (.string { data := #[111, 118, 101, 114] })
      have h5 : V4.heap[g]? = some (.cells ((Tx (ys.set i { data := #[111, 118, 101, 114] })).toArray) 9 (0, 0)) := eV4 ▸ ((heap_setCell_same _ g i _ _ (.string { data := #[111, 118, 101, 114] }) h2).trans (congrArg (fun c => some (Obj.cells c 9 (0, 0))) (show ((Tx ys).toArray : Array Value).setIfInBounds i (.string { data := #[111, 118, 101, 114] }) = (Tx (ys.set i { data := #[111, 118, 101, 114] })).toArray from Tx_set _ _ _)))
      refine ps_s (o_kOverTexts 100 3) (w' := V4) (by rw [← eV4]; exact exec_store_cell 9 (.tmp 11) (.const (.string { data := #[111, 118, 101, 114] })) (by kernel_rfl) g i (by kernel_rfl) (.string { data := #[111, 118, 101, 114] }) (by kernel_rfl) (by kernel_rfl) (by kernel_rfl) (.string x) (rc (h2) (Tx_get hx)) (frozen_of_row _ _ _ _ _ h2) (by kernel_rfl)) ?_
      clear eV4
      have K6 : Keeps (One g) w V4 := K3.then kV4 (fun i hi hm => by unfold Own.One at hm; subst hm; exact rfl)
      have z7 := kV4.size
      refine ps_end ?_
      refine blk_n ?_
      refine then_n ?_
      refine sy_reg ?_
      refine rg_plain 2 (opsAt (part_kOverTexts 51)) [0, 1, 2] (by kernel_rfl) (by kernel_rfl) ?_
      refine ps_k (o_kOverTexts 51 0) (iN i) ?_
      refine ps_p (o_kOverTexts 51 1) (iN (i + 1)) (exec_cast (congrArg (Value.int .i64) (wrapN (i + 1) (by omega))) (by kernel_rfl)) ?_
      refine ps_k (o_kOverTexts 51 2) (iN (i + 1)) ?_
      refine ps_end ?_
      refine then_n ?_
      refine ⟨⟨i + 1, ys.set i { data := #[111, 118, 101, 114] }, (iN i), (.slice (some ⟨g, 0, none⟩) n n), (iN n), (.bool true), (iN i), (iN (i + 1)), (.slice (some ⟨g, 0, none⟩) n n), (iN i), (pT g i), by kernel_rfl, by omega, by simpa using hy, h5, K6⟩, ?_⟩
      exact lt_meas (x := n - (i + 1)) (y := n - i) (by kernel_rfl) (by kernel_rfl) (by omega)
    · skip
      refine sy_sq (part_kOverTexts 24) (part_kOverTexts 25) ?_
      refine sy_sq (part_kOverTexts 48) (part_kOverTexts 49) ?_
      refine sy_reg ?_
      refine rg_plain 1 (opsAt (part_kOverTexts 48)) [0, 1, 2, 3] (by kernel_rfl) (by kernel_rfl) ?_
      refine ps_k (o_kOverTexts 48 0) (iN i) ?_
      refine ps_k (o_kOverTexts 48 1) (.slice (some ⟨g, 0, none⟩) n n) ?_
      refine ps_p (o_kOverTexts 48 2) (iN n) (exec_len (.tmp 4) 49 _ (by kernel_rfl) Try.underlying49 (some ⟨g, 0, none⟩) n n (by kernel_rfl)) ?_
      refine ps_p (o_kOverTexts 48 3) (.bool false) (dcf ((((i : Nat) : Int)) < (((n : Nat) : Int))) (by omega)) ?_
      refine ps_end ?_
      refine then_n ?_
      refine sy_n (.tmp 6) (part_kOverTexts 98) (part_kOverTexts 99) ?_
      refine sy_exit 0 (by kernel_rfl) ?_
      refine then_e ?_
      refine then_e ?_
      refine blk_e ?_
      refine sy_fall (.tuple #[]) rfl (by kernel_rfl) ?_
      exact ⟨rfl, K3⟩
end Go.Proofs.Ytmapcghgdbfmhaa
