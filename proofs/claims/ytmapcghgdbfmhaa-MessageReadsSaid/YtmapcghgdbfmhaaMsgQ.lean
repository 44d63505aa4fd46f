/-
  Messages: which bytes are, beside the document (printed by msg12.py). Conditions: none.
-/
import Derived.Test.YtmapcghgdbfmhaaMsgO
import Derived.Test.YtmapcghgdbfmhaaMsgN
namespace Go.Proofs.Ytmapcghgdbfmhaa
open Go Go.RowKit Go.Own Go.Shelf

theorem lent_lt {w : World} {v : Value} {l : List UInt8} (h : Lent w v l) {j : Nat} (hj : v.ownBlock = some j) : j < w.heap.size := by
  obtain ⟨g, cap, rfl, hr⟩ := h
  exact hr.lt (by simpa [Value.ownBlock] using hj)
noncomputable def part_MessageReads (n : Nat) : Code := partOf Try.f3 n
noncomputable abbrev o_MessageReads (n k : Nat) : Oper := (opsAt (part_MessageReads n)).getD k default
set_option maxRecDepth 100000 in
set_option maxHeartbeats 4000000 in
theorem mreads_long (A0 : Option Addr) (cap0 : Nat) (l : List UInt8) (w : World) (_hx : BytesAt w (.slice A0 l.length cap0) l) (hl : 400 < l.length) :
    Calls Try.prog 3 #[.slice A0 l.length cap0] w (fun e w' => e = .returned (.bool true) ∧ Keeps Nob w w') := by
  have K0 : Keeps Nob w w := Keeps.refl _ _
  refine sy_enter (part_MessageReads 1) ⟨#[.slice A0 l.length cap0, undef, undef, undef, undef, undef, undef, undef, undef, undef, undef, undef, undef, undef, undef, undef, undef, undef, undef, undef, undef, undef, undef, undef, undef, undef, undef, undef, undef, undef, undef, undef, undef, undef, undef, undef, undef, undef, undef, undef], []⟩ Try.func3 (by kernel_rfl) (by kernel_rfl) ?_
  refine sy_sq (part_MessageReads 2) (part_MessageReads 3) ?_
  refine sy_reg ?_
  refine rg_plain 0 (opsAt (part_MessageReads 2)) [0] (by kernel_rfl) (by kernel_rfl) ?_
  refine ps_k (o_MessageReads 2 0) (.bool false) ?_
  refine ps_end ?_
  refine then_n ?_
  refine sy_sq (part_MessageReads 6) (part_MessageReads 7) ?_
  refine sy_sq (part_MessageReads 12) (part_MessageReads 13) ?_
  refine sy_reg ?_
  refine rg_plain 1 (opsAt (part_MessageReads 12)) [0, 1, 2] (by kernel_rfl) (by kernel_rfl) ?_
  refine ps_k (o_MessageReads 12 0) (.slice A0 l.length cap0) ?_
  refine ps_p (o_MessageReads 12 1) (iN l.length) (exec_len (.tmp 8) 22 _ (by kernel_rfl) Try.underlying22 A0 l.length cap0 (by kernel_rfl)) ?_
  refine ps_p (o_MessageReads 12 2) (.bool true) (dct ((((l.length : Nat) : Int)) > ((400) : Int)) (by omega)) ?_
  refine ps_end ?_
  refine then_n ?_
  refine sy_ys (.tmp 10) (part_MessageReads 26) (part_MessageReads 27) ?_
  refine sy_sq (part_MessageReads 52) (part_MessageReads 53) ?_
  refine sy_reg ?_
  refine rg_plain 2 (opsAt (part_MessageReads 52)) [0, 1] (by kernel_rfl) (by kernel_rfl) ?_
  refine ps_c (o_MessageReads 52 0) 9 #[] Try.func9 ((lmawake_ok _).mono ?_)
  rintro e V1 ⟨rfl, kV1⟩
  refine ⟨_, rfl, ?_⟩
  have K2 := K0.nn kV1
  have z3 := kV1.size
  refine ps_k (o_MessageReads 52 1) (.bool true) ?_
  refine ps_end ?_
  refine then_n ?_
  refine sy_ret (by kernel_rfl) ?_
  refine then_r ?_
  refine sy_out (.bool true) rfl (by kernel_rfl) ?_
  exact ⟨rfl, K2⟩
set_option maxRecDepth 100000 in
set_option maxHeartbeats 4000000 in
theorem mreads_main (A0 : Option Addr) (cap0 : Nat) (l : List UInt8) (w : World) (hx : BytesAt w (.slice A0 l.length cap0) l) (hl : l.length ≤ 400) :
    Calls Try.prog 3 #[.slice A0 l.length cap0] w (fun e w' => e = .returned (.bool true) ∧ Keeps Nob w w') := by
  have K0 : Keeps Nob w w := Keeps.refl _ _
  refine sy_enter (part_MessageReads 1) ⟨#[.slice A0 l.length cap0, undef, undef, undef, undef, undef, undef, undef, undef, undef, undef, undef, undef, undef, undef, undef, undef, undef, undef, undef, undef, undef, undef, undef, undef, undef, undef, undef, undef, undef, undef, undef, undef, undef, undef, undef, undef, undef, undef, undef], []⟩ Try.func3 (by kernel_rfl) (by kernel_rfl) ?_
  refine sy_sq (part_MessageReads 2) (part_MessageReads 3) ?_
  refine sy_reg ?_
  refine rg_plain 0 (opsAt (part_MessageReads 2)) [0] (by kernel_rfl) (by kernel_rfl) ?_
  refine ps_k (o_MessageReads 2 0) (.bool false) ?_
  refine ps_end ?_
  refine then_n ?_
  refine sy_sq (part_MessageReads 6) (part_MessageReads 7) ?_
  refine sy_sq (part_MessageReads 12) (part_MessageReads 13) ?_
  refine sy_reg ?_
  refine rg_plain 1 (opsAt (part_MessageReads 12)) [0, 1, 2] (by kernel_rfl) (by kernel_rfl) ?_
  refine ps_k (o_MessageReads 12 0) (.slice A0 l.length cap0) ?_
  refine ps_p (o_MessageReads 12 1) (iN l.length) (exec_len (.tmp 8) 22 _ (by kernel_rfl) Try.underlying22 A0 l.length cap0 (by kernel_rfl)) ?_
  refine ps_p (o_MessageReads 12 2) (.bool false) (dcf ((((l.length : Nat) : Int)) > ((400) : Int)) (by omega)) ?_
  refine ps_end ?_
  refine then_n ?_
  refine sy_n (.tmp 10) (part_MessageReads 26) (part_MessageReads 27) ?_
  refine sy_sk ?_
  refine then_n ?_
  refine sy_sq (part_MessageReads 14) (part_MessageReads 15) ?_
  refine sy_reg ?_
  refine rg_plain 3 (opsAt (part_MessageReads 14)) [0, 1, 2] (by kernel_rfl) (by kernel_rfl) ?_
  refine ps_k (o_MessageReads 14 0) (.slice A0 l.length cap0) ?_
  refine ps_c (o_MessageReads 14 1) 10 #[.slice A0 l.length cap0] Try.func10 ((lentBytes_ok _ l _ hx (by omega)).mono ?_)
  rintro e V1 ⟨lv, rfl, hL, hnL, kV1⟩
  have hlt : ∀ j, lv.ownBlock = some j → j < V1.heap.size := fun j hj => lent_lt hL hj
  refine ⟨_, rfl, ?_⟩
  have K2 := K0.nn kV1
  have z3 := kV1.size
  refine ps_k (o_MessageReads 14 2) (lv) ?_
  refine ps_end ?_
  refine then_n ?_
  refine sy_sq (part_MessageReads 30) (part_MessageReads 31) ?_
  refine sy_reg ?_
  refine rg_plain 4 (opsAt (part_MessageReads 30)) [0, 1, 2, 3, 4, 5, 6, 7, 8] (by kernel_rfl) (by kernel_rfl) ?_
  refine ps_k (o_MessageReads 30 0) (lv) ?_
  refine ps_c (o_MessageReads 30 1) 11 #[lv] Try.func11 ((mRead_any _ l _ (Lent.bytes hL) (by omega)).mono ?_)
  rintro e V4 ⟨rfl, kV4⟩
  refine ⟨_, rfl, ?_⟩
  have h5 : Lent V4 lv l := hL.keeps kV4 (fun _ _ x => x)
  have K6 := K2.nn kV4
  have z7 := kV4.size
  refine ps_k (o_MessageReads 30 2) (.tuple #[.agg (Msg.c (mRes l)), .agg #[.int .i64 (mFin l).1, .int .i64 (mFin l).2]]) ?_
  refine ps_k (o_MessageReads 30 3) (.agg (Msg.c (mRes l))) ?_
  refine ps_k (o_MessageReads 30 4) (.agg #[.int .i64 (mFin l).1, .int .i64 (mFin l).2]) ?_
  obtain ⟨V8, eV8, g1, eg1, h9, kV8⟩ := alloc_step V4 ((Msg.c msgZ)) 35
  have n10 : w.heap.size ≤ g1 := eg1 ▸ K6.size
  refine ps_r (o_MessageReads 30 5) (pT g1 0) (w' := V8) (by rw [← eV8, ← eg1]; exact exec_alloc0 35 (by kernel_rfl) (.agg ((Msg.c msgZ))) (by kernel_rfl)) ?_
  clear eV8
  have h11 : Lent V8 lv l := h5.keeps kV8 (fun _ _ x => x)
  have K12 := K6.nn kV8
  have z13 := kV8.size
  obtain ⟨V14, eV14, f1, ef1, h15, kV14⟩ := alloc_step V8 (#[.int .i64 0, .int .i64 0]) 38
  have n16 : g1 < f1 := ef1 ▸ lt_of_block h9
  have n17 : w.heap.size ≤ f1 := ef1 ▸ K12.size
  refine ps_r (o_MessageReads 30 6) (pT f1 0) (w' := V14) (by rw [← eV14, ← ef1]; exact exec_alloc0 38 (by kernel_rfl) (.agg (#[.int .i64 0, .int .i64 0])) (by kernel_rfl)) ?_
  clear eV14
  have h18 : Lent V14 lv l := h11.keeps kV14 (fun _ _ x => x)
  have h19 := kV14.bk h9
  have K20 := K12.nn kV14
  have z21 := kV14.size
  obtain ⟨V22, eV22, kV22⟩ := rowset_step V14 g1 ((Msg.c (mRes l)))
  have h23 : V22.heap[g1]? = some (.cells (Msg.c ((mRes l))) 35 (0, 0)) := eV22 ▸ setRow_heap _ _ _ _ _ _ h19
  refine ps_s (o_MessageReads 30 7) (w' := V22) (by rw [← eV22]; exact exec_store_row 35 (.tmp 4) (.tmp 17) (by kernel_rfl) g1 ((Msg.c (mRes l))) (by kernel_rfl) (by kernel_rfl) 35 ((Msg.c msgZ)) h19 (by rw [Msg.c_size (mRes_R l)]; kernel_rfl) (by rw [Msg.c_size (mRes_R l)]; exact (Msg.c_size msgZ_R).symm) (Msg.c_one _)) ?_
  clear eV22
  have h24 : Lent V22 lv l := h18.keeps kV22 (fun j hj e => by have := hlt j hj; unfold Own.One at e; omega)
  have h25 := kV22.bo h15 (by omega)
  have K26 := K20.no kV22 (by omega)
  have z27 := kV22.size
  obtain ⟨V28, eV28, kV28⟩ := rowset_step V22 f1 (#[.int .i64 (mFin l).1, .int .i64 (mFin l).2])
  have h29 : V28.heap[f1]? = some (.cells (#[.int .i64 (mFin l).1, .int .i64 (mFin l).2]) 38 (0, 0)) := eV28 ▸ setRow_heap _ _ _ _ _ _ h25
  refine ps_s (o_MessageReads 30 8) (w' := V28) (by rw [← eV28]; exact exec_store_row 38 (.tmp 5) (.tmp 18) (by kernel_rfl) f1 (#[.int .i64 (mFin l).1, .int .i64 (mFin l).2]) (by kernel_rfl) (by kernel_rfl) 38 (#[.int .i64 0, .int .i64 0]) h25 (by kernel_rfl) rfl (by kernel_rfl)) ?_
  clear eV28
  have h30 : Lent V28 lv l := h24.keeps kV28 (fun j hj e => by have := hlt j hj; unfold Own.One at e; omega)
  have h31 := kV28.bo h23 (by omega)
  have K32 := K26.no kV28 (by omega)
  have z33 := kV28.size
  refine ps_end ?_
  refine then_n ?_
  refine sy_sq (part_MessageReads 62) (part_MessageReads 63) ?_
  refine sy_reg ?_
  refine rg_plain 5 (opsAt (part_MessageReads 62)) [0, 1, 2, 3, 4, 5, 6, 7, 8] (by kernel_rfl) (by kernel_rfl) ?_
  refine ps_k (o_MessageReads 62 0) (.slice A0 l.length cap0) ?_
  refine ps_c (o_MessageReads 62 1) 12 #[.slice A0 l.length cap0] Try.func12 ((rmRead_any _ l _ (hx.keepsN K32) (by omega)).mono ?_)
  rintro e V34 ⟨rfl, kV34⟩
  refine ⟨_, rfl, ?_⟩
  have h35 : Lent V34 lv l := h30.keeps kV34 (fun _ _ x => x)
  have h36 := kV34.bk h31
  have h37 := kV34.bk h29
  have K38 := K32.nn kV34
  have z39 := kV34.size
  refine ps_k (o_MessageReads 62 2) (.tuple #[.agg (Msg.c (mRes l)), .agg #[.int .i64 (mFin l).1, .int .i64 (mFin l).2]]) ?_
  refine ps_k (o_MessageReads 62 3) (.agg (Msg.c (mRes l))) ?_
  refine ps_k (o_MessageReads 62 4) (.agg #[.int .i64 (mFin l).1, .int .i64 (mFin l).2]) ?_
  obtain ⟨V40, eV40, g2, eg2, h41, kV40⟩ := alloc_step V34 ((Msg.c msgZ)) 35
  have n42 : g1 < g2 := eg2 ▸ lt_of_block h36
  have n43 : f1 < g2 := eg2 ▸ lt_of_block h37
  have n44 : w.heap.size ≤ g2 := eg2 ▸ K38.size
  refine ps_r (o_MessageReads 62 5) (pT g2 0) (w' := V40) (by rw [← eV40, ← eg2]; exact exec_alloc0 35 (by kernel_rfl) (.agg ((Msg.c msgZ))) (by kernel_rfl)) ?_
  clear eV40
  have h45 : Lent V40 lv l := h35.keeps kV40 (fun _ _ x => x)
  have h46 := kV40.bk h36
  have h47 := kV40.bk h37
  have K48 := K38.nn kV40
  have z49 := kV40.size
  obtain ⟨V50, eV50, f2, ef2, h51, kV50⟩ := alloc_step V40 (#[.int .i64 0, .int .i64 0]) 38
  have n52 : g1 < f2 := ef2 ▸ lt_of_block h46
  have n53 : f1 < f2 := ef2 ▸ lt_of_block h47
  have n54 : g2 < f2 := ef2 ▸ lt_of_block h41
  have n55 : w.heap.size ≤ f2 := ef2 ▸ K48.size
  refine ps_r (o_MessageReads 62 6) (pT f2 0) (w' := V50) (by rw [← eV50, ← ef2]; exact exec_alloc0 38 (by kernel_rfl) (.agg (#[.int .i64 0, .int .i64 0])) (by kernel_rfl)) ?_
  clear eV50
  have h56 : Lent V50 lv l := h45.keeps kV50 (fun _ _ x => x)
  have h57 := kV50.bk h46
  have h58 := kV50.bk h47
  have h59 := kV50.bk h41
  have K60 := K48.nn kV50
  have z61 := kV50.size
  obtain ⟨V62, eV62, kV62⟩ := rowset_step V50 g2 ((Msg.c (mRes l)))
  have h63 : V62.heap[g2]? = some (.cells (Msg.c ((mRes l))) 35 (0, 0)) := eV62 ▸ setRow_heap _ _ _ _ _ _ h59
  refine ps_s (o_MessageReads 62 7) (w' := V62) (by rw [← eV62]; exact exec_store_row 35 (.tmp 6) (.tmp 22) (by kernel_rfl) g2 ((Msg.c (mRes l))) (by kernel_rfl) (by kernel_rfl) 35 ((Msg.c msgZ)) h59 (by rw [Msg.c_size (mRes_R l)]; kernel_rfl) (by rw [Msg.c_size (mRes_R l)]; exact (Msg.c_size msgZ_R).symm) (Msg.c_one _)) ?_
  clear eV62
  have h64 : Lent V62 lv l := h56.keeps kV62 (fun j hj e => by have := hlt j hj; unfold Own.One at e; omega)
  have h65 := kV62.bo h57 (by omega)
  have h66 := kV62.bo h58 (by omega)
  have h67 := kV62.bo h51 (by omega)
  have K68 := K60.no kV62 (by omega)
  have z69 := kV62.size
  obtain ⟨V70, eV70, kV70⟩ := rowset_step V62 f2 (#[.int .i64 (mFin l).1, .int .i64 (mFin l).2])
  have h71 : V70.heap[f2]? = some (.cells (#[.int .i64 (mFin l).1, .int .i64 (mFin l).2]) 38 (0, 0)) := eV70 ▸ setRow_heap _ _ _ _ _ _ h67
  refine ps_s (o_MessageReads 62 8) (w' := V70) (by rw [← eV70]; exact exec_store_row 38 (.tmp 7) (.tmp 23) (by kernel_rfl) f2 (#[.int .i64 (mFin l).1, .int .i64 (mFin l).2]) (by kernel_rfl) (by kernel_rfl) 38 (#[.int .i64 0, .int .i64 0]) h67 (by kernel_rfl) rfl (by kernel_rfl)) ?_
  clear eV70
  have h72 : Lent V70 lv l := h64.keeps kV70 (fun j hj e => by have := hlt j hj; unfold Own.One at e; omega)
  have h73 := kV70.bo h65 (by omega)
  have h74 := kV70.bo h66 (by omega)
  have h75 := kV70.bo h63 (by omega)
  have K76 := K68.no kV70 (by omega)
  have z77 := kV70.size
  refine ps_end ?_
  refine sy_a ⟨#[.slice A0 l.length cap0, undef, .bool false, lv, pT g1 0, pT f1 0, pT g2 0, pT f2 0, .slice A0 l.length cap0, iN l.length, .bool false, undef, .slice A0 l.length cap0, lv, .tuple #[.agg (Msg.c (mRes l)), .agg #[.int .i64 (mFin l).1, .int .i64 (mFin l).2]], lv, .tuple #[.agg (Msg.c (mRes l)), .agg #[.int .i64 (mFin l).1, .int .i64 (mFin l).2]], .agg (Msg.c (mRes l)), .agg #[.int .i64 (mFin l).1, .int .i64 (mFin l).2], .tuple #[.agg (Msg.c (mRes l)), .agg #[.int .i64 (mFin l).1, .int .i64 (mFin l).2]], .slice A0 l.length cap0, .tuple #[.agg (Msg.c (mRes l)), .agg #[.int .i64 (mFin l).1, .int .i64 (mFin l).2]], .agg (Msg.c (mRes l)), .agg #[.int .i64 (mFin l).1, .int .i64 (mFin l).2], undef, undef, undef, undef, undef, undef, undef, undef, undef, undef, undef, undef, undef, undef, undef, undef], []⟩ ?_
  refine then_n ?_
  refine sy_sq (part_MessageReads 126) (part_MessageReads 127) ?_
  refine sy_reg ?_
  refine rg_plain 6 (opsAt (part_MessageReads 126)) [0, 1, 2, 3, 4, 5, 6, 7, 8, 9, 10, 11, 12, 13, 14, 15, 16] (by kernel_rfl) (by kernel_rfl) ?_
  refine ps_p (o_MessageReads 126 0) (.agg (Msg.c ((mRes l)))) (exec_load_row 35 (.tmp 4) (by kernel_rfl) g1 (by kernel_rfl) _ _ (0, 0) _ (h73) Try.underlying35 rfl (by rw [Msg.c_size (mRes_R l)]; kernel_rfl)) ?_
  refine ps_p (o_MessageReads 126 1) (.agg (Msg.c ((mRes l)))) (exec_load_row 35 (.tmp 6) (by kernel_rfl) g2 (by kernel_rfl) _ _ (0, 0) _ (h75) Try.underlying35 rfl (by rw [Msg.c_size (mRes_R l)]; kernel_rfl)) ?_
  refine ps_p (o_MessageReads 126 2) (.bool true) (exec_cast (congrArg Value.bool (by simp)) (exec_binop .eql 35 35 (.tmp 24) (.tmp 25) (by kernel_rfl) (.agg (Msg.c (mRes l))) (.agg (Msg.c (mRes l))) _ (by kernel_rfl) (by kernel_rfl) (run_eqGuard_agg _ _ _ _ _ _ _ msg_guard) (msg_eq (mRes l) (mRes l) (mRes_R l) (mRes_R l) _))) ?_
  refine ps_k (o_MessageReads 126 3) (.bool true) ?_
  refine ps_p (o_MessageReads 126 4) (.agg #[.int .i64 (mFin l).1, .int .i64 (mFin l).2]) (exec_load_row 38 (.tmp 5) (by kernel_rfl) f1 (by kernel_rfl) _ _ (0, 0) _ (h74) Try.underlying38 rfl (by kernel_rfl)) ?_
  refine ps_p (o_MessageReads 126 5) (.agg #[.int .i64 (mFin l).1, .int .i64 (mFin l).2]) (exec_load_row 38 (.tmp 7) (by kernel_rfl) f2 (by kernel_rfl) _ _ (0, 0) _ (h71) Try.underlying38 rfl (by kernel_rfl)) ?_
  refine ps_p (o_MessageReads 126 6) (.bool true) (exec_cast (congrArg Value.bool (by simp)) (exec_binop .eql 38 38 (.tmp 28) (.tmp 29) (by kernel_rfl) (.agg #[.int .i64 (mFin l).1, .int .i64 (mFin l).2]) (.agg #[.int .i64 (mFin l).1, .int .i64 (mFin l).2]) _ (by kernel_rfl) (by kernel_rfl) (run_eqGuard_agg _ _ _ _ _ _ _ fault_guard) (fault_eq _ _ _ _ _))) ?_
  refine ps_k (o_MessageReads 126 7) (.bool true) ?_
  refine ps_k (o_MessageReads 126 8) (.bool true) ?_
  refine ps_k (o_MessageReads 126 9) (lv) ?_
  refine ps_k (o_MessageReads 126 10) (.slice A0 l.length cap0) ?_
  refine ps_c (o_MessageReads 126 11) 13 #[lv, .slice A0 l.length cap0] Try.func13 ((keptBytes_ok _ _ l _ h72 (hx.keepsN K76) (by omega)).mono ?_)
  rintro e V78 ⟨rfl, kV78⟩
  refine ⟨_, rfl, ?_⟩
  have h79 : Lent V78 lv l := h72.keeps kV78 (fun _ _ x => x)
  have h80 := kV78.bk h73
  have h81 := kV78.bk h74
  have h82 := kV78.bk h75
  have h83 := kV78.bk h71
  have K84 := K76.nn kV78
  have z85 := kV78.size
  refine ps_k (o_MessageReads 126 12) (.bool true) ?_
  refine ps_k (o_MessageReads 126 13) (.bool true) ?_
  refine ps_c (o_MessageReads 126 14) 9 #[] Try.func9 ((lmawake_ok _).mono ?_)
  rintro e V86 ⟨rfl, kV86⟩
  refine ⟨_, rfl, ?_⟩
  have h87 : Lent V86 lv l := h79.keeps kV86 (fun _ _ x => x)
  have h88 := kV86.bk h80
  have h89 := kV86.bk h81
  have h90 := kV86.bk h82
  have h91 := kV86.bk h83
  have K92 := K84.nn kV86
  have z93 := kV86.size
  refine ps_k (o_MessageReads 126 15) (.bool true) ?_
  refine ps_k (o_MessageReads 126 16) (.bool true) ?_
  refine ps_end ?_
  refine then_n ?_
  refine sy_ret (by kernel_rfl) ?_
  refine sy_out (.bool true) rfl (by kernel_rfl) ?_
  exact ⟨rfl, K92⟩
theorem mreads_ok (v0 : Value) (l : List UInt8) (w : World) (hx : BytesAt w v0 l) : Calls Try.prog 3 #[v0] w fun e w' => e = .returned (.bool true) ∧ Keeps Nob w w' := by
  obtain ⟨A0, cap0, rfl⟩ := hx.len
  by_cases hl : 400 < l.length
  · exact mreads_long A0 cap0 l w hx hl
  · exact mreads_main A0 cap0 l w hx (by omega)
end Go.Proofs.Ytmapcghgdbfmhaa
