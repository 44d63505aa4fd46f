/-
  Messages: their bytes, and why one may not be, beside the document (printed by msg12.py). Conditions: none.
-/
import Derived.Test.YtmapcghgdbfmhaaMsgO
import Derived.Test.YtmapcghgdbfmhaaMsgM
namespace Go.Proofs.Ytmapcghgdbfmhaa
open Go Go.RowKit Go.Own Go.Shelf

theorem bools_eq (b : Bool) (w : World) : (binOp .eql 4 (.bool b) (.bool b)).run Try.prog w = .ok (.bool true) w := by
  cases b <;> kernel_rfl
noncomputable def part_MessageBytes (n : Nat) : Code := partOf Try.f4 n
noncomputable abbrev o_MessageBytes (n k : Nat) : Oper := (opsAt (part_MessageBytes n)).getD k default
set_option maxRecDepth 100000 in
set_option maxHeartbeats 4000000 in
theorem mbytes_law (m : Msg) (w : World) (hok : m.Ok) :
    Calls Try.prog 4 #[.agg (Msg.c m)] w (fun e w' => e = .returned (.bool true) ∧ Keeps Nob w w') := by
  have hr := hok.R
  have K0 : Keeps Nob w w := Keeps.refl _ _
  refine sy_enter (part_MessageBytes 1) ⟨#[.agg (Msg.c m), undef, undef, undef, undef, undef, undef, undef, undef, undef, undef, undef, undef, undef, undef, undef, undef, undef, undef, undef, undef, undef, undef, undef, undef, undef, undef, undef, undef, undef, undef, undef, undef, undef, undef, undef, undef, undef, undef, undef, undef, undef, undef, undef, undef, undef, undef, undef, undef, undef, undef, undef, undef, undef, undef, undef, undef, undef, undef, undef, undef, undef, undef, undef, undef, undef, undef, undef, undef, undef, undef, undef, undef, undef, undef, undef, undef, undef, undef, undef, undef, undef, undef, undef, undef, undef, undef, undef, undef, undef, undef], []⟩ Try.func4 (by kernel_rfl) (by kernel_rfl) ?_
  refine sy_sq (part_MessageBytes 2) (part_MessageBytes 3) ?_
  refine sy_reg ?_
  refine rg_plain 0 (opsAt (part_MessageBytes 2)) [0, 1] (by kernel_rfl) (by kernel_rfl) ?_
  obtain ⟨V1, eV1, gm, egm, h2, kV1⟩ := alloc_step w ((Msg.c m)) 35
  have n3 : w.heap.size ≤ gm := egm ▸ K0.size
  refine ps_r (o_MessageBytes 2 0) (pT gm 0) (w' := V1) (by rw [← eV1, ← egm]; exact exec_box 35 (.tmp 0) (by kernel_rfl) (.agg (Msg.c m)) (by kernel_rfl)) ?_
  clear eV1
  have K4 := K0.nn kV1
  have z5 := kV1.size
  refine ps_k (o_MessageBytes 2 1) (.bool false) ?_
  refine ps_end ?_
  refine then_n ?_
  refine sy_sq (part_MessageBytes 6) (part_MessageBytes 7) ?_
  refine sy_reg ?_
  refine rg_plain 1 (opsAt (part_MessageBytes 6)) [0, 1, 2, 3, 4, 5, 6] (by kernel_rfl) (by kernel_rfl) ?_
  refine ps_p (o_MessageBytes 6 0) (.agg (Msg.c m)) (exec_load_row 35 (.tmp 1) (by kernel_rfl) gm (by kernel_rfl) _ _ (0, 0) _ (h2) Try.underlying35 rfl (by rw [Msg.c_size hr]; kernel_rfl)) ?_
  refine ps_c (o_MessageBytes 6 1) 14 #[.agg (Msg.c m)] Try.func14 ((mBytes_any m _ hok).mono ?_)
  rintro e V6 ⟨X1, rfl, hX1, nX1, kV6⟩
  have lX1 : ∀ j, X1.ownBlock = some j → j < V6.heap.size := fun j hj => hX1.lt hj
  have hge1 : ∀ j, X1.ownBlock = some j → gm + 1 ≤ j := fun j hj => by have := nX1 j hj; have := lt_of_block h2; omega
  have hgmlt := lt_of_block h2
  have hgmX : ∀ j, X1.ownBlock = some j → ¬ j = gm := fun j hj e => by have := nX1 j hj; have := lt_of_block h2; omega
  refine ⟨_, rfl, ?_⟩
  have h7 := kV6.bk h2
  have K8 := K4.nn kV6
  have z9 := kV6.size
  refine ps_k (o_MessageBytes 6 2) (.tuple #[X1, .int .i64 m.chk]) ?_
  refine ps_k (o_MessageBytes 6 3) (X1) ?_
  refine ps_k (o_MessageBytes 6 4) (.int .i64 m.chk) ?_
  refine ps_k (o_MessageBytes 6 5) (X1) ?_
  refine ps_k (o_MessageBytes 6 6) (.int .i64 m.chk) ?_
  refine ps_end ?_
  refine then_n ?_
  refine sy_sq (part_MessageBytes 14) (part_MessageBytes 15) ?_
  refine sy_reg ?_
  refine rg_plain 2 (opsAt (part_MessageBytes 14)) [0, 1, 2, 3, 4, 5, 6] (by kernel_rfl) (by kernel_rfl) ?_
  refine ps_p (o_MessageBytes 14 0) (.agg (Msg.c m)) (exec_load_row 35 (.tmp 1) (by kernel_rfl) gm (by kernel_rfl) _ _ (0, 0) _ (h7) Try.underlying35 rfl (by rw [Msg.c_size hr]; kernel_rfl)) ?_
  refine ps_c (o_MessageBytes 14 1) 15 #[.agg (Msg.c m)] Try.func15 ((rmBytes_any m _ hok).mono ?_)
  rintro e V10 ⟨X2, rfl, hX2, nX2, kV10⟩
  have lX2 : ∀ j, X2.ownBlock = some j → j < V10.heap.size := fun j hj => hX2.lt hj
  have apX : ∀ j, X2.ownBlock = some j → ¬ X1.ownBlock = some j := fun j h1 h2 => by have := nX2 j h1; have := lX1 j h2; omega
  refine ⟨_, rfl, ?_⟩
  have h11 := kV10.bk h7
  have h12 : Row V10 5 1 X1 m.told.length (B m.told) := hX1.keeps kV10 (fun _ _ x => x)
  have K13 := K8.nn kV10
  have z14 := kV10.size
  refine ps_k (o_MessageBytes 14 2) (.tuple #[X2, .int .i64 m.chk]) ?_
  refine ps_k (o_MessageBytes 14 3) (X2) ?_
  refine ps_k (o_MessageBytes 14 4) (.int .i64 m.chk) ?_
  refine ps_k (o_MessageBytes 14 5) (X2) ?_
  refine ps_k (o_MessageBytes 14 6) (.int .i64 m.chk) ?_
  refine ps_end ?_
  refine then_n ?_
  refine sy_sq (part_MessageBytes 30) (part_MessageBytes 31) ?_
  refine sy_np ?_
  refine sy_reg ?_
  refine an_begin 3 16 (opsAt (part_MessageBytes 30)) (fun W => (W.heap[gm]? = some (.cells (Msg.c m) 35 (0, 0)))) #[false, false, false, false, false, false, false, false, false, false, false, false, false, false, false, false] (by kernel_rfl) (by kernel_rfl) (by kernel_rfl) (by kernel_rfl) ?_
  obtain ⟨V15, eV15, kV15⟩ := drew_step V10
  rw [eV15]
  clear eV15
  have h16 := kV15.bk h11
  have h17 : Row V15 5 1 X1 m.told.length (B m.told) := h12.keeps kV15 (fun _ _ x => x)
  have h18 : Row V15 5 1 X2 m.told.length (B m.told) := hX2.keeps kV15 (fun _ _ x => x)
  have K19 := K13.nn kV15
  have z20 := kV15.size
  refine an_k 0 (o_MessageBytes 30 0) (X1) h16 ?_
  refine an_k 1 (o_MessageBytes 30 1) (X2) h16 ?_
  refine an_o 2 ?_
  refine on_c (o_MessageBytes 30 2) 16 #[X1, X2] Try.func16 ((mSameBytes (Row.bytes h17) (Row.bytes h18) rfl).mono ?_)
  rintro e w1 ⟨rfl, rfl⟩
  refine ⟨_, rfl, ?_⟩
  refine ⟨h16, ?_⟩
  refine an_k 3 (o_MessageBytes 30 3) (.bool true) h16 ?_
  refine an_k 4 (o_MessageBytes 30 4) (.int .i64 m.chk) h16 ?_
  refine an_k 5 (o_MessageBytes 30 5) (.int .i64 m.chk) h16 ?_
  refine an_v 6 (o_MessageBytes 30 6) (.bool true) (fun W hS => exec_cast (congrArg Value.bool (show ((((m.chk) : Int) == ((m.chk) : Int))) = true from by simp)) (by kernel_rfl)) h16 ?_
  refine an_k 7 (o_MessageBytes 30 7) (.bool true) h16 ?_
  refine an_k 8 (o_MessageBytes 30 8) (.bool true) h16 ?_
  refine an_v 9 (o_MessageBytes 30 9) (.agg (Msg.c m)) (fun W hS => exec_load_row 35 (.tmp 1) (by kernel_rfl) gm (by kernel_rfl) _ _ (0, 0) _ (hS) Try.underlying35 rfl (by rw [Msg.c_size hr]; kernel_rfl)) h16 ?_
  refine an_v 11 (o_MessageBytes 30 11) (.agg (Msg.c m)) (fun W hS => exec_load_row 35 (.tmp 1) (by kernel_rfl) gm (by kernel_rfl) _ _ (0, 0) _ (hS) Try.underlying35 rfl (by rw [Msg.c_size hr]; kernel_rfl)) h16 ?_
  refine an_o 10 ?_
  refine on_c (o_MessageBytes 30 10) 17 #[.agg (Msg.c m)] Try.func17 ((mCheck_any m _ hr).mono ?_)
  rintro e V21 ⟨rfl, kV21⟩
  refine ⟨_, rfl, ?_⟩
  have h22 := kV21.bk h16
  have h23 : Row V21 5 1 X1 m.told.length (B m.told) := h17.keeps kV21 (fun _ _ x => x)
  have h24 : Row V21 5 1 X2 m.told.length (B m.told) := h18.keeps kV21 (fun _ _ x => x)
  have K25 := K19.nn kV21
  have z26 := kV21.size
  refine ⟨h22, ?_⟩
  refine an_o 12 ?_
  refine on_c (o_MessageBytes 30 12) 18 #[.agg (Msg.c m)] Try.func18 ((rmCheck_ok_ m _ hr).mono ?_)
  rintro e V27 ⟨rfl, kV27⟩
  refine ⟨_, rfl, ?_⟩
  have h28 := kV27.bk h22
  have h29 : Row V27 5 1 X1 m.told.length (B m.told) := h23.keeps kV27 (fun _ _ x => x)
  have h30 : Row V27 5 1 X2 m.told.length (B m.told) := h24.keeps kV27 (fun _ _ x => x)
  have K31 := K25.nn kV27
  have z32 := kV27.size
  refine ⟨h28, ?_⟩
  refine an_v 13 (o_MessageBytes 30 13) (.bool true) (fun W hS => exec_cast (congrArg Value.bool (show ((((m.chk) : Int) == ((m.chk) : Int))) = true from by simp)) (by kernel_rfl)) h28 ?_
  refine an_k 14 (o_MessageBytes 30 14) (.bool true) h28 ?_
  refine an_o 15 ?_
  refine on_r (o_MessageBytes 30 15) (.bool true) (w' := V27) (by kernel_rfl) ?_
  refine ⟨h28, ?_⟩
  refine an_end (by kernel_rfl) ?_
  refine sy_a ⟨#[.agg (Msg.c m), pT gm 0, .bool false, X1, .int .i64 m.chk, X2, .int .i64 m.chk, .bool true, undef, undef, undef, undef, undef, undef, undef, undef, .tuple #[X1, .int .i64 m.chk], .agg (Msg.c m), .tuple #[X1, .int .i64 m.chk], X1, .int .i64 m.chk, .tuple #[X2, .int .i64 m.chk], .agg (Msg.c m), .tuple #[X2, .int .i64 m.chk], X2, .int .i64 m.chk, X1, X2, .bool true, .bool true, .int .i64 m.chk, .int .i64 m.chk, .bool true, .bool true, .bool true, .agg (Msg.c m), .int .i64 m.chk, .agg (Msg.c m), .int .i64 m.chk, .bool true, .bool true, undef, undef, undef, undef, undef, undef, undef, undef, undef, undef, undef, undef, undef, undef, undef, undef, undef, undef, undef, undef, undef, undef, undef, undef, undef, undef, undef, undef, undef, undef, undef, undef, undef, undef, undef, undef, undef, undef, undef, undef, undef, undef, undef, undef, undef, undef, undef, undef, undef, undef], []⟩ ?_
  refine then_n ?_
  refine sy_sq (part_MessageBytes 62) (part_MessageBytes 63) ?_
  refine sy_reg ?_
  refine rg_plain 4 (opsAt (part_MessageBytes 62)) [0, 1] (by kernel_rfl) (by kernel_rfl) ?_
  refine ps_k (o_MessageBytes 62 0) (X1) ?_
  refine ps_c (o_MessageBytes 62 1) 19 #[X1] Try.func19 ((overBytes_ok _ _ _ h29).mono ?_)
  rintro e V33 ⟨⟨rX1, rfl⟩, kV33⟩
  refine ⟨_, rfl, ?_⟩
  have h34 : V33.heap[gm]? = some (.cells (Msg.c m) 35 (0, 0)) := (kV33.block gm (lt_of_block h28) (fun e => by have := hge1 _ e; omega)).trans h28
  have h35 : Row V33 5 1 X2 m.told.length (B m.told) := h30.keeps kV33 (fun j hj e => apX j hj e)
  have K36 : Keeps Nob w V33 := K31.then kV33 (fun i hi hm => absurd hi (by have := hge1 i hm; omega))
  have z37 := kV33.size
  refine ps_end ?_
  refine then_n ?_
  refine sy_sq (part_MessageBytes 126) (part_MessageBytes 127) ?_
  refine sy_reg ?_
  refine rg_plain 5 (opsAt (part_MessageBytes 126)) [0, 1, 2, 3, 4, 5, 6] (by kernel_rfl) (by kernel_rfl) ?_
  refine ps_p (o_MessageBytes 126 0) (.agg (Msg.c m)) (exec_load_row 35 (.tmp 1) (by kernel_rfl) gm (by kernel_rfl) _ _ (0, 0) _ (h34) Try.underlying35 rfl (by rw [Msg.c_size hr]; kernel_rfl)) ?_
  refine ps_c (o_MessageBytes 126 1) 14 #[.agg (Msg.c m)] Try.func14 ((mBytes_any m _ hok).mono ?_)
  rintro e V38 ⟨X3, rfl, hX3, nX3, kV38⟩
  have lX3 : ∀ j, X3.ownBlock = some j → j < V38.heap.size := fun j hj => hX3.lt hj
  refine ⟨_, rfl, ?_⟩
  have h39 := kV38.bk h34
  have h40 : Row V38 5 1 X2 m.told.length (B m.told) := h35.keeps kV38 (fun _ _ x => x)
  have K41 := K36.nn kV38
  have z42 := kV38.size
  refine ps_k (o_MessageBytes 126 2) (.tuple #[X3, .int .i64 m.chk]) ?_
  refine ps_k (o_MessageBytes 126 3) (X3) ?_
  refine ps_k (o_MessageBytes 126 4) (.int .i64 m.chk) ?_
  refine ps_k (o_MessageBytes 126 5) (X3) ?_
  refine ps_k (o_MessageBytes 126 6) (.int .i64 m.chk) ?_
  refine ps_end ?_
  refine then_n ?_
  refine sy_sq (part_MessageBytes 254) (part_MessageBytes 255) ?_
  refine sy_reg ?_
  refine rg_plain 6 (opsAt (part_MessageBytes 254)) [0, 1, 2, 3, 4, 5, 6] (by kernel_rfl) (by kernel_rfl) ?_
  refine ps_p (o_MessageBytes 254 0) (.agg (Msg.c m)) (exec_load_row 35 (.tmp 1) (by kernel_rfl) gm (by kernel_rfl) _ _ (0, 0) _ (h39) Try.underlying35 rfl (by rw [Msg.c_size hr]; kernel_rfl)) ?_
  refine ps_c (o_MessageBytes 254 1) 20 #[.agg (Msg.c m)] Try.func20 ((mActor_any m _ hr).mono ?_)
  rintro e V43 ⟨rfl, kV43⟩
  refine ⟨_, rfl, ?_⟩
  have h44 := kV43.bk h39
  have h45 : Row V43 5 1 X2 m.told.length (B m.told) := h40.keeps kV43 (fun _ _ x => x)
  have h46 : Row V43 5 1 X3 m.told.length (B m.told) := hX3.keeps kV43 (fun _ _ x => x)
  have K47 := K41.nn kV43
  have z48 := kV43.size
  refine ps_k (o_MessageBytes 254 2) (.tuple #[.int .i64 m.who.1, .bool m.who.2]) ?_
  refine ps_k (o_MessageBytes 254 3) (.int .i64 m.who.1) ?_
  refine ps_k (o_MessageBytes 254 4) (.bool m.who.2) ?_
  refine ps_k (o_MessageBytes 254 5) (.int .i64 m.who.1) ?_
  refine ps_k (o_MessageBytes 254 6) (.bool m.who.2) ?_
  refine ps_end ?_
  refine then_n ?_
  refine sy_sq (part_MessageBytes 510) (part_MessageBytes 511) ?_
  refine sy_reg ?_
  refine rg_plain 7 (opsAt (part_MessageBytes 510)) [0, 1, 2, 3, 4, 5, 6] (by kernel_rfl) (by kernel_rfl) ?_
  refine ps_p (o_MessageBytes 510 0) (.agg (Msg.c m)) (exec_load_row 35 (.tmp 1) (by kernel_rfl) gm (by kernel_rfl) _ _ (0, 0) _ (h44) Try.underlying35 rfl (by rw [Msg.c_size hr]; kernel_rfl)) ?_
  refine ps_c (o_MessageBytes 510 1) 21 #[.agg (Msg.c m)] Try.func21 ((rmActor_any m _ hr).mono ?_)
  rintro e V49 ⟨rfl, kV49⟩
  refine ⟨_, rfl, ?_⟩
  have h50 := kV49.bk h44
  have h51 : Row V49 5 1 X2 m.told.length (B m.told) := h45.keeps kV49 (fun _ _ x => x)
  have h52 : Row V49 5 1 X3 m.told.length (B m.told) := h46.keeps kV49 (fun _ _ x => x)
  have K53 := K47.nn kV49
  have z54 := kV49.size
  refine ps_k (o_MessageBytes 510 2) (.tuple #[.int .i64 m.who.1, .bool m.who.2]) ?_
  refine ps_k (o_MessageBytes 510 3) (.int .i64 m.who.1) ?_
  refine ps_k (o_MessageBytes 510 4) (.bool m.who.2) ?_
  refine ps_k (o_MessageBytes 510 5) (.int .i64 m.who.1) ?_
  refine ps_k (o_MessageBytes 510 6) (.bool m.who.2) ?_
  refine ps_end ?_
  refine then_n ?_
  refine sy_sq (part_MessageBytes 1022) (part_MessageBytes 1023) ?_
  refine sy_reg ?_
  refine rg_plain 8 (opsAt (part_MessageBytes 1022)) [0, 1] (by kernel_rfl) (by kernel_rfl) ?_
  refine ps_c (o_MessageBytes 1022 0) 22 #[] Try.func22 ((mNames_ok _).mono ?_)
  rintro e V55 ⟨n1, rfl, hn1, nn1, kV55⟩
  have ln1 := lt_of_block hn1
  refine ⟨_, rfl, ?_⟩
  have h56 := kV55.bk h50
  have h57 : Row V55 5 1 X2 m.told.length (B m.told) := h51.keeps kV55 (fun _ _ x => x)
  have h58 : Row V55 5 1 X3 m.told.length (B m.told) := h52.keeps kV55 (fun _ _ x => x)
  have K59 := K53.nn kV55
  have z60 := kV55.size
  refine ps_k (o_MessageBytes 1022 1) (.slice (some ⟨n1, 0, none⟩) 11 11) ?_
  refine ps_end ?_
  refine sy_a ⟨#[.agg (Msg.c m), pT gm 0, .bool false, X1, .int .i64 m.chk, X2, .int .i64 m.chk, .bool true, X3, .int .i64 m.chk, .int .i64 m.who.1, .bool m.who.2, .int .i64 m.who.1, .bool m.who.2, .slice (some ⟨n1, 0, none⟩) 11 11, undef, .tuple #[X1, .int .i64 m.chk], .agg (Msg.c m), .tuple #[X1, .int .i64 m.chk], X1, .int .i64 m.chk, .tuple #[X2, .int .i64 m.chk], .agg (Msg.c m), .tuple #[X2, .int .i64 m.chk], X2, .int .i64 m.chk, X1, X2, .bool true, .bool true, .int .i64 m.chk, .int .i64 m.chk, .bool true, .bool true, .bool true, .agg (Msg.c m), .int .i64 m.chk, .agg (Msg.c m), .int .i64 m.chk, .bool true, .bool true, X1, rX1, .tuple #[X3, .int .i64 m.chk], .agg (Msg.c m), .tuple #[X3, .int .i64 m.chk], X3, .int .i64 m.chk, .tuple #[.int .i64 m.who.1, .bool m.who.2], .agg (Msg.c m), .tuple #[.int .i64 m.who.1, .bool m.who.2], .int .i64 m.who.1, .bool m.who.2, .tuple #[.int .i64 m.who.1, .bool m.who.2], .agg (Msg.c m), .tuple #[.int .i64 m.who.1, .bool m.who.2], .int .i64 m.who.1, .bool m.who.2, .slice (some ⟨n1, 0, none⟩) 11 11, undef, undef, undef, undef, undef, undef, undef, undef, undef, undef, undef, undef, undef, undef, undef, undef, undef, undef, undef, undef, undef, undef, undef, undef, undef, undef, undef, undef, undef, undef, undef, undef], []⟩ ?_
  refine then_n ?_
  refine sy_sq (part_MessageBytes 2046) (part_MessageBytes 2047) ?_
  refine sy_reg ?_
  refine rg_plain 9 (opsAt (part_MessageBytes 2046)) [0, 1, 2, 3] (by kernel_rfl) (by kernel_rfl) ?_
  refine ps_k (o_MessageBytes 2046 0) (.slice (some ⟨n1, 0, none⟩) 11 11) ?_
  refine ps_c (o_MessageBytes 2046 1) 24 #[] Try.func24 ((rmNames_ok _).mono ?_)
  rintro e V61 ⟨n2, rfl, hn2, nn2, kV61⟩
  have ln2 := lt_of_block hn2
  refine ⟨_, rfl, ?_⟩
  have h62 := kV61.bk h56
  have h63 : Row V61 5 1 X2 m.told.length (B m.told) := h57.keeps kV61 (fun _ _ x => x)
  have h64 : Row V61 5 1 X3 m.told.length (B m.told) := h58.keeps kV61 (fun _ _ x => x)
  have h65 := kV61.bk hn1
  have K66 := K59.nn kV61
  have z67 := kV61.size
  refine ps_c (o_MessageBytes 2046 2) 23 #[.slice (some ⟨n1, 0, none⟩) 11 11, .slice (some ⟨n2, 0, none⟩) 11 11] Try.func23 ((kSameTexts_ok n1 n2 namesL _ h65 hn2 (by decide)).mono ?_)
  rintro e V68 ⟨rfl, kV68⟩
  refine ⟨_, rfl, ?_⟩
  have h69 := kV68.bk h62
  have h70 : Row V68 5 1 X2 m.told.length (B m.told) := h63.keeps kV68 (fun _ _ x => x)
  have h71 : Row V68 5 1 X3 m.told.length (B m.told) := h64.keeps kV68 (fun _ _ x => x)
  have h72 := kV68.bk h65
  have h73 := kV68.bk hn2
  have K74 := K66.nn kV68
  have z75 := kV68.size
  refine ps_k (o_MessageBytes 2046 3) (.bool true) ?_
  refine ps_end ?_
  refine then_n ?_
  refine sy_sq (part_MessageBytes 4094) (part_MessageBytes 4095) ?_
  refine sy_reg ?_
  refine rg_plain 10 (opsAt (part_MessageBytes 4094)) [0, 1] (by kernel_rfl) (by kernel_rfl) ?_
  refine ps_k (o_MessageBytes 4094 0) (.slice (some ⟨n1, 0, none⟩) 11 11) ?_
  refine ps_c (o_MessageBytes 4094 1) 25 #[.slice (some ⟨n1, 0, none⟩) 11 11] Try.func25 ((kOverTexts_ok n1 11 namesL _ h72 rfl (by decide)).mono ?_)
  rintro e V76 ⟨rfl, kV76⟩
  refine ⟨_, rfl, ?_⟩
  have h77 := kV76.bo h69 (by omega)
  have h78 : Row V76 5 1 X2 m.told.length (B m.told) := h70.keeps kV76 (fun j hj e => by have := lX2 j hj; unfold Own.One at e; omega)
  have h79 : Row V76 5 1 X3 m.told.length (B m.told) := h71.keeps kV76 (fun j hj e => by have := lX3 j hj; unfold Own.One at e; omega)
  have K80 := K74.no kV76 (by omega)
  have z81 := kV76.size
  refine ps_end ?_
  refine then_n ?_
  refine sy_sq (part_MessageBytes 8190) (part_MessageBytes 8191) ?_
  refine sy_reg ?_
  refine rg_plain 11 (opsAt (part_MessageBytes 8190)) [0, 1, 2, 3, 4, 5, 6, 7, 8, 9, 10, 11, 12, 13, 14, 15, 16, 17, 18, 19, 20, 21, 22, 23, 24, 25, 26, 27] (by kernel_rfl) (by kernel_rfl) ?_
  refine ps_k (o_MessageBytes 8190 0) (.bool true) ?_
  refine ps_k (o_MessageBytes 8190 1) (.bool true) ?_
  refine ps_k (o_MessageBytes 8190 2) (X3) ?_
  refine ps_k (o_MessageBytes 8190 3) (X2) ?_
  refine ps_c (o_MessageBytes 8190 4) 16 #[X3, X2] Try.func16 ((mSameBytes (Row.bytes h79) (Row.bytes h78) rfl).mono ?_)
  rintro e w1 ⟨rfl, rfl⟩
  refine ⟨_, rfl, ?_⟩
  refine ps_k (o_MessageBytes 8190 5) (.bool true) ?_
  refine ps_k (o_MessageBytes 8190 6) (.bool true) ?_
  refine ps_k (o_MessageBytes 8190 7) (.int .i64 m.who.1) ?_
  refine ps_k (o_MessageBytes 8190 8) (.int .i64 m.who.1) ?_
  refine ps_p (o_MessageBytes 8190 9) (.bool true) (exec_cast (congrArg Value.bool (show ((((m.who.1) : Int) == ((m.who.1) : Int))) = true from by simp)) (by kernel_rfl)) ?_
  refine ps_k (o_MessageBytes 8190 10) (.bool true) ?_
  refine ps_k (o_MessageBytes 8190 11) (.bool true) ?_
  refine ps_k (o_MessageBytes 8190 12) (.bool m.who.2) ?_
  refine ps_k (o_MessageBytes 8190 13) (.bool m.who.2) ?_
  refine ps_p (o_MessageBytes 8190 14) (.bool true) (exec_binop .eql 4 4 (.tmp 76) (.tmp 77) (by kernel_rfl) (.bool m.who.2) (.bool m.who.2) _ (by kernel_rfl) (by kernel_rfl) (by kernel_rfl) (bools_eq _ _)) ?_
  refine ps_k (o_MessageBytes 8190 15) (.bool true) ?_
  refine ps_k (o_MessageBytes 8190 16) (.bool true) ?_
  refine ps_k (o_MessageBytes 8190 17) (.bool true) ?_
  refine ps_k (o_MessageBytes 8190 18) (.bool true) ?_
  refine ps_k (o_MessageBytes 8190 19) (.bool true) ?_
  refine ps_c (o_MessageBytes 8190 20) 22 #[] Try.func22 ((mNames_ok _).mono ?_)
  rintro e V82 ⟨n3, rfl, hn3, nn3, kV82⟩
  have ln3 := lt_of_block hn3
  refine ⟨_, rfl, ?_⟩
  have h83 := kV82.bk h77
  have h84 : Row V82 5 1 X2 m.told.length (B m.told) := h78.keeps kV82 (fun _ _ x => x)
  have h85 : Row V82 5 1 X3 m.told.length (B m.told) := h79.keeps kV82 (fun _ _ x => x)
  have K86 := K80.nn kV82
  have z87 := kV82.size
  refine ps_c (o_MessageBytes 8190 21) 24 #[] Try.func24 ((rmNames_ok _).mono ?_)
  rintro e V88 ⟨n4, rfl, hn4, nn4, kV88⟩
  have ln4 := lt_of_block hn4
  refine ⟨_, rfl, ?_⟩
  have h89 := kV88.bk h83
  have h90 : Row V88 5 1 X2 m.told.length (B m.told) := h84.keeps kV88 (fun _ _ x => x)
  have h91 : Row V88 5 1 X3 m.told.length (B m.told) := h85.keeps kV88 (fun _ _ x => x)
  have h92 := kV88.bk hn3
  have K93 := K86.nn kV88
  have z94 := kV88.size
  refine ps_c (o_MessageBytes 8190 22) 23 #[.slice (some ⟨n3, 0, none⟩) 11 11, .slice (some ⟨n4, 0, none⟩) 11 11] Try.func23 ((kSameTexts_ok n3 n4 namesL _ h92 hn4 (by decide)).mono ?_)
  rintro e V95 ⟨rfl, kV95⟩
  refine ⟨_, rfl, ?_⟩
  have h96 := kV95.bk h89
  have h97 : Row V95 5 1 X2 m.told.length (B m.told) := h90.keeps kV95 (fun _ _ x => x)
  have h98 : Row V95 5 1 X3 m.told.length (B m.told) := h91.keeps kV95 (fun _ _ x => x)
  have h99 := kV95.bk h92
  have h100 := kV95.bk hn4
  have K101 := K93.nn kV95
  have z102 := kV95.size
  refine ps_k (o_MessageBytes 8190 23) (.bool true) ?_
  refine ps_k (o_MessageBytes 8190 24) (.bool true) ?_
  refine ps_c (o_MessageBytes 8190 25) 9 #[] Try.func9 ((lmawake_ok _).mono ?_)
  rintro e V103 ⟨rfl, kV103⟩
  refine ⟨_, rfl, ?_⟩
  have h104 := kV103.bk h96
  have h105 : Row V103 5 1 X2 m.told.length (B m.told) := h97.keeps kV103 (fun _ _ x => x)
  have h106 : Row V103 5 1 X3 m.told.length (B m.told) := h98.keeps kV103 (fun _ _ x => x)
  have h107 := kV103.bk h99
  have h108 := kV103.bk h100
  have K109 := K101.nn kV103
  have z110 := kV103.size
  refine ps_k (o_MessageBytes 8190 26) (.bool true) ?_
  refine ps_k (o_MessageBytes 8190 27) (.bool true) ?_
  refine ps_end ?_
  refine sy_a ⟨#[.agg (Msg.c m), pT gm 0, .bool true, X1, .int .i64 m.chk, X2, .int .i64 m.chk, .bool true, X3, .int .i64 m.chk, .int .i64 m.who.1, .bool m.who.2, .int .i64 m.who.1, .bool m.who.2, .slice (some ⟨n1, 0, none⟩) 11 11, .bool true, .tuple #[X1, .int .i64 m.chk], .agg (Msg.c m), .tuple #[X1, .int .i64 m.chk], X1, .int .i64 m.chk, .tuple #[X2, .int .i64 m.chk], .agg (Msg.c m), .tuple #[X2, .int .i64 m.chk], X2, .int .i64 m.chk, X1, X2, .bool true, .bool true, .int .i64 m.chk, .int .i64 m.chk, .bool true, .bool true, .bool true, .agg (Msg.c m), .int .i64 m.chk, .agg (Msg.c m), .int .i64 m.chk, .bool true, .bool true, X1, rX1, .tuple #[X3, .int .i64 m.chk], .agg (Msg.c m), .tuple #[X3, .int .i64 m.chk], X3, .int .i64 m.chk, .tuple #[.int .i64 m.who.1, .bool m.who.2], .agg (Msg.c m), .tuple #[.int .i64 m.who.1, .bool m.who.2], .int .i64 m.who.1, .bool m.who.2, .tuple #[.int .i64 m.who.1, .bool m.who.2], .agg (Msg.c m), .tuple #[.int .i64 m.who.1, .bool m.who.2], .int .i64 m.who.1, .bool m.who.2, .slice (some ⟨n1, 0, none⟩) 11 11, .slice (some ⟨n1, 0, none⟩) 11 11, .slice (some ⟨n2, 0, none⟩) 11 11, .bool true, .slice (some ⟨n1, 0, none⟩) 11 11, .tuple #[], .bool true, .bool true, X3, X2, .bool true, .bool true, .bool true, .int .i64 m.who.1, .int .i64 m.who.1, .bool true, .bool true, .bool true, .bool m.who.2, .bool m.who.2, .bool true, .bool true, .bool true, .bool true, .bool true, .bool true, .slice (some ⟨n3, 0, none⟩) 11 11, .slice (some ⟨n4, 0, none⟩) 11 11, .bool true, .bool true, .bool true, .bool true, .bool true], []⟩ ?_
  refine then_n ?_
  refine sy_ret (by kernel_rfl) ?_
  refine sy_out (.bool true) rfl (by kernel_rfl) ?_
  exact ⟨rfl, K109⟩
end Go.Proofs.Ytmapcghgdbfmhaa
