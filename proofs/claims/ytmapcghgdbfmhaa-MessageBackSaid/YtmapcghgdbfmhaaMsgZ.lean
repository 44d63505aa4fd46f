/-
  Messages: back (printed by msg16.py). Conditions: none.
-/
import Derived.Test.YtmapcghgdbfmhaaMsgX
import Derived.Test.YtmapcghgdbfmhaaMsgW
import Derived.Test.YtmapcghgdbfmhaaPickOk
namespace Go.Proofs.Ytmapcghgdbfmhaa
open Go Go.RowKit Go.Own Go.Shelf
theorem fault_off {e p : Int} (h : ¬ e = 0) : decide (e = 0 ∧ p = 0) = false := decide_eq_false fun x => h x.1
theorem mBytes_lit (m : Msg) (w : World) (hok : m.Ok) : Calls Try.prog 14 #[.agg (Msg.c m)] w (fun e w' => ∃ A c, e = .returned (.tuple #[.slice A m.told.length c, .int .i64 m.chk]) ∧ BytesAt w' (.slice A m.told.length c) m.told ∧ m.told.length ≤ c ∧ (∀ j, (Value.slice A m.told.length c).ownBlock = some j → j < w'.heap.size) ∧ Keeps Nob w w') :=
  (mBytes_any m w hok).mono fun e w' ⟨X, h1, h2, h3, h4⟩ => by
    obtain ⟨A, c, rfl⟩ := row_form h2
    have hb := Row.bytes h2
    obtain ⟨_, _, e2, hc, _⟩ := hb.form
    simp only [Value.slice.injEq] at e2; obtain ⟨_, _, rfl⟩ := e2
    exact ⟨A, c, h1, hb, hc, fun j hj => h2.lt hj, h4⟩
theorem told_by {m : Msg} (h : m.chk = 0) : m.told = m.by := if_pos h
theorem told_read {m : Msg} (hok : m.Ok) (h : m.chk = 0) : mFin m.told = (0, 0) ∧ mRes m.told = m := by rw [told_by h]; exact mFin_at hok h
theorem told_cut {m : Msg} {k : Nat} (hok : m.Ok) (h : m.chk = 0) (hk : k < m.told.length) : ¬ (mFin (m.told.take k)).1 = 0 := by rw [told_by h] at hk ⊢; exact mFin_cut hok h hk
theorem told_pos {m : Msg} (h : m.chk = 0) : 0 < m.told.length := by
  rw [told_by h]; unfold Msg.by; rw [List.length_append]; have := Cod.enc_length m.k.toNat; have := Cod.enc_pos m.k.toNat; omega
theorem told_len {m : Msg} (h : m.R) : m.told.length ≤ 458 := by
  unfold Msg.told; split
  · exact by_len h
  · exact Nat.zero_le _
theorem mRes_no {l : List UInt8} (h : ¬ (mFin l).1 = 0) : mRes l = msgZ := if_neg h
theorem pick_lt (x : Int) (n : Nat) (w : World) (hx : i64b x) (h0 : 0 < n) (hn : n ≤ 9223372036854775807) : Calls Try.prog 28 #[.int .i64 x, .int .i64 (n : Int)] w fun e w' => ∃ t : Nat, t < n ∧ e = .returned (.int .i64 ((t : Nat) : Int)) ∧ w = w' :=
  (pick_ok x (n : Int) w ⟨by have := hx.1; omega, by have := hx.2; omega⟩ (by omega)).mono fun e w' ⟨h1, h2⟩ => by
    rw [if_neg (by omega)] at h1
    have h3 := Int.emod_nonneg x (show (n : Int) ≠ 0 by omega)
    have h4 := Int.emod_lt_of_pos x (show (0 : Int) < (n : Int) by omega)
    exact ⟨(x % (n : Int)).toNat, by omega, by rw [h1, Int.toNat_of_nonneg h3], h2⟩
theorem bools_ne {a b : Bool} (h : a = b) (w : World) : (binOp .neq 4 (.bool a) (.bool b)).run Try.prog w = .ok (.bool false) w := by
  subst h; cases a <;> kernel_rfl

noncomputable def part_MessageBack (n : Nat) : Code := partOf Try.f7 n
noncomputable abbrev o_MessageBack (n k : Nat) : Oper := (opsAt (part_MessageBack n)).getD k default
set_option maxRecDepth 100000 in
set_option maxHeartbeats 4000000 in
theorem mback_main (m : Msg) (A0 : Option Addr) (cap0 : Nat) (l : List UInt8) (cut : Int) (hcut : i64b cut) (w : World) (hok : m.Ok) (hx : BytesAt w (.slice A0 l.length cap0) l) :
    Calls Try.prog 7 #[.agg (Msg.c m), .slice A0 l.length cap0, .int .i64 cut] w (fun e w' => e = .returned (.bool true) ∧ Keeps Nob w w') := by
  have hr := hok.R
  have K0 : Keeps Nob w w := Keeps.refl _ _
  refine sy_enter (part_MessageBack 1) ⟨#[.agg (Msg.c m), .slice A0 l.length cap0, .int .i64 cut, undef, undef, undef, undef, undef, undef, undef, undef, undef, undef, undef, undef, undef, undef, undef, undef, undef, undef, undef, undef, undef, undef, undef, undef, undef, undef, undef, undef, undef, undef, undef, undef, undef, undef, undef, undef, undef, undef, undef, undef, undef, undef, undef, undef, undef, undef, undef, undef, undef, undef, undef, undef, undef, undef, undef, undef, undef, undef, undef, undef, undef, undef, undef, undef, undef, undef, undef, undef, undef, undef, undef, undef, undef, undef, undef, undef, undef, undef, undef, undef, undef, undef, undef, undef, undef, undef, undef, undef, undef, undef, undef, undef, undef, undef, undef, undef, undef, undef, undef, undef, undef, undef, undef, undef, undef, undef, undef, undef, undef, undef, undef, undef, undef], []⟩ Try.func7 (by kernel_rfl) (by kernel_rfl) ?_
  refine sy_sq (part_MessageBack 2) (part_MessageBack 3) ?_
  refine sy_reg ?_
  refine rg_plain 0 (opsAt (part_MessageBack 2)) [0, 1] (by kernel_rfl) (by kernel_rfl) ?_
  obtain ⟨V1, eV1, g3, eg3, h2, kV1⟩ := alloc_step w ((Msg.c m)) 35
  have n3 : w.heap.size ≤ g3 := eg3 ▸ K0.size
  refine ps_r (o_MessageBack 2 0) (pT g3 0) (w' := V1) (by rw [← eV1, ← eg3]; exact exec_box 35 (.tmp 0) (by kernel_rfl) (.agg (Msg.c m)) (by kernel_rfl)) ?_
  clear eV1
  have K4 := K0.nn kV1
  have z5 := kV1.size
  refine ps_k (o_MessageBack 2 1) (.bool false) ?_
  refine ps_end ?_
  refine then_n ?_
  refine sy_sq (part_MessageBack 6) (part_MessageBack 7) ?_
  refine sy_reg ?_
  refine rg_plain 1 (opsAt (part_MessageBack 6)) [0, 1] (by kernel_rfl) (by kernel_rfl) ?_
  refine ps_c (o_MessageBack 6 0) 6 #[] Try.func6 ((MessageKnown_ok _).mono ?_)
  rintro e V6 ⟨rfl, kV6⟩
  refine ⟨_, rfl, ?_⟩
  have h7 := kV6.bk h2
  have K8 := K4.nn kV6
  have z9 := kV6.size
  refine ps_k (o_MessageBack 6 1) (.bool true) ?_
  refine ps_end ?_
  refine then_n ?_
  refine sy_sq (part_MessageBack 14) (part_MessageBack 15) ?_
  refine sy_reg ?_
  refine rg_plain 2 (opsAt (part_MessageBack 14)) [0, 1, 2, 3, 4, 5, 6] (by kernel_rfl) (by kernel_rfl) ?_
  refine ps_p (o_MessageBack 14 0) (.agg (Msg.c m)) (exec_load_row 35 (.tmp 3) (by kernel_rfl) g3 (by kernel_rfl) _ _ (0, 0) _ (h7) Try.underlying35 rfl (by rw [Msg.c_size hr]; kernel_rfl)) ?_
  refine ps_c (o_MessageBack 14 1) 14 #[.agg (Msg.c m)] Try.func14 ((mBytes_lit m _ hok).mono ?_)
  rintro e V10 ⟨A, c, rfl, hX, hcap, hlt, kV10⟩
  have htl := told_len hr
  refine ⟨_, rfl, ?_⟩
  have h11 := kV10.bk h7
  have K12 := K8.nn kV10
  have z13 := kV10.size
  refine ps_k (o_MessageBack 14 2) (.tuple #[.slice A m.told.length c, .int .i64 m.chk]) ?_
  refine ps_k (o_MessageBack 14 3) (.slice A m.told.length c) ?_
  refine ps_k (o_MessageBack 14 4) (.int .i64 m.chk) ?_
  refine ps_k (o_MessageBack 14 5) (.slice A m.told.length c) ?_
  refine ps_k (o_MessageBack 14 6) (.int .i64 m.chk) ?_
  refine ps_end ?_
  refine then_n ?_
  refine sy_sq (part_MessageBack 30) (part_MessageBack 31) ?_
  refine sy_sq (part_MessageBack 60) (part_MessageBack 61) ?_
  refine sy_reg ?_
  refine rg_plain 3 (opsAt (part_MessageBack 60)) [0, 1, 2, 3] (by kernel_rfl) (by kernel_rfl) ?_
  refine ps_k (o_MessageBack 60 0) (.int .i64 m.chk) ?_
  refine ps_p (o_MessageBack 60 1) (.agg (Msg.c m)) (exec_load_row 35 (.tmp 3) (by kernel_rfl) g3 (by kernel_rfl) _ _ (0, 0) _ (h11) Try.underlying35 rfl (by rw [Msg.c_size hr]; kernel_rfl)) ?_
  refine ps_c (o_MessageBack 60 2) 17 #[.agg (Msg.c m)] Try.func17 ((mCheck_any m _ hr).mono ?_)
  rintro e V14 ⟨rfl, kV14⟩
  refine ⟨_, rfl, ?_⟩
  have h15 := kV14.bk h11
  have h16 : BytesAt V14 (.slice A m.told.length c) m.told := hX.keepsN kV14
  have K17 := K12.nn kV14
  have z18 := kV14.size
  refine ps_p (o_MessageBack 60 3) (.bool false) (exec_cast (congrArg Value.bool (show ((((m.chk) : Int) != ((m.chk) : Int))) = false from by simp)) (by kernel_rfl)) ?_
  refine ps_end ?_
  refine then_n ?_
  refine sy_n (.tmp 29) (part_MessageBack 122) (part_MessageBack 123) ?_
  refine sy_sk ?_
  refine then_n ?_
  refine sy_sq (part_MessageBack 62) (part_MessageBack 63) ?_
  refine sy_cut (fun aQ VQ => ∃ (u4_10 u4_11 u4_12 u4_13 u4_14 u4_15 u4_30 u4_31 u4_32 u4_33 u4_34 u4_35 u4_36 u4_37 u4_38 u4_39 u4_40 u4_41 u4_42 u4_43 u4_44 u4_45 u4_46 u4_47 u4_48 u4_49 u4_50 u4_51 u4_52 u4_53 u4_54 u4_55 u4_56 u4_57 u4_58 u4_59 u4_60 u4_61 u4_62 u4_63 u4_64 u4_65 u4_66 u4_67 u4_68 u4_69 u4_70 u4_71 u4_72 u4_73 u4_74 u4_75 u4_76 u4_77 : Value), (aQ = ⟨#[.agg (Msg.c m), .slice A0 l.length cap0, .int .i64 cut, .pointer (some ⟨g3, 0, none⟩), undef, undef, .bool false, .bool true, .slice A m.told.length c, .int .i64 m.chk, u4_10, u4_11, u4_12, u4_13, u4_14, u4_15, undef, undef, undef, undef, .bool true, .tuple #[.slice A m.told.length c, .int .i64 m.chk], .agg (Msg.c m), .tuple #[.slice A m.told.length c, .int .i64 m.chk], .slice A m.told.length c, .int .i64 m.chk, .int .i64 m.chk, .agg (Msg.c m), .int .i64 m.chk, .bool false, u4_30, u4_31, u4_32, u4_33, u4_34, u4_35, u4_36, u4_37, u4_38, u4_39, u4_40, u4_41, u4_42, u4_43, u4_44, u4_45, u4_46, u4_47, u4_48, u4_49, u4_50, u4_51, u4_52, u4_53, u4_54, u4_55, u4_56, u4_57, u4_58, u4_59, u4_60, u4_61, u4_62, u4_63, u4_64, u4_65, u4_66, u4_67, u4_68, u4_69, u4_70, u4_71, u4_72, u4_73, u4_74, u4_75, u4_76, u4_77, undef, undef, undef, undef, undef, undef, undef, undef, undef, undef, undef, undef, undef, undef, undef, undef, undef, undef, undef, undef, undef, undef, undef, undef, undef, undef, undef, undef, undef, undef, undef, undef, undef, undef, undef, undef, undef, undef], []⟩) ∧ (VQ.heap[g3]? = some (.cells (Msg.c m) 35 (0, 0))) ∧ (BytesAt VQ (.slice A m.told.length c) m.told) ∧ (V14.heap.size ≤ VQ.heap.size) ∧ (Keeps Nob w VQ)) ?_ ?_
  · by_cases hc : m.chk = 0
    · refine sy_sq (part_MessageBack 124) (part_MessageBack 125) ?_
      refine sy_reg ?_
      refine rg_plain 5 (opsAt (part_MessageBack 124)) [0, 1] (by kernel_rfl) (by kernel_rfl) ?_
      refine ps_k (o_MessageBack 124 0) (.int .i64 m.chk) ?_
      refine ps_p (o_MessageBack 124 1) (.bool true) (eqt ((m.chk) : Int) ((0) : Int) (by omega)) ?_
      refine ps_end ?_
      refine then_n ?_
      refine sy_ys (.tmp 31) (part_MessageBack 250) (part_MessageBack 251) ?_
      refine sy_sq (part_MessageBack 500) (part_MessageBack 501) ?_
      refine sy_reg ?_
      refine rg_plain 6 (opsAt (part_MessageBack 500)) [0, 1, 2, 3, 4, 5, 6, 7, 8] (by kernel_rfl) (by kernel_rfl) ?_
      refine ps_k (o_MessageBack 500 0) (.slice A m.told.length c) ?_
      refine ps_c (o_MessageBack 500 1) 11 #[.slice A m.told.length c] Try.func11 ((mRead_is _ m.told m 0 0 _ h16 (by omega) (told_read hok hc).1 (told_read hok hc).2).mono ?_)
      rintro e V19 ⟨rfl, kV19⟩
      refine ⟨_, rfl, ?_⟩
      have h20 := kV19.bk h15
      have h21 : BytesAt V19 (.slice A m.told.length c) m.told := h16.keepsN kV19
      have K22 := K17.nn kV19
      have z23 := kV19.size
      refine ps_k (o_MessageBack 500 2) (.tuple #[.agg (Msg.c m), .agg #[.int .i64 0, .int .i64 0]]) ?_
      refine ps_k (o_MessageBack 500 3) (.agg (Msg.c m)) ?_
      refine ps_k (o_MessageBack 500 4) (.agg #[.int .i64 0, .int .i64 0]) ?_
      obtain ⟨V24, eV24, g10, eg10, h25, kV24⟩ := alloc_step V19 ((Msg.c msgZ)) 35
      have n26 : g3 < g10 := eg10 ▸ lt_of_block h20
      have n27 : w.heap.size ≤ g10 := eg10 ▸ K22.size
      refine ps_r (o_MessageBack 500 5) (pT g10 0) (w' := V24) (by rw [← eV24, ← eg10]; exact exec_alloc0 35 (by kernel_rfl) (.agg ((Msg.c msgZ))) (by kernel_rfl)) ?_
      clear eV24
      have h28 := kV24.bk h20
      have h29 : BytesAt V24 (.slice A m.told.length c) m.told := h21.keepsN kV24
      have K30 := K22.nn kV24
      have z31 := kV24.size
      obtain ⟨V32, eV32, g11, eg11, h33, kV32⟩ := alloc_step V24 (#[.int .i64 0, .int .i64 0]) 38
      have n34 : g3 < g11 := eg11 ▸ lt_of_block h28
      have n35 : g10 < g11 := eg11 ▸ lt_of_block h25
      have n36 : w.heap.size ≤ g11 := eg11 ▸ K30.size
      refine ps_r (o_MessageBack 500 6) (pT g11 0) (w' := V32) (by rw [← eV32, ← eg11]; exact exec_alloc0 38 (by kernel_rfl) (.agg (#[.int .i64 0, .int .i64 0])) (by kernel_rfl)) ?_
      clear eV32
      have h37 := kV32.bk h28
      have h38 : BytesAt V32 (.slice A m.told.length c) m.told := h29.keepsN kV32
      have h39 := kV32.bk h25
      have K40 := K30.nn kV32
      have z41 := kV32.size
      obtain ⟨V42, eV42, kV42⟩ := rowset_step V32 g10 ((Msg.c m))
      have h43 : V42.heap[g10]? = some (.cells (Msg.c m) 35 (0, 0)) := eV42 ▸ setRow_heap _ _ _ _ _ _ h39
      refine ps_s (o_MessageBack 500 7) (w' := V42) (by rw [← eV42]; exact exec_store_row 35 (.tmp 10) (.tmp 35) (by kernel_rfl) g10 ((Msg.c m)) (by kernel_rfl) (by kernel_rfl) 35 ((Msg.c msgZ)) h39 (by first | rfl | (rw [Msg.c_size hr]; kernel_rfl) | (rw [Msg.c_size msgZ_R]; kernel_rfl) | (rw [Msg.c_size (mRes_R l)]; kernel_rfl)) (by first | rfl | (rw [Msg.c_size hr]; exact (Msg.c_size msgZ_R).symm) | (rw [Msg.c_size msgZ_R]; exact (Msg.c_size msgZ_R).symm) | (rw [Msg.c_size (mRes_R l)]; exact (Msg.c_size msgZ_R).symm)) (Msg.c_one _)) ?_
      clear eV42
      have h44 := kV42.bo h37 (by omega)
      have h45 : BytesAt V42 (.slice A m.told.length c) m.told := h38.keeps kV42 (fun j hj e => by have := hlt j hj; unfold Own.One at e; omega)
      have h46 := kV42.bo h33 (by omega)
      have K47 := K40.no kV42 (by omega)
      have z48 := kV42.size
      obtain ⟨V49, eV49, kV49⟩ := rowset_step V42 g11 (#[.int .i64 0, .int .i64 0])
      have h50 : V49.heap[g11]? = some (.cells (#[.int .i64 0, .int .i64 0]) 38 (0, 0)) := eV49 ▸ setRow_heap _ _ _ _ _ _ h46
      refine ps_s (o_MessageBack 500 8) (w' := V49) (by rw [← eV49]; exact exec_store_row 38 (.tmp 11) (.tmp 36) (by kernel_rfl) g11 (#[.int .i64 0, .int .i64 0]) (by kernel_rfl) (by kernel_rfl) 38 (#[.int .i64 0, .int .i64 0]) h46 (by kernel_rfl) rfl (by kernel_rfl)) ?_
      clear eV49
      have h51 := kV49.bo h44 (by omega)
      have h52 : BytesAt V49 (.slice A m.told.length c) m.told := h45.keeps kV49 (fun j hj e => by have := hlt j hj; unfold Own.One at e; omega)
      have h53 := kV49.bo h43 (by omega)
      have K54 := K47.no kV49 (by omega)
      have z55 := kV49.size
      refine ps_end ?_
      refine then_n ?_
      refine sy_sq (part_MessageBack 1002) (part_MessageBack 1003) ?_
      refine sy_reg ?_
      refine rg_plain 7 (opsAt (part_MessageBack 1002)) [0, 1, 2, 3, 4, 5, 6, 7, 8, 9, 10, 11, 12, 13] (by kernel_rfl) (by kernel_rfl) ?_
      refine ps_k (o_MessageBack 1002 0) (.slice A m.told.length c) ?_
      refine ps_k (o_MessageBack 1002 1) (.int .i64 cut) ?_
      refine ps_k (o_MessageBack 1002 2) (.slice A m.told.length c) ?_
      refine ps_p (o_MessageBack 1002 3) (iN m.told.length) (exec_len (.tmp 40) 22 _ (by kernel_rfl) Try.underlying22 A m.told.length c (by kernel_rfl)) ?_
      have h0t := told_pos hc
      refine ps_c (o_MessageBack 1002 4) 28 #[.int .i64 cut, iN m.told.length] Try.func28 ((pick_lt cut _ _ hcut h0t (by omega)).mono ?_)
      rintro e w1 ⟨tk, htk, rfl, rfl⟩
      have hno := told_cut hok hc htk
      have hlk : (m.told.take tk).length = tk := by rw [List.length_take]; omega
      refine ⟨_, rfl, ?_⟩
      refine ps_p (o_MessageBack 1002 5) (.slice A tk c) (exec_slice_to 22 (.tmp 38) (.tmp 42) (by kernel_rfl) A m.told.length c (by kernel_rfl) .i64 tk (by kernel_rfl) 5 Try.underlying22 (by kernel_rfl) (by omega)) ?_
      refine ps_c (o_MessageBack 1002 6) 11 #[.slice A tk c] Try.func11 ((mRead_is _ (m.told.take tk) msgZ _ _ _ (BytesAt.take h52 tk (by omega) A m.told.length c rfl) (by omega) rfl (mRes_no hno)).mono ?_)
      rintro e V56 ⟨rfl, kV56⟩
      refine ⟨_, rfl, ?_⟩
      have h57 := kV56.bk h51
      have h58 : BytesAt V56 (.slice A m.told.length c) m.told := h52.keepsN kV56
      have h59 := kV56.bk h53
      have h60 := kV56.bk h50
      have K61 := K54.nn kV56
      have z62 := kV56.size
      refine ps_k (o_MessageBack 1002 7) (.tuple #[.agg (Msg.c msgZ), .agg #[.int .i64 (mFin (m.told.take tk)).1, .int .i64 (mFin (m.told.take tk)).2]]) ?_
      refine ps_k (o_MessageBack 1002 8) (.agg (Msg.c msgZ)) ?_
      refine ps_k (o_MessageBack 1002 9) (.agg #[.int .i64 (mFin (m.told.take tk)).1, .int .i64 (mFin (m.told.take tk)).2]) ?_
      obtain ⟨V63, eV63, g12, eg12, h64, kV63⟩ := alloc_step V56 ((Msg.c msgZ)) 35
      have n65 : g3 < g12 := eg12 ▸ lt_of_block h57
      have n66 : g10 < g12 := eg12 ▸ lt_of_block h59
      have n67 : g11 < g12 := eg12 ▸ lt_of_block h60
      have n68 : w.heap.size ≤ g12 := eg12 ▸ K61.size
      refine ps_r (o_MessageBack 1002 10) (pT g12 0) (w' := V63) (by rw [← eV63, ← eg12]; exact exec_alloc0 35 (by kernel_rfl) (.agg ((Msg.c msgZ))) (by kernel_rfl)) ?_
      clear eV63
      have h69 := kV63.bk h57
      have h70 : BytesAt V63 (.slice A m.told.length c) m.told := h58.keepsN kV63
      have h71 := kV63.bk h59
      have h72 := kV63.bk h60
      have K73 := K61.nn kV63
      have z74 := kV63.size
      obtain ⟨V75, eV75, g13, eg13, h76, kV75⟩ := alloc_step V63 (#[.int .i64 0, .int .i64 0]) 38
      have n77 : g3 < g13 := eg13 ▸ lt_of_block h69
      have n78 : g10 < g13 := eg13 ▸ lt_of_block h71
      have n79 : g11 < g13 := eg13 ▸ lt_of_block h72
      have n80 : g12 < g13 := eg13 ▸ lt_of_block h64
      have n81 : w.heap.size ≤ g13 := eg13 ▸ K73.size
      refine ps_r (o_MessageBack 1002 11) (pT g13 0) (w' := V75) (by rw [← eV75, ← eg13]; exact exec_alloc0 38 (by kernel_rfl) (.agg (#[.int .i64 0, .int .i64 0])) (by kernel_rfl)) ?_
      clear eV75
      have h82 := kV75.bk h69
      have h83 : BytesAt V75 (.slice A m.told.length c) m.told := h70.keepsN kV75
      have h84 := kV75.bk h71
      have h85 := kV75.bk h72
      have h86 := kV75.bk h64
      have K87 := K73.nn kV75
      have z88 := kV75.size
      obtain ⟨V89, eV89, kV89⟩ := rowset_step V75 g12 ((Msg.c msgZ))
      have h90 : V89.heap[g12]? = some (.cells (Msg.c msgZ) 35 (0, 0)) := eV89 ▸ setRow_heap _ _ _ _ _ _ h86
      refine ps_s (o_MessageBack 1002 12) (w' := V89) (by rw [← eV89]; exact exec_store_row 35 (.tmp 12) (.tmp 45) (by kernel_rfl) g12 ((Msg.c msgZ)) (by kernel_rfl) (by kernel_rfl) 35 ((Msg.c msgZ)) h86 (by first | rfl | (rw [Msg.c_size hr]; kernel_rfl) | (rw [Msg.c_size msgZ_R]; kernel_rfl) | (rw [Msg.c_size (mRes_R l)]; kernel_rfl)) (by first | rfl | (rw [Msg.c_size hr]; exact (Msg.c_size msgZ_R).symm) | (rw [Msg.c_size msgZ_R]; exact (Msg.c_size msgZ_R).symm) | (rw [Msg.c_size (mRes_R l)]; exact (Msg.c_size msgZ_R).symm)) (Msg.c_one _)) ?_
      clear eV89
      have h91 := kV89.bo h82 (by omega)
      have h92 : BytesAt V89 (.slice A m.told.length c) m.told := h83.keeps kV89 (fun j hj e => by have := hlt j hj; unfold Own.One at e; omega)
      have h93 := kV89.bo h84 (by omega)
      have h94 := kV89.bo h85 (by omega)
      have h95 := kV89.bo h76 (by omega)
      have K96 := K87.no kV89 (by omega)
      have z97 := kV89.size
      obtain ⟨V98, eV98, kV98⟩ := rowset_step V89 g13 (#[.int .i64 (mFin (m.told.take tk)).1, .int .i64 (mFin (m.told.take tk)).2])
      have h99 : V98.heap[g13]? = some (.cells (#[.int .i64 (mFin (m.told.take tk)).1, .int .i64 (mFin (m.told.take tk)).2]) 38 (0, 0)) := eV98 ▸ setRow_heap _ _ _ _ _ _ h95
      refine ps_s (o_MessageBack 1002 13) (w' := V98) (by rw [← eV98]; exact exec_store_row 38 (.tmp 13) (.tmp 46) (by kernel_rfl) g13 (#[.int .i64 (mFin (m.told.take tk)).1, .int .i64 (mFin (m.told.take tk)).2]) (by kernel_rfl) (by kernel_rfl) 38 (#[.int .i64 0, .int .i64 0]) h95 (by kernel_rfl) rfl (by kernel_rfl)) ?_
      clear eV98
      have h100 := kV98.bo h91 (by omega)
      have h101 : BytesAt V98 (.slice A m.told.length c) m.told := h92.keeps kV98 (fun j hj e => by have := hlt j hj; unfold Own.One at e; omega)
      have h102 := kV98.bo h93 (by omega)
      have h103 := kV98.bo h94 (by omega)
      have h104 := kV98.bo h90 (by omega)
      have K105 := K96.no kV98 (by omega)
      have z106 := kV98.size
      refine ps_end ?_
      refine sy_a ⟨#[.agg (Msg.c m), .slice A0 l.length cap0, .int .i64 cut, pT g3 0, undef, undef, .bool false, .bool true, .slice A m.told.length c, .int .i64 m.chk, pT g10 0, pT g11 0, pT g12 0, pT g13 0, undef, undef, undef, undef, undef, undef, .bool true, .tuple #[.slice A m.told.length c, .int .i64 m.chk], .agg (Msg.c m), .tuple #[.slice A m.told.length c, .int .i64 m.chk], .slice A m.told.length c, .int .i64 m.chk, .int .i64 m.chk, .agg (Msg.c m), .int .i64 m.chk, .bool false, .int .i64 m.chk, .bool true, .tuple #[.agg (Msg.c m), .agg #[.int .i64 0, .int .i64 0]], .slice A m.told.length c, .tuple #[.agg (Msg.c m), .agg #[.int .i64 0, .int .i64 0]], .agg (Msg.c m), .agg #[.int .i64 0, .int .i64 0], .tuple #[.agg (Msg.c msgZ), .agg #[.int .i64 (mFin (m.told.take tk)).1, .int .i64 (mFin (m.told.take tk)).2]], .slice A m.told.length c, .int .i64 cut, .slice A m.told.length c, iN m.told.length, iN tk, .slice A tk c, .tuple #[.agg (Msg.c msgZ), .agg #[.int .i64 (mFin (m.told.take tk)).1, .int .i64 (mFin (m.told.take tk)).2]], .agg (Msg.c msgZ), .agg #[.int .i64 (mFin (m.told.take tk)).1, .int .i64 (mFin (m.told.take tk)).2], undef, undef, undef, undef, undef, undef, undef, undef, undef, undef, undef, undef, undef, undef, undef, undef, undef, undef, undef, undef, undef, undef, undef, undef, undef, undef, undef, undef, undef, undef, undef, undef, undef, undef, undef, undef, undef, undef, undef, undef, undef, undef, undef, undef, undef, undef, undef, undef, undef, undef, undef, undef, undef, undef, undef, undef, undef, undef, undef, undef, undef, undef, undef, undef, undef, undef, undef, undef, undef], []⟩ ?_
      refine then_n ?_
      refine sy_sq (part_MessageBack 2006) (part_MessageBack 2007) ?_
      refine sy_reg ?_
      refine rg_plain 8 (opsAt (part_MessageBack 2006)) [0, 1, 2, 3, 4, 5, 6] (by kernel_rfl) (by kernel_rfl) ?_
      refine ps_p (o_MessageBack 2006 0) (.agg (Msg.c m)) (exec_load_row 35 (.tmp 3) (by kernel_rfl) g3 (by kernel_rfl) _ _ (0, 0) _ (h100) Try.underlying35 rfl (by rw [Msg.c_size hr]; kernel_rfl)) ?_
      refine ps_c (o_MessageBack 2006 1) 20 #[.agg (Msg.c m)] Try.func20 ((mActor_is m _ _ _ hr (who_ok hc)).mono ?_)
      rintro e V107 ⟨rfl, kV107⟩
      refine ⟨_, rfl, ?_⟩
      have h108 := kV107.bk h100
      have h109 : BytesAt V107 (.slice A m.told.length c) m.told := h101.keepsN kV107
      have h110 := kV107.bk h102
      have h111 := kV107.bk h103
      have h112 := kV107.bk h104
      have h113 := kV107.bk h99
      have K114 := K105.nn kV107
      have z115 := kV107.size
      refine ps_k (o_MessageBack 2006 2) (.tuple #[.int .i64 m.f, .bool (decide (m.k ≠ 11))]) ?_
      refine ps_k (o_MessageBack 2006 3) (.int .i64 m.f) ?_
      refine ps_k (o_MessageBack 2006 4) (.bool (decide (m.k ≠ 11))) ?_
      refine ps_k (o_MessageBack 2006 5) (.int .i64 m.f) ?_
      refine ps_k (o_MessageBack 2006 6) (.bool (decide (m.k ≠ 11))) ?_
      refine ps_end ?_
      refine then_n ?_
      refine sy_sq (part_MessageBack 4014) (part_MessageBack 4015) ?_
      refine sy_reg ?_
      refine rg_plain 9 (opsAt (part_MessageBack 4014)) [0, 1, 2, 3, 4, 5, 6, 7, 8, 9, 10, 11, 12, 13, 14, 15, 16, 17, 18, 19, 20, 21, 22, 23, 24, 25] (by kernel_rfl) (by kernel_rfl) ?_
      refine ps_p (o_MessageBack 4014 0) (.agg #[.int .i64 0, .int .i64 0]) (exec_load_row 38 (.tmp 11) (by kernel_rfl) g11 (by kernel_rfl) _ _ (0, 0) _ (h111) Try.underlying38 rfl (by kernel_rfl)) ?_
      refine ps_k (o_MessageBack 4014 1) (.agg #[.int .i64 0, .int .i64 0]) ?_
      refine ps_p (o_MessageBack 4014 2) (.bool false) (exec_cast (congrArg Value.bool (by simp)) (exec_binop .neq 38 38 (.tmp 52) (.tmp 53) (by kernel_rfl) (.agg #[.int .i64 0, .int .i64 0]) (.agg #[.int .i64 0, .int .i64 0]) _ (by kernel_rfl) (by kernel_rfl) (run_eqGuard_agg _ _ _ _ _ _ _ fault_guard) (fault_ne _ _ _ _ _))) ?_
      refine ps_k (o_MessageBack 4014 3) (.bool false) ?_
      refine ps_p (o_MessageBack 4014 4) (.agg (Msg.c m)) (exec_load_row 35 (.tmp 10) (by kernel_rfl) g10 (by kernel_rfl) _ _ (0, 0) _ (h110) Try.underlying35 rfl (by rw [Msg.c_size hr]; kernel_rfl)) ?_
      refine ps_p (o_MessageBack 4014 5) (.agg (Msg.c m)) (exec_load_row 35 (.tmp 3) (by kernel_rfl) g3 (by kernel_rfl) _ _ (0, 0) _ (h108) Try.underlying35 rfl (by rw [Msg.c_size hr]; kernel_rfl)) ?_
      refine ps_p (o_MessageBack 4014 6) (.bool false) (exec_cast (congrArg Value.bool (by simp)) (exec_binop .neq 35 35 (.tmp 56) (.tmp 57) (by kernel_rfl) (.agg (Msg.c m)) (.agg (Msg.c m)) _ (by kernel_rfl) (by kernel_rfl) (run_eqGuard_agg _ _ _ _ _ _ _ msg_guard) (msg_ne _ _ hr hr _))) ?_
      refine ps_k (o_MessageBack 4014 7) (.bool false) ?_
      refine ps_k (o_MessageBack 4014 8) (.bool false) ?_
      refine ps_p (o_MessageBack 4014 9) (.agg #[.int .i64 (mFin (m.told.take tk)).1, .int .i64 (mFin (m.told.take tk)).2]) (exec_load_row 38 (.tmp 13) (by kernel_rfl) g13 (by kernel_rfl) _ _ (0, 0) _ (h113) Try.underlying38 rfl (by kernel_rfl)) ?_
      refine ps_k (o_MessageBack 4014 10) (.agg #[.int .i64 0, .int .i64 0]) ?_
      refine ps_p (o_MessageBack 4014 11) (.bool false) (exec_cast (congrArg Value.bool (fault_off hno)) (exec_binop .eql 38 38 (.tmp 61) (.tmp 62) (by kernel_rfl) (.agg #[.int .i64 (mFin (m.told.take tk)).1, .int .i64 (mFin (m.told.take tk)).2]) (.agg #[.int .i64 0, .int .i64 0]) _ (by kernel_rfl) (by kernel_rfl) (run_eqGuard_agg _ _ _ _ _ _ _ fault_guard) (fault_eq _ _ _ _ _))) ?_
      refine ps_k (o_MessageBack 4014 12) (.bool false) ?_
      refine ps_k (o_MessageBack 4014 13) (.bool false) ?_
      refine ps_k (o_MessageBack 4014 14) (.bool (decide (m.k ≠ 11))) ?_
      refine ps_k (o_MessageBack 4014 15) (pT g3 0) ?_
      refine ps_p (o_MessageBack 4014 16) (.int .i64 m.k) (exec_ld 3 (.tmp 67) g3 0 Try.underlying3 (rc (h108) (Msg.get_n hr NF.k))) ?_
      refine ps_k (o_MessageBack 4014 17) (.bool ((((m.k) : Int) != ((11) : Int)))) ?_
      refine ps_p (o_MessageBack 4014 18) (.bool false) (exec_binop .neq 4 4 (.tmp 66) (.tmp 69) (by kernel_rfl) (.bool (decide (m.k ≠ 11))) (.bool (m.k != 11)) _ (by kernel_rfl) (by kernel_rfl) (by kernel_rfl) (bools_ne (by rw [Bool.eq_iff_iff]; simp) _)) ?_
      refine ps_k (o_MessageBack 4014 19) (.bool false) ?_
      refine ps_k (o_MessageBack 4014 20) (.bool false) ?_
      refine ps_k (o_MessageBack 4014 21) (.int .i64 m.f) ?_
      refine ps_k (o_MessageBack 4014 22) (pT g3 1) ?_
      refine ps_p (o_MessageBack 4014 23) (.int .i64 m.f) (exec_ld 3 (.tmp 74) g3 1 Try.underlying3 (rc (h108) (Msg.get_n hr NF.f))) ?_
      refine ps_p (o_MessageBack 4014 24) (.bool false) (exec_cast (congrArg Value.bool (show ((((m.f) : Int) != ((m.f) : Int))) = false from by simp)) (by kernel_rfl)) ?_
      refine ps_k (o_MessageBack 4014 25) (.bool false) ?_
      refine ps_end ?_
      refine sy_a ⟨#[.agg (Msg.c m), .slice A0 l.length cap0, .int .i64 cut, pT g3 0, undef, undef, .bool false, .bool true, .slice A m.told.length c, .int .i64 m.chk, pT g10 0, pT g11 0, pT g12 0, pT g13 0, .int .i64 m.f, .bool (decide (m.k ≠ 11)), undef, undef, undef, undef, .bool true, .tuple #[.slice A m.told.length c, .int .i64 m.chk], .agg (Msg.c m), .tuple #[.slice A m.told.length c, .int .i64 m.chk], .slice A m.told.length c, .int .i64 m.chk, .int .i64 m.chk, .agg (Msg.c m), .int .i64 m.chk, .bool false, .int .i64 m.chk, .bool true, .tuple #[.agg (Msg.c m), .agg #[.int .i64 0, .int .i64 0]], .slice A m.told.length c, .tuple #[.agg (Msg.c m), .agg #[.int .i64 0, .int .i64 0]], .agg (Msg.c m), .agg #[.int .i64 0, .int .i64 0], .tuple #[.agg (Msg.c msgZ), .agg #[.int .i64 (mFin (m.told.take tk)).1, .int .i64 (mFin (m.told.take tk)).2]], .slice A m.told.length c, .int .i64 cut, .slice A m.told.length c, iN m.told.length, iN tk, .slice A tk c, .tuple #[.agg (Msg.c msgZ), .agg #[.int .i64 (mFin (m.told.take tk)).1, .int .i64 (mFin (m.told.take tk)).2]], .agg (Msg.c msgZ), .agg #[.int .i64 (mFin (m.told.take tk)).1, .int .i64 (mFin (m.told.take tk)).2], .tuple #[.int .i64 m.f, .bool (decide (m.k ≠ 11))], .agg (Msg.c m), .tuple #[.int .i64 m.f, .bool (decide (m.k ≠ 11))], .int .i64 m.f, .bool (decide (m.k ≠ 11)), .agg #[.int .i64 0, .int .i64 0], .agg #[.int .i64 0, .int .i64 0], .bool false, .bool false, .agg (Msg.c m), .agg (Msg.c m), .bool false, .bool false, .bool false, .agg #[.int .i64 (mFin (m.told.take tk)).1, .int .i64 (mFin (m.told.take tk)).2], .agg #[.int .i64 0, .int .i64 0], .bool false, .bool false, .bool false, .bool (decide (m.k ≠ 11)), pT g3 0, .int .i64 m.k, .bool ((((m.k) : Int) != ((11) : Int))), .bool false, .bool false, .bool false, .int .i64 m.f, pT g3 1, .int .i64 m.f, .bool false, .bool false, undef, undef, undef, undef, undef, undef, undef, undef, undef, undef, undef, undef, undef, undef, undef, undef, undef, undef, undef, undef, undef, undef, undef, undef, undef, undef, undef, undef, undef, undef, undef, undef, undef, undef, undef, undef, undef, undef], []⟩ ?_
      refine then_n ?_
      refine sy_n (.tmp 77) (part_MessageBack 8030) (part_MessageBack 8031) ?_
      refine sy_sk ?_
      exact ⟨rfl, .pointer (some ⟨g10, 0, none⟩), .pointer (some ⟨g11, 0, none⟩), .pointer (some ⟨g12, 0, none⟩), .pointer (some ⟨g13, 0, none⟩), .int .i64 m.f, .bool (decide (m.k ≠ 11)), .int .i64 m.chk, .bool true, .tuple #[.agg (Msg.c m), .agg #[.int .i64 0, .int .i64 0]], .slice A m.told.length c, .tuple #[.agg (Msg.c m), .agg #[.int .i64 0, .int .i64 0]], .agg (Msg.c m), .agg #[.int .i64 0, .int .i64 0], .tuple #[.agg (Msg.c msgZ), .agg #[.int .i64 (mFin (m.told.take tk)).1, .int .i64 (mFin (m.told.take tk)).2]], .slice A m.told.length c, .int .i64 cut, .slice A m.told.length c, .int .i64 ((m.told.length : Nat) : Int), .int .i64 ((tk : Nat) : Int), .slice A tk c, .tuple #[.agg (Msg.c msgZ), .agg #[.int .i64 (mFin (m.told.take tk)).1, .int .i64 (mFin (m.told.take tk)).2]], .agg (Msg.c msgZ), .agg #[.int .i64 (mFin (m.told.take tk)).1, .int .i64 (mFin (m.told.take tk)).2], .tuple #[.int .i64 m.f, .bool (decide (m.k ≠ 11))], .agg (Msg.c m), .tuple #[.int .i64 m.f, .bool (decide (m.k ≠ 11))], .int .i64 m.f, .bool (decide (m.k ≠ 11)), .agg #[.int .i64 0, .int .i64 0], .agg #[.int .i64 0, .int .i64 0], .bool false, .bool false, .agg (Msg.c m), .agg (Msg.c m), .bool false, .bool false, .bool false, .agg #[.int .i64 (mFin (m.told.take tk)).1, .int .i64 (mFin (m.told.take tk)).2], .agg #[.int .i64 0, .int .i64 0], .bool false, .bool false, .bool false, .bool (decide (m.k ≠ 11)), .pointer (some ⟨g3, 0, none⟩), .int .i64 m.k, .bool ((((m.k) : Int) != ((11) : Int))), .bool false, .bool false, .bool false, .int .i64 m.f, .pointer (some ⟨g3, 1, none⟩), .int .i64 m.f, .bool false, .bool false, by kernel_rfl, h108, h109, by omega, K114⟩
    · refine sy_sq (part_MessageBack 124) (part_MessageBack 125) ?_
      refine sy_reg ?_
      refine rg_plain 5 (opsAt (part_MessageBack 124)) [0, 1] (by kernel_rfl) (by kernel_rfl) ?_
      refine ps_k (o_MessageBack 124 0) (.int .i64 m.chk) ?_
      refine ps_p (o_MessageBack 124 1) (.bool false) (eqf ((m.chk) : Int) ((0) : Int) (by omega)) ?_
      refine ps_end ?_
      refine then_n ?_
      refine sy_n (.tmp 31) (part_MessageBack 250) (part_MessageBack 251) ?_
      refine sy_sk ?_
      exact ⟨rfl, undef, undef, undef, undef, undef, undef, .int .i64 m.chk, .bool false, undef, undef, undef, undef, undef, undef, undef, undef, undef, undef, undef, undef, undef, undef, undef, undef, undef, undef, undef, undef, undef, undef, undef, undef, undef, undef, undef, undef, undef, undef, undef, undef, undef, undef, undef, undef, undef, undef, undef, undef, undef, undef, undef, undef, undef, undef, by kernel_rfl, h15, h16, by omega, K17⟩
  rintro aQ V116 ⟨u4_10, u4_11, u4_12, u4_13, u4_14, u4_15, u4_30, u4_31, u4_32, u4_33, u4_34, u4_35, u4_36, u4_37, u4_38, u4_39, u4_40, u4_41, u4_42, u4_43, u4_44, u4_45, u4_46, u4_47, u4_48, u4_49, u4_50, u4_51, u4_52, u4_53, u4_54, u4_55, u4_56, u4_57, u4_58, u4_59, u4_60, u4_61, u4_62, u4_63, u4_64, u4_65, u4_66, u4_67, u4_68, u4_69, u4_70, u4_71, u4_72, u4_73, u4_74, u4_75, u4_76, u4_77, rfl, h117, h118, z119, K120⟩
  refine then_n ?_
  refine sy_sq (part_MessageBack 126) (part_MessageBack 127) ?_
  refine sy_sq (part_MessageBack 252) (part_MessageBack 253) ?_
  refine sy_reg ?_
  refine rg_plain 11 (opsAt (part_MessageBack 252)) [0, 1, 2] (by kernel_rfl) (by kernel_rfl) ?_
  refine ps_k (o_MessageBack 252 0) (.slice A0 l.length cap0) ?_
  refine ps_p (o_MessageBack 252 1) (iN l.length) (exec_len (.tmp 78) 22 _ (by kernel_rfl) Try.underlying22 A0 l.length cap0 (by kernel_rfl)) ?_
  by_cases hl : 400 < l.length
  · refine ps_p (o_MessageBack 252 2) (.bool true) (dct ((((l.length : Nat) : Int)) > ((400) : Int)) (by omega)) ?_
    refine ps_end ?_
    refine then_n ?_
    refine sy_ys (.tmp 80) (part_MessageBack 506) (part_MessageBack 507) ?_
    refine sy_sq (part_MessageBack 1012) (part_MessageBack 1013) ?_
    refine sy_reg ?_
    refine rg_plain 12 (opsAt (part_MessageBack 1012)) [0, 1] (by kernel_rfl) (by kernel_rfl) ?_
    refine ps_k (o_MessageBack 1012 0) (.bool true) ?_
    refine ps_k (o_MessageBack 1012 1) (.bool true) ?_
    refine ps_end ?_
    refine then_n ?_
    refine sy_ret (by kernel_rfl) ?_
    refine then_r ?_
    refine sy_out (.bool true) rfl (by kernel_rfl) ?_
    exact ⟨rfl, K120⟩
  · refine ps_p (o_MessageBack 252 2) (.bool false) (dcf ((((l.length : Nat) : Int)) > ((400) : Int)) (by omega)) ?_
    refine ps_end ?_
    refine then_n ?_
    refine sy_n (.tmp 80) (part_MessageBack 506) (part_MessageBack 507) ?_
    refine sy_sk ?_
    refine then_n ?_
    by_cases hz : (mFin l).1 = 0
    · refine sy_sq (part_MessageBack 254) (part_MessageBack 255) ?_
      refine sy_reg ?_
      refine rg_plain 13 (opsAt (part_MessageBack 254)) [0, 1, 2, 3, 4, 5, 6, 7, 8] (by kernel_rfl) (by kernel_rfl) ?_
      refine ps_k (o_MessageBack 254 0) (.slice A0 l.length cap0) ?_
      refine ps_c (o_MessageBack 254 1) 11 #[.slice A0 l.length cap0] Try.func11 ((mRead_any _ l _ (hx.keepsN K120) (by omega)).mono ?_)
      rintro e V121 ⟨rfl, kV121⟩
      refine ⟨_, rfl, ?_⟩
      have h122 := kV121.bk h117
      have h123 : BytesAt V121 (.slice A m.told.length c) m.told := h118.keepsN kV121
      have K124 := K120.nn kV121
      have z125 := kV121.size
      refine ps_k (o_MessageBack 254 2) (.tuple #[.agg (Msg.c (mRes l)), .agg #[.int .i64 (mFin l).1, .int .i64 (mFin l).2]]) ?_
      refine ps_k (o_MessageBack 254 3) (.agg (Msg.c (mRes l))) ?_
      refine ps_k (o_MessageBack 254 4) (.agg #[.int .i64 (mFin l).1, .int .i64 (mFin l).2]) ?_
      obtain ⟨V126, eV126, g16, eg16, h127, kV126⟩ := alloc_step V121 ((Msg.c msgZ)) 35
      have n128 : g3 < g16 := eg16 ▸ lt_of_block h122
      have n129 : w.heap.size ≤ g16 := eg16 ▸ K124.size
      refine ps_r (o_MessageBack 254 5) (pT g16 0) (w' := V126) (by rw [← eV126, ← eg16]; exact exec_alloc0 35 (by kernel_rfl) (.agg ((Msg.c msgZ))) (by kernel_rfl)) ?_
      clear eV126
      have h130 := kV126.bk h122
      have h131 : BytesAt V126 (.slice A m.told.length c) m.told := h123.keepsN kV126
      have K132 := K124.nn kV126
      have z133 := kV126.size
      obtain ⟨V134, eV134, g17, eg17, h135, kV134⟩ := alloc_step V126 (#[.int .i64 0, .int .i64 0]) 38
      have n136 : g3 < g17 := eg17 ▸ lt_of_block h130
      have n137 : g16 < g17 := eg17 ▸ lt_of_block h127
      have n138 : w.heap.size ≤ g17 := eg17 ▸ K132.size
      refine ps_r (o_MessageBack 254 6) (pT g17 0) (w' := V134) (by rw [← eV134, ← eg17]; exact exec_alloc0 38 (by kernel_rfl) (.agg (#[.int .i64 0, .int .i64 0])) (by kernel_rfl)) ?_
      clear eV134
      have h139 := kV134.bk h130
      have h140 : BytesAt V134 (.slice A m.told.length c) m.told := h131.keepsN kV134
      have h141 := kV134.bk h127
      have K142 := K132.nn kV134
      have z143 := kV134.size
      obtain ⟨V144, eV144, kV144⟩ := rowset_step V134 g16 ((Msg.c (mRes l)))
      have h145 : V144.heap[g16]? = some (.cells (Msg.c ((mRes l))) 35 (0, 0)) := eV144 ▸ setRow_heap _ _ _ _ _ _ h141
      refine ps_s (o_MessageBack 254 7) (w' := V144) (by rw [← eV144]; exact exec_store_row 35 (.tmp 16) (.tmp 85) (by kernel_rfl) g16 ((Msg.c (mRes l))) (by kernel_rfl) (by kernel_rfl) 35 ((Msg.c msgZ)) h141 (by first | rfl | (rw [Msg.c_size hr]; kernel_rfl) | (rw [Msg.c_size msgZ_R]; kernel_rfl) | (rw [Msg.c_size (mRes_R l)]; kernel_rfl)) (by first | rfl | (rw [Msg.c_size hr]; exact (Msg.c_size msgZ_R).symm) | (rw [Msg.c_size msgZ_R]; exact (Msg.c_size msgZ_R).symm) | (rw [Msg.c_size (mRes_R l)]; exact (Msg.c_size msgZ_R).symm)) (Msg.c_one _)) ?_
      clear eV144
      have h146 := kV144.bo h139 (by omega)
      have h147 : BytesAt V144 (.slice A m.told.length c) m.told := h140.keeps kV144 (fun j hj e => by have := hlt j hj; unfold Own.One at e; omega)
      have h148 := kV144.bo h135 (by omega)
      have K149 := K142.no kV144 (by omega)
      have z150 := kV144.size
      obtain ⟨V151, eV151, kV151⟩ := rowset_step V144 g17 (#[.int .i64 (mFin l).1, .int .i64 (mFin l).2])
      have h152 : V151.heap[g17]? = some (.cells (#[.int .i64 (mFin l).1, .int .i64 (mFin l).2]) 38 (0, 0)) := eV151 ▸ setRow_heap _ _ _ _ _ _ h148
      refine ps_s (o_MessageBack 254 8) (w' := V151) (by rw [← eV151]; exact exec_store_row 38 (.tmp 17) (.tmp 86) (by kernel_rfl) g17 (#[.int .i64 (mFin l).1, .int .i64 (mFin l).2]) (by kernel_rfl) (by kernel_rfl) 38 (#[.int .i64 0, .int .i64 0]) h148 (by kernel_rfl) rfl (by kernel_rfl)) ?_
      clear eV151
      have h153 := kV151.bo h146 (by omega)
      have h154 : BytesAt V151 (.slice A m.told.length c) m.told := h147.keeps kV151 (fun j hj e => by have := hlt j hj; unfold Own.One at e; omega)
      have h155 := kV151.bo h145 (by omega)
      have K156 := K149.no kV151 (by omega)
      have z157 := kV151.size
      refine ps_end ?_
      refine then_n ?_
      refine sy_sq (part_MessageBack 510) (part_MessageBack 511) ?_
      refine sy_sq (part_MessageBack 1020) (part_MessageBack 1021) ?_
      refine sy_reg ?_
      refine rg_plain 14 (opsAt (part_MessageBack 1020)) [0, 1, 2] (by kernel_rfl) (by kernel_rfl) ?_
      refine ps_p (o_MessageBack 1020 0) (.agg #[.int .i64 (mFin l).1, .int .i64 (mFin l).2]) (exec_load_row 38 (.tmp 17) (by kernel_rfl) g17 (by kernel_rfl) _ _ (0, 0) _ (h152) Try.underlying38 rfl (by kernel_rfl)) ?_
      refine ps_k (o_MessageBack 1020 1) (.agg #[.int .i64 0, .int .i64 0]) ?_
      refine ps_p (o_MessageBack 1020 2) (.bool false) (exec_cast (congrArg Value.bool (fault_ok ⟨hz, fin_zero hz⟩)) (exec_binop .neq 38 38 (.tmp 87) (.tmp 88) (by kernel_rfl) (.agg #[.int .i64 (mFin l).1, .int .i64 (mFin l).2]) (.agg #[.int .i64 0, .int .i64 0]) _ (by kernel_rfl) (by kernel_rfl) (run_eqGuard_agg _ _ _ _ _ _ _ fault_guard) (fault_ne _ _ _ _ _))) ?_
      refine ps_end ?_
      refine then_n ?_
      refine sy_n (.tmp 89) (part_MessageBack 2042) (part_MessageBack 2043) ?_
      refine sy_sk ?_
      refine then_n ?_
      refine sy_sq (part_MessageBack 1022) (part_MessageBack 1023) ?_
      refine sy_reg ?_
      refine rg_plain 16 (opsAt (part_MessageBack 1022)) [0, 1, 2, 3, 4, 5, 6] (by kernel_rfl) (by kernel_rfl) ?_
      refine ps_p (o_MessageBack 1022 0) (.agg (Msg.c ((mRes l)))) (exec_load_row 35 (.tmp 16) (by kernel_rfl) g16 (by kernel_rfl) _ _ (0, 0) _ (h155) Try.underlying35 rfl (by rw [Msg.c_size (mRes_R l)]; kernel_rfl)) ?_
      obtain ⟨ho2, hc2, hby2⟩ := mRes_back hz
      refine ps_c (o_MessageBack 1022 1) 14 #[.agg (Msg.c ((mRes l)))] Try.func14 ((mBytes_is (mRes l) l _ ho2 hc2 hby2).mono ?_)
      rintro e V158 ⟨X2, rfl, hX2, hn2, kV158⟩
      refine ⟨_, rfl, ?_⟩
      have h159 := kV158.bk h153
      have h160 : BytesAt V158 (.slice A m.told.length c) m.told := h154.keepsN kV158
      have h161 := kV158.bk h155
      have h162 := kV158.bk h152
      have K163 := K156.nn kV158
      have z164 := kV158.size
      refine ps_k (o_MessageBack 1022 2) (.tuple #[X2, .int .i64 0]) ?_
      refine ps_k (o_MessageBack 1022 3) (X2) ?_
      refine ps_k (o_MessageBack 1022 4) (.int .i64 0) ?_
      refine ps_k (o_MessageBack 1022 5) (X2) ?_
      refine ps_k (o_MessageBack 1022 6) (.int .i64 0) ?_
      refine ps_end ?_
      refine then_n ?_
      refine sy_sq (part_MessageBack 2046) (part_MessageBack 2047) ?_
      refine sy_reg ?_
      refine rg_plain 17 (opsAt (part_MessageBack 2046)) [0, 1, 2, 3, 4, 5, 6, 7, 8, 9, 10, 11, 12, 13, 14, 15] (by kernel_rfl) (by kernel_rfl) ?_
      refine ps_k (o_MessageBack 2046 0) (.bool true) ?_
      refine ps_k (o_MessageBack 2046 1) (.bool true) ?_
      refine ps_p (o_MessageBack 2046 2) (.agg (Msg.c ((mRes l)))) (exec_load_row 35 (.tmp 16) (by kernel_rfl) g16 (by kernel_rfl) _ _ (0, 0) _ (h161) Try.underlying35 rfl (by rw [Msg.c_size (mRes_R l)]; kernel_rfl)) ?_
      refine ps_c (o_MessageBack 2046 3) 17 #[.agg (Msg.c ((mRes l)))] Try.func17 ((mCheck_is (mRes l) 0 _ (mRes_R l) hc2).mono ?_)
      rintro e V165 ⟨rfl, kV165⟩
      refine ⟨_, rfl, ?_⟩
      have h166 := kV165.bk h159
      have h167 : BytesAt V165 (.slice A m.told.length c) m.told := h160.keepsN kV165
      have h168 := kV165.bk h161
      have h169 := kV165.bk h162
      have h170 : Row V165 5 1 X2 l.length (B l) := hX2.keeps kV165 (fun _ _ x => x)
      have K171 := K163.nn kV165
      have z172 := kV165.size
      refine ps_k (o_MessageBack 2046 4) (.bool true) ?_
      refine ps_k (o_MessageBack 2046 5) (.bool true) ?_
      refine ps_k (o_MessageBack 2046 6) (.bool true) ?_
      refine ps_k (o_MessageBack 2046 7) (.int .i64 0) ?_
      refine ps_k (o_MessageBack 2046 8) (.bool true) ?_
      refine ps_k (o_MessageBack 2046 9) (.bool true) ?_
      refine ps_k (o_MessageBack 2046 10) (.bool true) ?_
      refine ps_k (o_MessageBack 2046 11) (X2) ?_
      refine ps_k (o_MessageBack 2046 12) (.slice A0 l.length cap0) ?_
      refine ps_c (o_MessageBack 2046 13) 16 #[X2, .slice A0 l.length cap0] Try.func16 ((mSameBytes (Row.bytes h170) (hx.keepsN K171) rfl).mono ?_)
      rintro e w1 ⟨rfl, rfl⟩
      refine ⟨_, rfl, ?_⟩
      refine ps_k (o_MessageBack 2046 14) (.bool true) ?_
      refine ps_k (o_MessageBack 2046 15) (.bool true) ?_
      refine ps_end ?_
      refine sy_a ⟨#[.agg (Msg.c m), .slice A0 l.length cap0, .int .i64 cut, pT g3 0, undef, undef, .bool true, .bool true, .slice A m.told.length c, .int .i64 m.chk, u4_10, u4_11, u4_12, u4_13, u4_14, u4_15, pT g16 0, pT g17 0, X2, .int .i64 0, .bool true, .tuple #[.slice A m.told.length c, .int .i64 m.chk], .agg (Msg.c m), .tuple #[.slice A m.told.length c, .int .i64 m.chk], .slice A m.told.length c, .int .i64 m.chk, .int .i64 m.chk, .agg (Msg.c m), .int .i64 m.chk, .bool false, u4_30, u4_31, u4_32, u4_33, u4_34, u4_35, u4_36, u4_37, u4_38, u4_39, u4_40, u4_41, u4_42, u4_43, u4_44, u4_45, u4_46, u4_47, u4_48, u4_49, u4_50, u4_51, u4_52, u4_53, u4_54, u4_55, u4_56, u4_57, u4_58, u4_59, u4_60, u4_61, u4_62, u4_63, u4_64, u4_65, u4_66, u4_67, u4_68, u4_69, u4_70, u4_71, u4_72, u4_73, u4_74, u4_75, u4_76, u4_77, .slice A0 l.length cap0, iN l.length, .bool false, undef, .tuple #[.agg (Msg.c (mRes l)), .agg #[.int .i64 (mFin l).1, .int .i64 (mFin l).2]], .slice A0 l.length cap0, .tuple #[.agg (Msg.c (mRes l)), .agg #[.int .i64 (mFin l).1, .int .i64 (mFin l).2]], .agg (Msg.c (mRes l)), .agg #[.int .i64 (mFin l).1, .int .i64 (mFin l).2], .agg #[.int .i64 (mFin l).1, .int .i64 (mFin l).2], .agg #[.int .i64 0, .int .i64 0], .bool false, undef, undef, undef, undef, undef, undef, .tuple #[X2, .int .i64 0], .agg (Msg.c ((mRes l))), .tuple #[X2, .int .i64 0], X2, .int .i64 0, .bool true, .bool true, .agg (Msg.c ((mRes l))), .int .i64 0, .bool true, .bool true, .bool true, .int .i64 0, .bool true, .bool true, .bool true, X2, .slice A0 l.length cap0, .bool true, .bool true], []⟩ ?_
      refine then_n ?_
      refine sy_ret (by kernel_rfl) ?_
      refine sy_out (.bool true) rfl (by kernel_rfl) ?_
      exact ⟨rfl, K171⟩
    · have hmz := mRes_no hz
      refine sy_sq (part_MessageBack 254) (part_MessageBack 255) ?_
      refine sy_reg ?_
      refine rg_plain 13 (opsAt (part_MessageBack 254)) [0, 1, 2, 3, 4, 5, 6, 7, 8] (by kernel_rfl) (by kernel_rfl) ?_
      refine ps_k (o_MessageBack 254 0) (.slice A0 l.length cap0) ?_
      refine ps_c (o_MessageBack 254 1) 11 #[.slice A0 l.length cap0] Try.func11 ((mRead_any _ l _ (hx.keepsN K120) (by omega)).mono ?_)
      rintro e V173 ⟨rfl, kV173⟩
      refine ⟨_, rfl, ?_⟩
      have h174 := kV173.bk h117
      have h175 : BytesAt V173 (.slice A m.told.length c) m.told := h118.keepsN kV173
      have K176 := K120.nn kV173
      have z177 := kV173.size
      refine ps_k (o_MessageBack 254 2) (.tuple #[.agg (Msg.c (mRes l)), .agg #[.int .i64 (mFin l).1, .int .i64 (mFin l).2]]) ?_
      refine ps_k (o_MessageBack 254 3) (.agg (Msg.c (mRes l))) ?_
      refine ps_k (o_MessageBack 254 4) (.agg #[.int .i64 (mFin l).1, .int .i64 (mFin l).2]) ?_
      obtain ⟨V178, eV178, g16, eg16, h179, kV178⟩ := alloc_step V173 ((Msg.c msgZ)) 35
      have n180 : g3 < g16 := eg16 ▸ lt_of_block h174
      have n181 : w.heap.size ≤ g16 := eg16 ▸ K176.size
      refine ps_r (o_MessageBack 254 5) (pT g16 0) (w' := V178) (by rw [← eV178, ← eg16]; exact exec_alloc0 35 (by kernel_rfl) (.agg ((Msg.c msgZ))) (by kernel_rfl)) ?_
      clear eV178
      have h182 := kV178.bk h174
      have h183 : BytesAt V178 (.slice A m.told.length c) m.told := h175.keepsN kV178
      have K184 := K176.nn kV178
      have z185 := kV178.size
      obtain ⟨V186, eV186, g17, eg17, h187, kV186⟩ := alloc_step V178 (#[.int .i64 0, .int .i64 0]) 38
      have n188 : g3 < g17 := eg17 ▸ lt_of_block h182
      have n189 : g16 < g17 := eg17 ▸ lt_of_block h179
      have n190 : w.heap.size ≤ g17 := eg17 ▸ K184.size
      refine ps_r (o_MessageBack 254 6) (pT g17 0) (w' := V186) (by rw [← eV186, ← eg17]; exact exec_alloc0 38 (by kernel_rfl) (.agg (#[.int .i64 0, .int .i64 0])) (by kernel_rfl)) ?_
      clear eV186
      have h191 := kV186.bk h182
      have h192 : BytesAt V186 (.slice A m.told.length c) m.told := h183.keepsN kV186
      have h193 := kV186.bk h179
      have K194 := K184.nn kV186
      have z195 := kV186.size
      obtain ⟨V196, eV196, kV196⟩ := rowset_step V186 g16 ((Msg.c (mRes l)))
      have h197 : V196.heap[g16]? = some (.cells (Msg.c ((mRes l))) 35 (0, 0)) := eV196 ▸ setRow_heap _ _ _ _ _ _ h193
      refine ps_s (o_MessageBack 254 7) (w' := V196) (by rw [← eV196]; exact exec_store_row 35 (.tmp 16) (.tmp 85) (by kernel_rfl) g16 ((Msg.c (mRes l))) (by kernel_rfl) (by kernel_rfl) 35 ((Msg.c msgZ)) h193 (by first | rfl | (rw [Msg.c_size hr]; kernel_rfl) | (rw [Msg.c_size msgZ_R]; kernel_rfl) | (rw [Msg.c_size (mRes_R l)]; kernel_rfl)) (by first | rfl | (rw [Msg.c_size hr]; exact (Msg.c_size msgZ_R).symm) | (rw [Msg.c_size msgZ_R]; exact (Msg.c_size msgZ_R).symm) | (rw [Msg.c_size (mRes_R l)]; exact (Msg.c_size msgZ_R).symm)) (Msg.c_one _)) ?_
      clear eV196
      have h198 := kV196.bo h191 (by omega)
      have h199 : BytesAt V196 (.slice A m.told.length c) m.told := h192.keeps kV196 (fun j hj e => by have := hlt j hj; unfold Own.One at e; omega)
      have h200 := kV196.bo h187 (by omega)
      have K201 := K194.no kV196 (by omega)
      have z202 := kV196.size
      obtain ⟨V203, eV203, kV203⟩ := rowset_step V196 g17 (#[.int .i64 (mFin l).1, .int .i64 (mFin l).2])
      have h204 : V203.heap[g17]? = some (.cells (#[.int .i64 (mFin l).1, .int .i64 (mFin l).2]) 38 (0, 0)) := eV203 ▸ setRow_heap _ _ _ _ _ _ h200
      refine ps_s (o_MessageBack 254 8) (w' := V203) (by rw [← eV203]; exact exec_store_row 38 (.tmp 17) (.tmp 86) (by kernel_rfl) g17 (#[.int .i64 (mFin l).1, .int .i64 (mFin l).2]) (by kernel_rfl) (by kernel_rfl) 38 (#[.int .i64 0, .int .i64 0]) h200 (by kernel_rfl) rfl (by kernel_rfl)) ?_
      clear eV203
      have h205 := kV203.bo h198 (by omega)
      have h206 : BytesAt V203 (.slice A m.told.length c) m.told := h199.keeps kV203 (fun j hj e => by have := hlt j hj; unfold Own.One at e; omega)
      have h207 := kV203.bo h197 (by omega)
      have K208 := K201.no kV203 (by omega)
      have z209 := kV203.size
      refine ps_end ?_
      refine then_n ?_
      refine sy_sq (part_MessageBack 510) (part_MessageBack 511) ?_
      refine sy_sq (part_MessageBack 1020) (part_MessageBack 1021) ?_
      refine sy_reg ?_
      refine rg_plain 14 (opsAt (part_MessageBack 1020)) [0, 1, 2] (by kernel_rfl) (by kernel_rfl) ?_
      refine ps_p (o_MessageBack 1020 0) (.agg #[.int .i64 (mFin l).1, .int .i64 (mFin l).2]) (exec_load_row 38 (.tmp 17) (by kernel_rfl) g17 (by kernel_rfl) _ _ (0, 0) _ (h204) Try.underlying38 rfl (by kernel_rfl)) ?_
      refine ps_k (o_MessageBack 1020 1) (.agg #[.int .i64 0, .int .i64 0]) ?_
      refine ps_p (o_MessageBack 1020 2) (.bool true) (exec_cast (congrArg Value.bool (fault_no hz)) (exec_binop .neq 38 38 (.tmp 87) (.tmp 88) (by kernel_rfl) (.agg #[.int .i64 (mFin l).1, .int .i64 (mFin l).2]) (.agg #[.int .i64 0, .int .i64 0]) _ (by kernel_rfl) (by kernel_rfl) (run_eqGuard_agg _ _ _ _ _ _ _ fault_guard) (fault_ne _ _ _ _ _))) ?_
      refine ps_end ?_
      refine then_n ?_
      refine sy_ys (.tmp 89) (part_MessageBack 2042) (part_MessageBack 2043) ?_
      refine sy_sq (part_MessageBack 4084) (part_MessageBack 4085) ?_
      refine sy_reg ?_
      refine rg_plain 15 (opsAt (part_MessageBack 4084)) [0, 1, 2, 3, 4, 5, 6] (by kernel_rfl) (by kernel_rfl) ?_
      refine ps_k (o_MessageBack 4084 0) (.bool true) ?_
      refine ps_k (o_MessageBack 4084 1) (.bool true) ?_
      refine ps_p (o_MessageBack 4084 2) (.agg (Msg.c ((mRes l)))) (exec_load_row 35 (.tmp 16) (by kernel_rfl) g16 (by kernel_rfl) _ _ (0, 0) _ (h207) Try.underlying35 rfl (by rw [Msg.c_size (mRes_R l)]; kernel_rfl)) ?_
      refine ps_k (o_MessageBack 4084 3) (.agg (Msg.c msgZ)) ?_
      refine ps_p (o_MessageBack 4084 4) (.bool true) (exec_cast (congrArg Value.bool (decide_eq_true hmz)) (exec_binop .eql 35 35 (.tmp 92) (.tmp 93) (by kernel_rfl) (.agg (Msg.c (mRes l))) (.agg (Msg.c msgZ)) _ (by kernel_rfl) (by kernel_rfl) (run_eqGuard_agg _ _ _ _ _ _ _ msg_guard) (msg_eq _ _ (mRes_R l) msgZ_R _))) ?_
      refine ps_k (o_MessageBack 4084 5) (.bool true) ?_
      refine ps_k (o_MessageBack 4084 6) (.bool true) ?_
      refine ps_end ?_
      refine then_n ?_
      refine sy_ret (by kernel_rfl) ?_
      refine then_r ?_
      refine sy_out (.bool true) rfl (by kernel_rfl) ?_
      exact ⟨rfl, K208⟩
theorem mback_ok (m : Msg) (v0 : Value) (l : List UInt8) (cut : Int) (hcut : i64b cut) (w : World) (hok : m.Ok) (hx : BytesAt w v0 l) : Calls Try.prog 7 #[.agg (Msg.c m), v0, .int .i64 cut] w fun e w' => e = .returned (.bool true) ∧ Keeps Nob w w' := by
  obtain ⟨A0, cap0, rfl⟩ := hx.len
  exact mback_main m A0 cap0 l cut hcut w hok hx
end Go.Proofs.Ytmapcghgdbfmhaa
