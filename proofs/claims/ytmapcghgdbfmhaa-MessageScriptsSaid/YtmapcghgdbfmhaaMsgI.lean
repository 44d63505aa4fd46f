/-
  Messages: which bytes are (printed by msg5.py). Conditions: none.
-/
import Derived.Test.YtmapcghgdbfmhaaMsgG
namespace Go.Proofs.Ytmapcghgdbfmhaa
open Go Go.RowKit Go.Own Go.Shelf
def mK (l : List UInt8) : Int × RS := rdN l ⟨0, 0⟩ 1 11
def mRS (l : List UInt8) : Msg × RS := if 1 ≤ (mK l).1 then rdAll l (mK l).1.toNat (onlyK (mK l).1, (mK l).2) else (onlyK (mK l).1, (mK l).2)
def mFin (l : List UInt8) : Int × Int := (mRS l).2.fin l
def mRes (l : List UInt8) : Msg := if (mFin l).1 = 0 then (mRS l).1 else msgZ
theorem mRS_R (l : List UInt8) : (mRS l).1.R := by
  unfold mRS; split
  · exact rdAll_R (onlyK_R _)
  · exact onlyK_R _
theorem mRes_R (l : List UInt8) : (mRes l).R := by
  unfold mRes; split
  · exact mRS_R l
  · exact msgZ_R
theorem fin_zero {s : RS} {l : List UInt8} (h : (s.fin l).1 = 0) : (s.fin l).2 = 0 := by
  unfold RS.fin at h ⊢
  by_cases h0 : s.err = 0
  · rw [if_pos h0] at h ⊢
    by_cases h1 : s.pos < l.length
    · rw [if_pos h1] at h; cases h
    · rw [if_neg h1]
  · rw [if_neg h0] at h; exact absurd h h0

noncomputable def part_mRead (n : Nat) : Code := partOf Try.f11 n
noncomputable abbrev o_mRead (n k : Nat) : Oper := (opsAt (part_mRead n)).getD k default
set_option maxRecDepth 100000 in
set_option maxHeartbeats 4000000 in
theorem mRead_kok (v0 : Value) (l : List UInt8) (w : World) (hx : BytesAt w v0 l) (hl : l.length ≤ 100000000) (hk : 1 ≤ (mK l).1) (hz : ((mRS l).2.fin l).1 = 0) :
    Calls Try.prog 11 #[v0] w (fun e w' => e = .returned (.tuple #[.agg (Msg.c (mRes l)), .agg #[.int .i64 (mFin l).1, .int .i64 (mFin l).2]]) ∧ Keeps Nob w w') := by
  have hm : mRS l = rdAll l (mK l).1.toNat (onlyK (mK l).1, (mK l).2) := if_pos hk
  have K0 : Keeps Nob w w := Keeps.refl _ _
  refine sy_enter (part_mRead 1) ⟨#[v0, undef, undef, undef, undef, undef, undef, undef, undef, undef, undef, undef, undef, undef, undef, undef, undef, undef, undef, undef, undef, undef, undef, undef, undef, undef, undef, undef], []⟩ Try.func11 (by kernel_rfl) (by kernel_rfl) ?_
  refine sy_sq (part_mRead 2) (part_mRead 3) ?_
  refine sy_reg ?_
  refine rg_plain 0 (opsAt (part_mRead 2)) [0, 1] (by kernel_rfl) (by kernel_rfl) ?_
  obtain ⟨V1, eV1, ga, ega, h2, kV1⟩ := alloc_step w ((Msg.c msgZ)) 35
  have n3 : w.heap.size ≤ ga := ega ▸ K0.size
  refine ps_r (o_mRead 2 0) (pT ga 0) (w' := V1) (by rw [← eV1, ← ega]; exact exec_alloc0 35 (by kernel_rfl) (.agg ((Msg.c msgZ))) (by kernel_rfl)) ?_
  clear eV1
  have K4 := K0.nn kV1
  obtain ⟨V5, eV5, gf, egf, h6, kV5⟩ := alloc_step V1 (#[.int .i64 0, .int .i64 0]) 38
  have n7 : ga < gf := egf ▸ lt_of_block h2
  have n8 : w.heap.size ≤ gf := egf ▸ K4.size
  refine ps_r (o_mRead 2 1) (pT gf 0) (w' := V5) (by rw [← eV5, ← egf]; exact exec_alloc0 38 (by kernel_rfl) (.agg (#[.int .i64 0, .int .i64 0])) (by kernel_rfl)) ?_
  clear eV5
  have h9 := kV5.bk h2
  have K10 := K4.nn kV5
  refine ps_end ?_
  refine then_n ?_
  refine sy_sq (part_mRead 6) (part_mRead 7) ?_
  refine sy_reg ?_
  refine rg_plain 1 (opsAt (part_mRead 6)) [0, 1, 2] (by kernel_rfl) (by kernel_rfl) ?_
  refine ps_k (o_mRead 6 0) (v0) ?_
  have hlg := lt_of_block h9
  have hlf := lt_of_block h6
  have hKs := K10.size
  refine ps_c (o_mRead 6 1) 38 #[v0] Try.func38 ((rd_new v0 l _ (hx.keepsN K10) hl).mono ?_)
  rintro e V11 ⟨b, F0, rfl, hR0, hge0, kV11⟩
  have hk5 := kV11.size
  refine ⟨_, rfl, ?_⟩
  have h12 := kV11.bk h9
  have h13 := kV11.bk h6
  have K14 := K10.nn kV11
  refine ps_k (o_mRead 6 2) (pT b 0) ?_
  refine ps_end ?_
  refine then_n ?_
  refine sy_sq (part_mRead 14) (part_mRead 15) ?_
  refine sy_reg ?_
  refine rg_plain 2 (opsAt (part_mRead 14)) [0, 1, 2, 3, 4] (by kernel_rfl) (by kernel_rfl) ?_
  refine ps_k (o_mRead 14 0) (pT b 0) ?_
  have hge : ∀ j, F0 j → w.heap.size ≤ j := fun j h => Nat.le_trans hKs (hge0 j h)
  have hsz0 := K14.size
  refine ps_c (o_mRead 14 1) 39 #[pT b 0, .int .i64 1, .int .i64 11] Try.func39 ((Rd.n hR0 1 11 (by decide) (by decide)).mono ?_)
  rintro e V15 ⟨rfl, F1, hR1_, hS1⟩
  have hR1 : Rd V15 F1 b l (mK l).2 := hR1_
  have hlt1 := hR1.lt
  have hd1 : ∀ j, F1 j → j ≠ ga ∧ j ≠ gf ∧ w.heap.size ≤ j := fun j h => (hS1.2 j h).elim (fun h => by have := hge0 j h; omega) (fun h => by have := h.1; have := hR0.lt; omega)
  refine ⟨_, rfl, ?_⟩
  have h16 : V15.heap[ga]? = some (.cells ((Msg.c msgZ)) 35 (0, 0)) := (hS1.1.block ga (lt_of_block h12) (fun e => by have := hge0 _ e; omega)).trans h12
  have h17 : V15.heap[gf]? = some (.cells (#[.int .i64 0, .int .i64 0]) 38 (0, 0)) := (hS1.1.block gf (lt_of_block h13) (fun e => by have := hge0 _ e; omega)).trans h13
  have K18 : Keeps Nob w V15 := K14.then hS1.1 (fun i hi hm => absurd hi (by have := hge i hm; omega))
  refine ps_k (o_mRead 14 2) (.agg (Msg.c (onlyK (mK l).1))) ?_
  obtain ⟨V19, eV19, gc, egc, h20, kV19⟩ := alloc_step V15 ((Msg.c msgZ)) 70
  have n21 : ga < gc := egc ▸ lt_of_block h16
  have n22 : gf < gc := egc ▸ lt_of_block h17
  have n23 : w.heap.size ≤ gc := egc ▸ K18.size
  refine ps_r (o_mRead 14 3) (pT gc 0) (w' := V19) (by rw [← eV19, ← egc]; exact exec_alloc0 70 (by kernel_rfl) (.agg ((Msg.c msgZ))) (by kernel_rfl)) ?_
  clear eV19
  have h24 := kV19.bk h16
  have h25 := kV19.bk h17
  have h26 : Rd V19 F1 b l (mK l).2 := hR1.keepsN kV19
  have K27 := K18.nn kV19
  obtain ⟨V28, eV28, kV28⟩ := rowset_step V19 gc ((Msg.c (onlyK (mK l).1)))
  have h29 : V28.heap[gc]? = some (.cells (Msg.c ((onlyK (mK l).1))) 70 (0, 0)) := eV28 ▸ setRow_heap _ _ _ _ _ _ h20
  refine ps_s (o_mRead 14 4) (w' := V28) (by rw [← eV28]; exact exec_store_row 70 (.tmp 5) (.tmp 11) (by kernel_rfl) gc ((Msg.c (onlyK (mK l).1))) (by kernel_rfl) (by kernel_rfl) 70 ((Msg.c msgZ)) h20 (by rw [Msg.c_size (onlyK_R _)]; kernel_rfl) (by rw [Msg.c_size (onlyK_R _)]; exact (Msg.c_size msgZ_R).symm) (Msg.c_one _)) ?_
  clear eV28
  have h30 := kV28.bo h24 (by omega)
  have h31 := kV28.bo h25 (by omega)
  have h32 : Rd V28 F1 b l (mK l).2 := h26.keeps kV28 (fun j hj e => by have := hlt1 j hj; unfold Own.One at e; omega)
  have K33 := K27.no kV28 (by omega)
  refine ps_end ?_
  refine then_n ?_
  refine sy_sq (part_mRead 30) (part_mRead 31) ?_
  refine sy_sq (part_mRead 60) (part_mRead 61) ?_
  refine sy_reg ?_
  refine rg_plain 3 (opsAt (part_mRead 60)) [0, 1, 2] (by kernel_rfl) (by kernel_rfl) ?_
  refine ps_k (o_mRead 60 0) (pT gc 0) ?_
  refine ps_p (o_mRead 60 1) (.int .i64 (((onlyK (mK l).1)).k)) (exec_ld 3 (.tmp 12) gc 0 Try.underlying3 (rc (h29) (Msg.get_n (onlyK_R _) NF.k))) ?_
  refine ps_c (o_mRead 60 2) 40 #[.int .i64 (((onlyK (mK l).1)).k)] Try.func40 ((mknown_yes (mK l).1 _ hk (by have := rdN_le l ⟨0, 0⟩ 1 11; unfold mK at hk ⊢; omega)).mono ?_)
  rintro e w1 ⟨rfl, rfl⟩
  refine ⟨_, rfl, ?_⟩
  refine ps_end ?_
  refine then_n ?_
  refine sy_ys (.tmp 14) (part_mRead 122) (part_mRead 123) ?_
  refine sy_reg ?_
  refine rg_plain 4 (opsAt (part_mRead 122)) [0, 1, 2, 3] (by kernel_rfl) (by kernel_rfl) ?_
  refine ps_k (o_mRead 122 0) (pT b 0) ?_
  refine ps_k (o_mRead 122 1) (.agg #[pT b 0]) ?_
  refine ps_k (o_mRead 122 2) (.iface 74 (.agg #[pT b 0])) ?_
  have hgF : ¬ F1 gc := fun h => by have := hlt1 gc h; omega
  have hkc : (((mK l).1.toNat : Nat) : Int) = (mK l).1 := by omega
  have hkl : (mK l).1 ≤ 11 := by have := rdN_le l ⟨0, 0⟩ 1 11; unfold mK; omega
  refine ps_P (o_mRead 122 3) 41 #[.pointer (some ⟨gc, 0, none⟩), .iface 74 (.agg #[.pointer (some ⟨b, 0, none⟩)])] _ _ (run_callF (o_mRead 122 3) 41 #[.pointer (some ⟨gc, 0, none⟩), .iface 74 (.agg #[.pointer (some ⟨b, 0, none⟩)])] (by kernel_rfl) rfl (by kernel_rfl) (enters_of Try.func41 (by kernel_rfl) rfl)) (mall_ok (rdV b) (rdV_ok b) gc (mK l).1.toNat (fun w' => ∃ F', w'.heap[gc]? = some (.cells (Msg.c ((mRS l).1)) 70 (0, 0)) ∧ Rd w' F' b l (mRS l).2 ∧ ¬ F' gc ∧ Step V28 w' (Or2 F1 (One gc)) (Or2 F' (One gc))) (fun _ _ => False) _ _ _ (by omega) (by omega) h29 ((Msg.get_n (onlyK_R _) NF.k).trans (congrArg (fun x => some (Value.int .i64 x)) hkc.symm)) (all_rd b l hl (mK l).1.toNat _ _ F1 _ (onlyK_R _) h29 h32 hgF (fun w' F' h1 h2 h3 h4 => ⟨F', by rw [hm]; exact h1, by rw [hm]; exact h2, h3, h4⟩))) (fun c w' h => h.elim) ?_
  rintro V34 ⟨F2, hc2, hR2, hgF2, hS2⟩
  have h35 : V34.heap[ga]? = some (.cells ((Msg.c msgZ)) 35 (0, 0)) := (hS2.1.block ga (lt_of_block h30) (fun e => by rcases e with e | e <;> first | (have := hd1 _ e; omega) | (unfold Own.One at e; omega))).trans h30
  have h36 : V34.heap[gf]? = some (.cells (#[.int .i64 0, .int .i64 0]) 38 (0, 0)) := (hS2.1.block gf (lt_of_block h31) (fun e => by rcases e with e | e <;> first | (have := hd1 _ e; omega) | (unfold Own.One at e; omega))).trans h31
  have K37 : Keeps Nob w V34 := K33.then hS2.1 (fun i hi hm => absurd hi (by rcases hm with e | e <;> first | (have := hd1 _ e; omega) | (unfold Own.One at e; omega)))
  refine ps_end ?_
  refine then_n ?_
  refine sy_sq (part_mRead 62) (part_mRead 63) ?_
  refine sy_sq (part_mRead 124) (part_mRead 125) ?_
  refine sy_reg ?_
  refine rg_plain 5 (opsAt (part_mRead 124)) [0, 1, 2, 3] (by kernel_rfl) (by kernel_rfl) ?_
  refine ps_k (o_mRead 124 0) (pT b 0) ?_
  refine ps_c (o_mRead 124 1) 42 #[pT b 0] Try.func42 ((Rd.fin hR2).mono ?_)
  rintro e V38 ⟨rfl, kV38⟩
  refine ⟨_, rfl, ?_⟩
  have h39 := kV38.bk h35
  have h40 := kV38.bk h36
  have h41 := kV38.bk hc2
  have K42 := K37.nn kV38
  obtain ⟨V43, eV43, gx, egx, h44, kV43⟩ := alloc_step V38 (#[.int .i64 0, .int .i64 0]) 38
  have n45 : ga < gx := egx ▸ lt_of_block h39
  have n46 : gf < gx := egx ▸ lt_of_block h40
  have n47 : gc < gx := egx ▸ lt_of_block h41
  have n48 : w.heap.size ≤ gx := egx ▸ K42.size
  refine ps_r (o_mRead 124 2) (pT gx 0) (w' := V43) (by rw [← eV43, ← egx]; exact exec_alloc0 38 (by kernel_rfl) (.agg (#[.int .i64 0, .int .i64 0])) (by kernel_rfl)) ?_
  clear eV43
  have h49 := kV43.bk h39
  have h50 := kV43.bk h40
  have h51 := kV43.bk h41
  have K52 := K42.nn kV43
  obtain ⟨V53, eV53, kV53⟩ := rowset_step V43 gx (#[.int .i64 ((mRS l).2.fin l).1, .int .i64 ((mRS l).2.fin l).2])
  have h54 : V53.heap[gx]? = some (.cells (#[.int .i64 ((mRS l).2.fin l).1, .int .i64 ((mRS l).2.fin l).2]) 38 (0, 0)) := eV53 ▸ setRow_heap _ _ _ _ _ _ h44
  refine ps_s (o_mRead 124 3) (w' := V53) (by rw [← eV53]; exact exec_store_row 38 (.tmp 6) (.tmp 20) (by kernel_rfl) gx (#[.int .i64 ((mRS l).2.fin l).1, .int .i64 ((mRS l).2.fin l).2]) (by kernel_rfl) (by kernel_rfl) 38 (#[.int .i64 0, .int .i64 0]) h44 (by kernel_rfl) rfl (by kernel_rfl)) ?_
  clear eV53
  have h55 := kV53.bo h49 (by omega)
  have h56 := kV53.bo h50 (by omega)
  have h57 := kV53.bo h51 (by omega)
  have K58 := K52.no kV53 (by omega)
  refine ps_end ?_
  refine then_n ?_
  refine sy_sq (part_mRead 250) (part_mRead 251) ?_
  refine sy_reg ?_
  refine rg_plain 6 (opsAt (part_mRead 250)) [0, 1, 2] (by kernel_rfl) (by kernel_rfl) ?_
  refine ps_k (o_mRead 250 0) (pT gx 0) ?_
  refine ps_p (o_mRead 250 1) (.int .i64 ((mRS l).2.fin l).1) (exec_ld 36 (.tmp 21) gx 0 Try.underlying36 (rc (h54) (by kernel_rfl))) ?_
  refine ps_p (o_mRead 250 2) (.bool false) (nqf ((((mRS l).2.fin l).1) : Int) ((0) : Int) (by omega)) ?_
  refine ps_end ?_
  refine sy_a ⟨#[v0, undef, pT ga 0, pT gf 0, pT b 0, pT gc 0, pT gx 0, v0, pT b 0, pT b 0, .int .i64 (mK l).1, .agg (Msg.c (onlyK (mK l).1)), pT gc 0, .int .i64 (((onlyK (mK l).1)).k), .bool true, pT b 0, .agg #[pT b 0], .iface 74 (.agg #[pT b 0]), .tuple #[], pT b 0, .agg #[.int .i64 ((mRS l).2.fin l).1, .int .i64 ((mRS l).2.fin l).2], pT gx 0, .int .i64 ((mRS l).2.fin l).1, .bool false, undef, undef, undef, undef], []⟩ ?_
  refine then_n ?_
  refine sy_n (.tmp 23) (part_mRead 502) (part_mRead 503) ?_
  refine sy_sk ?_
  refine then_n ?_
  refine sy_sq (part_mRead 126) (part_mRead 127) ?_
  refine sy_reg ?_
  refine rg_plain 8 (opsAt (part_mRead 126)) [0, 1, 2, 3] (by kernel_rfl) (by kernel_rfl) ?_
  refine ps_p (o_mRead 126 0) (.agg (Msg.c ((mRS l).1))) (exec_load_row 70 (.tmp 5) (by kernel_rfl) gc (by kernel_rfl) _ _ (0, 0) _ (h57) Try.underlying70 rfl (by rw [Msg.c_size (mRS_R l)]; kernel_rfl)) ?_
  refine ps_k (o_mRead 126 1) (.agg #[.int .i64 0, .int .i64 0]) ?_
  obtain ⟨V59, eV59, kV59⟩ := rowset_step V53 ga ((Msg.c ((mRS l).1)))
  have h60 : V59.heap[ga]? = some (.cells (Msg.c ((mRS l).1)) 35 (0, 0)) := eV59 ▸ setRow_heap _ _ _ _ _ _ h55
  refine ps_s (o_mRead 126 2) (w' := V59) (by rw [← eV59]; exact exec_store_row 35 (.tmp 2) (.tmp 26) (by kernel_rfl) ga ((Msg.c ((mRS l).1))) (by kernel_rfl) (by kernel_rfl) 35 ((Msg.c msgZ)) h55 (by rw [Msg.c_size (mRS_R l)]; kernel_rfl) (by rw [Msg.c_size (mRS_R l)]; exact (Msg.c_size msgZ_R).symm) (Msg.c_one _)) ?_
  clear eV59
  have h61 := kV59.bo h56 (by omega)
  have h62 := kV59.bo h57 (by omega)
  have h63 := kV59.bo h54 (by omega)
  have K64 := K58.no kV59 (by omega)
  obtain ⟨V65, eV65, kV65⟩ := rowset_step V59 gf (#[.int .i64 0, .int .i64 0])
  have h66 : V65.heap[gf]? = some (.cells (#[.int .i64 0, .int .i64 0]) 38 (0, 0)) := eV65 ▸ setRow_heap _ _ _ _ _ _ h61
  refine ps_s (o_mRead 126 3) (w' := V65) (by rw [← eV65]; exact exec_store_row 38 (.tmp 3) (.tmp 27) (by kernel_rfl) gf (#[.int .i64 0, .int .i64 0]) (by kernel_rfl) (by kernel_rfl) 38 (#[.int .i64 0, .int .i64 0]) h61 (by kernel_rfl) rfl (by kernel_rfl)) ?_
  clear eV65
  have h67 := kV65.bo h62 (by omega)
  have h68 := kV65.bo h63 (by omega)
  have h69 := kV65.bo h60 (by omega)
  have K70 := K64.no kV65 (by omega)
  refine ps_end ?_
  refine then_n ?_
  refine sy_ret (by kernel_rfl) ?_
  refine sy_out (.tuple #[.agg (Msg.c ((mRS l).1)), .agg #[.int .i64 0, .int .i64 0]]) rfl (results_rows2 (p := 2) (q := 3) (ty := 35) (tz := 38) (by kernel_rfl) _ _ ga gf 35 38 (Msg.c ((mRS l).1)) (#[.int .i64 0, .int .i64 0]) (0, 0) (0, 0) _ _ (by kernel_rfl) h69 Try.underlying35 rfl (by rw [Msg.c_size (mRS_R l)]; kernel_rfl) (by kernel_rfl) h66 Try.underlying38 rfl (by kernel_rfl)) ?_
  exact ⟨by rw [mRes, if_pos (show (mFin l).1 = 0 from hz), show (mFin l).1 = 0 from hz, show (mFin l).2 = 0 from fin_zero hz], K70⟩
set_option maxRecDepth 100000 in
set_option maxHeartbeats 4000000 in
theorem mRead_kbad (v0 : Value) (l : List UInt8) (w : World) (hx : BytesAt w v0 l) (hl : l.length ≤ 100000000) (hk : 1 ≤ (mK l).1) (hz : ¬ ((mRS l).2.fin l).1 = 0) :
    Calls Try.prog 11 #[v0] w (fun e w' => e = .returned (.tuple #[.agg (Msg.c (mRes l)), .agg #[.int .i64 (mFin l).1, .int .i64 (mFin l).2]]) ∧ Keeps Nob w w') := by
  have hm : mRS l = rdAll l (mK l).1.toNat (onlyK (mK l).1, (mK l).2) := if_pos hk
  have K0 : Keeps Nob w w := Keeps.refl _ _
  refine sy_enter (part_mRead 1) ⟨#[v0, undef, undef, undef, undef, undef, undef, undef, undef, undef, undef, undef, undef, undef, undef, undef, undef, undef, undef, undef, undef, undef, undef, undef, undef, undef, undef, undef], []⟩ Try.func11 (by kernel_rfl) (by kernel_rfl) ?_
  refine sy_sq (part_mRead 2) (part_mRead 3) ?_
  refine sy_reg ?_
  refine rg_plain 0 (opsAt (part_mRead 2)) [0, 1] (by kernel_rfl) (by kernel_rfl) ?_
  obtain ⟨V1, eV1, ga, ega, h2, kV1⟩ := alloc_step w ((Msg.c msgZ)) 35
  have n3 : w.heap.size ≤ ga := ega ▸ K0.size
  refine ps_r (o_mRead 2 0) (pT ga 0) (w' := V1) (by rw [← eV1, ← ega]; exact exec_alloc0 35 (by kernel_rfl) (.agg ((Msg.c msgZ))) (by kernel_rfl)) ?_
  clear eV1
  have K4 := K0.nn kV1
  obtain ⟨V5, eV5, gf, egf, h6, kV5⟩ := alloc_step V1 (#[.int .i64 0, .int .i64 0]) 38
  have n7 : ga < gf := egf ▸ lt_of_block h2
  have n8 : w.heap.size ≤ gf := egf ▸ K4.size
  refine ps_r (o_mRead 2 1) (pT gf 0) (w' := V5) (by rw [← eV5, ← egf]; exact exec_alloc0 38 (by kernel_rfl) (.agg (#[.int .i64 0, .int .i64 0])) (by kernel_rfl)) ?_
  clear eV5
  have h9 := kV5.bk h2
  have K10 := K4.nn kV5
  refine ps_end ?_
  refine then_n ?_
  refine sy_sq (part_mRead 6) (part_mRead 7) ?_
  refine sy_reg ?_
  refine rg_plain 1 (opsAt (part_mRead 6)) [0, 1, 2] (by kernel_rfl) (by kernel_rfl) ?_
  refine ps_k (o_mRead 6 0) (v0) ?_
  have hlg := lt_of_block h9
  have hlf := lt_of_block h6
  have hKs := K10.size
  refine ps_c (o_mRead 6 1) 38 #[v0] Try.func38 ((rd_new v0 l _ (hx.keepsN K10) hl).mono ?_)
  rintro e V11 ⟨b, F0, rfl, hR0, hge0, kV11⟩
  have hk5 := kV11.size
  refine ⟨_, rfl, ?_⟩
  have h12 := kV11.bk h9
  have h13 := kV11.bk h6
  have K14 := K10.nn kV11
  refine ps_k (o_mRead 6 2) (pT b 0) ?_
  refine ps_end ?_
  refine then_n ?_
  refine sy_sq (part_mRead 14) (part_mRead 15) ?_
  refine sy_reg ?_
  refine rg_plain 2 (opsAt (part_mRead 14)) [0, 1, 2, 3, 4] (by kernel_rfl) (by kernel_rfl) ?_
  refine ps_k (o_mRead 14 0) (pT b 0) ?_
  have hge : ∀ j, F0 j → w.heap.size ≤ j := fun j h => Nat.le_trans hKs (hge0 j h)
  have hsz0 := K14.size
  refine ps_c (o_mRead 14 1) 39 #[pT b 0, .int .i64 1, .int .i64 11] Try.func39 ((Rd.n hR0 1 11 (by decide) (by decide)).mono ?_)
  rintro e V15 ⟨rfl, F1, hR1_, hS1⟩
  have hR1 : Rd V15 F1 b l (mK l).2 := hR1_
  have hlt1 := hR1.lt
  have hd1 : ∀ j, F1 j → j ≠ ga ∧ j ≠ gf ∧ w.heap.size ≤ j := fun j h => (hS1.2 j h).elim (fun h => by have := hge0 j h; omega) (fun h => by have := h.1; have := hR0.lt; omega)
  refine ⟨_, rfl, ?_⟩
  have h16 : V15.heap[ga]? = some (.cells ((Msg.c msgZ)) 35 (0, 0)) := (hS1.1.block ga (lt_of_block h12) (fun e => by have := hge0 _ e; omega)).trans h12
  have h17 : V15.heap[gf]? = some (.cells (#[.int .i64 0, .int .i64 0]) 38 (0, 0)) := (hS1.1.block gf (lt_of_block h13) (fun e => by have := hge0 _ e; omega)).trans h13
  have K18 : Keeps Nob w V15 := K14.then hS1.1 (fun i hi hm => absurd hi (by have := hge i hm; omega))
  refine ps_k (o_mRead 14 2) (.agg (Msg.c (onlyK (mK l).1))) ?_
  obtain ⟨V19, eV19, gc, egc, h20, kV19⟩ := alloc_step V15 ((Msg.c msgZ)) 70
  have n21 : ga < gc := egc ▸ lt_of_block h16
  have n22 : gf < gc := egc ▸ lt_of_block h17
  have n23 : w.heap.size ≤ gc := egc ▸ K18.size
  refine ps_r (o_mRead 14 3) (pT gc 0) (w' := V19) (by rw [← eV19, ← egc]; exact exec_alloc0 70 (by kernel_rfl) (.agg ((Msg.c msgZ))) (by kernel_rfl)) ?_
  clear eV19
  have h24 := kV19.bk h16
  have h25 := kV19.bk h17
  have h26 : Rd V19 F1 b l (mK l).2 := hR1.keepsN kV19
  have K27 := K18.nn kV19
  obtain ⟨V28, eV28, kV28⟩ := rowset_step V19 gc ((Msg.c (onlyK (mK l).1)))
  have h29 : V28.heap[gc]? = some (.cells (Msg.c ((onlyK (mK l).1))) 70 (0, 0)) := eV28 ▸ setRow_heap _ _ _ _ _ _ h20
  refine ps_s (o_mRead 14 4) (w' := V28) (by rw [← eV28]; exact exec_store_row 70 (.tmp 5) (.tmp 11) (by kernel_rfl) gc ((Msg.c (onlyK (mK l).1))) (by kernel_rfl) (by kernel_rfl) 70 ((Msg.c msgZ)) h20 (by rw [Msg.c_size (onlyK_R _)]; kernel_rfl) (by rw [Msg.c_size (onlyK_R _)]; exact (Msg.c_size msgZ_R).symm) (Msg.c_one _)) ?_
  clear eV28
  have h30 := kV28.bo h24 (by omega)
  have h31 := kV28.bo h25 (by omega)
  have h32 : Rd V28 F1 b l (mK l).2 := h26.keeps kV28 (fun j hj e => by have := hlt1 j hj; unfold Own.One at e; omega)
  have K33 := K27.no kV28 (by omega)
  refine ps_end ?_
  refine then_n ?_
  refine sy_sq (part_mRead 30) (part_mRead 31) ?_
  refine sy_sq (part_mRead 60) (part_mRead 61) ?_
  refine sy_reg ?_
  refine rg_plain 3 (opsAt (part_mRead 60)) [0, 1, 2] (by kernel_rfl) (by kernel_rfl) ?_
  refine ps_k (o_mRead 60 0) (pT gc 0) ?_
  refine ps_p (o_mRead 60 1) (.int .i64 (((onlyK (mK l).1)).k)) (exec_ld 3 (.tmp 12) gc 0 Try.underlying3 (rc (h29) (Msg.get_n (onlyK_R _) NF.k))) ?_
  refine ps_c (o_mRead 60 2) 40 #[.int .i64 (((onlyK (mK l).1)).k)] Try.func40 ((mknown_yes (mK l).1 _ hk (by have := rdN_le l ⟨0, 0⟩ 1 11; unfold mK at hk ⊢; omega)).mono ?_)
  rintro e w1 ⟨rfl, rfl⟩
  refine ⟨_, rfl, ?_⟩
  refine ps_end ?_
  refine then_n ?_
  refine sy_ys (.tmp 14) (part_mRead 122) (part_mRead 123) ?_
  refine sy_reg ?_
  refine rg_plain 4 (opsAt (part_mRead 122)) [0, 1, 2, 3] (by kernel_rfl) (by kernel_rfl) ?_
  refine ps_k (o_mRead 122 0) (pT b 0) ?_
  refine ps_k (o_mRead 122 1) (.agg #[pT b 0]) ?_
  refine ps_k (o_mRead 122 2) (.iface 74 (.agg #[pT b 0])) ?_
  have hgF : ¬ F1 gc := fun h => by have := hlt1 gc h; omega
  have hkc : (((mK l).1.toNat : Nat) : Int) = (mK l).1 := by omega
  have hkl : (mK l).1 ≤ 11 := by have := rdN_le l ⟨0, 0⟩ 1 11; unfold mK; omega
  refine ps_P (o_mRead 122 3) 41 #[.pointer (some ⟨gc, 0, none⟩), .iface 74 (.agg #[.pointer (some ⟨b, 0, none⟩)])] _ _ (run_callF (o_mRead 122 3) 41 #[.pointer (some ⟨gc, 0, none⟩), .iface 74 (.agg #[.pointer (some ⟨b, 0, none⟩)])] (by kernel_rfl) rfl (by kernel_rfl) (enters_of Try.func41 (by kernel_rfl) rfl)) (mall_ok (rdV b) (rdV_ok b) gc (mK l).1.toNat (fun w' => ∃ F', w'.heap[gc]? = some (.cells (Msg.c ((mRS l).1)) 70 (0, 0)) ∧ Rd w' F' b l (mRS l).2 ∧ ¬ F' gc ∧ Step V28 w' (Or2 F1 (One gc)) (Or2 F' (One gc))) (fun _ _ => False) _ _ _ (by omega) (by omega) h29 ((Msg.get_n (onlyK_R _) NF.k).trans (congrArg (fun x => some (Value.int .i64 x)) hkc.symm)) (all_rd b l hl (mK l).1.toNat _ _ F1 _ (onlyK_R _) h29 h32 hgF (fun w' F' h1 h2 h3 h4 => ⟨F', by rw [hm]; exact h1, by rw [hm]; exact h2, h3, h4⟩))) (fun c w' h => h.elim) ?_
  rintro V34 ⟨F2, hc2, hR2, hgF2, hS2⟩
  have h35 : V34.heap[ga]? = some (.cells ((Msg.c msgZ)) 35 (0, 0)) := (hS2.1.block ga (lt_of_block h30) (fun e => by rcases e with e | e <;> first | (have := hd1 _ e; omega) | (unfold Own.One at e; omega))).trans h30
  have h36 : V34.heap[gf]? = some (.cells (#[.int .i64 0, .int .i64 0]) 38 (0, 0)) := (hS2.1.block gf (lt_of_block h31) (fun e => by rcases e with e | e <;> first | (have := hd1 _ e; omega) | (unfold Own.One at e; omega))).trans h31
  have K37 : Keeps Nob w V34 := K33.then hS2.1 (fun i hi hm => absurd hi (by rcases hm with e | e <;> first | (have := hd1 _ e; omega) | (unfold Own.One at e; omega)))
  refine ps_end ?_
  refine then_n ?_
  refine sy_sq (part_mRead 62) (part_mRead 63) ?_
  refine sy_sq (part_mRead 124) (part_mRead 125) ?_
  refine sy_reg ?_
  refine rg_plain 5 (opsAt (part_mRead 124)) [0, 1, 2, 3] (by kernel_rfl) (by kernel_rfl) ?_
  refine ps_k (o_mRead 124 0) (pT b 0) ?_
  refine ps_c (o_mRead 124 1) 42 #[pT b 0] Try.func42 ((Rd.fin hR2).mono ?_)
  rintro e V38 ⟨rfl, kV38⟩
  refine ⟨_, rfl, ?_⟩
  have h39 := kV38.bk h35
  have h40 := kV38.bk h36
  have h41 := kV38.bk hc2
  have K42 := K37.nn kV38
  obtain ⟨V43, eV43, gx, egx, h44, kV43⟩ := alloc_step V38 (#[.int .i64 0, .int .i64 0]) 38
  have n45 : ga < gx := egx ▸ lt_of_block h39
  have n46 : gf < gx := egx ▸ lt_of_block h40
  have n47 : gc < gx := egx ▸ lt_of_block h41
  have n48 : w.heap.size ≤ gx := egx ▸ K42.size
  refine ps_r (o_mRead 124 2) (pT gx 0) (w' := V43) (by rw [← eV43, ← egx]; exact exec_alloc0 38 (by kernel_rfl) (.agg (#[.int .i64 0, .int .i64 0])) (by kernel_rfl)) ?_
  clear eV43
  have h49 := kV43.bk h39
  have h50 := kV43.bk h40
  have h51 := kV43.bk h41
  have K52 := K42.nn kV43
  obtain ⟨V53, eV53, kV53⟩ := rowset_step V43 gx (#[.int .i64 ((mRS l).2.fin l).1, .int .i64 ((mRS l).2.fin l).2])
  have h54 : V53.heap[gx]? = some (.cells (#[.int .i64 ((mRS l).2.fin l).1, .int .i64 ((mRS l).2.fin l).2]) 38 (0, 0)) := eV53 ▸ setRow_heap _ _ _ _ _ _ h44
  refine ps_s (o_mRead 124 3) (w' := V53) (by rw [← eV53]; exact exec_store_row 38 (.tmp 6) (.tmp 20) (by kernel_rfl) gx (#[.int .i64 ((mRS l).2.fin l).1, .int .i64 ((mRS l).2.fin l).2]) (by kernel_rfl) (by kernel_rfl) 38 (#[.int .i64 0, .int .i64 0]) h44 (by kernel_rfl) rfl (by kernel_rfl)) ?_
  clear eV53
  have h55 := kV53.bo h49 (by omega)
  have h56 := kV53.bo h50 (by omega)
  have h57 := kV53.bo h51 (by omega)
  have K58 := K52.no kV53 (by omega)
  refine ps_end ?_
  refine then_n ?_
  refine sy_sq (part_mRead 250) (part_mRead 251) ?_
  refine sy_reg ?_
  refine rg_plain 6 (opsAt (part_mRead 250)) [0, 1, 2] (by kernel_rfl) (by kernel_rfl) ?_
  refine ps_k (o_mRead 250 0) (pT gx 0) ?_
  refine ps_p (o_mRead 250 1) (.int .i64 ((mRS l).2.fin l).1) (exec_ld 36 (.tmp 21) gx 0 Try.underlying36 (rc (h54) (by kernel_rfl))) ?_
  refine ps_p (o_mRead 250 2) (.bool true) (nqt ((((mRS l).2.fin l).1) : Int) ((0) : Int) (by omega)) ?_
  refine ps_end ?_
  refine sy_a ⟨#[v0, undef, pT ga 0, pT gf 0, pT b 0, pT gc 0, pT gx 0, v0, pT b 0, pT b 0, .int .i64 (mK l).1, .agg (Msg.c (onlyK (mK l).1)), pT gc 0, .int .i64 (((onlyK (mK l).1)).k), .bool true, pT b 0, .agg #[pT b 0], .iface 74 (.agg #[pT b 0]), .tuple #[], pT b 0, .agg #[.int .i64 ((mRS l).2.fin l).1, .int .i64 ((mRS l).2.fin l).2], pT gx 0, .int .i64 ((mRS l).2.fin l).1, .bool true, undef, undef, undef, undef], []⟩ ?_
  refine then_n ?_
  refine sy_ys (.tmp 23) (part_mRead 502) (part_mRead 503) ?_
  refine sy_sq (part_mRead 1004) (part_mRead 1005) ?_
  refine sy_np ?_
  refine sy_reg ?_
  refine an_begin 7 4 (opsAt (part_mRead 1004)) (fun W => (W.heap[gx]? = some (.cells (#[.int .i64 ((mRS l).2.fin l).1, .int .i64 ((mRS l).2.fin l).2]) 38 (0, 0)))) #[false, false, false, false] (by kernel_rfl) (by kernel_rfl) (by kernel_rfl) (by kernel_rfl) ?_
  obtain ⟨V59, eV59, kV59⟩ := drew_step V53
  rw [eV59]
  clear eV59
  have h60 := kV59.bk h55
  have h61 := kV59.bk h56
  have h62 := kV59.bk h57
  have h63 := kV59.bk h54
  have K64 := K58.nn kV59
  refine an_k 0 (o_mRead 1004 0) (.agg (Msg.c msgZ)) h63 ?_
  refine an_v 1 (o_mRead 1004 1) (.agg #[.int .i64 ((mRS l).2.fin l).1, .int .i64 ((mRS l).2.fin l).2]) (fun W hS => exec_load_row 38 (.tmp 6) (by kernel_rfl) gx (by kernel_rfl) _ _ (0, 0) _ (hS) Try.underlying38 rfl (by kernel_rfl)) h63 ?_
  refine an_o 2 ?_
  obtain ⟨V65, eV65, kV65⟩ := rowset_step V59 ga ((Msg.c msgZ))
  have h66 : V65.heap[ga]? = some (.cells (Msg.c msgZ) 35 (0, 0)) := eV65 ▸ setRow_heap _ _ _ _ _ _ h60
  refine on_s (o_mRead 1004 2) (w' := V65) (by rw [← eV65]; exact exec_store_row 35 (.tmp 2) (.tmp 24) (by kernel_rfl) ga ((Msg.c msgZ)) (by kernel_rfl) (by kernel_rfl) 35 ((Msg.c msgZ)) h60 (by rw [Msg.c_size msgZ_R]; kernel_rfl) rfl (Msg.c_one _)) ?_
  clear eV65
  have h67 := kV65.bo h61 (by omega)
  have h68 := kV65.bo h62 (by omega)
  have h69 := kV65.bo h63 (by omega)
  have K70 := K64.no kV65 (by omega)
  refine ⟨h69, ?_⟩
  refine an_o 3 ?_
  obtain ⟨V71, eV71, kV71⟩ := rowset_step V65 gf (#[.int .i64 ((mRS l).2.fin l).1, .int .i64 ((mRS l).2.fin l).2])
  have h72 : V71.heap[gf]? = some (.cells (#[.int .i64 ((mRS l).2.fin l).1, .int .i64 ((mRS l).2.fin l).2]) 38 (0, 0)) := eV71 ▸ setRow_heap _ _ _ _ _ _ h67
  refine on_s (o_mRead 1004 3) (w' := V71) (by rw [← eV71]; exact exec_store_row 38 (.tmp 3) (.tmp 25) (by kernel_rfl) gf (#[.int .i64 ((mRS l).2.fin l).1, .int .i64 ((mRS l).2.fin l).2]) (by kernel_rfl) (by kernel_rfl) 38 (#[.int .i64 0, .int .i64 0]) h67 (by kernel_rfl) rfl (by kernel_rfl)) ?_
  clear eV71
  have h73 := kV71.bo h68 (by omega)
  have h74 := kV71.bo h69 (by omega)
  have h75 := kV71.bo h66 (by omega)
  have K76 := K70.no kV71 (by omega)
  refine ⟨h74, ?_⟩
  refine an_end (by kernel_rfl) ?_
  refine then_n ?_
  refine sy_ret (by kernel_rfl) ?_
  refine then_r ?_
  refine sy_out (.tuple #[.agg (Msg.c msgZ), .agg #[.int .i64 ((mRS l).2.fin l).1, .int .i64 ((mRS l).2.fin l).2]]) rfl (results_rows2 (p := 2) (q := 3) (ty := 35) (tz := 38) (by kernel_rfl) _ _ ga gf 35 38 (Msg.c msgZ) (#[.int .i64 ((mRS l).2.fin l).1, .int .i64 ((mRS l).2.fin l).2]) (0, 0) (0, 0) _ _ (by kernel_rfl) h75 Try.underlying35 rfl (by rw [Msg.c_size msgZ_R]; kernel_rfl) (by kernel_rfl) h72 Try.underlying38 rfl (by kernel_rfl)) ?_
  exact ⟨by rw [mRes, if_neg (show ¬ (mFin l).1 = 0 from hz)]; rfl, K76⟩
set_option maxRecDepth 100000 in
set_option maxHeartbeats 4000000 in
theorem mRead_nok (v0 : Value) (l : List UInt8) (w : World) (hx : BytesAt w v0 l) (hl : l.length ≤ 100000000) (hk : ¬ 1 ≤ (mK l).1) (hz : ((mRS l).2.fin l).1 = 0) :
    Calls Try.prog 11 #[v0] w (fun e w' => e = .returned (.tuple #[.agg (Msg.c (mRes l)), .agg #[.int .i64 (mFin l).1, .int .i64 (mFin l).2]]) ∧ Keeps Nob w w') := by
  have hm : mRS l = (onlyK (mK l).1, (mK l).2) := if_neg hk
  have K0 : Keeps Nob w w := Keeps.refl _ _
  refine sy_enter (part_mRead 1) ⟨#[v0, undef, undef, undef, undef, undef, undef, undef, undef, undef, undef, undef, undef, undef, undef, undef, undef, undef, undef, undef, undef, undef, undef, undef, undef, undef, undef, undef], []⟩ Try.func11 (by kernel_rfl) (by kernel_rfl) ?_
  refine sy_sq (part_mRead 2) (part_mRead 3) ?_
  refine sy_reg ?_
  refine rg_plain 0 (opsAt (part_mRead 2)) [0, 1] (by kernel_rfl) (by kernel_rfl) ?_
  obtain ⟨V1, eV1, ga, ega, h2, kV1⟩ := alloc_step w ((Msg.c msgZ)) 35
  have n3 : w.heap.size ≤ ga := ega ▸ K0.size
  refine ps_r (o_mRead 2 0) (pT ga 0) (w' := V1) (by rw [← eV1, ← ega]; exact exec_alloc0 35 (by kernel_rfl) (.agg ((Msg.c msgZ))) (by kernel_rfl)) ?_
  clear eV1
  have K4 := K0.nn kV1
  obtain ⟨V5, eV5, gf, egf, h6, kV5⟩ := alloc_step V1 (#[.int .i64 0, .int .i64 0]) 38
  have n7 : ga < gf := egf ▸ lt_of_block h2
  have n8 : w.heap.size ≤ gf := egf ▸ K4.size
  refine ps_r (o_mRead 2 1) (pT gf 0) (w' := V5) (by rw [← eV5, ← egf]; exact exec_alloc0 38 (by kernel_rfl) (.agg (#[.int .i64 0, .int .i64 0])) (by kernel_rfl)) ?_
  clear eV5
  have h9 := kV5.bk h2
  have K10 := K4.nn kV5
  refine ps_end ?_
  refine then_n ?_
  refine sy_sq (part_mRead 6) (part_mRead 7) ?_
  refine sy_reg ?_
  refine rg_plain 1 (opsAt (part_mRead 6)) [0, 1, 2] (by kernel_rfl) (by kernel_rfl) ?_
  refine ps_k (o_mRead 6 0) (v0) ?_
  have hlg := lt_of_block h9
  have hlf := lt_of_block h6
  have hKs := K10.size
  refine ps_c (o_mRead 6 1) 38 #[v0] Try.func38 ((rd_new v0 l _ (hx.keepsN K10) hl).mono ?_)
  rintro e V11 ⟨b, F0, rfl, hR0, hge0, kV11⟩
  have hk5 := kV11.size
  refine ⟨_, rfl, ?_⟩
  have h12 := kV11.bk h9
  have h13 := kV11.bk h6
  have K14 := K10.nn kV11
  refine ps_k (o_mRead 6 2) (pT b 0) ?_
  refine ps_end ?_
  refine then_n ?_
  refine sy_sq (part_mRead 14) (part_mRead 15) ?_
  refine sy_reg ?_
  refine rg_plain 2 (opsAt (part_mRead 14)) [0, 1, 2, 3, 4] (by kernel_rfl) (by kernel_rfl) ?_
  refine ps_k (o_mRead 14 0) (pT b 0) ?_
  have hge : ∀ j, F0 j → w.heap.size ≤ j := fun j h => Nat.le_trans hKs (hge0 j h)
  have hsz0 := K14.size
  refine ps_c (o_mRead 14 1) 39 #[pT b 0, .int .i64 1, .int .i64 11] Try.func39 ((Rd.n hR0 1 11 (by decide) (by decide)).mono ?_)
  rintro e V15 ⟨rfl, F1, hR1_, hS1⟩
  have hR1 : Rd V15 F1 b l (mK l).2 := hR1_
  have hlt1 := hR1.lt
  have hd1 : ∀ j, F1 j → j ≠ ga ∧ j ≠ gf ∧ w.heap.size ≤ j := fun j h => (hS1.2 j h).elim (fun h => by have := hge0 j h; omega) (fun h => by have := h.1; have := hR0.lt; omega)
  refine ⟨_, rfl, ?_⟩
  have h16 : V15.heap[ga]? = some (.cells ((Msg.c msgZ)) 35 (0, 0)) := (hS1.1.block ga (lt_of_block h12) (fun e => by have := hge0 _ e; omega)).trans h12
  have h17 : V15.heap[gf]? = some (.cells (#[.int .i64 0, .int .i64 0]) 38 (0, 0)) := (hS1.1.block gf (lt_of_block h13) (fun e => by have := hge0 _ e; omega)).trans h13
  have K18 : Keeps Nob w V15 := K14.then hS1.1 (fun i hi hm => absurd hi (by have := hge i hm; omega))
  refine ps_k (o_mRead 14 2) (.agg (Msg.c (onlyK (mK l).1))) ?_
  obtain ⟨V19, eV19, gc, egc, h20, kV19⟩ := alloc_step V15 ((Msg.c msgZ)) 70
  have n21 : ga < gc := egc ▸ lt_of_block h16
  have n22 : gf < gc := egc ▸ lt_of_block h17
  have n23 : w.heap.size ≤ gc := egc ▸ K18.size
  refine ps_r (o_mRead 14 3) (pT gc 0) (w' := V19) (by rw [← eV19, ← egc]; exact exec_alloc0 70 (by kernel_rfl) (.agg ((Msg.c msgZ))) (by kernel_rfl)) ?_
  clear eV19
  have h24 := kV19.bk h16
  have h25 := kV19.bk h17
  have h26 : Rd V19 F1 b l (mK l).2 := hR1.keepsN kV19
  have K27 := K18.nn kV19
  obtain ⟨V28, eV28, kV28⟩ := rowset_step V19 gc ((Msg.c (onlyK (mK l).1)))
  have h29 : V28.heap[gc]? = some (.cells (Msg.c ((onlyK (mK l).1))) 70 (0, 0)) := eV28 ▸ setRow_heap _ _ _ _ _ _ h20
  refine ps_s (o_mRead 14 4) (w' := V28) (by rw [← eV28]; exact exec_store_row 70 (.tmp 5) (.tmp 11) (by kernel_rfl) gc ((Msg.c (onlyK (mK l).1))) (by kernel_rfl) (by kernel_rfl) 70 ((Msg.c msgZ)) h20 (by rw [Msg.c_size (onlyK_R _)]; kernel_rfl) (by rw [Msg.c_size (onlyK_R _)]; exact (Msg.c_size msgZ_R).symm) (Msg.c_one _)) ?_
  clear eV28
  have h30 := kV28.bo h24 (by omega)
  have h31 := kV28.bo h25 (by omega)
  have h32 : Rd V28 F1 b l (mK l).2 := h26.keeps kV28 (fun j hj e => by have := hlt1 j hj; unfold Own.One at e; omega)
  have K33 := K27.no kV28 (by omega)
  refine ps_end ?_
  refine then_n ?_
  refine sy_sq (part_mRead 30) (part_mRead 31) ?_
  refine sy_sq (part_mRead 60) (part_mRead 61) ?_
  refine sy_reg ?_
  refine rg_plain 3 (opsAt (part_mRead 60)) [0, 1, 2] (by kernel_rfl) (by kernel_rfl) ?_
  refine ps_k (o_mRead 60 0) (pT gc 0) ?_
  refine ps_p (o_mRead 60 1) (.int .i64 (((onlyK (mK l).1)).k)) (exec_ld 3 (.tmp 12) gc 0 Try.underlying3 (rc (h29) (Msg.get_n (onlyK_R _) NF.k))) ?_
  refine ps_c (o_mRead 60 2) 40 #[.int .i64 (((onlyK (mK l).1)).k)] Try.func40 ((mknown_no (mK l).1 _ (by omega)).mono ?_)
  rintro e w1 ⟨rfl, rfl⟩
  refine ⟨_, rfl, ?_⟩
  refine ps_end ?_
  refine then_n ?_
  refine sy_n (.tmp 14) (part_mRead 122) (part_mRead 123) ?_
  refine sy_sk ?_
  refine then_n ?_
  have h34 : V28.heap[gc]? = some (.cells (Msg.c ((mRS l).1)) 70 (0, 0)) := by rw [hm]; exact h29
  have h35 : Rd V28 F1 b l (mRS l).2 := by rw [hm]; exact h32
  refine sy_sq (part_mRead 62) (part_mRead 63) ?_
  refine sy_sq (part_mRead 124) (part_mRead 125) ?_
  refine sy_reg ?_
  refine rg_plain 5 (opsAt (part_mRead 124)) [0, 1, 2, 3] (by kernel_rfl) (by kernel_rfl) ?_
  refine ps_k (o_mRead 124 0) (pT b 0) ?_
  refine ps_c (o_mRead 124 1) 42 #[pT b 0] Try.func42 ((Rd.fin h35).mono ?_)
  rintro e V36 ⟨rfl, kV36⟩
  refine ⟨_, rfl, ?_⟩
  have h37 := kV36.bk h30
  have h38 := kV36.bk h31
  have h39 := kV36.bk h34
  have K40 := K33.nn kV36
  obtain ⟨V41, eV41, gx, egx, h42, kV41⟩ := alloc_step V36 (#[.int .i64 0, .int .i64 0]) 38
  have n43 : ga < gx := egx ▸ lt_of_block h37
  have n44 : gf < gx := egx ▸ lt_of_block h38
  have n45 : gc < gx := egx ▸ lt_of_block h39
  have n46 : w.heap.size ≤ gx := egx ▸ K40.size
  refine ps_r (o_mRead 124 2) (pT gx 0) (w' := V41) (by rw [← eV41, ← egx]; exact exec_alloc0 38 (by kernel_rfl) (.agg (#[.int .i64 0, .int .i64 0])) (by kernel_rfl)) ?_
  clear eV41
  have h47 := kV41.bk h37
  have h48 := kV41.bk h38
  have h49 := kV41.bk h39
  have K50 := K40.nn kV41
  obtain ⟨V51, eV51, kV51⟩ := rowset_step V41 gx (#[.int .i64 ((mRS l).2.fin l).1, .int .i64 ((mRS l).2.fin l).2])
  have h52 : V51.heap[gx]? = some (.cells (#[.int .i64 ((mRS l).2.fin l).1, .int .i64 ((mRS l).2.fin l).2]) 38 (0, 0)) := eV51 ▸ setRow_heap _ _ _ _ _ _ h42
  refine ps_s (o_mRead 124 3) (w' := V51) (by rw [← eV51]; exact exec_store_row 38 (.tmp 6) (.tmp 20) (by kernel_rfl) gx (#[.int .i64 ((mRS l).2.fin l).1, .int .i64 ((mRS l).2.fin l).2]) (by kernel_rfl) (by kernel_rfl) 38 (#[.int .i64 0, .int .i64 0]) h42 (by kernel_rfl) rfl (by kernel_rfl)) ?_
  clear eV51
  have h53 := kV51.bo h47 (by omega)
  have h54 := kV51.bo h48 (by omega)
  have h55 := kV51.bo h49 (by omega)
  have K56 := K50.no kV51 (by omega)
  refine ps_end ?_
  refine then_n ?_
  refine sy_sq (part_mRead 250) (part_mRead 251) ?_
  refine sy_reg ?_
  refine rg_plain 6 (opsAt (part_mRead 250)) [0, 1, 2] (by kernel_rfl) (by kernel_rfl) ?_
  refine ps_k (o_mRead 250 0) (pT gx 0) ?_
  refine ps_p (o_mRead 250 1) (.int .i64 ((mRS l).2.fin l).1) (exec_ld 36 (.tmp 21) gx 0 Try.underlying36 (rc (h52) (by kernel_rfl))) ?_
  refine ps_p (o_mRead 250 2) (.bool false) (nqf ((((mRS l).2.fin l).1) : Int) ((0) : Int) (by omega)) ?_
  refine ps_end ?_
  refine then_n ?_
  refine sy_n (.tmp 23) (part_mRead 502) (part_mRead 503) ?_
  refine sy_sk ?_
  refine then_n ?_
  refine sy_sq (part_mRead 126) (part_mRead 127) ?_
  refine sy_reg ?_
  refine rg_plain 8 (opsAt (part_mRead 126)) [0, 1, 2, 3] (by kernel_rfl) (by kernel_rfl) ?_
  refine ps_p (o_mRead 126 0) (.agg (Msg.c ((mRS l).1))) (exec_load_row 70 (.tmp 5) (by kernel_rfl) gc (by kernel_rfl) _ _ (0, 0) _ (h55) Try.underlying70 rfl (by rw [Msg.c_size (mRS_R l)]; kernel_rfl)) ?_
  refine ps_k (o_mRead 126 1) (.agg #[.int .i64 0, .int .i64 0]) ?_
  obtain ⟨V57, eV57, kV57⟩ := rowset_step V51 ga ((Msg.c ((mRS l).1)))
  have h58 : V57.heap[ga]? = some (.cells (Msg.c ((mRS l).1)) 35 (0, 0)) := eV57 ▸ setRow_heap _ _ _ _ _ _ h53
  refine ps_s (o_mRead 126 2) (w' := V57) (by rw [← eV57]; exact exec_store_row 35 (.tmp 2) (.tmp 26) (by kernel_rfl) ga ((Msg.c ((mRS l).1))) (by kernel_rfl) (by kernel_rfl) 35 ((Msg.c msgZ)) h53 (by rw [Msg.c_size (mRS_R l)]; kernel_rfl) (by rw [Msg.c_size (mRS_R l)]; exact (Msg.c_size msgZ_R).symm) (Msg.c_one _)) ?_
  clear eV57
  have h59 := kV57.bo h54 (by omega)
  have h60 := kV57.bo h55 (by omega)
  have h61 := kV57.bo h52 (by omega)
  have K62 := K56.no kV57 (by omega)
  obtain ⟨V63, eV63, kV63⟩ := rowset_step V57 gf (#[.int .i64 0, .int .i64 0])
  have h64 : V63.heap[gf]? = some (.cells (#[.int .i64 0, .int .i64 0]) 38 (0, 0)) := eV63 ▸ setRow_heap _ _ _ _ _ _ h59
  refine ps_s (o_mRead 126 3) (w' := V63) (by rw [← eV63]; exact exec_store_row 38 (.tmp 3) (.tmp 27) (by kernel_rfl) gf (#[.int .i64 0, .int .i64 0]) (by kernel_rfl) (by kernel_rfl) 38 (#[.int .i64 0, .int .i64 0]) h59 (by kernel_rfl) rfl (by kernel_rfl)) ?_
  clear eV63
  have h65 := kV63.bo h60 (by omega)
  have h66 := kV63.bo h61 (by omega)
  have h67 := kV63.bo h58 (by omega)
  have K68 := K62.no kV63 (by omega)
  refine ps_end ?_
  refine sy_a ⟨#[v0, undef, pT ga 0, pT gf 0, pT b 0, pT gc 0, pT gx 0, v0, pT b 0, pT b 0, .int .i64 (mK l).1, .agg (Msg.c (onlyK (mK l).1)), pT gc 0, .int .i64 (((onlyK (mK l).1)).k), .bool false, undef, undef, undef, undef, pT b 0, .agg #[.int .i64 ((mRS l).2.fin l).1, .int .i64 ((mRS l).2.fin l).2], pT gx 0, .int .i64 ((mRS l).2.fin l).1, .bool false, undef, undef, .agg (Msg.c ((mRS l).1)), .agg #[.int .i64 0, .int .i64 0]], []⟩ ?_
  refine then_n ?_
  refine sy_ret (by kernel_rfl) ?_
  refine sy_out (.tuple #[.agg (Msg.c ((mRS l).1)), .agg #[.int .i64 0, .int .i64 0]]) rfl (results_rows2 (p := 2) (q := 3) (ty := 35) (tz := 38) (by kernel_rfl) _ _ ga gf 35 38 (Msg.c ((mRS l).1)) (#[.int .i64 0, .int .i64 0]) (0, 0) (0, 0) _ _ (by kernel_rfl) h67 Try.underlying35 rfl (by rw [Msg.c_size (mRS_R l)]; kernel_rfl) (by kernel_rfl) h64 Try.underlying38 rfl (by kernel_rfl)) ?_
  exact ⟨by rw [mRes, if_pos (show (mFin l).1 = 0 from hz), show (mFin l).1 = 0 from hz, show (mFin l).2 = 0 from fin_zero hz], K68⟩
set_option maxRecDepth 100000 in
set_option maxHeartbeats 4000000 in
theorem mRead_nbad (v0 : Value) (l : List UInt8) (w : World) (hx : BytesAt w v0 l) (hl : l.length ≤ 100000000) (hk : ¬ 1 ≤ (mK l).1) (hz : ¬ ((mRS l).2.fin l).1 = 0) :
    Calls Try.prog 11 #[v0] w (fun e w' => e = .returned (.tuple #[.agg (Msg.c (mRes l)), .agg #[.int .i64 (mFin l).1, .int .i64 (mFin l).2]]) ∧ Keeps Nob w w') := by
  have hm : mRS l = (onlyK (mK l).1, (mK l).2) := if_neg hk
  have K0 : Keeps Nob w w := Keeps.refl _ _
  refine sy_enter (part_mRead 1) ⟨#[v0, undef, undef, undef, undef, undef, undef, undef, undef, undef, undef, undef, undef, undef, undef, undef, undef, undef, undef, undef, undef, undef, undef, undef, undef, undef, undef, undef], []⟩ Try.func11 (by kernel_rfl) (by kernel_rfl) ?_
  refine sy_sq (part_mRead 2) (part_mRead 3) ?_
  refine sy_reg ?_
  refine rg_plain 0 (opsAt (part_mRead 2)) [0, 1] (by kernel_rfl) (by kernel_rfl) ?_
  obtain ⟨V1, eV1, ga, ega, h2, kV1⟩ := alloc_step w ((Msg.c msgZ)) 35
  have n3 : w.heap.size ≤ ga := ega ▸ K0.size
  refine ps_r (o_mRead 2 0) (pT ga 0) (w' := V1) (by rw [← eV1, ← ega]; exact exec_alloc0 35 (by kernel_rfl) (.agg ((Msg.c msgZ))) (by kernel_rfl)) ?_
  clear eV1
  have K4 := K0.nn kV1
  obtain ⟨V5, eV5, gf, egf, h6, kV5⟩ := alloc_step V1 (#[.int .i64 0, .int .i64 0]) 38
  have n7 : ga < gf := egf ▸ lt_of_block h2
  have n8 : w.heap.size ≤ gf := egf ▸ K4.size
  refine ps_r (o_mRead 2 1) (pT gf 0) (w' := V5) (by rw [← eV5, ← egf]; exact exec_alloc0 38 (by kernel_rfl) (.agg (#[.int .i64 0, .int .i64 0])) (by kernel_rfl)) ?_
  clear eV5
  have h9 := kV5.bk h2
  have K10 := K4.nn kV5
  refine ps_end ?_
  refine then_n ?_
  refine sy_sq (part_mRead 6) (part_mRead 7) ?_
  refine sy_reg ?_
  refine rg_plain 1 (opsAt (part_mRead 6)) [0, 1, 2] (by kernel_rfl) (by kernel_rfl) ?_
  refine ps_k (o_mRead 6 0) (v0) ?_
  have hlg := lt_of_block h9
  have hlf := lt_of_block h6
  have hKs := K10.size
  refine ps_c (o_mRead 6 1) 38 #[v0] Try.func38 ((rd_new v0 l _ (hx.keepsN K10) hl).mono ?_)
  rintro e V11 ⟨b, F0, rfl, hR0, hge0, kV11⟩
  have hk5 := kV11.size
  refine ⟨_, rfl, ?_⟩
  have h12 := kV11.bk h9
  have h13 := kV11.bk h6
  have K14 := K10.nn kV11
  refine ps_k (o_mRead 6 2) (pT b 0) ?_
  refine ps_end ?_
  refine then_n ?_
  refine sy_sq (part_mRead 14) (part_mRead 15) ?_
  refine sy_reg ?_
  refine rg_plain 2 (opsAt (part_mRead 14)) [0, 1, 2, 3, 4] (by kernel_rfl) (by kernel_rfl) ?_
  refine ps_k (o_mRead 14 0) (pT b 0) ?_
  have hge : ∀ j, F0 j → w.heap.size ≤ j := fun j h => Nat.le_trans hKs (hge0 j h)
  have hsz0 := K14.size
  refine ps_c (o_mRead 14 1) 39 #[pT b 0, .int .i64 1, .int .i64 11] Try.func39 ((Rd.n hR0 1 11 (by decide) (by decide)).mono ?_)
  rintro e V15 ⟨rfl, F1, hR1_, hS1⟩
  have hR1 : Rd V15 F1 b l (mK l).2 := hR1_
  have hlt1 := hR1.lt
  have hd1 : ∀ j, F1 j → j ≠ ga ∧ j ≠ gf ∧ w.heap.size ≤ j := fun j h => (hS1.2 j h).elim (fun h => by have := hge0 j h; omega) (fun h => by have := h.1; have := hR0.lt; omega)
  refine ⟨_, rfl, ?_⟩
  have h16 : V15.heap[ga]? = some (.cells ((Msg.c msgZ)) 35 (0, 0)) := (hS1.1.block ga (lt_of_block h12) (fun e => by have := hge0 _ e; omega)).trans h12
  have h17 : V15.heap[gf]? = some (.cells (#[.int .i64 0, .int .i64 0]) 38 (0, 0)) := (hS1.1.block gf (lt_of_block h13) (fun e => by have := hge0 _ e; omega)).trans h13
  have K18 : Keeps Nob w V15 := K14.then hS1.1 (fun i hi hm => absurd hi (by have := hge i hm; omega))
  refine ps_k (o_mRead 14 2) (.agg (Msg.c (onlyK (mK l).1))) ?_
  obtain ⟨V19, eV19, gc, egc, h20, kV19⟩ := alloc_step V15 ((Msg.c msgZ)) 70
  have n21 : ga < gc := egc ▸ lt_of_block h16
  have n22 : gf < gc := egc ▸ lt_of_block h17
  have n23 : w.heap.size ≤ gc := egc ▸ K18.size
  refine ps_r (o_mRead 14 3) (pT gc 0) (w' := V19) (by rw [← eV19, ← egc]; exact exec_alloc0 70 (by kernel_rfl) (.agg ((Msg.c msgZ))) (by kernel_rfl)) ?_
  clear eV19
  have h24 := kV19.bk h16
  have h25 := kV19.bk h17
  have h26 : Rd V19 F1 b l (mK l).2 := hR1.keepsN kV19
  have K27 := K18.nn kV19
  obtain ⟨V28, eV28, kV28⟩ := rowset_step V19 gc ((Msg.c (onlyK (mK l).1)))
  have h29 : V28.heap[gc]? = some (.cells (Msg.c ((onlyK (mK l).1))) 70 (0, 0)) := eV28 ▸ setRow_heap _ _ _ _ _ _ h20
  refine ps_s (o_mRead 14 4) (w' := V28) (by rw [← eV28]; exact exec_store_row 70 (.tmp 5) (.tmp 11) (by kernel_rfl) gc ((Msg.c (onlyK (mK l).1))) (by kernel_rfl) (by kernel_rfl) 70 ((Msg.c msgZ)) h20 (by rw [Msg.c_size (onlyK_R _)]; kernel_rfl) (by rw [Msg.c_size (onlyK_R _)]; exact (Msg.c_size msgZ_R).symm) (Msg.c_one _)) ?_
  clear eV28
  have h30 := kV28.bo h24 (by omega)
  have h31 := kV28.bo h25 (by omega)
  have h32 : Rd V28 F1 b l (mK l).2 := h26.keeps kV28 (fun j hj e => by have := hlt1 j hj; unfold Own.One at e; omega)
  have K33 := K27.no kV28 (by omega)
  refine ps_end ?_
  refine then_n ?_
  refine sy_sq (part_mRead 30) (part_mRead 31) ?_
  refine sy_sq (part_mRead 60) (part_mRead 61) ?_
  refine sy_reg ?_
  refine rg_plain 3 (opsAt (part_mRead 60)) [0, 1, 2] (by kernel_rfl) (by kernel_rfl) ?_
  refine ps_k (o_mRead 60 0) (pT gc 0) ?_
  refine ps_p (o_mRead 60 1) (.int .i64 (((onlyK (mK l).1)).k)) (exec_ld 3 (.tmp 12) gc 0 Try.underlying3 (rc (h29) (Msg.get_n (onlyK_R _) NF.k))) ?_
  refine ps_c (o_mRead 60 2) 40 #[.int .i64 (((onlyK (mK l).1)).k)] Try.func40 ((mknown_no (mK l).1 _ (by omega)).mono ?_)
  rintro e w1 ⟨rfl, rfl⟩
  refine ⟨_, rfl, ?_⟩
  refine ps_end ?_
  refine then_n ?_
  refine sy_n (.tmp 14) (part_mRead 122) (part_mRead 123) ?_
  refine sy_sk ?_
  refine then_n ?_
  have h34 : V28.heap[gc]? = some (.cells (Msg.c ((mRS l).1)) 70 (0, 0)) := by rw [hm]; exact h29
  have h35 : Rd V28 F1 b l (mRS l).2 := by rw [hm]; exact h32
  refine sy_sq (part_mRead 62) (part_mRead 63) ?_
  refine sy_sq (part_mRead 124) (part_mRead 125) ?_
  refine sy_reg ?_
  refine rg_plain 5 (opsAt (part_mRead 124)) [0, 1, 2, 3] (by kernel_rfl) (by kernel_rfl) ?_
  refine ps_k (o_mRead 124 0) (pT b 0) ?_
  refine ps_c (o_mRead 124 1) 42 #[pT b 0] Try.func42 ((Rd.fin h35).mono ?_)
  rintro e V36 ⟨rfl, kV36⟩
  refine ⟨_, rfl, ?_⟩
  have h37 := kV36.bk h30
  have h38 := kV36.bk h31
  have h39 := kV36.bk h34
  have K40 := K33.nn kV36
  obtain ⟨V41, eV41, gx, egx, h42, kV41⟩ := alloc_step V36 (#[.int .i64 0, .int .i64 0]) 38
  have n43 : ga < gx := egx ▸ lt_of_block h37
  have n44 : gf < gx := egx ▸ lt_of_block h38
  have n45 : gc < gx := egx ▸ lt_of_block h39
  have n46 : w.heap.size ≤ gx := egx ▸ K40.size
  refine ps_r (o_mRead 124 2) (pT gx 0) (w' := V41) (by rw [← eV41, ← egx]; exact exec_alloc0 38 (by kernel_rfl) (.agg (#[.int .i64 0, .int .i64 0])) (by kernel_rfl)) ?_
  clear eV41
  have h47 := kV41.bk h37
  have h48 := kV41.bk h38
  have h49 := kV41.bk h39
  have K50 := K40.nn kV41
  obtain ⟨V51, eV51, kV51⟩ := rowset_step V41 gx (#[.int .i64 ((mRS l).2.fin l).1, .int .i64 ((mRS l).2.fin l).2])
  have h52 : V51.heap[gx]? = some (.cells (#[.int .i64 ((mRS l).2.fin l).1, .int .i64 ((mRS l).2.fin l).2]) 38 (0, 0)) := eV51 ▸ setRow_heap _ _ _ _ _ _ h42
  refine ps_s (o_mRead 124 3) (w' := V51) (by rw [← eV51]; exact exec_store_row 38 (.tmp 6) (.tmp 20) (by kernel_rfl) gx (#[.int .i64 ((mRS l).2.fin l).1, .int .i64 ((mRS l).2.fin l).2]) (by kernel_rfl) (by kernel_rfl) 38 (#[.int .i64 0, .int .i64 0]) h42 (by kernel_rfl) rfl (by kernel_rfl)) ?_
  clear eV51
  have h53 := kV51.bo h47 (by omega)
  have h54 := kV51.bo h48 (by omega)
  have h55 := kV51.bo h49 (by omega)
  have K56 := K50.no kV51 (by omega)
  refine ps_end ?_
  refine then_n ?_
  refine sy_sq (part_mRead 250) (part_mRead 251) ?_
  refine sy_reg ?_
  refine rg_plain 6 (opsAt (part_mRead 250)) [0, 1, 2] (by kernel_rfl) (by kernel_rfl) ?_
  refine ps_k (o_mRead 250 0) (pT gx 0) ?_
  refine ps_p (o_mRead 250 1) (.int .i64 ((mRS l).2.fin l).1) (exec_ld 36 (.tmp 21) gx 0 Try.underlying36 (rc (h52) (by kernel_rfl))) ?_
  refine ps_p (o_mRead 250 2) (.bool true) (nqt ((((mRS l).2.fin l).1) : Int) ((0) : Int) (by omega)) ?_
  refine ps_end ?_
  refine then_n ?_
  refine sy_ys (.tmp 23) (part_mRead 502) (part_mRead 503) ?_
  refine sy_sq (part_mRead 1004) (part_mRead 1005) ?_
  refine sy_np ?_
  refine sy_reg ?_
  refine an_begin 7 4 (opsAt (part_mRead 1004)) (fun W => (W.heap[gx]? = some (.cells (#[.int .i64 ((mRS l).2.fin l).1, .int .i64 ((mRS l).2.fin l).2]) 38 (0, 0)))) #[false, false, false, false] (by kernel_rfl) (by kernel_rfl) (by kernel_rfl) (by kernel_rfl) ?_
  obtain ⟨V57, eV57, kV57⟩ := drew_step V51
  rw [eV57]
  clear eV57
  have h58 := kV57.bk h53
  have h59 := kV57.bk h54
  have h60 := kV57.bk h55
  have h61 := kV57.bk h52
  have K62 := K56.nn kV57
  refine an_k 0 (o_mRead 1004 0) (.agg (Msg.c msgZ)) h61 ?_
  refine an_v 1 (o_mRead 1004 1) (.agg #[.int .i64 ((mRS l).2.fin l).1, .int .i64 ((mRS l).2.fin l).2]) (fun W hS => exec_load_row 38 (.tmp 6) (by kernel_rfl) gx (by kernel_rfl) _ _ (0, 0) _ (hS) Try.underlying38 rfl (by kernel_rfl)) h61 ?_
  refine an_o 2 ?_
  obtain ⟨V63, eV63, kV63⟩ := rowset_step V57 ga ((Msg.c msgZ))
  have h64 : V63.heap[ga]? = some (.cells (Msg.c msgZ) 35 (0, 0)) := eV63 ▸ setRow_heap _ _ _ _ _ _ h58
  refine on_s (o_mRead 1004 2) (w' := V63) (by rw [← eV63]; exact exec_store_row 35 (.tmp 2) (.tmp 24) (by kernel_rfl) ga ((Msg.c msgZ)) (by kernel_rfl) (by kernel_rfl) 35 ((Msg.c msgZ)) h58 (by rw [Msg.c_size msgZ_R]; kernel_rfl) rfl (Msg.c_one _)) ?_
  clear eV63
  have h65 := kV63.bo h59 (by omega)
  have h66 := kV63.bo h60 (by omega)
  have h67 := kV63.bo h61 (by omega)
  have K68 := K62.no kV63 (by omega)
  refine ⟨h67, ?_⟩
  refine an_o 3 ?_
  obtain ⟨V69, eV69, kV69⟩ := rowset_step V63 gf (#[.int .i64 ((mRS l).2.fin l).1, .int .i64 ((mRS l).2.fin l).2])
  have h70 : V69.heap[gf]? = some (.cells (#[.int .i64 ((mRS l).2.fin l).1, .int .i64 ((mRS l).2.fin l).2]) 38 (0, 0)) := eV69 ▸ setRow_heap _ _ _ _ _ _ h65
  refine on_s (o_mRead 1004 3) (w' := V69) (by rw [← eV69]; exact exec_store_row 38 (.tmp 3) (.tmp 25) (by kernel_rfl) gf (#[.int .i64 ((mRS l).2.fin l).1, .int .i64 ((mRS l).2.fin l).2]) (by kernel_rfl) (by kernel_rfl) 38 (#[.int .i64 0, .int .i64 0]) h65 (by kernel_rfl) rfl (by kernel_rfl)) ?_
  clear eV69
  have h71 := kV69.bo h66 (by omega)
  have h72 := kV69.bo h67 (by omega)
  have h73 := kV69.bo h64 (by omega)
  have K74 := K68.no kV69 (by omega)
  refine ⟨h72, ?_⟩
  refine an_end (by kernel_rfl) ?_
  refine sy_a ⟨#[v0, undef, pT ga 0, pT gf 0, pT b 0, pT gc 0, pT gx 0, v0, pT b 0, pT b 0, .int .i64 (mK l).1, .agg (Msg.c (onlyK (mK l).1)), pT gc 0, .int .i64 (((onlyK (mK l).1)).k), .bool false, undef, undef, undef, undef, pT b 0, .agg #[.int .i64 ((mRS l).2.fin l).1, .int .i64 ((mRS l).2.fin l).2], pT gx 0, .int .i64 ((mRS l).2.fin l).1, .bool true, .agg (Msg.c msgZ), .agg #[.int .i64 ((mRS l).2.fin l).1, .int .i64 ((mRS l).2.fin l).2], undef, undef], []⟩ ?_
  refine then_n ?_
  refine sy_ret (by kernel_rfl) ?_
  refine then_r ?_
  refine sy_out (.tuple #[.agg (Msg.c msgZ), .agg #[.int .i64 ((mRS l).2.fin l).1, .int .i64 ((mRS l).2.fin l).2]]) rfl (results_rows2 (p := 2) (q := 3) (ty := 35) (tz := 38) (by kernel_rfl) _ _ ga gf 35 38 (Msg.c msgZ) (#[.int .i64 ((mRS l).2.fin l).1, .int .i64 ((mRS l).2.fin l).2]) (0, 0) (0, 0) _ _ (by kernel_rfl) h73 Try.underlying35 rfl (by rw [Msg.c_size msgZ_R]; kernel_rfl) (by kernel_rfl) h70 Try.underlying38 rfl (by kernel_rfl)) ?_
  exact ⟨by rw [mRes, if_neg (show ¬ (mFin l).1 = 0 from hz)]; rfl, K74⟩
theorem mRead_any (v0 : Value) (l : List UInt8) (w : World) (hx : BytesAt w v0 l) (hl : l.length ≤ 100000000) : Calls Try.prog 11 #[v0] w (fun e w' => e = .returned (.tuple #[.agg (Msg.c (mRes l)), .agg #[.int .i64 (mFin l).1, .int .i64 (mFin l).2]]) ∧ Keeps Nob w w') := by
  by_cases hk : 1 ≤ (mK l).1
  · by_cases hz : ((mRS l).2.fin l).1 = 0
    · exact mRead_kok v0 l w hx hl hk hz
    · exact mRead_kbad v0 l w hx hl hk hz
  · by_cases hz : ((mRS l).2.fin l).1 = 0
    · exact mRead_nok v0 l w hx hl hk hz
    · exact mRead_nbad v0 l w hx hl hk hz
end Go.Proofs.Ytmapcghgdbfmhaa
