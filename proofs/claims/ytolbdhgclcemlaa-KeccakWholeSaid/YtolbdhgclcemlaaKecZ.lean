/-
  Keccak: Join on both sides (printed by kec18.py). Conditions: none.
-/
import Derived.Test.YtolbdhgclcemlaaKecY
namespace Go.Proofs.Ytolbdhgclcemlaa
open Go Go.RowKit Go.Own Go.Shelf
theorem join_len {kd : UInt8} {ls : List (List UInt8)} : (Kec.join kd ls).length = 32 := Kec.sum_len  _
theorem sp_step {w : World} {p i : Nat} {kd : UInt8} {l : List UInt8} {ls : List (List UInt8)} (hl : ls[i]? = some l) (h : SpAt w p (((kd :: jn ls i) ++ Kec.eight l.length) ++ l)) : SpAt w p (kd :: jn ls (i + 1)) := by
  rw [jn_succ hl]; rwa [List.append_assoc, List.cons_append] at h
theorem row_step {w : World} {i : Nat} {t : TypeId} {v : Value} {kd : UInt8} {l : List UInt8} {ls : List (List UInt8)} (hl : ls[i]? = some l) (h : Row w t 1 v ((kd :: jn ls i).length + 8 + l.length) (B (kd :: jn ls i) ++ B (Kec.eight l.length) ++ B l)) : Row w t 1 v (kd :: jn ls (i + 1)).length (B (kd :: jn ls (i + 1))) := by
  have e : kd :: jn ls (i + 1) = (kd :: jn ls i) ++ Kec.eight l.length ++ l := by rw [jn_succ hl]; simp
  rw [e, B_append, B_append]
  rwa [show ((kd :: jn ls i) ++ Kec.eight l.length ++ l).length = (kd :: jn ls i).length + 8 + l.length by simp only [List.length_append, eight_len]]

theorem ksum_join (kd : UInt8) (ls : List (List UInt8)) (i : Nat) (hi : i = ls.length) (w : World) : Calls Try.prog 35 #[.agg (Sp (Kec.stateOf (kd :: jn ls i)) (blkOf (kd :: jn ls i)) ((kd :: jn ls i).length % 136) (kd :: jn ls i).length)] w (fun e w' => e = .returned (.agg (B (Kec.join kd ls)).toArray) ∧ Keeps Nob w w') := by
  subst hi; rw [← jn_all]; exact ksum_ok (kd :: jn ls ls.length) w
theorem hSum_join (kd : UInt8) (ls : List (List UInt8)) (i : Nat) (hi : i = ls.length) (v : Value) (w : World) (h : Row w 5 1 v (kd :: jn ls i).length (B (kd :: jn ls i))) (hl : (kd :: jn ls i).length ≤ 1000000) : Calls Try.prog 20 #[v] w (fun e w' => e = .returned (.agg (B (Kec.join kd ls)).toArray) ∧ Keeps Nob w w') := by
  subst hi; rw [← jn_all]; exact hSum_ok _ v w (Row.bytes h) hl
noncomputable def part_kJoin (n : Nat) : Code := partOf Try.f25 n
noncomputable abbrev o_kJoin (n k : Nat) : Oper := (opsAt (part_kJoin n)).getD k default
set_option maxRecDepth 100000 in
set_option maxHeartbeats 4000000 in
theorem kJoin_ok (kd : UInt8) (A : Option Addr) (cap : Nat) (us : List Value) (ls : List (List UInt8)) (w : World) (h0 : ListsAt w (.slice A ls.length cap) us ls) (hT : tall ls ≤ 10000) (hn : ls.length ≤ 10000) :
    Calls Try.prog 25 #[.int .u8 ((kd.toNat : Nat) : Int), .slice A ls.length cap] w (fun e w' => e = .returned (.agg (B (Kec.join kd ls)).toArray) ∧ Keeps Nob w w') := by
  have hW : Kec.W = 18446744073709551616 := rfl
  have K0 : Keeps Nob w w := Keeps.refl _ _
  refine sy_enter (part_kJoin 1) ⟨#[cN kd.toNat, .slice A ls.length cap, undef, undef, undef, undef, undef, undef, undef, undef, undef, undef, undef, undef, undef, undef, undef, undef, undef, undef, undef, undef, undef, undef, undef, undef, undef, undef, undef], []⟩ Try.func25 (by kernel_rfl) (by kernel_rfl) ?_
  refine sy_sq (part_kJoin 2) (part_kJoin 3) ?_
  refine sy_reg ?_
  refine rg_plain 0 (opsAt (part_kJoin 2)) [0] (by kernel_rfl) (by kernel_rfl) ?_
  obtain ⟨V1, eV1⟩ : ∃ V, w.alloc (.cells (zr_u8_32) 29) = V := ⟨_, rfl⟩
  obtain ⟨gr, egr⟩ : ∃ g, w.heap.size = g := ⟨_, rfl⟩
  have n3 : w.heap.size ≤ gr := egr ▸ K0.size
  have h2 : V1.heap[gr]? = some (.cells (zr_u8_32) 29 (0, 0)) := by rw [← eV1, ← egr]; exact heap_alloc_new _ _
  have kV1 : Keeps Nob w V1 := eV1 ▸ (Keeps.refl _ _).alloc _
  refine ps_run (o_kJoin 2 0) (pT gr 0) (w' := V1) (by kernel_rfl) (by kernel_rfl) (by rw [← eV1, ← egr]; exact exec_alloc0 29 (by kernel_rfl) (.agg (zr_u8_32)) (by kernel_rfl)) ?_
  clear eV1
  have h4 : ListsAt V1 (.slice A ls.length cap) us ls := h0.keepsN kV1
  have K5 : Keeps Nob w V1 := K0.then kV1 (fun _ _ x => x.elim)
  refine ps_end ?_
  refine sy_a ⟨#[cN kd.toNat, .slice A ls.length cap, undef, undef, pT gr 0, undef, undef, undef, undef, undef, undef, undef, undef, undef, undef, undef, undef, undef, undef, undef, undef, undef, undef, undef, undef, undef, undef, undef, undef], []⟩ ?_
  refine then_n ?_
  refine sy_sq (part_kJoin 6) (part_kJoin 7) ?_
  refine sy_reg ?_
  refine rg_plain 1 (opsAt (part_kJoin 6)) [0] (by kernel_rfl) (by kernel_rfl) ?_
  obtain ⟨V6, eV6⟩ : ∃ V, V1.alloc (.cells (Sp Kec.zero zero136 0 0) 64) = V := ⟨_, rfl⟩
  obtain ⟨p, ep⟩ : ∃ g, V1.heap.size = g := ⟨_, rfl⟩
  have n8 : gr < p := ep ▸ lt_of_block h2
  have n9 : w.heap.size ≤ p := ep ▸ K5.size
  have h7 : V6.heap[p]? = some (.cells (Sp Kec.zero zero136 0 0) 64 (0, 0)) := by rw [← eV6, ← ep]; exact heap_alloc_new _ _
  have kV6 : Keeps Nob V1 V6 := eV6 ▸ (Keeps.refl _ _).alloc _
  refine ps_run (o_kJoin 6 0) (pT p 0) (w' := V6) (by kernel_rfl) (by kernel_rfl) (by rw [← eV6, ← ep]; exact exec_alloc0 64 (by kernel_rfl) (.agg (Sp Kec.zero zero136 0 0)) (by kernel_rfl)) ?_
  clear eV6
  have h10 : ListsAt V6 (.slice A ls.length cap) us ls := h4.keepsN kV6
  have h11 : V6.heap[gr]? = some (.cells (zr_u8_32) 29 (0, 0)) := (kV6.block gr (lt_of_block h2) (fun x => x)).trans h2
  have K12 : Keeps Nob w V6 := K5.then kV6 (fun _ _ x => x.elim)
  refine ps_end ?_
  refine sy_a ⟨#[cN kd.toNat, .slice A ls.length cap, undef, undef, pT gr 0, pT p 0, undef, undef, undef, undef, undef, undef, undef, undef, undef, undef, undef, undef, undef, undef, undef, undef, undef, undef, undef, undef, undef, undef, undef], []⟩ ?_
  refine then_n ?_
  refine sy_sq (part_kJoin 14) (part_kJoin 15) ?_
  refine sy_reg ?_
  refine rg_plain 2 (opsAt (part_kJoin 14)) [0, 1, 2] (by kernel_rfl) (by kernel_rfl) ?_
  refine ps_k (o_kJoin 14 0) (cN kd.toNat) ?_
  obtain ⟨V13, eV13⟩ : ∃ V, V6.alloc (.cells (#[.int .u8 ((kd.toNat : Nat) : Int)]) 5) = V := ⟨_, rfl⟩
  obtain ⟨gx, egx⟩ : ∃ g, V6.heap.size = g := ⟨_, rfl⟩
  have n15 : gr < gx := egx ▸ lt_of_block h11
  have n16 : p < gx := egx ▸ lt_of_block h7
  have n17 : w.heap.size ≤ gx := egx ▸ K12.size
  have h14 : V13.heap[gx]? = some (.cells (#[.int .u8 ((kd.toNat : Nat) : Int)]) 5 (0, 0)) := by rw [← eV13, ← egx]; exact heap_alloc_new _ _
  have kV13 : Keeps Nob V6 V13 := eV13 ▸ (Keeps.refl _ _).alloc _
  refine ps_run (o_kJoin 14 1) (.slice (some ⟨gx, 0, none⟩) 1 1) (w' := V13) (by kernel_rfl) (by kernel_rfl) (by rw [← eV13, ← egx]; kernel_rfl) ?_
  have h18 : ListsAt V13 (.slice A ls.length cap) us ls := h10.keepsN kV13
  have h19 : V13.heap[gr]? = some (.cells (zr_u8_32) 29 (0, 0)) := (kV13.block gr (lt_of_block h11) (fun x => x)).trans h11
  have h20 : V13.heap[p]? = some (.cells (Sp Kec.zero zero136 0 0) 64 (0, 0)) := (kV13.block p (lt_of_block h7) (fun x => x)).trans h7
  have K21 : Keeps Nob w V13 := K12.then kV13 (fun _ _ x => x.elim)
  have h24 : SpAt V13 p [] := h20.trans (congrArg (fun c => some (Obj.cells c 64 (0, 0))) sp_nil)
  have b25 : BytesAt V13 (.slice (some ⟨gx, 0, none⟩) [kd].length 1) [kd] := bytes_of_block h14 rfl rfl (by simp [maxLen])
  refine ps_call (o_kJoin 14 2) 36 #[pT p 0, .slice (some ⟨gx, 0, none⟩) 1 1] (by kernel_rfl) (by kernel_rfl) (by kernel_rfl) (by kernel_rfl) (enters_of Try.func36 (by kernel_rfl) rfl) ((kwrite_ok p [] [kd] (some ⟨gx, 0, none⟩) 1 _ h24 b25 (fun _ j hj => by simp only [Value.ownBlock, Option.some.injEq] at hj; omega) (by simp only [List.length_cons, List.length_append, List.length_nil, eight_len] at *; omega)).mono ?_)
  rintro e V22 ⟨rfl, h23, kV22⟩
  refine ⟨_, rfl, ?_⟩
  have h26 : ListsAt V22 (.slice A ls.length cap) us ls := ListsAt.keepsB h0 h18 kV22 (fun j hj e => by first | exact e.elim | (unfold Own.One at e; omega) | omega)
  have h27 : V22.heap[gr]? = some (.cells (zr_u8_32) 29 (0, 0)) := (kV22.block gr (lt_of_block h19) (fun e => by unfold Own.One at e; omega)).trans h19
  have h28 : V22.heap[gx]? = some (.cells (#[.int .u8 ((kd.toNat : Nat) : Int)]) 5 (0, 0)) := (kV22.block gx (lt_of_block h14) (fun e => by unfold Own.One at e; omega)).trans h14
  have K29 : Keeps Nob w V22 := K21.then kV22 (fun i hi hm => absurd hi (by unfold Own.One at hm; omega))
  refine ps_end ?_
  refine sy_a ⟨#[cN kd.toNat, .slice A ls.length cap, undef, undef, pT gr 0, pT p 0, undef, undef, undef, cN kd.toNat, .slice (some ⟨gx, 0, none⟩) 1 1, .tuple #[], undef, undef, undef, undef, undef, undef, undef, undef, undef, undef, undef, undef, undef, undef, undef, undef, undef], []⟩ ?_
  refine then_n ?_
  refine sy_sq (part_kJoin 30) (part_kJoin 31) ?_
  refine sy_sq (part_kJoin 60) (part_kJoin 61) ?_
  refine sy_reg ?_
  refine rg_plain 3 (opsAt (part_kJoin 60)) [0, 1, 2] (by kernel_rfl) (by kernel_rfl) ?_
  refine ps_k (o_kJoin 60 0) (.slice A ls.length cap) ?_
  refine ps_p (o_kJoin 60 1) (iN ls.length) (exec_len (.tmp 12) 38 _ (by kernel_rfl) Try.underlying38 A ls.length cap (by kernel_rfl)) ?_
  refine ps_k (o_kJoin 60 2) (.int .i64 0) ?_
  refine ps_end ?_
  refine sy_a ⟨#[cN kd.toNat, .slice A ls.length cap, undef, undef, pT gr 0, pT p 0, undef, undef, undef, cN kd.toNat, .slice (some ⟨gx, 0, none⟩) 1 1, .tuple #[], .slice A ls.length cap, iN ls.length, .int .i64 0, undef, undef, undef, undef, undef, undef, undef, undef, undef, undef, undef, undef, undef, undef], []⟩ ?_
  refine then_n ?_
  refine sy_bk 0 (part_kJoin 122) ?_
  refine sy_loop (part_kJoin 244) (fun a V => ∃ (i : Nat) (u7 u8 u15 u16 u17 u18 u19 u20 u21 u22 u23 u24 u25 u26 : Value), (a = ⟨#[cN kd.toNat, .slice A ls.length cap, undef, undef, pT gr 0, pT p 0, undef, u7, u8, cN kd.toNat, .slice (some ⟨gx, 0, none⟩) 1 1, .tuple #[], .slice A ls.length cap, iN ls.length, iN i, u15, u16, u17, u18, u19, u20, u21, u22, u23, u24, u25, u26, undef, undef], []⟩) ∧ (i ≤ ls.length) ∧ (ListsAt V (.slice A ls.length cap) us ls) ∧ (V.heap[gr]? = some (.cells (zr_u8_32) 29 (0, 0))) ∧ (V.heap[p]? = some (.cells (Sp (Kec.stateOf (kd :: jn ls i)) (blkOf (kd :: jn ls i)) ((kd :: jn ls i).length % 136) ((kd :: jn ls i).length)) 64 (0, 0))) ∧ (Keeps Nob w V)) (fun a _ => ls.length - (intOf (a.tmps.getD 14 undef)).toNat) (by kernel_rfl) ?_ ?_
  · exact ⟨0, undef, undef, undef, undef, undef, undef, undef, undef, undef, undef, undef, undef, undef, undef, by kernel_rfl, by omega, h26, h27, h23.trans (by kernel_rfl), K29⟩
  · rintro a V30 ⟨i, u7, u8, u15, u16, u17, u18, u19, u20, u21, u22, u23, u24, u25, u26, rfl, hi, h31, h32, h33, K34⟩
    by_cases lt_i : i < ls.length
    · obtain ⟨u, l, b, o, c, hu, hl, hv⟩ := h0.open_ i lt_i
      obtain ⟨A1, cap1, rfl⟩ := (h0.bytes _ _ _ hu hl).len
      have hll := len_le_tall hl
      have htl := tot_le ls i
      have hjl : (kd :: jn ls i).length = 1 + 8 * i + tot ls i := by rw [List.length_cons, jn_len ls i (by omega)]; omega
      refine sy_sq (part_kJoin 488) (part_kJoin 489) ?_
      refine sy_reg ?_
      refine rg_plain 4 (opsAt (part_kJoin 488)) [0] (by kernel_rfl) (by kernel_rfl) ?_
      refine ps_p (o_kJoin 488 0) (.bool true) (exec_cast (congrArg Value.bool (show (decide ((((i : Nat) : Int)) < (((ls.length : Nat) : Int)))) = true from by simp only [decide_eq_true_eq]; omega)) (by kernel_rfl)) ?_
      refine ps_end ?_
      refine sy_a ⟨#[cN kd.toNat, .slice A ls.length cap, undef, undef, pT gr 0, pT p 0, undef, u7, u8, cN kd.toNat, .slice (some ⟨gx, 0, none⟩) 1 1, .tuple #[], .slice A ls.length cap, iN ls.length, iN i, .bool true, u16, u17, u18, u19, u20, u21, u22, u23, u24, u25, u26, undef, undef], []⟩ ?_
      refine then_n ?_
      refine sy_sq (part_kJoin 978) (part_kJoin 979) ?_
      refine sy_ys (.tmp 15) (part_kJoin 1956) (part_kJoin 1957) ?_
      refine sy_sk ?_
      refine then_n ?_
      refine sy_sq (part_kJoin 1958) (part_kJoin 1959) ?_
      refine sy_bk 1 (part_kJoin 3916) ?_
      refine sy_sq (part_kJoin 7832) (part_kJoin 7833) ?_
      refine sy_reg ?_
      refine rg_plain 5 (opsAt (part_kJoin 7832)) [0, 1, 2] (by kernel_rfl) (by kernel_rfl) ?_
      refine ps_p (o_kJoin 7832 0) (pT b (o + i)) (exec_cast (v := pT b (o + i * 1)) (by simp) (exec_indexAt_slice 38 (.tmp 12) (.tmp 14) (by kernel_rfl) b o ls.length c (Eq.trans (b := .slice A ls.length cap) (by kernel_rfl) hv) .i64 i (by kernel_rfl) _ 1 Try.underlying38 (by kernel_rfl) (by omega))) ?_
      refine ps_p (o_kJoin 7832 1) (.slice A1 l.length cap1) (exec_load_cell 22 (.tmp 16) (by kernel_rfl) ⟨b, o + i, none⟩ (by kernel_rfl) _ _ Try.underlying22 rfl (ListsAt.cell h31 hu hv)) ?_
      refine ps_k (o_kJoin 7832 2) (.slice A1 l.length cap1) ?_
      refine ps_end ?_
      refine sy_a ⟨#[cN kd.toNat, .slice A ls.length cap, undef, undef, pT gr 0, pT p 0, undef, .slice A1 l.length cap1, u8, cN kd.toNat, .slice (some ⟨gx, 0, none⟩) 1 1, .tuple #[], .slice A ls.length cap, iN ls.length, iN i, .bool true, pT b (o + i), .slice A1 l.length cap1, u18, u19, u20, u21, u22, u23, u24, u25, u26, undef, undef], []⟩ ?_
      refine then_n ?_
      refine sy_sq (part_kJoin 15666) (part_kJoin 15667) ?_
      refine sy_reg ?_
      refine rg_plain 6 (opsAt (part_kJoin 15666)) [0, 1, 2, 3, 4, 5] (by kernel_rfl) (by kernel_rfl) ?_
      refine ps_k (o_kJoin 15666 0) (.slice A1 l.length cap1) ?_
      refine ps_p (o_kJoin 15666 1) (iN l.length) (exec_len (.tmp 18) 22 _ (by kernel_rfl) Try.underlying22 A1 l.length cap1 (by kernel_rfl)) ?_
      refine ps_p (o_kJoin 15666 2) (uN l.length) (exec_cast (congrArg (Value.int .u64) (wrapU l.length (by omega))) (by kernel_rfl)) ?_
      refine ps_call (o_kJoin 15666 3) 41 #[uN l.length] (by kernel_rfl) (by kernel_rfl) (by kernel_rfl) (by kernel_rfl) (enters_of Try.func41 (by kernel_rfl) rfl) ((keight_ok l.length _ (by omega)).mono ?_)
      rintro e V35 ⟨rfl, kV35⟩
      refine ⟨_, rfl, ?_⟩
      have h36 : ListsAt V35 (.slice A ls.length cap) us ls := h31.keepsN kV35
      have h37 : V35.heap[gr]? = some (.cells (zr_u8_32) 29 (0, 0)) := (kV35.block gr (lt_of_block h32) (fun x => x)).trans h32
      have h38 : V35.heap[p]? = some (.cells (Sp (Kec.stateOf (kd :: jn ls i)) (blkOf (kd :: jn ls i)) ((kd :: jn ls i).length % 136) ((kd :: jn ls i).length)) 64 (0, 0)) := (kV35.block p (lt_of_block h33) (fun x => x)).trans h33
      have K39 : Keeps Nob w V35 := K34.then kV35 (fun _ _ x => x.elim)
      obtain ⟨V40, eV40⟩ : ∃ V, V35.alloc (.cells (zr_u8_8) 68) = V := ⟨_, rfl⟩
      obtain ⟨g8, eg8⟩ : ∃ g, V35.heap.size = g := ⟨_, rfl⟩
      have n42 : gr < g8 := eg8 ▸ lt_of_block h37
      have n43 : p < g8 := eg8 ▸ lt_of_block h38
      have n44 : w.heap.size ≤ g8 := eg8 ▸ K39.size
      have h41 : V40.heap[g8]? = some (.cells (zr_u8_8) 68 (0, 0)) := by rw [← eV40, ← eg8]; exact heap_alloc_new _ _
      have kV40 : Keeps Nob V35 V40 := eV40 ▸ (Keeps.refl _ _).alloc _
      refine ps_run (o_kJoin 15666 4) (pT g8 0) (w' := V40) (by kernel_rfl) (by kernel_rfl) (by rw [← eV40, ← eg8]; exact exec_alloc0 68 (by kernel_rfl) (.agg (zr_u8_8)) (by kernel_rfl)) ?_
      clear eV40
      have h45 : ListsAt V40 (.slice A ls.length cap) us ls := h36.keepsN kV40
      have h46 : V40.heap[gr]? = some (.cells (zr_u8_32) 29 (0, 0)) := (kV40.block gr (lt_of_block h37) (fun x => x)).trans h37
      have h47 : V40.heap[p]? = some (.cells (Sp (Kec.stateOf (kd :: jn ls i)) (blkOf (kd :: jn ls i)) ((kd :: jn ls i).length % 136) ((kd :: jn ls i).length)) 64 (0, 0)) := (kV40.block p (lt_of_block h38) (fun x => x)).trans h38
      have K48 : Keeps Nob w V40 := K39.then kV40 (fun _ _ x => x.elim)
      obtain ⟨V49, eV49⟩ : ∃ V, V40.setRow g8 ((B (Kec.eight l.length)).toArray) = V := ⟨_, rfl⟩
      have kV49 : Keeps (One g8) V40 V49 := eV49 ▸ (Keeps.refl (One g8) _).setRow (fun _ => (rfl : Own.One g8 g8)) _
      have h50 : V49.heap[g8]? = some (.cells ((B (Kec.eight l.length)).toArray) 68 (0, 0)) := eV49 ▸ setRow_heap _ _ _ _ _ _ h41
      refine ps_skip (o_kJoin 15666 5) (w' := V49) (by kernel_rfl) (by kernel_rfl) (by rw [← eV49]; exact exec_store_row 68 (.tmp 8) (.tmp 21) (by kernel_rfl) g8 ((B (Kec.eight l.length)).toArray) (by kernel_rfl) (by kernel_rfl) 68 (zr_u8_8) h41 (by rw [Bz_size, eight_len]; kernel_rfl) (by rw [Bz_size, eight_len]; rfl) (by rw [List.all_toArray]; exact List.all_eq_true.2 (B_one _))) ?_
      clear eV49
      have h51 : ListsAt V49 (.slice A ls.length cap) us ls := ListsAt.keepsB h0 h45 kV49 (fun j hj e => by first | exact e.elim | (unfold Own.One at e; omega) | omega)
      have h52 : V49.heap[gr]? = some (.cells (zr_u8_32) 29 (0, 0)) := (kV49.block gr (lt_of_block h46) (fun e => by unfold Own.One at e; omega)).trans h46
      have h53 : V49.heap[p]? = some (.cells (Sp (Kec.stateOf (kd :: jn ls i)) (blkOf (kd :: jn ls i)) ((kd :: jn ls i).length % 136) ((kd :: jn ls i).length)) 64 (0, 0)) := (kV49.block p (lt_of_block h47) (fun e => by unfold Own.One at e; omega)).trans h47
      have K54 : Keeps Nob w V49 := K48.then kV49 (fun i hi hm => absurd hi (by unfold Own.One at hm; omega))
      refine ps_end ?_
      refine sy_a ⟨#[cN kd.toNat, .slice A ls.length cap, undef, undef, pT gr 0, pT p 0, undef, .slice A1 l.length cap1, pT g8 0, cN kd.toNat, .slice (some ⟨gx, 0, none⟩) 1 1, .tuple #[], .slice A ls.length cap, iN ls.length, iN i, .bool true, pT b (o + i), .slice A1 l.length cap1, .slice A1 l.length cap1, iN l.length, uN l.length, .agg (B (Kec.eight l.length)).toArray, u22, u23, u24, u25, u26, undef, undef], []⟩ ?_
      refine then_n ?_
      refine sy_sq (part_kJoin 31334) (part_kJoin 31335) ?_
      refine sy_reg ?_
      refine rg_plain 7 (opsAt (part_kJoin 31334)) [0, 1] (by kernel_rfl) (by kernel_rfl) ?_
      refine ps_p (o_kJoin 31334 0) (.slice (some ⟨g8, 0, none⟩) 8 8) (exec_slice_all 68 (.tmp 8) (by kernel_rfl) g8 0 (by kernel_rfl) 8 5 Try.underlying68 (by kernel_rfl)) ?_
      have b57 : BytesAt V49 (.slice (some ⟨g8, 0, none⟩) (Kec.eight l.length).length 8) (Kec.eight l.length) := bytes_of_block h50 rfl eight_len (by rw [eight_len]; decide)
      refine ps_call (o_kJoin 31334 1) 36 #[pT p 0, .slice (some ⟨g8, 0, none⟩) 8 8] (by kernel_rfl) (by kernel_rfl) (by kernel_rfl) (by kernel_rfl) (enters_of Try.func36 (by kernel_rfl) rfl) ((kwrite_ok p (kd :: jn ls i) (Kec.eight l.length) (some ⟨g8, 0, none⟩) 8 _ h53 b57 (fun _ j hj => by simp only [Value.ownBlock, Option.some.injEq] at hj; omega) (by simp only [List.length_cons, List.length_append, List.length_nil, eight_len] at *; omega)).mono ?_)
      rintro e V55 ⟨rfl, h56, kV55⟩
      refine ⟨_, rfl, ?_⟩
      have h58 : ListsAt V55 (.slice A ls.length cap) us ls := ListsAt.keepsB h0 h51 kV55 (fun j hj e => by first | exact e.elim | (unfold Own.One at e; omega) | omega)
      have h59 : V55.heap[gr]? = some (.cells (zr_u8_32) 29 (0, 0)) := (kV55.block gr (lt_of_block h52) (fun e => by unfold Own.One at e; omega)).trans h52
      have h60 : V55.heap[g8]? = some (.cells ((B (Kec.eight l.length)).toArray) 68 (0, 0)) := (kV55.block g8 (lt_of_block h50) (fun e => by unfold Own.One at e; omega)).trans h50
      have K61 : Keeps Nob w V55 := K54.then kV55 (fun i hi hm => absurd hi (by unfold Own.One at hm; omega))
      refine ps_end ?_
      refine sy_a ⟨#[cN kd.toNat, .slice A ls.length cap, undef, undef, pT gr 0, pT p 0, undef, .slice A1 l.length cap1, pT g8 0, cN kd.toNat, .slice (some ⟨gx, 0, none⟩) 1 1, .tuple #[], .slice A ls.length cap, iN ls.length, iN i, .bool true, pT b (o + i), .slice A1 l.length cap1, .slice A1 l.length cap1, iN l.length, uN l.length, .agg (B (Kec.eight l.length)).toArray, .slice (some ⟨g8, 0, none⟩) 8 8, .tuple #[], u24, u25, u26, undef, undef], []⟩ ?_
      refine then_n ?_
      refine sy_reg ?_
      refine rg_plain 8 (opsAt (part_kJoin 31335)) [0, 1] (by kernel_rfl) (by kernel_rfl) ?_
      refine ps_k (o_kJoin 31335 0) (.slice A1 l.length cap1) ?_
      have b64 : BytesAt V55 (.slice A1 l.length cap1) l := ListsAt.bytes h58 _ _ _ hu hl
      refine ps_call (o_kJoin 31335 1) 36 #[pT p 0, .slice A1 l.length cap1] (by kernel_rfl) (by kernel_rfl) (by kernel_rfl) (by kernel_rfl) (enters_of Try.func36 (by kernel_rfl) rfl) ((kwrite_ok p ((kd :: jn ls i) ++ Kec.eight l.length) l A1 cap1 _ h56 b64 (fun hn j hj => by have := ListsAt.blockLt h0 hu hl hn j hj; omega) (by simp only [List.length_cons, List.length_append, List.length_nil, eight_len] at *; omega)).mono ?_)
      rintro e V62 ⟨rfl, h63, kV62⟩
      refine ⟨_, rfl, ?_⟩
      have h65 : ListsAt V62 (.slice A ls.length cap) us ls := ListsAt.keepsB h0 h58 kV62 (fun j hj e => by first | exact e.elim | (unfold Own.One at e; omega) | omega)
      have h66 : V62.heap[gr]? = some (.cells (zr_u8_32) 29 (0, 0)) := (kV62.block gr (lt_of_block h59) (fun e => by unfold Own.One at e; omega)).trans h59
      have h67 : V62.heap[g8]? = some (.cells ((B (Kec.eight l.length)).toArray) 68 (0, 0)) := (kV62.block g8 (lt_of_block h60) (fun e => by unfold Own.One at e; omega)).trans h60
      have K68 : Keeps Nob w V62 := K61.then kV62 (fun i hi hm => absurd hi (by unfold Own.One at hm; omega))
      refine ps_end ?_
      refine sy_a ⟨#[cN kd.toNat, .slice A ls.length cap, undef, undef, pT gr 0, pT p 0, undef, .slice A1 l.length cap1, pT g8 0, cN kd.toNat, .slice (some ⟨gx, 0, none⟩) 1 1, .tuple #[], .slice A ls.length cap, iN ls.length, iN i, .bool true, pT b (o + i), .slice A1 l.length cap1, .slice A1 l.length cap1, iN l.length, uN l.length, .agg (B (Kec.eight l.length)).toArray, .slice (some ⟨g8, 0, none⟩) 8 8, .tuple #[], .slice A1 l.length cap1, .tuple #[], u26, undef, undef], []⟩ ?_
      refine blk_n ?_
      refine then_n ?_
      refine sy_reg ?_
      refine rg_plain 9 (opsAt (part_kJoin 1959)) [0, 1] (by kernel_rfl) (by kernel_rfl) ?_
      refine ps_p (o_kJoin 1959 0) (iN (i + 1)) (exec_cast (congrArg (Value.int .i64) (wrapN (i + 1) (by omega))) (by kernel_rfl)) ?_
      refine ps_k (o_kJoin 1959 1) (iN (i + 1)) ?_
      refine ps_end ?_
      refine sy_a ⟨#[cN kd.toNat, .slice A ls.length cap, undef, undef, pT gr 0, pT p 0, undef, .slice A1 l.length cap1, pT g8 0, cN kd.toNat, .slice (some ⟨gx, 0, none⟩) 1 1, .tuple #[], .slice A ls.length cap, iN ls.length, iN (i + 1), .bool true, pT b (o + i), .slice A1 l.length cap1, .slice A1 l.length cap1, iN l.length, uN l.length, .agg (B (Kec.eight l.length)).toArray, .slice (some ⟨g8, 0, none⟩) 8 8, .tuple #[], .slice A1 l.length cap1, .tuple #[], iN (i + 1), undef, undef], []⟩ ?_
      refine then_n ?_
      refine ⟨⟨i + 1, (.slice A1 l.length cap1), (pT g8 0), (.bool true), (pT b (o + i)), (.slice A1 l.length cap1), (.slice A1 l.length cap1), (iN l.length), (uN l.length), (.agg (B (Kec.eight l.length)).toArray), (.slice (some ⟨g8, 0, none⟩) 8 8), (.tuple #[]), (.slice A1 l.length cap1), (.tuple #[]), (iN (i + 1)), by kernel_rfl, by omega, h65, h66, sp_step hl h63, K68⟩, ?_⟩
      exact lt_meas (x := ls.length - (i + 1)) (y := ls.length - i) (by kernel_rfl) (by kernel_rfl) (by omega)
    · have eq_i : i = ls.length := by omega
      have htl := tot_le ls i
      have hjl : (kd :: jn ls i).length = 1 + 8 * i + tot ls i := by rw [List.length_cons, jn_len ls i (by omega)]; omega
      refine sy_sq (part_kJoin 488) (part_kJoin 489) ?_
      refine sy_reg ?_
      refine rg_plain 4 (opsAt (part_kJoin 488)) [0] (by kernel_rfl) (by kernel_rfl) ?_
      refine ps_p (o_kJoin 488 0) (.bool false) (exec_cast (congrArg Value.bool (show (decide ((((i : Nat) : Int)) < (((ls.length : Nat) : Int)))) = false from by simp only [decide_eq_false_iff_not]; omega)) (by kernel_rfl)) ?_
      refine ps_end ?_
      refine sy_a ⟨#[cN kd.toNat, .slice A ls.length cap, undef, undef, pT gr 0, pT p 0, undef, u7, u8, cN kd.toNat, .slice (some ⟨gx, 0, none⟩) 1 1, .tuple #[], .slice A ls.length cap, iN ls.length, iN i, .bool false, u16, u17, u18, u19, u20, u21, u22, u23, u24, u25, u26, undef, undef], []⟩ ?_
      refine then_n ?_
      refine sy_sq (part_kJoin 978) (part_kJoin 979) ?_
      refine sy_n (.tmp 15) (part_kJoin 1956) (part_kJoin 1957) ?_
      refine sy_exit 0 (by kernel_rfl) ?_
      refine then_e ?_
      refine then_e ?_
      refine blk_e ?_
      refine then_n ?_
      refine sy_sq (part_kJoin 62) (part_kJoin 63) ?_
      refine sy_reg ?_
      refine rg_plain 10 (opsAt (part_kJoin 62)) [0, 1, 2] (by kernel_rfl) (by kernel_rfl) ?_
      refine ps_p (o_kJoin 62 0) (.agg (Sp (Kec.stateOf (kd :: jn ls i)) (blkOf (kd :: jn ls i)) ((kd :: jn ls i).length % 136) ((kd :: jn ls i).length))) (exec_load_row 64 (.tmp 5) (by kernel_rfl) p (by kernel_rfl) _ _ (0, 0) _ (h33) Try.underlying64 rfl (by rw [Sp_size _ _ _ _ (Kec.len_stateOf _) (blkOf_len _)]; kernel_rfl)) ?_
      refine ps_call (o_kJoin 62 1) 35 #[.agg (Sp (Kec.stateOf (kd :: jn ls i)) (blkOf (kd :: jn ls i)) ((kd :: jn ls i).length % 136) ((kd :: jn ls i).length))] (by kernel_rfl) (by kernel_rfl) (by kernel_rfl) (by kernel_rfl) (enters_of Try.func35 (by kernel_rfl) rfl) ((ksum_join kd ls i eq_i _).mono ?_)
      rintro e V69 ⟨rfl, kV69⟩
      refine ⟨_, rfl, ?_⟩
      have h70 : ListsAt V69 (.slice A ls.length cap) us ls := h31.keepsN kV69
      have h71 : V69.heap[gr]? = some (.cells (zr_u8_32) 29 (0, 0)) := (kV69.block gr (lt_of_block h32) (fun x => x)).trans h32
      have h72 : V69.heap[p]? = some (.cells (Sp (Kec.stateOf (kd :: jn ls i)) (blkOf (kd :: jn ls i)) ((kd :: jn ls i).length % 136) ((kd :: jn ls i).length)) 64 (0, 0)) := (kV69.block p (lt_of_block h33) (fun x => x)).trans h33
      have K73 : Keeps Nob w V69 := K34.then kV69 (fun _ _ x => x.elim)
      obtain ⟨V74, eV74⟩ : ∃ V, V69.setRow gr ((B (Kec.join kd ls)).toArray) = V := ⟨_, rfl⟩
      have kV74 : Keeps (One gr) V69 V74 := eV74 ▸ (Keeps.refl (One gr) _).setRow (fun _ => (rfl : Own.One gr gr)) _
      have h75 : V74.heap[gr]? = some (.cells ((B (Kec.join kd ls)).toArray) 29 (0, 0)) := eV74 ▸ setRow_heap _ _ _ _ _ _ h71
      refine ps_skip (o_kJoin 62 2) (w' := V74) (by kernel_rfl) (by kernel_rfl) (by rw [← eV74]; exact exec_store_row 29 (.tmp 4) (.tmp 28) (by kernel_rfl) gr ((B (Kec.join kd ls)).toArray) (by kernel_rfl) (by kernel_rfl) 29 (zr_u8_32) h71 (by rw [Bz_size, join_len]; kernel_rfl) (by rw [Bz_size, join_len]; rfl) (by rw [List.all_toArray]; exact List.all_eq_true.2 (B_one _))) ?_
      clear eV74
      have h76 : ListsAt V74 (.slice A ls.length cap) us ls := ListsAt.keepsB h0 h70 kV74 (fun j hj e => by first | exact e.elim | (unfold Own.One at e; omega) | omega)
      have h77 : V74.heap[p]? = some (.cells (Sp (Kec.stateOf (kd :: jn ls i)) (blkOf (kd :: jn ls i)) ((kd :: jn ls i).length % 136) ((kd :: jn ls i).length)) 64 (0, 0)) := (kV74.block p (lt_of_block h72) (fun e => by unfold Own.One at e; omega)).trans h72
      have K78 : Keeps Nob w V74 := K73.then kV74 (fun i hi hm => absurd hi (by unfold Own.One at hm; omega))
      refine ps_end ?_
      refine sy_a ⟨#[cN kd.toNat, .slice A ls.length cap, undef, undef, pT gr 0, pT p 0, undef, u7, u8, cN kd.toNat, .slice (some ⟨gx, 0, none⟩) 1 1, .tuple #[], .slice A ls.length cap, iN ls.length, iN i, .bool false, u16, u17, u18, u19, u20, u21, u22, u23, u24, u25, u26, .agg (Sp (Kec.stateOf (kd :: jn ls i)) (blkOf (kd :: jn ls i)) ((kd :: jn ls i).length % 136) ((kd :: jn ls i).length)), .agg (B (Kec.join kd ls)).toArray], []⟩ ?_
      refine then_n ?_
      refine sy_ret (by kernel_rfl) ?_
      refine sy_out (.agg ((B (Kec.join kd ls)).toArray)) rfl (results_cell_row (p := 4) (ty := 29) (by kernel_rfl) _ _ gr 29 ((B (Kec.join kd ls)).toArray) (0, 0) _ (by kernel_rfl) h75 Try.underlying29 rfl (by rw [Bz_size, join_len]; kernel_rfl)) ?_
      exact ⟨rfl, K78⟩
noncomputable def part_hJoin (n : Nat) : Code := partOf Try.f26 n
noncomputable abbrev o_hJoin (n k : Nat) : Oper := (opsAt (part_hJoin n)).getD k default
set_option maxRecDepth 100000 in
set_option maxHeartbeats 4000000 in
theorem hJoin_ok (kd : UInt8) (A : Option Addr) (cap : Nat) (us : List Value) (ls : List (List UInt8)) (w : World) (h0 : ListsAt w (.slice A ls.length cap) us ls) (hT : tall ls ≤ 10000) (hn : ls.length ≤ 10000) :
    Calls Try.prog 26 #[.int .u8 ((kd.toNat : Nat) : Int), .slice A ls.length cap] w (fun e w' => e = .returned (.agg (B (Kec.join kd ls)).toArray) ∧ Keeps Nob w w') := by
  obtain ⟨i0, hi0, hz0, hz1, hz2⟩ := info_parts u8_info
  have hW : Kec.W = 18446744073709551616 := rfl
  have K0 : Keeps Nob w w := Keeps.refl _ _
  refine sy_enter (part_hJoin 1) ⟨#[cN kd.toNat, .slice A ls.length cap, undef, undef, undef, undef, undef, undef, undef, undef, undef, undef, undef, undef, undef, undef, undef, undef, undef, undef, undef, undef, undef, undef, undef, undef, undef, undef, undef, undef, undef], []⟩ Try.func26 (by kernel_rfl) (by kernel_rfl) ?_
  refine sy_sq (part_hJoin 2) (part_hJoin 3) ?_
  refine sy_reg ?_
  refine rg_plain 0 (opsAt (part_hJoin 2)) [0] (by kernel_rfl) (by kernel_rfl) ?_
  obtain ⟨V1, eV1⟩ : ∃ V, w.alloc (.cells (zr_u8_32) 29) = V := ⟨_, rfl⟩
  obtain ⟨gr, egr⟩ : ∃ g, w.heap.size = g := ⟨_, rfl⟩
  have n3 : w.heap.size ≤ gr := egr ▸ K0.size
  have h2 : V1.heap[gr]? = some (.cells (zr_u8_32) 29 (0, 0)) := by rw [← eV1, ← egr]; exact heap_alloc_new _ _
  have kV1 : Keeps Nob w V1 := eV1 ▸ (Keeps.refl _ _).alloc _
  refine ps_run (o_hJoin 2 0) (pT gr 0) (w' := V1) (by kernel_rfl) (by kernel_rfl) (by rw [← eV1, ← egr]; exact exec_alloc0 29 (by kernel_rfl) (.agg (zr_u8_32)) (by kernel_rfl)) ?_
  clear eV1
  have h4 : ListsAt V1 (.slice A ls.length cap) us ls := h0.keepsN kV1
  have K5 : Keeps Nob w V1 := K0.then kV1 (fun _ _ x => x.elim)
  refine ps_end ?_
  refine sy_a ⟨#[cN kd.toNat, .slice A ls.length cap, undef, undef, pT gr 0, undef, undef, undef, undef, undef, undef, undef, undef, undef, undef, undef, undef, undef, undef, undef, undef, undef, undef, undef, undef, undef, undef, undef, undef, undef, undef], []⟩ ?_
  refine then_n ?_
  refine sy_sq (part_hJoin 6) (part_hJoin 7) ?_
  refine sy_reg ?_
  refine rg_plain 1 (opsAt (part_hJoin 6)) [0, 1, 2] (by kernel_rfl) (by kernel_rfl) ?_
  refine ps_k (o_hJoin 6 0) (cN kd.toNat) ?_
  obtain ⟨V6, eV6⟩ : ∃ V, V1.alloc (.cells (#[.int .u8 ((kd.toNat : Nat) : Int)]) 5) = V := ⟨_, rfl⟩
  obtain ⟨gx, egx⟩ : ∃ g, V1.heap.size = g := ⟨_, rfl⟩
  have n8 : gr < gx := egx ▸ lt_of_block h2
  have n9 : w.heap.size ≤ gx := egx ▸ K5.size
  have h7 : V6.heap[gx]? = some (.cells (#[.int .u8 ((kd.toNat : Nat) : Int)]) 5 (0, 0)) := by rw [← eV6, ← egx]; exact heap_alloc_new _ _
  have kV6 : Keeps Nob V1 V6 := eV6 ▸ (Keeps.refl _ _).alloc _
  refine ps_run (o_hJoin 6 1) (.slice (some ⟨gx, 0, none⟩) 1 1) (w' := V6) (by kernel_rfl) (by kernel_rfl) (by rw [← eV6, ← egx]; kernel_rfl) ?_
  have h10 : ListsAt V6 (.slice A ls.length cap) us ls := h4.keepsN kV6
  have h11 : V6.heap[gr]? = some (.cells (zr_u8_32) 29 (0, 0)) := (kV6.block gr (lt_of_block h2) (fun x => x)).trans h2
  have K12 : Keeps Nob w V6 := K5.then kV6 (fun _ _ x => x.elim)
  refine ps_k (o_hJoin 6 2) (.slice (some ⟨gx, 0, none⟩) 1 1) ?_
  refine ps_end ?_
  refine sy_a ⟨#[cN kd.toNat, .slice A ls.length cap, undef, undef, pT gr 0, .slice (some ⟨gx, 0, none⟩) 1 1, undef, cN kd.toNat, .slice (some ⟨gx, 0, none⟩) 1 1, undef, undef, undef, undef, undef, undef, undef, undef, undef, undef, undef, undef, undef, undef, undef, undef, undef, undef, undef, undef, undef, undef], []⟩ ?_
  refine then_n ?_
  refine sy_sq (part_hJoin 14) (part_hJoin 15) ?_
  refine sy_sq (part_hJoin 28) (part_hJoin 29) ?_
  refine sy_reg ?_
  refine rg_plain 2 (opsAt (part_hJoin 28)) [0] (by kernel_rfl) (by kernel_rfl) ?_
  refine ps_k (o_hJoin 28 0) (.int .i64 0) ?_
  refine ps_end ?_
  refine sy_a ⟨#[cN kd.toNat, .slice A ls.length cap, undef, undef, pT gr 0, .slice (some ⟨gx, 0, none⟩) 1 1, .int .i64 0, cN kd.toNat, .slice (some ⟨gx, 0, none⟩) 1 1, undef, undef, undef, undef, undef, undef, undef, undef, undef, undef, undef, undef, undef, undef, undef, undef, undef, undef, undef, undef, undef, undef], []⟩ ?_
  refine then_n ?_
  have h13 : Row V6 5 1 (.slice (some ⟨gx, 0, none⟩) 1 1) 1 (B [kd]) := row_of_block h7 rfl (by decide)
  have hw14 : NewFrom (gr + 1) (.slice (some ⟨gx, 0, none⟩) 1 1) := NewFrom.ptr (by omega) _ _
  refine sy_bk 0 (part_hJoin 58) ?_
  refine sy_loop (part_hJoin 116) (fun a V => ∃ (i : Nat) (v : Value) (u9 u10 u11 u12 u13 u14 u15 u16 u17 u18 u19 u20 u21 u22 u23 u24 u25 u26 u27 u28 : Value), (a = ⟨#[cN kd.toNat, .slice A ls.length cap, undef, undef, pT gr 0, v, iN i, cN kd.toNat, .slice (some ⟨gx, 0, none⟩) 1 1, u9, u10, u11, u12, u13, u14, u15, u16, u17, u18, u19, u20, u21, u22, u23, u24, u25, u26, u27, u28, undef, undef], []⟩) ∧ (i ≤ ls.length) ∧ (ListsAt V (.slice A ls.length cap) us ls) ∧ (V.heap[gr]? = some (.cells (zr_u8_32) 29 (0, 0))) ∧ (Row V 5 1 v ((kd :: jn ls i).length) (B (kd :: jn ls i))) ∧ (Keeps Nob w V) ∧ (NewFrom (gr + 1) v)) (fun a _ => ls.length - (intOf (a.tmps.getD 6 undef)).toNat) (by kernel_rfl) ?_ ?_
  · exact ⟨0, .slice (some ⟨gx, 0, none⟩) 1 1, undef, undef, undef, undef, undef, undef, undef, undef, undef, undef, undef, undef, undef, undef, undef, undef, undef, undef, undef, undef, by kernel_rfl, by omega, h10, h11, h13, K12, hw14⟩
  · rintro a V15 ⟨i, v, u9, u10, u11, u12, u13, u14, u15, u16, u17, u18, u19, u20, u21, u22, u23, u24, u25, u26, u27, u28, rfl, hi, h16, h17, h18, K19, hnw⟩
    by_cases lt_i : i < ls.length
    · obtain ⟨u, l, b, o, c, hu, hl, hv⟩ := h0.open_ i lt_i
      obtain ⟨A1, cap1, rfl⟩ := (h0.bytes _ _ _ hu hl).len
      have hll := len_le_tall hl
      have htl := tot_le ls i
      have hjl : (kd :: jn ls i).length = 1 + 8 * i + tot ls i := by rw [List.length_cons, jn_len ls i (by omega)]; omega
      refine sy_sq (part_hJoin 232) (part_hJoin 233) ?_
      refine sy_sq (part_hJoin 464) (part_hJoin 465) ?_
      refine sy_reg ?_
      refine rg_plain 3 (opsAt (part_hJoin 464)) [0, 1, 2, 3] (by kernel_rfl) (by kernel_rfl) ?_
      refine ps_k (o_hJoin 464 0) (iN i) ?_
      refine ps_k (o_hJoin 464 1) (.slice A ls.length cap) ?_
      refine ps_p (o_hJoin 464 2) (iN ls.length) (exec_len (.tmp 10) 38 _ (by kernel_rfl) Try.underlying38 A ls.length cap (by kernel_rfl)) ?_
      refine ps_p (o_hJoin 464 3) (.bool true) (exec_cast (congrArg Value.bool (show (decide ((((i : Nat) : Int)) < (((ls.length : Nat) : Int)))) = true from by simp only [decide_eq_true_eq]; omega)) (by kernel_rfl)) ?_
      refine ps_end ?_
      refine sy_a ⟨#[cN kd.toNat, .slice A ls.length cap, undef, undef, pT gr 0, v, iN i, cN kd.toNat, .slice (some ⟨gx, 0, none⟩) 1 1, iN i, .slice A ls.length cap, iN ls.length, .bool true, u13, u14, u15, u16, u17, u18, u19, u20, u21, u22, u23, u24, u25, u26, u27, u28, undef, undef], []⟩ ?_
      refine then_n ?_
      refine sy_ys (.tmp 12) (part_hJoin 930) (part_hJoin 931) ?_
      refine sy_sk ?_
      refine then_n ?_
      refine sy_sq (part_hJoin 466) (part_hJoin 467) ?_
      refine sy_bk 1 (part_hJoin 932) ?_
      refine sy_np ?_
      refine sy_reg ?_
      refine an_begin 5 15 (opsAt (part_hJoin 932)) (fun W => (ListsAt W (.slice A ls.length cap) us ls)) #[false, false, false, false, false, false, false, false, false, false, false, false, false, false, false] (by kernel_rfl) (by kernel_rfl) (by kernel_rfl) (by kernel_rfl) ?_
      obtain ⟨V20, eV20⟩ : ∃ V, V15.drew = V := ⟨_, rfl⟩
      have kV20 : Keeps Nob V15 V20 := eV20 ▸ (Keeps.refl _ _).drew
      rw [eV20]
      clear eV20
      have h21 : ListsAt V20 (.slice A ls.length cap) us ls := h16.keepsN kV20
      have h22 : V20.heap[gr]? = some (.cells (zr_u8_32) 29 (0, 0)) := (kV20.block gr (lt_of_block h17) (fun x => x)).trans h17
      have h23 : Row V20 5 1 v ((kd :: jn ls i).length) (B (kd :: jn ls i)) := h18.keeps kV20 (fun _ _ x => x)
      have K24 : Keeps Nob w V20 := K19.then kV20 (fun _ _ x => x.elim)
      refine an_val 0 (o_hJoin 932 0) (v) (by kernel_rfl) (by kernel_rfl) (by kernel_rfl) (by kernel_rfl) (by kernel_rfl) (fun W hS => by kernel_rfl) h21 ?_
      refine an_val 1 (o_hJoin 932 1) (.slice A ls.length cap) (by kernel_rfl) (by kernel_rfl) (by kernel_rfl) (by kernel_rfl) (by kernel_rfl) (fun W hS => by kernel_rfl) h21 ?_
      refine an_val 2 (o_hJoin 932 2) (iN i) (by kernel_rfl) (by kernel_rfl) (by kernel_rfl) (by kernel_rfl) (by kernel_rfl) (fun W hS => by kernel_rfl) h21 ?_
      refine an_val 3 (o_hJoin 932 3) (pT b (o + i)) (by kernel_rfl) (by kernel_rfl) (by kernel_rfl) (by kernel_rfl) (by kernel_rfl) (fun W hS => exec_cast (v := pT b (o + i * 1)) (by simp) (exec_indexAt_slice 38 (.tmp 16) (.tmp 17) (by kernel_rfl) b o ls.length c (Eq.trans (b := .slice A ls.length cap) (by kernel_rfl) hv) .i64 i (by kernel_rfl) _ 1 Try.underlying38 (by kernel_rfl) (by omega))) h21 ?_
      refine an_val 4 (o_hJoin 932 4) (.slice A1 l.length cap1) (by kernel_rfl) (by kernel_rfl) (by kernel_rfl) (by kernel_rfl) (by kernel_rfl) (fun W hS => exec_load_cell 22 (.tmp 18) (by kernel_rfl) ⟨b, o + i, none⟩ (by kernel_rfl) _ _ Try.underlying22 rfl (ListsAt.cell hS hu hv)) h21 ?_
      refine an_val 5 (o_hJoin 932 5) (iN l.length) (by kernel_rfl) (by kernel_rfl) (by kernel_rfl) (by kernel_rfl) (by kernel_rfl) (fun W hS => exec_len (.tmp 19) 22 _ (by kernel_rfl) Try.underlying22 A1 l.length cap1 (by kernel_rfl)) h21 ?_
      refine an_val 6 (o_hJoin 932 6) (uN l.length) (by kernel_rfl) (by kernel_rfl) (by kernel_rfl) (by kernel_rfl) (by kernel_rfl) (fun W hS => exec_cast (congrArg (Value.int .u64) (wrapU l.length (by omega))) (by kernel_rfl)) h21 ?_
      refine an_val 9 (o_hJoin 932 9) (.slice A ls.length cap) (by kernel_rfl) (by kernel_rfl) (by kernel_rfl) (by kernel_rfl) (by kernel_rfl) (fun W hS => by kernel_rfl) h21 ?_
      refine an_val 10 (o_hJoin 932 10) (iN i) (by kernel_rfl) (by kernel_rfl) (by kernel_rfl) (by kernel_rfl) (by kernel_rfl) (fun W hS => by kernel_rfl) h21 ?_
      refine an_val 11 (o_hJoin 932 11) (pT b (o + i)) (by kernel_rfl) (by kernel_rfl) (by kernel_rfl) (by kernel_rfl) (by kernel_rfl) (fun W hS => exec_cast (v := pT b (o + i * 1)) (by simp) (exec_indexAt_slice 38 (.tmp 24) (.tmp 25) (by kernel_rfl) b o ls.length c (Eq.trans (b := .slice A ls.length cap) (by kernel_rfl) hv) .i64 i (by kernel_rfl) _ 1 Try.underlying38 (by kernel_rfl) (by omega))) h21 ?_
      refine an_val 12 (o_hJoin 932 12) (.slice A1 l.length cap1) (by kernel_rfl) (by kernel_rfl) (by kernel_rfl) (by kernel_rfl) (by kernel_rfl) (fun W hS => exec_load_cell 22 (.tmp 26) (by kernel_rfl) ⟨b, o + i, none⟩ (by kernel_rfl) _ _ Try.underlying22 rfl (ListsAt.cell hS hu hv)) h21 ?_
      refine an_one 7 (by kernel_rfl) ?_
      refine on_call (o_hJoin 932 7) 38 #[uN l.length] (by kernel_rfl) (by kernel_rfl) (by kernel_rfl) (by kernel_rfl) (enters_of Try.func38 (by kernel_rfl) rfl) ((hbytes_ok l.length _ (by omega)).mono ?_)
      rintro e V25 ⟨v8, rfl, h26, hnew8, kV25⟩
      refine ⟨_, rfl, ?_⟩
      have h27 : ListsAt V25 (.slice A ls.length cap) us ls := h21.keepsN kV25
      have h28 : V25.heap[gr]? = some (.cells (zr_u8_32) 29 (0, 0)) := (kV25.block gr (lt_of_block h22) (fun x => x)).trans h22
      have h29 : Row V25 5 1 v ((kd :: jn ls i).length) (B (kd :: jn ls i)) := h23.keeps kV25 (fun _ _ x => x)
      have K30 : Keeps Nob w V25 := K24.then kV25 (fun _ _ x => x.elim)
      refine ⟨h27, ?_⟩
      refine an_one 8 (by kernel_rfl) ?_
      obtain ⟨v31, V32, hr33, h34, hg35, hn36, ha37⟩ := run_append_any (P := Try.prog) (w := V25) 22 (Oper.type (o_hJoin 932 8)) 5 i0 (.int .u8 0) 1 1 Try.underlying22 hi0 hz0 hz1 hz2 rfl (by decide) v ((kd :: jn ls i).length) (B (kd :: jn ls i)) h29 v8 8 (B (Kec.eight l.length)) (Row.src h26 (B_one _)) (by unfold maxLen; omega) (by omega)
      have kV32 : Keeps (fun j => v.ownBlock = some j) V25 V32 := Keeps.rowAdd hg35
      have hw38 : NewFrom (gr + 1) v31 := hnw.next (lt_of_block h28) ha37
      refine on_run (o_hJoin 932 8) v31 (w' := V32) (by kernel_rfl) (by kernel_rfl) (exec_append (.tmp 15) (.tmp 22) 22 (by kernel_rfl) v v8 (by kernel_rfl) (by kernel_rfl) hr33) ?_
      have h39 : Row V32 5 1 v31 ((kd :: jn ls i).length + 8) (B (kd :: jn ls i) ++ B (Kec.eight l.length)) := h34
      have h40 : ListsAt V32 (.slice A ls.length cap) us ls := ListsAt.keepsB h0 h27 kV32 (fun j hj e => by have := hnw j e; omega)
      have h41 : V32.heap[gr]? = some (.cells (zr_u8_32) 29 (0, 0)) := (kV32.block gr (lt_of_block h28) (fun e => by have := hnw _ e; omega)).trans h28
      have K42 : Keeps Nob w V32 := K30.then kV32 (fun i hi hm => absurd hi (by have := hnw i hm; omega))
      refine ⟨h40, ?_⟩
      refine an_one 13 (by kernel_rfl) ?_
      obtain ⟨v43, V44, hr45, h46, hg47, hn48, ha49⟩ := run_append_any (P := Try.prog) (w := V32) 22 (Oper.type (o_hJoin 932 13)) 5 i0 (.int .u8 0) 1 1 Try.underlying22 hi0 hz0 hz1 hz2 rfl (by decide) v31 ((kd :: jn ls i).length + 8) (B (kd :: jn ls i) ++ B (Kec.eight l.length)) h39 (.slice A1 l.length cap1) l.length (B l) ((ListsAt.bytes h40 _ _ _ hu hl).src) (by unfold maxLen; omega) (by omega)
      have kV44 : Keeps (fun j => v31.ownBlock = some j) V32 V44 := Keeps.rowAdd hg47
      have hw50 : NewFrom (gr + 1) v43 := hw38.next (lt_of_block h41) ha49
      refine on_run (o_hJoin 932 13) v43 (w' := V44) (by kernel_rfl) (by kernel_rfl) (exec_append (.tmp 23) (.tmp 27) 22 (by kernel_rfl) v31 (.slice A1 l.length cap1) (by kernel_rfl) (by kernel_rfl) hr45) ?_
      have h51 : Row V44 5 1 v43 ((kd :: jn ls i).length + 8 + l.length) (B (kd :: jn ls i) ++ B (Kec.eight l.length) ++ B l) := h46
      have h52 : ListsAt V44 (.slice A ls.length cap) us ls := ListsAt.keepsB h0 h40 kV44 (fun j hj e => by have := hw38 j e; omega)
      have h53 : V44.heap[gr]? = some (.cells (zr_u8_32) 29 (0, 0)) := (kV44.block gr (lt_of_block h41) (fun e => by have := hw38 _ e; omega)).trans h41
      have K54 : Keeps Nob w V44 := K42.then kV44 (fun i hi hm => absurd hi (by have := hw38 i hm; omega))
      refine ⟨h52, ?_⟩
      refine an_one 14 (by kernel_rfl) ?_
      refine on_run (o_hJoin 932 14) (v43) (w' := V44) (by kernel_rfl) (by kernel_rfl) (by kernel_rfl) ?_
      refine ⟨h52, ?_⟩
      refine an_end (by kernel_rfl) ?_
      refine sy_a ⟨#[cN kd.toNat, .slice A ls.length cap, undef, undef, pT gr 0, v43, iN i, cN kd.toNat, .slice (some ⟨gx, 0, none⟩) 1 1, iN i, .slice A ls.length cap, iN ls.length, .bool true, u13, u14, v, .slice A ls.length cap, iN i, pT b (o + i), .slice A1 l.length cap1, iN l.length, uN l.length, v8, v31, .slice A ls.length cap, iN i, pT b (o + i), .slice A1 l.length cap1, v43, undef, undef], []⟩ ?_
      refine blk_n ?_
      refine then_n ?_
      refine sy_reg ?_
      refine rg_plain 4 (opsAt (part_hJoin 467)) [0, 1, 2] (by kernel_rfl) (by kernel_rfl) ?_
      refine ps_k (o_hJoin 467 0) (iN i) ?_
      refine ps_p (o_hJoin 467 1) (iN (i + 1)) (exec_cast (congrArg (Value.int .i64) (wrapN (i + 1) (by omega))) (by kernel_rfl)) ?_
      refine ps_k (o_hJoin 467 2) (iN (i + 1)) ?_
      refine ps_end ?_
      refine sy_a ⟨#[cN kd.toNat, .slice A ls.length cap, undef, undef, pT gr 0, v43, iN (i + 1), cN kd.toNat, .slice (some ⟨gx, 0, none⟩) 1 1, iN i, .slice A ls.length cap, iN ls.length, .bool true, iN i, iN (i + 1), v, .slice A ls.length cap, iN i, pT b (o + i), .slice A1 l.length cap1, iN l.length, uN l.length, v8, v31, .slice A ls.length cap, iN i, pT b (o + i), .slice A1 l.length cap1, v43, undef, undef], []⟩ ?_
      refine then_n ?_
      refine ⟨⟨i + 1, v43, (iN i), (.slice A ls.length cap), (iN ls.length), (.bool true), (iN i), (iN (i + 1)), v, (.slice A ls.length cap), (iN i), (pT b (o + i)), (.slice A1 l.length cap1), (iN l.length), (uN l.length), v8, v31, (.slice A ls.length cap), (iN i), (pT b (o + i)), (.slice A1 l.length cap1), v43, by kernel_rfl, by omega, h52, h53, row_step hl h51, K54, hw50⟩, ?_⟩
      exact lt_meas (x := ls.length - (i + 1)) (y := ls.length - i) (by kernel_rfl) (by kernel_rfl) (by omega)
    · have eq_i : i = ls.length := by omega
      have htl := tot_le ls i
      have hjl : (kd :: jn ls i).length = 1 + 8 * i + tot ls i := by rw [List.length_cons, jn_len ls i (by omega)]; omega
      refine sy_sq (part_hJoin 232) (part_hJoin 233) ?_
      refine sy_sq (part_hJoin 464) (part_hJoin 465) ?_
      refine sy_reg ?_
      refine rg_plain 3 (opsAt (part_hJoin 464)) [0, 1, 2, 3] (by kernel_rfl) (by kernel_rfl) ?_
      refine ps_k (o_hJoin 464 0) (iN i) ?_
      refine ps_k (o_hJoin 464 1) (.slice A ls.length cap) ?_
      refine ps_p (o_hJoin 464 2) (iN ls.length) (exec_len (.tmp 10) 38 _ (by kernel_rfl) Try.underlying38 A ls.length cap (by kernel_rfl)) ?_
      refine ps_p (o_hJoin 464 3) (.bool false) (exec_cast (congrArg Value.bool (show (decide ((((i : Nat) : Int)) < (((ls.length : Nat) : Int)))) = false from by simp only [decide_eq_false_iff_not]; omega)) (by kernel_rfl)) ?_
      refine ps_end ?_
      refine sy_a ⟨#[cN kd.toNat, .slice A ls.length cap, undef, undef, pT gr 0, v, iN i, cN kd.toNat, .slice (some ⟨gx, 0, none⟩) 1 1, iN i, .slice A ls.length cap, iN ls.length, .bool false, u13, u14, u15, u16, u17, u18, u19, u20, u21, u22, u23, u24, u25, u26, u27, u28, undef, undef], []⟩ ?_
      refine then_n ?_
      refine sy_n (.tmp 12) (part_hJoin 930) (part_hJoin 931) ?_
      refine sy_exit 0 (by kernel_rfl) ?_
      refine then_e ?_
      refine then_e ?_
      refine blk_e ?_
      refine then_n ?_
      refine sy_sq (part_hJoin 30) (part_hJoin 31) ?_
      refine sy_reg ?_
      refine rg_plain 6 (opsAt (part_hJoin 30)) [0, 1, 2] (by kernel_rfl) (by kernel_rfl) ?_
      refine ps_k (o_hJoin 30 0) (v) ?_
      refine ps_call (o_hJoin 30 1) 20 #[v] (by kernel_rfl) (by kernel_rfl) (by kernel_rfl) (by kernel_rfl) (enters_of Try.func20 (by kernel_rfl) rfl) ((hSum_join kd ls i eq_i _ _ h18 (by omega)).mono ?_)
      rintro e V55 ⟨rfl, kV55⟩
      refine ⟨_, rfl, ?_⟩
      have h56 : ListsAt V55 (.slice A ls.length cap) us ls := h16.keepsN kV55
      have h57 : V55.heap[gr]? = some (.cells (zr_u8_32) 29 (0, 0)) := (kV55.block gr (lt_of_block h17) (fun x => x)).trans h17
      have h58 : Row V55 5 1 v ((kd :: jn ls i).length) (B (kd :: jn ls i)) := h18.keeps kV55 (fun _ _ x => x)
      have K59 : Keeps Nob w V55 := K19.then kV55 (fun _ _ x => x.elim)
      obtain ⟨V60, eV60⟩ : ∃ V, V55.setRow gr ((B (Kec.join kd ls)).toArray) = V := ⟨_, rfl⟩
      have kV60 : Keeps (One gr) V55 V60 := eV60 ▸ (Keeps.refl (One gr) _).setRow (fun _ => (rfl : Own.One gr gr)) _
      have h61 : V60.heap[gr]? = some (.cells ((B (Kec.join kd ls)).toArray) 29 (0, 0)) := eV60 ▸ setRow_heap _ _ _ _ _ _ h57
      refine ps_skip (o_hJoin 30 2) (w' := V60) (by kernel_rfl) (by kernel_rfl) (by rw [← eV60]; exact exec_store_row 29 (.tmp 4) (.tmp 30) (by kernel_rfl) gr ((B (Kec.join kd ls)).toArray) (by kernel_rfl) (by kernel_rfl) 29 (zr_u8_32) h57 (by rw [Bz_size, join_len]; kernel_rfl) (by rw [Bz_size, join_len]; rfl) (by rw [List.all_toArray]; exact List.all_eq_true.2 (B_one _))) ?_
      clear eV60
      have h62 : ListsAt V60 (.slice A ls.length cap) us ls := ListsAt.keepsB h0 h56 kV60 (fun j hj e => by first | exact e.elim | (unfold Own.One at e; omega) | omega)
      have h63 : Row V60 5 1 v ((kd :: jn ls i).length) (B (kd :: jn ls i)) := h58.keeps kV60 (fun j hj e => by have := hnw j hj; first | (unfold Own.One at e; omega) | omega)
      have K64 : Keeps Nob w V60 := K59.then kV60 (fun i hi hm => absurd hi (by unfold Own.One at hm; omega))
      refine ps_end ?_
      refine sy_a ⟨#[cN kd.toNat, .slice A ls.length cap, undef, undef, pT gr 0, v, iN i, cN kd.toNat, .slice (some ⟨gx, 0, none⟩) 1 1, iN i, .slice A ls.length cap, iN ls.length, .bool false, u13, u14, u15, u16, u17, u18, u19, u20, u21, u22, u23, u24, u25, u26, u27, u28, v, .agg (B (Kec.join kd ls)).toArray], []⟩ ?_
      refine then_n ?_
      refine sy_ret (by kernel_rfl) ?_
      refine sy_out (.agg ((B (Kec.join kd ls)).toArray)) rfl (results_cell_row (p := 4) (ty := 29) (by kernel_rfl) _ _ gr 29 ((B (Kec.join kd ls)).toArray) (0, 0) _ (by kernel_rfl) h61 Try.underlying29 rfl (by rw [Bz_size, join_len]; kernel_rfl)) ?_
      exact ⟨rfl, K64⟩
end Go.Proofs.Ytolbdhgclcemlaa
