/-
  Votes: the document's bytes and digests (printed by vote4.py). Conditions: none.
-/
import Derived.Test.YtmapcghgdbfmhaaVoteD
import Derived.Test.YtmapcghgdbfmhaaCodF
namespace Go.Proofs.Ytmapcghgdbfmhaa
open Go Go.RowKit Go.Own Go.Shelf
def In (ns : List Int) : List Value := ns.map fun x => .int .i64 x
theorem In_get {ns : List Int} {i : Nat} {x : Int} (h : ns[i]? = some x) : (In ns).toArray[i]? = some (.int .i64 x) := by simp [In, h]
def nT (ns : List Int) : List Thg := ns.map .n
theorem nT_get {ns : List Int} {i : Nat} {x : Int} (h : ns[i]? = some x) : (nT ns)[i]? = some (.n x) := by simp [nT, h]
theorem wrapNat {x : Int} (h0 : 0 ≤ x) (h1 : x ≤ 9223372036854775807) : IntKind.u64.wrap x = ((x.toNat : Nat) : Int) := by
  have e : x = ((x.toNat : Nat) : Int) := (Int.toNat_of_nonneg h0).symm
  have := wrapU x.toNat (by omega)
  rwa [← e] at this ⊢
theorem allb_app (xs ys : List Thg) : allb (xs ++ ys) = allb xs ++ allb ys := by simp [allb]
theorem att_bare (a : Att) : allb (nT [1, a.v, a.s, a.t]) ++ a.r = a.bare := by simp [Att.bare, attT, nT, allb, Thg.by]
theorem pro_bare (a : Pro) : allb (nT [2, a.v, a.h]) ++ a.r = a.bare := by simp [Pro.bare, proT, nT, allb, Thg.by]
theorem Att.split (a : Att) : a.bytes = a.bare ++ Cod.enc a.g := by simp [Att.bytes, Att.bare, allb, Thg.by]
theorem Pro.split (a : Pro) : a.bytes = a.bare ++ Cod.enc a.g := by simp [Pro.bytes, Pro.bare, allb, Thg.by]

theorem byt_nT (ns : List Int) : byt (nT ns) ns.length = allb (nT ns) := by rw [← byt_all, nT, List.length_map]
theorem nT_len (ns : List Int) (i : Nat) : (byt (nT ns) i).length ≤ (allb (nT ns)).length := byt_le _ _
noncomputable def part_rnumbers (n : Nat) : Code := partOf Try.f114 n
noncomputable abbrev o_rnumbers (n k : Nat) : Oper := (opsAt (part_rnumbers n)).getD k default
set_option maxRecDepth 100000 in
set_option maxHeartbeats 4000000 in
theorem rnumbers_ok (r : List UInt8) (g : Nat) (ns : List Int) (w : World) (h0 : w.heap[g]? = some (.cells (In ns).toArray 3 (0, 0))) (hr : r.length = 32) (hns : ∀ (k : Nat) (x : Int), ns[k]? = some x → 0 ≤ x ∧ x ≤ 9223372036854775807) (hl : (allb (nT ns)).length ≤ 1000) (hmax : ns.length ≤ 1000) :
    Calls Try.prog 114 #[.agg (B r).toArray, .slice (some ⟨g, 0, none⟩) ns.length ns.length] w (fun e w' => ∃ X, e = .returned X ∧ Row w' 5 1 X (allb (nT ns) ++ r).length (B (allb (nT ns) ++ r)) ∧ NewFrom w.heap.size X ∧ Keeps Nob w w') := by
  obtain ⟨i0, hi0, hz0, hz1, hz2⟩ := info_parts u8_info0
  have r0 : Row w 5 1 (.slice none 0 0) (byt (nT ns) 0).length (B (byt (nT ns) 0)) := World.ownsRow_nil _ _ _ _
  have K0 : Keeps Nob w w := Keeps.refl _ _
  refine sy_enter (part_rnumbers 1) ⟨#[.agg (B r).toArray, .slice (some ⟨g, 0, none⟩) ns.length ns.length, undef, undef, undef, undef, undef, undef, undef, undef, undef, undef, undef, undef, undef, undef, undef, undef, undef, undef, undef, undef, undef, undef], []⟩ Try.func114 (by kernel_rfl) (by kernel_rfl) ?_
  refine sy_sq (part_rnumbers 2) (part_rnumbers 3) ?_
  refine sy_reg ?_
  refine rg_plain 0 (opsAt (part_rnumbers 2)) [0, 1] (by kernel_rfl) (by kernel_rfl) ?_
  obtain ⟨V1, eV1, gh, egh, h2, kV1⟩ := alloc_step w ((B r).toArray) 29
  have n3 : w.heap.size ≤ gh := egh ▸ K0.size
  refine ps_r (o_rnumbers 2 0) (pT gh 0) (w' := V1) (by rw [← eV1, ← egh]; exact exec_box 29 (.tmp 0) (by kernel_rfl) (.agg (B r).toArray) (by kernel_rfl)) ?_
  clear eV1
  have h4 : Row V1 5 1 (.slice none 0 0) ((byt (nT ns) 0).length) (B (byt (nT ns) 0)) := r0.keeps kV1 (fun _ _ x => x)
  have K5 := K0.nn kV1
  have z6 := kV1.size
  refine ps_k (o_rnumbers 2 1) (.slice none 0 0) ?_
  refine ps_end ?_
  refine then_n ?_
  refine sy_sq (part_rnumbers 6) (part_rnumbers 7) ?_
  refine sy_reg ?_
  refine rg_plain 1 (opsAt (part_rnumbers 6)) [0] (by kernel_rfl) (by kernel_rfl) ?_
  refine ps_k (o_rnumbers 6 0) (.slice none 0 0) ?_
  refine ps_end ?_
  refine then_n ?_
  refine sy_sq (part_rnumbers 14) (part_rnumbers 15) ?_
  refine sy_sq (part_rnumbers 28) (part_rnumbers 29) ?_
  refine sy_reg ?_
  refine rg_plain 2 (opsAt (part_rnumbers 28)) [0] (by kernel_rfl) (by kernel_rfl) ?_
  refine ps_k (o_rnumbers 28 0) (.int .i64 0) ?_
  refine ps_end ?_
  refine then_n ?_
  refine sy_bk 0 (part_rnumbers 58) ?_
  refine sy_loop (part_rnumbers 116) (fun a V => ∃ (i : Nat) (v : Value) (u7 u8 u9 u10 u11 u12 u13 u14 u15 u16 u17 u18 u19 u20 : Value), (a = ⟨#[.agg (B r).toArray, .slice (some ⟨g, 0, none⟩) ns.length ns.length, pT gh 0, undef, .slice none 0 0, v, iN i, u7, u8, u9, u10, u11, u12, u13, u14, u15, u16, u17, u18, u19, u20, undef, undef, undef], []⟩) ∧ (i ≤ ns.length) ∧ (Row V 5 1 v ((byt (nT ns) i).length) (B (byt (nT ns) i))) ∧ (V.heap[gh]? = some (.cells ((B r).toArray) 29 (0, 0))) ∧ (Keeps Nob w V) ∧ (NewFrom (gh + 1) v)) (fun a _ => ns.length - (intOf (a.tmps.getD 6 undef)).toNat) (by kernel_rfl) ?_ ?_
  · exact ⟨0, .slice none 0 0, undef, undef, undef, undef, undef, undef, undef, undef, undef, undef, undef, undef, undef, undef, by kernel_rfl, by omega, h4, h2, K5, NewFrom.nil _⟩
  · rintro a V7 ⟨i, v, u7, u8, u9, u10, u11, u12, u13, u14, u15, u16, u17, u18, u19, u20, rfl, hi, h8, h9, K10, hnw⟩
    by_cases lt_i : i < ns.length
    · obtain ⟨x, hx⟩ : ∃ x, ns[i]? = some x := ⟨_, List.getElem?_eq_getElem lt_i⟩
      have hx0 := hns i x hx
      have hbl := nT_len ns i
      have hen := Cod.enc_length x.toNat
      refine sy_sq (part_rnumbers 232) (part_rnumbers 233) ?_
      refine sy_sq (part_rnumbers 464) (part_rnumbers 465) ?_
      refine sy_reg ?_
      refine rg_plain 3 (opsAt (part_rnumbers 464)) [0, 1, 2, 3] (by kernel_rfl) (by kernel_rfl) ?_
      refine ps_k (o_rnumbers 464 0) (iN i) ?_
      refine ps_k (o_rnumbers 464 1) (.slice (some ⟨g, 0, none⟩) ns.length ns.length) ?_
      refine ps_p (o_rnumbers 464 2) (iN ns.length) (exec_len (.tmp 8) 162 _ (by kernel_rfl) Try.underlying162 (some ⟨g, 0, none⟩) ns.length ns.length (by kernel_rfl)) ?_
      refine ps_p (o_rnumbers 464 3) (.bool true) (dct ((((i : Nat) : Int)) < (((ns.length : Nat) : Int))) (by omega)) ?_
      refine ps_end ?_
      refine then_n ?_
      refine sy_ys (.tmp 10) (part_rnumbers 930) (part_rnumbers 931) ?_
      refine sy_sk ?_
      refine then_n ?_
      refine sy_sq (part_rnumbers 466) (part_rnumbers 467) ?_
      refine sy_bk 1 (part_rnumbers 932) ?_
      refine sy_reg ?_
      refine rg_plain 5 (opsAt (part_rnumbers 932)) [0, 1, 2, 3, 4, 5, 6, 7, 8] (by kernel_rfl) (by kernel_rfl) ?_
      refine ps_k (o_rnumbers 932 0) (v) ?_
      refine ps_k (o_rnumbers 932 1) (.slice (some ⟨g, 0, none⟩) ns.length ns.length) ?_
      refine ps_k (o_rnumbers 932 2) (iN i) ?_
      refine ps_p (o_rnumbers 932 3) (pT g i) (exec_cast (v := pT g (0 + i * 1)) (by simp) (exec_indexAt_slice 162 (.tmp 14) (.tmp 15) (by kernel_rfl) g 0 ns.length ns.length (by kernel_rfl) .i64 i (by kernel_rfl) _ 1 Try.underlying162 (by kernel_rfl) (by omega))) ?_
      refine ps_p (o_rnumbers 932 4) (.int .i64 x) (exec_ld 3 (.tmp 16) g i Try.underlying3 ((cell_of_row _ _ _ _ _ _ ((K10.block g (lt_of_block h0) (fun x => x)).trans h0)).trans (In_get hx))) ?_
      refine ps_p (o_rnumbers 932 5) (uN x.toNat) (exec_cast (congrArg (Value.int .u64) (wrapNat hx0.1 hx0.2)) (by kernel_rfl)) ?_
      refine ps_c (o_rnumbers 932 6) 73 #[uN x.toNat] Try.func73 ((rPut_ok x.toNat (by omega) _).mono ?_)
      rintro e V11 ⟨v8, rfl, hV11, hn8, hz8, kV11⟩
      refine ⟨_, rfl, ?_⟩
      have h12 : Row V11 5 1 v ((byt (nT ns) i).length) (B (byt (nT ns) i)) := h8.keeps kV11 (fun _ _ x => x)
      have h13 := kV11.bk h9
      have K14 := K10.nn kV11
      have z15 := kV11.size
      obtain ⟨v16, V17, hr18, h19, hg20, hn21, ha22⟩ := run_append_any (P := Try.prog) (w := V11) 22 (Oper.type (o_rnumbers 932 7)) 5 i0 (.int .u8 0) 1 1 Try.underlying22 hi0 hz0 hz1 hz2 rfl (by decide) v ((byt (nT ns) i).length) (B (byt (nT ns) i)) h12 v8 ((Cod.enc x.toNat).length) (B (Cod.enc x.toNat)) (Row.src hV11 (B_one _)) (by unfold maxLen; omega) (by omega)
      have kV17 : Keeps (fun j => v.ownBlock = some j) V11 V17 := Keeps.rowAdd hg20
      have hw23 : NewFrom (gh + 1) v16 := hnw.next (lt_of_block h13) ha22
      refine ps_r (o_rnumbers 932 7) v16 (w' := V17) (exec_append (.tmp 13) (.tmp 19) 22 (by kernel_rfl) v v8 (by kernel_rfl) (by kernel_rfl) hr18) ?_
      have h24 : Row V17 5 1 v16 ((byt (nT ns) (i + 1)).length) (B (byt (nT ns) (i + 1))) := row_cast h19 (byt_succ (nT_get hx)).symm (by rw [byt_succ (nT_get hx), List.length_append]; rfl)
      have h25 : V17.heap[gh]? = some (.cells ((B r).toArray) 29 (0, 0)) := (kV17.block gh (lt_of_block h13) (fun e => by have := hnw _ e; omega)).trans h13
      have K26 : Keeps Nob w V17 := K14.then kV17 (fun i hi hm => absurd hi (by have := hnw i hm; omega))
      have z27 := kV17.size
      refine ps_k (o_rnumbers 932 8) (v16) ?_
      refine ps_end ?_
      refine blk_n ?_
      refine then_n ?_
      refine sy_reg ?_
      refine rg_plain 4 (opsAt (part_rnumbers 467)) [0, 1, 2] (by kernel_rfl) (by kernel_rfl) ?_
      refine ps_k (o_rnumbers 467 0) (iN i) ?_
      refine ps_p (o_rnumbers 467 1) (iN (i + 1)) (exec_cast (congrArg (Value.int .i64) (wrapN (i + 1) (by omega))) (by kernel_rfl)) ?_
      refine ps_k (o_rnumbers 467 2) (iN (i + 1)) ?_
      refine ps_end ?_
      refine then_n ?_
      refine ⟨⟨i + 1, v16, (iN i), (.slice (some ⟨g, 0, none⟩) ns.length ns.length), (iN ns.length), (.bool true), (iN i), (iN (i + 1)), v, (.slice (some ⟨g, 0, none⟩) ns.length ns.length), (iN i), (pT g i), (.int .i64 x), (uN x.toNat), v8, v16, by kernel_rfl, by omega, h24, h25, K26, hw23⟩, ?_⟩
      exact lt_meas (x := ns.length - (i + 1)) (y := ns.length - i) (by kernel_rfl) (by kernel_rfl) (by omega)
    · have eq_i : i = ns.length := by omega
      have hbl := nT_len ns i
      refine sy_sq (part_rnumbers 232) (part_rnumbers 233) ?_
      refine sy_sq (part_rnumbers 464) (part_rnumbers 465) ?_
      refine sy_reg ?_
      refine rg_plain 3 (opsAt (part_rnumbers 464)) [0, 1, 2, 3] (by kernel_rfl) (by kernel_rfl) ?_
      refine ps_k (o_rnumbers 464 0) (iN i) ?_
      refine ps_k (o_rnumbers 464 1) (.slice (some ⟨g, 0, none⟩) ns.length ns.length) ?_
      refine ps_p (o_rnumbers 464 2) (iN ns.length) (exec_len (.tmp 8) 162 _ (by kernel_rfl) Try.underlying162 (some ⟨g, 0, none⟩) ns.length ns.length (by kernel_rfl)) ?_
      refine ps_p (o_rnumbers 464 3) (.bool false) (dcf ((((i : Nat) : Int)) < (((ns.length : Nat) : Int))) (by omega)) ?_
      refine ps_end ?_
      refine then_n ?_
      refine sy_n (.tmp 10) (part_rnumbers 930) (part_rnumbers 931) ?_
      refine sy_exit 0 (by kernel_rfl) ?_
      refine then_e ?_
      refine then_e ?_
      refine blk_e ?_
      refine then_n ?_
      refine sy_sq (part_rnumbers 30) (part_rnumbers 31) ?_
      refine sy_reg ?_
      refine rg_plain 6 (opsAt (part_rnumbers 30)) [0, 1, 2, 3] (by kernel_rfl) (by kernel_rfl) ?_
      refine ps_k (o_rnumbers 30 0) (v) ?_
      refine ps_p (o_rnumbers 30 1) (.slice (some ⟨gh, 0, none⟩) 32 32) (exec_slice_all 29 (.tmp 2) (by kernel_rfl) gh 0 (by kernel_rfl) 32 5 Try.underlying29 (by kernel_rfl)) ?_
      obtain ⟨v28, V29, hr30, h31, hg32, hn33, ha34⟩ := run_append_any (P := Try.prog) (w := V7) 22 (Oper.type (o_rnumbers 30 2)) 5 i0 (.int .u8 0) 1 1 Try.underlying22 hi0 hz0 hz1 hz2 rfl (by decide) v ((byt (nT ns) i).length) (B (byt (nT ns) i)) h8 (.slice (some ⟨gh, 0, none⟩) 32 32) 32 (B r) (src_block h9 1 32 (by simp [B_length, hr]) (by simpa using List.all_eq_true.2 (B_one r))) (by unfold maxLen; omega) (by omega)
      have kV29 : Keeps (fun j => v.ownBlock = some j) V7 V29 := Keeps.rowAdd hg32
      have hw35 : NewFrom (gh + 1) v28 := hnw.next (lt_of_block h9) ha34
      refine ps_r (o_rnumbers 30 2) v28 (w' := V29) (exec_append (.tmp 21) (.tmp 22) 22 (by kernel_rfl) v (.slice (some ⟨gh, 0, none⟩) 32 32) (by kernel_rfl) (by kernel_rfl) hr30) ?_
      have h36 : Row V29 5 1 v28 ((allb (nT ns) ++ r).length) (B (allb (nT ns) ++ r)) := row_cast h31 (by rw [eq_i, byt_nT]) (by rw [eq_i, byt_nT, List.length_append, hr])
      have h37 : V29.heap[gh]? = some (.cells ((B r).toArray) 29 (0, 0)) := (kV29.block gh (lt_of_block h9) (fun e => by have := hnw _ e; omega)).trans h9
      have K38 : Keeps Nob w V29 := K10.then kV29 (fun i hi hm => absurd hi (by have := hnw i hm; omega))
      have z39 := kV29.size
      refine ps_k (o_rnumbers 30 3) (v28) ?_
      refine ps_end ?_
      refine then_n ?_
      refine sy_ret (by kernel_rfl) ?_
      refine sy_out (v28) rfl (by kernel_rfl) ?_
      exact ⟨_, rfl, h36, fun j hj => by have := hw35 j hj; omega, K38⟩
theorem numbers_Att (a : Att) {g : Nat} (w : World) (h0 : w.heap[g]? = some (.cells (In [1, a.v, a.s, a.t]).toArray 3 (0, 0))) (ha : a.Ok) (hf : a.fine) : Calls Try.prog 114 #[.agg (B a.r).toArray, .slice (some ⟨g, 0, none⟩) 4 4] w fun e w' => ∃ X, e = .returned X ∧ Row w' 5 1 X a.bare.length (B a.bare) ∧ NewFrom w.heap.size X ∧ Keeps Nob w w' := by
  have hl := (att_len ha.r).2
  rw [← att_bare, List.length_append, ha.r] at hl
  have := rnumbers_ok a.r g [1, a.v, a.s, a.t] w h0 ha.r (fun k x hx => att_okT ha hf k (.n x) (by match k, hx with | 0, hx => cases hx; rfl | 1, hx => cases hx; rfl | 2, hx => cases hx; rfl | 3, hx => cases hx; rfl | k + 4, hx => cases hx)) (by omega) (by simp)
  rwa [att_bare] at this
noncomputable def part_rbare (n : Nat) : Code := partOf Try.f102 n
noncomputable abbrev o_rbare (n k : Nat) : Oper := (opsAt (part_rbare n)).getD k default
set_option maxRecDepth 100000 in
set_option maxHeartbeats 4000000 in
theorem rbare_ok (a : Att) (w : World) (ha : a.Ok) (hf : a.fine) :
    Calls Try.prog 102 #[.agg (Att.c a)] w (fun e w' => ∃ X, e = .returned X ∧ Row w' 5 1 X a.bare.length (B a.bare) ∧ NewFrom w.heap.size X ∧ Keeps Nob w w') := by
  have hr := ha.r
  have K0 : Keeps Nob w w := Keeps.refl _ _
  refine sy_enter (part_rbare 1) ⟨#[.agg (Att.c a), undef, undef, undef, undef, undef, undef, undef, undef, undef, undef, undef, undef], []⟩ Try.func102 (by kernel_rfl) (by kernel_rfl) ?_
  refine sy_sq (part_rbare 2) (part_rbare 3) ?_
  refine sy_reg ?_
  refine rg_plain 0 (opsAt (part_rbare 2)) [0, 1] (by kernel_rfl) (by kernel_rfl) ?_
  obtain ⟨V1, eV1, ga, ega, h2, kV1⟩ := alloc_step w ((Att.c a)) 31
  have n3 : w.heap.size ≤ ga := ega ▸ K0.size
  refine ps_r (o_rbare 2 0) (pT ga 0) (w' := V1) (by rw [← eV1, ← ega]; exact exec_box 31 (.tmp 0) (by kernel_rfl) (.agg (Att.c a)) (by kernel_rfl)) ?_
  clear eV1
  have K4 := K0.nn kV1
  have z5 := kV1.size
  refine ps_k (o_rbare 2 1) (.slice none 0 0) ?_
  refine ps_end ?_
  refine then_n ?_
  refine sy_sq (part_rbare 6) (part_rbare 7) ?_
  refine sy_reg ?_
  refine rg_plain 1 (opsAt (part_rbare 6)) [0, 1, 2, 3, 4, 5, 6, 7, 8, 9, 10] (by kernel_rfl) (by kernel_rfl) ?_
  refine ps_k (o_rbare 6 0) (pT ga 3) ?_
  refine ps_p (o_rbare 6 1) (.agg (B a.r).toArray) (exec_load_seg 29 (.tmp 3) (by kernel_rfl) ga 3 (by kernel_rfl) (B a.r) _ _ _ h2 (Att.c_seg _) Try.underlying29 rfl (by rw [B_length, hr]; kernel_rfl)) ?_
  refine ps_k (o_rbare 6 2) (pT ga 0) ?_
  refine ps_p (o_rbare 6 3) (.int .i64 a.v) (exec_ld 3 (.tmp 5) ga 0 Try.underlying3 (rc (h2) (Att.c_0 _))) ?_
  refine ps_k (o_rbare 6 4) (pT ga 1) ?_
  refine ps_p (o_rbare 6 5) (.int .i64 a.s) (exec_ld 3 (.tmp 7) ga 1 Try.underlying3 (rc (h2) (Att.c_1 _))) ?_
  refine ps_k (o_rbare 6 6) (pT ga 2) ?_
  refine ps_p (o_rbare 6 7) (.int .i64 a.t) (exec_ld 3 (.tmp 9) ga 2 Try.underlying3 (rc (h2) (Att.c_2 _))) ?_
  obtain ⟨V6, eV6, gl, egl, h7, kV6⟩ := alloc_step V1 (#[.int .i64 1, .int .i64 a.v, .int .i64 a.s, .int .i64 a.t]) 3
  have n8 : ga < gl := egl ▸ lt_of_block h2
  have n9 : w.heap.size ≤ gl := egl ▸ K4.size
  refine ps_r (o_rbare 6 8) (.slice (some ⟨gl, 0, none⟩) 4 4) (w' := V6) (by rw [← eV6, ← egl]; kernel_rfl) ?_
  have h10 := kV6.bk h2
  have K11 := K4.nn kV6
  have z12 := kV6.size
  refine ps_c (o_rbare 6 9) 114 #[.agg (B a.r).toArray, .slice (some ⟨gl, 0, none⟩) 4 4] Try.func114 ((numbers_Att a _ h7 ha hf).mono ?_)
  rintro e V13 ⟨X, rfl, hX, hnX, kV13⟩
  refine ⟨_, rfl, ?_⟩
  have h14 := kV13.bk h10
  have h15 := kV13.bk h7
  have K16 := K11.nn kV13
  have z17 := kV13.size
  refine ps_k (o_rbare 6 10) (X) ?_
  refine ps_end ?_
  refine then_n ?_
  refine sy_ret (by kernel_rfl) ?_
  refine sy_out (X) rfl (by kernel_rfl) ?_
  exact ⟨X, rfl, hX, fun j hj => by have := hnX j hj; omega, K16⟩
theorem rvCheck_is (a : Att) {x : Int} (w : World) (hr : a.r.length = 32) (hx : a.err = x) : Calls Try.prog 101 #[.agg (Att.c a)] w fun e w' => e = .returned (.int .i64 x) ∧ Keeps Nob w w' := by
  subst hx; exact rvCheck_ok a w hr
noncomputable def part_rvBytes (n : Nat) : Code := partOf Try.f74 n
noncomputable abbrev o_rvBytes (n k : Nat) : Oper := (opsAt (part_rvBytes n)).getD k default
set_option maxRecDepth 100000 in
set_option maxHeartbeats 4000000 in
theorem rvBytes_bad (a : Att) (w : World) (ha : a.Ok) (hf : ¬ a.fine) :
    Calls Try.prog 74 #[.agg (Att.c a)] w (fun e w' => e = .returned (.tuple #[.slice none 0 0, .int .i64 3]) ∧ Keeps Nob w w') := by
  have hr := ha.r
  obtain ⟨i0, hi0, hz0, hz1, hz2⟩ := info_parts u8_info0
  have hlen := att_len hr
  have hen := Cod.enc_length a.g
  have K0 : Keeps Nob w w := Keeps.refl _ _
  refine sy_enter (part_rvBytes 1) ⟨#[.agg (Att.c a), undef, undef, undef, undef, undef, undef, undef, undef, undef, undef, undef, undef, undef, undef, undef], []⟩ Try.func74 (by kernel_rfl) (by kernel_rfl) ?_
  refine sy_sq (part_rvBytes 2) (part_rvBytes 3) ?_
  refine sy_reg ?_
  refine rg_plain 0 (opsAt (part_rvBytes 2)) [0, 1, 2] (by kernel_rfl) (by kernel_rfl) ?_
  obtain ⟨V1, eV1, ga, ega, h2, kV1⟩ := alloc_step w ((Att.c a)) 31
  have n3 : w.heap.size ≤ ga := ega ▸ K0.size
  refine ps_r (o_rvBytes 2 0) (pT ga 0) (w' := V1) (by rw [← eV1, ← ega]; exact exec_box 31 (.tmp 0) (by kernel_rfl) (.agg (Att.c a)) (by kernel_rfl)) ?_
  clear eV1
  have K4 := K0.nn kV1
  have z5 := kV1.size
  refine ps_k (o_rvBytes 2 1) (.slice none 0 0) ?_
  refine ps_k (o_rvBytes 2 2) (.int .i64 0) ?_
  refine ps_end ?_
  refine then_n ?_
  refine sy_sq (part_rvBytes 6) (part_rvBytes 7) ?_
  refine sy_sq (part_rvBytes 12) (part_rvBytes 13) ?_
  refine sy_reg ?_
  refine rg_plain 1 (opsAt (part_rvBytes 12)) [0, 1, 2] (by kernel_rfl) (by kernel_rfl) ?_
  refine ps_p (o_rvBytes 12 0) (.agg (Att.c a)) (exec_load_row 31 (.tmp 1) (by kernel_rfl) ga (by kernel_rfl) _ _ (0, 0) _ (h2) Try.underlying31 rfl (by rw [Att.c_size _ hr]; kernel_rfl)) ?_
  refine ps_c (o_rvBytes 12 1) 101 #[.agg (Att.c a)] Try.func101 ((rvCheck_is a _ hr (Att.err_no hf)).mono ?_)
  rintro e V6 ⟨rfl, kV6⟩
  refine ⟨_, rfl, ?_⟩
  have h7 := kV6.bk h2
  have K8 := K4.nn kV6
  have z9 := kV6.size
  refine ps_k (o_rvBytes 12 2) (.int .i64 3) ?_
  refine ps_end ?_
  refine then_n ?_
  refine sy_sq (part_rvBytes 26) (part_rvBytes 27) ?_
  refine sy_reg ?_
  refine rg_plain 2 (opsAt (part_rvBytes 26)) [0, 1] (by kernel_rfl) (by kernel_rfl) ?_
  refine ps_k (o_rvBytes 26 0) (.int .i64 3) ?_
  refine ps_k (o_rvBytes 26 1) (.bool true) ?_
  refine ps_end ?_
  refine then_n ?_
  refine sy_ys (.tmp 8) (part_rvBytes 54) (part_rvBytes 55) ?_
  refine sy_sq (part_rvBytes 108) (part_rvBytes 109) ?_
  refine sy_reg ?_
  refine rg_plain 3 (opsAt (part_rvBytes 108)) [0, 1, 2] (by kernel_rfl) (by kernel_rfl) ?_
  refine ps_k (o_rvBytes 108 0) (.int .i64 3) ?_
  refine ps_k (o_rvBytes 108 1) (.slice none 0 0) ?_
  refine ps_k (o_rvBytes 108 2) (.int .i64 3) ?_
  refine ps_end ?_
  refine then_n ?_
  refine sy_ret (by kernel_rfl) ?_
  refine then_r ?_
  refine sy_out (.tuple #[.slice none 0 0, .int .i64 3]) rfl (by kernel_rfl) ?_
  exact ⟨rfl, K8⟩
set_option maxRecDepth 100000 in
set_option maxHeartbeats 4000000 in
theorem rvBytes_ok (a : Att) (w : World) (ha : a.Ok) (hf : a.fine) :
    Calls Try.prog 74 #[.agg (Att.c a)] w (fun e w' => ∃ X, e = .returned (.tuple #[X, .int .i64 0]) ∧ Row w' 5 1 X a.bytes.length (B a.bytes) ∧ NewFrom w.heap.size X ∧ Keeps Nob w w') := by
  have hr := ha.r
  obtain ⟨i0, hi0, hz0, hz1, hz2⟩ := info_parts u8_info0
  have hlen := att_len hr
  have hen := Cod.enc_length a.g
  have K0 : Keeps Nob w w := Keeps.refl _ _
  refine sy_enter (part_rvBytes 1) ⟨#[.agg (Att.c a), undef, undef, undef, undef, undef, undef, undef, undef, undef, undef, undef, undef, undef, undef, undef], []⟩ Try.func74 (by kernel_rfl) (by kernel_rfl) ?_
  refine sy_sq (part_rvBytes 2) (part_rvBytes 3) ?_
  refine sy_reg ?_
  refine rg_plain 0 (opsAt (part_rvBytes 2)) [0, 1, 2] (by kernel_rfl) (by kernel_rfl) ?_
  obtain ⟨V1, eV1, ga, ega, h2, kV1⟩ := alloc_step w ((Att.c a)) 31
  have n3 : w.heap.size ≤ ga := ega ▸ K0.size
  refine ps_r (o_rvBytes 2 0) (pT ga 0) (w' := V1) (by rw [← eV1, ← ega]; exact exec_box 31 (.tmp 0) (by kernel_rfl) (.agg (Att.c a)) (by kernel_rfl)) ?_
  clear eV1
  have K4 := K0.nn kV1
  have z5 := kV1.size
  refine ps_k (o_rvBytes 2 1) (.slice none 0 0) ?_
  refine ps_k (o_rvBytes 2 2) (.int .i64 0) ?_
  refine ps_end ?_
  refine then_n ?_
  refine sy_sq (part_rvBytes 6) (part_rvBytes 7) ?_
  refine sy_sq (part_rvBytes 12) (part_rvBytes 13) ?_
  refine sy_reg ?_
  refine rg_plain 1 (opsAt (part_rvBytes 12)) [0, 1, 2] (by kernel_rfl) (by kernel_rfl) ?_
  refine ps_p (o_rvBytes 12 0) (.agg (Att.c a)) (exec_load_row 31 (.tmp 1) (by kernel_rfl) ga (by kernel_rfl) _ _ (0, 0) _ (h2) Try.underlying31 rfl (by rw [Att.c_size _ hr]; kernel_rfl)) ?_
  refine ps_c (o_rvBytes 12 1) 101 #[.agg (Att.c a)] Try.func101 ((rvCheck_is a _ hr (Att.err_ok hf)).mono ?_)
  rintro e V6 ⟨rfl, kV6⟩
  refine ⟨_, rfl, ?_⟩
  have h7 := kV6.bk h2
  have K8 := K4.nn kV6
  have z9 := kV6.size
  refine ps_k (o_rvBytes 12 2) (.int .i64 0) ?_
  refine ps_end ?_
  refine then_n ?_
  refine sy_sq (part_rvBytes 26) (part_rvBytes 27) ?_
  refine sy_reg ?_
  refine rg_plain 2 (opsAt (part_rvBytes 26)) [0, 1] (by kernel_rfl) (by kernel_rfl) ?_
  refine ps_k (o_rvBytes 26 0) (.int .i64 0) ?_
  refine ps_k (o_rvBytes 26 1) (.bool false) ?_
  refine ps_end ?_
  refine then_n ?_
  refine sy_n (.tmp 8) (part_rvBytes 54) (part_rvBytes 55) ?_
  refine sy_sk ?_
  refine then_n ?_
  refine sy_sq (part_rvBytes 14) (part_rvBytes 15) ?_
  refine sy_np ?_
  refine sy_reg ?_
  refine an_begin 4 8 (opsAt (part_rvBytes 14)) (fun W => (W.heap[ga]? = some (.cells (Att.c a) 31 (0, 0)))) #[false, false, false, false, false, false, false, false] (by kernel_rfl) (by kernel_rfl) (by kernel_rfl) (by kernel_rfl) ?_
  obtain ⟨V10, eV10, kV10⟩ := drew_step V6
  rw [eV10]
  clear eV10
  have h11 := kV10.bk h7
  have K12 := K8.nn kV10
  have z13 := kV10.size
  refine an_v 0 (o_rvBytes 14 0) (.agg (Att.c a)) (fun W hS => exec_load_row 31 (.tmp 1) (by kernel_rfl) ga (by kernel_rfl) _ _ (0, 0) _ (hS) Try.underlying31 rfl (by rw [Att.c_size _ hr]; kernel_rfl)) h11 ?_
  refine an_k 2 (o_rvBytes 14 2) (pT ga 35) h11 ?_
  refine an_v 3 (o_rvBytes 14 3) (uN a.g) (fun W hS => exec_ld 25 (.tmp 12) ga 35 Try.underlying25 (rc (hS) (Att.c_tag _ hr))) h11 ?_
  refine an_o 1 ?_
  refine on_c (o_rvBytes 14 1) 102 #[.agg (Att.c a)] Try.func102 ((rbare_ok a _ ha hf).mono ?_)
  rintro e V14 ⟨X, rfl, hX, hnX, kV14⟩
  have hnX2 : NewFrom (ga + 1) X := fun j hj => by have := hnX j hj; have := lt_of_block h11; omega
  refine ⟨_, rfl, ?_⟩
  have h15 := kV14.bk h11
  have K16 := K12.nn kV14
  have z17 := kV14.size
  refine ⟨h15, ?_⟩
  refine an_o 4 ?_
  refine on_c (o_rvBytes 14 4) 73 #[uN a.g] Try.func73 ((rPut_ok a.g ha.g _).mono ?_)
  rintro e V18 ⟨v8, rfl, hV18, hn8, hz8, kV18⟩
  refine ⟨_, rfl, ?_⟩
  have h19 := kV18.bk h15
  have h20 : Row V18 5 1 X a.bare.length (B a.bare) := hX.keeps kV18 (fun _ _ x => x)
  have K21 := K16.nn kV18
  have z22 := kV18.size
  refine ⟨h19, ?_⟩
  refine an_o 5 ?_
  obtain ⟨v23, V24, hr25, h26, hg27, hn28, ha29⟩ := run_append_any (P := Try.prog) (w := V18) 22 (Oper.type (o_rvBytes 14 5)) 5 i0 (.int .u8 0) 1 1 Try.underlying22 hi0 hz0 hz1 hz2 rfl (by decide) X a.bare.length (B a.bare) h20 v8 ((Cod.enc a.g).length) (B (Cod.enc a.g)) (Row.src hV18 (B_one _)) (by unfold maxLen; omega) (by omega)
  have kV24 : Keeps (fun j => (X : Value).ownBlock = some j) V18 V24 := Keeps.rowAdd hg27
  have hw30 : NewFrom (ga + 1) v23 := hnX2.next (lt_of_block h19) ha29
  refine on_r (o_rvBytes 14 5) v23 (w' := V24) (exec_append (.tmp 11) (.tmp 14) 22 (by kernel_rfl) X v8 (by kernel_rfl) (by kernel_rfl) hr25) ?_
  have h31 : Row V24 5 1 v23 a.bytes.length (B a.bytes) := row_cast h26 (Att.split a).symm (by rw [Att.split, List.length_append])
  have h32 : V24.heap[ga]? = some (.cells (Att.c a) 31 (0, 0)) := (kV24.block ga (lt_of_block h19) (fun e => by have := hnX2 _ e; omega)).trans h19
  have K33 : Keeps Nob w V24 := K21.then kV24 (fun i hi hm => absurd hi (by have := hnX2 i hm; omega))
  have z34 := kV24.size
  refine ⟨h32, ?_⟩
  refine an_o 6 ?_
  refine on_r (o_rvBytes 14 6) (v23) (w' := V24) (by kernel_rfl) ?_
  refine ⟨h32, ?_⟩
  refine an_o 7 ?_
  refine on_r (o_rvBytes 14 7) (.int .i64 0) (w' := V24) (by kernel_rfl) ?_
  refine ⟨h32, ?_⟩
  refine an_end (by kernel_rfl) ?_
  refine then_n ?_
  refine sy_ret (by kernel_rfl) ?_
  refine sy_out (.tuple #[v23, .int .i64 0]) rfl (by kernel_rfl) ?_
  exact ⟨_, rfl, h31, fun j hj => by have := hw30 j hj; omega, K33⟩
theorem numbers_Pro (a : Pro) {g : Nat} (w : World) (h0 : w.heap[g]? = some (.cells (In [2, a.v, a.h]).toArray 3 (0, 0))) (ha : a.Ok) (hf : a.fine) : Calls Try.prog 114 #[.agg (B a.r).toArray, .slice (some ⟨g, 0, none⟩) 3 3] w fun e w' => ∃ X, e = .returned X ∧ Row w' 5 1 X a.bare.length (B a.bare) ∧ NewFrom w.heap.size X ∧ Keeps Nob w w' := by
  have hl := (pro_len ha.r).2
  rw [← pro_bare, List.length_append, ha.r] at hl
  have := rnumbers_ok a.r g [2, a.v, a.h] w h0 ha.r (fun k x hx => pro_okT ha hf k (.n x) (by match k, hx with | 0, hx => cases hx; rfl | 1, hx => cases hx; rfl | 2, hx => cases hx; rfl | k + 3, hx => cases hx)) (by omega) (by simp)
  rwa [pro_bare] at this
noncomputable def part_rbareBlock (n : Nat) : Code := partOf Try.f104 n
noncomputable abbrev o_rbareBlock (n k : Nat) : Oper := (opsAt (part_rbareBlock n)).getD k default
set_option maxRecDepth 100000 in
set_option maxHeartbeats 4000000 in
theorem rbareBlock_ok (a : Pro) (w : World) (ha : a.Ok) (hf : a.fine) :
    Calls Try.prog 104 #[.agg (Pro.c a)] w (fun e w' => ∃ X, e = .returned X ∧ Row w' 5 1 X a.bare.length (B a.bare) ∧ NewFrom w.heap.size X ∧ Keeps Nob w w') := by
  have hr := ha.r
  have K0 : Keeps Nob w w := Keeps.refl _ _
  refine sy_enter (part_rbareBlock 1) ⟨#[.agg (Pro.c a), undef, undef, undef, undef, undef, undef, undef, undef, undef, undef], []⟩ Try.func104 (by kernel_rfl) (by kernel_rfl) ?_
  refine sy_sq (part_rbareBlock 2) (part_rbareBlock 3) ?_
  refine sy_reg ?_
  refine rg_plain 0 (opsAt (part_rbareBlock 2)) [0, 1] (by kernel_rfl) (by kernel_rfl) ?_
  obtain ⟨V1, eV1, ga, ega, h2, kV1⟩ := alloc_step w ((Pro.c a)) 33
  have n3 : w.heap.size ≤ ga := ega ▸ K0.size
  refine ps_r (o_rbareBlock 2 0) (pT ga 0) (w' := V1) (by rw [← eV1, ← ega]; exact exec_box 33 (.tmp 0) (by kernel_rfl) (.agg (Pro.c a)) (by kernel_rfl)) ?_
  clear eV1
  have K4 := K0.nn kV1
  have z5 := kV1.size
  refine ps_k (o_rbareBlock 2 1) (.slice none 0 0) ?_
  refine ps_end ?_
  refine then_n ?_
  refine sy_sq (part_rbareBlock 6) (part_rbareBlock 7) ?_
  refine sy_reg ?_
  refine rg_plain 1 (opsAt (part_rbareBlock 6)) [0, 1, 2, 3, 4, 5, 6, 7, 8] (by kernel_rfl) (by kernel_rfl) ?_
  refine ps_k (o_rbareBlock 6 0) (pT ga 2) ?_
  refine ps_p (o_rbareBlock 6 1) (.agg (B a.r).toArray) (exec_load_seg 29 (.tmp 3) (by kernel_rfl) ga 2 (by kernel_rfl) (B a.r) _ _ _ h2 (Pro.c_seg _) Try.underlying29 rfl (by rw [B_length, hr]; kernel_rfl)) ?_
  refine ps_k (o_rbareBlock 6 2) (pT ga 0) ?_
  refine ps_p (o_rbareBlock 6 3) (.int .i64 a.v) (exec_ld 3 (.tmp 5) ga 0 Try.underlying3 (rc (h2) (Pro.c_0 _))) ?_
  refine ps_k (o_rbareBlock 6 4) (pT ga 1) ?_
  refine ps_p (o_rbareBlock 6 5) (.int .i64 a.h) (exec_ld 3 (.tmp 7) ga 1 Try.underlying3 (rc (h2) (Pro.c_1 _))) ?_
  obtain ⟨V6, eV6, gl, egl, h7, kV6⟩ := alloc_step V1 (#[.int .i64 2, .int .i64 a.v, .int .i64 a.h]) 3
  have n8 : ga < gl := egl ▸ lt_of_block h2
  have n9 : w.heap.size ≤ gl := egl ▸ K4.size
  refine ps_r (o_rbareBlock 6 6) (.slice (some ⟨gl, 0, none⟩) 3 3) (w' := V6) (by rw [← eV6, ← egl]; kernel_rfl) ?_
  have h10 := kV6.bk h2
  have K11 := K4.nn kV6
  have z12 := kV6.size
  refine ps_c (o_rbareBlock 6 7) 114 #[.agg (B a.r).toArray, .slice (some ⟨gl, 0, none⟩) 3 3] Try.func114 ((numbers_Pro a _ h7 ha hf).mono ?_)
  rintro e V13 ⟨X, rfl, hX, hnX, kV13⟩
  refine ⟨_, rfl, ?_⟩
  have h14 := kV13.bk h10
  have h15 := kV13.bk h7
  have K16 := K11.nn kV13
  have z17 := kV13.size
  refine ps_k (o_rbareBlock 6 8) (X) ?_
  refine ps_end ?_
  refine then_n ?_
  refine sy_ret (by kernel_rfl) ?_
  refine sy_out (X) rfl (by kernel_rfl) ?_
  exact ⟨X, rfl, hX, fun j hj => by have := hnX j hj; omega, K16⟩
theorem rvCheckBlock_is (a : Pro) {x : Int} (w : World) (hr : a.r.length = 32) (hx : a.err = x) : Calls Try.prog 103 #[.agg (Pro.c a)] w fun e w' => e = .returned (.int .i64 x) ∧ Keeps Nob w w' := by
  subst hx; exact rvCheckBlock_ok a w hr
noncomputable def part_rvBytesBlock (n : Nat) : Code := partOf Try.f75 n
noncomputable abbrev o_rvBytesBlock (n k : Nat) : Oper := (opsAt (part_rvBytesBlock n)).getD k default
set_option maxRecDepth 100000 in
set_option maxHeartbeats 4000000 in
theorem rvBytesBlock_bad (a : Pro) (w : World) (ha : a.Ok) (hf : ¬ a.fine) :
    Calls Try.prog 75 #[.agg (Pro.c a)] w (fun e w' => e = .returned (.tuple #[.slice none 0 0, .int .i64 3]) ∧ Keeps Nob w w') := by
  have hr := ha.r
  obtain ⟨i0, hi0, hz0, hz1, hz2⟩ := info_parts u8_info0
  have hlen := pro_len hr
  have hen := Cod.enc_length a.g
  have K0 : Keeps Nob w w := Keeps.refl _ _
  refine sy_enter (part_rvBytesBlock 1) ⟨#[.agg (Pro.c a), undef, undef, undef, undef, undef, undef, undef, undef, undef, undef, undef, undef, undef, undef, undef], []⟩ Try.func75 (by kernel_rfl) (by kernel_rfl) ?_
  refine sy_sq (part_rvBytesBlock 2) (part_rvBytesBlock 3) ?_
  refine sy_reg ?_
  refine rg_plain 0 (opsAt (part_rvBytesBlock 2)) [0, 1, 2] (by kernel_rfl) (by kernel_rfl) ?_
  obtain ⟨V1, eV1, ga, ega, h2, kV1⟩ := alloc_step w ((Pro.c a)) 33
  have n3 : w.heap.size ≤ ga := ega ▸ K0.size
  refine ps_r (o_rvBytesBlock 2 0) (pT ga 0) (w' := V1) (by rw [← eV1, ← ega]; exact exec_box 33 (.tmp 0) (by kernel_rfl) (.agg (Pro.c a)) (by kernel_rfl)) ?_
  clear eV1
  have K4 := K0.nn kV1
  have z5 := kV1.size
  refine ps_k (o_rvBytesBlock 2 1) (.slice none 0 0) ?_
  refine ps_k (o_rvBytesBlock 2 2) (.int .i64 0) ?_
  refine ps_end ?_
  refine then_n ?_
  refine sy_sq (part_rvBytesBlock 6) (part_rvBytesBlock 7) ?_
  refine sy_sq (part_rvBytesBlock 12) (part_rvBytesBlock 13) ?_
  refine sy_reg ?_
  refine rg_plain 1 (opsAt (part_rvBytesBlock 12)) [0, 1, 2] (by kernel_rfl) (by kernel_rfl) ?_
  refine ps_p (o_rvBytesBlock 12 0) (.agg (Pro.c a)) (exec_load_row 33 (.tmp 1) (by kernel_rfl) ga (by kernel_rfl) _ _ (0, 0) _ (h2) Try.underlying33 rfl (by rw [Pro.c_size _ hr]; kernel_rfl)) ?_
  refine ps_c (o_rvBytesBlock 12 1) 103 #[.agg (Pro.c a)] Try.func103 ((rvCheckBlock_is a _ hr (Pro.err_no hf)).mono ?_)
  rintro e V6 ⟨rfl, kV6⟩
  refine ⟨_, rfl, ?_⟩
  have h7 := kV6.bk h2
  have K8 := K4.nn kV6
  have z9 := kV6.size
  refine ps_k (o_rvBytesBlock 12 2) (.int .i64 3) ?_
  refine ps_end ?_
  refine then_n ?_
  refine sy_sq (part_rvBytesBlock 26) (part_rvBytesBlock 27) ?_
  refine sy_reg ?_
  refine rg_plain 2 (opsAt (part_rvBytesBlock 26)) [0, 1] (by kernel_rfl) (by kernel_rfl) ?_
  refine ps_k (o_rvBytesBlock 26 0) (.int .i64 3) ?_
  refine ps_k (o_rvBytesBlock 26 1) (.bool true) ?_
  refine ps_end ?_
  refine then_n ?_
  refine sy_ys (.tmp 8) (part_rvBytesBlock 54) (part_rvBytesBlock 55) ?_
  refine sy_sq (part_rvBytesBlock 108) (part_rvBytesBlock 109) ?_
  refine sy_reg ?_
  refine rg_plain 3 (opsAt (part_rvBytesBlock 108)) [0, 1, 2] (by kernel_rfl) (by kernel_rfl) ?_
  refine ps_k (o_rvBytesBlock 108 0) (.int .i64 3) ?_
  refine ps_k (o_rvBytesBlock 108 1) (.slice none 0 0) ?_
  refine ps_k (o_rvBytesBlock 108 2) (.int .i64 3) ?_
  refine ps_end ?_
  refine then_n ?_
  refine sy_ret (by kernel_rfl) ?_
  refine then_r ?_
  refine sy_out (.tuple #[.slice none 0 0, .int .i64 3]) rfl (by kernel_rfl) ?_
  exact ⟨rfl, K8⟩
set_option maxRecDepth 100000 in
set_option maxHeartbeats 4000000 in
theorem rvBytesBlock_ok (a : Pro) (w : World) (ha : a.Ok) (hf : a.fine) :
    Calls Try.prog 75 #[.agg (Pro.c a)] w (fun e w' => ∃ X, e = .returned (.tuple #[X, .int .i64 0]) ∧ Row w' 5 1 X a.bytes.length (B a.bytes) ∧ NewFrom w.heap.size X ∧ Keeps Nob w w') := by
  have hr := ha.r
  obtain ⟨i0, hi0, hz0, hz1, hz2⟩ := info_parts u8_info0
  have hlen := pro_len hr
  have hen := Cod.enc_length a.g
  have K0 : Keeps Nob w w := Keeps.refl _ _
  refine sy_enter (part_rvBytesBlock 1) ⟨#[.agg (Pro.c a), undef, undef, undef, undef, undef, undef, undef, undef, undef, undef, undef, undef, undef, undef, undef], []⟩ Try.func75 (by kernel_rfl) (by kernel_rfl) ?_
  refine sy_sq (part_rvBytesBlock 2) (part_rvBytesBlock 3) ?_
  refine sy_reg ?_
  refine rg_plain 0 (opsAt (part_rvBytesBlock 2)) [0, 1, 2] (by kernel_rfl) (by kernel_rfl) ?_
  obtain ⟨V1, eV1, ga, ega, h2, kV1⟩ := alloc_step w ((Pro.c a)) 33
  have n3 : w.heap.size ≤ ga := ega ▸ K0.size
  refine ps_r (o_rvBytesBlock 2 0) (pT ga 0) (w' := V1) (by rw [← eV1, ← ega]; exact exec_box 33 (.tmp 0) (by kernel_rfl) (.agg (Pro.c a)) (by kernel_rfl)) ?_
  clear eV1
  have K4 := K0.nn kV1
  have z5 := kV1.size
  refine ps_k (o_rvBytesBlock 2 1) (.slice none 0 0) ?_
  refine ps_k (o_rvBytesBlock 2 2) (.int .i64 0) ?_
  refine ps_end ?_
  refine then_n ?_
  refine sy_sq (part_rvBytesBlock 6) (part_rvBytesBlock 7) ?_
  refine sy_sq (part_rvBytesBlock 12) (part_rvBytesBlock 13) ?_
  refine sy_reg ?_
  refine rg_plain 1 (opsAt (part_rvBytesBlock 12)) [0, 1, 2] (by kernel_rfl) (by kernel_rfl) ?_
  refine ps_p (o_rvBytesBlock 12 0) (.agg (Pro.c a)) (exec_load_row 33 (.tmp 1) (by kernel_rfl) ga (by kernel_rfl) _ _ (0, 0) _ (h2) Try.underlying33 rfl (by rw [Pro.c_size _ hr]; kernel_rfl)) ?_
  refine ps_c (o_rvBytesBlock 12 1) 103 #[.agg (Pro.c a)] Try.func103 ((rvCheckBlock_is a _ hr (Pro.err_ok hf)).mono ?_)
  rintro e V6 ⟨rfl, kV6⟩
  refine ⟨_, rfl, ?_⟩
  have h7 := kV6.bk h2
  have K8 := K4.nn kV6
  have z9 := kV6.size
  refine ps_k (o_rvBytesBlock 12 2) (.int .i64 0) ?_
  refine ps_end ?_
  refine then_n ?_
  refine sy_sq (part_rvBytesBlock 26) (part_rvBytesBlock 27) ?_
  refine sy_reg ?_
  refine rg_plain 2 (opsAt (part_rvBytesBlock 26)) [0, 1] (by kernel_rfl) (by kernel_rfl) ?_
  refine ps_k (o_rvBytesBlock 26 0) (.int .i64 0) ?_
  refine ps_k (o_rvBytesBlock 26 1) (.bool false) ?_
  refine ps_end ?_
  refine then_n ?_
  refine sy_n (.tmp 8) (part_rvBytesBlock 54) (part_rvBytesBlock 55) ?_
  refine sy_sk ?_
  refine then_n ?_
  refine sy_sq (part_rvBytesBlock 14) (part_rvBytesBlock 15) ?_
  refine sy_np ?_
  refine sy_reg ?_
  refine an_begin 4 8 (opsAt (part_rvBytesBlock 14)) (fun W => (W.heap[ga]? = some (.cells (Pro.c a) 33 (0, 0)))) #[false, false, false, false, false, false, false, false] (by kernel_rfl) (by kernel_rfl) (by kernel_rfl) (by kernel_rfl) ?_
  obtain ⟨V10, eV10, kV10⟩ := drew_step V6
  rw [eV10]
  clear eV10
  have h11 := kV10.bk h7
  have K12 := K8.nn kV10
  have z13 := kV10.size
  refine an_v 0 (o_rvBytesBlock 14 0) (.agg (Pro.c a)) (fun W hS => exec_load_row 33 (.tmp 1) (by kernel_rfl) ga (by kernel_rfl) _ _ (0, 0) _ (hS) Try.underlying33 rfl (by rw [Pro.c_size _ hr]; kernel_rfl)) h11 ?_
  refine an_k 2 (o_rvBytesBlock 14 2) (pT ga 34) h11 ?_
  refine an_v 3 (o_rvBytesBlock 14 3) (uN a.g) (fun W hS => exec_ld 25 (.tmp 12) ga 34 Try.underlying25 (rc (hS) (Pro.c_tag _ hr))) h11 ?_
  refine an_o 1 ?_
  refine on_c (o_rvBytesBlock 14 1) 104 #[.agg (Pro.c a)] Try.func104 ((rbareBlock_ok a _ ha hf).mono ?_)
  rintro e V14 ⟨X, rfl, hX, hnX, kV14⟩
  have hnX2 : NewFrom (ga + 1) X := fun j hj => by have := hnX j hj; have := lt_of_block h11; omega
  refine ⟨_, rfl, ?_⟩
  have h15 := kV14.bk h11
  have K16 := K12.nn kV14
  have z17 := kV14.size
  refine ⟨h15, ?_⟩
  refine an_o 4 ?_
  refine on_c (o_rvBytesBlock 14 4) 73 #[uN a.g] Try.func73 ((rPut_ok a.g ha.g _).mono ?_)
  rintro e V18 ⟨v8, rfl, hV18, hn8, hz8, kV18⟩
  refine ⟨_, rfl, ?_⟩
  have h19 := kV18.bk h15
  have h20 : Row V18 5 1 X a.bare.length (B a.bare) := hX.keeps kV18 (fun _ _ x => x)
  have K21 := K16.nn kV18
  have z22 := kV18.size
  refine ⟨h19, ?_⟩
  refine an_o 5 ?_
  obtain ⟨v23, V24, hr25, h26, hg27, hn28, ha29⟩ := run_append_any (P := Try.prog) (w := V18) 22 (Oper.type (o_rvBytesBlock 14 5)) 5 i0 (.int .u8 0) 1 1 Try.underlying22 hi0 hz0 hz1 hz2 rfl (by decide) X a.bare.length (B a.bare) h20 v8 ((Cod.enc a.g).length) (B (Cod.enc a.g)) (Row.src hV18 (B_one _)) (by unfold maxLen; omega) (by omega)
  have kV24 : Keeps (fun j => (X : Value).ownBlock = some j) V18 V24 := Keeps.rowAdd hg27
  have hw30 : NewFrom (ga + 1) v23 := hnX2.next (lt_of_block h19) ha29
  refine on_r (o_rvBytesBlock 14 5) v23 (w' := V24) (exec_append (.tmp 11) (.tmp 14) 22 (by kernel_rfl) X v8 (by kernel_rfl) (by kernel_rfl) hr25) ?_
  have h31 : Row V24 5 1 v23 a.bytes.length (B a.bytes) := row_cast h26 (Pro.split a).symm (by rw [Pro.split, List.length_append])
  have h32 : V24.heap[ga]? = some (.cells (Pro.c a) 33 (0, 0)) := (kV24.block ga (lt_of_block h19) (fun e => by have := hnX2 _ e; omega)).trans h19
  have K33 : Keeps Nob w V24 := K21.then kV24 (fun i hi hm => absurd hi (by have := hnX2 i hm; omega))
  have z34 := kV24.size
  refine ⟨h32, ?_⟩
  refine an_o 6 ?_
  refine on_r (o_rvBytesBlock 14 6) (v23) (w' := V24) (by kernel_rfl) ?_
  refine ⟨h32, ?_⟩
  refine an_o 7 ?_
  refine on_r (o_rvBytesBlock 14 7) (.int .i64 0) (w' := V24) (by kernel_rfl) ?_
  refine ⟨h32, ?_⟩
  refine an_end (by kernel_rfl) ?_
  refine then_n ?_
  refine sy_ret (by kernel_rfl) ?_
  refine sy_out (.tuple #[v23, .int .i64 0]) rfl (by kernel_rfl) ?_
  exact ⟨_, rfl, h31, fun j hj => by have := hw30 j hj; omega, K33⟩
end Go.Proofs.Ytmapcghgdbfmhaa
