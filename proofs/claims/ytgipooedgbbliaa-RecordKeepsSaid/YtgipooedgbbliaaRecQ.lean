/-
  Records: the chapter's examples (printed by rec9.py). Conditions: none.
-/
import Derived.Test.YtgipooedgbbliaaRecP
namespace Go.Proofs.Ytgipooedgbbliaa
open Go Go.RowKit Go.Own Go.Shelf
def Icl (x : Int) : List Value := [.int .i64 x]
theorem int_info0 : (Try.prog.info? 3).map (fun i => (i.zero, i.size, i.bytes)) = some (some (.int .i64 0), 1, 8) := by kernel_rfl
theorem Icl_0 {x : Int} : (Icl x)[0]? = some (.int .i64 x) := rfl
theorem row_ints {w : World} {v : Value} {n : Nat} {l : List Int} (h : Row w 3 1 v n (l.flatMap Icl)) (hn : n = l.length) : Sl w 1 Icl v l := Row.sl h hn (fun _ _ => rfl)
theorem sl_block {w : World} {g n cap : Nat} {cs : Array Value} {T : TypeId} {l : List Int} (h : w.heap[g]? = some (.cells cs T (0, 0))) (hc : cs = (l.flatMap Icl).toArray) (hn : l.length = n) (hcap : n ≤ cap) (hm : cap ≤ 1000) : Sl w 1 Icl (.slice (some ⟨g, 0, none⟩) n cap) l := by
  subst hc; subst hn
  exact ⟨⟨_, _, rfl, hcap, by unfold maxLen; omega, fun h => by cases h⟩, fun k x hx => ⟨g, 0, cap, rfl, lt_of_block h, fun j u hj => by
    rw [Nat.zero_add]
    exact rc h (by rw [List.getElem?_toArray]; exact flat_get (s := 1) (fun _ _ => rfl) k x hx j u hj)⟩⟩

noncomputable def part_kSameInts (n : Nat) : Code := partOf Try.f40 n
noncomputable abbrev o_kSameInts (n k : Nat) : Oper := (opsAt (part_kSameInts n)).getD k default
set_option maxRecDepth 100000 in
set_option maxHeartbeats 4000000 in
theorem kSameInts_same (va vb : Value) (l : List Int) (w : World) (Ha : Sl w 1 Icl va l) (Hb : Sl w 1 Icl vb l) :
    Calls Try.prog 40 #[va, vb] w (fun e w' => e = .returned (.bool true) ∧ Keeps Nob w w') := by
  have hll := Ha.len_le
  have K0 : Keeps Nob w w := Keeps.refl _ _
  refine sy_enter (part_kSameInts 1) ⟨#[va, vb, undef, undef, undef, undef, undef, undef, undef, undef, undef, undef, undef, undef, undef, undef, undef, undef, undef, undef, undef, undef, undef, undef, undef, undef, undef, undef, undef, undef, undef], []⟩ Try.func40 (by kernel_rfl) (by kernel_rfl) ?_
  refine sy_sq (part_kSameInts 2) (part_kSameInts 3) ?_
  refine sy_reg ?_
  refine rg_plain 0 (opsAt (part_kSameInts 2)) [0] (by kernel_rfl) (by kernel_rfl) ?_
  refine ps_k (o_kSameInts 2 0) (.bool false) ?_
  refine ps_end ?_
  refine then_n ?_
  refine sy_sq (part_kSameInts 6) (part_kSameInts 7) ?_
  refine sy_reg ?_
  refine rg_plain 1 (opsAt (part_kSameInts 6)) [0, 1, 2, 3, 4, 5] (by kernel_rfl) (by kernel_rfl) ?_
  refine ps_k (o_kSameInts 6 0) (va) ?_
  refine ps_p (o_kSameInts 6 1) (iN l.length) (exec_len_sl (.tmp 7) 85 3 (by kernel_rfl) Try.underlying85 (by kernel_rfl) Ha) ?_
  refine ps_k (o_kSameInts 6 2) (vb) ?_
  refine ps_p (o_kSameInts 6 3) (iN l.length) (exec_len_sl (.tmp 9) 85 3 (by kernel_rfl) Try.underlying85 (by kernel_rfl) Hb) ?_
  refine ps_p (o_kSameInts 6 4) (.bool true) (exec_cast (congrArg Value.bool (show (((((l.length : Nat) : Int)) == (((l.length : Nat) : Int)))) = true from by simp)) (by kernel_rfl)) ?_
  refine ps_k (o_kSameInts 6 5) (.bool true) ?_
  refine ps_end ?_
  refine then_n ?_
  refine sy_sq (part_kSameInts 14) (part_kSameInts 15) ?_
  refine sy_sq (part_kSameInts 28) (part_kSameInts 29) ?_
  refine sy_reg ?_
  refine rg_plain 2 (opsAt (part_kSameInts 28)) [0] (by kernel_rfl) (by kernel_rfl) ?_
  refine ps_k (o_kSameInts 28 0) (.int .i64 0) ?_
  refine ps_end ?_
  refine then_n ?_
  refine sy_bk 0 (part_kSameInts 58) ?_
  refine sy_loop (part_kSameInts 116) (fun a V => ∃ (k : Nat) (u12 u13 u14 u15 u16 u17 u18 u19 u20 u21 u22 u23 u24 u25 u26 u27 u28 u29 : Value), (a = ⟨#[va, vb, undef, undef, .bool false, .bool true, iN k, va, iN l.length, vb, iN l.length, .bool true, u12, u13, u14, u15, u16, u17, u18, u19, u20, u21, u22, u23, u24, u25, u26, u27, u28, u29, undef], []⟩) ∧ (k ≤ l.length) ∧ (Sl V 1 Icl va l) ∧ (Sl V 1 Icl vb l) ∧ (Keeps Nob w V)) (fun a _ => l.length - (intOf (a.tmps.getD 6 undef)).toNat) (by kernel_rfl) ?_ ?_
  · exact ⟨0, undef, undef, undef, undef, undef, undef, undef, undef, undef, undef, undef, undef, undef, undef, undef, undef, undef, undef, by kernel_rfl, Nat.zero_le _, Ha, Hb, K0⟩
  · rintro a V1 ⟨k, u12, u13, u14, u15, u16, u17, u18, u19, u20, u21, u22, u23, u24, u25, u26, u27, u28, u29, rfl, hk, h2, h3, K4⟩
    by_cases lt_k : k < l.length
    · obtain ⟨x, hx⟩ : ∃ x, l[k]? = some x := ⟨_, List.getElem?_eq_getElem lt_k⟩
      obtain ⟨b_a, o_a, c_a, hv_a, hb_a, _⟩ := (h2).at_ k _ hx
      obtain ⟨b_b, o_b, c_b, hv_b, hb_b, _⟩ := (h3).at_ k _ hx
      refine sy_sq (part_kSameInts 232) (part_kSameInts 233) ?_
      refine sy_sq (part_kSameInts 464) (part_kSameInts 465) ?_
      refine sy_reg ?_
      refine rg_plain 3 (opsAt (part_kSameInts 464)) [0, 1, 2, 3, 4, 5, 6] (by kernel_rfl) (by kernel_rfl) ?_
      refine ps_k (o_kSameInts 464 0) (.bool true) ?_
      refine ps_k (o_kSameInts 464 1) (.bool true) ?_
      refine ps_k (o_kSameInts 464 2) (iN k) ?_
      refine ps_k (o_kSameInts 464 3) (va) ?_
      refine ps_p (o_kSameInts 464 4) (iN l.length) (exec_len_sl (.tmp 15) 85 3 (by kernel_rfl) Try.underlying85 (by kernel_rfl) h2) ?_
      refine ps_p (o_kSameInts 464 5) (.bool true) (dct ((((k : Nat) : Int)) < (((l.length : Nat) : Int))) (by omega)) ?_
      refine ps_k (o_kSameInts 464 6) (.bool true) ?_
      refine ps_end ?_
      refine then_n ?_
      refine sy_ys (.tmp 18) (part_kSameInts 930) (part_kSameInts 931) ?_
      refine sy_sk ?_
      refine then_n ?_
      refine sy_sq (part_kSameInts 466) (part_kSameInts 467) ?_
      refine sy_bk 1 (part_kSameInts 932) ?_
      refine sy_reg ?_
      refine rg_still 5 9 (opsAt (part_kSameInts 932)) [o_kSameInts 932 0, o_kSameInts 932 1, o_kSameInts 932 2, o_kSameInts 932 3, o_kSameInts 932 4, o_kSameInts 932 5, o_kSameInts 932 6, o_kSameInts 932 7, o_kSameInts 932 8] [o_kSameInts 932 9] (by kernel_rfl) (by kernel_rfl) (by kernel_rfl) (by kernel_rfl) (by kernel_rfl) ?_
      obtain ⟨V6, eV6, kV6⟩ := drew_step V1
      rw [eV6]
      clear eV6
      have h7 : Sl V6 1 Icl va l := h2.keepsN kV6
      have h8 : Sl V6 1 Icl vb l := h3.keepsN kV6
      have K9 := K4.nn kV6
      refine st_k (o_kSameInts 932 0) (va) ?_
      refine st_k (o_kSameInts 932 1) (iN k) ?_
      refine st_p (o_kSameInts 932 2) (pT b_a (o_a + k * 1)) (exec_indexAt_slice 85 (.tmp 21) (.tmp 22) (by kernel_rfl) b_a o_a l.length c_a (Eq.trans (b := va) (by kernel_rfl) hv_a) .i64 k (by kernel_rfl) _ 1 Try.underlying85 (by kernel_rfl) (by omega)) ?_
      refine st_p (o_kSameInts 932 3) (.int .i64 x) (exec_ld 3 (.tmp 23) b_a (o_a + k * 1) Try.underlying3 (Sl.cell h7 hx hv_a (j := 0) Icl_0)) ?_
      refine st_k (o_kSameInts 932 4) (vb) ?_
      refine st_k (o_kSameInts 932 5) (iN k) ?_
      refine st_p (o_kSameInts 932 6) (pT b_b (o_b + k * 1)) (exec_indexAt_slice 85 (.tmp 25) (.tmp 26) (by kernel_rfl) b_b o_b l.length c_b (Eq.trans (b := vb) (by kernel_rfl) hv_b) .i64 k (by kernel_rfl) _ 1 Try.underlying85 (by kernel_rfl) (by omega)) ?_
      refine st_p (o_kSameInts 932 7) (.int .i64 x) (exec_ld 3 (.tmp 27) b_b (o_b + k * 1) Try.underlying3 (Sl.cell h8 hx hv_b (j := 0) Icl_0)) ?_
      refine st_p (o_kSameInts 932 8) (.bool true) (exec_cast (congrArg Value.bool (show ((((x) : Int) == ((x) : Int))) = true from by simp)) (by kernel_rfl)) ?_
      refine st_end ?_
      refine ls_run (o_kSameInts 932 9) (.bool true) (w' := V6) (by kernel_rfl) (by kernel_rfl) ?_
      refine ls_end ?_
      refine blk_n ?_
      refine then_n ?_
      refine sy_reg ?_
      refine rg_plain 4 (opsAt (part_kSameInts 467)) [0, 1, 2] (by kernel_rfl) (by kernel_rfl) ?_
      refine ps_k (o_kSameInts 467 0) (iN k) ?_
      refine ps_p (o_kSameInts 467 1) (iN (k + 1)) (exec_cast (congrArg (Value.int .i64) (wrapN (k + 1) (by omega))) (by kernel_rfl)) ?_
      refine ps_k (o_kSameInts 467 2) (iN (k + 1)) ?_
      refine ps_end ?_
      refine then_n ?_
      refine ⟨⟨k + 1, (.bool true), (.bool true), (iN k), va, (iN l.length), (.bool true), (.bool true), (iN k), (iN (k + 1)), va, (iN k), (pT b_a (o_a + k * 1)), (.int .i64 x), vb, (iN k), (pT b_b (o_b + k * 1)), (.int .i64 x), (.bool true), by kernel_rfl, by omega, h7, h8, K9⟩, ?_⟩
      exact lt_meas (x := l.length - (k + 1)) (y := l.length - k) (by kernel_rfl) (by kernel_rfl) (by omega)
    · skip
      refine sy_sq (part_kSameInts 232) (part_kSameInts 233) ?_
      refine sy_sq (part_kSameInts 464) (part_kSameInts 465) ?_
      refine sy_reg ?_
      refine rg_plain 3 (opsAt (part_kSameInts 464)) [0, 1, 2, 3, 4, 5, 6] (by kernel_rfl) (by kernel_rfl) ?_
      refine ps_k (o_kSameInts 464 0) (.bool true) ?_
      refine ps_k (o_kSameInts 464 1) (.bool true) ?_
      refine ps_k (o_kSameInts 464 2) (iN k) ?_
      refine ps_k (o_kSameInts 464 3) (va) ?_
      refine ps_p (o_kSameInts 464 4) (iN l.length) (exec_len_sl (.tmp 15) 85 3 (by kernel_rfl) Try.underlying85 (by kernel_rfl) h2) ?_
      refine ps_p (o_kSameInts 464 5) (.bool false) (dcf ((((k : Nat) : Int)) < (((l.length : Nat) : Int))) (by omega)) ?_
      refine ps_k (o_kSameInts 464 6) (.bool false) ?_
      refine ps_end ?_
      refine then_n ?_
      refine sy_n (.tmp 18) (part_kSameInts 930) (part_kSameInts 931) ?_
      refine sy_exit 0 (by kernel_rfl) ?_
      refine then_e ?_
      refine then_e ?_
      refine blk_e ?_
      refine then_n ?_
      refine sy_sq (part_kSameInts 30) (part_kSameInts 31) ?_
      refine sy_reg ?_
      refine rg_plain 6 (opsAt (part_kSameInts 30)) [0, 1] (by kernel_rfl) (by kernel_rfl) ?_
      refine ps_k (o_kSameInts 30 0) (.bool true) ?_
      refine ps_k (o_kSameInts 30 1) (.bool true) ?_
      refine ps_end ?_
      refine then_n ?_
      refine sy_ret (by kernel_rfl) ?_
      refine sy_out (.bool true) rfl (by kernel_rfl) ?_
      exact ⟨rfl, K4⟩
noncomputable def part_lhas (n : Nat) : Code := partOf Try.f17 n
noncomputable abbrev o_lhas (n k : Nat) : Oper := (opsAt (part_lhas n)).getD k default
theorem map_row {α : Type} {f : α → Int} {l : List α} {i : Nat} {x : α} {w : World} {v : Value} {T : TypeId} (hx : l[i]? = some x) (h : Row w T 1 v (((l.take i).map f).length + 1) (((l.take i).map f).flatMap Icl ++ Icl (f x))) : Row w T 1 v ((l.take (i + 1)).map f).length (((l.take (i + 1)).map f).flatMap Icl) := by
  rw [List.take_add_one, hx, List.map_append, List.flatMap_append, List.length_append]
  simpa using h
set_option maxRecDepth 100000 in
set_option maxHeartbeats 4000000 in
theorem lhas_true (w0 : World) (r : Nat) (v : Int) (s : RSpec) (vs vh : Value) (ts hs : List Int) (w : World) (H : RSt w0 w r v s) (Hs : Sl w 1 Icl vs ts) (Hh : Sl w 1 Icl vh hs) (hts : s.all.map (·.t) = ts) (hhs : s.allB.map (·.h) = hs) :
    Calls Try.prog 17 #[.pointer (some ⟨r, 0, none⟩), vs, vh] w (fun e w' => e = .returned (.bool true) ∧ Keeps Nob w w') := by
  obtain ⟨okra, okrb, hla, hlb, _⟩ := H.ok
  obtain ⟨i0, hi0, hz0, hz1, hz2⟩ := info_parts int_info0
  have rini : Row w 3 1 (.slice none 0 0) (((s.all).take 0).map (·.t)).length ((((s.all).take 0).map (·.t)).flatMap Icl) := World.ownsRow_nil _ _ _ _
  have rinj : Row w 3 1 (.slice none 0 0) (((s.allB).take 0).map (·.h)).length ((((s.allB).take 0).map (·.h)).flatMap Icl) := World.ownsRow_nil _ _ _ _
  have K0 : Keeps Nob w w := Keeps.refl _ _
  refine sy_enter (part_lhas 1) ⟨#[pT r 0, vs, vh, undef, undef, undef, undef, undef, undef, undef, undef, undef, undef, undef, undef, undef, undef, undef, undef, undef, undef, undef, undef, undef, undef, undef, undef, undef, undef, undef, undef, undef, undef, undef, undef, undef, undef, undef, undef, undef, undef, undef, undef, undef, undef, undef, undef, undef, undef, undef, undef, undef, undef], []⟩ Try.func17 (by kernel_rfl) (by kernel_rfl) ?_
  refine sy_sq (part_lhas 2) (part_lhas 3) ?_
  refine sy_reg ?_
  refine rg_plain 0 (opsAt (part_lhas 2)) [0] (by kernel_rfl) (by kernel_rfl) ?_
  refine ps_k (o_lhas 2 0) (.bool false) ?_
  refine ps_end ?_
  refine then_n ?_
  refine sy_sq (part_lhas 6) (part_lhas 7) ?_
  refine sy_reg ?_
  refine rg_plain 1 (opsAt (part_lhas 6)) [0, 1] (by kernel_rfl) (by kernel_rfl) ?_
  refine ps_k (o_lhas 6 0) (.slice none 0 0) ?_
  refine ps_k (o_lhas 6 1) (.slice none 0 0) ?_
  refine ps_end ?_
  refine then_n ?_
  refine sy_sq (part_lhas 14) (part_lhas 15) ?_
  refine sy_reg ?_
  refine rg_plain 2 (opsAt (part_lhas 14)) [0, 1, 2, 3, 4, 5] (by kernel_rfl) (by kernel_rfl) ?_
  refine ps_k (o_lhas 14 0) (pT r 0) ?_
  refine ps_c (o_lhas 14 1) 24 #[pT r 0] Try.func24 ((RSt.all H).mono ?_)
  rintro e V1 ⟨va, rfl, hva, nva, kV1⟩
  refine ⟨_, rfl, ?_⟩
  have h2 : Row V1 3 1 (.slice none 0 0) ((((s.all).take 0).map (·.t)).length) ((((s.all).take 0).map (·.t)).flatMap Icl) := rini.keeps kV1 (fun j hj _ => by cases hj)
  have h3 : Row V1 3 1 (.slice none 0 0) ((((s.allB).take 0).map (·.h)).length) ((((s.allB).take 0).map (·.h)).flatMap Icl) := rinj.keeps kV1 (fun j hj _ => by cases hj)
  have K4 := K0.nn kV1
  have z5 := kV1.size
  refine ps_k (o_lhas 14 2) (pT r 0) ?_
  refine ps_c (o_lhas 14 3) 25 #[pT r 0] Try.func25 ((RSt.blocks (H.keepsN K4)).mono ?_)
  rintro e V6 ⟨vb, rfl, hvb, nvb, kV6⟩
  refine ⟨_, rfl, ?_⟩
  have h7 : Row V6 3 1 (.slice none 0 0) ((((s.all).take 0).map (·.t)).length) ((((s.all).take 0).map (·.t)).flatMap Icl) := h2.keeps kV6 (fun j hj _ => by cases hj)
  have h8 : Row V6 3 1 (.slice none 0 0) ((((s.allB).take 0).map (·.h)).length) ((((s.allB).take 0).map (·.h)).flatMap Icl) := h3.keeps kV6 (fun j hj _ => by cases hj)
  have h9 : Row V6 28 36 va s.all.length (s.all.flatMap Att.cl) := (hva).keeps kV6 (fun _ _ x => x)
  have K10 := K4.nn kV6
  have z11 := kV6.size
  refine ps_k (o_lhas 14 4) (va) ?_
  refine ps_k (o_lhas 14 5) (vb) ?_
  refine ps_end ?_
  refine then_n ?_
  refine sy_sq (part_lhas 30) (part_lhas 31) ?_
  refine sy_sq (part_lhas 60) (part_lhas 61) ?_
  refine sy_reg ?_
  refine rg_plain 3 (opsAt (part_lhas 60)) [0] (by kernel_rfl) (by kernel_rfl) ?_
  refine ps_k (o_lhas 60 0) (.int .i64 0) ?_
  refine ps_end ?_
  refine then_n ?_
  refine sy_bk 0 (part_lhas 122) ?_
  refine sy_loop (part_lhas 244) (fun a V => ∃ (i : Nat) (va1 : Value) (u17 u18 u19 u20 u21 u22 u23 u24 u25 u26 u27 u28 u29 u30 : Value), (a = ⟨#[pT r 0, vs, vh, undef, undef, undef, .bool false, va1, .slice none 0 0, va, vb, iN i, undef, pT r 0, va, pT r 0, vb, u17, u18, u19, u20, u21, u22, u23, u24, u25, u26, u27, u28, u29, u30, undef, undef, undef, undef, undef, undef, undef, undef, undef, undef, undef, undef, undef, undef, undef, undef, undef, undef, undef, undef, undef, undef], []⟩) ∧ (i ≤ s.all.length) ∧ (Row V 3 1 va1 ((((s.all).take i).map (·.t)).length) ((((s.all).take i).map (·.t)).flatMap Icl)) ∧ (Row V 3 1 (.slice none 0 0) ((((s.allB).take 0).map (·.h)).length) ((((s.allB).take 0).map (·.h)).flatMap Icl)) ∧ (Row V 28 36 va s.all.length (s.all.flatMap Att.cl)) ∧ (Row V 35 35 vb s.allB.length (s.allB.flatMap Pro.cl)) ∧ (Keeps Nob w V) ∧ (NewFrom w.heap.size va1)) (fun a _ => s.all.length - (intOf (a.tmps.getD 11 undef)).toNat) (by kernel_rfl) ?_ ?_
  · exact ⟨0, .slice none 0 0, undef, undef, undef, undef, undef, undef, undef, undef, undef, undef, undef, undef, undef, undef, by kernel_rfl, Nat.zero_le _, h7, h8, h9, hvb, K10, NewFrom.nil _⟩
  · rintro a V12 ⟨i, va1, u17, u18, u19, u20, u21, u22, u23, u24, u25, u26, u27, u28, u29, u30, rfl, hi, h13, h14, h15, h16, K17, hnwa⟩
    by_cases lt_i : i < s.all.length
    · obtain ⟨x, hx⟩ : ∃ x, s.all[i]? = some x := ⟨_, List.getElem?_eq_getElem lt_i⟩
      obtain ⟨b_xra, o_xra, c_xra, hv_xra, hb_xra, _⟩ := (Row.sl h15 rfl (fun y hy => Att.cl_len (okra y hy))).at_ i _ hx
      have hfl : (((s.all).take i).map (·.t)).length ≤ s.all.length := by rw [List.length_map, List.length_take]; omega
      refine sy_sq (part_lhas 488) (part_lhas 489) ?_
      refine sy_sq (part_lhas 976) (part_lhas 977) ?_
      refine sy_reg ?_
      refine rg_plain 4 (opsAt (part_lhas 976)) [0, 1, 2, 3] (by kernel_rfl) (by kernel_rfl) ?_
      refine ps_k (o_lhas 976 0) (iN i) ?_
      refine ps_k (o_lhas 976 1) (va) ?_
      refine ps_p (o_lhas 976 2) (iN s.all.length) (exec_len_sl (.tmp 18) 59 28 (by kernel_rfl) Try.underlying59 (by kernel_rfl) (Row.sl h15 rfl (fun y hy => Att.cl_len (okra y hy)))) ?_
      refine ps_p (o_lhas 976 3) (.bool true) (dct ((((i : Nat) : Int)) < (((s.all.length : Nat) : Int))) (by omega)) ?_
      refine ps_end ?_
      refine then_n ?_
      refine sy_ys (.tmp 20) (part_lhas 1954) (part_lhas 1955) ?_
      refine sy_sk ?_
      refine then_n ?_
      refine sy_sq (part_lhas 978) (part_lhas 979) ?_
      refine sy_bk 1 (part_lhas 1956) ?_
      refine sy_reg ?_
      refine rg_plain 6 (opsAt (part_lhas 1956)) [0, 1, 2, 3, 4, 5, 6, 7, 8] (by kernel_rfl) (by kernel_rfl) ?_
      refine ps_k (o_lhas 1956 0) (va1) ?_
      refine ps_k (o_lhas 1956 1) (va) ?_
      refine ps_k (o_lhas 1956 2) (iN i) ?_
      refine ps_p (o_lhas 1956 3) (pT b_xra (o_xra + i * 36)) (exec_indexAt_slice 59 (.tmp 24) (.tmp 25) (by kernel_rfl) b_xra o_xra (s.all).length c_xra (Eq.trans (b := va) (by kernel_rfl) hv_xra) .i64 i (by kernel_rfl) _ 36 Try.underlying59 (by kernel_rfl) (by omega)) ?_
      refine ps_k (o_lhas 1956 4) (pT b_xra (o_xra + i * 36 + 2)) ?_
      refine ps_p (o_lhas 1956 5) (.int .i64 x.t) (exec_ld 3 (.tmp 27) b_xra (o_xra + i * 36 + 2) Try.underlying3 (Sl.cell (Row.sl h15 rfl (fun y hy => Att.cl_len (okra y hy))) hx hv_xra Att.cl_2)) ?_
      obtain ⟨V18, eV18, lit, elit, h19, kV18⟩ := alloc_step V12 (#[.int .i64 x.t]) 3
      have n20 : w.heap.size ≤ lit := elit ▸ K17.size
      refine ps_r (o_lhas 1956 6) (.slice (some ⟨lit, 0, none⟩) 1 1) (w' := V18) (by rw [← eV18, ← elit]; kernel_rfl) ?_
      have h21 : Row V18 3 1 va1 ((((s.all).take i).map (·.t)).length) ((((s.all).take i).map (·.t)).flatMap Icl) := h13.keeps kV18 (fun _ _ x => x)
      have h22 : Row V18 3 1 (.slice none 0 0) ((((s.allB).take 0).map (·.h)).length) ((((s.allB).take 0).map (·.h)).flatMap Icl) := h14.keeps kV18 (fun j hj _ => by cases hj)
      have h23 : Row V18 28 36 va s.all.length (s.all.flatMap Att.cl) := (h15).keeps kV18 (fun _ _ x => x)
      have h24 : Row V18 35 35 vb s.allB.length (s.allB.flatMap Pro.cl) := (h16).keeps kV18 (fun _ _ x => x)
      have K25 := K17.nn kV18
      have z26 := kV18.size
      obtain ⟨v27, V28, hr29, h30, hg31, hn32, ha33⟩ := run_append_any (P := Try.prog) (w := V18) 85 (Oper.type (o_lhas 1956 7)) 3 i0 (.int .i64 0) 1 8 Try.underlying85 hi0 hz0 hz1 hz2 rfl (by decide) va1 ((((s.all).take i).map (·.t)).length) ((((s.all).take i).map (·.t)).flatMap Icl) h21 (.slice (some ⟨lit, 0, none⟩) 1 1) 1 (Icl x.t) (src_block h19 1 1 rfl (by kernel_rfl)) (by unfold maxLen; omega) (by omega)
      have kV28 : Keeps (fun j => va1.ownBlock = some j) V18 V28 := Keeps.rowAdd hg31
      have hw34 : NewFrom w.heap.size v27 := hnwa.next K25.size ha33
      refine ps_r (o_lhas 1956 7) v27 (w' := V28) (exec_append (.tmp 23) (.tmp 29) 85 (by kernel_rfl) va1 (.slice (some ⟨lit, 0, none⟩) 1 1) (by kernel_rfl) (by kernel_rfl) hr29) ?_
      have h35 : Row V28 3 1 v27 ((((s.all).take (i + 1)).map (·.t)).length) ((((s.all).take (i + 1)).map (·.t)).flatMap Icl) := (map_row hx h30)
      have h36 : Row V28 3 1 (.slice none 0 0) ((((s.allB).take 0).map (·.h)).length) ((((s.allB).take 0).map (·.h)).flatMap Icl) := h22.keeps kV28 (fun j hj _ => by cases hj)
      have h37 : Row V28 28 36 va s.all.length (s.all.flatMap Att.cl) := (h23).keeps kV28 (Row.apart h23 h21 (by decide))
      have h38 : Row V28 35 35 vb s.allB.length (s.allB.flatMap Pro.cl) := (h24).keeps kV28 (Row.apart h24 h21 (by decide))
      have K39 : Keeps Nob w V28 := K25.then kV28 (fun i hi hm => absurd hi (by have := hnwa i hm; omega))
      have z40 := kV28.size
      refine ps_k (o_lhas 1956 8) (v27) ?_
      refine ps_end ?_
      refine blk_n ?_
      refine then_n ?_
      refine sy_reg ?_
      refine rg_plain 5 (opsAt (part_lhas 979)) [0, 1, 2] (by kernel_rfl) (by kernel_rfl) ?_
      refine ps_k (o_lhas 979 0) (iN i) ?_
      refine ps_p (o_lhas 979 1) (iN (i + 1)) (exec_cast (congrArg (Value.int .i64) (wrapN (i + 1) (by omega))) (by kernel_rfl)) ?_
      refine ps_k (o_lhas 979 2) (iN (i + 1)) ?_
      refine ps_end ?_
      refine then_n ?_
      refine ⟨⟨i + 1, v27, (iN i), va, (iN s.all.length), (.bool true), (iN i), (iN (i + 1)), va1, va, (iN i), (pT b_xra (o_xra + i * 36)), (pT b_xra (o_xra + i * 36 + 2)), (.int .i64 x.t), (.slice (some ⟨lit, 0, none⟩) 1 1), v27, by kernel_rfl, by omega, h35, h36, h37, h38, K39, hw34⟩, ?_⟩
      exact lt_meas (x := s.all.length - (i + 1)) (y := s.all.length - i) (by kernel_rfl) (by kernel_rfl) (by omega)
    · have ei : i = s.all.length := by omega
      have lta_ : ∀ j, va1.ownBlock = some j → j < V12.heap.size := fun j hj => Row.lt h13 hj
      have hzv := K17.size
      refine sy_sq (part_lhas 488) (part_lhas 489) ?_
      refine sy_sq (part_lhas 976) (part_lhas 977) ?_
      refine sy_reg ?_
      refine rg_plain 4 (opsAt (part_lhas 976)) [0, 1, 2, 3] (by kernel_rfl) (by kernel_rfl) ?_
      refine ps_k (o_lhas 976 0) (iN i) ?_
      refine ps_k (o_lhas 976 1) (va) ?_
      refine ps_p (o_lhas 976 2) (iN s.all.length) (exec_len_sl (.tmp 18) 59 28 (by kernel_rfl) Try.underlying59 (by kernel_rfl) (Row.sl h15 rfl (fun y hy => Att.cl_len (okra y hy)))) ?_
      refine ps_p (o_lhas 976 3) (.bool false) (dcf ((((i : Nat) : Int)) < (((s.all.length : Nat) : Int))) (by omega)) ?_
      refine ps_end ?_
      refine then_n ?_
      refine sy_n (.tmp 20) (part_lhas 1954) (part_lhas 1955) ?_
      refine sy_exit 0 (by kernel_rfl) ?_
      refine then_e ?_
      refine then_e ?_
      refine blk_e ?_
      refine then_n ?_
      refine sy_sq (part_lhas 62) (part_lhas 63) ?_
      refine sy_sq (part_lhas 124) (part_lhas 125) ?_
      refine sy_reg ?_
      refine rg_plain 7 (opsAt (part_lhas 124)) [0] (by kernel_rfl) (by kernel_rfl) ?_
      refine ps_k (o_lhas 124 0) (.int .i64 0) ?_
      refine ps_end ?_
      refine then_n ?_
      refine sy_bk 2 (part_lhas 250) ?_
      refine sy_loop (part_lhas 500) (fun a V => ∃ (k : Nat) (vb1 : Value) (u31 u32 u33 u34 u35 u36 u37 u38 u39 u40 u41 u42 u43 u44 : Value), (a = ⟨#[pT r 0, vs, vh, undef, undef, undef, .bool false, va1, vb1, va, vb, iN i, iN k, pT r 0, va, pT r 0, vb, iN i, va, iN s.all.length, .bool false, u21, u22, u23, u24, u25, u26, u27, u28, u29, u30, u31, u32, u33, u34, u35, u36, u37, u38, u39, u40, u41, u42, u43, u44, undef, undef, undef, undef, undef, undef, undef, undef], []⟩) ∧ (k ≤ s.allB.length) ∧ (Row V 3 1 va1 ((((s.all).take i).map (·.t)).length) ((((s.all).take i).map (·.t)).flatMap Icl)) ∧ (Row V 3 1 vb1 ((((s.allB).take k).map (·.h)).length) ((((s.allB).take k).map (·.h)).flatMap Icl)) ∧ (Row V 28 36 va s.all.length (s.all.flatMap Att.cl)) ∧ (Row V 35 35 vb s.allB.length (s.allB.flatMap Pro.cl)) ∧ (Keeps Nob w V) ∧ (NewFrom V12.heap.size vb1) ∧ (V12.heap.size ≤ V.heap.size)) (fun a _ => s.allB.length - (intOf (a.tmps.getD 12 undef)).toNat) (by kernel_rfl) ?_ ?_
      · exact ⟨0, .slice none 0 0, undef, undef, undef, undef, undef, undef, undef, undef, undef, undef, undef, undef, undef, undef, by kernel_rfl, Nat.zero_le _, h13, h14, h15, h16, K17, NewFrom.nil _, by omega⟩
      · rintro a V41 ⟨k, vb1, u31, u32, u33, u34, u35, u36, u37, u38, u39, u40, u41, u42, u43, u44, rfl, hk, h42, h43, h44, h45, K46, hnwb, hzz⟩
        by_cases lt_i : k < s.allB.length
        · obtain ⟨x, hx⟩ : ∃ x, s.allB[k]? = some x := ⟨_, List.getElem?_eq_getElem lt_i⟩
          obtain ⟨b_xrb, o_xrb, c_xrb, hv_xrb, hb_xrb, _⟩ := (Row.sl h45 rfl (fun y hy => Pro.cl_len (okrb y hy))).at_ k _ hx
          have hfl : (((s.allB).take k).map (·.h)).length ≤ s.allB.length := by rw [List.length_map, List.length_take]; omega
          refine sy_sq (part_lhas 1000) (part_lhas 1001) ?_
          refine sy_sq (part_lhas 2000) (part_lhas 2001) ?_
          refine sy_reg ?_
          refine rg_plain 8 (opsAt (part_lhas 2000)) [0, 1, 2, 3] (by kernel_rfl) (by kernel_rfl) ?_
          refine ps_k (o_lhas 2000 0) (iN k) ?_
          refine ps_k (o_lhas 2000 1) (vb) ?_
          refine ps_p (o_lhas 2000 2) (iN s.allB.length) (exec_len_sl (.tmp 32) 61 35 (by kernel_rfl) Try.underlying61 (by kernel_rfl) (Row.sl h45 rfl (fun y hy => Pro.cl_len (okrb y hy)))) ?_
          refine ps_p (o_lhas 2000 3) (.bool true) (dct ((((k : Nat) : Int)) < (((s.allB.length : Nat) : Int))) (by omega)) ?_
          refine ps_end ?_
          refine then_n ?_
          refine sy_ys (.tmp 34) (part_lhas 4002) (part_lhas 4003) ?_
          refine sy_sk ?_
          refine then_n ?_
          refine sy_sq (part_lhas 2002) (part_lhas 2003) ?_
          refine sy_bk 3 (part_lhas 4004) ?_
          refine sy_reg ?_
          refine rg_plain 10 (opsAt (part_lhas 4004)) [0, 1, 2, 3, 4, 5, 6, 7, 8] (by kernel_rfl) (by kernel_rfl) ?_
          refine ps_k (o_lhas 4004 0) (vb1) ?_
          refine ps_k (o_lhas 4004 1) (vb) ?_
          refine ps_k (o_lhas 4004 2) (iN k) ?_
          refine ps_p (o_lhas 4004 3) (pT b_xrb (o_xrb + k * 35)) (exec_indexAt_slice 61 (.tmp 38) (.tmp 39) (by kernel_rfl) b_xrb o_xrb (s.allB).length c_xrb (Eq.trans (b := vb) (by kernel_rfl) hv_xrb) .i64 k (by kernel_rfl) _ 35 Try.underlying61 (by kernel_rfl) (by omega)) ?_
          refine ps_k (o_lhas 4004 4) (pT b_xrb (o_xrb + k * 35 + 1)) ?_
          refine ps_p (o_lhas 4004 5) (.int .i64 x.h) (exec_ld 3 (.tmp 41) b_xrb (o_xrb + k * 35 + 1) Try.underlying3 (Sl.cell (Row.sl h45 rfl (fun y hy => Pro.cl_len (okrb y hy))) hx hv_xrb Pro.cl_1)) ?_
          obtain ⟨V47, eV47, lit, elit, h48, kV47⟩ := alloc_step V41 (#[.int .i64 x.h]) 3
          have n49 : w.heap.size ≤ lit := elit ▸ K46.size
          refine ps_r (o_lhas 4004 6) (.slice (some ⟨lit, 0, none⟩) 1 1) (w' := V47) (by rw [← eV47, ← elit]; kernel_rfl) ?_
          have h50 : Row V47 3 1 va1 ((((s.all).take i).map (·.t)).length) ((((s.all).take i).map (·.t)).flatMap Icl) := h42.keeps kV47 (fun _ _ x => x)
          have h51 : Row V47 3 1 vb1 ((((s.allB).take k).map (·.h)).length) ((((s.allB).take k).map (·.h)).flatMap Icl) := h43.keeps kV47 (fun _ _ x => x)
          have h52 : Row V47 28 36 va s.all.length (s.all.flatMap Att.cl) := (h44).keeps kV47 (fun _ _ x => x)
          have h53 : Row V47 35 35 vb s.allB.length (s.allB.flatMap Pro.cl) := (h45).keeps kV47 (fun _ _ x => x)
          have K54 := K46.nn kV47
          have z55 := kV47.size
          obtain ⟨v56, V57, hr58, h59, hg60, hn61, ha62⟩ := run_append_any (P := Try.prog) (w := V47) 85 (Oper.type (o_lhas 4004 7)) 3 i0 (.int .i64 0) 1 8 Try.underlying85 hi0 hz0 hz1 hz2 rfl (by decide) vb1 ((((s.allB).take k).map (·.h)).length) ((((s.allB).take k).map (·.h)).flatMap Icl) h51 (.slice (some ⟨lit, 0, none⟩) 1 1) 1 (Icl x.h) (src_block h48 1 1 rfl (by kernel_rfl)) (by unfold maxLen; omega) (by omega)
          have kV57 : Keeps (fun j => vb1.ownBlock = some j) V47 V57 := Keeps.rowAdd hg60
          have hw63 : NewFrom V12.heap.size v56 := hnwb.next (by omega) ha62
          refine ps_r (o_lhas 4004 7) v56 (w' := V57) (exec_append (.tmp 37) (.tmp 43) 85 (by kernel_rfl) vb1 (.slice (some ⟨lit, 0, none⟩) 1 1) (by kernel_rfl) (by kernel_rfl) hr58) ?_
          have h64 : Row V57 3 1 v56 ((((s.allB).take (k + 1)).map (·.h)).length) ((((s.allB).take (k + 1)).map (·.h)).flatMap Icl) := (map_row hx h59)
          have h65 : Row V57 3 1 va1 ((((s.all).take i).map (·.t)).length) ((((s.all).take i).map (·.t)).flatMap Icl) := h50.keeps kV57 (fun j hj e => by have := hnwb j e; have := lta_ j hj; omega)
          have h66 : Row V57 28 36 va s.all.length (s.all.flatMap Att.cl) := (h52).keeps kV57 (Row.apart h52 h51 (by decide))
          have h67 : Row V57 35 35 vb s.allB.length (s.allB.flatMap Pro.cl) := (h53).keeps kV57 (Row.apart h53 h51 (by decide))
          have K68 : Keeps Nob w V57 := K54.then kV57 (fun i hi hm => absurd hi (by have := hnwb i hm; omega))
          have z69 := kV57.size
          refine ps_k (o_lhas 4004 8) (v56) ?_
          refine ps_end ?_
          refine blk_n ?_
          refine then_n ?_
          refine sy_reg ?_
          refine rg_plain 9 (opsAt (part_lhas 2003)) [0, 1, 2] (by kernel_rfl) (by kernel_rfl) ?_
          refine ps_k (o_lhas 2003 0) (iN k) ?_
          refine ps_p (o_lhas 2003 1) (iN (k + 1)) (exec_cast (congrArg (Value.int .i64) (wrapN (k + 1) (by omega))) (by kernel_rfl)) ?_
          refine ps_k (o_lhas 2003 2) (iN (k + 1)) ?_
          refine ps_end ?_
          refine then_n ?_
          refine ⟨⟨k + 1, v56, (iN k), vb, (iN s.allB.length), (.bool true), (iN k), (iN (k + 1)), vb1, vb, (iN k), (pT b_xrb (o_xrb + k * 35)), (pT b_xrb (o_xrb + k * 35 + 1)), (.int .i64 x.h), (.slice (some ⟨lit, 0, none⟩) 1 1), v56, by kernel_rfl, by omega, h65, h64, h66, h67, K68, hw63, by omega⟩, ?_⟩
          exact lt_meas (x := s.allB.length - (k + 1)) (y := s.allB.length - k) (by kernel_rfl) (by kernel_rfl) (by omega)
        · have ek : k = s.allB.length := by omega
          refine sy_sq (part_lhas 1000) (part_lhas 1001) ?_
          refine sy_sq (part_lhas 2000) (part_lhas 2001) ?_
          refine sy_reg ?_
          refine rg_plain 8 (opsAt (part_lhas 2000)) [0, 1, 2, 3] (by kernel_rfl) (by kernel_rfl) ?_
          refine ps_k (o_lhas 2000 0) (iN k) ?_
          refine ps_k (o_lhas 2000 1) (vb) ?_
          refine ps_p (o_lhas 2000 2) (iN s.allB.length) (exec_len_sl (.tmp 32) 61 35 (by kernel_rfl) Try.underlying61 (by kernel_rfl) (Row.sl h45 rfl (fun y hy => Pro.cl_len (okrb y hy)))) ?_
          refine ps_p (o_lhas 2000 3) (.bool false) (dcf ((((k : Nat) : Int)) < (((s.allB.length : Nat) : Int))) (by omega)) ?_
          refine ps_end ?_
          refine then_n ?_
          refine sy_n (.tmp 34) (part_lhas 4002) (part_lhas 4003) ?_
          refine sy_exit 2 (by kernel_rfl) ?_
          refine then_e ?_
          refine then_e ?_
          refine blk_e ?_
          refine then_n ?_
          refine sy_sq (part_lhas 126) (part_lhas 127) ?_
          refine sy_reg ?_
          refine rg_plain 11 (opsAt (part_lhas 126)) [0, 1, 2, 3, 4, 5, 6, 7, 8] (by kernel_rfl) (by kernel_rfl) ?_
          refine ps_k (o_lhas 126 0) (va1) ?_
          refine ps_k (o_lhas 126 1) (vs) ?_
          refine ps_c (o_lhas 126 2) 40 #[va1, vs] Try.func40 ((kSameInts_same _ _ ts _ (by have hh := h42; rw [ei, List.take_of_length_le (Nat.le_refl _), hts] at hh; exact row_ints hh rfl) (Hs.keepsN K46)).mono ?_)
          rintro e V70 ⟨rfl, kV70⟩
          refine ⟨_, rfl, ?_⟩
          have h71 : Row V70 3 1 va1 ((((s.all).take i).map (·.t)).length) ((((s.all).take i).map (·.t)).flatMap Icl) := h42.keeps kV70 (fun _ _ x => x)
          have h72 : Row V70 3 1 vb1 ((((s.allB).take k).map (·.h)).length) ((((s.allB).take k).map (·.h)).flatMap Icl) := h43.keeps kV70 (fun _ _ x => x)
          have h73 : Row V70 28 36 va s.all.length (s.all.flatMap Att.cl) := (h44).keeps kV70 (fun _ _ x => x)
          have h74 : Row V70 35 35 vb s.allB.length (s.allB.flatMap Pro.cl) := (h45).keeps kV70 (fun _ _ x => x)
          have K75 := K46.nn kV70
          have z76 := kV70.size
          refine ps_k (o_lhas 126 3) (.bool true) ?_
          refine ps_k (o_lhas 126 4) (vb1) ?_
          refine ps_k (o_lhas 126 5) (vh) ?_
          refine ps_c (o_lhas 126 6) 40 #[vb1, vh] Try.func40 ((kSameInts_same _ _ hs _ (by have hh := h72; rw [ek, List.take_of_length_le (Nat.le_refl _), hhs] at hh; exact row_ints hh rfl) (Hh.keepsN K75)).mono ?_)
          rintro e V77 ⟨rfl, kV77⟩
          refine ⟨_, rfl, ?_⟩
          have h78 : Row V77 3 1 va1 ((((s.all).take i).map (·.t)).length) ((((s.all).take i).map (·.t)).flatMap Icl) := h71.keeps kV77 (fun _ _ x => x)
          have h79 : Row V77 3 1 vb1 ((((s.allB).take k).map (·.h)).length) ((((s.allB).take k).map (·.h)).flatMap Icl) := h72.keeps kV77 (fun _ _ x => x)
          have h80 : Row V77 28 36 va s.all.length (s.all.flatMap Att.cl) := (h73).keeps kV77 (fun _ _ x => x)
          have h81 : Row V77 35 35 vb s.allB.length (s.allB.flatMap Pro.cl) := (h74).keeps kV77 (fun _ _ x => x)
          have K82 := K75.nn kV77
          have z83 := kV77.size
          refine ps_k (o_lhas 126 7) (.bool true) ?_
          refine ps_k (o_lhas 126 8) (.bool true) ?_
          refine ps_end ?_
          refine then_n ?_
          refine sy_ret (by kernel_rfl) ?_
          refine sy_out (.bool true) rfl (by kernel_rfl) ?_
          exact ⟨rfl, K82⟩
end Go.Proofs.Ytgipooedgbbliaa
