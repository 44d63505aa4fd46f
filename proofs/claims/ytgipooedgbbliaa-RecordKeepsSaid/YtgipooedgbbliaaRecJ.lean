/-
  Records: lists of votes compared and written over; what the document's record tells (printed by rec5.py). Conditions: none.
-/
import Derived.Test.YtgipooedgbbliaaRecI
namespace Go.Proofs.Ytgipooedgbbliaa
open Go Go.RowKit Go.Own Go.Shelf

theorem allsame_step {α : Type} [DecidableEq α] {l m : List α} (hl : l.length = m.length) {k : Nat} {x y : α} (hx : l[k]? = some x) (hy : m[k]? = some y) (h : l.take k = m.take k) : (l.take (k + 1) = m.take (k + 1)) ↔ x = y := by
  rw [List.take_add_one, List.take_add_one, hx, hy, h]
  constructor
  · intro h2; have := List.append_cancel_left h2; simpa using this
  · intro h2; rw [h2]

noncomputable def part_kSameVotes (n : Nat) : Code := partOf Try.f27 n
noncomputable abbrev o_kSameVotes (n k : Nat) : Oper := (opsAt (part_kSameVotes n)).getD k default
set_option maxRecDepth 100000 in
set_option maxHeartbeats 4000000 in
theorem kSameVotes_len (va vb : Value) (l m : List Att) (w : World) (Ha : AttsAt w va l) (Hb : AttsAt w vb m) (oka : ∀ x ∈ l, x.Ok) (okb : ∀ x ∈ m, x.Ok) (hne : l.length ≠ m.length) :
    Calls Try.prog 27 #[va, vb] w (fun e w' => e = .returned (.bool (false)) ∧ Keeps Nob w w') := by
  have hll := Ha.len_le
  have hml := Hb.len_le
  have K0 : Keeps Nob w w := Keeps.refl _ _
  refine sy_enter (part_kSameVotes 1) ⟨#[va, vb, undef, undef, undef, undef, undef, undef, undef, undef, undef, undef, undef, undef, undef, undef, undef, undef, undef, undef, undef, undef, undef, undef, undef, undef, undef, undef, undef, undef, undef], []⟩ Try.func27 (by kernel_rfl) (by kernel_rfl) ?_
  refine sy_sq (part_kSameVotes 2) (part_kSameVotes 3) ?_
  refine sy_reg ?_
  refine rg_plain 0 (opsAt (part_kSameVotes 2)) [0] (by kernel_rfl) (by kernel_rfl) ?_
  refine ps_k (o_kSameVotes 2 0) (.bool false) ?_
  refine ps_end ?_
  refine then_n ?_
  refine sy_sq (part_kSameVotes 6) (part_kSameVotes 7) ?_
  refine sy_reg ?_
  refine rg_plain 1 (opsAt (part_kSameVotes 6)) [0, 1, 2, 3, 4, 5] (by kernel_rfl) (by kernel_rfl) ?_
  refine ps_k (o_kSameVotes 6 0) (va) ?_
  refine ps_p (o_kSameVotes 6 1) (iN l.length) (exec_len_sl (.tmp 7) 59 28 (by kernel_rfl) Try.underlying59 (by kernel_rfl) Ha) ?_
  refine ps_k (o_kSameVotes 6 2) (vb) ?_
  refine ps_p (o_kSameVotes 6 3) (iN m.length) (exec_len_sl (.tmp 9) 59 28 (by kernel_rfl) Try.underlying59 (by kernel_rfl) Hb) ?_
  refine ps_p (o_kSameVotes 6 4) (.bool false) (eqf (((l.length : Nat) : Int)) (((m.length : Nat) : Int)) (by omega)) ?_
  refine ps_k (o_kSameVotes 6 5) (.bool false) ?_
  refine ps_end ?_
  refine then_n ?_
  refine sy_sq (part_kSameVotes 14) (part_kSameVotes 15) ?_
  refine sy_sq (part_kSameVotes 28) (part_kSameVotes 29) ?_
  refine sy_reg ?_
  refine rg_plain 2 (opsAt (part_kSameVotes 28)) [0] (by kernel_rfl) (by kernel_rfl) ?_
  refine ps_k (o_kSameVotes 28 0) (.int .i64 0) ?_
  refine ps_end ?_
  refine then_n ?_
  refine sy_bk 0 (part_kSameVotes 58) ?_
  refine sy_rounds 1 (part_kSameVotes 116) (by kernel_rfl) ?_
  refine rd_step ?_
  refine sy_sq (part_kSameVotes 232) (part_kSameVotes 233) ?_
  refine sy_sq (part_kSameVotes 464) (part_kSameVotes 465) ?_
  refine sy_reg ?_
  refine rg_plain 3 (opsAt (part_kSameVotes 464)) [0, 1, 2, 3, 4, 5, 6] (by kernel_rfl) (by kernel_rfl) ?_
  refine ps_k (o_kSameVotes 464 0) (.bool false) ?_
  refine ps_k (o_kSameVotes 464 1) (.bool false) ?_
  refine ps_n (o_kSameVotes 464 2) ?_
  refine ps_n (o_kSameVotes 464 3) ?_
  refine ps_n (o_kSameVotes 464 4) ?_
  refine ps_n (o_kSameVotes 464 5) ?_
  refine ps_k (o_kSameVotes 464 6) (.bool false) ?_
  refine ps_end ?_
  refine then_n ?_
  refine sy_n (.tmp 18) (part_kSameVotes 930) (part_kSameVotes 931) ?_
  refine sy_exit 0 (by kernel_rfl) ?_
  refine then_e ?_
  refine then_e ?_
  refine blk_e ?_
  refine then_n ?_
  refine sy_sq (part_kSameVotes 30) (part_kSameVotes 31) ?_
  refine sy_reg ?_
  refine rg_plain 6 (opsAt (part_kSameVotes 30)) [0, 1] (by kernel_rfl) (by kernel_rfl) ?_
  refine ps_k (o_kSameVotes 30 0) (.bool false) ?_
  refine ps_k (o_kSameVotes 30 1) (.bool false) ?_
  refine ps_end ?_
  refine then_n ?_
  refine sy_ret (by kernel_rfl) ?_
  refine sy_out (.bool false) rfl (by kernel_rfl) ?_
  exact ⟨rfl, K0⟩
theorem kSameVotes_cases : True := trivial
theorem same_cases (l m : List Att) (k : Nat) (bb : Bool) (hlen : l.length = m.length) (hk : k ≤ l.length) (hb : bb = decide (l.take k = m.take k)) :
    (bb = true ∧ k < l.length ∧ ∀ x y, l[k]? = some x → m[k]? = some y → x = y) ∨ (bb = true ∧ k < l.length ∧ ∀ x y, l[k]? = some x → m[k]? = some y → x ≠ y) ∨ (bb = true ∧ k = l.length ∧ l = m) ∨ (bb = false ∧ l ≠ m) := by
  cases bb with
  | false => exact .inr (.inr (.inr ⟨rfl, fun e => by subst e; simp at hb⟩))
  | true =>
    have ht : l.take k = m.take k := of_decide_eq_true hb.symm
    by_cases hlt : k < l.length
    · by_cases h : l[k]? = m[k]?
      · exact .inl ⟨rfl, hlt, fun x y hx hy => by rw [hx, hy] at h; exact Option.some.inj h⟩
      · exact .inr (.inl ⟨rfl, hlt, fun x y hx hy e => h (by rw [hx, hy, e])⟩)
    · have hk2 : k = l.length := by omega
      refine .inr (.inr (.inl ⟨rfl, hk2, ?_⟩))
      rwa [List.take_of_length_le (by omega), List.take_of_length_le (by omega)] at ht
set_option maxRecDepth 100000 in
set_option maxHeartbeats 4000000 in
theorem kSameVotes_eq (va vb : Value) (l m : List Att) (w : World) (Ha : AttsAt w va l) (Hb : AttsAt w vb m) (oka : ∀ x ∈ l, x.Ok) (okb : ∀ x ∈ m, x.Ok) (hlen : l.length = m.length) :
    Calls Try.prog 27 #[va, vb] w (fun e w' => e = .returned (.bool (decide (l = m))) ∧ Keeps Nob w w') := by
  have hll := Ha.len_le
  have hml := Hb.len_le
  have K0 : Keeps Nob w w := Keeps.refl _ _
  refine sy_enter (part_kSameVotes 1) ⟨#[va, vb, undef, undef, undef, undef, undef, undef, undef, undef, undef, undef, undef, undef, undef, undef, undef, undef, undef, undef, undef, undef, undef, undef, undef, undef, undef, undef, undef, undef, undef], []⟩ Try.func27 (by kernel_rfl) (by kernel_rfl) ?_
  refine sy_sq (part_kSameVotes 2) (part_kSameVotes 3) ?_
  refine sy_reg ?_
  refine rg_plain 0 (opsAt (part_kSameVotes 2)) [0] (by kernel_rfl) (by kernel_rfl) ?_
  refine ps_k (o_kSameVotes 2 0) (.bool false) ?_
  refine ps_end ?_
  refine then_n ?_
  refine sy_sq (part_kSameVotes 6) (part_kSameVotes 7) ?_
  refine sy_reg ?_
  refine rg_plain 1 (opsAt (part_kSameVotes 6)) [0, 1, 2, 3, 4, 5] (by kernel_rfl) (by kernel_rfl) ?_
  refine ps_k (o_kSameVotes 6 0) (va) ?_
  refine ps_p (o_kSameVotes 6 1) (iN l.length) (exec_len_sl (.tmp 7) 59 28 (by kernel_rfl) Try.underlying59 (by kernel_rfl) Ha) ?_
  refine ps_k (o_kSameVotes 6 2) (vb) ?_
  refine ps_p (o_kSameVotes 6 3) (iN m.length) (exec_len_sl (.tmp 9) 59 28 (by kernel_rfl) Try.underlying59 (by kernel_rfl) Hb) ?_
  refine ps_p (o_kSameVotes 6 4) (.bool true) (eqt (((l.length : Nat) : Int)) (((m.length : Nat) : Int)) (by omega)) ?_
  refine ps_k (o_kSameVotes 6 5) (.bool true) ?_
  refine ps_end ?_
  refine then_n ?_
  refine sy_sq (part_kSameVotes 14) (part_kSameVotes 15) ?_
  refine sy_sq (part_kSameVotes 28) (part_kSameVotes 29) ?_
  refine sy_reg ?_
  refine rg_plain 2 (opsAt (part_kSameVotes 28)) [0] (by kernel_rfl) (by kernel_rfl) ?_
  refine ps_k (o_kSameVotes 28 0) (.int .i64 0) ?_
  refine ps_end ?_
  refine then_n ?_
  refine sy_bk 0 (part_kSameVotes 58) ?_
  refine sy_loop (part_kSameVotes 116) (fun a V => ∃ (k : Nat) (bb : Bool) (u12 u13 u14 u15 u16 u17 u18 u19 u20 u21 u22 u23 u24 u25 u26 u27 u28 u29 : Value), (a = ⟨#[va, vb, undef, undef, .bool false, .bool bb, iN k, va, iN l.length, vb, iN m.length, .bool true, u12, u13, u14, u15, u16, u17, u18, u19, u20, u21, u22, u23, u24, u25, u26, u27, u28, u29, undef], []⟩) ∧ (k ≤ l.length) ∧ (bb = decide (l.take k = m.take k)) ∧ (AttsAt V va l) ∧ (AttsAt V vb m) ∧ (Keeps Nob w V)) (fun a _ => l.length - (intOf (a.tmps.getD 6 undef)).toNat) (by kernel_rfl) ?_ ?_
  · exact ⟨0, true, undef, undef, undef, undef, undef, undef, undef, undef, undef, undef, undef, undef, undef, undef, undef, undef, undef, undef, by kernel_rfl, Nat.zero_le _, rfl, Ha, Hb, K0⟩
  · rintro a V1 ⟨k, bb, u12, u13, u14, u15, u16, u17, u18, u19, u20, u21, u22, u23, u24, u25, u26, u27, u28, u29, rfl, hk, hb, h2, h3, K4⟩
    rcases same_cases l m k bb hlen hk hb with ⟨rfl, hlt, hx0⟩ | ⟨rfl, hlt, hx0⟩ | ⟨rfl, heq, ht⟩ | ⟨rfl, hf⟩
    · obtain ⟨x, hx⟩ : ∃ x, l[k]? = some x := ⟨_, List.getElem?_eq_getElem hlt⟩
      obtain ⟨y, hy⟩ : ∃ y, m[k]? = some y := ⟨_, List.getElem?_eq_getElem (by omega)⟩
      obtain ⟨b_a, o_a, c_a, hv_a, hb_a, _⟩ := (h2).at_ k _ hx
      obtain ⟨b_b, o_b, c_b, hv_b, hb_b, _⟩ := (h3).at_ k _ hy
      skip
      have hxy := hx0 x y hx hy
      refine sy_sq (part_kSameVotes 232) (part_kSameVotes 233) ?_
      refine sy_sq (part_kSameVotes 464) (part_kSameVotes 465) ?_
      refine sy_reg ?_
      refine rg_plain 3 (opsAt (part_kSameVotes 464)) [0, 1, 2, 3, 4, 5, 6] (by kernel_rfl) (by kernel_rfl) ?_
      refine ps_k (o_kSameVotes 464 0) (.bool true) ?_
      refine ps_k (o_kSameVotes 464 1) (.bool true) ?_
      refine ps_k (o_kSameVotes 464 2) (iN k) ?_
      refine ps_k (o_kSameVotes 464 3) (va) ?_
      refine ps_p (o_kSameVotes 464 4) (iN l.length) (exec_len_sl (.tmp 15) 59 28 (by kernel_rfl) Try.underlying59 (by kernel_rfl) h2) ?_
      refine ps_p (o_kSameVotes 464 5) (.bool true) (dct ((((k : Nat) : Int)) < (((l.length : Nat) : Int))) (by omega)) ?_
      refine ps_k (o_kSameVotes 464 6) (.bool true) ?_
      refine ps_end ?_
      refine then_n ?_
      refine sy_ys (.tmp 18) (part_kSameVotes 930) (part_kSameVotes 931) ?_
      refine sy_sk ?_
      refine then_n ?_
      refine sy_sq (part_kSameVotes 466) (part_kSameVotes 467) ?_
      refine sy_bk 1 (part_kSameVotes 932) ?_
      refine sy_reg ?_
      refine rg_still 5 9 (opsAt (part_kSameVotes 932)) [o_kSameVotes 932 0, o_kSameVotes 932 1, o_kSameVotes 932 2, o_kSameVotes 932 3, o_kSameVotes 932 4, o_kSameVotes 932 5, o_kSameVotes 932 6, o_kSameVotes 932 7, o_kSameVotes 932 8] [o_kSameVotes 932 9] (by kernel_rfl) (by kernel_rfl) (by kernel_rfl) (by kernel_rfl) (by kernel_rfl) ?_
      obtain ⟨V6, eV6, kV6⟩ := drew_step V1
      rw [eV6]
      clear eV6
      have h7 : AttsAt V6 va l := h2.keepsN kV6
      have h8 : AttsAt V6 vb m := h3.keepsN kV6
      have K9 := K4.nn kV6
      refine st_k (o_kSameVotes 932 0) (va) ?_
      refine st_k (o_kSameVotes 932 1) (iN k) ?_
      refine st_p (o_kSameVotes 932 2) (pT b_a (o_a + k * 36)) (exec_indexAt_slice 59 (.tmp 21) (.tmp 22) (by kernel_rfl) b_a o_a l.length c_a (Eq.trans (b := va) (by kernel_rfl) hv_a) .i64 k (by kernel_rfl) _ 36 Try.underlying59 (by kernel_rfl) (by omega)) ?_
      refine st_p (o_kSameVotes 932 3) (.agg (Att.c x)) (exec_load_mid 28 (.tmp 23) (by kernel_rfl) b_a (o_a + k * 36) (by kernel_rfl) (Att.cl x) _ (Sl.range h7 hx hv_a) Try.underlying28 rfl (by rw [Att.cl_len (oka x (List.mem_of_getElem? hx))]; kernel_rfl)) ?_
      refine st_k (o_kSameVotes 932 4) (vb) ?_
      refine st_k (o_kSameVotes 932 5) (iN k) ?_
      refine st_p (o_kSameVotes 932 6) (pT b_b (o_b + k * 36)) (exec_indexAt_slice 59 (.tmp 25) (.tmp 26) (by kernel_rfl) b_b o_b m.length c_b (Eq.trans (b := vb) (by kernel_rfl) hv_b) .i64 k (by kernel_rfl) _ 36 Try.underlying59 (by kernel_rfl) (by omega)) ?_
      refine st_p (o_kSameVotes 932 7) (.agg (Att.c y)) (exec_load_mid 28 (.tmp 27) (by kernel_rfl) b_b (o_b + k * 36) (by kernel_rfl) (Att.cl y) _ (Sl.range h8 hy hv_b) Try.underlying28 rfl (by rw [Att.cl_len (okb y (List.mem_of_getElem? hy))]; kernel_rfl)) ?_
      refine st_p (o_kSameVotes 932 8) (.bool true) (exec_cast (congrArg Value.bool (decide_eq_true hxy)) (exec_binop .eql 28 28 (.tmp 24) (.tmp 28) (by kernel_rfl) (.agg (Att.c x)) (.agg (Att.c y)) _ (by kernel_rfl) (by kernel_rfl) (run_eqGuard_agg _ _ _ _ _ _ _ att_guard) (att_eq _ _ (oka x (List.mem_of_getElem? hx)).r (okb y (List.mem_of_getElem? hy)).r _))) ?_
      refine st_end ?_
      refine ls_run (o_kSameVotes 932 9) (.bool true) (w' := V6) (by kernel_rfl) (by kernel_rfl) ?_
      refine ls_end ?_
      refine blk_n ?_
      refine then_n ?_
      refine sy_reg ?_
      refine rg_plain 4 (opsAt (part_kSameVotes 467)) [0, 1, 2] (by kernel_rfl) (by kernel_rfl) ?_
      refine ps_k (o_kSameVotes 467 0) (iN k) ?_
      refine ps_p (o_kSameVotes 467 1) (iN (k + 1)) (exec_cast (congrArg (Value.int .i64) (wrapN (k + 1) (by omega))) (by kernel_rfl)) ?_
      refine ps_k (o_kSameVotes 467 2) (iN (k + 1)) ?_
      refine ps_end ?_
      refine then_n ?_
      refine ⟨⟨k + 1, true, (.bool true), (.bool true), (iN k), va, (iN l.length), (.bool true), (.bool true), (iN k), (iN (k + 1)), va, (iN k), (pT b_a (o_a + k * 36)), (.agg (Att.c x)), vb, (iN k), (pT b_b (o_b + k * 36)), (.agg (Att.c y)), (.bool true), by kernel_rfl, by omega, (by first | exact (decide_eq_true ((allsame_step hlen hx hy (of_decide_eq_true hb.symm)).2 hxy)).symm | exact (decide_eq_false (fun h => hxy ((allsame_step hlen hx hy (of_decide_eq_true hb.symm)).1 h))).symm), h7, h8, K9⟩, ?_⟩
      exact lt_meas (x := l.length - (k + 1)) (y := l.length - k) (by kernel_rfl) (by kernel_rfl) (by omega)
    · obtain ⟨x, hx⟩ : ∃ x, l[k]? = some x := ⟨_, List.getElem?_eq_getElem hlt⟩
      obtain ⟨y, hy⟩ : ∃ y, m[k]? = some y := ⟨_, List.getElem?_eq_getElem (by omega)⟩
      obtain ⟨b_a, o_a, c_a, hv_a, hb_a, _⟩ := (h2).at_ k _ hx
      obtain ⟨b_b, o_b, c_b, hv_b, hb_b, _⟩ := (h3).at_ k _ hy
      skip
      have hxy := hx0 x y hx hy
      refine sy_sq (part_kSameVotes 232) (part_kSameVotes 233) ?_
      refine sy_sq (part_kSameVotes 464) (part_kSameVotes 465) ?_
      refine sy_reg ?_
      refine rg_plain 3 (opsAt (part_kSameVotes 464)) [0, 1, 2, 3, 4, 5, 6] (by kernel_rfl) (by kernel_rfl) ?_
      refine ps_k (o_kSameVotes 464 0) (.bool true) ?_
      refine ps_k (o_kSameVotes 464 1) (.bool true) ?_
      refine ps_k (o_kSameVotes 464 2) (iN k) ?_
      refine ps_k (o_kSameVotes 464 3) (va) ?_
      refine ps_p (o_kSameVotes 464 4) (iN l.length) (exec_len_sl (.tmp 15) 59 28 (by kernel_rfl) Try.underlying59 (by kernel_rfl) h2) ?_
      refine ps_p (o_kSameVotes 464 5) (.bool true) (dct ((((k : Nat) : Int)) < (((l.length : Nat) : Int))) (by omega)) ?_
      refine ps_k (o_kSameVotes 464 6) (.bool true) ?_
      refine ps_end ?_
      refine then_n ?_
      refine sy_ys (.tmp 18) (part_kSameVotes 930) (part_kSameVotes 931) ?_
      refine sy_sk ?_
      refine then_n ?_
      refine sy_sq (part_kSameVotes 466) (part_kSameVotes 467) ?_
      refine sy_bk 1 (part_kSameVotes 932) ?_
      refine sy_reg ?_
      refine rg_still 5 9 (opsAt (part_kSameVotes 932)) [o_kSameVotes 932 0, o_kSameVotes 932 1, o_kSameVotes 932 2, o_kSameVotes 932 3, o_kSameVotes 932 4, o_kSameVotes 932 5, o_kSameVotes 932 6, o_kSameVotes 932 7, o_kSameVotes 932 8] [o_kSameVotes 932 9] (by kernel_rfl) (by kernel_rfl) (by kernel_rfl) (by kernel_rfl) (by kernel_rfl) ?_
      obtain ⟨V11, eV11, kV11⟩ := drew_step V1
      rw [eV11]
      clear eV11
      have h12 : AttsAt V11 va l := h2.keepsN kV11
      have h13 : AttsAt V11 vb m := h3.keepsN kV11
      have K14 := K4.nn kV11
      refine st_k (o_kSameVotes 932 0) (va) ?_
      refine st_k (o_kSameVotes 932 1) (iN k) ?_
      refine st_p (o_kSameVotes 932 2) (pT b_a (o_a + k * 36)) (exec_indexAt_slice 59 (.tmp 21) (.tmp 22) (by kernel_rfl) b_a o_a l.length c_a (Eq.trans (b := va) (by kernel_rfl) hv_a) .i64 k (by kernel_rfl) _ 36 Try.underlying59 (by kernel_rfl) (by omega)) ?_
      refine st_p (o_kSameVotes 932 3) (.agg (Att.c x)) (exec_load_mid 28 (.tmp 23) (by kernel_rfl) b_a (o_a + k * 36) (by kernel_rfl) (Att.cl x) _ (Sl.range h12 hx hv_a) Try.underlying28 rfl (by rw [Att.cl_len (oka x (List.mem_of_getElem? hx))]; kernel_rfl)) ?_
      refine st_k (o_kSameVotes 932 4) (vb) ?_
      refine st_k (o_kSameVotes 932 5) (iN k) ?_
      refine st_p (o_kSameVotes 932 6) (pT b_b (o_b + k * 36)) (exec_indexAt_slice 59 (.tmp 25) (.tmp 26) (by kernel_rfl) b_b o_b m.length c_b (Eq.trans (b := vb) (by kernel_rfl) hv_b) .i64 k (by kernel_rfl) _ 36 Try.underlying59 (by kernel_rfl) (by omega)) ?_
      refine st_p (o_kSameVotes 932 7) (.agg (Att.c y)) (exec_load_mid 28 (.tmp 27) (by kernel_rfl) b_b (o_b + k * 36) (by kernel_rfl) (Att.cl y) _ (Sl.range h13 hy hv_b) Try.underlying28 rfl (by rw [Att.cl_len (okb y (List.mem_of_getElem? hy))]; kernel_rfl)) ?_
      refine st_p (o_kSameVotes 932 8) (.bool false) (exec_cast (congrArg Value.bool (decide_eq_false hxy)) (exec_binop .eql 28 28 (.tmp 24) (.tmp 28) (by kernel_rfl) (.agg (Att.c x)) (.agg (Att.c y)) _ (by kernel_rfl) (by kernel_rfl) (run_eqGuard_agg _ _ _ _ _ _ _ att_guard) (att_eq _ _ (oka x (List.mem_of_getElem? hx)).r (okb y (List.mem_of_getElem? hy)).r _))) ?_
      refine st_end ?_
      refine ls_run (o_kSameVotes 932 9) (.bool false) (w' := V11) (by kernel_rfl) (by kernel_rfl) ?_
      refine ls_end ?_
      refine blk_n ?_
      refine then_n ?_
      refine sy_reg ?_
      refine rg_plain 4 (opsAt (part_kSameVotes 467)) [0, 1, 2] (by kernel_rfl) (by kernel_rfl) ?_
      refine ps_k (o_kSameVotes 467 0) (iN k) ?_
      refine ps_p (o_kSameVotes 467 1) (iN (k + 1)) (exec_cast (congrArg (Value.int .i64) (wrapN (k + 1) (by omega))) (by kernel_rfl)) ?_
      refine ps_k (o_kSameVotes 467 2) (iN (k + 1)) ?_
      refine ps_end ?_
      refine then_n ?_
      refine ⟨⟨k + 1, false, (.bool true), (.bool true), (iN k), va, (iN l.length), (.bool true), (.bool true), (iN k), (iN (k + 1)), va, (iN k), (pT b_a (o_a + k * 36)), (.agg (Att.c x)), vb, (iN k), (pT b_b (o_b + k * 36)), (.agg (Att.c y)), (.bool false), by kernel_rfl, by omega, (by first | exact (decide_eq_true ((allsame_step hlen hx hy (of_decide_eq_true hb.symm)).2 hxy)).symm | exact (decide_eq_false (fun h => hxy ((allsame_step hlen hx hy (of_decide_eq_true hb.symm)).1 h))).symm), h12, h13, K14⟩, ?_⟩
      exact lt_meas (x := l.length - (k + 1)) (y := l.length - k) (by kernel_rfl) (by kernel_rfl) (by omega)
    · skip
      refine sy_sq (part_kSameVotes 232) (part_kSameVotes 233) ?_
      refine sy_sq (part_kSameVotes 464) (part_kSameVotes 465) ?_
      refine sy_reg ?_
      refine rg_plain 3 (opsAt (part_kSameVotes 464)) [0, 1, 2, 3, 4, 5, 6] (by kernel_rfl) (by kernel_rfl) ?_
      refine ps_k (o_kSameVotes 464 0) (.bool true) ?_
      refine ps_k (o_kSameVotes 464 1) (.bool true) ?_
      refine ps_k (o_kSameVotes 464 2) (iN k) ?_
      refine ps_k (o_kSameVotes 464 3) (va) ?_
      refine ps_p (o_kSameVotes 464 4) (iN l.length) (exec_len_sl (.tmp 15) 59 28 (by kernel_rfl) Try.underlying59 (by kernel_rfl) h2) ?_
      refine ps_p (o_kSameVotes 464 5) (.bool false) (dcf ((((k : Nat) : Int)) < (((l.length : Nat) : Int))) (by omega)) ?_
      refine ps_k (o_kSameVotes 464 6) (.bool false) ?_
      refine ps_end ?_
      refine then_n ?_
      refine sy_n (.tmp 18) (part_kSameVotes 930) (part_kSameVotes 931) ?_
      refine sy_exit 0 (by kernel_rfl) ?_
      refine then_e ?_
      refine then_e ?_
      refine blk_e ?_
      refine then_n ?_
      refine sy_sq (part_kSameVotes 30) (part_kSameVotes 31) ?_
      refine sy_reg ?_
      refine rg_plain 6 (opsAt (part_kSameVotes 30)) [0, 1] (by kernel_rfl) (by kernel_rfl) ?_
      refine ps_k (o_kSameVotes 30 0) (.bool true) ?_
      refine ps_k (o_kSameVotes 30 1) (.bool true) ?_
      refine ps_end ?_
      refine then_n ?_
      refine sy_ret (by kernel_rfl) ?_
      refine sy_out (.bool true) rfl (by kernel_rfl) ?_
      exact ⟨by first | (rw [decide_eq_true (by first | exact ht | exact hf)]) | (rw [decide_eq_false (by first | exact ht | exact hf)]), K4⟩
    · skip
      refine sy_sq (part_kSameVotes 232) (part_kSameVotes 233) ?_
      refine sy_sq (part_kSameVotes 464) (part_kSameVotes 465) ?_
      refine sy_reg ?_
      refine rg_plain 3 (opsAt (part_kSameVotes 464)) [0, 1, 2, 3, 4, 5, 6] (by kernel_rfl) (by kernel_rfl) ?_
      refine ps_k (o_kSameVotes 464 0) (.bool false) ?_
      refine ps_k (o_kSameVotes 464 1) (.bool false) ?_
      refine ps_n (o_kSameVotes 464 2) ?_
      refine ps_n (o_kSameVotes 464 3) ?_
      refine ps_n (o_kSameVotes 464 4) ?_
      refine ps_n (o_kSameVotes 464 5) ?_
      refine ps_k (o_kSameVotes 464 6) (.bool false) ?_
      refine ps_end ?_
      refine then_n ?_
      refine sy_n (.tmp 18) (part_kSameVotes 930) (part_kSameVotes 931) ?_
      refine sy_exit 0 (by kernel_rfl) ?_
      refine then_e ?_
      refine then_e ?_
      refine blk_e ?_
      refine then_n ?_
      refine sy_sq (part_kSameVotes 30) (part_kSameVotes 31) ?_
      refine sy_reg ?_
      refine rg_plain 6 (opsAt (part_kSameVotes 30)) [0, 1] (by kernel_rfl) (by kernel_rfl) ?_
      refine ps_k (o_kSameVotes 30 0) (.bool false) ?_
      refine ps_k (o_kSameVotes 30 1) (.bool false) ?_
      refine ps_end ?_
      refine then_n ?_
      refine sy_ret (by kernel_rfl) ?_
      refine sy_out (.bool false) rfl (by kernel_rfl) ?_
      exact ⟨by first | (rw [decide_eq_true (by first | exact ht | exact hf)]) | (rw [decide_eq_false (by first | exact ht | exact hf)]), K4⟩
theorem kSameVotes_ok (va vb : Value) (l m : List Att) (w : World) (Ha : AttsAt w va l) (Hb : AttsAt w vb m) (oka : ∀ x ∈ l, x.Ok) (okb : ∀ x ∈ m, x.Ok) : Calls Try.prog 27 #[va, vb] w fun e w' => e = .returned (.bool (decide (l = m))) ∧ Keeps Nob w w' := by
  by_cases h : l.length = m.length
  · exact kSameVotes_eq va vb l m w Ha Hb oka okb h
  · rw [decide_eq_false (fun e => h (by rw [e]))]; exact kSameVotes_len va vb l m w Ha Hb oka okb h
noncomputable def part_kSameBlocks (n : Nat) : Code := partOf Try.f28 n
noncomputable abbrev o_kSameBlocks (n k : Nat) : Oper := (opsAt (part_kSameBlocks n)).getD k default
set_option maxRecDepth 100000 in
set_option maxHeartbeats 4000000 in
theorem kSameBlocks_len (va vb : Value) (l m : List Pro) (w : World) (Ha : ProsAt w va l) (Hb : ProsAt w vb m) (oka : ∀ x ∈ l, x.Ok) (okb : ∀ x ∈ m, x.Ok) (hne : l.length ≠ m.length) :
    Calls Try.prog 28 #[va, vb] w (fun e w' => e = .returned (.bool (false)) ∧ Keeps Nob w w') := by
  have hll := Ha.len_le
  have hml := Hb.len_le
  have K0 : Keeps Nob w w := Keeps.refl _ _
  refine sy_enter (part_kSameBlocks 1) ⟨#[va, vb, undef, undef, undef, undef, undef, undef, undef, undef, undef, undef, undef, undef, undef, undef, undef, undef, undef, undef, undef, undef, undef, undef, undef, undef, undef, undef, undef, undef, undef], []⟩ Try.func28 (by kernel_rfl) (by kernel_rfl) ?_
  refine sy_sq (part_kSameBlocks 2) (part_kSameBlocks 3) ?_
  refine sy_reg ?_
  refine rg_plain 0 (opsAt (part_kSameBlocks 2)) [0] (by kernel_rfl) (by kernel_rfl) ?_
  refine ps_k (o_kSameBlocks 2 0) (.bool false) ?_
  refine ps_end ?_
  refine then_n ?_
  refine sy_sq (part_kSameBlocks 6) (part_kSameBlocks 7) ?_
  refine sy_reg ?_
  refine rg_plain 1 (opsAt (part_kSameBlocks 6)) [0, 1, 2, 3, 4, 5] (by kernel_rfl) (by kernel_rfl) ?_
  refine ps_k (o_kSameBlocks 6 0) (va) ?_
  refine ps_p (o_kSameBlocks 6 1) (iN l.length) (exec_len_sl (.tmp 7) 61 35 (by kernel_rfl) Try.underlying61 (by kernel_rfl) Ha) ?_
  refine ps_k (o_kSameBlocks 6 2) (vb) ?_
  refine ps_p (o_kSameBlocks 6 3) (iN m.length) (exec_len_sl (.tmp 9) 61 35 (by kernel_rfl) Try.underlying61 (by kernel_rfl) Hb) ?_
  refine ps_p (o_kSameBlocks 6 4) (.bool false) (eqf (((l.length : Nat) : Int)) (((m.length : Nat) : Int)) (by omega)) ?_
  refine ps_k (o_kSameBlocks 6 5) (.bool false) ?_
  refine ps_end ?_
  refine then_n ?_
  refine sy_sq (part_kSameBlocks 14) (part_kSameBlocks 15) ?_
  refine sy_sq (part_kSameBlocks 28) (part_kSameBlocks 29) ?_
  refine sy_reg ?_
  refine rg_plain 2 (opsAt (part_kSameBlocks 28)) [0] (by kernel_rfl) (by kernel_rfl) ?_
  refine ps_k (o_kSameBlocks 28 0) (.int .i64 0) ?_
  refine ps_end ?_
  refine then_n ?_
  refine sy_bk 0 (part_kSameBlocks 58) ?_
  refine sy_rounds 1 (part_kSameBlocks 116) (by kernel_rfl) ?_
  refine rd_step ?_
  refine sy_sq (part_kSameBlocks 232) (part_kSameBlocks 233) ?_
  refine sy_sq (part_kSameBlocks 464) (part_kSameBlocks 465) ?_
  refine sy_reg ?_
  refine rg_plain 3 (opsAt (part_kSameBlocks 464)) [0, 1, 2, 3, 4, 5, 6] (by kernel_rfl) (by kernel_rfl) ?_
  refine ps_k (o_kSameBlocks 464 0) (.bool false) ?_
  refine ps_k (o_kSameBlocks 464 1) (.bool false) ?_
  refine ps_n (o_kSameBlocks 464 2) ?_
  refine ps_n (o_kSameBlocks 464 3) ?_
  refine ps_n (o_kSameBlocks 464 4) ?_
  refine ps_n (o_kSameBlocks 464 5) ?_
  refine ps_k (o_kSameBlocks 464 6) (.bool false) ?_
  refine ps_end ?_
  refine then_n ?_
  refine sy_n (.tmp 18) (part_kSameBlocks 930) (part_kSameBlocks 931) ?_
  refine sy_exit 0 (by kernel_rfl) ?_
  refine then_e ?_
  refine then_e ?_
  refine blk_e ?_
  refine then_n ?_
  refine sy_sq (part_kSameBlocks 30) (part_kSameBlocks 31) ?_
  refine sy_reg ?_
  refine rg_plain 6 (opsAt (part_kSameBlocks 30)) [0, 1] (by kernel_rfl) (by kernel_rfl) ?_
  refine ps_k (o_kSameBlocks 30 0) (.bool false) ?_
  refine ps_k (o_kSameBlocks 30 1) (.bool false) ?_
  refine ps_end ?_
  refine then_n ?_
  refine sy_ret (by kernel_rfl) ?_
  refine sy_out (.bool false) rfl (by kernel_rfl) ?_
  exact ⟨rfl, K0⟩
theorem kSameBlocks_cases : True := trivial
theorem same_casesB (l m : List Pro) (k : Nat) (bb : Bool) (hlen : l.length = m.length) (hk : k ≤ l.length) (hb : bb = decide (l.take k = m.take k)) :
    (bb = true ∧ k < l.length ∧ ∀ x y, l[k]? = some x → m[k]? = some y → x = y) ∨ (bb = true ∧ k < l.length ∧ ∀ x y, l[k]? = some x → m[k]? = some y → x ≠ y) ∨ (bb = true ∧ k = l.length ∧ l = m) ∨ (bb = false ∧ l ≠ m) := by
  cases bb with
  | false => exact .inr (.inr (.inr ⟨rfl, fun e => by subst e; simp at hb⟩))
  | true =>
    have ht : l.take k = m.take k := of_decide_eq_true hb.symm
    by_cases hlt : k < l.length
    · by_cases h : l[k]? = m[k]?
      · exact .inl ⟨rfl, hlt, fun x y hx hy => by rw [hx, hy] at h; exact Option.some.inj h⟩
      · exact .inr (.inl ⟨rfl, hlt, fun x y hx hy e => h (by rw [hx, hy, e])⟩)
    · have hk2 : k = l.length := by omega
      refine .inr (.inr (.inl ⟨rfl, hk2, ?_⟩))
      rwa [List.take_of_length_le (by omega), List.take_of_length_le (by omega)] at ht
set_option maxRecDepth 100000 in
set_option maxHeartbeats 4000000 in
theorem kSameBlocks_eq (va vb : Value) (l m : List Pro) (w : World) (Ha : ProsAt w va l) (Hb : ProsAt w vb m) (oka : ∀ x ∈ l, x.Ok) (okb : ∀ x ∈ m, x.Ok) (hlen : l.length = m.length) :
    Calls Try.prog 28 #[va, vb] w (fun e w' => e = .returned (.bool (decide (l = m))) ∧ Keeps Nob w w') := by
  have hll := Ha.len_le
  have hml := Hb.len_le
  have K0 : Keeps Nob w w := Keeps.refl _ _
  refine sy_enter (part_kSameBlocks 1) ⟨#[va, vb, undef, undef, undef, undef, undef, undef, undef, undef, undef, undef, undef, undef, undef, undef, undef, undef, undef, undef, undef, undef, undef, undef, undef, undef, undef, undef, undef, undef, undef], []⟩ Try.func28 (by kernel_rfl) (by kernel_rfl) ?_
  refine sy_sq (part_kSameBlocks 2) (part_kSameBlocks 3) ?_
  refine sy_reg ?_
  refine rg_plain 0 (opsAt (part_kSameBlocks 2)) [0] (by kernel_rfl) (by kernel_rfl) ?_
  refine ps_k (o_kSameBlocks 2 0) (.bool false) ?_
  refine ps_end ?_
  refine then_n ?_
  refine sy_sq (part_kSameBlocks 6) (part_kSameBlocks 7) ?_
  refine sy_reg ?_
  refine rg_plain 1 (opsAt (part_kSameBlocks 6)) [0, 1, 2, 3, 4, 5] (by kernel_rfl) (by kernel_rfl) ?_
  refine ps_k (o_kSameBlocks 6 0) (va) ?_
  refine ps_p (o_kSameBlocks 6 1) (iN l.length) (exec_len_sl (.tmp 7) 61 35 (by kernel_rfl) Try.underlying61 (by kernel_rfl) Ha) ?_
  refine ps_k (o_kSameBlocks 6 2) (vb) ?_
  refine ps_p (o_kSameBlocks 6 3) (iN m.length) (exec_len_sl (.tmp 9) 61 35 (by kernel_rfl) Try.underlying61 (by kernel_rfl) Hb) ?_
  refine ps_p (o_kSameBlocks 6 4) (.bool true) (eqt (((l.length : Nat) : Int)) (((m.length : Nat) : Int)) (by omega)) ?_
  refine ps_k (o_kSameBlocks 6 5) (.bool true) ?_
  refine ps_end ?_
  refine then_n ?_
  refine sy_sq (part_kSameBlocks 14) (part_kSameBlocks 15) ?_
  refine sy_sq (part_kSameBlocks 28) (part_kSameBlocks 29) ?_
  refine sy_reg ?_
  refine rg_plain 2 (opsAt (part_kSameBlocks 28)) [0] (by kernel_rfl) (by kernel_rfl) ?_
  refine ps_k (o_kSameBlocks 28 0) (.int .i64 0) ?_
  refine ps_end ?_
  refine then_n ?_
  refine sy_bk 0 (part_kSameBlocks 58) ?_
  refine sy_loop (part_kSameBlocks 116) (fun a V => ∃ (k : Nat) (bb : Bool) (u12 u13 u14 u15 u16 u17 u18 u19 u20 u21 u22 u23 u24 u25 u26 u27 u28 u29 : Value), (a = ⟨#[va, vb, undef, undef, .bool false, .bool bb, iN k, va, iN l.length, vb, iN m.length, .bool true, u12, u13, u14, u15, u16, u17, u18, u19, u20, u21, u22, u23, u24, u25, u26, u27, u28, u29, undef], []⟩) ∧ (k ≤ l.length) ∧ (bb = decide (l.take k = m.take k)) ∧ (ProsAt V va l) ∧ (ProsAt V vb m) ∧ (Keeps Nob w V)) (fun a _ => l.length - (intOf (a.tmps.getD 6 undef)).toNat) (by kernel_rfl) ?_ ?_
  · exact ⟨0, true, undef, undef, undef, undef, undef, undef, undef, undef, undef, undef, undef, undef, undef, undef, undef, undef, undef, undef, by kernel_rfl, Nat.zero_le _, rfl, Ha, Hb, K0⟩
  · rintro a V1 ⟨k, bb, u12, u13, u14, u15, u16, u17, u18, u19, u20, u21, u22, u23, u24, u25, u26, u27, u28, u29, rfl, hk, hb, h2, h3, K4⟩
    rcases same_casesB l m k bb hlen hk hb with ⟨rfl, hlt, hx0⟩ | ⟨rfl, hlt, hx0⟩ | ⟨rfl, heq, ht⟩ | ⟨rfl, hf⟩
    · obtain ⟨x, hx⟩ : ∃ x, l[k]? = some x := ⟨_, List.getElem?_eq_getElem hlt⟩
      obtain ⟨y, hy⟩ : ∃ y, m[k]? = some y := ⟨_, List.getElem?_eq_getElem (by omega)⟩
      obtain ⟨b_a, o_a, c_a, hv_a, hb_a, _⟩ := (h2).at_ k _ hx
      obtain ⟨b_b, o_b, c_b, hv_b, hb_b, _⟩ := (h3).at_ k _ hy
      skip
      have hxy := hx0 x y hx hy
      refine sy_sq (part_kSameBlocks 232) (part_kSameBlocks 233) ?_
      refine sy_sq (part_kSameBlocks 464) (part_kSameBlocks 465) ?_
      refine sy_reg ?_
      refine rg_plain 3 (opsAt (part_kSameBlocks 464)) [0, 1, 2, 3, 4, 5, 6] (by kernel_rfl) (by kernel_rfl) ?_
      refine ps_k (o_kSameBlocks 464 0) (.bool true) ?_
      refine ps_k (o_kSameBlocks 464 1) (.bool true) ?_
      refine ps_k (o_kSameBlocks 464 2) (iN k) ?_
      refine ps_k (o_kSameBlocks 464 3) (va) ?_
      refine ps_p (o_kSameBlocks 464 4) (iN l.length) (exec_len_sl (.tmp 15) 61 35 (by kernel_rfl) Try.underlying61 (by kernel_rfl) h2) ?_
      refine ps_p (o_kSameBlocks 464 5) (.bool true) (dct ((((k : Nat) : Int)) < (((l.length : Nat) : Int))) (by omega)) ?_
      refine ps_k (o_kSameBlocks 464 6) (.bool true) ?_
      refine ps_end ?_
      refine then_n ?_
      refine sy_ys (.tmp 18) (part_kSameBlocks 930) (part_kSameBlocks 931) ?_
      refine sy_sk ?_
      refine then_n ?_
      refine sy_sq (part_kSameBlocks 466) (part_kSameBlocks 467) ?_
      refine sy_bk 1 (part_kSameBlocks 932) ?_
      refine sy_reg ?_
      refine rg_still 5 9 (opsAt (part_kSameBlocks 932)) [o_kSameBlocks 932 0, o_kSameBlocks 932 1, o_kSameBlocks 932 2, o_kSameBlocks 932 3, o_kSameBlocks 932 4, o_kSameBlocks 932 5, o_kSameBlocks 932 6, o_kSameBlocks 932 7, o_kSameBlocks 932 8] [o_kSameBlocks 932 9] (by kernel_rfl) (by kernel_rfl) (by kernel_rfl) (by kernel_rfl) (by kernel_rfl) ?_
      obtain ⟨V6, eV6, kV6⟩ := drew_step V1
      rw [eV6]
      clear eV6
      have h7 : ProsAt V6 va l := h2.keepsN kV6
      have h8 : ProsAt V6 vb m := h3.keepsN kV6
      have K9 := K4.nn kV6
      refine st_k (o_kSameBlocks 932 0) (va) ?_
      refine st_k (o_kSameBlocks 932 1) (iN k) ?_
      refine st_p (o_kSameBlocks 932 2) (pT b_a (o_a + k * 35)) (exec_indexAt_slice 61 (.tmp 21) (.tmp 22) (by kernel_rfl) b_a o_a l.length c_a (Eq.trans (b := va) (by kernel_rfl) hv_a) .i64 k (by kernel_rfl) _ 35 Try.underlying61 (by kernel_rfl) (by omega)) ?_
      refine st_p (o_kSameBlocks 932 3) (.agg (Pro.c x)) (exec_load_mid 35 (.tmp 23) (by kernel_rfl) b_a (o_a + k * 35) (by kernel_rfl) (Pro.cl x) _ (Sl.range h7 hx hv_a) Try.underlying35 rfl (by rw [Pro.cl_len (oka x (List.mem_of_getElem? hx))]; kernel_rfl)) ?_
      refine st_k (o_kSameBlocks 932 4) (vb) ?_
      refine st_k (o_kSameBlocks 932 5) (iN k) ?_
      refine st_p (o_kSameBlocks 932 6) (pT b_b (o_b + k * 35)) (exec_indexAt_slice 61 (.tmp 25) (.tmp 26) (by kernel_rfl) b_b o_b m.length c_b (Eq.trans (b := vb) (by kernel_rfl) hv_b) .i64 k (by kernel_rfl) _ 35 Try.underlying61 (by kernel_rfl) (by omega)) ?_
      refine st_p (o_kSameBlocks 932 7) (.agg (Pro.c y)) (exec_load_mid 35 (.tmp 27) (by kernel_rfl) b_b (o_b + k * 35) (by kernel_rfl) (Pro.cl y) _ (Sl.range h8 hy hv_b) Try.underlying35 rfl (by rw [Pro.cl_len (okb y (List.mem_of_getElem? hy))]; kernel_rfl)) ?_
      refine st_p (o_kSameBlocks 932 8) (.bool true) (exec_cast (congrArg Value.bool (decide_eq_true hxy)) (exec_binop .eql 35 35 (.tmp 24) (.tmp 28) (by kernel_rfl) (.agg (Pro.c x)) (.agg (Pro.c y)) _ (by kernel_rfl) (by kernel_rfl) (run_eqGuard_agg _ _ _ _ _ _ _ pro_guard) (pro_eq _ _ (oka x (List.mem_of_getElem? hx)).r (okb y (List.mem_of_getElem? hy)).r _))) ?_
      refine st_end ?_
      refine ls_run (o_kSameBlocks 932 9) (.bool true) (w' := V6) (by kernel_rfl) (by kernel_rfl) ?_
      refine ls_end ?_
      refine blk_n ?_
      refine then_n ?_
      refine sy_reg ?_
      refine rg_plain 4 (opsAt (part_kSameBlocks 467)) [0, 1, 2] (by kernel_rfl) (by kernel_rfl) ?_
      refine ps_k (o_kSameBlocks 467 0) (iN k) ?_
      refine ps_p (o_kSameBlocks 467 1) (iN (k + 1)) (exec_cast (congrArg (Value.int .i64) (wrapN (k + 1) (by omega))) (by kernel_rfl)) ?_
      refine ps_k (o_kSameBlocks 467 2) (iN (k + 1)) ?_
      refine ps_end ?_
      refine then_n ?_
      refine ⟨⟨k + 1, true, (.bool true), (.bool true), (iN k), va, (iN l.length), (.bool true), (.bool true), (iN k), (iN (k + 1)), va, (iN k), (pT b_a (o_a + k * 35)), (.agg (Pro.c x)), vb, (iN k), (pT b_b (o_b + k * 35)), (.agg (Pro.c y)), (.bool true), by kernel_rfl, by omega, (by first | exact (decide_eq_true ((allsame_step hlen hx hy (of_decide_eq_true hb.symm)).2 hxy)).symm | exact (decide_eq_false (fun h => hxy ((allsame_step hlen hx hy (of_decide_eq_true hb.symm)).1 h))).symm), h7, h8, K9⟩, ?_⟩
      exact lt_meas (x := l.length - (k + 1)) (y := l.length - k) (by kernel_rfl) (by kernel_rfl) (by omega)
    · obtain ⟨x, hx⟩ : ∃ x, l[k]? = some x := ⟨_, List.getElem?_eq_getElem hlt⟩
      obtain ⟨y, hy⟩ : ∃ y, m[k]? = some y := ⟨_, List.getElem?_eq_getElem (by omega)⟩
      obtain ⟨b_a, o_a, c_a, hv_a, hb_a, _⟩ := (h2).at_ k _ hx
      obtain ⟨b_b, o_b, c_b, hv_b, hb_b, _⟩ := (h3).at_ k _ hy
      skip
      have hxy := hx0 x y hx hy
      refine sy_sq (part_kSameBlocks 232) (part_kSameBlocks 233) ?_
      refine sy_sq (part_kSameBlocks 464) (part_kSameBlocks 465) ?_
      refine sy_reg ?_
      refine rg_plain 3 (opsAt (part_kSameBlocks 464)) [0, 1, 2, 3, 4, 5, 6] (by kernel_rfl) (by kernel_rfl) ?_
      refine ps_k (o_kSameBlocks 464 0) (.bool true) ?_
      refine ps_k (o_kSameBlocks 464 1) (.bool true) ?_
      refine ps_k (o_kSameBlocks 464 2) (iN k) ?_
      refine ps_k (o_kSameBlocks 464 3) (va) ?_
      refine ps_p (o_kSameBlocks 464 4) (iN l.length) (exec_len_sl (.tmp 15) 61 35 (by kernel_rfl) Try.underlying61 (by kernel_rfl) h2) ?_
      refine ps_p (o_kSameBlocks 464 5) (.bool true) (dct ((((k : Nat) : Int)) < (((l.length : Nat) : Int))) (by omega)) ?_
      refine ps_k (o_kSameBlocks 464 6) (.bool true) ?_
      refine ps_end ?_
      refine then_n ?_
      refine sy_ys (.tmp 18) (part_kSameBlocks 930) (part_kSameBlocks 931) ?_
      refine sy_sk ?_
      refine then_n ?_
      refine sy_sq (part_kSameBlocks 466) (part_kSameBlocks 467) ?_
      refine sy_bk 1 (part_kSameBlocks 932) ?_
      refine sy_reg ?_
      refine rg_still 5 9 (opsAt (part_kSameBlocks 932)) [o_kSameBlocks 932 0, o_kSameBlocks 932 1, o_kSameBlocks 932 2, o_kSameBlocks 932 3, o_kSameBlocks 932 4, o_kSameBlocks 932 5, o_kSameBlocks 932 6, o_kSameBlocks 932 7, o_kSameBlocks 932 8] [o_kSameBlocks 932 9] (by kernel_rfl) (by kernel_rfl) (by kernel_rfl) (by kernel_rfl) (by kernel_rfl) ?_
      obtain ⟨V11, eV11, kV11⟩ := drew_step V1
      rw [eV11]
      clear eV11
      have h12 : ProsAt V11 va l := h2.keepsN kV11
      have h13 : ProsAt V11 vb m := h3.keepsN kV11
      have K14 := K4.nn kV11
      refine st_k (o_kSameBlocks 932 0) (va) ?_
      refine st_k (o_kSameBlocks 932 1) (iN k) ?_
      refine st_p (o_kSameBlocks 932 2) (pT b_a (o_a + k * 35)) (exec_indexAt_slice 61 (.tmp 21) (.tmp 22) (by kernel_rfl) b_a o_a l.length c_a (Eq.trans (b := va) (by kernel_rfl) hv_a) .i64 k (by kernel_rfl) _ 35 Try.underlying61 (by kernel_rfl) (by omega)) ?_
      refine st_p (o_kSameBlocks 932 3) (.agg (Pro.c x)) (exec_load_mid 35 (.tmp 23) (by kernel_rfl) b_a (o_a + k * 35) (by kernel_rfl) (Pro.cl x) _ (Sl.range h12 hx hv_a) Try.underlying35 rfl (by rw [Pro.cl_len (oka x (List.mem_of_getElem? hx))]; kernel_rfl)) ?_
      refine st_k (o_kSameBlocks 932 4) (vb) ?_
      refine st_k (o_kSameBlocks 932 5) (iN k) ?_
      refine st_p (o_kSameBlocks 932 6) (pT b_b (o_b + k * 35)) (exec_indexAt_slice 61 (.tmp 25) (.tmp 26) (by kernel_rfl) b_b o_b m.length c_b (Eq.trans (b := vb) (by kernel_rfl) hv_b) .i64 k (by kernel_rfl) _ 35 Try.underlying61 (by kernel_rfl) (by omega)) ?_
      refine st_p (o_kSameBlocks 932 7) (.agg (Pro.c y)) (exec_load_mid 35 (.tmp 27) (by kernel_rfl) b_b (o_b + k * 35) (by kernel_rfl) (Pro.cl y) _ (Sl.range h13 hy hv_b) Try.underlying35 rfl (by rw [Pro.cl_len (okb y (List.mem_of_getElem? hy))]; kernel_rfl)) ?_
      refine st_p (o_kSameBlocks 932 8) (.bool false) (exec_cast (congrArg Value.bool (decide_eq_false hxy)) (exec_binop .eql 35 35 (.tmp 24) (.tmp 28) (by kernel_rfl) (.agg (Pro.c x)) (.agg (Pro.c y)) _ (by kernel_rfl) (by kernel_rfl) (run_eqGuard_agg _ _ _ _ _ _ _ pro_guard) (pro_eq _ _ (oka x (List.mem_of_getElem? hx)).r (okb y (List.mem_of_getElem? hy)).r _))) ?_
      refine st_end ?_
      refine ls_run (o_kSameBlocks 932 9) (.bool false) (w' := V11) (by kernel_rfl) (by kernel_rfl) ?_
      refine ls_end ?_
      refine blk_n ?_
      refine then_n ?_
      refine sy_reg ?_
      refine rg_plain 4 (opsAt (part_kSameBlocks 467)) [0, 1, 2] (by kernel_rfl) (by kernel_rfl) ?_
      refine ps_k (o_kSameBlocks 467 0) (iN k) ?_
      refine ps_p (o_kSameBlocks 467 1) (iN (k + 1)) (exec_cast (congrArg (Value.int .i64) (wrapN (k + 1) (by omega))) (by kernel_rfl)) ?_
      refine ps_k (o_kSameBlocks 467 2) (iN (k + 1)) ?_
      refine ps_end ?_
      refine then_n ?_
      refine ⟨⟨k + 1, false, (.bool true), (.bool true), (iN k), va, (iN l.length), (.bool true), (.bool true), (iN k), (iN (k + 1)), va, (iN k), (pT b_a (o_a + k * 35)), (.agg (Pro.c x)), vb, (iN k), (pT b_b (o_b + k * 35)), (.agg (Pro.c y)), (.bool false), by kernel_rfl, by omega, (by first | exact (decide_eq_true ((allsame_step hlen hx hy (of_decide_eq_true hb.symm)).2 hxy)).symm | exact (decide_eq_false (fun h => hxy ((allsame_step hlen hx hy (of_decide_eq_true hb.symm)).1 h))).symm), h12, h13, K14⟩, ?_⟩
      exact lt_meas (x := l.length - (k + 1)) (y := l.length - k) (by kernel_rfl) (by kernel_rfl) (by omega)
    · skip
      refine sy_sq (part_kSameBlocks 232) (part_kSameBlocks 233) ?_
      refine sy_sq (part_kSameBlocks 464) (part_kSameBlocks 465) ?_
      refine sy_reg ?_
      refine rg_plain 3 (opsAt (part_kSameBlocks 464)) [0, 1, 2, 3, 4, 5, 6] (by kernel_rfl) (by kernel_rfl) ?_
      refine ps_k (o_kSameBlocks 464 0) (.bool true) ?_
      refine ps_k (o_kSameBlocks 464 1) (.bool true) ?_
      refine ps_k (o_kSameBlocks 464 2) (iN k) ?_
      refine ps_k (o_kSameBlocks 464 3) (va) ?_
      refine ps_p (o_kSameBlocks 464 4) (iN l.length) (exec_len_sl (.tmp 15) 61 35 (by kernel_rfl) Try.underlying61 (by kernel_rfl) h2) ?_
      refine ps_p (o_kSameBlocks 464 5) (.bool false) (dcf ((((k : Nat) : Int)) < (((l.length : Nat) : Int))) (by omega)) ?_
      refine ps_k (o_kSameBlocks 464 6) (.bool false) ?_
      refine ps_end ?_
      refine then_n ?_
      refine sy_n (.tmp 18) (part_kSameBlocks 930) (part_kSameBlocks 931) ?_
      refine sy_exit 0 (by kernel_rfl) ?_
      refine then_e ?_
      refine then_e ?_
      refine blk_e ?_
      refine then_n ?_
      refine sy_sq (part_kSameBlocks 30) (part_kSameBlocks 31) ?_
      refine sy_reg ?_
      refine rg_plain 6 (opsAt (part_kSameBlocks 30)) [0, 1] (by kernel_rfl) (by kernel_rfl) ?_
      refine ps_k (o_kSameBlocks 30 0) (.bool true) ?_
      refine ps_k (o_kSameBlocks 30 1) (.bool true) ?_
      refine ps_end ?_
      refine then_n ?_
      refine sy_ret (by kernel_rfl) ?_
      refine sy_out (.bool true) rfl (by kernel_rfl) ?_
      exact ⟨by first | (rw [decide_eq_true (by first | exact ht | exact hf)]) | (rw [decide_eq_false (by first | exact ht | exact hf)]), K4⟩
    · skip
      refine sy_sq (part_kSameBlocks 232) (part_kSameBlocks 233) ?_
      refine sy_sq (part_kSameBlocks 464) (part_kSameBlocks 465) ?_
      refine sy_reg ?_
      refine rg_plain 3 (opsAt (part_kSameBlocks 464)) [0, 1, 2, 3, 4, 5, 6] (by kernel_rfl) (by kernel_rfl) ?_
      refine ps_k (o_kSameBlocks 464 0) (.bool false) ?_
      refine ps_k (o_kSameBlocks 464 1) (.bool false) ?_
      refine ps_n (o_kSameBlocks 464 2) ?_
      refine ps_n (o_kSameBlocks 464 3) ?_
      refine ps_n (o_kSameBlocks 464 4) ?_
      refine ps_n (o_kSameBlocks 464 5) ?_
      refine ps_k (o_kSameBlocks 464 6) (.bool false) ?_
      refine ps_end ?_
      refine then_n ?_
      refine sy_n (.tmp 18) (part_kSameBlocks 930) (part_kSameBlocks 931) ?_
      refine sy_exit 0 (by kernel_rfl) ?_
      refine then_e ?_
      refine then_e ?_
      refine blk_e ?_
      refine then_n ?_
      refine sy_sq (part_kSameBlocks 30) (part_kSameBlocks 31) ?_
      refine sy_reg ?_
      refine rg_plain 6 (opsAt (part_kSameBlocks 30)) [0, 1] (by kernel_rfl) (by kernel_rfl) ?_
      refine ps_k (o_kSameBlocks 30 0) (.bool false) ?_
      refine ps_k (o_kSameBlocks 30 1) (.bool false) ?_
      refine ps_end ?_
      refine then_n ?_
      refine sy_ret (by kernel_rfl) ?_
      refine sy_out (.bool false) rfl (by kernel_rfl) ?_
      exact ⟨by first | (rw [decide_eq_true (by first | exact ht | exact hf)]) | (rw [decide_eq_false (by first | exact ht | exact hf)]), K4⟩
theorem kSameBlocks_ok (va vb : Value) (l m : List Pro) (w : World) (Ha : ProsAt w va l) (Hb : ProsAt w vb m) (oka : ∀ x ∈ l, x.Ok) (okb : ∀ x ∈ m, x.Ok) : Calls Try.prog 28 #[va, vb] w fun e w' => e = .returned (.bool (decide (l = m))) ∧ Keeps Nob w w' := by
  by_cases h : l.length = m.length
  · exact kSameBlocks_eq va vb l m w Ha Hb oka okb h
  · rw [decide_eq_false (fun e => h (by rw [e]))]; exact kSameBlocks_len va vb l m w Ha Hb oka okb h
theorem seg_size {cs : Array Value} {o : Nat} {vs : List Value} (h : o + vs.length ≤ cs.size) : (seg cs o vs).size = cs.size := by
  simp only [seg, List.size_toArray, List.length_append, List.length_take, List.length_drop, Array.length_toList]; omega
def oAtt : Att := ⟨-77, 0, 0, List.replicate 32 0, 0⟩
def oPro : Pro := ⟨-77, 0, List.replicate 32 0, 0⟩
theorem oAtt_ok : oAtt.Ok := ⟨by decide, by decide, by decide, rfl, by decide⟩
theorem oPro_ok : oPro.Ok := ⟨by decide, by decide, rfl, by decide⟩
noncomputable def part_kOverVotes (n : Nat) : Code := partOf Try.f54 n
noncomputable abbrev o_kOverVotes (n k : Nat) : Oper := (opsAt (part_kOverVotes n)).getD k default
set_option maxRecDepth 100000 in
set_option maxHeartbeats 4000000 in
theorem kOverVotes_nil (w : World) :
    Calls Try.prog 54 #[.slice none 0 0] w (fun e w' => e = .returned (.tuple #[]) ∧ Keeps Nob w w') := by
  have K0 : Keeps Nob w w := Keeps.refl _ _
  refine sy_enter (part_kOverVotes 1) ⟨#[.slice none 0 0, undef, undef, undef, undef, undef, undef, undef, undef, undef, undef, undef, undef], []⟩ Try.func54 (by kernel_rfl) (by kernel_rfl) ?_
  refine sy_sq (part_kOverVotes 2) (part_kOverVotes 3) ?_
  refine sy_reg ?_
  refine rg_plain 0 (opsAt (part_kOverVotes 2)) [0] (by kernel_rfl) (by kernel_rfl) ?_
  refine ps_k (o_kOverVotes 2 0) (.int .i64 0) ?_
  refine ps_end ?_
  refine then_n ?_
  refine sy_bk 0 (part_kOverVotes 6) ?_
  refine sy_rounds 1 (part_kOverVotes 12) (by kernel_rfl) ?_
  refine rd_step ?_
  refine sy_sq (part_kOverVotes 24) (part_kOverVotes 25) ?_
  refine sy_sq (part_kOverVotes 48) (part_kOverVotes 49) ?_
  refine sy_reg ?_
  refine rg_plain 1 (opsAt (part_kOverVotes 48)) [0, 1, 2, 3] (by kernel_rfl) (by kernel_rfl) ?_
  refine ps_k (o_kOverVotes 48 0) (.int .i64 0) ?_
  refine ps_k (o_kOverVotes 48 1) (.slice none 0 0) ?_
  refine ps_p (o_kOverVotes 48 2) (.int .i64 0) (exec_len (.tmp 4) 59 _ (by kernel_rfl) Try.underlying59 none 0 0 (by kernel_rfl)) ?_
  refine ps_k (o_kOverVotes 48 3) (.bool false) ?_
  refine ps_end ?_
  refine then_n ?_
  refine sy_n (.tmp 6) (part_kOverVotes 98) (part_kOverVotes 99) ?_
  refine sy_exit 0 (by kernel_rfl) ?_
  refine then_e ?_
  refine then_e ?_
  refine blk_e ?_
  refine sy_fall (.tuple #[]) rfl (by kernel_rfl) ?_
  exact ⟨rfl, K0⟩
set_option maxRecDepth 100000 in
set_option maxHeartbeats 4000000 in
theorem kOverVotes_row (g n cap : Nat) (cs0 : Array Value) (w : World) (hg : w.heap[g]? = some (.cells cs0 28 (0, 0))) (hn : n * 36 ≤ cs0.size) (hmax : n ≤ 1000000) :
    Calls Try.prog 54 #[.slice (some ⟨g, 0, none⟩) n cap] w (fun e w' => e = .returned (.tuple #[]) ∧ Keeps (One g) w w') := by
  have K0 : Keeps (One g) w w := Keeps.refl _ _
  refine sy_enter (part_kOverVotes 1) ⟨#[.slice (some ⟨g, 0, none⟩) n cap, undef, undef, undef, undef, undef, undef, undef, undef, undef, undef, undef, undef], []⟩ Try.func54 (by kernel_rfl) (by kernel_rfl) ?_
  refine sy_sq (part_kOverVotes 2) (part_kOverVotes 3) ?_
  refine sy_reg ?_
  refine rg_plain 0 (opsAt (part_kOverVotes 2)) [0] (by kernel_rfl) (by kernel_rfl) ?_
  refine ps_k (o_kOverVotes 2 0) (.int .i64 0) ?_
  refine ps_end ?_
  refine then_n ?_
  refine sy_bk 0 (part_kOverVotes 6) ?_
  refine sy_loop (part_kOverVotes 12) (fun a V => ∃ (k : Nat) (cs : Array Value) (u3 u4 u5 u6 u7 u8 u9 u10 u11 u12 : Value), (a = ⟨#[.slice (some ⟨g, 0, none⟩) n cap, undef, iN k, u3, u4, u5, u6, u7, u8, u9, u10, u11, u12], []⟩) ∧ (k ≤ n) ∧ (cs.size = cs0.size) ∧ (V.heap[g]? = some (.cells cs 28 (0, 0))) ∧ (Keeps (One g) w V)) (fun a _ => n - (intOf (a.tmps.getD 2 undef)).toNat) (by kernel_rfl) ?_ ?_
  · exact ⟨0, cs0, undef, undef, undef, undef, undef, undef, undef, undef, undef, undef, by kernel_rfl, Nat.zero_le _, rfl, hg, K0⟩
  · rintro a V1 ⟨k, cs, u3, u4, u5, u6, u7, u8, u9, u10, u11, u12, rfl, hk, hcs, h2, K3⟩
    by_cases lt_k : k < n
    · skip
      refine sy_sq (part_kOverVotes 24) (part_kOverVotes 25) ?_
      refine sy_sq (part_kOverVotes 48) (part_kOverVotes 49) ?_
      refine sy_reg ?_
      refine rg_plain 1 (opsAt (part_kOverVotes 48)) [0, 1, 2, 3] (by kernel_rfl) (by kernel_rfl) ?_
      refine ps_k (o_kOverVotes 48 0) (iN k) ?_
      refine ps_k (o_kOverVotes 48 1) (.slice (some ⟨g, 0, none⟩) n cap) ?_
      refine ps_p (o_kOverVotes 48 2) (iN n) (exec_len (.tmp 4) 59 _ (by kernel_rfl) Try.underlying59 (some ⟨g, 0, none⟩) n cap (by kernel_rfl)) ?_
      refine ps_p (o_kOverVotes 48 3) (.bool true) (dct ((((k : Nat) : Int)) < (((n : Nat) : Int))) (by omega)) ?_
      refine ps_end ?_
      refine then_n ?_
      refine sy_ys (.tmp 6) (part_kOverVotes 98) (part_kOverVotes 99) ?_
      refine sy_sk ?_
      refine then_n ?_
      refine sy_sq (part_kOverVotes 50) (part_kOverVotes 51) ?_
      refine sy_bk 1 (part_kOverVotes 100) ?_
      refine sy_reg ?_
      refine rg_plain 3 (opsAt (part_kOverVotes 100)) [0, 1, 2, 3, 4] (by kernel_rfl) (by kernel_rfl) ?_
      refine ps_k (o_kOverVotes 100 0) (.slice (some ⟨g, 0, none⟩) n cap) ?_
      refine ps_k (o_kOverVotes 100 1) (iN k) ?_
      refine ps_k (o_kOverVotes 100 2) (.agg (Att.c oAtt)) ?_
      refine ps_p (o_kOverVotes 100 3) (pT g (k * 36)) (exec_cast (v := pT g (0 + k * 36)) (by simp) (exec_indexAt_slice 59 (.tmp 9) (.tmp 10) (by kernel_rfl) g 0 n cap (by kernel_rfl) .i64 k (by kernel_rfl) _ 36 Try.underlying59 (by kernel_rfl) (by omega))) ?_
      have hfit : k * 36 + (Att.c oAtt).size ≤ cs.size := by rw [Att.c_size _ oAtt_ok.r]; omega
      obtain ⟨V4, eV4⟩ : ∃ V, V1.setCells g (k * 36) (Att.c oAtt).toList = V := ⟨_, rfl⟩
      have kV4 : Keeps (One g) V1 V4 := eV4 ▸ Keeps.setCells _ _ _ _
      have h5 : V4.heap[g]? = some (.cells (seg cs (k * 36) (Att.c oAtt).toList) 28 (0, 0)) := eV4 ▸ heap_setCells g _ _ (k * 36) _ _ h2 (by simpa using hfit)
      refine ps_s (o_kOverVotes 100 4) (w' := V4) (by rw [← eV4]; exact exec_store_mid 28 (.tmp 12) (.tmp 11) (by kernel_rfl) g (k * 36) (by kernel_rfl) (Att.c oAtt) (by kernel_rfl) _ _ h2 hfit (by rw [Att.c_size _ oAtt_ok.r]; kernel_rfl) (Att.c_one _)) ?_
      clear eV4
      have K6 : Keeps (One g) w V4 := K3.then kV4 (fun i hi hm => by unfold Own.One at hm; subst hm; exact rfl)
      refine ps_end ?_
      refine blk_n ?_
      refine then_n ?_
      refine sy_reg ?_
      refine rg_plain 2 (opsAt (part_kOverVotes 51)) [0, 1, 2] (by kernel_rfl) (by kernel_rfl) ?_
      refine ps_k (o_kOverVotes 51 0) (iN k) ?_
      refine ps_p (o_kOverVotes 51 1) (iN (k + 1)) (exec_cast (congrArg (Value.int .i64) (wrapN (k + 1) (by omega))) (by kernel_rfl)) ?_
      refine ps_k (o_kOverVotes 51 2) (iN (k + 1)) ?_
      refine ps_end ?_
      refine then_n ?_
      refine ⟨⟨k + 1, seg cs (k * 36) (Att.c oAtt).toList, (iN k), (.slice (some ⟨g, 0, none⟩) n cap), (iN n), (.bool true), (iN k), (iN (k + 1)), (.slice (some ⟨g, 0, none⟩) n cap), (iN k), (.agg (Att.c oAtt)), (pT g (k * 36)), by kernel_rfl, by omega, ((seg_size (by simpa using hfit)).trans hcs), h5, K6⟩, ?_⟩
      exact lt_meas (x := n - (k + 1)) (y := n - k) (by kernel_rfl) (by kernel_rfl) (by omega)
    · skip
      refine sy_sq (part_kOverVotes 24) (part_kOverVotes 25) ?_
      refine sy_sq (part_kOverVotes 48) (part_kOverVotes 49) ?_
      refine sy_reg ?_
      refine rg_plain 1 (opsAt (part_kOverVotes 48)) [0, 1, 2, 3] (by kernel_rfl) (by kernel_rfl) ?_
      refine ps_k (o_kOverVotes 48 0) (iN k) ?_
      refine ps_k (o_kOverVotes 48 1) (.slice (some ⟨g, 0, none⟩) n cap) ?_
      refine ps_p (o_kOverVotes 48 2) (iN n) (exec_len (.tmp 4) 59 _ (by kernel_rfl) Try.underlying59 (some ⟨g, 0, none⟩) n cap (by kernel_rfl)) ?_
      refine ps_p (o_kOverVotes 48 3) (.bool false) (dcf ((((k : Nat) : Int)) < (((n : Nat) : Int))) (by omega)) ?_
      refine ps_end ?_
      refine then_n ?_
      refine sy_n (.tmp 6) (part_kOverVotes 98) (part_kOverVotes 99) ?_
      refine sy_exit 0 (by kernel_rfl) ?_
      refine then_e ?_
      refine then_e ?_
      refine blk_e ?_
      refine sy_fall (.tuple #[]) rfl (by kernel_rfl) ?_
      exact ⟨rfl, K3⟩
theorem kOverVotes_ok (v : Value) (n : Nat) (xs : List Value) (w : World) (h : Row w 28 36 v n xs) (hmax : n ≤ 1000000) : Calls Try.prog 54 #[v] w fun e w' => e = .returned (.tuple #[]) ∧ Keeps (fun j => v.ownBlock = some j) w w' := by
  rcases h.2 with ⟨rfl, h0⟩ | ⟨g, cap, cur, rfl, _, hg, q1, q2, q3, q4⟩
  · exact (kOverVotes_nil w).mono fun e w' ⟨he, k⟩ => ⟨he, k.mono (fun _ _ x => x.elim)⟩
  · exact (kOverVotes_row g n cap cur w hg (by rw [q3]; exact Nat.mul_le_mul_right _ q1) hmax).mono fun e w' ⟨he, k⟩ => ⟨he, k.mono (fun j _ (e : j = g) => by subst e; rfl)⟩
noncomputable def part_kOverBlocks (n : Nat) : Code := partOf Try.f55 n
noncomputable abbrev o_kOverBlocks (n k : Nat) : Oper := (opsAt (part_kOverBlocks n)).getD k default
set_option maxRecDepth 100000 in
set_option maxHeartbeats 4000000 in
theorem kOverBlocks_nil (w : World) :
    Calls Try.prog 55 #[.slice none 0 0] w (fun e w' => e = .returned (.tuple #[]) ∧ Keeps Nob w w') := by
  have K0 : Keeps Nob w w := Keeps.refl _ _
  refine sy_enter (part_kOverBlocks 1) ⟨#[.slice none 0 0, undef, undef, undef, undef, undef, undef, undef, undef, undef, undef, undef, undef], []⟩ Try.func55 (by kernel_rfl) (by kernel_rfl) ?_
  refine sy_sq (part_kOverBlocks 2) (part_kOverBlocks 3) ?_
  refine sy_reg ?_
  refine rg_plain 0 (opsAt (part_kOverBlocks 2)) [0] (by kernel_rfl) (by kernel_rfl) ?_
  refine ps_k (o_kOverBlocks 2 0) (.int .i64 0) ?_
  refine ps_end ?_
  refine then_n ?_
  refine sy_bk 0 (part_kOverBlocks 6) ?_
  refine sy_rounds 1 (part_kOverBlocks 12) (by kernel_rfl) ?_
  refine rd_step ?_
  refine sy_sq (part_kOverBlocks 24) (part_kOverBlocks 25) ?_
  refine sy_sq (part_kOverBlocks 48) (part_kOverBlocks 49) ?_
  refine sy_reg ?_
  refine rg_plain 1 (opsAt (part_kOverBlocks 48)) [0, 1, 2, 3] (by kernel_rfl) (by kernel_rfl) ?_
  refine ps_k (o_kOverBlocks 48 0) (.int .i64 0) ?_
  refine ps_k (o_kOverBlocks 48 1) (.slice none 0 0) ?_
  refine ps_p (o_kOverBlocks 48 2) (.int .i64 0) (exec_len (.tmp 4) 61 _ (by kernel_rfl) Try.underlying61 none 0 0 (by kernel_rfl)) ?_
  refine ps_k (o_kOverBlocks 48 3) (.bool false) ?_
  refine ps_end ?_
  refine then_n ?_
  refine sy_n (.tmp 6) (part_kOverBlocks 98) (part_kOverBlocks 99) ?_
  refine sy_exit 0 (by kernel_rfl) ?_
  refine then_e ?_
  refine then_e ?_
  refine blk_e ?_
  refine sy_fall (.tuple #[]) rfl (by kernel_rfl) ?_
  exact ⟨rfl, K0⟩
set_option maxRecDepth 100000 in
set_option maxHeartbeats 4000000 in
theorem kOverBlocks_row (g n cap : Nat) (cs0 : Array Value) (w : World) (hg : w.heap[g]? = some (.cells cs0 35 (0, 0))) (hn : n * 35 ≤ cs0.size) (hmax : n ≤ 1000000) :
    Calls Try.prog 55 #[.slice (some ⟨g, 0, none⟩) n cap] w (fun e w' => e = .returned (.tuple #[]) ∧ Keeps (One g) w w') := by
  have K0 : Keeps (One g) w w := Keeps.refl _ _
  refine sy_enter (part_kOverBlocks 1) ⟨#[.slice (some ⟨g, 0, none⟩) n cap, undef, undef, undef, undef, undef, undef, undef, undef, undef, undef, undef, undef], []⟩ Try.func55 (by kernel_rfl) (by kernel_rfl) ?_
  refine sy_sq (part_kOverBlocks 2) (part_kOverBlocks 3) ?_
  refine sy_reg ?_
  refine rg_plain 0 (opsAt (part_kOverBlocks 2)) [0] (by kernel_rfl) (by kernel_rfl) ?_
  refine ps_k (o_kOverBlocks 2 0) (.int .i64 0) ?_
  refine ps_end ?_
  refine then_n ?_
  refine sy_bk 0 (part_kOverBlocks 6) ?_
  refine sy_loop (part_kOverBlocks 12) (fun a V => ∃ (k : Nat) (cs : Array Value) (u3 u4 u5 u6 u7 u8 u9 u10 u11 u12 : Value), (a = ⟨#[.slice (some ⟨g, 0, none⟩) n cap, undef, iN k, u3, u4, u5, u6, u7, u8, u9, u10, u11, u12], []⟩) ∧ (k ≤ n) ∧ (cs.size = cs0.size) ∧ (V.heap[g]? = some (.cells cs 35 (0, 0))) ∧ (Keeps (One g) w V)) (fun a _ => n - (intOf (a.tmps.getD 2 undef)).toNat) (by kernel_rfl) ?_ ?_
  · exact ⟨0, cs0, undef, undef, undef, undef, undef, undef, undef, undef, undef, undef, by kernel_rfl, Nat.zero_le _, rfl, hg, K0⟩
  · rintro a V1 ⟨k, cs, u3, u4, u5, u6, u7, u8, u9, u10, u11, u12, rfl, hk, hcs, h2, K3⟩
    by_cases lt_k : k < n
    · skip
      refine sy_sq (part_kOverBlocks 24) (part_kOverBlocks 25) ?_
      refine sy_sq (part_kOverBlocks 48) (part_kOverBlocks 49) ?_
      refine sy_reg ?_
      refine rg_plain 1 (opsAt (part_kOverBlocks 48)) [0, 1, 2, 3] (by kernel_rfl) (by kernel_rfl) ?_
      refine ps_k (o_kOverBlocks 48 0) (iN k) ?_
      refine ps_k (o_kOverBlocks 48 1) (.slice (some ⟨g, 0, none⟩) n cap) ?_
      refine ps_p (o_kOverBlocks 48 2) (iN n) (exec_len (.tmp 4) 61 _ (by kernel_rfl) Try.underlying61 (some ⟨g, 0, none⟩) n cap (by kernel_rfl)) ?_
      refine ps_p (o_kOverBlocks 48 3) (.bool true) (dct ((((k : Nat) : Int)) < (((n : Nat) : Int))) (by omega)) ?_
      refine ps_end ?_
      refine then_n ?_
      refine sy_ys (.tmp 6) (part_kOverBlocks 98) (part_kOverBlocks 99) ?_
      refine sy_sk ?_
      refine then_n ?_
      refine sy_sq (part_kOverBlocks 50) (part_kOverBlocks 51) ?_
      refine sy_bk 1 (part_kOverBlocks 100) ?_
      refine sy_reg ?_
      refine rg_plain 3 (opsAt (part_kOverBlocks 100)) [0, 1, 2, 3, 4] (by kernel_rfl) (by kernel_rfl) ?_
      refine ps_k (o_kOverBlocks 100 0) (.slice (some ⟨g, 0, none⟩) n cap) ?_
      refine ps_k (o_kOverBlocks 100 1) (iN k) ?_
      refine ps_k (o_kOverBlocks 100 2) (.agg (Pro.c oPro)) ?_
      refine ps_p (o_kOverBlocks 100 3) (pT g (k * 35)) (exec_cast (v := pT g (0 + k * 35)) (by simp) (exec_indexAt_slice 61 (.tmp 9) (.tmp 10) (by kernel_rfl) g 0 n cap (by kernel_rfl) .i64 k (by kernel_rfl) _ 35 Try.underlying61 (by kernel_rfl) (by omega))) ?_
      have hfit : k * 35 + (Pro.c oPro).size ≤ cs.size := by rw [Pro.c_size _ oPro_ok.r]; omega
      obtain ⟨V4, eV4⟩ : ∃ V, V1.setCells g (k * 35) (Pro.c oPro).toList = V := ⟨_, rfl⟩
      have kV4 : Keeps (One g) V1 V4 := eV4 ▸ Keeps.setCells _ _ _ _
      have h5 : V4.heap[g]? = some (.cells (seg cs (k * 35) (Pro.c oPro).toList) 35 (0, 0)) := eV4 ▸ heap_setCells g _ _ (k * 35) _ _ h2 (by simpa using hfit)
      refine ps_s (o_kOverBlocks 100 4) (w' := V4) (by rw [← eV4]; exact exec_store_mid 35 (.tmp 12) (.tmp 11) (by kernel_rfl) g (k * 35) (by kernel_rfl) (Pro.c oPro) (by kernel_rfl) _ _ h2 hfit (by rw [Pro.c_size _ oPro_ok.r]; kernel_rfl) (Pro.c_one _)) ?_
      clear eV4
      have K6 : Keeps (One g) w V4 := K3.then kV4 (fun i hi hm => by unfold Own.One at hm; subst hm; exact rfl)
      refine ps_end ?_
      refine blk_n ?_
      refine then_n ?_
      refine sy_reg ?_
      refine rg_plain 2 (opsAt (part_kOverBlocks 51)) [0, 1, 2] (by kernel_rfl) (by kernel_rfl) ?_
      refine ps_k (o_kOverBlocks 51 0) (iN k) ?_
      refine ps_p (o_kOverBlocks 51 1) (iN (k + 1)) (exec_cast (congrArg (Value.int .i64) (wrapN (k + 1) (by omega))) (by kernel_rfl)) ?_
      refine ps_k (o_kOverBlocks 51 2) (iN (k + 1)) ?_
      refine ps_end ?_
      refine then_n ?_
      refine ⟨⟨k + 1, seg cs (k * 35) (Pro.c oPro).toList, (iN k), (.slice (some ⟨g, 0, none⟩) n cap), (iN n), (.bool true), (iN k), (iN (k + 1)), (.slice (some ⟨g, 0, none⟩) n cap), (iN k), (.agg (Pro.c oPro)), (pT g (k * 35)), by kernel_rfl, by omega, ((seg_size (by simpa using hfit)).trans hcs), h5, K6⟩, ?_⟩
      exact lt_meas (x := n - (k + 1)) (y := n - k) (by kernel_rfl) (by kernel_rfl) (by omega)
    · skip
      refine sy_sq (part_kOverBlocks 24) (part_kOverBlocks 25) ?_
      refine sy_sq (part_kOverBlocks 48) (part_kOverBlocks 49) ?_
      refine sy_reg ?_
      refine rg_plain 1 (opsAt (part_kOverBlocks 48)) [0, 1, 2, 3] (by kernel_rfl) (by kernel_rfl) ?_
      refine ps_k (o_kOverBlocks 48 0) (iN k) ?_
      refine ps_k (o_kOverBlocks 48 1) (.slice (some ⟨g, 0, none⟩) n cap) ?_
      refine ps_p (o_kOverBlocks 48 2) (iN n) (exec_len (.tmp 4) 61 _ (by kernel_rfl) Try.underlying61 (some ⟨g, 0, none⟩) n cap (by kernel_rfl)) ?_
      refine ps_p (o_kOverBlocks 48 3) (.bool false) (dcf ((((k : Nat) : Int)) < (((n : Nat) : Int))) (by omega)) ?_
      refine ps_end ?_
      refine then_n ?_
      refine sy_n (.tmp 6) (part_kOverBlocks 98) (part_kOverBlocks 99) ?_
      refine sy_exit 0 (by kernel_rfl) ?_
      refine then_e ?_
      refine then_e ?_
      refine blk_e ?_
      refine sy_fall (.tuple #[]) rfl (by kernel_rfl) ?_
      exact ⟨rfl, K3⟩
theorem kOverBlocks_ok (v : Value) (n : Nat) (xs : List Value) (w : World) (h : Row w 35 35 v n xs) (hmax : n ≤ 1000000) : Calls Try.prog 55 #[v] w fun e w' => e = .returned (.tuple #[]) ∧ Keeps (fun j => v.ownBlock = some j) w w' := by
  rcases h.2 with ⟨rfl, h0⟩ | ⟨g, cap, cur, rfl, _, hg, q1, q2, q3, q4⟩
  · exact (kOverBlocks_nil w).mono fun e w' ⟨he, k⟩ => ⟨he, k.mono (fun _ _ x => x.elim)⟩
  · exact (kOverBlocks_row g n cap cur w hg (by rw [q3]; exact Nat.mul_le_mul_right _ q1) hmax).mono fun e w' ⟨he, k⟩ => ⟨he, k.mono (fun j _ (e : j = g) => by subst e; rfl)⟩
end Go.Proofs.Ytgipooedgbbliaa
