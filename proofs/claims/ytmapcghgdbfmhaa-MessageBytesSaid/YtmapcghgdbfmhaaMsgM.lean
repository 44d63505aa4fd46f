/-
  Messages: their bytes, by the document: the whole (printed by msg9.py). Conditions: none.
-/
import Derived.Test.YtmapcghgdbfmhaaMsgL
namespace Go.Proofs.Ytmapcghgdbfmhaa
open Go Go.RowKit Go.Own Go.Shelf
def fldB (m : Msg) : List UInt8 := (m.items.drop 1).flatMap (itB m)
theorem att_itB (m : Msg) : (voteM .av .as_ .at_ .ar .ag).flatMap (itB m) = m.a.bytes := by simp [voteM, itB, NF.get, AF.get, HF.get, Att.bytes, allb, attT, Thg.by]
theorem att_itB' (m : Msg) : (voteM .bv .bs .bt .br .bg).flatMap (itB m) = m.b.bytes := by simp [voteM, itB, NF.get, AF.get, HF.get, Att.bytes, allb, attT, Thg.by]
theorem pro_itB (m : Msg) : (blockM .pv .ph .pr .pg).flatMap (itB m) = m.p.bytes := by simp [blockM, itB, NF.get, AF.get, HF.get, Pro.bytes, allb, proT, Thg.by, show min (1 : Int) 0 = 0 from rfl]
theorem pro_itB' (m : Msg) : (blockM .qv .qh .qr .qg).flatMap (itB m) = m.q.bytes := by simp [blockM, itB, NF.get, AF.get, HF.get, Pro.bytes, allb, proT, Thg.by, show min (1 : Int) 0 = 0 from rfl]
theorem min1 : min (1 : Int) 0 = 0 := rfl
theorem minm : min (-1 : Int) 0 = -1 := rfl

theorem fldB_1 (m : Msg) (hk : m.k = 1) : fldB m = encs [m.t.toNat, m.am] := by
  unfold fldB; rw [Msg.itemsk (k := 1) hk (by decide)]
  simp [kM, lotM, itB, NF.get, AF.get, encs, min1, minm]
theorem fldB_2 (m : Msg) (hk : m.k = 2) : fldB m = encs [m.mn, m.am] := by
  unfold fldB; rw [Msg.itemsk (k := 2) hk (by decide)]
  simp [kM, lotM, itB, NF.get, AF.get, encs, min1, minm]
theorem fldB_3 (m : Msg) (hk : m.k = 3) : fldB m = encs [m.vl.toNat, m.am] := by
  unfold fldB; rw [Msg.itemsk (k := 3) hk (by decide)]
  simp [kM, lotM, itB, NF.get, AF.get, encs, min1, minm]
theorem fldB_4 (m : Msg) (hk : m.k = 4) : fldB m = encs [m.sv.toNat, m.ss.toNat, (m.sp + 1).toNat, m.sf.toNat] ++ encs [m.am] := by
  unfold fldB; rw [Msg.itemsk (k := 4) hk (by decide)]
  simp [kM, lotM, itB, NF.get, AF.get, encs, min1, minm]
theorem fldB_5 (m : Msg) (hk : m.k = 5) : fldB m = encs [m.sv.toNat, m.ss.toNat, (m.sp + 1).toNat, m.sf.toNat] ++ encs [m.am, m.t.toNat] := by
  unfold fldB; rw [Msg.itemsk (k := 5) hk (by decide)]
  simp [kM, lotM, itB, NF.get, AF.get, encs, min1, minm]
theorem fldB_6 (m : Msg) (hk : m.k = 6) (hf : m.a.fine) : fldB m = m.a.tb := by
  unfold fldB; rw [Msg.itemsk (k := 6) hk (by decide)]
  rw [Att.tb_ok hf, ← att_itB]; rfl
theorem fldB_7 (m : Msg) (hk : m.k = 7) (hf : m.p.fine) : fldB m = m.p.tb := by
  unfold fldB; rw [Msg.itemsk (k := 7) hk (by decide)]
  rw [Pro.tb_ok hf, ← pro_itB]; rfl
theorem fldB_9 (m : Msg) (hk : m.k = 9) : fldB m = encs [m.vl.toNat] := by
  unfold fldB; rw [Msg.itemsk (k := 9) hk (by decide)]
  simp [kM, lotM, itB, NF.get, AF.get, encs, min1, minm]
theorem fldB_10 (m : Msg) (hk : m.k = 10) : fldB m = ([] : List UInt8) := by
  unfold fldB; rw [Msg.itemsk (k := 10) hk (by decide)]
  simp [kM, lotM, itB, NF.get, AF.get, encs, min1, minm]
theorem fldB_8t (m : Msg) (hk : m.k = 8) (hp : m.pf = 3) (h1 : m.p.fine) (h2 : m.q.fine) : fldB m = encs [m.pf.toNat] ++ m.p.tb ++ m.q.tb := by
  unfold fldB; rw [Msg.items8 hk]
  rw [show List.drop 1 (([.n .f 0 63] : List MIt) ++ (([.n .pf 1 3] : List MIt) ++ evM m.pf)) = ([.n .pf 1 3] : List MIt) ++ evM m.pf from rfl, List.flatMap_append]
  rw [show evM m.pf = _ from if_pos hp, List.flatMap_append, pro_itB, pro_itB', Pro.tb_ok h1, Pro.tb_ok h2, List.append_assoc]
  simp [itB, NF.get, encs, min1]
theorem fldB_8f (m : Msg) (hk : m.k = 8) (hp : ¬ m.pf = 3) (h1 : m.a.fine) (h2 : m.b.fine) : fldB m = encs [m.pf.toNat] ++ m.a.tb ++ m.b.tb := by
  unfold fldB; rw [Msg.items8 hk]
  rw [show List.drop 1 (([.n .f 0 63] : List MIt) ++ (([.n .pf 1 3] : List MIt) ++ evM m.pf)) = ([.n .pf 1 3] : List MIt) ++ evM m.pf from rfl, List.flatMap_append]
  rw [show evM m.pf = _ from if_neg hp, List.flatMap_append, att_itB, att_itB', Att.tb_ok h1, Att.tb_ok h2, List.append_assoc]
  simp [itB, NF.get, encs, min1]
theorem by_tick (m : Msg) (hk : m.k = 11) : m.by = encs [m.k.toNat, m.n.toNat] := by
  unfold Msg.by; rw [Msg.itemsk (k := 11) hk (by decide)]
  simp [kM, itB, NF.get, encs, min1]
theorem by_else (m : Msg) (h1 : 1 ≤ m.k) (h2 : m.k ≤ 10) : m.by = encs [m.k.toNat, m.f.toNat] ++ fldB m := by
  have e : m.items = .n .f 0 63 :: m.items.drop 1 := by
    rcases (show m.k = 1 ∨ m.k = 2 ∨ m.k = 3 ∨ m.k = 4 ∨ m.k = 5 ∨ m.k = 6 ∨ m.k = 7 ∨ m.k = 8 ∨ m.k = 9 ∨ m.k = 10 by omega) with h | h | h | h | h | h | h | h | h | h
    · rw [Msg.itemsk (k := 1) h (by decide)]; rfl
    · rw [Msg.itemsk (k := 2) h (by decide)]; rfl
    · rw [Msg.itemsk (k := 3) h (by decide)]; rfl
    · rw [Msg.itemsk (k := 4) h (by decide)]; rfl
    · rw [Msg.itemsk (k := 5) h (by decide)]; rfl
    · rw [Msg.itemsk (k := 6) h (by decide)]; rfl
    · rw [Msg.itemsk (k := 7) h (by decide)]; rfl
    · rw [Msg.items8 h]; rfl
    · rw [Msg.itemsk (k := 9) h (by decide)]; rfl
    · rw [Msg.itemsk (k := 10) h (by decide)]; rfl
  unfold Msg.by fldB
  conv => lhs; rw [e]
  simp [itB, NF.get, encs]
theorem and4 {a b c d : Bool} (h : (a && b && c && d) = true) : a = true ∧ b = true ∧ c = true ∧ d = true := by simpa [and_assoc] using h
theorem rmfields_ok (m : Msg) (w : World) (hok : m.Ok) (hc : m.chk = 0) (hk : m.k ≤ 10) : Calls Try.prog 51 #[.agg (Msg.c m)] w (fun e w' => ∃ X, e = .returned X ∧ Row w' 5 1 X (fldB m).length (B (fldB m)) ∧ NewFrom w.heap.size X ∧ Keeps Nob w w') := by
  obtain ⟨hf, hall, _⟩ := chk_0 hc
  have h1 := hf.1.1
  rcases (show m.k = 1 ∨ m.k = 2 ∨ m.k = 3 ∨ m.k = 4 ∨ m.k = 5 ∨ m.k = 6 ∨ m.k = 7 ∨ m.k = 8 ∨ m.k = 9 ∨ m.k = 10 by omega) with h | h | h | h | h | h | h | h | h | h
  · rw [items_1 m h] at hall
    rw [Bool.and_eq_true] at hall
    have hv := hall.2
    rw [fldB_1 m h]; exact rmfields_1 m w hok h (of_decide_eq_true hv)
  · rw [fldB_2 m h]; exact rmfields_2 m w hok h
  · rw [items_3 m h] at hall
    rw [Bool.and_eq_true] at hall
    have hv := hall.2
    rw [fldB_3 m h]; exact rmfields_3 m w hok h (of_decide_eq_true hv)
  · rw [items_4 m h] at hall
    rw [Bool.and_eq_true] at hall
    have hv := hall.2
    obtain ⟨a0, a1, a2, a3⟩ := and4 hv
    rw [fldB_4 m h]; exact rmfields_4 m w hok h (of_decide_eq_true a0) (of_decide_eq_true a1) (of_decide_eq_true a2) (of_decide_eq_true a3)
  · rw [items_5 m h] at hall
    rw [Bool.and_eq_true] at hall
    have hv := hall.2
    rw [Bool.and_eq_true] at hv
    obtain ⟨a0, a1, a2, a3⟩ := and4 hv.1
    rw [fldB_5 m h]; exact rmfields_5 m w hok h (of_decide_eq_true a0) (of_decide_eq_true a1) (of_decide_eq_true a2) (of_decide_eq_true a3) (of_decide_eq_true hv.2)
  · rw [items_6 m h] at hall
    rw [Bool.and_eq_true] at hall
    have hv := hall.2
    have hv' : m.a.fine := by unfold votesB at hv; rw [if_pos h] at hv; exact of_decide_eq_true hv
    rw [fldB_6 m h hv']; exact rmfields_6 m w hok h
  · rw [items_7 m h] at hall
    rw [Bool.and_eq_true] at hall
    have hv := hall.2
    have hv' : m.p.fine := by unfold votesB at hv; rw [if_neg (show ¬ m.k = 6 by omega), if_pos h] at hv; exact of_decide_eq_true hv
    rw [fldB_7 m h hv']; exact rmfields_7 m w hok h
  · rw [items_8 m h (hf.2 h), Bool.and_eq_true] at hall
    have hv := hall.2
    unfold votesB at hv
    rw [if_neg (show ¬ m.k = 6 by omega), if_neg (show ¬ m.k = 7 by omega)] at hv
    by_cases hp : m.pf = 3
    · rw [if_pos hp, Bool.and_eq_true, decide_eq_true_eq, decide_eq_true_eq] at hv
      rw [fldB_8t m h hp hv.1 hv.2]; exact rmfields_8t m w hok h (hf.2 h) hp
    · rw [if_neg hp, Bool.and_eq_true, decide_eq_true_eq, decide_eq_true_eq] at hv
      rw [fldB_8f m h hp hv.1 hv.2]; exact rmfields_8f m w hok h (hf.2 h) hp
  · rw [items_9 m h] at hall
    rw [Bool.and_eq_true] at hall
    have hv := hall.2
    rw [fldB_9 m h]; exact rmfields_9 m w hok h (of_decide_eq_true hv)
  · rw [fldB_10 m h]; exact rmfields_10 m w hok h
theorem chk_f {m : Msg} (hc : m.chk = 0) (hk : m.k ≤ 10) : 0 ≤ m.f ∧ m.f ≤ 63 := by
  obtain ⟨hf, hall, _⟩ := chk_0 hc
  have h1 := hf.1.1
  rcases (show m.k = 1 ∨ m.k = 2 ∨ m.k = 3 ∨ m.k = 4 ∨ m.k = 5 ∨ m.k = 6 ∨ m.k = 7 ∨ m.k = 8 ∨ m.k = 9 ∨ m.k = 10 by omega) with h | h | h | h | h | h | h | h | h | h
  · rw [items_1 m h, Bool.and_eq_true] at hall; exact of_decide_eq_true hall.1
  · rw [items_2 m h, Bool.and_eq_true] at hall; exact of_decide_eq_true hall.1
  · rw [items_3 m h, Bool.and_eq_true] at hall; exact of_decide_eq_true hall.1
  · rw [items_4 m h, Bool.and_eq_true] at hall; exact of_decide_eq_true hall.1
  · rw [items_5 m h, Bool.and_eq_true] at hall; exact of_decide_eq_true hall.1
  · rw [items_6 m h, Bool.and_eq_true] at hall; exact of_decide_eq_true hall.1
  · rw [items_7 m h, Bool.and_eq_true] at hall; exact of_decide_eq_true hall.1
  · rw [items_8 m h (hf.2 h), Bool.and_eq_true] at hall; exact of_decide_eq_true hall.1
  · rw [items_9 m h, Bool.and_eq_true] at hall; exact of_decide_eq_true hall.1
  · rw [items_10 m h, Bool.and_eq_true] at hall; exact of_decide_eq_true hall.1
theorem chk_n' {m : Msg} (hc : m.chk = 0) (hk : m.k = 11) : 1 ≤ m.n ∧ m.n ≤ 1000 := by
  obtain ⟨hf, hall, _⟩ := chk_0 hc
  rw [items_11 m hk] at hall; exact of_decide_eq_true hall
noncomputable def part_rmBytes (n : Nat) : Code := partOf Try.f15 n
noncomputable abbrev o_rmBytes (n k : Nat) : Oper := (opsAt (part_rmBytes n)).getD k default
set_option maxRecDepth 100000 in
set_option maxHeartbeats 4000000 in
theorem rmBytes_bad (m : Msg) (w : World) (hok : m.Ok) (hc : ¬ m.chk = 0) :
    Calls Try.prog 15 #[.agg (Msg.c m)] w (fun e w' => ∃ X, e = .returned (.tuple #[X, .int .i64 m.chk]) ∧ Row w' 5 1 X m.told.length (B m.told) ∧ NewFrom w.heap.size X ∧ Keeps Nob w w') := by
  obtain ⟨i0, hi0, hz0, hz1, hz2⟩ := info_parts u8_info0
  have hr := hok.R
  have K0 : Keeps Nob w w := Keeps.refl _ _
  refine sy_enter (part_rmBytes 1) ⟨#[.agg (Msg.c m), undef, undef, undef, undef, undef, undef, undef, undef, undef, undef, undef, undef, undef, undef, undef, undef, undef, undef, undef, undef, undef, undef, undef, undef, undef, undef, undef, undef, undef, undef, undef], []⟩ Try.func15 (by kernel_rfl) (by kernel_rfl) ?_
  refine sy_sq (part_rmBytes 2) (part_rmBytes 3) ?_
  refine sy_reg ?_
  refine rg_plain 0 (opsAt (part_rmBytes 2)) [0, 1, 2] (by kernel_rfl) (by kernel_rfl) ?_
  obtain ⟨V1, eV1, gm, egm, h2, kV1⟩ := alloc_step w ((Msg.c m)) 35
  have n3 : w.heap.size ≤ gm := egm ▸ K0.size
  refine ps_r (o_rmBytes 2 0) (pT gm 0) (w' := V1) (by rw [← eV1, ← egm]; exact exec_box 35 (.tmp 0) (by kernel_rfl) (.agg (Msg.c m)) (by kernel_rfl)) ?_
  clear eV1
  have K4 := K0.nn kV1
  have z5 := kV1.size
  refine ps_k (o_rmBytes 2 1) (.slice none 0 0) ?_
  refine ps_k (o_rmBytes 2 2) (.int .i64 0) ?_
  refine ps_end ?_
  refine then_n ?_
  refine sy_sq (part_rmBytes 6) (part_rmBytes 7) ?_
  refine sy_sq (part_rmBytes 12) (part_rmBytes 13) ?_
  refine sy_reg ?_
  refine rg_plain 1 (opsAt (part_rmBytes 12)) [0, 1, 2] (by kernel_rfl) (by kernel_rfl) ?_
  refine ps_p (o_rmBytes 12 0) (.agg (Msg.c m)) (exec_load_row 35 (.tmp 1) (by kernel_rfl) gm (by kernel_rfl) _ _ (0, 0) _ (h2) Try.underlying35 rfl (by rw [Msg.c_size hr]; kernel_rfl)) ?_
  refine ps_c (o_rmBytes 12 1) 18 #[.agg (Msg.c m)] Try.func18 ((rmCheck_ok_ m _ hr).mono ?_)
  rintro e V6 ⟨rfl, kV6⟩
  refine ⟨_, rfl, ?_⟩
  have h7 := kV6.bk h2
  have K8 := K4.nn kV6
  have z9 := kV6.size
  refine ps_k (o_rmBytes 12 2) (.int .i64 m.chk) ?_
  refine ps_end ?_
  refine then_n ?_
  refine sy_sq (part_rmBytes 26) (part_rmBytes 27) ?_
  refine sy_reg ?_
  refine rg_plain 2 (opsAt (part_rmBytes 26)) [0, 1] (by kernel_rfl) (by kernel_rfl) ?_
  refine ps_k (o_rmBytes 26 0) (.int .i64 m.chk) ?_
  refine ps_p (o_rmBytes 26 1) (.bool true) (nqt ((m.chk) : Int) ((0) : Int) (by omega)) ?_
  refine ps_end ?_
  refine then_n ?_
  refine sy_ys (.tmp 8) (part_rmBytes 54) (part_rmBytes 55) ?_
  refine sy_sq (part_rmBytes 108) (part_rmBytes 109) ?_
  refine sy_reg ?_
  refine rg_plain 3 (opsAt (part_rmBytes 108)) [0, 1, 2] (by kernel_rfl) (by kernel_rfl) ?_
  refine ps_k (o_rmBytes 108 0) (.int .i64 m.chk) ?_
  refine ps_k (o_rmBytes 108 1) (.slice none 0 0) ?_
  refine ps_k (o_rmBytes 108 2) (.int .i64 m.chk) ?_
  refine ps_end ?_
  refine then_n ?_
  refine sy_ret (by kernel_rfl) ?_
  refine then_r ?_
  refine sy_out (.tuple #[.slice none 0 0, .int .i64 m.chk]) rfl (by kernel_rfl) ?_
  exact ⟨_, rfl, by rw [Msg.told, if_neg hc]; exact World.ownsRow_nil _ _ _ _, NewFrom.nil _, K8⟩
set_option maxRecDepth 100000 in
set_option maxHeartbeats 4000000 in
theorem rmBytes_tick (m : Msg) (w : World) (hok : m.Ok) (hc : m.chk = 0) (hk : m.k = 11) :
    Calls Try.prog 15 #[.agg (Msg.c m)] w (fun e w' => ∃ X, e = .returned (.tuple #[X, .int .i64 m.chk]) ∧ Row w' 5 1 X m.told.length (B m.told) ∧ NewFrom w.heap.size X ∧ Keeps Nob w w') := by
  obtain ⟨i0, hi0, hz0, hz1, hz2⟩ := info_parts u8_info0
  have hr := hok.R
  have hb := chk_n' hc hk
  have K0 : Keeps Nob w w := Keeps.refl _ _
  refine sy_enter (part_rmBytes 1) ⟨#[.agg (Msg.c m), undef, undef, undef, undef, undef, undef, undef, undef, undef, undef, undef, undef, undef, undef, undef, undef, undef, undef, undef, undef, undef, undef, undef, undef, undef, undef, undef, undef, undef, undef, undef], []⟩ Try.func15 (by kernel_rfl) (by kernel_rfl) ?_
  refine sy_sq (part_rmBytes 2) (part_rmBytes 3) ?_
  refine sy_reg ?_
  refine rg_plain 0 (opsAt (part_rmBytes 2)) [0, 1, 2] (by kernel_rfl) (by kernel_rfl) ?_
  obtain ⟨V1, eV1, gm, egm, h2, kV1⟩ := alloc_step w ((Msg.c m)) 35
  have n3 : w.heap.size ≤ gm := egm ▸ K0.size
  refine ps_r (o_rmBytes 2 0) (pT gm 0) (w' := V1) (by rw [← eV1, ← egm]; exact exec_box 35 (.tmp 0) (by kernel_rfl) (.agg (Msg.c m)) (by kernel_rfl)) ?_
  clear eV1
  have K4 := K0.nn kV1
  have z5 := kV1.size
  refine ps_k (o_rmBytes 2 1) (.slice none 0 0) ?_
  refine ps_k (o_rmBytes 2 2) (.int .i64 0) ?_
  refine ps_end ?_
  refine then_n ?_
  refine sy_sq (part_rmBytes 6) (part_rmBytes 7) ?_
  refine sy_sq (part_rmBytes 12) (part_rmBytes 13) ?_
  refine sy_reg ?_
  refine rg_plain 1 (opsAt (part_rmBytes 12)) [0, 1, 2] (by kernel_rfl) (by kernel_rfl) ?_
  refine ps_p (o_rmBytes 12 0) (.agg (Msg.c m)) (exec_load_row 35 (.tmp 1) (by kernel_rfl) gm (by kernel_rfl) _ _ (0, 0) _ (h2) Try.underlying35 rfl (by rw [Msg.c_size hr]; kernel_rfl)) ?_
  refine ps_c (o_rmBytes 12 1) 18 #[.agg (Msg.c m)] Try.func18 (((hc ▸ rmCheck_ok_ m _ hr)).mono ?_)
  rintro e V6 ⟨rfl, kV6⟩
  refine ⟨_, rfl, ?_⟩
  have h7 := kV6.bk h2
  have K8 := K4.nn kV6
  have z9 := kV6.size
  refine ps_k (o_rmBytes 12 2) (.int .i64 0) ?_
  refine ps_end ?_
  refine then_n ?_
  refine sy_sq (part_rmBytes 26) (part_rmBytes 27) ?_
  refine sy_reg ?_
  refine rg_plain 2 (opsAt (part_rmBytes 26)) [0, 1] (by kernel_rfl) (by kernel_rfl) ?_
  refine ps_k (o_rmBytes 26 0) (.int .i64 0) ?_
  refine ps_k (o_rmBytes 26 1) (.bool false) ?_
  refine ps_end ?_
  refine then_n ?_
  refine sy_n (.tmp 8) (part_rmBytes 54) (part_rmBytes 55) ?_
  refine sy_sk ?_
  refine then_n ?_
  refine sy_sq (part_rmBytes 14) (part_rmBytes 15) ?_
  refine sy_sq (part_rmBytes 28) (part_rmBytes 29) ?_
  refine sy_reg ?_
  refine rg_plain 4 (opsAt (part_rmBytes 28)) [0, 1, 2] (by kernel_rfl) (by kernel_rfl) ?_
  refine ps_k (o_rmBytes 28 0) (pT gm 0) ?_
  refine ps_p (o_rmBytes 28 1) (.int .i64 m.k) (exec_ld 3 (.tmp 10) gm 0 Try.underlying3 (rc (h7) (Msg.get_n hr NF.k))) ?_
  refine ps_p (o_rmBytes 28 2) (.bool true) (eqt ((m.k) : Int) ((11) : Int) (by omega)) ?_
  refine ps_end ?_
  refine then_n ?_
  refine sy_ys (.tmp 12) (part_rmBytes 58) (part_rmBytes 59) ?_
  refine sy_sq (part_rmBytes 116) (part_rmBytes 117) ?_
  refine sy_reg ?_
  refine rg_plain 5 (opsAt (part_rmBytes 116)) [0, 1, 2, 3, 4, 5, 6, 7, 8, 9] (by kernel_rfl) (by kernel_rfl) ?_
  refine ps_k (o_rmBytes 116 0) (pT gm 0) ?_
  refine ps_p (o_rmBytes 116 1) (.int .i64 m.k) (exec_ld 3 (.tmp 13) gm 0 Try.underlying3 (rc (h7) (Msg.get_n hr NF.k))) ?_
  refine ps_p (o_rmBytes 116 2) (uN m.k.toNat) (exec_cast (congrArg (Value.int .u64) (wrapNat (by omega) (by omega))) (by kernel_rfl)) ?_
  refine ps_k (o_rmBytes 116 3) (pT gm 10) ?_
  refine ps_p (o_rmBytes 116 4) (.int .i64 m.n) (exec_ld 3 (.tmp 16) gm 10 Try.underlying3 (rc (h7) (Msg.get_n hr NF.n))) ?_
  refine ps_p (o_rmBytes 116 5) (uN m.n.toNat) (exec_cast (congrArg (Value.int .u64) (wrapNat (by omega) (by omega))) (by kernel_rfl)) ?_
  obtain ⟨V10, eV10, gl, egl, h11, kV10⟩ := alloc_step V6 (#[.int .u64 ((m.k.toNat : Nat) : Int), .int .u64 ((m.n.toNat : Nat) : Int)]) 25
  have n12 : gm < gl := egl ▸ lt_of_block h7
  have n13 : w.heap.size ≤ gl := egl ▸ K8.size
  refine ps_r (o_rmBytes 116 6) (.slice (some ⟨gl, 0, none⟩) 2 2) (w' := V10) (by rw [← eV10, ← egl]; kernel_rfl) ?_
  have h14 := kV10.bk h7
  have K15 := K8.nn kV10
  have z16 := kV10.size
  have zpX18 : w.heap.size ≤ V10.heap.size := K15.size
  refine ps_c (o_rmBytes 116 7) 50 #[.slice (some ⟨gl, 0, none⟩) 2 2] Try.func50 ((rmput_2 gl m.k.toNat m.n.toNat _ h11 (by omega) (by omega)).mono ?_)
  rintro e V17 ⟨X18, rfl, hX18, hnX18, kV17⟩
  have hwX18 : NewFrom w.heap.size X18 := fun j hj => by have := hnX18 j hj; omega
  refine ⟨_, rfl, ?_⟩
  have h19 := kV17.bk h14
  have K20 := K15.nn kV17
  have z21 := kV17.size
  refine ps_k (o_rmBytes 116 8) (X18) ?_
  refine ps_k (o_rmBytes 116 9) (.int .i64 0) ?_
  refine ps_end ?_
  refine then_n ?_
  refine sy_ret (by kernel_rfl) ?_
  refine then_r ?_
  refine sy_out (.tuple #[X18, .int .i64 0]) rfl (by kernel_rfl) ?_
  exact ⟨_, by rw [hc], by rw [Msg.told, if_pos hc, by_tick m hk]; exact hX18, hwX18, K20⟩
set_option maxRecDepth 100000 in
set_option maxHeartbeats 4000000 in
theorem rmBytes_else (m : Msg) (w : World) (hok : m.Ok) (hc : m.chk = 0) (hk : ¬ m.k = 11) :
    Calls Try.prog 15 #[.agg (Msg.c m)] w (fun e w' => ∃ X, e = .returned (.tuple #[X, .int .i64 m.chk]) ∧ Row w' 5 1 X m.told.length (B m.told) ∧ NewFrom w.heap.size X ∧ Keeps Nob w w') := by
  obtain ⟨i0, hi0, hz0, hz1, hz2⟩ := info_parts u8_info0
  have hr := hok.R
  have hkk := (chk_0 hc).1.1
  have hk1 := hkk.1
  have hk2 : m.k ≤ 10 := by omega
  have hb := chk_f hc hk2
  have hby := by_len hr
  rw [by_else m hk1 hk2, List.length_append] at hby
  have K0 : Keeps Nob w w := Keeps.refl _ _
  refine sy_enter (part_rmBytes 1) ⟨#[.agg (Msg.c m), undef, undef, undef, undef, undef, undef, undef, undef, undef, undef, undef, undef, undef, undef, undef, undef, undef, undef, undef, undef, undef, undef, undef, undef, undef, undef, undef, undef, undef, undef, undef], []⟩ Try.func15 (by kernel_rfl) (by kernel_rfl) ?_
  refine sy_sq (part_rmBytes 2) (part_rmBytes 3) ?_
  refine sy_reg ?_
  refine rg_plain 0 (opsAt (part_rmBytes 2)) [0, 1, 2] (by kernel_rfl) (by kernel_rfl) ?_
  obtain ⟨V1, eV1, gm, egm, h2, kV1⟩ := alloc_step w ((Msg.c m)) 35
  have n3 : w.heap.size ≤ gm := egm ▸ K0.size
  refine ps_r (o_rmBytes 2 0) (pT gm 0) (w' := V1) (by rw [← eV1, ← egm]; exact exec_box 35 (.tmp 0) (by kernel_rfl) (.agg (Msg.c m)) (by kernel_rfl)) ?_
  clear eV1
  have K4 := K0.nn kV1
  have z5 := kV1.size
  refine ps_k (o_rmBytes 2 1) (.slice none 0 0) ?_
  refine ps_k (o_rmBytes 2 2) (.int .i64 0) ?_
  refine ps_end ?_
  refine then_n ?_
  refine sy_sq (part_rmBytes 6) (part_rmBytes 7) ?_
  refine sy_sq (part_rmBytes 12) (part_rmBytes 13) ?_
  refine sy_reg ?_
  refine rg_plain 1 (opsAt (part_rmBytes 12)) [0, 1, 2] (by kernel_rfl) (by kernel_rfl) ?_
  refine ps_p (o_rmBytes 12 0) (.agg (Msg.c m)) (exec_load_row 35 (.tmp 1) (by kernel_rfl) gm (by kernel_rfl) _ _ (0, 0) _ (h2) Try.underlying35 rfl (by rw [Msg.c_size hr]; kernel_rfl)) ?_
  refine ps_c (o_rmBytes 12 1) 18 #[.agg (Msg.c m)] Try.func18 (((hc ▸ rmCheck_ok_ m _ hr)).mono ?_)
  rintro e V6 ⟨rfl, kV6⟩
  refine ⟨_, rfl, ?_⟩
  have h7 := kV6.bk h2
  have K8 := K4.nn kV6
  have z9 := kV6.size
  refine ps_k (o_rmBytes 12 2) (.int .i64 0) ?_
  refine ps_end ?_
  refine then_n ?_
  refine sy_sq (part_rmBytes 26) (part_rmBytes 27) ?_
  refine sy_reg ?_
  refine rg_plain 2 (opsAt (part_rmBytes 26)) [0, 1] (by kernel_rfl) (by kernel_rfl) ?_
  refine ps_k (o_rmBytes 26 0) (.int .i64 0) ?_
  refine ps_k (o_rmBytes 26 1) (.bool false) ?_
  refine ps_end ?_
  refine then_n ?_
  refine sy_n (.tmp 8) (part_rmBytes 54) (part_rmBytes 55) ?_
  refine sy_sk ?_
  refine then_n ?_
  refine sy_sq (part_rmBytes 14) (part_rmBytes 15) ?_
  refine sy_sq (part_rmBytes 28) (part_rmBytes 29) ?_
  refine sy_reg ?_
  refine rg_plain 4 (opsAt (part_rmBytes 28)) [0, 1, 2] (by kernel_rfl) (by kernel_rfl) ?_
  refine ps_k (o_rmBytes 28 0) (pT gm 0) ?_
  refine ps_p (o_rmBytes 28 1) (.int .i64 m.k) (exec_ld 3 (.tmp 10) gm 0 Try.underlying3 (rc (h7) (Msg.get_n hr NF.k))) ?_
  refine ps_p (o_rmBytes 28 2) (.bool false) (eqf ((m.k) : Int) ((11) : Int) (by omega)) ?_
  refine ps_end ?_
  refine then_n ?_
  refine sy_n (.tmp 12) (part_rmBytes 58) (part_rmBytes 59) ?_
  refine sy_sk ?_
  refine then_n ?_
  refine sy_sq (part_rmBytes 30) (part_rmBytes 31) ?_
  refine sy_np ?_
  refine sy_reg ?_
  refine an_begin 6 13 (opsAt (part_rmBytes 30)) (fun W => (W.heap[gm]? = some (.cells (Msg.c m) 35 (0, 0)))) #[false, false, false, false, false, false, false, false, false, false, false, false, false] (by kernel_rfl) (by kernel_rfl) (by kernel_rfl) (by kernel_rfl) ?_
  obtain ⟨V10, eV10, kV10⟩ := drew_step V6
  rw [eV10]
  clear eV10
  have h11 := kV10.bk h7
  have K12 := K8.nn kV10
  have z13 := kV10.size
  refine an_k 0 (o_rmBytes 30 0) (pT gm 0) h11 ?_
  refine an_v 1 (o_rmBytes 30 1) (.int .i64 m.k) (fun W hS => exec_ld 3 (.tmp 21) gm 0 Try.underlying3 (rc (hS) (Msg.get_n hr NF.k))) h11 ?_
  refine an_v 2 (o_rmBytes 30 2) (uN m.k.toNat) (fun W hS => exec_cast (congrArg (Value.int .u64) (wrapNat (by omega) (by omega))) (by kernel_rfl)) h11 ?_
  refine an_k 3 (o_rmBytes 30 3) (pT gm 1) h11 ?_
  refine an_v 4 (o_rmBytes 30 4) (.int .i64 m.f) (fun W hS => exec_ld 3 (.tmp 24) gm 1 Try.underlying3 (rc (hS) (Msg.get_n hr NF.f))) h11 ?_
  refine an_v 5 (o_rmBytes 30 5) (uN m.f.toNat) (fun W hS => exec_cast (congrArg (Value.int .u64) (wrapNat (by omega) (by omega))) (by kernel_rfl)) h11 ?_
  refine an_v 8 (o_rmBytes 30 8) (.agg (Msg.c m)) (fun W hS => exec_load_row 35 (.tmp 1) (by kernel_rfl) gm (by kernel_rfl) _ _ (0, 0) _ (hS) Try.underlying35 rfl (by rw [Msg.c_size hr]; kernel_rfl)) h11 ?_
  refine an_o 6 ?_
  obtain ⟨V14, eV14, gl, egl, h15, kV14⟩ := alloc_step V10 (#[.int .u64 ((m.k.toNat : Nat) : Int), .int .u64 ((m.f.toNat : Nat) : Int)]) 25
  have n16 : gm < gl := egl ▸ lt_of_block h11
  have n17 : w.heap.size ≤ gl := egl ▸ K12.size
  refine on_r (o_rmBytes 30 6) (.slice (some ⟨gl, 0, none⟩) 2 2) (w' := V14) (by rw [← eV14, ← egl]; kernel_rfl) ?_
  have h18 := kV14.bk h11
  have K19 := K12.nn kV14
  have z20 := kV14.size
  refine ⟨h18, ?_⟩
  refine an_o 7 ?_
  have zpX22 : w.heap.size ≤ V14.heap.size := K19.size
  refine on_c (o_rmBytes 30 7) 50 #[.slice (some ⟨gl, 0, none⟩) 2 2] Try.func50 ((rmput_2 gl m.k.toNat m.f.toNat _ h15 (by omega) (by omega)).mono ?_)
  rintro e V21 ⟨X22, rfl, hX22, hnX22, kV21⟩
  have hwX22 : NewFrom (gm + 1) X22 := fun j hj => by have := hnX22 j hj; omega
  refine ⟨_, rfl, ?_⟩
  have h23 := kV21.bk h18
  have K24 := K19.nn kV21
  have z25 := kV21.size
  refine ⟨h23, ?_⟩
  refine an_o 9 ?_
  refine on_c (o_rmBytes 30 9) 51 #[.agg (Msg.c m)] Try.func51 ((rmfields_ok m _ hok hc hk2).mono ?_)
  rintro e V26 ⟨Xf, rfl, hXf, hnXf, kV26⟩
  refine ⟨_, rfl, ?_⟩
  have h27 := kV26.bk h23
  have h28 : Row V26 5 1 X22 ((encs [m.k.toNat, m.f.toNat]).length) (B (encs [m.k.toNat, m.f.toNat])) := hX22.keeps kV26 (fun _ _ x => x)
  have K29 := K24.nn kV26
  have z30 := kV26.size
  refine ⟨h27, ?_⟩
  refine an_o 10 ?_
  obtain ⟨v31, V32, hr33, h34, hg35, hn36, ha37⟩ := run_append_any (P := Try.prog) (w := V26) 22 (Oper.type (o_rmBytes 30 10)) 5 i0 (.int .u8 0) 1 1 Try.underlying22 hi0 hz0 hz1 hz2 rfl (by decide) X22 ((encs [m.k.toNat, m.f.toNat]).length) (B (encs [m.k.toNat, m.f.toNat])) h28 Xf ((fldB m).length) (B (fldB m)) (Row.src hXf (B_one _)) (by unfold maxLen; omega) (by omega)
  have kV32 : Keeps (fun j => (X22 : Value).ownBlock = some j) V26 V32 := Keeps.rowAdd hg35
  have hw38 : NewFrom (gm + 1) v31 := hwX22.next (lt_of_block h27) ha37
  refine on_r (o_rmBytes 30 10) v31 (w' := V32) (exec_append (.tmp 28) (.tmp 30) 22 (by kernel_rfl) X22 Xf (by kernel_rfl) (by kernel_rfl) hr33) ?_
  have h39 : Row V32 5 1 v31 m.by.length (B m.by) := row_cast h34 (by_else m hk1 hk2).symm (by rw [by_else m hk1 hk2, List.length_append])
  have h40 : V32.heap[gm]? = some (.cells (Msg.c m) 35 (0, 0)) := (kV32.block gm (lt_of_block h27) (fun e => by have := hwX22 _ e; omega)).trans h27
  have K41 : Keeps Nob w V32 := K29.then kV32 (fun i hi hm => absurd hi (by have := hwX22 i hm; omega))
  have z42 := kV32.size
  refine ⟨h40, ?_⟩
  refine an_o 11 ?_
  refine on_r (o_rmBytes 30 11) (v31) (w' := V32) (by kernel_rfl) ?_
  refine ⟨h40, ?_⟩
  refine an_o 12 ?_
  refine on_r (o_rmBytes 30 12) (.int .i64 0) (w' := V32) (by kernel_rfl) ?_
  refine ⟨h40, ?_⟩
  refine an_end (by kernel_rfl) ?_
  refine sy_a ⟨#[.agg (Msg.c m), pT gm 0, v31, .int .i64 0, .int .i64 0, .agg (Msg.c m), .int .i64 0, .int .i64 0, .bool false, undef, pT gm 0, .int .i64 m.k, .bool false, undef, undef, undef, undef, undef, undef, undef, undef, pT gm 0, .int .i64 m.k, uN m.k.toNat, pT gm 1, .int .i64 m.f, uN m.f.toNat, .slice (some ⟨gl, 0, none⟩) 2 2, X22, .agg (Msg.c m), Xf, v31], []⟩ ?_
  refine then_n ?_
  refine sy_ret (by kernel_rfl) ?_
  refine sy_out (.tuple #[v31, .int .i64 0]) rfl (by kernel_rfl) ?_
  exact ⟨_, by rw [hc], by rw [Msg.told, if_pos hc]; exact h39, fun j hj => by have := hw38 j hj; omega, K41⟩
theorem rmBytes_any (m : Msg) (w : World) (hok : m.Ok) : Calls Try.prog 15 #[.agg (Msg.c m)] w (fun e w' => ∃ X, e = .returned (.tuple #[X, .int .i64 m.chk]) ∧ Row w' 5 1 X m.told.length (B m.told) ∧ NewFrom w.heap.size X ∧ Keeps Nob w w') := by
  by_cases hc : m.chk = 0
  · by_cases hk : m.k = 11
    · exact rmBytes_tick m w hok hc hk
    · exact rmBytes_else m w hok hc hk
  · exact rmBytes_bad m w hok hc
end Go.Proofs.Ytmapcghgdbfmhaa
