/-
  Records: the chapter's examples, to the end (printed by rec10.py). Conditions: none.
-/
import Derived.Test.YtgipooedgbbliaaRecQ
namespace Go.Proofs.Ytgipooedgbbliaa
open Go Go.RowKit Go.Own Go.Shelf
def vt (v s t : Int) : Att := ⟨v, s, t, List.replicate 32 0, 0⟩
def bl (h : Int) : Pro := ⟨1, h, List.replicate 32 0, 0⟩
def okInt (x : Int) : Prop := -1000000000000 ≤ x ∧ x ≤ 1000000000000
theorem vt_ok {v s t : Int} (h1 : i64b v) (h2 : i64b s) (h3 : i64b t) : (vt v s t).Ok := ⟨h1, h2, h3, rfl, by show (0 : Nat) < 2 ^ 64; decide⟩
theorem bl_ok {h : Int} (h1 : i64b h) : (bl h).Ok := ⟨by show i64b 1; decide, h1, rfl, by show (0 : Nat) < 2 ^ 64; decide⟩
section
variable {w0 w : World} {r : Nat} {v : Int} {s : RSpec}
theorem RSt.put_yes (h : RSt w0 w r v s) (a : Att) (ha : a.Ok) (he : s.putErr v a = 0) : Calls Try.prog 9 #[.pointer (some ⟨r, 0, none⟩), .agg (Att.c a)] w fun e w' => e = .returned (.int .i64 0) ∧ RSt w0 w' r v { s with VA := upV s.VA a.t a } ∧ Keeps (Rings w0 w) w w' := by
  have h1 := h.put a ha
  unfold RSpec.put at h1
  rw [if_pos he, he] at h1; exact h1
theorem RSt.put_no (h : RSt w0 w r v s) (a : Att) (ha : a.Ok) (x : Int) (he : s.putErr v a = x) (hx : x ≠ 0) : Calls Try.prog 9 #[.pointer (some ⟨r, 0, none⟩), .agg (Att.c a)] w fun e w' => e = .returned (.int .i64 x) ∧ RSt w0 w' r v s ∧ Keeps (Rings w0 w) w w' := by
  have h1 := h.put a ha
  unfold RSpec.put at h1
  rw [if_neg (by rw [he]; exact hx), he] at h1; exact h1
theorem RSt.putB_yes (h : RSt w0 w r v s) (a : Pro) (ha : a.Ok) (he : s.putErrB v a = 0) : Calls Try.prog 12 #[.pointer (some ⟨r, 0, none⟩), .agg (Pro.c a)] w fun e w' => e = .returned (.int .i64 0) ∧ RSt w0 w' r v { s with VB := upV s.VB a.h a } ∧ Keeps (Rings w0 w) w w' := by
  have h1 := h.putB a ha
  unfold RSpec.putB at h1
  rw [if_pos he, he] at h1; exact h1
theorem RSt.putB_no (h : RSt w0 w r v s) (a : Pro) (ha : a.Ok) (x : Int) (he : s.putErrB v a = x) (hx : x ≠ 0) : Calls Try.prog 12 #[.pointer (some ⟨r, 0, none⟩), .agg (Pro.c a)] w fun e w' => e = .returned (.int .i64 x) ∧ RSt w0 w' r v s ∧ Keeps (Rings w0 w) w w' := by
  have h1 := h.putB a ha
  unfold RSpec.putB at h1
  rw [if_neg (by rw [he]; exact hx), he] at h1; exact h1
theorem RSt.move_yes (h : RSt w0 w r v s) (l f : Int) (he : s.moveErr l f = 0) : Calls Try.prog 14 #[.pointer (some ⟨r, 0, none⟩), .int .i64 l, .int .i64 f] w fun e w' => e = .returned (.int .i64 0) ∧ RSt w0 w' r v { s with la := l.toNat, lb := f.toNat, VA := mvV s.VA l, VB := mvV s.VB f } ∧ Keeps (Rings w0 w) w w' := by
  have h1 := h.move l f
  unfold RSpec.move at h1
  rw [if_pos he, he] at h1; exact h1
theorem RSt.move_no (h : RSt w0 w r v s) (l f x : Int) (he : s.moveErr l f = x) (hx : x ≠ 0) : Calls Try.prog 14 #[.pointer (some ⟨r, 0, none⟩), .int .i64 l, .int .i64 f] w fun e w' => e = .returned (.int .i64 x) ∧ RSt w0 w' r v s ∧ Keeps (Rings w0 w) w w' := by
  have h1 := h.move l f
  unfold RSpec.move at h1
  rw [if_neg (by rw [he]; exact hx), he] at h1; exact h1
end
def kn0 : RSpec := ⟨0, 4, 1, 10, fun _ => none, fun _ => none⟩
def kn1 : RSpec := { kn0 with VA := upV kn0.VA 2 (vt 1 0 2) }
def kn2 : RSpec := { kn1 with VA := upV kn1.VA 3 (vt 1 1 3) }
def kn3 : RSpec := { kn2 with VB := upV kn2.VB 5 (bl 5) }
def kn4 : RSpec := { kn3 with la := 3, lb := 6, VA := mvV kn3.VA 3, VB := mvV kn3.VB 6 }
def kn5 : RSpec := { kn4 with VA := upV kn4.VA 6 (vt 1 0 6) }
def kn6 : RSpec := { kn5 with la := 4294967296, lb := 4294967296, VA := mvV kn5.VA 4294967296, VB := mvV kn5.VB 4294967296 }

noncomputable def part_lrvote (n : Nat) : Code := partOf Try.f10 n
noncomputable abbrev o_lrvote (n k : Nat) : Oper := (opsAt (part_lrvote n)).getD k default
set_option maxRecDepth 100000 in
set_option maxHeartbeats 4000000 in
theorem lrvote_ok (v s t : Int) (w : World) :
    Calls Try.prog 10 #[.int .i64 v, .int .i64 s, .int .i64 t] w (fun e w' => e = .returned (.agg (Att.c (vt v s t))) ∧ Keeps Nob w w') := by
  have K0 : Keeps Nob w w := Keeps.refl _ _
  refine sy_enter (part_lrvote 1) ⟨#[.int .i64 v, .int .i64 s, .int .i64 t, undef, undef, undef, undef, undef, undef, undef, undef], []⟩ Try.func10 (by kernel_rfl) (by kernel_rfl) ?_
  refine sy_sq (part_lrvote 2) (part_lrvote 3) ?_
  refine sy_reg ?_
  refine rg_plain 0 (opsAt (part_lrvote 2)) [0] (by kernel_rfl) (by kernel_rfl) ?_
  obtain ⟨V1, eV1, g, eg, h2, kV1⟩ := alloc_step w (#[.int .i64 0, .int .i64 0, .int .i64 0, .int .u8 0, .int .u8 0, .int .u8 0, .int .u8 0, .int .u8 0, .int .u8 0, .int .u8 0, .int .u8 0, .int .u8 0, .int .u8 0, .int .u8 0, .int .u8 0, .int .u8 0, .int .u8 0, .int .u8 0, .int .u8 0, .int .u8 0, .int .u8 0, .int .u8 0, .int .u8 0, .int .u8 0, .int .u8 0, .int .u8 0, .int .u8 0, .int .u8 0, .int .u8 0, .int .u8 0, .int .u8 0, .int .u8 0, .int .u8 0, .int .u8 0, .int .u8 0, .int .u64 0]) 28
  have n3 : w.heap.size ≤ g := eg ▸ K0.size
  refine ps_r (o_lrvote 2 0) (pT g 0) (w' := V1) (by rw [← eV1, ← eg]; exact exec_alloc0 28 (by kernel_rfl) (.agg (#[.int .i64 0, .int .i64 0, .int .i64 0, .int .u8 0, .int .u8 0, .int .u8 0, .int .u8 0, .int .u8 0, .int .u8 0, .int .u8 0, .int .u8 0, .int .u8 0, .int .u8 0, .int .u8 0, .int .u8 0, .int .u8 0, .int .u8 0, .int .u8 0, .int .u8 0, .int .u8 0, .int .u8 0, .int .u8 0, .int .u8 0, .int .u8 0, .int .u8 0, .int .u8 0, .int .u8 0, .int .u8 0, .int .u8 0, .int .u8 0, .int .u8 0, .int .u8 0, .int .u8 0, .int .u8 0, .int .u8 0, .int .u64 0])) (by kernel_rfl)) ?_
  clear eV1
  have K4 := K0.nn kV1
  have z5 := kV1.size
  refine ps_end ?_
  refine then_n ?_
  refine sy_sq (part_lrvote 6) (part_lrvote 7) ?_
  refine sy_reg ?_
  refine rg_plain 1 (opsAt (part_lrvote 6)) [0, 1, 2, 3, 4] (by kernel_rfl) (by kernel_rfl) ?_
  refine ps_k (o_lrvote 6 0) (.int .i64 v) ?_
  refine ps_k (o_lrvote 6 1) (.int .i64 s) ?_
  refine ps_k (o_lrvote 6 2) (.int .i64 t) ?_
  refine ps_k (o_lrvote 6 3) (.agg (Att.c (vt v s t))) ?_
  obtain ⟨V6, eV6, kV6⟩ := rowset_step V1 g ((Att.c (vt v s t)))
  have h7 : V6.heap[g]? = some (.cells (Att.c (vt v s t)) 28 (0, 0)) := eV6 ▸ setRow_heap _ _ _ _ _ _ h2
  refine ps_s (o_lrvote 6 4) (w' := V6) (by rw [← eV6]; exact exec_store_row 28 (.tmp 6) (.tmp 10) (by kernel_rfl) g ((Att.c (vt v s t))) (by kernel_rfl) (by kernel_rfl) 28 (#[.int .i64 0, .int .i64 0, .int .i64 0, .int .u8 0, .int .u8 0, .int .u8 0, .int .u8 0, .int .u8 0, .int .u8 0, .int .u8 0, .int .u8 0, .int .u8 0, .int .u8 0, .int .u8 0, .int .u8 0, .int .u8 0, .int .u8 0, .int .u8 0, .int .u8 0, .int .u8 0, .int .u8 0, .int .u8 0, .int .u8 0, .int .u8 0, .int .u8 0, .int .u8 0, .int .u8 0, .int .u8 0, .int .u8 0, .int .u8 0, .int .u8 0, .int .u8 0, .int .u8 0, .int .u8 0, .int .u8 0, .int .u64 0]) h2 (by rw [Att.c_size _ (show (vt v s t).r.length = 32 from rfl)]; kernel_rfl) (by rw [Att.c_size _ (show (vt v s t).r.length = 32 from rfl)]; rfl) (Att.c_one _)) ?_
  clear eV6
  have K8 := K4.no kV6 (by omega)
  have z9 := kV6.size
  refine ps_end ?_
  refine then_n ?_
  refine sy_ret (by kernel_rfl) ?_
  refine sy_out (.agg (Att.c (vt v s t))) rfl (results_cell_row (p := 6) (ty := 28) (by kernel_rfl) _ _ g 28 (Att.c (vt v s t)) (0, 0) _ (by kernel_rfl) h7 Try.underlying28 rfl (by rw [Att.c_size _ (show (vt v s t).r.length = 32 from rfl)]; kernel_rfl)) ?_
  exact ⟨rfl, K8⟩
noncomputable def part_lrblock (n : Nat) : Code := partOf Try.f13 n
noncomputable abbrev o_lrblock (n k : Nat) : Oper := (opsAt (part_lrblock n)).getD k default
set_option maxRecDepth 100000 in
set_option maxHeartbeats 4000000 in
theorem lrblock_ok (h : Int) (w : World) :
    Calls Try.prog 13 #[.int .i64 h] w (fun e w' => e = .returned (.agg (Pro.c (bl h))) ∧ Keeps Nob w w') := by
  have K0 : Keeps Nob w w := Keeps.refl _ _
  refine sy_enter (part_lrblock 1) ⟨#[.int .i64 h, undef, undef, undef, undef], []⟩ Try.func13 (by kernel_rfl) (by kernel_rfl) ?_
  refine sy_sq (part_lrblock 2) (part_lrblock 3) ?_
  refine sy_reg ?_
  refine rg_plain 0 (opsAt (part_lrblock 2)) [0] (by kernel_rfl) (by kernel_rfl) ?_
  obtain ⟨V1, eV1, g, eg, h2, kV1⟩ := alloc_step w (#[.int .i64 0, .int .i64 0, .int .u8 0, .int .u8 0, .int .u8 0, .int .u8 0, .int .u8 0, .int .u8 0, .int .u8 0, .int .u8 0, .int .u8 0, .int .u8 0, .int .u8 0, .int .u8 0, .int .u8 0, .int .u8 0, .int .u8 0, .int .u8 0, .int .u8 0, .int .u8 0, .int .u8 0, .int .u8 0, .int .u8 0, .int .u8 0, .int .u8 0, .int .u8 0, .int .u8 0, .int .u8 0, .int .u8 0, .int .u8 0, .int .u8 0, .int .u8 0, .int .u8 0, .int .u8 0, .int .u64 0]) 35
  have n3 : w.heap.size ≤ g := eg ▸ K0.size
  refine ps_r (o_lrblock 2 0) (pT g 0) (w' := V1) (by rw [← eV1, ← eg]; exact exec_alloc0 35 (by kernel_rfl) (.agg (#[.int .i64 0, .int .i64 0, .int .u8 0, .int .u8 0, .int .u8 0, .int .u8 0, .int .u8 0, .int .u8 0, .int .u8 0, .int .u8 0, .int .u8 0, .int .u8 0, .int .u8 0, .int .u8 0, .int .u8 0, .int .u8 0, .int .u8 0, .int .u8 0, .int .u8 0, .int .u8 0, .int .u8 0, .int .u8 0, .int .u8 0, .int .u8 0, .int .u8 0, .int .u8 0, .int .u8 0, .int .u8 0, .int .u8 0, .int .u8 0, .int .u8 0, .int .u8 0, .int .u8 0, .int .u8 0, .int .u64 0])) (by kernel_rfl)) ?_
  clear eV1
  have K4 := K0.nn kV1
  have z5 := kV1.size
  refine ps_end ?_
  refine then_n ?_
  refine sy_sq (part_lrblock 6) (part_lrblock 7) ?_
  refine sy_reg ?_
  refine rg_plain 1 (opsAt (part_lrblock 6)) [0, 1, 2] (by kernel_rfl) (by kernel_rfl) ?_
  refine ps_k (o_lrblock 6 0) (.int .i64 h) ?_
  refine ps_k (o_lrblock 6 1) (.agg (Pro.c (bl h))) ?_
  obtain ⟨V6, eV6, kV6⟩ := rowset_step V1 g ((Pro.c (bl h)))
  have h7 : V6.heap[g]? = some (.cells (Pro.c (bl h)) 35 (0, 0)) := eV6 ▸ setRow_heap _ _ _ _ _ _ h2
  refine ps_s (o_lrblock 6 2) (w' := V6) (by rw [← eV6]; exact exec_store_row 35 (.tmp 2) (.tmp 4) (by kernel_rfl) g ((Pro.c (bl h))) (by kernel_rfl) (by kernel_rfl) 35 (#[.int .i64 0, .int .i64 0, .int .u8 0, .int .u8 0, .int .u8 0, .int .u8 0, .int .u8 0, .int .u8 0, .int .u8 0, .int .u8 0, .int .u8 0, .int .u8 0, .int .u8 0, .int .u8 0, .int .u8 0, .int .u8 0, .int .u8 0, .int .u8 0, .int .u8 0, .int .u8 0, .int .u8 0, .int .u8 0, .int .u8 0, .int .u8 0, .int .u8 0, .int .u8 0, .int .u8 0, .int .u8 0, .int .u8 0, .int .u8 0, .int .u8 0, .int .u8 0, .int .u8 0, .int .u8 0, .int .u64 0]) h2 (by rw [Pro.c_size _ (show (bl h).r.length = 32 from rfl)]; kernel_rfl) (by rw [Pro.c_size _ (show (bl h).r.length = 32 from rfl)]; rfl) (Pro.c_one _)) ?_
  clear eV6
  have K8 := K4.no kV6 (by omega)
  have z9 := kV6.size
  refine ps_end ?_
  refine then_n ?_
  refine sy_ret (by kernel_rfl) ?_
  refine sy_out (.agg (Pro.c (bl h))) rfl (results_cell_row (p := 2) (ty := 35) (by kernel_rfl) _ _ g 35 (Pro.c (bl h)) (0, 0) _ (by kernel_rfl) h7 Try.underlying35 rfl (by rw [Pro.c_size _ (show (bl h).r.length = 32 from rfl)]; kernel_rfl)) ?_
  exact ⟨rfl, K8⟩
noncomputable def part_lbegun (n : Nat) : Code := partOf Try.f7 n
noncomputable abbrev o_lbegun (n k : Nat) : Oper := (opsAt (part_lbegun n)).getD k default
set_option maxRecDepth 100000 in
set_option maxHeartbeats 4000000 in
theorem lbegun_ok (w : World) :
    Calls Try.prog 7 #[] w (fun e w' => ∃ r, e = .returned (.pointer (some ⟨r, 0, none⟩)) ∧ RSt w w' r 1 kn3 ∧ w.heap.size ≤ r ∧ Keeps Nob w w') := by
  have K0 : Keeps Nob w w := Keeps.refl _ _
  refine sy_enter (part_lbegun 1) ⟨#[undef, undef, undef, undef, undef, undef, undef, undef, undef, undef, undef, undef, undef, undef, undef, undef, undef, undef, undef, undef, undef, undef, undef, undef, undef, undef, undef, undef, undef, undef, undef, undef], []⟩ Try.func7 (by kernel_rfl) (by kernel_rfl) ?_
  refine sy_sq (part_lbegun 2) (part_lbegun 3) ?_
  refine sy_reg ?_
  refine rg_plain 0 (opsAt (part_lbegun 2)) [0] (by kernel_rfl) (by kernel_rfl) ?_
  refine ps_k (o_lbegun 2 0) (.pointer none) ?_
  refine ps_end ?_
  refine then_n ?_
  refine sy_sq (part_lbegun 6) (part_lbegun 7) ?_
  refine sy_reg ?_
  refine rg_plain 1 (opsAt (part_lbegun 6)) [0, 1, 2, 3, 4, 5] (by kernel_rfl) (by kernel_rfl) ?_
  refine ps_c (o_lbegun 6 0) 18 #[.int .i64 1, .int .i64 4, .int .i64 10] Try.func18 ((qNew_yes 1 4 10 _ (by unfold newOk; omega)).mono ?_)
  rintro e V1 ⟨r, rfl, q0, nr, kV1⟩
  refine ⟨_, rfl, ?_⟩
  have K2 := K0.nn kV1
  have z3 := kV1.size
  refine ps_k (o_lbegun 6 1) (.tuple #[pT r 0, .int .i64 0]) ?_
  refine ps_k (o_lbegun 6 2) (pT r 0) ?_
  refine ps_k (o_lbegun 6 3) (.int .i64 0) ?_
  refine ps_k (o_lbegun 6 4) (pT r 0) ?_
  refine ps_k (o_lbegun 6 5) (.int .i64 0) ?_
  refine ps_end ?_
  refine then_n ?_
  refine sy_sq (part_lbegun 14) (part_lbegun 15) ?_
  refine sy_sq (part_lbegun 28) (part_lbegun 29) ?_
  refine sy_reg ?_
  refine rg_plain 2 (opsAt (part_lbegun 28)) [0, 1, 2, 3, 4, 5, 6, 7, 8, 9, 10, 11, 12, 13, 14, 15, 16, 17, 18, 19, 20, 21, 22, 23] (by kernel_rfl) (by kernel_rfl) ?_
  refine ps_k (o_lbegun 28 0) (.int .i64 0) ?_
  refine ps_k (o_lbegun 28 1) (.bool false) ?_
  refine ps_k (o_lbegun 28 2) (.bool false) ?_
  refine ps_k (o_lbegun 28 3) (pT r 0) ?_
  refine ps_k (o_lbegun 28 4) (.bool false) ?_
  refine ps_k (o_lbegun 28 5) (.bool false) ?_
  refine ps_k (o_lbegun 28 6) (.bool false) ?_
  refine ps_k (o_lbegun 28 7) (pT r 0) ?_
  refine ps_c (o_lbegun 28 8) 10 #[.int .i64 1, .int .i64 0, .int .i64 2] Try.func10 ((lrvote_ok 1 0 2 _).mono ?_)
  rintro e V4 ⟨rfl, kV4⟩
  refine ⟨_, rfl, ?_⟩
  have kb5 : Keeps Nob V1 V4 := (Keeps.refl Nob V1).nn kV4
  have K6 := K2.nn kV4
  have z7 := kV4.size
  refine ps_c (o_lbegun 28 9) 9 #[pT r 0, .agg (Att.c (vt 1 0 2))] Try.func9 ((RSt.put_yes (q0.keepsN kb5) (vt 1 0 2) (vt_ok (by decide) (by decide) (by decide)) (by decide +kernel)).mono ?_)
  rintro e V8 ⟨rfl, q9, kV8⟩
  refine ⟨_, rfl, ?_⟩
  have K10 : Keeps Nob w V8 := K6.then kV8 (fun i hi hm => absurd hi (by have := hm.1; omega))
  have z11 := kV8.size
  refine ps_k (o_lbegun 28 10) (.bool false) ?_
  refine ps_k (o_lbegun 28 11) (.bool false) ?_
  refine ps_k (o_lbegun 28 12) (.bool false) ?_
  refine ps_k (o_lbegun 28 13) (pT r 0) ?_
  refine ps_c (o_lbegun 28 14) 10 #[.int .i64 1, .int .i64 1, .int .i64 3] Try.func10 ((lrvote_ok 1 1 3 _).mono ?_)
  rintro e V12 ⟨rfl, kV12⟩
  refine ⟨_, rfl, ?_⟩
  have kb13 : Keeps Nob V8 V12 := (Keeps.refl Nob V8).nn kV12
  have K14 := K10.nn kV12
  have z15 := kV12.size
  refine ps_c (o_lbegun 28 15) 9 #[pT r 0, .agg (Att.c (vt 1 1 3))] Try.func9 ((RSt.put_yes (q9.keepsN kb13) (vt 1 1 3) (vt_ok (by decide) (by decide) (by decide)) (by decide +kernel)).mono ?_)
  rintro e V16 ⟨rfl, q17, kV16⟩
  refine ⟨_, rfl, ?_⟩
  have K18 : Keeps Nob w V16 := K14.then kV16 (fun i hi hm => absurd hi (by have := hm.1; omega))
  have z19 := kV16.size
  refine ps_k (o_lbegun 28 16) (.bool false) ?_
  refine ps_k (o_lbegun 28 17) (.bool false) ?_
  refine ps_k (o_lbegun 28 18) (.bool false) ?_
  refine ps_k (o_lbegun 28 19) (pT r 0) ?_
  refine ps_c (o_lbegun 28 20) 13 #[.int .i64 5] Try.func13 ((lrblock_ok 5 _).mono ?_)
  rintro e V20 ⟨rfl, kV20⟩
  refine ⟨_, rfl, ?_⟩
  have kb21 : Keeps Nob V16 V20 := (Keeps.refl Nob V16).nn kV20
  have K22 := K18.nn kV20
  have z23 := kV20.size
  refine ps_c (o_lbegun 28 21) 12 #[pT r 0, .agg (Pro.c (bl 5))] Try.func12 ((RSt.putB_yes (q17.keepsN kb21) (bl 5) (bl_ok (by decide)) (by decide +kernel)).mono ?_)
  rintro e V24 ⟨rfl, q25, kV24⟩
  refine ⟨_, rfl, ?_⟩
  have K26 : Keeps Nob w V24 := K22.then kV24 (fun i hi hm => absurd hi (by have := hm.1; omega))
  have z27 := kV24.size
  refine ps_k (o_lbegun 28 22) (.bool false) ?_
  refine ps_k (o_lbegun 28 23) (.bool false) ?_
  refine ps_end ?_
  refine sy_a ⟨#[.pointer none, pT r 0, .int .i64 0, .tuple #[pT r 0, .int .i64 0], .tuple #[pT r 0, .int .i64 0], pT r 0, .int .i64 0, .int .i64 0, .bool false, .bool false, pT r 0, .bool false, .bool false, .bool false, pT r 0, .agg (Att.c (vt 1 0 2)), .int .i64 0, .bool false, .bool false, .bool false, pT r 0, .agg (Att.c (vt 1 1 3)), .int .i64 0, .bool false, .bool false, .bool false, pT r 0, .agg (Pro.c (bl 5)), .int .i64 0, .bool false, .bool false, undef], []⟩ ?_
  refine then_n ?_
  refine sy_n (.tmp 30) (part_lbegun 58) (part_lbegun 59) ?_
  refine sy_sk ?_
  refine then_n ?_
  refine sy_sq (part_lbegun 30) (part_lbegun 31) ?_
  refine sy_reg ?_
  refine rg_plain 4 (opsAt (part_lbegun 30)) [0, 1] (by kernel_rfl) (by kernel_rfl) ?_
  refine ps_k (o_lbegun 30 0) (pT r 0) ?_
  refine ps_k (o_lbegun 30 1) (pT r 0) ?_
  refine ps_end ?_
  refine then_n ?_
  refine sy_ret (by kernel_rfl) ?_
  refine sy_out (.pointer (some ⟨r, 0, none⟩)) rfl (by kernel_rfl) ?_
  exact ⟨r, rfl, q25, nr, K26⟩
noncomputable def part_lrawake (n : Nat) : Code := partOf Try.f19 n
noncomputable abbrev o_lrawake (n k : Nat) : Oper := (opsAt (part_lrawake n)).getD k default
set_option maxRecDepth 100000 in
set_option maxHeartbeats 4000000 in
theorem lrawake_ok (w : World) :
    Calls Try.prog 19 #[] w (fun e w' => e = .returned (.bool true) ∧ Keeps Nob w w') := by
  have K0 : Keeps Nob w w := Keeps.refl _ _
  refine sy_enter (part_lrawake 1) ⟨#[undef, undef, undef, undef, undef, undef, undef, undef, undef, undef, undef, undef, undef, undef, undef, undef, undef, undef, undef, undef, undef, undef, undef, undef, undef, undef, undef, undef, undef, undef, undef, undef, undef, undef, undef, undef, undef, undef, undef], []⟩ Try.func19 (by kernel_rfl) (by kernel_rfl) ?_
  refine sy_sq (part_lrawake 2) (part_lrawake 3) ?_
  refine sy_reg ?_
  refine rg_plain 0 (opsAt (part_lrawake 2)) [0] (by kernel_rfl) (by kernel_rfl) ?_
  refine ps_k (o_lrawake 2 0) (.bool false) ?_
  refine ps_end ?_
  refine then_n ?_
  refine sy_sq (part_lrawake 6) (part_lrawake 7) ?_
  refine sy_reg ?_
  refine rg_plain 1 (opsAt (part_lrawake 6)) [0, 1] (by kernel_rfl) (by kernel_rfl) ?_
  refine ps_c (o_lrawake 6 0) 7 #[] Try.func7 ((lbegun_ok _).mono ?_)
  rintro e V1 ⟨r, rfl, q0, nr, kV1⟩
  refine ⟨_, rfl, ?_⟩
  have K2 := K0.nn kV1
  have z3 := kV1.size
  refine ps_k (o_lrawake 6 1) (pT r 0) ?_
  refine ps_end ?_
  refine then_n ?_
  refine sy_sq (part_lrawake 14) (part_lrawake 15) ?_
  refine sy_reg ?_
  refine rg_plain 2 (opsAt (part_lrawake 14)) [0, 1, 2, 3, 4, 5, 6, 7, 8, 9, 10, 11, 12, 13, 14, 15, 16, 17, 18, 19, 20, 21, 22, 23, 24, 25, 26, 27, 28, 29, 30, 31, 32, 33, 34, 35, 36] (by kernel_rfl) (by kernel_rfl) ?_
  refine ps_k (o_lrawake 14 0) (pT r 0) ?_
  refine ps_k (o_lrawake 14 1) (.bool true) ?_
  refine ps_k (o_lrawake 14 2) (.bool true) ?_
  refine ps_k (o_lrawake 14 3) (pT r 0) ?_
  refine ps_c (o_lrawake 14 4) 10 #[.int .i64 1, .int .i64 0, .int .i64 2] Try.func10 ((lrvote_ok 1 0 2 _).mono ?_)
  rintro e V4 ⟨rfl, kV4⟩
  refine ⟨_, rfl, ?_⟩
  have kb5 : Keeps Nob V1 V4 := (Keeps.refl Nob V1).nn kV4
  have K6 := K2.nn kV4
  have z7 := kV4.size
  refine ps_c (o_lrawake 14 5) 9 #[pT r 0, .agg (Att.c (vt 1 0 2))] Try.func9 ((RSt.put_no (q0.keepsN kb5) (vt 1 0 2) (vt_ok (by decide) (by decide) (by decide)) 8 (by decide +kernel) (by decide)).mono ?_)
  rintro e V8 ⟨rfl, q9, kV8⟩
  refine ⟨_, rfl, ?_⟩
  have K10 : Keeps Nob w V8 := K6.then kV8 (fun i hi hm => absurd hi (by have := hm.1; omega))
  have z11 := kV8.size
  refine ps_k (o_lrawake 14 6) (.bool true) ?_
  refine ps_k (o_lrawake 14 7) (.bool true) ?_
  refine ps_k (o_lrawake 14 8) (.bool true) ?_
  refine ps_k (o_lrawake 14 9) (pT r 0) ?_
  refine ps_c (o_lrawake 14 10) 10 #[.int .i64 1, .int .i64 0, .int .i64 4] Try.func10 ((lrvote_ok 1 0 4 _).mono ?_)
  rintro e V12 ⟨rfl, kV12⟩
  refine ⟨_, rfl, ?_⟩
  have kb13 : Keeps Nob V8 V12 := (Keeps.refl Nob V8).nn kV12
  have K14 := K10.nn kV12
  have z15 := kV12.size
  refine ps_c (o_lrawake 14 11) 9 #[pT r 0, .agg (Att.c (vt 1 0 4))] Try.func9 ((RSt.put_no (q9.keepsN kb13) (vt 1 0 4) (vt_ok (by decide) (by decide) (by decide)) 17 (by decide +kernel) (by decide)).mono ?_)
  rintro e V16 ⟨rfl, q17, kV16⟩
  refine ⟨_, rfl, ?_⟩
  have K18 : Keeps Nob w V16 := K14.then kV16 (fun i hi hm => absurd hi (by have := hm.1; omega))
  have z19 := kV16.size
  refine ps_k (o_lrawake 14 12) (.bool true) ?_
  refine ps_k (o_lrawake 14 13) (.bool true) ?_
  refine ps_k (o_lrawake 14 14) (.bool true) ?_
  refine ps_k (o_lrawake 14 15) (pT r 0) ?_
  obtain ⟨V20, eV20, g1, eg1, h21, kV20⟩ := alloc_step V16 (#[.int .i64 2, .int .i64 3]) 3
  have n22 : w.heap.size ≤ g1 := eg1 ▸ K18.size
  refine ps_r (o_lrawake 14 16) (.slice (some ⟨g1, 0, none⟩) 2 2) (w' := V20) (by rw [← eV20, ← eg1]; kernel_rfl) ?_
  have kb23 : Keeps Nob V16 V20 := (Keeps.refl Nob V16).nn kV20
  have K24 := K18.nn kV20
  have z25 := kV20.size
  obtain ⟨V26, eV26, g2, eg2, h27, kV26⟩ := alloc_step V20 (#[.int .i64 5]) 3
  have n28 : g1 < g2 := eg2 ▸ lt_of_block h21
  have n29 : w.heap.size ≤ g2 := eg2 ▸ K24.size
  refine ps_r (o_lrawake 14 17) (.slice (some ⟨g2, 0, none⟩) 1 1) (w' := V26) (by rw [← eV26, ← eg2]; kernel_rfl) ?_
  have kb30 : Keeps Nob V16 V26 := kb23.nn kV26
  have h31 := kV26.bk h21
  have K32 := K24.nn kV26
  have z33 := kV26.size
  refine ps_c (o_lrawake 14 18) 17 #[pT r 0, .slice (some ⟨g1, 0, none⟩) 2 2, .slice (some ⟨g2, 0, none⟩) 1 1] Try.func17 ((lhas_true w r 1 kn3 _ _ [2, 3] [5] _ (q17.keepsN kb30) (sl_block h31 rfl rfl (by decide) (by decide)) (sl_block h27 rfl rfl (by decide) (by decide)) (by decide +kernel) (by decide +kernel)).mono ?_)
  rintro e V34 ⟨rfl, kV34⟩
  refine ⟨_, rfl, ?_⟩
  have kb35 : Keeps Nob V16 V34 := kb30.nn kV34
  have h36 := kV34.bk h31
  have h37 := kV34.bk h27
  have K38 := K32.nn kV34
  have z39 := kV34.size
  refine ps_k (o_lrawake 14 19) (.bool true) ?_
  refine ps_k (o_lrawake 14 20) (.bool true) ?_
  refine ps_k (o_lrawake 14 21) (pT r 0) ?_
  refine ps_c (o_lrawake 14 22) 14 #[pT r 0, .int .i64 3, .int .i64 6] Try.func14 ((RSt.move_yes (q17.keepsN kb35) 3 6 (by decide +kernel)).mono ?_)
  rintro e V40 ⟨rfl, q41, kV40⟩
  refine ⟨_, rfl, ?_⟩
  have h42 : V40.heap[g1]? = some (.cells (#[.int .i64 2, .int .i64 3]) 3 (0, 0)) := (kV40.block g1 (lt_of_block h36) (fun e => Rings.not h36 (by decide) (by decide) (by decide) (by decide) e)).trans h36
  have h43 : V40.heap[g2]? = some (.cells (#[.int .i64 5]) 3 (0, 0)) := (kV40.block g2 (lt_of_block h37) (fun e => Rings.not h37 (by decide) (by decide) (by decide) (by decide) e)).trans h37
  have K44 : Keeps Nob w V40 := K38.then kV40 (fun i hi hm => absurd hi (by have := hm.1; omega))
  have z45 := kV40.size
  refine ps_k (o_lrawake 14 23) (.bool true) ?_
  refine ps_k (o_lrawake 14 24) (.bool true) ?_
  refine ps_k (o_lrawake 14 25) (.bool true) ?_
  refine ps_k (o_lrawake 14 26) (pT r 0) ?_
  obtain ⟨V46, eV46, g3, eg3, h47, kV46⟩ := alloc_step V40 (#[.int .i64 3]) 3
  have n48 : g1 < g3 := eg3 ▸ lt_of_block h42
  have n49 : g2 < g3 := eg3 ▸ lt_of_block h43
  have n50 : w.heap.size ≤ g3 := eg3 ▸ K44.size
  refine ps_r (o_lrawake 14 27) (.slice (some ⟨g3, 0, none⟩) 1 1) (w' := V46) (by rw [← eV46, ← eg3]; kernel_rfl) ?_
  have h51 := kV46.bk h42
  have h52 := kV46.bk h43
  have kb53 : Keeps Nob V40 V46 := (Keeps.refl Nob V40).nn kV46
  have K54 := K44.nn kV46
  have z55 := kV46.size
  refine ps_c (o_lrawake 14 28) 17 #[pT r 0, .slice (some ⟨g3, 0, none⟩) 1 1, .slice none 0 0] Try.func17 ((lhas_true w r 1 kn4 _ _ [3] [] _ (q41.keepsN kb53) (sl_block h47 rfl rfl (by decide) (by decide)) (Sl.nil _ _ _) (by decide +kernel) (by decide +kernel)).mono ?_)
  rintro e V56 ⟨rfl, kV56⟩
  refine ⟨_, rfl, ?_⟩
  have h57 := kV56.bk h51
  have h58 := kV56.bk h52
  have kb59 : Keeps Nob V40 V56 := kb53.nn kV56
  have h60 := kV56.bk h47
  have K61 := K54.nn kV56
  have z62 := kV56.size
  refine ps_k (o_lrawake 14 29) (.bool true) ?_
  refine ps_k (o_lrawake 14 30) (.bool true) ?_
  refine ps_k (o_lrawake 14 31) (pT r 0) ?_
  refine ps_c (o_lrawake 14 32) 10 #[.int .i64 1, .int .i64 0, .int .i64 2] Try.func10 ((lrvote_ok 1 0 2 _).mono ?_)
  rintro e V63 ⟨rfl, kV63⟩
  refine ⟨_, rfl, ?_⟩
  have h64 := kV63.bk h57
  have h65 := kV63.bk h58
  have kb66 : Keeps Nob V40 V63 := kb59.nn kV63
  have h67 := kV63.bk h60
  have K68 := K61.nn kV63
  have z69 := kV63.size
  refine ps_c (o_lrawake 14 33) 9 #[pT r 0, .agg (Att.c (vt 1 0 2))] Try.func9 ((RSt.put_no (q41.keepsN kb66) (vt 1 0 2) (vt_ok (by decide) (by decide) (by decide)) 16 (by decide +kernel) (by decide)).mono ?_)
  rintro e V70 ⟨rfl, q71, kV70⟩
  refine ⟨_, rfl, ?_⟩
  have h72 : V70.heap[g1]? = some (.cells (#[.int .i64 2, .int .i64 3]) 3 (0, 0)) := (kV70.block g1 (lt_of_block h64) (fun e => Rings.not h64 (by decide) (by decide) (by decide) (by decide) e)).trans h64
  have h73 : V70.heap[g2]? = some (.cells (#[.int .i64 5]) 3 (0, 0)) := (kV70.block g2 (lt_of_block h65) (fun e => Rings.not h65 (by decide) (by decide) (by decide) (by decide) e)).trans h65
  have h74 : V70.heap[g3]? = some (.cells (#[.int .i64 3]) 3 (0, 0)) := (kV70.block g3 (lt_of_block h67) (fun e => Rings.not h67 (by decide) (by decide) (by decide) (by decide) e)).trans h67
  have K75 : Keeps Nob w V70 := K68.then kV70 (fun i hi hm => absurd hi (by have := hm.1; omega))
  have z76 := kV70.size
  refine ps_k (o_lrawake 14 34) (.bool true) ?_
  refine ps_k (o_lrawake 14 35) (.bool true) ?_
  refine ps_k (o_lrawake 14 36) (.bool true) ?_
  refine ps_end ?_
  refine sy_a ⟨#[.bool true, pT r 0, pT r 0, pT r 0, .bool true, .bool true, pT r 0, .agg (Att.c (vt 1 0 2)), .int .i64 8, .bool true, .bool true, .bool true, pT r 0, .agg (Att.c (vt 1 0 4)), .int .i64 17, .bool true, .bool true, .bool true, pT r 0, .slice (some ⟨g1, 0, none⟩) 2 2, .slice (some ⟨g2, 0, none⟩) 1 1, .bool true, .bool true, .bool true, pT r 0, .int .i64 0, .bool true, .bool true, .bool true, pT r 0, .slice (some ⟨g3, 0, none⟩) 1 1, .bool true, .bool true, .bool true, pT r 0, .agg (Att.c (vt 1 0 2)), .int .i64 16, .bool true, .bool true], []⟩ ?_
  refine then_n ?_
  refine sy_ret (by kernel_rfl) ?_
  refine sy_out (.bool true) rfl (by kernel_rfl) ?_
  exact ⟨rfl, K75⟩
noncomputable def part_RecordKnown (n : Nat) : Code := partOf Try.f3 n
noncomputable abbrev o_RecordKnown (n k : Nat) : Oper := (opsAt (part_RecordKnown n)).getD k default
set_option maxRecDepth 100000 in
set_option maxHeartbeats 4000000 in
theorem recordKnown_ok (w : World) :
    Calls Try.prog 3 #[] w (fun e w' => e = .returned (.bool true) ∧ Keeps Nob w w') := by
  have K0 : Keeps Nob w w := Keeps.refl _ _
  refine sy_enter (part_RecordKnown 1) ⟨#[undef, undef, undef, undef, undef, undef, undef, undef, undef, undef, undef, undef, undef, undef, undef, undef, undef, undef, undef, undef, undef, undef, undef, undef, undef, undef, undef, undef, undef, undef, undef, undef, undef, undef, undef, undef, undef, undef, undef, undef, undef, undef, undef, undef, undef, undef, undef, undef, undef, undef, undef, undef, undef, undef, undef, undef, undef, undef, undef, undef, undef, undef, undef, undef, undef, undef, undef, undef, undef, undef, undef, undef, undef, undef, undef, undef, undef, undef, undef, undef, undef, undef, undef, undef, undef, undef, undef, undef, undef, undef, undef, undef, undef, undef, undef, undef, undef, undef, undef, undef, undef, undef, undef, undef, undef, undef, undef, undef, undef, undef, undef, undef, undef, undef, undef, undef, undef, undef, undef, undef, undef, undef, undef, undef, undef, undef, undef, undef, undef, undef, undef, undef, undef, undef, undef, undef, undef, undef, undef, undef, undef, undef, undef, undef, undef, undef, undef, undef, undef, undef, undef, undef, undef, undef, undef, undef, undef, undef, undef, undef, undef, undef, undef, undef, undef, undef, undef, undef, undef, undef, undef, undef, undef, undef, undef, undef, undef, undef, undef, undef, undef, undef, undef, undef, undef, undef, undef, undef, undef, undef, undef, undef, undef, undef], []⟩ Try.func3 (by kernel_rfl) (by kernel_rfl) ?_
  refine sy_sq (part_RecordKnown 2) (part_RecordKnown 3) ?_
  refine sy_reg ?_
  refine rg_plain 0 (opsAt (part_RecordKnown 2)) [0] (by kernel_rfl) (by kernel_rfl) ?_
  refine ps_k (o_RecordKnown 2 0) (.bool false) ?_
  refine ps_end ?_
  refine then_n ?_
  refine sy_sq (part_RecordKnown 6) (part_RecordKnown 7) ?_
  refine sy_reg ?_
  refine rg_plain 1 (opsAt (part_RecordKnown 6)) [0, 1] (by kernel_rfl) (by kernel_rfl) ?_
  refine ps_c (o_RecordKnown 6 0) 7 #[] Try.func7 ((lbegun_ok _).mono ?_)
  rintro e V1 ⟨r, rfl, q0, nr, kV1⟩
  refine ⟨_, rfl, ?_⟩
  have K2 := K0.nn kV1
  have z3 := kV1.size
  refine ps_k (o_RecordKnown 6 1) (pT r 0) ?_
  refine ps_end ?_
  refine then_n ?_
  refine sy_sq (part_RecordKnown 14) (part_RecordKnown 15) ?_
  refine sy_sq (part_RecordKnown 28) (part_RecordKnown 29) ?_
  refine sy_reg ?_
  refine rg_plain 2 (opsAt (part_RecordKnown 28)) [0, 1] (by kernel_rfl) (by kernel_rfl) ?_
  refine ps_k (o_RecordKnown 28 0) (pT r 0) ?_
  refine ps_k (o_RecordKnown 28 1) (.bool false) ?_
  refine ps_end ?_
  refine then_n ?_
  refine sy_n (.tmp 25) (part_RecordKnown 58) (part_RecordKnown 59) ?_
  refine sy_sk ?_
  refine then_n ?_
  refine sy_sq (part_RecordKnown 30) (part_RecordKnown 31) ?_
  refine sy_reg ?_
  refine rg_plain 4 (opsAt (part_RecordKnown 30)) [0, 1, 2, 3, 4, 5, 6, 7] (by kernel_rfl) (by kernel_rfl) ?_
  refine ps_k (o_RecordKnown 30 0) (pT r 0) ?_
  refine ps_c (o_RecordKnown 30 1) 8 #[pT r 0, .int .i64 2] Try.func8 (((show Calls Try.prog 8 #[pT r 0, .int .i64 2] V1 (fun e w' => e = .returned (.tuple #[.agg (Att.c (vt 1 0 2)), .bool true]) ∧ Keeps Nob V1 w') from by have h := RSt.at_ q0 2; rw [show kn3.VA 2 = some (vt 1 0 2) from rfl] at h; exact h)).mono ?_)
  rintro e V4 ⟨rfl, kV4⟩
  refine ⟨_, rfl, ?_⟩
  have kb5 : Keeps Nob V1 V4 := (Keeps.refl Nob V1).nn kV4
  have K6 := K2.nn kV4
  have z7 := kV4.size
  refine ps_k (o_RecordKnown 30 2) (.tuple #[.agg (Att.c (vt 1 0 2)), .bool true]) ?_
  refine ps_k (o_RecordKnown 30 3) (.agg (Att.c (vt 1 0 2))) ?_
  refine ps_k (o_RecordKnown 30 4) (.bool true) ?_
  obtain ⟨V8, eV8, z1, ez1, h9, kV8⟩ := alloc_step V4 (#[.int .i64 0, .int .i64 0, .int .i64 0, .int .u8 0, .int .u8 0, .int .u8 0, .int .u8 0, .int .u8 0, .int .u8 0, .int .u8 0, .int .u8 0, .int .u8 0, .int .u8 0, .int .u8 0, .int .u8 0, .int .u8 0, .int .u8 0, .int .u8 0, .int .u8 0, .int .u8 0, .int .u8 0, .int .u8 0, .int .u8 0, .int .u8 0, .int .u8 0, .int .u8 0, .int .u8 0, .int .u8 0, .int .u8 0, .int .u8 0, .int .u8 0, .int .u8 0, .int .u8 0, .int .u8 0, .int .u8 0, .int .u64 0]) 28
  have n10 : w.heap.size ≤ z1 := ez1 ▸ K6.size
  refine ps_r (o_RecordKnown 30 5) (pT z1 0) (w' := V8) (by rw [← eV8, ← ez1]; exact exec_alloc0 28 (by kernel_rfl) (.agg (#[.int .i64 0, .int .i64 0, .int .i64 0, .int .u8 0, .int .u8 0, .int .u8 0, .int .u8 0, .int .u8 0, .int .u8 0, .int .u8 0, .int .u8 0, .int .u8 0, .int .u8 0, .int .u8 0, .int .u8 0, .int .u8 0, .int .u8 0, .int .u8 0, .int .u8 0, .int .u8 0, .int .u8 0, .int .u8 0, .int .u8 0, .int .u8 0, .int .u8 0, .int .u8 0, .int .u8 0, .int .u8 0, .int .u8 0, .int .u8 0, .int .u8 0, .int .u8 0, .int .u8 0, .int .u8 0, .int .u8 0, .int .u64 0])) (by kernel_rfl)) ?_
  clear eV8
  have kb11 : Keeps Nob V1 V8 := kb5.nn kV8
  have K12 := K6.nn kV8
  have z13 := kV8.size
  obtain ⟨V14, eV14, kV14⟩ := rowset_step V8 z1 ((Att.c (vt 1 0 2)))
  have h15 : V14.heap[z1]? = some (.cells (Att.c (vt 1 0 2)) 28 (0, 0)) := eV14 ▸ setRow_heap _ _ _ _ _ _ h9
  refine ps_s (o_RecordKnown 30 6) (w' := V14) (by rw [← eV14]; exact exec_store_row 28 (.tmp 2) (.tmp 29) (by kernel_rfl) z1 ((Att.c (vt 1 0 2))) (by kernel_rfl) (by kernel_rfl) 28 (#[.int .i64 0, .int .i64 0, .int .i64 0, .int .u8 0, .int .u8 0, .int .u8 0, .int .u8 0, .int .u8 0, .int .u8 0, .int .u8 0, .int .u8 0, .int .u8 0, .int .u8 0, .int .u8 0, .int .u8 0, .int .u8 0, .int .u8 0, .int .u8 0, .int .u8 0, .int .u8 0, .int .u8 0, .int .u8 0, .int .u8 0, .int .u8 0, .int .u8 0, .int .u8 0, .int .u8 0, .int .u8 0, .int .u8 0, .int .u8 0, .int .u8 0, .int .u8 0, .int .u8 0, .int .u8 0, .int .u8 0, .int .u64 0]) h9 (by kernel_rfl) (by kernel_rfl) (Att.c_one _)) ?_
  clear eV14
  have kb16 : Keeps Nob V1 V14 := kb11.no kV14 (by omega)
  have K17 := K12.no kV14 (by omega)
  have z18 := kV14.size
  refine ps_k (o_RecordKnown 30 7) (.bool true) ?_
  refine ps_end ?_
  refine then_n ?_
  refine sy_sq (part_RecordKnown 62) (part_RecordKnown 63) ?_
  refine sy_reg ?_
  refine rg_plain 5 (opsAt (part_RecordKnown 62)) [0, 1, 2, 3, 4, 5, 6, 7] (by kernel_rfl) (by kernel_rfl) ?_
  refine ps_k (o_RecordKnown 62 0) (pT r 0) ?_
  refine ps_c (o_RecordKnown 62 1) 8 #[pT r 0, .int .i64 1] Try.func8 (((show Calls Try.prog 8 #[pT r 0, .int .i64 1] V14 (fun e w' => e = .returned (.tuple #[.agg (Att.c zAtt), .bool false]) ∧ Keeps Nob V14 w') from by have h := RSt.at_ (q0.keepsN kb16) 1; rw [show kn3.VA 1 = none from rfl] at h; exact h)).mono ?_)
  rintro e V19 ⟨rfl, kV19⟩
  refine ⟨_, rfl, ?_⟩
  have kb20 : Keeps Nob V1 V19 := kb16.nn kV19
  have h21 := kV19.bk h15
  have K22 := K17.nn kV19
  have z23 := kV19.size
  refine ps_k (o_RecordKnown 62 2) (.tuple #[.agg (Att.c zAtt), .bool false]) ?_
  refine ps_k (o_RecordKnown 62 3) (.agg (Att.c zAtt)) ?_
  refine ps_k (o_RecordKnown 62 4) (.bool false) ?_
  obtain ⟨V24, eV24, z2, ez2, h25, kV24⟩ := alloc_step V19 (#[.int .i64 0, .int .i64 0, .int .i64 0, .int .u8 0, .int .u8 0, .int .u8 0, .int .u8 0, .int .u8 0, .int .u8 0, .int .u8 0, .int .u8 0, .int .u8 0, .int .u8 0, .int .u8 0, .int .u8 0, .int .u8 0, .int .u8 0, .int .u8 0, .int .u8 0, .int .u8 0, .int .u8 0, .int .u8 0, .int .u8 0, .int .u8 0, .int .u8 0, .int .u8 0, .int .u8 0, .int .u8 0, .int .u8 0, .int .u8 0, .int .u8 0, .int .u8 0, .int .u8 0, .int .u8 0, .int .u8 0, .int .u64 0]) 28
  have n26 : z1 < z2 := ez2 ▸ lt_of_block h21
  have n27 : w.heap.size ≤ z2 := ez2 ▸ K22.size
  refine ps_r (o_RecordKnown 62 5) (pT z2 0) (w' := V24) (by rw [← eV24, ← ez2]; exact exec_alloc0 28 (by kernel_rfl) (.agg (#[.int .i64 0, .int .i64 0, .int .i64 0, .int .u8 0, .int .u8 0, .int .u8 0, .int .u8 0, .int .u8 0, .int .u8 0, .int .u8 0, .int .u8 0, .int .u8 0, .int .u8 0, .int .u8 0, .int .u8 0, .int .u8 0, .int .u8 0, .int .u8 0, .int .u8 0, .int .u8 0, .int .u8 0, .int .u8 0, .int .u8 0, .int .u8 0, .int .u8 0, .int .u8 0, .int .u8 0, .int .u8 0, .int .u8 0, .int .u8 0, .int .u8 0, .int .u8 0, .int .u8 0, .int .u8 0, .int .u8 0, .int .u64 0])) (by kernel_rfl)) ?_
  clear eV24
  have kb28 : Keeps Nob V1 V24 := kb20.nn kV24
  have h29 := kV24.bk h21
  have K30 := K22.nn kV24
  have z31 := kV24.size
  obtain ⟨V32, eV32, kV32⟩ := rowset_step V24 z2 ((Att.c zAtt))
  have h33 : V32.heap[z2]? = some (.cells (Att.c zAtt) 28 (0, 0)) := eV32 ▸ setRow_heap _ _ _ _ _ _ h25
  refine ps_s (o_RecordKnown 62 6) (w' := V32) (by rw [← eV32]; exact exec_store_row 28 (.tmp 4) (.tmp 34) (by kernel_rfl) z2 ((Att.c zAtt)) (by kernel_rfl) (by kernel_rfl) 28 (#[.int .i64 0, .int .i64 0, .int .i64 0, .int .u8 0, .int .u8 0, .int .u8 0, .int .u8 0, .int .u8 0, .int .u8 0, .int .u8 0, .int .u8 0, .int .u8 0, .int .u8 0, .int .u8 0, .int .u8 0, .int .u8 0, .int .u8 0, .int .u8 0, .int .u8 0, .int .u8 0, .int .u8 0, .int .u8 0, .int .u8 0, .int .u8 0, .int .u8 0, .int .u8 0, .int .u8 0, .int .u8 0, .int .u8 0, .int .u8 0, .int .u8 0, .int .u8 0, .int .u8 0, .int .u8 0, .int .u8 0, .int .u64 0]) h25 (by kernel_rfl) (by kernel_rfl) (Att.c_one _)) ?_
  clear eV32
  have kb34 : Keeps Nob V1 V32 := kb28.no kV32 (by omega)
  have h35 := kV32.bo h29 (by omega)
  have K36 := K30.no kV32 (by omega)
  have z37 := kV32.size
  refine ps_k (o_RecordKnown 62 7) (.bool false) ?_
  refine ps_end ?_
  refine then_n ?_
  refine sy_sq (part_RecordKnown 126) (part_RecordKnown 127) ?_
  refine sy_np ?_
  refine sy_reg ?_
  refine an_begin 6 23 (opsAt (part_RecordKnown 126)) (fun W => (W.heap[z1]? = some (.cells (Att.c (vt 1 0 2)) 28 (0, 0)))) #[false, false, false, false, false, false, false, false, false, false, false, false, false, false, false, false, false, false, false, false, false, false, false] (by kernel_rfl) (by kernel_rfl) (by kernel_rfl) (by kernel_rfl) ?_
  obtain ⟨V38, eV38, kV38⟩ := drew_step V32
  rw [eV38]
  clear eV38
  have kb39 : Keeps Nob V1 V38 := kb34.nn kV38
  have h40 := kV38.bk h35
  have h41 := kV38.bk h33
  have K42 := K36.nn kV38
  have z43 := kV38.size
  refine an_k 0 (o_RecordKnown 126 0) (pT r 0) h40 ?_
  refine an_o 1 ?_
  refine on_c (o_RecordKnown 126 1) 10 #[.int .i64 2, .int .i64 0, .int .i64 1] Try.func10 ((lrvote_ok 2 0 1 _).mono ?_)
  rintro e V44 ⟨rfl, kV44⟩
  refine ⟨_, rfl, ?_⟩
  have kb45 : Keeps Nob V1 V44 := kb39.nn kV44
  have h46 := kV44.bk h40
  have h47 := kV44.bk h41
  have K48 := K42.nn kV44
  have z49 := kV44.size
  refine ⟨h46, ?_⟩
  refine an_o 2 ?_
  refine on_c (o_RecordKnown 126 2) 9 #[pT r 0, .agg (Att.c (vt 2 0 1))] Try.func9 ((RSt.put_no (q0.keepsN kb45) (vt 2 0 1) (vt_ok (by decide) (by decide) (by decide)) 2 (by decide +kernel) (by decide)).mono ?_)
  rintro e V50 ⟨rfl, q51, kV50⟩
  refine ⟨_, rfl, ?_⟩
  have h52 : V50.heap[z1]? = some (.cells (Att.c (vt 1 0 2)) 28 (0, 0)) := (kV50.block z1 (lt_of_block h46) (fun e => Rings.not h46 (by decide) (by decide) (by decide) (by decide) e)).trans h46
  have h53 : V50.heap[z2]? = some (.cells (Att.c zAtt) 28 (0, 0)) := (kV50.block z2 (lt_of_block h47) (fun e => Rings.not h47 (by decide) (by decide) (by decide) (by decide) e)).trans h47
  have K54 : Keeps Nob w V50 := K48.then kV50 (fun i hi hm => absurd hi (by have := hm.1; omega))
  have z55 := kV50.size
  refine ⟨h52, ?_⟩
  refine an_k 3 (o_RecordKnown 126 3) (.bool true) h52 ?_
  refine an_k 4 (o_RecordKnown 126 4) (.bool true) h52 ?_
  refine an_k 5 (o_RecordKnown 126 5) (pT r 0) h52 ?_
  refine an_o 6 ?_
  refine on_c (o_RecordKnown 126 6) 10 #[.int .i64 32, .int .i64 0, .int .i64 1] Try.func10 ((lrvote_ok 32 0 1 _).mono ?_)
  rintro e V56 ⟨rfl, kV56⟩
  refine ⟨_, rfl, ?_⟩
  have h57 := kV56.bk h52
  have h58 := kV56.bk h53
  have kb59 : Keeps Nob V50 V56 := (Keeps.refl Nob V50).nn kV56
  have K60 := K54.nn kV56
  have z61 := kV56.size
  refine ⟨h57, ?_⟩
  refine an_o 7 ?_
  refine on_c (o_RecordKnown 126 7) 9 #[pT r 0, .agg (Att.c (vt 32 0 1))] Try.func9 ((RSt.put_no (q51.keepsN kb59) (vt 32 0 1) (vt_ok (by decide) (by decide) (by decide)) 3 (by decide +kernel) (by decide)).mono ?_)
  rintro e V62 ⟨rfl, q63, kV62⟩
  refine ⟨_, rfl, ?_⟩
  have h64 : V62.heap[z1]? = some (.cells (Att.c (vt 1 0 2)) 28 (0, 0)) := (kV62.block z1 (lt_of_block h57) (fun e => Rings.not h57 (by decide) (by decide) (by decide) (by decide) e)).trans h57
  have h65 : V62.heap[z2]? = some (.cells (Att.c zAtt) 28 (0, 0)) := (kV62.block z2 (lt_of_block h58) (fun e => Rings.not h58 (by decide) (by decide) (by decide) (by decide) e)).trans h58
  have K66 : Keeps Nob w V62 := K60.then kV62 (fun i hi hm => absurd hi (by have := hm.1; omega))
  have z67 := kV62.size
  refine ⟨h64, ?_⟩
  refine an_k 8 (o_RecordKnown 126 8) (.bool true) h64 ?_
  refine an_k 9 (o_RecordKnown 126 9) (.bool true) h64 ?_
  refine an_k 10 (o_RecordKnown 126 10) (.bool true) h64 ?_
  refine an_k 11 (o_RecordKnown 126 11) (.bool true) h64 ?_
  refine an_k 12 (o_RecordKnown 126 12) (.bool true) h64 ?_
  refine an_k 13 (o_RecordKnown 126 13) (.bool true) h64 ?_
  refine an_v 14 (o_RecordKnown 126 14) (.agg (Att.c (vt 1 0 2))) (fun W hS => exec_load_row 28 (.tmp 2) (by kernel_rfl) z1 (by kernel_rfl) _ _ (0, 0) _ (hS) Try.underlying28 rfl (by rw [Att.c_size _ (show (vt 1 0 2).r.length = 32 from rfl)]; kernel_rfl)) h64 ?_
  refine an_o 15 ?_
  refine on_c (o_RecordKnown 126 15) 10 #[.int .i64 1, .int .i64 0, .int .i64 2] Try.func10 ((lrvote_ok 1 0 2 _).mono ?_)
  rintro e V68 ⟨rfl, kV68⟩
  refine ⟨_, rfl, ?_⟩
  have h69 := kV68.bk h64
  have h70 := kV68.bk h65
  have kb71 : Keeps Nob V62 V68 := (Keeps.refl Nob V62).nn kV68
  have K72 := K66.nn kV68
  have z73 := kV68.size
  refine ⟨h69, ?_⟩
  refine an_v 16 (o_RecordKnown 126 16) (.bool true) (fun W hS => exec_cast (congrArg Value.bool (decide_eq_true rfl)) (exec_binop .eql 28 28 (.tmp 50) (.tmp 51) (by kernel_rfl) (.agg (Att.c (vt 1 0 2))) (.agg (Att.c (vt 1 0 2))) _ (by kernel_rfl) (by kernel_rfl) (run_eqGuard_agg _ _ _ _ _ _ _ att_guard) (att_eq _ _ (show (vt 1 0 2).r.length = 32 from rfl) (show (vt 1 0 2).r.length = 32 from rfl) _))) h69 ?_
  refine an_k 17 (o_RecordKnown 126 17) (.bool true) h69 ?_
  refine an_k 18 (o_RecordKnown 126 18) (.bool true) h69 ?_
  refine an_k 19 (o_RecordKnown 126 19) (.bool false) h69 ?_
  refine an_k 20 (o_RecordKnown 126 20) (.bool true) h69 ?_
  refine an_k 21 (o_RecordKnown 126 21) (.bool true) h69 ?_
  refine an_o 22 ?_
  refine on_r (o_RecordKnown 126 22) (.bool true) (w' := V68) (by kernel_rfl) ?_
  refine ⟨h69, ?_⟩
  refine an_end (by kernel_rfl) ?_
  refine sy_a ⟨#[.bool false, pT r 0, pT z1 0, .bool true, pT z2 0, .bool false, .bool true, undef, undef, undef, undef, undef, undef, undef, undef, undef, undef, undef, undef, undef, undef, undef, undef, pT r 0, pT r 0, .bool false, .tuple #[.agg (Att.c (vt 1 0 2)), .bool true], pT r 0, .tuple #[.agg (Att.c (vt 1 0 2)), .bool true], .agg (Att.c (vt 1 0 2)), .bool true, .tuple #[.agg (Att.c zAtt), .bool false], pT r 0, .tuple #[.agg (Att.c zAtt), .bool false], .agg (Att.c zAtt), .bool false, pT r 0, .agg (Att.c (vt 2 0 1)), .int .i64 2, .bool true, .bool true, pT r 0, .agg (Att.c (vt 32 0 1)), .int .i64 3, .bool true, .bool true, .bool true, .bool true, .bool true, .bool true, .agg (Att.c (vt 1 0 2)), .agg (Att.c (vt 1 0 2)), .bool true, .bool true, .bool true, .bool false, .bool true, .bool true, undef, undef, undef, undef, undef, undef, undef, undef, undef, undef, undef, undef, undef, undef, undef, undef, undef, undef, undef, undef, undef, undef, undef, undef, undef, undef, undef, undef, undef, undef, undef, undef, undef, undef, undef, undef, undef, undef, undef, undef, undef, undef, undef, undef, undef, undef, undef, undef, undef, undef, undef, undef, undef, undef, undef, undef, undef, undef, undef, undef, undef, undef, undef, undef, undef, undef, undef, undef, undef, undef, undef, undef, undef, undef, undef, undef, undef, undef, undef, undef, undef, undef, undef, undef, undef, undef, undef, undef, undef, undef, undef, undef, undef, undef, undef, undef, undef, undef, undef, undef, undef, undef, undef, undef, undef, undef, undef, undef, undef, undef, undef, undef, undef, undef, undef, undef, undef, undef, undef, undef, undef, undef, undef, undef, undef, undef, undef, undef, undef, undef, undef, undef, undef, undef, undef, undef], []⟩ ?_
  refine then_n ?_
  refine sy_sq (part_RecordKnown 254) (part_RecordKnown 255) ?_
  refine sy_reg ?_
  refine rg_plain 7 (opsAt (part_RecordKnown 254)) [0, 1, 2, 3, 4, 5, 6, 7] (by kernel_rfl) (by kernel_rfl) ?_
  refine ps_k (o_RecordKnown 254 0) (pT r 0) ?_
  refine ps_c (o_RecordKnown 254 1) 11 #[pT r 0, .int .i64 5] Try.func11 (((show Calls Try.prog 11 #[pT r 0, .int .i64 5] V68 (fun e w' => e = .returned (.tuple #[.agg (Pro.c (bl 5)), .bool true]) ∧ Keeps Nob V68 w') from by have h := RSt.block (q63.keepsN kb71) 5; rw [show kn3.VB 5 = some (bl 5) from rfl] at h; exact h)).mono ?_)
  rintro e V74 ⟨rfl, kV74⟩
  refine ⟨_, rfl, ?_⟩
  have h75 := kV74.bk h69
  have h76 := kV74.bk h70
  have kb77 : Keeps Nob V62 V74 := kb71.nn kV74
  have K78 := K72.nn kV74
  have z79 := kV74.size
  refine ps_k (o_RecordKnown 254 2) (.tuple #[.agg (Pro.c (bl 5)), .bool true]) ?_
  refine ps_k (o_RecordKnown 254 3) (.agg (Pro.c (bl 5))) ?_
  refine ps_k (o_RecordKnown 254 4) (.bool true) ?_
  obtain ⟨V80, eV80, z3, ez3, h81, kV80⟩ := alloc_step V74 (#[.int .i64 0, .int .i64 0, .int .u8 0, .int .u8 0, .int .u8 0, .int .u8 0, .int .u8 0, .int .u8 0, .int .u8 0, .int .u8 0, .int .u8 0, .int .u8 0, .int .u8 0, .int .u8 0, .int .u8 0, .int .u8 0, .int .u8 0, .int .u8 0, .int .u8 0, .int .u8 0, .int .u8 0, .int .u8 0, .int .u8 0, .int .u8 0, .int .u8 0, .int .u8 0, .int .u8 0, .int .u8 0, .int .u8 0, .int .u8 0, .int .u8 0, .int .u8 0, .int .u8 0, .int .u8 0, .int .u64 0]) 35
  have n82 : z1 < z3 := ez3 ▸ lt_of_block h75
  have n83 : z2 < z3 := ez3 ▸ lt_of_block h76
  have n84 : w.heap.size ≤ z3 := ez3 ▸ K78.size
  refine ps_r (o_RecordKnown 254 5) (pT z3 0) (w' := V80) (by rw [← eV80, ← ez3]; exact exec_alloc0 35 (by kernel_rfl) (.agg (#[.int .i64 0, .int .i64 0, .int .u8 0, .int .u8 0, .int .u8 0, .int .u8 0, .int .u8 0, .int .u8 0, .int .u8 0, .int .u8 0, .int .u8 0, .int .u8 0, .int .u8 0, .int .u8 0, .int .u8 0, .int .u8 0, .int .u8 0, .int .u8 0, .int .u8 0, .int .u8 0, .int .u8 0, .int .u8 0, .int .u8 0, .int .u8 0, .int .u8 0, .int .u8 0, .int .u8 0, .int .u8 0, .int .u8 0, .int .u8 0, .int .u8 0, .int .u8 0, .int .u8 0, .int .u8 0, .int .u64 0])) (by kernel_rfl)) ?_
  clear eV80
  have h85 := kV80.bk h75
  have h86 := kV80.bk h76
  have kb87 : Keeps Nob V62 V80 := kb77.nn kV80
  have K88 := K78.nn kV80
  have z89 := kV80.size
  obtain ⟨V90, eV90, kV90⟩ := rowset_step V80 z3 ((Pro.c (bl 5)))
  have h91 : V90.heap[z3]? = some (.cells (Pro.c (bl 5)) 35 (0, 0)) := eV90 ▸ setRow_heap _ _ _ _ _ _ h81
  refine ps_s (o_RecordKnown 254 6) (w' := V90) (by rw [← eV90]; exact exec_store_row 35 (.tmp 7) (.tmp 61) (by kernel_rfl) z3 ((Pro.c (bl 5))) (by kernel_rfl) (by kernel_rfl) 35 (#[.int .i64 0, .int .i64 0, .int .u8 0, .int .u8 0, .int .u8 0, .int .u8 0, .int .u8 0, .int .u8 0, .int .u8 0, .int .u8 0, .int .u8 0, .int .u8 0, .int .u8 0, .int .u8 0, .int .u8 0, .int .u8 0, .int .u8 0, .int .u8 0, .int .u8 0, .int .u8 0, .int .u8 0, .int .u8 0, .int .u8 0, .int .u8 0, .int .u8 0, .int .u8 0, .int .u8 0, .int .u8 0, .int .u8 0, .int .u8 0, .int .u8 0, .int .u8 0, .int .u8 0, .int .u8 0, .int .u64 0]) h81 (by kernel_rfl) (by kernel_rfl) (Pro.c_one _)) ?_
  clear eV90
  have h92 := kV90.bo h85 (by omega)
  have h93 := kV90.bo h86 (by omega)
  have kb94 : Keeps Nob V62 V90 := kb87.no kV90 (by omega)
  have K95 := K88.no kV90 (by omega)
  have z96 := kV90.size
  refine ps_k (o_RecordKnown 254 7) (.bool true) ?_
  refine ps_end ?_
  refine then_n ?_
  refine sy_sq (part_RecordKnown 510) (part_RecordKnown 511) ?_
  refine sy_reg ?_
  refine rg_plain 8 (opsAt (part_RecordKnown 510)) [0, 1, 2, 3, 4, 5, 6, 7] (by kernel_rfl) (by kernel_rfl) ?_
  refine ps_k (o_RecordKnown 510 0) (pT r 0) ?_
  refine ps_c (o_RecordKnown 510 1) 11 #[pT r 0, .int .i64 4] Try.func11 (((show Calls Try.prog 11 #[pT r 0, .int .i64 4] V90 (fun e w' => e = .returned (.tuple #[.agg (Pro.c zPro), .bool false]) ∧ Keeps Nob V90 w') from by have h := RSt.block (q63.keepsN kb94) 4; rw [show kn3.VB 4 = none from rfl] at h; exact h)).mono ?_)
  rintro e V97 ⟨rfl, kV97⟩
  refine ⟨_, rfl, ?_⟩
  have h98 := kV97.bk h92
  have h99 := kV97.bk h93
  have kb100 : Keeps Nob V62 V97 := kb94.nn kV97
  have h101 := kV97.bk h91
  have K102 := K95.nn kV97
  have z103 := kV97.size
  refine ps_k (o_RecordKnown 510 2) (.tuple #[.agg (Pro.c zPro), .bool false]) ?_
  refine ps_k (o_RecordKnown 510 3) (.agg (Pro.c zPro)) ?_
  refine ps_k (o_RecordKnown 510 4) (.bool false) ?_
  obtain ⟨V104, eV104, z4, ez4, h105, kV104⟩ := alloc_step V97 (#[.int .i64 0, .int .i64 0, .int .u8 0, .int .u8 0, .int .u8 0, .int .u8 0, .int .u8 0, .int .u8 0, .int .u8 0, .int .u8 0, .int .u8 0, .int .u8 0, .int .u8 0, .int .u8 0, .int .u8 0, .int .u8 0, .int .u8 0, .int .u8 0, .int .u8 0, .int .u8 0, .int .u8 0, .int .u8 0, .int .u8 0, .int .u8 0, .int .u8 0, .int .u8 0, .int .u8 0, .int .u8 0, .int .u8 0, .int .u8 0, .int .u8 0, .int .u8 0, .int .u8 0, .int .u8 0, .int .u64 0]) 35
  have n106 : z1 < z4 := ez4 ▸ lt_of_block h98
  have n107 : z2 < z4 := ez4 ▸ lt_of_block h99
  have n108 : z3 < z4 := ez4 ▸ lt_of_block h101
  have n109 : w.heap.size ≤ z4 := ez4 ▸ K102.size
  refine ps_r (o_RecordKnown 510 5) (pT z4 0) (w' := V104) (by rw [← eV104, ← ez4]; exact exec_alloc0 35 (by kernel_rfl) (.agg (#[.int .i64 0, .int .i64 0, .int .u8 0, .int .u8 0, .int .u8 0, .int .u8 0, .int .u8 0, .int .u8 0, .int .u8 0, .int .u8 0, .int .u8 0, .int .u8 0, .int .u8 0, .int .u8 0, .int .u8 0, .int .u8 0, .int .u8 0, .int .u8 0, .int .u8 0, .int .u8 0, .int .u8 0, .int .u8 0, .int .u8 0, .int .u8 0, .int .u8 0, .int .u8 0, .int .u8 0, .int .u8 0, .int .u8 0, .int .u8 0, .int .u8 0, .int .u8 0, .int .u8 0, .int .u8 0, .int .u64 0])) (by kernel_rfl)) ?_
  clear eV104
  have h110 := kV104.bk h98
  have h111 := kV104.bk h99
  have kb112 : Keeps Nob V62 V104 := kb100.nn kV104
  have h113 := kV104.bk h101
  have K114 := K102.nn kV104
  have z115 := kV104.size
  obtain ⟨V116, eV116, kV116⟩ := rowset_step V104 z4 ((Pro.c zPro))
  have h117 : V116.heap[z4]? = some (.cells (Pro.c zPro) 35 (0, 0)) := eV116 ▸ setRow_heap _ _ _ _ _ _ h105
  refine ps_s (o_RecordKnown 510 6) (w' := V116) (by rw [← eV116]; exact exec_store_row 35 (.tmp 9) (.tmp 66) (by kernel_rfl) z4 ((Pro.c zPro)) (by kernel_rfl) (by kernel_rfl) 35 (#[.int .i64 0, .int .i64 0, .int .u8 0, .int .u8 0, .int .u8 0, .int .u8 0, .int .u8 0, .int .u8 0, .int .u8 0, .int .u8 0, .int .u8 0, .int .u8 0, .int .u8 0, .int .u8 0, .int .u8 0, .int .u8 0, .int .u8 0, .int .u8 0, .int .u8 0, .int .u8 0, .int .u8 0, .int .u8 0, .int .u8 0, .int .u8 0, .int .u8 0, .int .u8 0, .int .u8 0, .int .u8 0, .int .u8 0, .int .u8 0, .int .u8 0, .int .u8 0, .int .u8 0, .int .u8 0, .int .u64 0]) h105 (by kernel_rfl) (by kernel_rfl) (Pro.c_one _)) ?_
  clear eV116
  have h118 := kV116.bo h110 (by omega)
  have h119 := kV116.bo h111 (by omega)
  have kb120 : Keeps Nob V62 V116 := kb112.no kV116 (by omega)
  have h121 := kV116.bo h113 (by omega)
  have K122 := K114.no kV116 (by omega)
  have z123 := kV116.size
  refine ps_k (o_RecordKnown 510 7) (.bool false) ?_
  refine ps_end ?_
  refine then_n ?_
  refine sy_sq (part_RecordKnown 1022) (part_RecordKnown 1023) ?_
  refine sy_np ?_
  refine sy_reg ?_
  refine an_begin 9 29 (opsAt (part_RecordKnown 1022)) (fun W => (W.heap[z3]? = some (.cells (Pro.c (bl 5)) 35 (0, 0)))) #[false, false, false, false, false, false, false, false, false, false, false, false, false, false, false, false, false, false, false, false, false, false, false, false, false, false, false, false, false] (by kernel_rfl) (by kernel_rfl) (by kernel_rfl) (by kernel_rfl) ?_
  obtain ⟨V124, eV124, kV124⟩ := drew_step V116
  rw [eV124]
  clear eV124
  have h125 := kV124.bk h118
  have h126 := kV124.bk h119
  have kb127 : Keeps Nob V62 V124 := kb120.nn kV124
  have h128 := kV124.bk h121
  have h129 := kV124.bk h117
  have K130 := K122.nn kV124
  have z131 := kV124.size
  refine an_k 0 (o_RecordKnown 1022 0) (pT r 0) h128 ?_
  refine an_o 1 ?_
  refine on_c (o_RecordKnown 1022 1) 13 #[.int .i64 5] Try.func13 ((lrblock_ok 5 _).mono ?_)
  rintro e V132 ⟨rfl, kV132⟩
  refine ⟨_, rfl, ?_⟩
  have h133 := kV132.bk h125
  have h134 := kV132.bk h126
  have kb135 : Keeps Nob V62 V132 := kb127.nn kV132
  have h136 := kV132.bk h128
  have h137 := kV132.bk h129
  have K138 := K130.nn kV132
  have z139 := kV132.size
  refine ⟨h136, ?_⟩
  refine an_o 2 ?_
  refine on_c (o_RecordKnown 1022 2) 12 #[pT r 0, .agg (Pro.c (bl 5))] Try.func12 ((RSt.putB_no (q63.keepsN kb135) (bl 5) (bl_ok (by decide)) 8 (by decide +kernel) (by decide)).mono ?_)
  rintro e V140 ⟨rfl, q141, kV140⟩
  refine ⟨_, rfl, ?_⟩
  have h142 : V140.heap[z1]? = some (.cells (Att.c (vt 1 0 2)) 28 (0, 0)) := (kV140.block z1 (lt_of_block h133) (fun e => Rings.not h133 (by decide) (by decide) (by decide) (by decide) e)).trans h133
  have h143 : V140.heap[z2]? = some (.cells (Att.c zAtt) 28 (0, 0)) := (kV140.block z2 (lt_of_block h134) (fun e => Rings.not h134 (by decide) (by decide) (by decide) (by decide) e)).trans h134
  have h144 : V140.heap[z3]? = some (.cells (Pro.c (bl 5)) 35 (0, 0)) := (kV140.block z3 (lt_of_block h136) (fun e => Rings.not h136 (by decide) (by decide) (by decide) (by decide) e)).trans h136
  have h145 : V140.heap[z4]? = some (.cells (Pro.c zPro) 35 (0, 0)) := (kV140.block z4 (lt_of_block h137) (fun e => Rings.not h137 (by decide) (by decide) (by decide) (by decide) e)).trans h137
  have K146 : Keeps Nob w V140 := K138.then kV140 (fun i hi hm => absurd hi (by have := hm.1; omega))
  have z147 := kV140.size
  refine ⟨h144, ?_⟩
  refine an_k 3 (o_RecordKnown 1022 3) (.bool true) h144 ?_
  refine an_k 4 (o_RecordKnown 1022 4) (.bool true) h144 ?_
  refine an_k 5 (o_RecordKnown 1022 5) (pT r 0) h144 ?_
  refine an_o 6 ?_
  refine on_c (o_RecordKnown 1022 6) 13 #[.int .i64 11] Try.func13 ((lrblock_ok 11 _).mono ?_)
  rintro e V148 ⟨rfl, kV148⟩
  refine ⟨_, rfl, ?_⟩
  have h149 := kV148.bk h142
  have h150 := kV148.bk h143
  have h151 := kV148.bk h144
  have h152 := kV148.bk h145
  have kb153 : Keeps Nob V140 V148 := (Keeps.refl Nob V140).nn kV148
  have K154 := K146.nn kV148
  have z155 := kV148.size
  refine ⟨h151, ?_⟩
  refine an_o 7 ?_
  refine on_c (o_RecordKnown 1022 7) 12 #[pT r 0, .agg (Pro.c (bl 11))] Try.func12 ((RSt.putB_no (q141.keepsN kb153) (bl 11) (bl_ok (by decide)) 17 (by decide +kernel) (by decide)).mono ?_)
  rintro e V156 ⟨rfl, q157, kV156⟩
  refine ⟨_, rfl, ?_⟩
  have h158 : V156.heap[z1]? = some (.cells (Att.c (vt 1 0 2)) 28 (0, 0)) := (kV156.block z1 (lt_of_block h149) (fun e => Rings.not h149 (by decide) (by decide) (by decide) (by decide) e)).trans h149
  have h159 : V156.heap[z2]? = some (.cells (Att.c zAtt) 28 (0, 0)) := (kV156.block z2 (lt_of_block h150) (fun e => Rings.not h150 (by decide) (by decide) (by decide) (by decide) e)).trans h150
  have h160 : V156.heap[z3]? = some (.cells (Pro.c (bl 5)) 35 (0, 0)) := (kV156.block z3 (lt_of_block h151) (fun e => Rings.not h151 (by decide) (by decide) (by decide) (by decide) e)).trans h151
  have h161 : V156.heap[z4]? = some (.cells (Pro.c zPro) 35 (0, 0)) := (kV156.block z4 (lt_of_block h152) (fun e => Rings.not h152 (by decide) (by decide) (by decide) (by decide) e)).trans h152
  have K162 : Keeps Nob w V156 := K154.then kV156 (fun i hi hm => absurd hi (by have := hm.1; omega))
  have z163 := kV156.size
  refine ⟨h160, ?_⟩
  refine an_k 8 (o_RecordKnown 1022 8) (.bool true) h160 ?_
  refine an_k 9 (o_RecordKnown 1022 9) (.bool true) h160 ?_
  refine an_k 10 (o_RecordKnown 1022 10) (.bool true) h160 ?_
  refine an_k 11 (o_RecordKnown 1022 11) (pT r 0) h160 ?_
  refine an_o 12 ?_
  refine on_c (o_RecordKnown 1022 12) 13 #[.int .i64 0] Try.func13 ((lrblock_ok 0 _).mono ?_)
  rintro e V164 ⟨rfl, kV164⟩
  refine ⟨_, rfl, ?_⟩
  have h165 := kV164.bk h158
  have h166 := kV164.bk h159
  have h167 := kV164.bk h160
  have h168 := kV164.bk h161
  have kb169 : Keeps Nob V156 V164 := (Keeps.refl Nob V156).nn kV164
  have K170 := K162.nn kV164
  have z171 := kV164.size
  refine ⟨h167, ?_⟩
  refine an_o 13 ?_
  refine on_c (o_RecordKnown 1022 13) 12 #[pT r 0, .agg (Pro.c (bl 0))] Try.func12 ((RSt.putB_no (q157.keepsN kb169) (bl 0) (bl_ok (by decide)) 3 (by decide +kernel) (by decide)).mono ?_)
  rintro e V172 ⟨rfl, q173, kV172⟩
  refine ⟨_, rfl, ?_⟩
  have h174 : V172.heap[z1]? = some (.cells (Att.c (vt 1 0 2)) 28 (0, 0)) := (kV172.block z1 (lt_of_block h165) (fun e => Rings.not h165 (by decide) (by decide) (by decide) (by decide) e)).trans h165
  have h175 : V172.heap[z2]? = some (.cells (Att.c zAtt) 28 (0, 0)) := (kV172.block z2 (lt_of_block h166) (fun e => Rings.not h166 (by decide) (by decide) (by decide) (by decide) e)).trans h166
  have h176 : V172.heap[z3]? = some (.cells (Pro.c (bl 5)) 35 (0, 0)) := (kV172.block z3 (lt_of_block h167) (fun e => Rings.not h167 (by decide) (by decide) (by decide) (by decide) e)).trans h167
  have h177 : V172.heap[z4]? = some (.cells (Pro.c zPro) 35 (0, 0)) := (kV172.block z4 (lt_of_block h168) (fun e => Rings.not h168 (by decide) (by decide) (by decide) (by decide) e)).trans h168
  have K178 : Keeps Nob w V172 := K170.then kV172 (fun i hi hm => absurd hi (by have := hm.1; omega))
  have z179 := kV172.size
  refine ⟨h176, ?_⟩
  refine an_k 14 (o_RecordKnown 1022 14) (.bool true) h176 ?_
  refine an_k 15 (o_RecordKnown 1022 15) (.bool true) h176 ?_
  refine an_k 16 (o_RecordKnown 1022 16) (.bool true) h176 ?_
  refine an_k 17 (o_RecordKnown 1022 17) (.bool true) h176 ?_
  refine an_k 18 (o_RecordKnown 1022 18) (.bool true) h176 ?_
  refine an_k 19 (o_RecordKnown 1022 19) (.bool true) h176 ?_
  refine an_v 20 (o_RecordKnown 1022 20) (.agg (Pro.c (bl 5))) (fun W hS => exec_load_row 35 (.tmp 7) (by kernel_rfl) z3 (by kernel_rfl) _ _ (0, 0) _ (hS) Try.underlying35 rfl (by rw [Pro.c_size _ (show (bl 5).r.length = 32 from rfl)]; kernel_rfl)) h176 ?_
  refine an_o 21 ?_
  refine on_c (o_RecordKnown 1022 21) 13 #[.int .i64 5] Try.func13 ((lrblock_ok 5 _).mono ?_)
  rintro e V180 ⟨rfl, kV180⟩
  refine ⟨_, rfl, ?_⟩
  have h181 := kV180.bk h174
  have h182 := kV180.bk h175
  have h183 := kV180.bk h176
  have h184 := kV180.bk h177
  have kb185 : Keeps Nob V172 V180 := (Keeps.refl Nob V172).nn kV180
  have K186 := K178.nn kV180
  have z187 := kV180.size
  refine ⟨h183, ?_⟩
  refine an_v 22 (o_RecordKnown 1022 22) (.bool true) (fun W hS => exec_cast (congrArg Value.bool (decide_eq_true rfl)) (exec_binop .eql 35 35 (.tmp 88) (.tmp 89) (by kernel_rfl) (.agg (Pro.c (bl 5))) (.agg (Pro.c (bl 5))) _ (by kernel_rfl) (by kernel_rfl) (run_eqGuard_agg _ _ _ _ _ _ _ pro_guard) (pro_eq _ _ (show (bl 5).r.length = 32 from rfl) (show (bl 5).r.length = 32 from rfl) _))) h183 ?_
  refine an_k 23 (o_RecordKnown 1022 23) (.bool true) h183 ?_
  refine an_k 24 (o_RecordKnown 1022 24) (.bool true) h183 ?_
  refine an_k 25 (o_RecordKnown 1022 25) (.bool false) h183 ?_
  refine an_k 26 (o_RecordKnown 1022 26) (.bool true) h183 ?_
  refine an_k 27 (o_RecordKnown 1022 27) (.bool true) h183 ?_
  refine an_o 28 ?_
  refine on_r (o_RecordKnown 1022 28) (.bool true) (w' := V180) (by kernel_rfl) ?_
  refine ⟨h183, ?_⟩
  refine an_end (by kernel_rfl) ?_
  refine sy_a ⟨#[.bool false, pT r 0, pT z1 0, .bool true, pT z2 0, .bool false, .bool true, pT z3 0, .bool true, pT z4 0, .bool false, .bool true, undef, undef, undef, undef, undef, undef, undef, undef, undef, undef, undef, pT r 0, pT r 0, .bool false, .tuple #[.agg (Att.c (vt 1 0 2)), .bool true], pT r 0, .tuple #[.agg (Att.c (vt 1 0 2)), .bool true], .agg (Att.c (vt 1 0 2)), .bool true, .tuple #[.agg (Att.c zAtt), .bool false], pT r 0, .tuple #[.agg (Att.c zAtt), .bool false], .agg (Att.c zAtt), .bool false, pT r 0, .agg (Att.c (vt 2 0 1)), .int .i64 2, .bool true, .bool true, pT r 0, .agg (Att.c (vt 32 0 1)), .int .i64 3, .bool true, .bool true, .bool true, .bool true, .bool true, .bool true, .agg (Att.c (vt 1 0 2)), .agg (Att.c (vt 1 0 2)), .bool true, .bool true, .bool true, .bool false, .bool true, .bool true, .tuple #[.agg (Pro.c (bl 5)), .bool true], pT r 0, .tuple #[.agg (Pro.c (bl 5)), .bool true], .agg (Pro.c (bl 5)), .bool true, .tuple #[.agg (Pro.c zPro), .bool false], pT r 0, .tuple #[.agg (Pro.c zPro), .bool false], .agg (Pro.c zPro), .bool false, pT r 0, .agg (Pro.c (bl 5)), .int .i64 8, .bool true, .bool true, pT r 0, .agg (Pro.c (bl 11)), .int .i64 17, .bool true, .bool true, .bool true, pT r 0, .agg (Pro.c (bl 0)), .int .i64 3, .bool true, .bool true, .bool true, .bool true, .bool true, .bool true, .agg (Pro.c (bl 5)), .agg (Pro.c (bl 5)), .bool true, .bool true, .bool true, .bool false, .bool true, .bool true, undef, undef, undef, undef, undef, undef, undef, undef, undef, undef, undef, undef, undef, undef, undef, undef, undef, undef, undef, undef, undef, undef, undef, undef, undef, undef, undef, undef, undef, undef, undef, undef, undef, undef, undef, undef, undef, undef, undef, undef, undef, undef, undef, undef, undef, undef, undef, undef, undef, undef, undef, undef, undef, undef, undef, undef, undef, undef, undef, undef, undef, undef, undef, undef, undef, undef, undef, undef, undef, undef, undef, undef, undef, undef, undef, undef, undef, undef, undef, undef, undef, undef, undef, undef, undef, undef, undef, undef, undef, undef, undef, undef, undef, undef, undef, undef, undef, undef], []⟩ ?_
  refine then_n ?_
  refine sy_sq (part_RecordKnown 2046) (part_RecordKnown 2047) ?_
  refine sy_reg ?_
  refine rg_plain 10 (opsAt (part_RecordKnown 2046)) [0, 1, 2, 3, 4, 5, 6, 7, 8, 9, 10, 11, 12, 13, 14, 15, 16, 17, 18, 19, 20, 21, 22, 23, 24, 25] (by kernel_rfl) (by kernel_rfl) ?_
  refine ps_k (o_RecordKnown 2046 0) (pT r 0) ?_
  refine ps_c (o_RecordKnown 2046 1) 14 #[pT r 0, .int .i64 3, .int .i64 6] Try.func14 ((RSt.move_yes (q173.keepsN kb185) 3 6 (by decide +kernel)).mono ?_)
  rintro e V188 ⟨rfl, q189, kV188⟩
  refine ⟨_, rfl, ?_⟩
  have h190 : V188.heap[z1]? = some (.cells (Att.c (vt 1 0 2)) 28 (0, 0)) := (kV188.block z1 (lt_of_block h181) (fun e => Rings.not h181 (by decide) (by decide) (by decide) (by decide) e)).trans h181
  have h191 : V188.heap[z2]? = some (.cells (Att.c zAtt) 28 (0, 0)) := (kV188.block z2 (lt_of_block h182) (fun e => Rings.not h182 (by decide) (by decide) (by decide) (by decide) e)).trans h182
  have h192 : V188.heap[z3]? = some (.cells (Pro.c (bl 5)) 35 (0, 0)) := (kV188.block z3 (lt_of_block h183) (fun e => Rings.not h183 (by decide) (by decide) (by decide) (by decide) e)).trans h183
  have h193 : V188.heap[z4]? = some (.cells (Pro.c zPro) 35 (0, 0)) := (kV188.block z4 (lt_of_block h184) (fun e => Rings.not h184 (by decide) (by decide) (by decide) (by decide) e)).trans h184
  have K194 : Keeps Nob w V188 := K186.then kV188 (fun i hi hm => absurd hi (by have := hm.1; omega))
  have z195 := kV188.size
  refine ps_k (o_RecordKnown 2046 2) (.bool true) ?_
  refine ps_k (o_RecordKnown 2046 3) (.bool true) ?_
  refine ps_k (o_RecordKnown 2046 4) (pT r 0) ?_
  refine ps_c (o_RecordKnown 2046 5) 10 #[.int .i64 1, .int .i64 0, .int .i64 6] Try.func10 ((lrvote_ok 1 0 6 _).mono ?_)
  rintro e V196 ⟨rfl, kV196⟩
  refine ⟨_, rfl, ?_⟩
  have h197 := kV196.bk h190
  have h198 := kV196.bk h191
  have h199 := kV196.bk h192
  have h200 := kV196.bk h193
  have kb201 : Keeps Nob V188 V196 := (Keeps.refl Nob V188).nn kV196
  have K202 := K194.nn kV196
  have z203 := kV196.size
  refine ps_c (o_RecordKnown 2046 6) 9 #[pT r 0, .agg (Att.c (vt 1 0 6))] Try.func9 ((RSt.put_yes (q189.keepsN kb201) (vt 1 0 6) (vt_ok (by decide) (by decide) (by decide)) (by decide +kernel)).mono ?_)
  rintro e V204 ⟨rfl, q205, kV204⟩
  refine ⟨_, rfl, ?_⟩
  have h206 : V204.heap[z1]? = some (.cells (Att.c (vt 1 0 2)) 28 (0, 0)) := (kV204.block z1 (lt_of_block h197) (fun e => Rings.not h197 (by decide) (by decide) (by decide) (by decide) e)).trans h197
  have h207 : V204.heap[z2]? = some (.cells (Att.c zAtt) 28 (0, 0)) := (kV204.block z2 (lt_of_block h198) (fun e => Rings.not h198 (by decide) (by decide) (by decide) (by decide) e)).trans h198
  have h208 : V204.heap[z3]? = some (.cells (Pro.c (bl 5)) 35 (0, 0)) := (kV204.block z3 (lt_of_block h199) (fun e => Rings.not h199 (by decide) (by decide) (by decide) (by decide) e)).trans h199
  have h209 : V204.heap[z4]? = some (.cells (Pro.c zPro) 35 (0, 0)) := (kV204.block z4 (lt_of_block h200) (fun e => Rings.not h200 (by decide) (by decide) (by decide) (by decide) e)).trans h200
  have K210 : Keeps Nob w V204 := K202.then kV204 (fun i hi hm => absurd hi (by have := hm.1; omega))
  have z211 := kV204.size
  refine ps_k (o_RecordKnown 2046 7) (.bool true) ?_
  refine ps_k (o_RecordKnown 2046 8) (.bool true) ?_
  refine ps_k (o_RecordKnown 2046 9) (.bool true) ?_
  refine ps_k (o_RecordKnown 2046 10) (pT r 0) ?_
  refine ps_c (o_RecordKnown 2046 11) 10 #[.int .i64 1, .int .i64 0, .int .i64 7] Try.func10 ((lrvote_ok 1 0 7 _).mono ?_)
  rintro e V212 ⟨rfl, kV212⟩
  refine ⟨_, rfl, ?_⟩
  have h213 := kV212.bk h206
  have h214 := kV212.bk h207
  have h215 := kV212.bk h208
  have h216 := kV212.bk h209
  have kb217 : Keeps Nob V204 V212 := (Keeps.refl Nob V204).nn kV212
  have K218 := K210.nn kV212
  have z219 := kV212.size
  refine ps_c (o_RecordKnown 2046 12) 9 #[pT r 0, .agg (Att.c (vt 1 0 7))] Try.func9 ((RSt.put_no (q205.keepsN kb217) (vt 1 0 7) (vt_ok (by decide) (by decide) (by decide)) 17 (by decide +kernel) (by decide)).mono ?_)
  rintro e V220 ⟨rfl, q221, kV220⟩
  refine ⟨_, rfl, ?_⟩
  have h222 : V220.heap[z1]? = some (.cells (Att.c (vt 1 0 2)) 28 (0, 0)) := (kV220.block z1 (lt_of_block h213) (fun e => Rings.not h213 (by decide) (by decide) (by decide) (by decide) e)).trans h213
  have h223 : V220.heap[z2]? = some (.cells (Att.c zAtt) 28 (0, 0)) := (kV220.block z2 (lt_of_block h214) (fun e => Rings.not h214 (by decide) (by decide) (by decide) (by decide) e)).trans h214
  have h224 : V220.heap[z3]? = some (.cells (Pro.c (bl 5)) 35 (0, 0)) := (kV220.block z3 (lt_of_block h215) (fun e => Rings.not h215 (by decide) (by decide) (by decide) (by decide) e)).trans h215
  have h225 : V220.heap[z4]? = some (.cells (Pro.c zPro) 35 (0, 0)) := (kV220.block z4 (lt_of_block h216) (fun e => Rings.not h216 (by decide) (by decide) (by decide) (by decide) e)).trans h216
  have K226 : Keeps Nob w V220 := K218.then kV220 (fun i hi hm => absurd hi (by have := hm.1; omega))
  have z227 := kV220.size
  refine ps_k (o_RecordKnown 2046 13) (.bool true) ?_
  refine ps_k (o_RecordKnown 2046 14) (.bool true) ?_
  refine ps_k (o_RecordKnown 2046 15) (.bool true) ?_
  refine ps_k (o_RecordKnown 2046 16) (pT r 0) ?_
  refine ps_c (o_RecordKnown 2046 17) 15 #[pT r 0] Try.func15 ((RSt.low q221).mono ?_)
  rintro e w1 ⟨rfl, rfl⟩
  refine ⟨_, rfl, ?_⟩
  refine ps_k (o_RecordKnown 2046 18) (.bool true) ?_
  refine ps_k (o_RecordKnown 2046 19) (.bool true) ?_
  refine ps_k (o_RecordKnown 2046 20) (.bool true) ?_
  refine ps_k (o_RecordKnown 2046 21) (pT r 0) ?_
  refine ps_c (o_RecordKnown 2046 22) 16 #[pT r 0] Try.func16 ((RSt.floor q221).mono ?_)
  rintro e w1 ⟨rfl, rfl⟩
  refine ⟨_, rfl, ?_⟩
  refine ps_k (o_RecordKnown 2046 23) (.bool true) ?_
  refine ps_k (o_RecordKnown 2046 24) (.bool true) ?_
  refine ps_k (o_RecordKnown 2046 25) (.bool true) ?_
  refine ps_end ?_
  refine sy_a ⟨#[.bool false, pT r 0, pT z1 0, .bool true, pT z2 0, .bool false, .bool true, pT z3 0, .bool true, pT z4 0, .bool false, .bool true, .bool true, undef, undef, undef, undef, undef, undef, undef, undef, undef, undef, pT r 0, pT r 0, .bool false, .tuple #[.agg (Att.c (vt 1 0 2)), .bool true], pT r 0, .tuple #[.agg (Att.c (vt 1 0 2)), .bool true], .agg (Att.c (vt 1 0 2)), .bool true, .tuple #[.agg (Att.c zAtt), .bool false], pT r 0, .tuple #[.agg (Att.c zAtt), .bool false], .agg (Att.c zAtt), .bool false, pT r 0, .agg (Att.c (vt 2 0 1)), .int .i64 2, .bool true, .bool true, pT r 0, .agg (Att.c (vt 32 0 1)), .int .i64 3, .bool true, .bool true, .bool true, .bool true, .bool true, .bool true, .agg (Att.c (vt 1 0 2)), .agg (Att.c (vt 1 0 2)), .bool true, .bool true, .bool true, .bool false, .bool true, .bool true, .tuple #[.agg (Pro.c (bl 5)), .bool true], pT r 0, .tuple #[.agg (Pro.c (bl 5)), .bool true], .agg (Pro.c (bl 5)), .bool true, .tuple #[.agg (Pro.c zPro), .bool false], pT r 0, .tuple #[.agg (Pro.c zPro), .bool false], .agg (Pro.c zPro), .bool false, pT r 0, .agg (Pro.c (bl 5)), .int .i64 8, .bool true, .bool true, pT r 0, .agg (Pro.c (bl 11)), .int .i64 17, .bool true, .bool true, .bool true, pT r 0, .agg (Pro.c (bl 0)), .int .i64 3, .bool true, .bool true, .bool true, .bool true, .bool true, .bool true, .agg (Pro.c (bl 5)), .agg (Pro.c (bl 5)), .bool true, .bool true, .bool true, .bool false, .bool true, .bool true, pT r 0, .int .i64 0, .bool true, .bool true, pT r 0, .agg (Att.c (vt 1 0 6)), .int .i64 0, .bool true, .bool true, .bool true, pT r 0, .agg (Att.c (vt 1 0 7)), .int .i64 17, .bool true, .bool true, .bool true, pT r 0, .int .i64 3, .bool true, .bool true, .bool true, pT r 0, .int .i64 6, .bool true, .bool true, undef, undef, undef, undef, undef, undef, undef, undef, undef, undef, undef, undef, undef, undef, undef, undef, undef, undef, undef, undef, undef, undef, undef, undef, undef, undef, undef, undef, undef, undef, undef, undef, undef, undef, undef, undef, undef, undef, undef, undef, undef, undef, undef, undef, undef, undef, undef, undef, undef, undef, undef, undef, undef, undef, undef, undef, undef, undef, undef, undef, undef, undef, undef, undef, undef, undef, undef, undef, undef, undef, undef, undef, undef], []⟩ ?_
  refine then_n ?_
  refine sy_sq (part_RecordKnown 4094) (part_RecordKnown 4095) ?_
  refine sy_reg ?_
  refine rg_plain 11 (opsAt (part_RecordKnown 4094)) [0, 1, 2, 3, 4, 5, 6, 7, 8, 9, 10, 11, 12, 13, 14, 15, 16, 17, 18, 19, 20, 21, 22] (by kernel_rfl) (by kernel_rfl) ?_
  refine ps_k (o_RecordKnown 4094 0) (pT r 0) ?_
  refine ps_c (o_RecordKnown 4094 1) 14 #[pT r 0, .int .i64 2, .int .i64 9] Try.func14 ((RSt.move_no q221 2 9 9 (by decide +kernel) (by decide)).mono ?_)
  rintro e V228 ⟨rfl, q229, kV228⟩
  refine ⟨_, rfl, ?_⟩
  have h230 : V228.heap[z1]? = some (.cells (Att.c (vt 1 0 2)) 28 (0, 0)) := (kV228.block z1 (lt_of_block h222) (fun e => Rings.not h222 (by decide) (by decide) (by decide) (by decide) e)).trans h222
  have h231 : V228.heap[z2]? = some (.cells (Att.c zAtt) 28 (0, 0)) := (kV228.block z2 (lt_of_block h223) (fun e => Rings.not h223 (by decide) (by decide) (by decide) (by decide) e)).trans h223
  have h232 : V228.heap[z3]? = some (.cells (Pro.c (bl 5)) 35 (0, 0)) := (kV228.block z3 (lt_of_block h224) (fun e => Rings.not h224 (by decide) (by decide) (by decide) (by decide) e)).trans h224
  have h233 : V228.heap[z4]? = some (.cells (Pro.c zPro) 35 (0, 0)) := (kV228.block z4 (lt_of_block h225) (fun e => Rings.not h225 (by decide) (by decide) (by decide) (by decide) e)).trans h225
  have K234 : Keeps Nob w V228 := K226.then kV228 (fun i hi hm => absurd hi (by have := hm.1; omega))
  have z235 := kV228.size
  refine ps_k (o_RecordKnown 4094 2) (.bool true) ?_
  refine ps_k (o_RecordKnown 4094 3) (.bool true) ?_
  refine ps_k (o_RecordKnown 4094 4) (pT r 0) ?_
  refine ps_c (o_RecordKnown 4094 5) 14 #[pT r 0, .int .i64 3, .int .i64 5] Try.func14 ((RSt.move_no q229 3 5 9 (by decide +kernel) (by decide)).mono ?_)
  rintro e V236 ⟨rfl, q237, kV236⟩
  refine ⟨_, rfl, ?_⟩
  have h238 : V236.heap[z1]? = some (.cells (Att.c (vt 1 0 2)) 28 (0, 0)) := (kV236.block z1 (lt_of_block h230) (fun e => Rings.not h230 (by decide) (by decide) (by decide) (by decide) e)).trans h230
  have h239 : V236.heap[z2]? = some (.cells (Att.c zAtt) 28 (0, 0)) := (kV236.block z2 (lt_of_block h231) (fun e => Rings.not h231 (by decide) (by decide) (by decide) (by decide) e)).trans h231
  have h240 : V236.heap[z3]? = some (.cells (Pro.c (bl 5)) 35 (0, 0)) := (kV236.block z3 (lt_of_block h232) (fun e => Rings.not h232 (by decide) (by decide) (by decide) (by decide) e)).trans h232
  have h241 : V236.heap[z4]? = some (.cells (Pro.c zPro) 35 (0, 0)) := (kV236.block z4 (lt_of_block h233) (fun e => Rings.not h233 (by decide) (by decide) (by decide) (by decide) e)).trans h233
  have K242 : Keeps Nob w V236 := K234.then kV236 (fun i hi hm => absurd hi (by have := hm.1; omega))
  have z243 := kV236.size
  refine ps_k (o_RecordKnown 4094 6) (.bool true) ?_
  refine ps_k (o_RecordKnown 4094 7) (.bool true) ?_
  refine ps_k (o_RecordKnown 4094 8) (.bool true) ?_
  refine ps_k (o_RecordKnown 4094 9) (pT r 0) ?_
  refine ps_c (o_RecordKnown 4094 10) 14 #[pT r 0, .int .i64 3, .int .i64 0] Try.func14 ((RSt.move_no q237 3 0 3 (by decide +kernel) (by decide)).mono ?_)
  rintro e V244 ⟨rfl, q245, kV244⟩
  refine ⟨_, rfl, ?_⟩
  have h246 : V244.heap[z1]? = some (.cells (Att.c (vt 1 0 2)) 28 (0, 0)) := (kV244.block z1 (lt_of_block h238) (fun e => Rings.not h238 (by decide) (by decide) (by decide) (by decide) e)).trans h238
  have h247 : V244.heap[z2]? = some (.cells (Att.c zAtt) 28 (0, 0)) := (kV244.block z2 (lt_of_block h239) (fun e => Rings.not h239 (by decide) (by decide) (by decide) (by decide) e)).trans h239
  have h248 : V244.heap[z3]? = some (.cells (Pro.c (bl 5)) 35 (0, 0)) := (kV244.block z3 (lt_of_block h240) (fun e => Rings.not h240 (by decide) (by decide) (by decide) (by decide) e)).trans h240
  have h249 : V244.heap[z4]? = some (.cells (Pro.c zPro) 35 (0, 0)) := (kV244.block z4 (lt_of_block h241) (fun e => Rings.not h241 (by decide) (by decide) (by decide) (by decide) e)).trans h241
  have K250 : Keeps Nob w V244 := K242.then kV244 (fun i hi hm => absurd hi (by have := hm.1; omega))
  have z251 := kV244.size
  refine ps_k (o_RecordKnown 4094 11) (.bool true) ?_
  refine ps_k (o_RecordKnown 4094 12) (.bool true) ?_
  refine ps_k (o_RecordKnown 4094 13) (.bool true) ?_
  refine ps_k (o_RecordKnown 4094 14) (pT r 0) ?_
  refine ps_c (o_RecordKnown 4094 15) 14 #[pT r 0, .int .i64 4294967296, .int .i64 4294967296] Try.func14 ((RSt.move_yes q245 4294967296 4294967296 (by decide +kernel)).mono ?_)
  rintro e V252 ⟨rfl, q253, kV252⟩
  refine ⟨_, rfl, ?_⟩
  have h254 : V252.heap[z1]? = some (.cells (Att.c (vt 1 0 2)) 28 (0, 0)) := (kV252.block z1 (lt_of_block h246) (fun e => Rings.not h246 (by decide) (by decide) (by decide) (by decide) e)).trans h246
  have h255 : V252.heap[z2]? = some (.cells (Att.c zAtt) 28 (0, 0)) := (kV252.block z2 (lt_of_block h247) (fun e => Rings.not h247 (by decide) (by decide) (by decide) (by decide) e)).trans h247
  have h256 : V252.heap[z3]? = some (.cells (Pro.c (bl 5)) 35 (0, 0)) := (kV252.block z3 (lt_of_block h248) (fun e => Rings.not h248 (by decide) (by decide) (by decide) (by decide) e)).trans h248
  have h257 : V252.heap[z4]? = some (.cells (Pro.c zPro) 35 (0, 0)) := (kV252.block z4 (lt_of_block h249) (fun e => Rings.not h249 (by decide) (by decide) (by decide) (by decide) e)).trans h249
  have K258 : Keeps Nob w V252 := K250.then kV252 (fun i hi hm => absurd hi (by have := hm.1; omega))
  have z259 := kV252.size
  refine ps_k (o_RecordKnown 4094 16) (.bool true) ?_
  refine ps_k (o_RecordKnown 4094 17) (.bool true) ?_
  refine ps_k (o_RecordKnown 4094 18) (.bool true) ?_
  refine ps_k (o_RecordKnown 4094 19) (pT r 0) ?_
  refine ps_c (o_RecordKnown 4094 20) 17 #[pT r 0, .slice none 0 0, .slice none 0 0] Try.func17 ((lhas_true w r 1 kn6 _ _ [] [] _ q253 (Sl.nil _ _ _) (Sl.nil _ _ _) (by decide +kernel) (by decide +kernel)).mono ?_)
  rintro e V260 ⟨rfl, kV260⟩
  refine ⟨_, rfl, ?_⟩
  have h261 := kV260.bk h254
  have h262 := kV260.bk h255
  have h263 := kV260.bk h256
  have h264 := kV260.bk h257
  have kb265 : Keeps Nob V252 V260 := (Keeps.refl Nob V252).nn kV260
  have K266 := K258.nn kV260
  have z267 := kV260.size
  refine ps_k (o_RecordKnown 4094 21) (.bool true) ?_
  refine ps_k (o_RecordKnown 4094 22) (.bool true) ?_
  refine ps_end ?_
  refine then_n ?_
  refine sy_sq (part_RecordKnown 8190) (part_RecordKnown 8191) ?_
  refine sy_reg ?_
  refine rg_plain 12 (opsAt (part_RecordKnown 8190)) [0, 1, 2, 3, 4, 5] (by kernel_rfl) (by kernel_rfl) ?_
  refine ps_c (o_RecordKnown 8190 0) 18 #[.int .i64 32, .int .i64 4, .int .i64 10] Try.func18 ((qNew_no 32 4 10 _ (by unfold newOk; omega)).mono ?_)
  rintro e V268 ⟨rfl, kV268⟩
  refine ⟨_, rfl, ?_⟩
  have h269 := kV268.bk h261
  have h270 := kV268.bk h262
  have h271 := kV268.bk h263
  have h272 := kV268.bk h264
  have kb273 : Keeps Nob V252 V268 := kb265.nn kV268
  have K274 := K266.nn kV268
  have z275 := kV268.size
  refine ps_k (o_RecordKnown 8190 1) (.tuple #[.pointer none, .int .i64 3]) ?_
  refine ps_k (o_RecordKnown 8190 2) (.pointer none) ?_
  refine ps_k (o_RecordKnown 8190 3) (.int .i64 3) ?_
  refine ps_k (o_RecordKnown 8190 4) (.pointer none) ?_
  refine ps_k (o_RecordKnown 8190 5) (.int .i64 3) ?_
  refine ps_end ?_
  refine sy_a ⟨#[.bool false, pT r 0, pT z1 0, .bool true, pT z2 0, .bool false, .bool true, pT z3 0, .bool true, pT z4 0, .bool false, .bool true, .bool true, .bool true, .pointer none, .int .i64 3, undef, undef, undef, undef, undef, undef, undef, pT r 0, pT r 0, .bool false, .tuple #[.agg (Att.c (vt 1 0 2)), .bool true], pT r 0, .tuple #[.agg (Att.c (vt 1 0 2)), .bool true], .agg (Att.c (vt 1 0 2)), .bool true, .tuple #[.agg (Att.c zAtt), .bool false], pT r 0, .tuple #[.agg (Att.c zAtt), .bool false], .agg (Att.c zAtt), .bool false, pT r 0, .agg (Att.c (vt 2 0 1)), .int .i64 2, .bool true, .bool true, pT r 0, .agg (Att.c (vt 32 0 1)), .int .i64 3, .bool true, .bool true, .bool true, .bool true, .bool true, .bool true, .agg (Att.c (vt 1 0 2)), .agg (Att.c (vt 1 0 2)), .bool true, .bool true, .bool true, .bool false, .bool true, .bool true, .tuple #[.agg (Pro.c (bl 5)), .bool true], pT r 0, .tuple #[.agg (Pro.c (bl 5)), .bool true], .agg (Pro.c (bl 5)), .bool true, .tuple #[.agg (Pro.c zPro), .bool false], pT r 0, .tuple #[.agg (Pro.c zPro), .bool false], .agg (Pro.c zPro), .bool false, pT r 0, .agg (Pro.c (bl 5)), .int .i64 8, .bool true, .bool true, pT r 0, .agg (Pro.c (bl 11)), .int .i64 17, .bool true, .bool true, .bool true, pT r 0, .agg (Pro.c (bl 0)), .int .i64 3, .bool true, .bool true, .bool true, .bool true, .bool true, .bool true, .agg (Pro.c (bl 5)), .agg (Pro.c (bl 5)), .bool true, .bool true, .bool true, .bool false, .bool true, .bool true, pT r 0, .int .i64 0, .bool true, .bool true, pT r 0, .agg (Att.c (vt 1 0 6)), .int .i64 0, .bool true, .bool true, .bool true, pT r 0, .agg (Att.c (vt 1 0 7)), .int .i64 17, .bool true, .bool true, .bool true, pT r 0, .int .i64 3, .bool true, .bool true, .bool true, pT r 0, .int .i64 6, .bool true, .bool true, pT r 0, .int .i64 9, .bool true, .bool true, pT r 0, .int .i64 9, .bool true, .bool true, .bool true, pT r 0, .int .i64 3, .bool true, .bool true, .bool true, pT r 0, .int .i64 0, .bool true, .bool true, .bool true, pT r 0, .bool true, .bool true, .tuple #[.pointer none, .int .i64 3], .tuple #[.pointer none, .int .i64 3], .pointer none, .int .i64 3, undef, undef, undef, undef, undef, undef, undef, undef, undef, undef, undef, undef, undef, undef, undef, undef, undef, undef, undef, undef, undef, undef, undef, undef, undef, undef, undef, undef, undef, undef, undef, undef, undef, undef, undef, undef, undef, undef, undef, undef, undef, undef, undef, undef, undef, undef, undef], []⟩ ?_
  refine then_n ?_
  refine sy_sq (part_RecordKnown 16382) (part_RecordKnown 16383) ?_
  refine sy_reg ?_
  refine rg_plain 13 (opsAt (part_RecordKnown 16382)) [0, 1, 2, 3, 4, 5] (by kernel_rfl) (by kernel_rfl) ?_
  refine ps_c (o_RecordKnown 16382 0) 18 #[.int .i64 1, .int .i64 0, .int .i64 10] Try.func18 ((qNew_no 1 0 10 _ (by unfold newOk; omega)).mono ?_)
  rintro e V276 ⟨rfl, kV276⟩
  refine ⟨_, rfl, ?_⟩
  have h277 := kV276.bk h269
  have h278 := kV276.bk h270
  have h279 := kV276.bk h271
  have h280 := kV276.bk h272
  have kb281 : Keeps Nob V252 V276 := kb273.nn kV276
  have K282 := K274.nn kV276
  have z283 := kV276.size
  refine ps_k (o_RecordKnown 16382 1) (.tuple #[.pointer none, .int .i64 3]) ?_
  refine ps_k (o_RecordKnown 16382 2) (.pointer none) ?_
  refine ps_k (o_RecordKnown 16382 3) (.int .i64 3) ?_
  refine ps_k (o_RecordKnown 16382 4) (.pointer none) ?_
  refine ps_k (o_RecordKnown 16382 5) (.int .i64 3) ?_
  refine ps_end ?_
  refine then_n ?_
  refine sy_sq (part_RecordKnown 32766) (part_RecordKnown 32767) ?_
  refine sy_reg ?_
  refine rg_plain 14 (opsAt (part_RecordKnown 32766)) [0, 1, 2, 3, 4, 5] (by kernel_rfl) (by kernel_rfl) ?_
  refine ps_c (o_RecordKnown 32766 0) 18 #[.int .i64 1, .int .i64 257, .int .i64 10] Try.func18 ((qNew_no 1 257 10 _ (by unfold newOk; omega)).mono ?_)
  rintro e V284 ⟨rfl, kV284⟩
  refine ⟨_, rfl, ?_⟩
  have h285 := kV284.bk h277
  have h286 := kV284.bk h278
  have h287 := kV284.bk h279
  have h288 := kV284.bk h280
  have kb289 : Keeps Nob V252 V284 := kb281.nn kV284
  have K290 := K282.nn kV284
  have z291 := kV284.size
  refine ps_k (o_RecordKnown 32766 1) (.tuple #[.pointer none, .int .i64 3]) ?_
  refine ps_k (o_RecordKnown 32766 2) (.pointer none) ?_
  refine ps_k (o_RecordKnown 32766 3) (.int .i64 3) ?_
  refine ps_k (o_RecordKnown 32766 4) (.pointer none) ?_
  refine ps_k (o_RecordKnown 32766 5) (.int .i64 3) ?_
  refine ps_end ?_
  refine then_n ?_
  refine sy_sq (part_RecordKnown 65534) (part_RecordKnown 65535) ?_
  refine sy_reg ?_
  refine rg_plain 15 (opsAt (part_RecordKnown 65534)) [0, 1, 2, 3, 4, 5] (by kernel_rfl) (by kernel_rfl) ?_
  refine ps_c (o_RecordKnown 65534 0) 18 #[.int .i64 1, .int .i64 4, .int .i64 256001] Try.func18 ((qNew_no 1 4 256001 _ (by unfold newOk; omega)).mono ?_)
  rintro e V292 ⟨rfl, kV292⟩
  refine ⟨_, rfl, ?_⟩
  have h293 := kV292.bk h285
  have h294 := kV292.bk h286
  have h295 := kV292.bk h287
  have h296 := kV292.bk h288
  have kb297 : Keeps Nob V252 V292 := kb289.nn kV292
  have K298 := K290.nn kV292
  have z299 := kV292.size
  refine ps_k (o_RecordKnown 65534 1) (.tuple #[.pointer none, .int .i64 3]) ?_
  refine ps_k (o_RecordKnown 65534 2) (.pointer none) ?_
  refine ps_k (o_RecordKnown 65534 3) (.int .i64 3) ?_
  refine ps_k (o_RecordKnown 65534 4) (.pointer none) ?_
  refine ps_k (o_RecordKnown 65534 5) (.int .i64 3) ?_
  refine ps_end ?_
  refine then_n ?_
  refine sy_sq (part_RecordKnown 131070) (part_RecordKnown 131071) ?_
  refine sy_reg ?_
  refine rg_plain 16 (opsAt (part_RecordKnown 131070)) [0] (by kernel_rfl) (by kernel_rfl) ?_
  refine ps_k (o_RecordKnown 131070 0) (.pointer none) ?_
  refine ps_end ?_
  refine then_n ?_
  refine sy_sq (part_RecordKnown 262142) (part_RecordKnown 262143) ?_
  refine sy_reg ?_
  refine rg_plain 17 (opsAt (part_RecordKnown 262142)) [0, 1, 2, 3, 4, 5, 6, 7, 8, 9, 10, 11, 12, 13, 14, 15, 16, 17, 18, 19, 20, 21, 22, 23, 24, 25, 26, 27, 28, 29, 30, 31, 32, 33, 34, 35] (by kernel_rfl) (by kernel_rfl) ?_
  refine ps_c (o_RecordKnown 262142 0) 19 #[] Try.func19 ((lrawake_ok _).mono ?_)
  rintro e V300 ⟨rfl, kV300⟩
  refine ⟨_, rfl, ?_⟩
  have h301 := kV300.bk h293
  have h302 := kV300.bk h294
  have h303 := kV300.bk h295
  have h304 := kV300.bk h296
  have kb305 : Keeps Nob V252 V300 := kb297.nn kV300
  have K306 := K298.nn kV300
  have z307 := kV300.size
  refine ps_k (o_RecordKnown 262142 1) (.bool true) ?_
  refine ps_k (o_RecordKnown 262142 2) (.bool true) ?_
  refine ps_k (o_RecordKnown 262142 3) (.bool true) ?_
  refine ps_k (o_RecordKnown 262142 4) (.bool true) ?_
  refine ps_k (o_RecordKnown 262142 5) (.bool true) ?_
  refine ps_k (o_RecordKnown 262142 6) (.bool true) ?_
  refine ps_k (o_RecordKnown 262142 7) (.bool true) ?_
  refine ps_k (o_RecordKnown 262142 8) (.bool true) ?_
  refine ps_k (o_RecordKnown 262142 9) (.bool true) ?_
  refine ps_k (o_RecordKnown 262142 10) (.bool true) ?_
  refine ps_k (o_RecordKnown 262142 11) (.bool true) ?_
  refine ps_k (o_RecordKnown 262142 12) (.bool true) ?_
  refine ps_k (o_RecordKnown 262142 13) (.bool true) ?_
  refine ps_k (o_RecordKnown 262142 14) (.int .i64 3) ?_
  refine ps_k (o_RecordKnown 262142 15) (.bool true) ?_
  refine ps_k (o_RecordKnown 262142 16) (.bool true) ?_
  refine ps_k (o_RecordKnown 262142 17) (.bool true) ?_
  refine ps_k (o_RecordKnown 262142 18) (.int .i64 3) ?_
  refine ps_k (o_RecordKnown 262142 19) (.bool true) ?_
  refine ps_k (o_RecordKnown 262142 20) (.bool true) ?_
  refine ps_k (o_RecordKnown 262142 21) (.bool true) ?_
  refine ps_k (o_RecordKnown 262142 22) (.int .i64 3) ?_
  refine ps_k (o_RecordKnown 262142 23) (.bool true) ?_
  refine ps_k (o_RecordKnown 262142 24) (.bool true) ?_
  refine ps_k (o_RecordKnown 262142 25) (.bool true) ?_
  refine ps_k (o_RecordKnown 262142 26) (.int .i64 3) ?_
  refine ps_k (o_RecordKnown 262142 27) (.bool true) ?_
  refine ps_k (o_RecordKnown 262142 28) (.bool true) ?_
  refine ps_k (o_RecordKnown 262142 29) (.bool true) ?_
  refine ps_k (o_RecordKnown 262142 30) (.pointer none) ?_
  refine ps_c (o_RecordKnown 262142 31) 10 #[.int .i64 1, .int .i64 0, .int .i64 2] Try.func10 ((lrvote_ok 1 0 2 _).mono ?_)
  rintro e V308 ⟨rfl, kV308⟩
  refine ⟨_, rfl, ?_⟩
  have h309 := kV308.bk h301
  have h310 := kV308.bk h302
  have h311 := kV308.bk h303
  have h312 := kV308.bk h304
  have kb313 : Keeps Nob V252 V308 := kb305.nn kV308
  have K314 := K306.nn kV308
  have z315 := kV308.size
  refine ps_c (o_RecordKnown 262142 32) 9 #[.pointer none, .agg (Att.c (vt 1 0 2))] Try.func9 ((qPut_none (.pointer none) (vt 1 0 2) _ (.inl rfl) (vt_ok (by decide) (by decide) (by decide))).mono ?_)
  rintro e V316 ⟨rfl, kV316⟩
  refine ⟨_, rfl, ?_⟩
  have h317 := kV316.bk h309
  have h318 := kV316.bk h310
  have h319 := kV316.bk h311
  have h320 := kV316.bk h312
  have kb321 : Keeps Nob V252 V316 := kb313.nn kV316
  have K322 := K314.nn kV316
  have z323 := kV316.size
  refine ps_k (o_RecordKnown 262142 33) (.bool true) ?_
  refine ps_k (o_RecordKnown 262142 34) (.bool true) ?_
  refine ps_k (o_RecordKnown 262142 35) (.bool true) ?_
  refine ps_end ?_
  refine sy_a ⟨#[.bool true, pT r 0, pT z1 0, .bool true, pT z2 0, .bool false, .bool true, pT z3 0, .bool true, pT z4 0, .bool false, .bool true, .bool true, .bool true, .pointer none, .int .i64 3, .pointer none, .int .i64 3, .pointer none, .int .i64 3, .pointer none, .int .i64 3, .pointer none, pT r 0, pT r 0, .bool false, .tuple #[.agg (Att.c (vt 1 0 2)), .bool true], pT r 0, .tuple #[.agg (Att.c (vt 1 0 2)), .bool true], .agg (Att.c (vt 1 0 2)), .bool true, .tuple #[.agg (Att.c zAtt), .bool false], pT r 0, .tuple #[.agg (Att.c zAtt), .bool false], .agg (Att.c zAtt), .bool false, pT r 0, .agg (Att.c (vt 2 0 1)), .int .i64 2, .bool true, .bool true, pT r 0, .agg (Att.c (vt 32 0 1)), .int .i64 3, .bool true, .bool true, .bool true, .bool true, .bool true, .bool true, .agg (Att.c (vt 1 0 2)), .agg (Att.c (vt 1 0 2)), .bool true, .bool true, .bool true, .bool false, .bool true, .bool true, .tuple #[.agg (Pro.c (bl 5)), .bool true], pT r 0, .tuple #[.agg (Pro.c (bl 5)), .bool true], .agg (Pro.c (bl 5)), .bool true, .tuple #[.agg (Pro.c zPro), .bool false], pT r 0, .tuple #[.agg (Pro.c zPro), .bool false], .agg (Pro.c zPro), .bool false, pT r 0, .agg (Pro.c (bl 5)), .int .i64 8, .bool true, .bool true, pT r 0, .agg (Pro.c (bl 11)), .int .i64 17, .bool true, .bool true, .bool true, pT r 0, .agg (Pro.c (bl 0)), .int .i64 3, .bool true, .bool true, .bool true, .bool true, .bool true, .bool true, .agg (Pro.c (bl 5)), .agg (Pro.c (bl 5)), .bool true, .bool true, .bool true, .bool false, .bool true, .bool true, pT r 0, .int .i64 0, .bool true, .bool true, pT r 0, .agg (Att.c (vt 1 0 6)), .int .i64 0, .bool true, .bool true, .bool true, pT r 0, .agg (Att.c (vt 1 0 7)), .int .i64 17, .bool true, .bool true, .bool true, pT r 0, .int .i64 3, .bool true, .bool true, .bool true, pT r 0, .int .i64 6, .bool true, .bool true, pT r 0, .int .i64 9, .bool true, .bool true, pT r 0, .int .i64 9, .bool true, .bool true, .bool true, pT r 0, .int .i64 3, .bool true, .bool true, .bool true, pT r 0, .int .i64 0, .bool true, .bool true, .bool true, pT r 0, .bool true, .bool true, .tuple #[.pointer none, .int .i64 3], .tuple #[.pointer none, .int .i64 3], .pointer none, .int .i64 3, .tuple #[.pointer none, .int .i64 3], .tuple #[.pointer none, .int .i64 3], .pointer none, .int .i64 3, .tuple #[.pointer none, .int .i64 3], .tuple #[.pointer none, .int .i64 3], .pointer none, .int .i64 3, .tuple #[.pointer none, .int .i64 3], .tuple #[.pointer none, .int .i64 3], .pointer none, .int .i64 3, .bool true, .bool true, .bool true, .bool true, .bool true, .bool true, .bool true, .bool true, .bool true, .bool true, .bool true, .bool true, .bool true, .bool true, .int .i64 3, .bool true, .bool true, .bool true, .int .i64 3, .bool true, .bool true, .bool true, .int .i64 3, .bool true, .bool true, .bool true, .int .i64 3, .bool true, .bool true, .bool true, .pointer none, .agg (Att.c (vt 1 0 2)), .int .i64 1, .bool true, .bool true], []⟩ ?_
  refine then_n ?_
  refine sy_ret (by kernel_rfl) ?_
  refine sy_out (.bool true) rfl (by kernel_rfl) ?_
  exact ⟨rfl, K322⟩
end Go.Proofs.Ytgipooedgbbliaa
