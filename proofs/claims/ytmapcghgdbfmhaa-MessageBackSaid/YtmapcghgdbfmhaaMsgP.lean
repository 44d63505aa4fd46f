/-
  Messages that come in. Conditions: none.
-/
import Derived.Test.YtmapcghgdbfmhaaMsgA
import Derived.Test.YtmapcghgdbfmhaaVoteL
namespace Go.Proofs.Ytmapcghgdbfmhaa
open Go Go.RowKit Go.Own Go.ChangeShapes Go.WideShapes Go.ChangeAt Go.WideElems
section
variable {H : Type} {enc : TypeId × Value → H} {W : World} {sp : Nat → Bool} {held : Bool} {n off : Nat} {cs : List Value} {y : Option (DataW H × List MemPlace)} {z : DataW H × List MemPlace}
theorem sub_att (h : DataW.trod enc Try.prog W 0 sp held n 31 ((cs.drop off).take (Try.prog.cellsOf 31)) = y) (hy : y = some z) (hl : off + 36 ≤ cs.length) : ∃ a : Att, (cs.drop off).take 36 = a.c.toList ∧ a.Ok := by
  subst hy
  have hh : Try.prog.cellsOf 31 = 36 := by kernel_rfl
  rw [hh] at h
  exact att_cells h (by rw [List.length_take, List.length_drop]; omega)
theorem sub_pro (h : DataW.trod enc Try.prog W 0 sp held n 33 ((cs.drop off).take (Try.prog.cellsOf 33)) = y) (hy : y = some z) (hl : off + 35 ≤ cs.length) : ∃ a : Pro, (cs.drop off).take 35 = a.c.toList ∧ a.Ok := by
  subst hy
  have hh : Try.prog.cellsOf 33 = 35 := by kernel_rfl
  rw [hh] at h
  exact pro_cells h (by rw [List.length_take, List.length_drop]; omega)
theorem of_take {off k j : Nat} {v : Value} (h : ((cs.drop off).take k)[j]? = some v) : cs[off + j]? = some v := by
  rw [List.getElem?_take] at h
  split at h
  · rwa [List.getElem?_drop] at h
  · cases h
set_option maxRecDepth 100000 in
theorem sub_stamp (h : DataW.trod enc Try.prog W 0 sp held n 27 ((cs.drop off).take (Try.prog.cellsOf 27)) = y) (hy : y = some z) :
    ∃ a b c d : Int, (cs[off]? = some (.int .i64 a) ∧ cs[off + 1]? = some (.int .i64 b) ∧ cs[off + 2]? = some (.int .i64 c) ∧ cs[off + 3]? = some (.int .i64 d)) ∧ i64b a ∧ i64b b ∧ i64b c ∧ i64b d := by
  subst hy
  have hh : Try.prog.cellsOf 27 = 4 := by kernel_rfl
  have hi : Try.prog.cellsOf 3 = 1 := by kernel_rfl
  rw [hh] at h
  obtain ⟨xs, n', _, _, _, hxl, hf⟩ := DataW.trod_struct Try.underlying27 h
  obtain ⟨q0, e0, f0⟩ := field_int Try.underlying3 hi (hf 0 _ rfl) (List.getElem?_eq_getElem (by rw [hxl]; decide))
  obtain ⟨q1, e1, f1⟩ := field_int Try.underlying3 hi (hf 1 _ rfl) (List.getElem?_eq_getElem (by rw [hxl]; decide))
  obtain ⟨q2, e2, f2⟩ := field_int Try.underlying3 hi (hf 2 _ rfl) (List.getElem?_eq_getElem (by rw [hxl]; decide))
  obtain ⟨q3, e3, f3⟩ := field_int Try.underlying3 hi (hf 3 _ rfl) (List.getElem?_eq_getElem (by rw [hxl]; decide))
  exact ⟨q0, q1, q2, q3, ⟨of_take (j := 0) e0, of_take (j := 1) e1, of_take (j := 2) e2, of_take (j := 3) e3⟩, bounds_i64 f0, bounds_i64 f1, bounds_i64 f2, bounds_i64 f3⟩
theorem drop_split (cs : List Value) (a k : Nat) : cs.drop a = (cs.drop a).take k ++ cs.drop (a + k) := by rw [← List.drop_drop, List.take_append_drop]
set_option maxRecDepth 100000 in
theorem msg_cells (h : DataW.trod enc Try.prog W 0 sp held n 35 cs = some z) (hl : cs.length = 154) : ∃ m : Msg, cs = m.c.toList ∧ m.Ok := by
  have hi : Try.prog.cellsOf 3 = 1 := by kernel_rfl
  have hu : Try.prog.cellsOf 25 = 1 := by kernel_rfl
  obtain ⟨xs, n', _, _, _, hxl, hf⟩ := DataW.trod_struct Try.underlying35 h
  obtain ⟨q0, e0, f0⟩ := field_int Try.underlying3 hi (hf 0 _ rfl) (List.getElem?_eq_getElem (by rw [hxl]; decide))
  obtain ⟨q1, e1, f1⟩ := field_int Try.underlying3 hi (hf 1 _ rfl) (List.getElem?_eq_getElem (by rw [hxl]; decide))
  obtain ⟨q2, e2, f2⟩ := field_int Try.underlying3 hi (hf 2 _ rfl) (List.getElem?_eq_getElem (by rw [hxl]; decide))
  obtain ⟨q3, e3, f3⟩ := field_int Try.underlying3 hi (hf 3 _ rfl) (List.getElem?_eq_getElem (by rw [hxl]; decide))
  obtain ⟨q4, e4, f4⟩ := field_int Try.underlying25 hu (hf 4 _ rfl) (List.getElem?_eq_getElem (by rw [hxl]; decide))
  obtain ⟨q5, e5, f5⟩ := field_int Try.underlying25 hu (hf 5 _ rfl) (List.getElem?_eq_getElem (by rw [hxl]; decide))
  obtain ⟨sv, ss, sp', sf, ⟨s0, s1, s2, s3⟩, b0, b1, b2, b3⟩ := sub_stamp (off := 6) (hf 6 _ rfl) (List.getElem?_eq_getElem (by rw [hxl]; decide))
  obtain ⟨q7, e7, f7⟩ := field_int Try.underlying3 hi (hf 7 _ rfl) (List.getElem?_eq_getElem (by rw [hxl]; decide))
  obtain ⟨q8, e8, f8⟩ := field_int Try.underlying3 hi (hf 8 _ rfl) (List.getElem?_eq_getElem (by rw [hxl]; decide))
  obtain ⟨va, ea, ha⟩ := sub_att (off := 12) (hf 9 _ rfl) (List.getElem?_eq_getElem (by rw [hxl]; decide)) (by omega)
  obtain ⟨vb, eb, hb⟩ := sub_att (off := 48) (hf 10 _ rfl) (List.getElem?_eq_getElem (by rw [hxl]; decide)) (by omega)
  obtain ⟨vp, ep, hp⟩ := sub_pro (off := 84) (hf 11 _ rfl) (List.getElem?_eq_getElem (by rw [hxl]; decide)) (by omega)
  obtain ⟨vq, eq, hq⟩ := sub_pro (off := 119) (hf 12 _ rfl) (List.getElem?_eq_getElem (by rw [hxl]; decide)) (by omega)
  obtain ⟨g4, hg4, rfl⟩ := u64_nat f4
  obtain ⟨g5, hg5, rfl⟩ := u64_nat f5
  refine ⟨⟨q0, q1, q2, q3, g4, g5, sv, ss, sp', sf, q7, q8, va, vb, vp, vq⟩, ?_, ⟨bounds_i64 f0, bounds_i64 f1, bounds_i64 f2, bounds_i64 f3, hg4, hg5, b0, b1, b2, b3, bounds_i64 f7, bounds_i64 f8, ha, hb, hp, hq⟩⟩
  have hhd : cs.take 12 = Msg.hd ⟨q0, q1, q2, q3, g4, g5, sv, ss, sp', sf, q7, q8, va, vb, vp, vq⟩ := by
    apply List.ext_getElem?
    intro i
    by_cases h12 : i < 12
    · rw [List.getElem?_take_of_lt h12]
      match i, h12 with
      | 0, _ => exact e0
      | 1, _ => exact e1
      | 2, _ => exact e2
      | 3, _ => exact e3
      | 4, _ => exact e4
      | 5, _ => exact e5
      | 6, _ => exact s0
      | 7, _ => exact s1
      | 8, _ => exact s2
      | 9, _ => exact s3
      | 10, _ => exact e7
      | 11, _ => exact e8
    · rw [List.getElem?_eq_none (by rw [List.length_take]; omega), List.getElem?_eq_none (by rw [Msg.hd_len]; omega)]
  show cs = Msg.cl _
  rw [Msg.cl_a, ← hhd, ← ea, ← eb, ← ep, ← eq]
  conv => lhs; rw [← List.take_append_drop 12 cs]
  congr 1
  conv => lhs; rw [drop_split cs 12 36, drop_split cs 48 36, drop_split cs 84 35]
  congr 1; congr 1; congr 1
  rw [List.take_of_length_le (by rw [List.length_drop]; omega)]
set_option maxRecDepth 100000 in
theorem open_msg {v : Value} {d : DataW H} {ps : List MemPlace} {R : Reach} {base : Nat} (h : DataW.Trod enc Try.prog W 0 sp held 35 v d ps) (hv : Value.okWide Try.prog W R base 35 v) : ∃ m : Msg, v = .agg m.c ∧ m.Ok := by
  obtain ⟨cs, rfl, hsz⟩ := okWide_struct Try.underlying35 hv
  have hC : Try.prog.cellsOf 35 = 154 := by kernel_rfl
  rw [hC] at hsz
  obtain ⟨fuel, ht⟩ := h
  have ht : DataW.trod enc Try.prog W 0 sp held fuel 35 cs.toList = some (d, ps) := ht
  obtain ⟨a, ha, hok⟩ := msg_cells ht (by simpa using hsz)
  exact ⟨a, congrArg Value.agg (Array.toList_inj.1 ha), hok⟩
end
end Go.Proofs.Ytmapcghgdbfmhaa
