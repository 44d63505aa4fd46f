/-
  Records: acts that come in. Conditions: none.
-/
import Derived.Test.YtgipooedgbbliaaRecU
import Derived.Test.YtgipooedgbbliaaVoteL
namespace Go.Proofs.Ytgipooedgbbliaa
open Go Go.RowKit Go.Own Go.ChangeShapes Go.WideShapes Go.ChangeAt Go.WideElems
set_option maxRecDepth 100000 in
theorem ract_cells {H : Type} {enc : TypeId × Value → H} {W : World} {sp : Nat → Bool} {held : Bool} {n : Nat} {cs : List Value} {z : DataW H × List MemPlace} (h : DataW.trod enc Try.prog W 0 sp held n 51 cs = some z) (hl : cs.length = 76) : ∃ x : RAct, cs = x.cl ∧ x.Ok := by
  have hi : Try.prog.cellsOf 3 = 1 := by kernel_rfl
  have hA : Try.prog.cellsOf 28 = 36 := by kernel_rfl
  have hP : Try.prog.cellsOf 35 = 35 := by kernel_rfl
  obtain ⟨xs, n', _, _, _, hxl, hf⟩ := DataW.trod_struct Try.underlying51 h
  obtain ⟨q0, e0, f0⟩ := field_int Try.underlying3 hi (hf 0 _ rfl) (List.getElem?_eq_getElem (by rw [hxl]; decide))
  obtain ⟨q1, e1, f1⟩ := field_int Try.underlying3 hi (hf 1 _ rfl) (List.getElem?_eq_getElem (by rw [hxl]; decide))
  obtain ⟨q2, e2, f2⟩ := field_int Try.underlying3 hi (hf 2 _ rfl) (List.getElem?_eq_getElem (by rw [hxl]; decide))
  obtain ⟨q3, e3, f3⟩ := field_int Try.underlying3 hi (hf 3 _ rfl) (List.getElem?_eq_getElem (by rw [hxl]; decide))
  obtain ⟨q4, e4, f4⟩ := field_int Try.underlying3 hi (hf 4 _ rfl) (List.getElem?_eq_getElem (by rw [hxl]; decide))
  have l5 : 5 < xs.length := by rw [hxl]; decide
  have l6 : 6 < xs.length := by rw [hxl]; decide
  have h5 := (hf 5 _ rfl).trans (List.getElem?_eq_getElem l5)
  have h6 := (hf 6 _ rfl).trans (List.getElem?_eq_getElem l6)
  have h5' : DataW.trod enc Try.prog W 0 sp held n' 28 ((cs.drop 5).take 36) = some xs[5] := by have hh := h5; change DataW.trod enc Try.prog W 0 sp held n' 28 ((cs.drop 5).take (Try.prog.cellsOf 28)) = some xs[5] at hh; rw [hA] at hh; exact hh
  have h6' : DataW.trod enc Try.prog W 0 sp held n' 35 ((cs.drop 41).take 35) = some xs[6] := by have hh := h6; change DataW.trod enc Try.prog W 0 sp held n' 35 ((cs.drop 41).take (Try.prog.cellsOf 35)) = some xs[6] at hh; rw [hP] at hh; exact hh
  obtain ⟨a, ha, hao⟩ := att_cells h5' (by rw [List.length_take, List.length_drop, hl]; rfl)
  obtain ⟨p, hp, hpo⟩ := pro_cells h6' (by rw [List.length_take, List.length_drop, hl]; rfl)
  refine ⟨⟨q0, q1, q2, q3, q4, a, p⟩, ?_, ⟨bounds_i64 f0, bounds_i64 f1, bounds_i64 f2, bounds_i64 f3, bounds_i64 f4, hao, hpo⟩⟩
  match cs, hl, e0, e1, e2, e3, e4, ha, hp with
  | c0 :: c1 :: c2 :: c3 :: c4 :: r', hl, e0, e1, e2, e3, e4, ha, hp =>
    have e0 : some c0 = some (Value.int .i64 q0) := e0
    have e1 : some c1 = some (Value.int .i64 q1) := e1
    have e2 : some c2 = some (Value.int .i64 q2) := e2
    have e3 : some c3 = some (Value.int .i64 q3) := e3
    have e4 : some c4 = some (Value.int .i64 q4) := e4
    cases e0; cases e1; cases e2; cases e3; cases e4
    have ha : r'.take 36 = a.cl := ha
    have hp : (r'.drop 36).take 35 = p.cl := hp
    have hl : r'.length = 71 := by simpa using hl
    rw [List.take_of_length_le (by rw [List.length_drop]; omega)] at hp
    simp only [RAct.cl, List.cons.injEq, true_and]
    rw [← ha, ← hp, List.take_append_drop]
set_option maxRecDepth 100000 in
theorem open_ract {H : Type} {enc : TypeId × Value → H} {W : World} {sp : Nat → Bool} {held : Bool} {v : Value} {d : DataW H} {ps : List MemPlace} {R : Reach} {base : Nat} (h : DataW.Trod enc Try.prog W 0 sp held 51 v d ps) (hv : Value.okWide Try.prog W R base 51 v) : ∃ x : RAct, v = .agg x.c ∧ x.Ok := by
  obtain ⟨cs, rfl, hsz⟩ := okWide_struct Try.underlying51 hv
  have hC : Try.prog.cellsOf 51 = 76 := by kernel_rfl
  rw [hC] at hsz
  obtain ⟨fuel, ht⟩ := h
  have ht : DataW.trod enc Try.prog W 0 sp held fuel 51 cs.toList = some (d, ps) := ht
  obtain ⟨x, hx, hok⟩ := ract_cells ht (by simpa using hsz)
  exact ⟨x, congrArg Value.agg (by unfold RAct.c; rw [← hx]), hok⟩
set_option maxRecDepth 100000 in
theorem open_racts {H : Type} {enc : TypeId × Value → H} {W : World} {sp : Nat → Bool} {held : Bool} {v : Value} {d : DataW H} {ps : List MemPlace} (h : DataW.Trod enc Try.prog W 0 sp held 46 v d ps) (hv : ∃ a len cap, v = .slice a len cap) : ∃ l : List RAct, Sl W 76 RAct.cl v l ∧ ∀ x ∈ l, x.Ok := by
  have hC : Try.prog.cellsOf 51 = 76 := by kernel_rfl
  obtain ⟨a, len, cap, rfl, hl, hm, hnz, hi⟩ := open_elemsN Try.underlying46 (by rw [hC]; omega) h hv
  rw [hC] at hi
  obtain ⟨l, hll, hq⟩ := list_of (fun i (x : RAct) => x.Ok ∧ ∃ b o, a = some ⟨b, o, none⟩ ∧ ∀ (j : Nat) (u : Value), x.cl[j]? = some u → W.cell? ⟨b, o + i * 76 + j, none⟩ = some u) len (fun i hlt => by
    obtain ⟨b, o, cs, n, y, ha, hcl, hcell, ht⟩ := hi i hlt
    obtain ⟨x, rfl, hok⟩ := ract_cells ht hcl
    exact ⟨x, hok, b, o, ha, fun j u hj => (hcell j (by have := (List.getElem?_eq_some_iff.1 hj).1; omega)).trans hj⟩)
  subst hll
  refine ⟨l, ⟨⟨a, cap, rfl, hl, hm, hnz⟩, fun k x hk => ?_⟩, fun x hx => ?_⟩
  · obtain ⟨hok, b, o, rfl, hc⟩ := hq k x hk
    exact ⟨b, o, cap, rfl, World.block_lt_of_cell? W _ (hc 0 _ rfl), hc⟩
  · obtain ⟨k, hk⟩ := List.getElem?_of_mem hx
    exact (hq k x hk).1
end Go.Proofs.Ytgipooedgbbliaa
