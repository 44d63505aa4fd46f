/-
  DetectNone proved: for every input the law returns true, and each argument reads as it did. Conditions: none.
-/
import Derived.Test.YthmclmbeflbhhaaGreatDetectNoneP6
namespace Go.Proofs.YthmclmbeflbhhaaGreat
set_option maxRecDepth 100000
set_option maxHeartbeats 4000000
open Go Go.RowKit Go.Own Go.Shelf
theorem vd_guard : Tryz.prog.eqGuardType Tryz.prog.depth 57 = false := by kernel_rfl
def PlV : Array (Nat × Nat) := #[(0, 1), (1, 36), (37, 35), (72, 1)]
section
variable {k f : Int} {a b : List Value} (la : a.length = 36) (lb : b.length = 35)
include la lb
theorem vdC_segf (x : Int) : seg (vdC k a b f) 72 [.int .i64 x] = vdC k a b x := by
  unfold vdC seg
  simp only [List.length_singleton]
  have h1 : (Value.int .i64 k :: (a ++ (b ++ [Value.int .i64 f]))).take 72 = .int .i64 k :: (a ++ b) := by
    rw [show (72 : Nat) = 71 + 1 from rfl, List.take_succ_cons, ← List.append_assoc, List.take_left' (by simp; omega)]
  have h2 : (Value.int .i64 k :: (a ++ (b ++ [Value.int .i64 f]))).drop (72 + 1) = [] := List.drop_of_length_le (by simp; omega)
  rw [h1, h2]; simp
end
theorem vdC_segk (k x f : Int) (a b : List Value) : seg (vdC k a b f) 0 [.int .i64 x] = vdC x a b f := by
  unfold vdC seg; simp
theorem fill_vda (k f : Int) (a : Att) (ha : a.r.length = 32) : Instr.fill (PlV[·]?) (vdC 0 attZ proZ 0) [(0, .int .i64 k), (1, .agg a.c), (3, .int .i64 f)] = some (Vd.c ⟨k, a, zPro, f⟩) := by
  refine fill_seg (ds := vdC k attZ proZ 0) rfl rfl (by rw [vdC_size attZ_len proZ_len]; decide) (vdC_segk _ _ _ _ _) <| fill_seg (ds := vdC k a.cl proZ 0) (off := 1) (n := 36) rfl (Att.c_size a ha) (by rw [vdC_size attZ_len proZ_len]; decide) (vdC_seta attZ_len proZ_len (Att.tl ha)) ?_
  exact fill_seg (ds := vdC k a.cl proZ f) (off := 72) (n := 1) rfl rfl (by rw [vdC_size (Att.tl ha) proZ_len]; decide) (vdC_segf (Att.tl ha) proZ_len f) rfl
/-- The params of the laws: an epoch's length, a window. -/
def ofP (e W : Int) : Par := ⟨100, 100, e, W, 7, 8, 20, 50000000, 3, 50, 100000000⟩
section
variable {B : Nat} {w w' w'' : World}
def Six (U : TypeId) : Prop := U = 79 ∨ U = 161 ∨ U = 184 ∨ U = 185 ∨ U = 192 ∨ U = 168
theorem Turns.trans (s : Turns B w w') (t : Turns B w' w'') : Turns B w w'' := by
  obtain ⟨M, m, k⟩ := s
  obtain ⟨M2, m2, k2⟩ := t
  refine ⟨fun j => M j ∨ (M2 j ∧ ∀ cs U fr, w.heap[j]? = some (.cells cs U fr) → Six U), ⟨fun i hi hm => ?_, fun U h5 h0 h1 h2 h3 h4 j cs fr hj e => ?_⟩, ?_⟩
  · rcases hm with hm | hm
    · exact m.sub i hi hm
    · exact m2.sub i hi hm.1
  · rcases hj with hj | hj
    · exact m.odd U h5 h0 h1 h2 h3 h4 j cs fr hj e
    · rcases hj.2 cs U fr e with e | e | e | e | e | e
      · exact h5 e.symm
      · exact h0 e.symm
      · exact h1 e.symm
      · exact h2 e.symm
      · exact h3 e.symm
      · exact h4 e.symm
  · refine (k.mono fun _ _ h => .inl h).then k2 fun i hi hm => ?_
    by_cases hM : M i
    · exact .inl hM
    · refine .inr ⟨hm, fun cs U fr e => ?_⟩
      have e' := (k.block i hi hM).trans e
      by_cases h5 : 79 = U
      · exact .inl h5.symm
      by_cases h0 : 161 = U
      · exact .inr (.inl h0.symm)
      by_cases h1 : 184 = U
      · exact .inr (.inr (.inl h1.symm))
      by_cases h2 : 185 = U
      · exact .inr (.inr (.inr (.inl h2.symm)))
      by_cases h3 : 192 = U
      · exact .inr (.inr (.inr (.inr (.inl h3.symm))))
      by_cases h4 : 168 = U
      · exact .inr (.inr (.inr (.inr (.inr h4.symm))))
      · exact absurd e' (m2.odd U h5 h0 h1 h2 h3 h4 i cs fr hm)
theorem Turns.nn (s : Turns B w w') (k : Keeps Nob w' w'') : Turns B w w'' := let ⟨M, m, k1⟩ := s; ⟨M, m, k1.nn k⟩
theorem Turns.no (s : Turns B w w') {g : Nat} (k : Keeps (One g) w' w'') (hg : w.heap.size ≤ g) : Turns B w w'' := let ⟨M, m, k1⟩ := s; ⟨M, m, k1.no k hg⟩
theorem Turns.refl (B : Nat) (w : World) : Turns B w w := Turns.nob (Keeps.refl _ _)
theorem Turns.above (t : Turns B w w') : Keeps (fun j => B ≤ j) w w' := let ⟨_, m, k⟩ := t; k.mono fun i _ hm => Nat.le_of_not_lt fun h => m.sub i h hm
theorem Det1.is_attest {d : Nat} {p : Par} {h : Int} {A A' : List Att} {Q : List Pro} {a : Att} {y : Vd} {e0 : Int} (s : Det1 B w d p h A Q) (hB : B ≤ w.heap.size) (ha : a.Ok) (hE : attErr p h a = e0) (hV : attVd p h A a = y) (hN : attNew p h A a = A') : Calls Tryz.prog 24 #[.pointer (some ⟨d, 0, none⟩), .agg (Att.c a)] w fun e w' => e = .returned (.tuple #[.agg (Vd.c y), .int .i64 e0]) ∧ Det1 B w' d p h A' Q ∧ Turns B w w' := by
  subst hE; subst hV; subst hN; exact s.attest hB ha
theorem Det1.is_propose {d : Nat} {p : Par} {h : Int} {A : List Att} {Q Q' : List Pro} {q : Pro} {y : Vd} {e0 : Int} (s : Det1 B w d p h A Q) (hB : B ≤ w.heap.size) (hq : q.Ok) (hE : proErr p h q = e0) (hV : proVd p h Q q = y) (hN : proNew p h Q q = Q') : Calls Tryz.prog 25 #[.pointer (some ⟨d, 0, none⟩), .agg (Pro.c q)] w fun e w' => e = .returned (.tuple #[.agg (Vd.c y), .int .i64 e0]) ∧ Det1 B w' d p h A Q' ∧ Turns B w w' := by
  subst hE; subst hV; subst hN; exact s.propose hB hq
theorem Det1.is_move {d : Nat} {p : Par} {h h' x e0 : Int} {A : List Att} {Q : List Pro} (s : Det1 B w d p h A Q) (hB : B ≤ w.heap.size) (hE : movErr h x = e0) (hH : movH h x = h') : Calls Tryz.prog 17 #[.pointer (some ⟨d, 0, none⟩), .int .i64 x] w fun e w' => e = .returned (.int .i64 e0) ∧ Det1 B w' d p h' A Q ∧ Turns B w w' := by
  subst hE; subst hH; exact s.move hB x
end
end Go.Proofs.YthmclmbeflbhhaaGreat
namespace Go.Proofs.YthmclmbeflbhhaaGreat
set_option maxRecDepth 100000
set_option maxHeartbeats 4000000
open Go Go.RowKit Go.Own Go.ChangeShapes Go.WideShapes Go.ChangeAt Go.WideElems
theorem hash_cells {H : Type} {enc : TypeId × Value → H} {W : World} {sp : Nat → Bool} {held : Bool} {n off : Nat} {cs : List Value} {y : Option (DataW H × List MemPlace)} {z : DataW H × List MemPlace} (h : DataW.trod enc Tryz.prog W 0 sp held n 25 ((cs.drop off).take (Tryz.prog.cellsOf 25)) = y) (hy : y = some z) :
    ∃ l : List UInt8, l.length = 32 ∧ (cs.drop off).take 32 = B l := by
  subst hy
  have hh : Tryz.prog.cellsOf 25 = 32 := by kernel_rfl
  rw [hh] at h
  generalize (cs.drop off).take 32 = c at *
  obtain ⟨xs, m, _, _, hc, hxl, hel⟩ := DataW.trod_array Tryz.underlying25 h
  have hC : Tryz.prog.cellsOf 5 = 1 := by kernel_rfl
  rw [hC] at hel
  obtain ⟨l, hl, hq⟩ := list_of (fun i (x : UInt8) => c[i]? = some (.int .u8 (x.toNat : Int))) 32 (fun i hlt => by
    have h1 := hel i hlt
    rw [List.getElem?_eq_getElem (show i < xs.length by omega)] at h1
    obtain ⟨q, e1, _, e3⟩ := DataW.trod_int Tryz.underlying5 h1
    obtain ⟨x, rfl⟩ := u8_nat e3
    refine ⟨x, ?_⟩
    have h2 : ((c.drop (i * 1)).take 1)[0]? = some (.int .u8 (x.toNat : Int)) := by rw [e1]; rfl
    rw [List.getElem?_take_of_lt (by omega), List.getElem?_drop] at h2
    simpa using h2)
  refine ⟨l, hl, List.ext_getElem? fun i => ?_⟩
  by_cases hi : i < 32
  · obtain ⟨x, hx⟩ : ∃ x, l[i]? = some x := ⟨_, List.getElem?_eq_getElem (by omega)⟩
    rw [hq i x hx, B_get _ _ _ hx]
  · have h32 : c.length = 32 := by rw [hc, hh]
    rw [List.getElem?_eq_none (by omega), List.getElem?_eq_none (by rw [B_length]; omega)]
theorem att_cells {H : Type} {enc : TypeId × Value → H} {W : World} {sp : Nat → Bool} {held : Bool} {n : Nat} {cs : List Value} {z : DataW H × List MemPlace} (h : DataW.trod enc Tryz.prog W 0 sp held n 28 cs = some z) (hl : cs.length = 36) : ∃ a : Att, cs = a.c.toList ∧ a.Ok := by
  have hi : Tryz.prog.cellsOf 3 = 1 := by kernel_rfl
  have hu : Tryz.prog.cellsOf 26 = 1 := by kernel_rfl
  obtain ⟨xs, n', _, _, _, hxl, hf⟩ := DataW.trod_struct Tryz.underlying28 h
  obtain ⟨q0, e0, f0⟩ := field_int Tryz.underlying3 hi (hf 0 _ rfl) (List.getElem?_eq_getElem (by rw [hxl]; decide))
  obtain ⟨q1, e1, f1⟩ := field_int Tryz.underlying3 hi (hf 1 _ rfl) (List.getElem?_eq_getElem (by rw [hxl]; decide))
  obtain ⟨q2, e2, f2⟩ := field_int Tryz.underlying3 hi (hf 2 _ rfl) (List.getElem?_eq_getElem (by rw [hxl]; decide))
  obtain ⟨r, hr, er⟩ := hash_cells (off := 3) (hf 3 _ rfl) (List.getElem?_eq_getElem (by rw [hxl]; decide))
  obtain ⟨q4, e4, f4⟩ := field_int Tryz.underlying26 hu (hf 4 _ rfl) (List.getElem?_eq_getElem (by rw [hxl]; decide))
  obtain ⟨g, hg, rfl⟩ := u64_nat f4
  refine ⟨⟨q0, q1, q2, r, g⟩, ?_, ⟨bounds_i64 f0, bounds_i64 f1, bounds_i64 f2, hr, hg⟩⟩
  match cs, hl, e0, e1, e2, er, e4 with
  | a :: b :: c :: r', hl, e0, e1, e2, er, e4 =>
    have e0 : some a = some (Value.int .i64 q0) := e0
    cases e0
    have e1 : some b = some (Value.int .i64 q1) := e1
    have e2 : some c = some (Value.int .i64 q2) := e2
    cases e1; cases e2
    have e4 : r'[32]? = some (Value.int .u64 (g : Int)) := e4
    have er : r'.take 32 = B r := er
    have hl : r'.length = 33 := by simpa using hl
    simp only [Att.c, List.cons.injEq, true_and]
    rw [← er]
    conv => lhs; rw [← List.take_append_drop 32 r']
    congr 1
    rw [List.drop_eq_getElem_cons (by omega), List.drop_of_length_le (by omega)]
    rw [List.getElem?_eq_getElem (by omega)] at e4
    rw [Option.some.inj e4]
theorem pro_cells {H : Type} {enc : TypeId × Value → H} {W : World} {sp : Nat → Bool} {held : Bool} {n : Nat} {cs : List Value} {z : DataW H × List MemPlace} (h : DataW.trod enc Tryz.prog W 0 sp held n 37 cs = some z) (hl : cs.length = 35) : ∃ a : Pro, cs = a.c.toList ∧ a.Ok := by
  have hi : Tryz.prog.cellsOf 3 = 1 := by kernel_rfl
  have hu : Tryz.prog.cellsOf 26 = 1 := by kernel_rfl
  obtain ⟨xs, n', _, _, _, hxl, hf⟩ := DataW.trod_struct Tryz.underlying37 h
  obtain ⟨q0, e0, f0⟩ := field_int Tryz.underlying3 hi (hf 0 _ rfl) (List.getElem?_eq_getElem (by rw [hxl]; decide))
  obtain ⟨q1, e1, f1⟩ := field_int Tryz.underlying3 hi (hf 1 _ rfl) (List.getElem?_eq_getElem (by rw [hxl]; decide))
  obtain ⟨r, hr, er⟩ := hash_cells (off := 2) (hf 2 _ rfl) (List.getElem?_eq_getElem (by rw [hxl]; decide))
  obtain ⟨q4, e4, f4⟩ := field_int Tryz.underlying26 hu (hf 3 _ rfl) (List.getElem?_eq_getElem (by rw [hxl]; decide))
  obtain ⟨g, hg, rfl⟩ := u64_nat f4
  refine ⟨⟨q0, q1, r, g⟩, ?_, ⟨bounds_i64 f0, bounds_i64 f1, hr, hg⟩⟩
  match cs, hl, e0, e1, er, e4 with
  | a :: b :: r', hl, e0, e1, er, e4 =>
    have e0 : some a = some (Value.int .i64 q0) := e0
    cases e0
    have e1 : some b = some (Value.int .i64 q1) := e1
    cases e1
    have e4 : r'[32]? = some (Value.int .u64 (g : Int)) := e4
    have er : r'.take 32 = B r := er
    have hl : r'.length = 33 := by simpa using hl
    simp only [Pro.c, List.cons.injEq, true_and]
    rw [← er]
    conv => lhs; rw [← List.take_append_drop 32 r']
    congr 1
    rw [List.drop_eq_getElem_cons (by omega), List.drop_of_length_le (by omega)]
    rw [List.getElem?_eq_getElem (by omega)] at e4
    rw [Option.some.inj e4]
end Go.Proofs.YthmclmbeflbhhaaGreat
namespace Go.Proofs.YthmclmbeflbhhaaGreat
set_option maxRecDepth 100000
set_option maxHeartbeats 4000000
open Go Go.RowKit Go.Own Go.Shelf Go.ChangeShapes Go.WideShapes Go.ChangeAt Go.WideElems
/-- What an act is: a kind, a vote, a proposal, a height. -/
structure DAct where
  (k : Int) (a : Att) (q : Pro) (h : Int)
structure DAct.Ok (x : DAct) : Prop where
  k : i64b x.k
  a : x.a.Ok
  q : x.q.Ok
  h : i64b x.h
def DAct.cl (x : DAct) : List Value := .int .i64 x.k :: (x.a.cl ++ (x.q.cl ++ [.int .i64 x.h]))
def DAct.c (x : DAct) : Array Value := x.cl.toArray
section
variable {x : DAct}
theorem DAct.c_size (h : x.Ok) : x.c.size = 73 := vdC_size (Att.cl_len h.a) (Pro.cl_len h.q)
theorem DAct.cl_len (h : x.Ok) : x.cl.length = 73 := by have := DAct.c_size h; simpa [DAct.c] using this
theorem DAct.c_one : x.c.all (·.oneCell') = true := by
  have h1 := Att.c_one x.a
  have h2 := Pro.c_one x.q
  rw [← Array.all_toList] at h1 h2
  unfold DAct.c DAct.cl
  rw [List.all_toArray, List.all_cons, List.all_append, List.all_append, show x.a.cl.all (·.oneCell') = true from h1, show x.q.cl.all (·.oneCell') = true from h2]; rfl
theorem DAct.c_0 : x.c[0]? = some (.int .i64 x.k) := rfl
theorem DAct.c_h (h : x.Ok) : x.c[72]? = some (.int .i64 x.h) := vdC_first (Att.cl_len h.a) (Pro.cl_len h.q)
theorem DAct.c_a {j : Nat} {u : Value} (h : x.a.cl[j]? = some u) : x.c[1 + j]? = some u := by
  unfold DAct.c DAct.cl
  rw [List.getElem?_toArray, Nat.add_comm, List.getElem?_cons_succ, List.getElem?_append_left (List.getElem?_eq_some_iff.1 h).1]; exact h
theorem DAct.c_q (hx : x.Ok) {j : Nat} {u : Value} (h : x.q.cl[j]? = some u) : x.c[37 + j]? = some u := by
  have hl := Att.cl_len hx.a
  unfold DAct.c DAct.cl
  rw [List.getElem?_toArray, show 37 + j = (36 + j) + 1 by omega, List.getElem?_cons_succ, List.getElem?_append_right (by omega), hl, Nat.add_sub_cancel_left, List.getElem?_append_left (List.getElem?_eq_some_iff.1 h).1]; exact h
end
theorem dact_cells {H : Type} {enc : TypeId × Value → H} {W : World} {sp : Nat → Bool} {held : Bool} {n : Nat} {cs : List Value} {z : DataW H × List MemPlace} (h : DataW.trod enc Tryz.prog W 0 sp held n 54 cs = some z) (hl : cs.length = 73) : ∃ x : DAct, cs = x.cl ∧ x.Ok := by
  have hi : Tryz.prog.cellsOf 3 = 1 := by kernel_rfl
  have hA : Tryz.prog.cellsOf 28 = 36 := by kernel_rfl
  have hP : Tryz.prog.cellsOf 37 = 35 := by kernel_rfl
  obtain ⟨xs, n', _, _, _, hxl, hf⟩ := DataW.trod_struct Tryz.underlying54 h
  obtain ⟨q0, e0, f0⟩ := field_int Tryz.underlying3 hi (hf 0 _ rfl) (List.getElem?_eq_getElem (by rw [hxl]; decide))
  obtain ⟨q3, e3, f3⟩ := field_int Tryz.underlying3 hi (hf 3 _ rfl) (List.getElem?_eq_getElem (by rw [hxl]; decide))
  have l1 : 1 < xs.length := by rw [hxl]; decide
  have l2 : 2 < xs.length := by rw [hxl]; decide
  have h1 := (hf 1 _ rfl).trans (List.getElem?_eq_getElem l1)
  have h2 := (hf 2 _ rfl).trans (List.getElem?_eq_getElem l2)
  have h1' : DataW.trod enc Tryz.prog W 0 sp held n' 28 ((cs.drop 1).take 36) = some xs[1] := by have hh := h1; change DataW.trod enc Tryz.prog W 0 sp held n' 28 ((cs.drop 1).take (Tryz.prog.cellsOf 28)) = some xs[1] at hh; rw [hA] at hh; exact hh
  have h2' : DataW.trod enc Tryz.prog W 0 sp held n' 37 ((cs.drop 37).take 35) = some xs[2] := by have hh := h2; change DataW.trod enc Tryz.prog W 0 sp held n' 37 ((cs.drop 37).take (Tryz.prog.cellsOf 37)) = some xs[2] at hh; rw [hP] at hh; exact hh
  obtain ⟨a, ha, hao⟩ := att_cells h1' (by rw [List.length_take, List.length_drop, hl]; rfl)
  obtain ⟨q, hq, hqo⟩ := pro_cells h2' (by rw [List.length_take, List.length_drop, hl]; rfl)
  refine ⟨⟨q0, a, q, q3⟩, ?_, ⟨bounds_i64 f0, hao, hqo, bounds_i64 f3⟩⟩
  match cs, hl, e0, e3, ha, hq with
  | c0 :: r', hl, e0, e3, ha, hq =>
    have e0 : some c0 = some (Value.int .i64 q0) := e0
    cases e0
    have ha : r'.take 36 = a.cl := ha
    have hq : (r'.drop 36).take 35 = q.cl := hq
    have hl : r'.length = 72 := by simpa using hl
    have e3 : r'[71]? = some (Value.int .i64 q3) := e3
    have e4 : (r'.drop 36).drop 35 = [Value.int .i64 q3] := by
      rw [List.drop_drop]
      apply List.ext_getElem?
      intro i
      rw [List.getElem?_drop]
      cases i with
      | zero => exact e3
      | succ i => rw [List.getElem?_eq_none (by omega), List.getElem?_eq_none (by simp)]
    simp only [DAct.cl, List.cons.injEq, true_and]
    rw [← ha, ← hq, ← e4, List.take_append_drop, List.take_append_drop]
theorem open_dact {H : Type} {enc : TypeId × Value → H} {W : World} {sp : Nat → Bool} {held : Bool} {v : Value} {d : DataW H} {ps : List MemPlace} {R : Reach} {base : Nat} (h : DataW.Trod enc Tryz.prog W 0 sp held 54 v d ps) (hv : Value.okWide Tryz.prog W R base 54 v) : ∃ x : DAct, v = .agg x.c ∧ x.Ok := by
  obtain ⟨cs, rfl, hsz⟩ := okWide_struct Tryz.underlying54 hv
  have hC : Tryz.prog.cellsOf 54 = 73 := by kernel_rfl
  rw [hC] at hsz
  obtain ⟨fuel, ht⟩ := h
  have ht : DataW.trod enc Tryz.prog W 0 sp held fuel 54 cs.toList = some (d, ps) := ht
  obtain ⟨x, hx, hok⟩ := dact_cells ht (by simpa using hsz)
  exact ⟨x, congrArg Value.agg (by unfold DAct.c; rw [← hx]), hok⟩
end Go.Proofs.YthmclmbeflbhhaaGreat
namespace Go.Proofs.YthmclmbeflbhhaaGreat
set_option maxRecDepth 100000
set_option maxHeartbeats 4000000
open Go Go.RowKit Go.Own Go.Shelf
def byteH (b : UInt8) : List UInt8 := b :: List.replicate 31 0
theorem byteH_len (b : UInt8) : (byteH b).length = 32 := by simp [byteH]
def v1 (s t : Int) (b : UInt8) : Att := ⟨1, s, t, byteH b, 0⟩
def b1 (h : Int) (b : UInt8) : Pro := ⟨1, h, byteH b, 0⟩
noncomputable def qc115_4 (n : Nat) : Code := partOf Tryz.f43 n
theorem kdefault_ok (w : World) :
  Calls Tryz.prog 43 #[] w (fun e w' => e = .returned (.agg zl8_) ∧ Keeps Nob w w') := by
 have K0 : Keeps Nob w w := Keeps.refl _ _
 refine sy_enter (qc115_4 1) ⟨#[ud, ud], []⟩ Tryz.func43 (by kernel_rfl) (by kernel_rfl) <| qr_ [0] <| pal 47 (zl6_) (.agg (zl6_)) fun V1 g2 eg2 h3 kV1 => ?_
 have n4 := nk eg2 K0
 have K5 := K0.nn kV1
 have z6 := kV1.size
 refine eqr_ [0, 1] <| pkq (.agg zl8_) <| pst 47 g2 (zl8_) h3 (by kernel_rfl) rfl (by kernel_rfl) fun V7 h8 kV7 => ?_
 have K9 := K5.nO kV7
 have z10 := kV7.size
 refine eu_ <| sy_out (.agg (zl8_)) rfl (results_cell_row (p := 0) (ty := 47) (by kernel_rfl) _ _ g2 47 (zl8_) (0, 0) _ (by kernel_rfl) h8 Tryz.underlying47 rfl (by kernel_rfl)) ?_
 exact ⟨rfl, K9⟩
noncomputable def qc115_6 (n : Nat) : Code := partOf Tryz.f21 n
theorem ltof_ok (el wn : Int) (w : World) :
  Calls Tryz.prog 21 #[.int .i64 el, .int .i64 wn] w (fun e w' => e = .returned (.agg (ofP el wn).cells) ∧ Keeps Nob w w') := by
 have K0 : Keeps Nob w w := Keeps.refl _ _
 refine sy_enter (qc115_6 1) ⟨fr [.int .i64 el, .int .i64 wn] 10, []⟩ Tryz.func21 (by kernel_rfl) (by kernel_rfl) <| qr_ [0] <| pal 47 (zl6_) (.agg (zl6_)) fun V1 res eres h2 kV1 => ?_
 have n3 := nk eres K0
 have K4 := K0.nn kV1
 have z5 := kV1.size
 refine eqr_ [0, 1, 2] ?_
 refine pcq 43 #[] Tryz.func43 ((kdefault_ok _).mono ?_)
 rintro e V6 ⟨rfl, kV6⟩
 refine ⟨_, rfl, ?_⟩
 have ⟨K8, z9, h7⟩ := kV6.z1 K4 h2
 refine pal 47 (zl6_) (.agg (zl6_)) fun V10 pp epp h11 kV10 => ?_
 have n12 := nl epp h7
 have n13 := nk epp K8
 have ⟨K15, z16, h14⟩ := kV10.z1 K8 h7
 refine pst 47 pp (zl8_) h11 (by kernel_rfl) rfl (by kernel_rfl) fun V17 h18 kV17 => ?_
 have ⟨K20, z21, h19⟩ := kV17.zo1 K15 h14
 refine eqr_ [0, 1, 2] <| pkq (.int .i64 el) <| pkq (pT pp 2) <| pce 3 pp 2 (.int .i64 el) (#[.int .i64 100, .int .i64 100, .int .i64 el, .int .i64 8, .int .i64 7, .int .i64 8, .int .i64 20, .int .u64 50000000, .int .u64 3, .int .i64 50, .int .u64 100000000]) h18 (rc (h18) (by kernel_rfl)) (by kernel_rfl) (u := .int .i64 10) fun V22 h23 kV22 => ?_
 have ⟨K25, z26, h24⟩ := kV22.zo1 K20 h19
 refine eqr_ [0, 1, 2] <| pkq (.int .i64 wn) <| pkq (pT pp 3) <| pce 3 pp 3 (.int .i64 wn) (#[.int .i64 100, .int .i64 100, .int .i64 el, .int .i64 wn, .int .i64 7, .int .i64 8, .int .i64 20, .int .u64 50000000, .int .u64 3, .int .i64 50, .int .u64 100000000]) h23 (rc (h23) (by kernel_rfl)) (by kernel_rfl) (u := .int .i64 8) fun V27 h28 kV27 => ?_
 have ⟨K30, z31, h29⟩ := kV27.zo1 K25 h24
 refine eqr_ [0, 1] <| ppq (.agg #[.int .i64 100, .int .i64 100, .int .i64 el, .int .i64 wn, .int .i64 7, .int .i64 8, .int .i64 20, .int .u64 50000000, .int .u64 3, .int .i64 50, .int .u64 100000000]) (ldr 47 pp (h28) (by kernel_rfl)) <| pst 47 res (#[.int .i64 100, .int .i64 100, .int .i64 el, .int .i64 wn, .int .i64 7, .int .i64 8, .int .i64 20, .int .u64 50000000, .int .u64 3, .int .i64 50, .int .u64 100000000]) h29 (by kernel_rfl) rfl (by kernel_rfl) fun V32 h33 kV32 => ?_
 have K35 := K30.nO kV32
 have z36 := kV32.size
 refine eu_ <| sy_out (.agg (#[.int .i64 100, .int .i64 100, .int .i64 el, .int .i64 wn, .int .i64 7, .int .i64 8, .int .i64 20, .int .u64 50000000, .int .u64 3, .int .i64 50, .int .u64 100000000])) rfl (results_cell_row (p := 4) (ty := 47) (by kernel_rfl) _ _ res 47 (#[.int .i64 100, .int .i64 100, .int .i64 el, .int .i64 wn, .int .i64 7, .int .i64 8, .int .i64 20, .int .u64 50000000, .int .u64 3, .int .i64 50, .int .u64 100000000]) (0, 0) _ (by kernel_rfl) h33 Tryz.underlying47 rfl (by kernel_rfl)) ?_
 exact ⟨by kernel_rfl, K35⟩
noncomputable def qc115_5 (n : Nat) : Code := partOf Tryz.f9 n
theorem ltvote1_ok (s t : Int) (b : UInt8) (n : Int) (hn : n = ((b.toNat : Nat) : Int)) (w : World) :
  Calls Tryz.prog 9 #[.int .i64 s, .int .i64 t, .int .u8 n] w (fun e w' => e = .returned (.agg (Att.c (v1 s t b))) ∧ Keeps Nob w w') := by
 have K0 : Keeps Nob w w := Keeps.refl _ _
 refine sy_enter (qc115_5 1) ⟨fr [.int .i64 s, .int .i64 t, .int .u8 n] 9, []⟩ Tryz.func9 (by kernel_rfl) (by kernel_rfl) <| qr_ [0] <| pal 28 (zl1_) (.agg (zl1_)) fun V1 g2 eg2 h3 kV1 => ?_
 have n4 := nk eg2 K0
 have K5 := K0.nn kV1
 have z6 := kV1.size
 refine eqr_ [0, 1, 2, 3, 4, 5] <| pkq (.int .i64 s) <| pkq (.int .i64 t) <| pkq (.int .u8 n) <| pkq (.agg (zl9_ (.int .u8 n))) <| pkq (.agg #[.int .i64 1, .int .i64 s, .int .i64 t, .int .u8 n, .int .u8 0, .int .u8 0, .int .u8 0, .int .u8 0, .int .u8 0, .int .u8 0, .int .u8 0, .int .u8 0, .int .u8 0, .int .u8 0, .int .u8 0, .int .u8 0, .int .u8 0, .int .u8 0, .int .u8 0, .int .u8 0, .int .u8 0, .int .u8 0, .int .u8 0, .int .u8 0, .int .u8 0, .int .u8 0, .int .u8 0, .int .u8 0, .int .u8 0, .int .u8 0, .int .u8 0, .int .u8 0, .int .u8 0, .int .u8 0, .int .u8 0, .int .u64 0]) <| psk 28 g2 (#[.int .i64 1, .int .i64 s, .int .i64 t, .int .u8 n, .int .u8 0, .int .u8 0, .int .u8 0, .int .u8 0, .int .u8 0, .int .u8 0, .int .u8 0, .int .u8 0, .int .u8 0, .int .u8 0, .int .u8 0, .int .u8 0, .int .u8 0, .int .u8 0, .int .u8 0, .int .u8 0, .int .u8 0, .int .u8 0, .int .u8 0, .int .u8 0, .int .u8 0, .int .u8 0, .int .u8 0, .int .u8 0, .int .u8 0, .int .u8 0, .int .u8 0, .int .u8 0, .int .u8 0, .int .u8 0, .int .u8 0, .int .u64 0]) h3 fun V7 h8 kV7 => ?_
 have K9 := K5.nO kV7
 have z10 := kV7.size
 refine eu_ <| sy_out (.agg (#[.int .i64 1, .int .i64 s, .int .i64 t, .int .u8 n, .int .u8 0, .int .u8 0, .int .u8 0, .int .u8 0, .int .u8 0, .int .u8 0, .int .u8 0, .int .u8 0, .int .u8 0, .int .u8 0, .int .u8 0, .int .u8 0, .int .u8 0, .int .u8 0, .int .u8 0, .int .u8 0, .int .u8 0, .int .u8 0, .int .u8 0, .int .u8 0, .int .u8 0, .int .u8 0, .int .u8 0, .int .u8 0, .int .u8 0, .int .u8 0, .int .u8 0, .int .u8 0, .int .u8 0, .int .u8 0, .int .u8 0, .int .u64 0])) rfl (results_cell_row (p := 6) (ty := 28) (by kernel_rfl) _ _ g2 28 (#[.int .i64 1, .int .i64 s, .int .i64 t, .int .u8 n, .int .u8 0, .int .u8 0, .int .u8 0, .int .u8 0, .int .u8 0, .int .u8 0, .int .u8 0, .int .u8 0, .int .u8 0, .int .u8 0, .int .u8 0, .int .u8 0, .int .u8 0, .int .u8 0, .int .u8 0, .int .u8 0, .int .u8 0, .int .u8 0, .int .u8 0, .int .u8 0, .int .u8 0, .int .u8 0, .int .u8 0, .int .u8 0, .int .u8 0, .int .u8 0, .int .u8 0, .int .u8 0, .int .u8 0, .int .u8 0, .int .u8 0, .int .u64 0]) (0, 0) _ (by kernel_rfl) h8 Tryz.underlying28 rfl (by kernel_rfl)) ?_
 exact ⟨by subst hn; kernel_rfl, K9⟩
noncomputable def qc115_3 (n : Nat) : Code := partOf Tryz.f14 n
theorem ltblock1_ok (h : Int) (b : UInt8) (n : Int) (hn : n = ((b.toNat : Nat) : Int)) (w : World) :
  Calls Tryz.prog 14 #[.int .i64 h, .int .u8 n] w (fun e w' => e = .returned (.agg (Pro.c (b1 h b))) ∧ Keeps Nob w w') := by
 have K0 : Keeps Nob w w := Keeps.refl _ _
 refine sy_enter (qc115_3 1) ⟨fr [.int .i64 h, .int .u8 n] 7, []⟩ Tryz.func14 (by kernel_rfl) (by kernel_rfl) <| qr_ [0] <| pal 37 (zl3_) (.agg (zl3_)) fun V1 g2 eg2 h3 kV1 => ?_
 have n4 := nk eg2 K0
 have K5 := K0.nn kV1
 have z6 := kV1.size
 refine eqr_ [0, 1, 2, 3, 4] <| pkq (.int .i64 h) <| pkq (.int .u8 n) <| pkq (.agg (zl9_ (.int .u8 n))) <| pkq (.agg #[.int .i64 1, .int .i64 h, .int .u8 n, .int .u8 0, .int .u8 0, .int .u8 0, .int .u8 0, .int .u8 0, .int .u8 0, .int .u8 0, .int .u8 0, .int .u8 0, .int .u8 0, .int .u8 0, .int .u8 0, .int .u8 0, .int .u8 0, .int .u8 0, .int .u8 0, .int .u8 0, .int .u8 0, .int .u8 0, .int .u8 0, .int .u8 0, .int .u8 0, .int .u8 0, .int .u8 0, .int .u8 0, .int .u8 0, .int .u8 0, .int .u8 0, .int .u8 0, .int .u8 0, .int .u8 0, .int .u64 0]) <| psk 37 g2 (#[.int .i64 1, .int .i64 h, .int .u8 n, .int .u8 0, .int .u8 0, .int .u8 0, .int .u8 0, .int .u8 0, .int .u8 0, .int .u8 0, .int .u8 0, .int .u8 0, .int .u8 0, .int .u8 0, .int .u8 0, .int .u8 0, .int .u8 0, .int .u8 0, .int .u8 0, .int .u8 0, .int .u8 0, .int .u8 0, .int .u8 0, .int .u8 0, .int .u8 0, .int .u8 0, .int .u8 0, .int .u8 0, .int .u8 0, .int .u8 0, .int .u8 0, .int .u8 0, .int .u8 0, .int .u8 0, .int .u64 0]) h3 fun V7 h8 kV7 => ?_
 have K9 := K5.nO kV7
 have z10 := kV7.size
 refine eu_ <| sy_out (.agg (#[.int .i64 1, .int .i64 h, .int .u8 n, .int .u8 0, .int .u8 0, .int .u8 0, .int .u8 0, .int .u8 0, .int .u8 0, .int .u8 0, .int .u8 0, .int .u8 0, .int .u8 0, .int .u8 0, .int .u8 0, .int .u8 0, .int .u8 0, .int .u8 0, .int .u8 0, .int .u8 0, .int .u8 0, .int .u8 0, .int .u8 0, .int .u8 0, .int .u8 0, .int .u8 0, .int .u8 0, .int .u8 0, .int .u8 0, .int .u8 0, .int .u8 0, .int .u8 0, .int .u8 0, .int .u8 0, .int .u64 0])) rfl (results_cell_row (p := 4) (ty := 37) (by kernel_rfl) _ _ g2 37 (#[.int .i64 1, .int .i64 h, .int .u8 n, .int .u8 0, .int .u8 0, .int .u8 0, .int .u8 0, .int .u8 0, .int .u8 0, .int .u8 0, .int .u8 0, .int .u8 0, .int .u8 0, .int .u8 0, .int .u8 0, .int .u8 0, .int .u8 0, .int .u8 0, .int .u8 0, .int .u8 0, .int .u8 0, .int .u8 0, .int .u8 0, .int .u8 0, .int .u8 0, .int .u8 0, .int .u8 0, .int .u8 0, .int .u8 0, .int .u8 0, .int .u8 0, .int .u8 0, .int .u8 0, .int .u8 0, .int .u64 0]) (0, 0) _ (by kernel_rfl) h8 Tryz.underlying37 rfl (by kernel_rfl)) ?_
 exact ⟨by subst hn; kernel_rfl, K9⟩
noncomputable def qc115_2 (n : Nat) : Code := partOf Tryz.f28 n
theorem ltattests_ok (B d : Nat) (p : Par) (h : Int) (A : List Att) (Q : List Pro) (w : World) (hB : B ≤ w.heap.size) (D0 : Det1 B w d p h A Q) (a : Att) (ha : a.Ok) (hr_a : a.r.length = 32) (k f : Int) (x : Att) (hr_x : x.r.length = 32) (hE : attErr p h a = 0) (y : Vd) (hyo : VdOk y) (hy : attVd p h A a = y) (hyv : y = ⟨k, x, zPro, f⟩) (A' : List Att) (hN : attNew p h A a = A') :
  Calls Tryz.prog 28 #[pT d 0, .agg (Att.c a), .int .i64 k, .agg (Att.c x), .int .i64 f] w (fun e w' => e = .returned (.bool true) ∧ Det1 B w' d p h A' Q ∧ Turns B w w') := by
 have t0 := Turns.refl B w
 have K0 : Keeps ((fun j => B ≤ j)) w w := Keeps.refl _ _
 refine sy_enter (qc115_2 1) ⟨fr [pT d 0, .agg (Att.c a), .int .i64 k, .agg (Att.c x), .int .i64 f] 24, []⟩ Tryz.func28 (by kernel_rfl) (by kernel_rfl) <| qr_ [0, 1, 2] <| pbx 28 ((Att.c a)) (.agg (Att.c a)) fun V1 ga ega h2 kV1 => ?_
 have n3 := nk ega K0
 have kb4 : Keeps Nob w V1 := (Keeps.refl Nob w).nn kV1
 have h5 : Turns B w V1 := Turns.nn t0 kV1
 have K6 := K0.nn kV1
 have z7 := kV1.size
 refine pbx 28 ((Att.c x)) (.agg (Att.c x)) fun V8 gw egw h9 kV8 => ?_
 have n10 := nl egw h2
 have n11 := nk egw K6
 have kb12 : Keeps Nob w V8 := kb4.nn kV8
 have h13 : Turns B w V8 := Turns.nn h5 kV8
 have ⟨K15, z16, h14⟩ := kV8.z1 K6 h2
 refine pkq (.bool false) <| eqr_ [0, 1, 2, 3, 4, 5, 6, 7, 8] <| pkq (pT d 0) <| ppq (.agg (Att.c a)) (ldr 28 ga (h14) (by rw [Att.c_size _ hr_a]; kernel_rfl)) ?_
 refine pcq 24 #[pT d 0, .agg (Att.c a)] Tryz.func24 ((Det1.is_attest (D0.keepsN kb12) (Nat.le_trans hB K15.size) ha hE hy hN).mono ?_)
 rintro e V17 ⟨rfl, hDV17, MV17, hMV17, kV17⟩
 refine ⟨_, rfl, ?_⟩
 have h18 : Turns B w V17 := Turns.trans h13 ⟨MV17, hMV17, kV17⟩
 have h19 : V17.heap[ga]? = some (.cells (Att.c a) 28 (0, 0)) := (kV17.block ga (lt_of_block h14) (fun e => hMV17.no h14 e)).trans h14
 have h20 : V17.heap[gw]? = some (.cells (Att.c x) 28 (0, 0)) := (kV17.block gw (lt_of_block h9) (fun e => hMV17.no h9 e)).trans h9
 have K21 : Keeps ((fun j => B ≤ j)) w V17 := K15.then kV17 (fun i hi hm => Nat.le_of_not_lt (fun h => hMV17.sub i h hm))
 have z22 := kV17.size
 refine pkq (.tuple #[.agg (Vd.c y), .int .i64 0]) <| pkq (.agg (Vd.c y)) <| pkq (.int .i64 0) <| pal 57 (vdC 0 attZ proZ 0) (.agg (vdC 0 attZ proZ 0)) fun V23 gv egv h24 kV23 => ?_
 have n25 := nl egv h19
 have n26 := nl egv h20
 have n27 := nk egv K21
 have h28 : Turns B w V23 := Turns.nn h18 kV23
 have h30 := kV23.bk h20
 have kb31 : Keeps Nob V17 V23 := (Keeps.refl Nob V17).nn kV23
 have K32 := K21.nn kV23
 have z33 := kV23.size
 refine pst 57 gv (Vd.c y) h24 (by rw [Vd.c_size hyo]; kernel_rfl) (vd_sizes (Vd.c_size hyo) (by kernel_rfl)) Vd.c_one fun V34 h35 kV34 => ?_
 have h36 : Turns B w V34 := Turns.no h28 kV34 (by omega)
 have h38 := kV34.bO h30
 have kb39 : Keeps Nob V17 V34 := kb31.nO kV34
 have K40 := K32.nO kV34
 have z41 := kV34.size
 refine pkq (.int .i64 0) <| eqr_ [0, 1, 2, 3, 4, 5, 6, 7, 8, 9, 10] <| pkq (.int .i64 0) <| pkq (.bool true) <| pkq (.bool true) <| ppq (.agg (Vd.c y)) (ldr 57 gv (h35) (by rw [Vd.c_size hyo]; kernel_rfl)) <| pkq (.int .i64 k) <| ppq (.agg (Att.c x)) (ldr 28 gw (h38) (by rw [Att.c_size _ hr_x]; kernel_rfl)) <| pkq (.int .i64 f) <| ppq (.agg (Vd.c (⟨k, x, zPro, f⟩))) (exec_build_fill 57 #[(0, .tmp 23), (1, .tmp 24), (3, .tmp 25)] (by kernel_rfl) [(0, .int .i64 k), (1, .agg (Att.c x)), (3, .int .i64 f)] (by kernel_rfl) _ Tryz.underlying57 (.agg (vdC 0 attZ proZ 0)) (fun _ => by kernel_rfl) PlV (fun _ => by kernel_rfl) _ (fill_vda k f x hr_x)) <| ppq (.bool true) (exec_cast (congrArg Value.bool (decide_eq_true (show (y : Vd) = ⟨k, x, zPro, f⟩ from hyv))) (exec_binop .eql 57 57 (.tmp 22) (.tmp 26) (by kernel_rfl) (.agg (Vd.c y)) (.agg (Vd.c (⟨k, x, zPro, f⟩))) _ (by kernel_rfl) (by kernel_rfl) (run_eqGuard_agg _ _ _ _ _ _ _ vd_guard) (vd_eq _ _ hyo ⟨hr_x, zPro_r⟩ _))) <| pkq (.bool true) <| pkq (.bool true) <| eu_ ?_
 refine so_ (.bool true) ?_
 exact ⟨rfl, (hDV17.keepsN kb39), h36⟩
noncomputable def qc115_0 (n : Nat) : Code := partOf Tryz.f13 n
theorem ltproposes_ok (B d : Nat) (p : Par) (h : Int) (A : List Att) (Q : List Pro) (w : World) (hB : B ≤ w.heap.size) (D0 : Det1 B w d p h A Q) (q : Pro) (hq : q.Ok) (hr_q : q.r.length = 32) (k f e0 : Int) (hE : proErr p h q = e0) (y : Vd) (hyo : VdOk y) (hy : proVd p h Q q = y) (hk : y.k = k) (hf : y.f = f) (Q' : List Pro) (hN : proNew p h Q q = Q') :
  Calls Tryz.prog 13 #[pT d 0, .agg (Pro.c q), .int .i64 k, .int .i64 f, .int .i64 e0] w (fun e w' => e = .returned (.bool true) ∧ Det1 B w' d p h A Q' ∧ Turns B w w') := by
 have t0 := Turns.refl B w
 have K0 : Keeps ((fun j => B ≤ j)) w w := Keeps.refl _ _
 refine sy_enter (qc115_0 1) ⟨fr [pT d 0, .agg (Pro.c q), .int .i64 k, .int .i64 f, .int .i64 e0] 29, []⟩ Tryz.func13 (by kernel_rfl) (by kernel_rfl) <| qr_ [0, 1] <| pbx 37 ((Pro.c q)) (.agg (Pro.c q)) fun V1 gq egq h2 kV1 => ?_
 have n3 := nk egq K0
 have kb4 : Keeps Nob w V1 := (Keeps.refl Nob w).nn kV1
 have h5 : Turns B w V1 := Turns.nn t0 kV1
 have K6 := K0.nn kV1
 have z7 := kV1.size
 refine pkq (.bool false) <| eqr_ [0, 1, 2, 3, 4, 5, 6, 7, 8] <| pkq (pT d 0) <| ppq (.agg (Pro.c q)) (ldr 37 gq (h2) (by rw [Pro.c_size _ hr_q]; kernel_rfl)) ?_
 refine pcq 25 #[pT d 0, .agg (Pro.c q)] Tryz.func25 ((Det1.is_propose (D0.keepsN kb4) (Nat.le_trans hB K6.size) hq hE hy hN).mono ?_)
 rintro e V8 ⟨rfl, hDV8, MV8, hMV8, kV8⟩
 refine ⟨_, rfl, ?_⟩
 have h9 : Turns B w V8 := Turns.trans h5 ⟨MV8, hMV8, kV8⟩
 have h10 : V8.heap[gq]? = some (.cells (Pro.c q) 37 (0, 0)) := (kV8.block gq (lt_of_block h2) (fun e => hMV8.no h2 e)).trans h2
 have K11 : Keeps ((fun j => B ≤ j)) w V8 := K6.then kV8 (fun i hi hm => Nat.le_of_not_lt (fun h => hMV8.sub i h hm))
 have z12 := kV8.size
 refine pkq (.tuple #[.agg (Vd.c y), .int .i64 e0]) <| pkq (.agg (Vd.c y)) <| pkq (.int .i64 e0) <| pal 57 (vdC 0 attZ proZ 0) (.agg (vdC 0 attZ proZ 0)) fun V13 gv egv h14 kV13 => ?_
 have n15 := nl egv h10
 have n16 := nk egv K11
 have h17 : Turns B w V13 := Turns.nn h9 kV13
 have kb19 : Keeps Nob V8 V13 := (Keeps.refl Nob V8).nn kV13
 have K20 := K11.nn kV13
 have z21 := kV13.size
 refine pst 57 gv (Vd.c y) h14 (by rw [Vd.c_size hyo]; kernel_rfl) (vd_sizes (Vd.c_size hyo) (by kernel_rfl)) Vd.c_one fun V22 h23 kV22 => ?_
 have h24 : Turns B w V22 := Turns.no h17 kV22 (by omega)
 have kb26 : Keeps Nob V8 V22 := kb19.nO kV22
 have K27 := K20.nO kV22
 have z28 := kV22.size
 refine pkq (.int .i64 e0) <| eqr_ [0, 1, 2, 3, 4, 5, 6, 7, 8, 9, 10, 11, 12, 13, 14, 15] <| pkq (.int .i64 e0) <| pkq (.int .i64 e0) <| ppq (.bool true) (exec_cast (congrArg Value.bool (show ((((e0) : Int) == ((e0) : Int))) = true from by simp)) (by kernel_rfl)) <| pkq (.bool true) <| pkq (pT gv 0) <| ppq (.int .i64 y.k) (ldc 3 gv 0 (rc (h23) (rfl))) <| pkq (.int .i64 k) <| ppq (.bool true) (exec_cast (congrArg Value.bool (show ((((y.k) : Int) == ((k) : Int))) = true from by rw [hk]; simp)) (by kernel_rfl)) <| pkq (.bool true) <| pkq (.bool true) <| pkq (pT gv 72) <| ppq (.int .i64 y.f) (ldc 3 gv 72 (rc (h23) (vdC_first (Att.tl hyo.a) (Pro.tl hyo.b)))) ?_
 refine pkq (.int .i64 f) <| ppq (.bool true) (exec_cast (congrArg Value.bool (show ((((y.f) : Int) == ((f) : Int))) = true from by rw [hf]; simp)) (by kernel_rfl)) <| pkq (.bool true) <| pkq (.bool true) <| ps_end <| sy_a ⟨#[pT d 0, .agg (Pro.c q), .int .i64 k, .int .i64 f, .int .i64 e0, ud, pT gq 0, ud, ud, ud, .bool true, pT gv 0, .int .i64 e0, .tuple #[.agg (Vd.c y), .int .i64 e0], pT d 0, .agg (Pro.c q), .tuple #[.agg (Vd.c y), .int .i64 e0], .agg (Vd.c y), .int .i64 e0, .int .i64 e0, .int .i64 e0, .bool true, .bool true, pT gv 0, .int .i64 y.k, .int .i64 k, .bool true, .bool true, .bool true, pT gv 72, .int .i64 y.f, .int .i64 f, .bool true, .bool true], []⟩ <| then_n <| u_ <| so_ (.bool true) ?_
 exact ⟨rfl, (hDV8.keepsN kb26), h24⟩
end Go.Proofs.YthmclmbeflbhhaaGreat
namespace Go.Proofs.YthmclmbeflbhhaaGreat
set_option maxRecDepth 100000
set_option maxHeartbeats 4000000
open Go Go.RowKit Go.Own Go.Shelf
theorem lallsame_step {α : Type} [DecidableEq α] {l m : List α} (hl : l.length = m.length) {k : Nat} {x y : α} (hx : l[k]? = some x) (hy : m[k]? = some y) (h : l.take k = m.take k) : (l.take (k + 1) = m.take (k + 1)) ↔ x = y := by
 rw [List.take_add_one, List.take_add_one, hx, hy, h]
 constructor
 ·intro h2; have := List.append_cancel_left h2; simpa using this
 ·intro h2; rw [h2]
noncomputable def qc116_1 (n : Nat) : Code := partOf Tryz.f18 n
noncomputable abbrev qo116_1 (n k : Nat) : Oper := (opsAt (qc116_1 n)).getD k default
theorem ltsameVotes_len (va vb : Value) (l m : List Att) (w : World) (Ha : AttsAt w va l) (Hb : AttsAt w vb m) (oka : ∀ x ∈ l, x.Ok) (okb : ∀ x ∈ m, x.Ok) (hne : l.length ≠ m.length) :
  Calls Tryz.prog 18 #[va, vb] w (fun e w' => e = .returned (.bool (false)) ∧ Keeps Nob w w') := by
 have hll := Ha.len_le
 have hml := Hb.len_le
 have K0 : Keeps Nob w w := Keeps.refl _ _
 refine sy_enter (qc116_1 1) ⟨fr [va, vb] 29, []⟩ Tryz.func18 (by kernel_rfl) (by kernel_rfl) <| qr_ [0] <| pkq (.bool false) <| eqr_ [0, 1, 2, 3, 4, 5] <| pkq (va) <| ppq (iN l.length) (exec_len_sl (.tmp 7) 32 28 (by kernel_rfl) Tryz.underlying32 (by kernel_rfl) Ha) <| pkq (vb) <| ppq (iN m.length) (exec_len_sl (.tmp 9) 32 28 (by kernel_rfl) Tryz.underlying32 (by kernel_rfl) Hb) <| ppq (.bool false) (eqf (((l.length : Nat) : Int)) (((m.length : Nat) : Int)) (by omega)) <| pkq (.bool false) <| eq_ <| qr_ [0] <| pkq (.int .i64 0) <| et_ ?_
 refine bl_ 0 <| sy_rounds 1 (qc116_1 116) (by kernel_rfl) <| rd_step <| q_ <| qr_ [0, 1, 2, 3, 4, 5, 6] <| pkq (.bool false) <| pkq (.bool false) <| pnq <| pnq <| pnq <| pnq <| pkq (.bool false) <| en_ <| sy_exit 0 (by kernel_rfl) ?_
 refine then_e <| then_e <| blk_e <| tqr_ [0, 1] <| pkq (.bool false) <| pkq (.bool false) <| eu_ <| so_ (.bool false) ?_
 exact ⟨rfl, K0⟩
theorem lsame_cases (l m : List Att) (k : Nat) (bb : Bool) (hlen : l.length = m.length) (hk : k ≤ l.length) (hb : bb = decide (l.take k = m.take k)) :
  (bb = true ∧ k < l.length ∧ ∀ x y, l[k]? = some x → m[k]? = some y → x = y) ∨ (bb = true ∧ k < l.length ∧ ∀ x y, l[k]? = some x → m[k]? = some y → x ≠ y) ∨ (bb = true ∧ k = l.length ∧ l = m) ∨ (bb = false ∧ l ≠ m) := by
 cases bb with
 | false => exact .inr (.inr (.inr ⟨rfl, fun e => by subst e; simp at hb⟩))
 | true =>
  have ht : l.take k = m.take k := of_decide_eq_true hb.symm
  by_cases hlt : k < l.length
  ·by_cases h : l[k]? = m[k]?
   ·exact .inl ⟨rfl, hlt, fun x y hx hy => by rw [hx, hy] at h; exact Option.some.inj h⟩
   ·exact .inr (.inl ⟨rfl, hlt, fun x y hx hy e => h (by rw [hx, hy, e])⟩)
  ·have hk2 : k = l.length := by omega
   refine .inr (.inr (.inl ⟨rfl, hk2, ?_⟩))
   rwa [List.take_of_length_le (by omega), List.take_of_length_le (by omega)] at ht
theorem ltsameVotes_eq (va vb : Value) (l m : List Att) (w : World) (Ha : AttsAt w va l) (Hb : AttsAt w vb m) (oka : ∀ x ∈ l, x.Ok) (okb : ∀ x ∈ m, x.Ok) (hlen : l.length = m.length) :
  Calls Tryz.prog 18 #[va, vb] w (fun e w' => e = .returned (.bool (decide (l = m))) ∧ Keeps Nob w w') := by
 have hll := Ha.len_le
 have hml := Hb.len_le
 have K0 : Keeps Nob w w := Keeps.refl _ _
 refine sy_enter (qc116_1 1) ⟨fr [va, vb] 29, []⟩ Tryz.func18 (by kernel_rfl) (by kernel_rfl) <| qr_ [0] <| pkq (.bool false) <| eqr_ [0, 1, 2, 3, 4, 5] <| pkq (va) <| ppq (iN l.length) (exec_len_sl (.tmp 7) 32 28 (by kernel_rfl) Tryz.underlying32 (by kernel_rfl) Ha) <| pkq (vb) <| ppq (iN m.length) (exec_len_sl (.tmp 9) 32 28 (by kernel_rfl) Tryz.underlying32 (by kernel_rfl) Hb) <| ppq (.bool true) (eqt (((l.length : Nat) : Int)) (((m.length : Nat) : Int)) (by omega)) <| pkq (.bool true) <| eq_ <| qr_ [0] <| pkq (.int .i64 0) <| et_ ?_
 refine bl_ 0 ?_
 refine sy_loop (qc116_1 116) (fun a V => ∃ (k : Nat) (bb : Bool) (u12 u13 u14 u15 u16 u17 u18 u19 u20 u21 u22 u23 u24 u25 u26 u27 u28 u29 : Value), (a = ⟨#[va, vb, ud, ud, .bool false, .bool bb, iN k, va, iN l.length, vb, iN m.length, .bool true, u12, u13, u14, u15, u16, u17, u18, u19, u20, u21, u22, u23, u24, u25, u26, u27, u28, u29, ud], []⟩) ∧ (k ≤ l.length) ∧ (bb = decide (l.take k = m.take k)) ∧ (AttsAt V va l) ∧ (AttsAt V vb m) ∧ (Keeps Nob w V)) (fun a _ => l.length - (intOf (a.tmps.getD 6 undef)).toNat) (by kernel_rfl) ?_ ?_
 ·exact ⟨0, true, undef, undef, undef, undef, undef, undef, undef, undef, undef, undef, undef, undef, undef, undef, undef, undef, undef, undef, by kernel_rfl, Nat.zero_le _, rfl, Ha, Hb, K0⟩
 ·rintro a V1 ⟨k, bb, u12, u13, u14, u15, u16, u17, u18, u19, u20, u21, u22, u23, u24, u25, u26, u27, u28, u29, rfl, hk, hb, h2, h3, K4⟩
  rcases lsame_cases l m k bb hlen hk hb with ⟨rfl, hlt, hx0⟩ | ⟨rfl, hlt, hx0⟩ | ⟨rfl, heq, ht⟩ | ⟨rfl, hf⟩
  ·obtain ⟨x, hx⟩ : ∃ x, l[k]? = some x := ⟨_, List.getElem?_eq_getElem hlt⟩
   obtain ⟨y, hy⟩ : ∃ y, m[k]? = some y := ⟨_, List.getElem?_eq_getElem (by omega)⟩
   obtain ⟨b_a, o_a, c_a, hv_a, hb_a, _⟩ := (h2).at_ k _ hx
   obtain ⟨b_b, o_b, c_b, hv_b, hb_b, _⟩ := (h3).at_ k _ hy
   skip
   have hxy := hx0 x y hx hy
   refine q_ <| qr_ [0, 1, 2, 3, 4, 5, 6] <| pkq (.bool true) <| pkq (.bool true) <| pkq (iN k) <| pkq (va) <| ppq (iN l.length) (exec_len_sl (.tmp 15) 32 28 (by kernel_rfl) Tryz.underlying32 (by kernel_rfl) h2) <| ppq (.bool true) (dct ((((k : Nat) : Int)) < (((l.length : Nat) : Int))) (by omega)) <| pkq (.bool true) <| ey_ <| s_ <| tq_ <| bl_ 1 <| sy_reg ?_
   refine rg_still 5 9 (opsAt (qc116_1 932)) [qo116_1 932 0, qo116_1 932 1, qo116_1 932 2, qo116_1 932 3, qo116_1 932 4, qo116_1 932 5, qo116_1 932 6, qo116_1 932 7, qo116_1 932 8] [qo116_1 932 9] (by kernel_rfl) (by kernel_rfl) (by kernel_rfl) (by kernel_rfl) (by kernel_rfl) ?_
   obtain ⟨V6, eV6, kV6⟩ := drew_step V1
   rw [eV6]
   clear eV6
   have h7 : AttsAt V6 va l := h2.keepsN kV6
   have h8 : AttsAt V6 vb m := h3.keepsN kV6
   have K9 := K4.nn kV6
   refine skq (va) <| skq (iN k) <| spq (pT b_a (o_a + k * 36)) (exec_indexAt_slice 32 (.tmp 21) (.tmp 22) (by kernel_rfl) b_a o_a l.length c_a (Eq.trans (b := va) (by kernel_rfl) hv_a) .i64 k (by kernel_rfl) _ 36 Tryz.underlying32 (by kernel_rfl) (by omega)) <| spq (.agg (Att.c x)) (exec_load_mid 28 (.tmp 23) (by kernel_rfl) b_a (o_a + k * 36) (by kernel_rfl) (Att.cl x) _ (Sl.range h7 hx hv_a) Tryz.underlying28 rfl (by rw [Att.cl_len (oka x (List.mem_of_getElem? hx))]; kernel_rfl)) <| skq (vb) <| skq (iN k) <| spq (pT b_b (o_b + k * 36)) (exec_indexAt_slice 32 (.tmp 25) (.tmp 26) (by kernel_rfl) b_b o_b m.length c_b (Eq.trans (b := vb) (by kernel_rfl) hv_b) .i64 k (by kernel_rfl) _ 36 Tryz.underlying32 (by kernel_rfl) (by omega)) <| spq (.agg (Att.c y)) (exec_load_mid 28 (.tmp 27) (by kernel_rfl) b_b (o_b + k * 36) (by kernel_rfl) (Att.cl y) _ (Sl.range h8 hy hv_b) Tryz.underlying28 rfl (by rw [Att.cl_len (okb y (List.mem_of_getElem? hy))]; kernel_rfl)) <| spq (.bool true) (exec_cast (congrArg Value.bool (decide_eq_true hxy)) (exec_binop .eql 28 28 (.tmp 24) (.tmp 28) (by kernel_rfl) (.agg (Att.c x)) (.agg (Att.c y)) _ (by kernel_rfl) (by kernel_rfl) (run_eqGuard_agg _ _ _ _ _ _ _ att_guard) (att_eq _ _ (oka x (List.mem_of_getElem? hx)).r (okb y (List.mem_of_getElem? hy)).r _))) <| st_end <| ls_run (qo116_1 932 9) (.bool true) (w' := V6) (by kernel_rfl) (by kernel_rfl) <| ls_end <| blk_n <| tr_ [0, 1, 2] ?_
   refine pkq (iN k) <| ppq (iN (k + 1)) (exec_cast (congrArg (Value.int .i64) (wrapN (k + 1) (by omega))) (by kernel_rfl)) <| pkq (iN (k + 1)) <| et_ ?_
   refine ⟨⟨k + 1, true, (.bool true), (.bool true), (iN k), va, (iN l.length), (.bool true), (.bool true), (iN k), (iN (k + 1)), va, (iN k), (pT b_a (o_a + k * 36)), (.agg (Att.c x)), vb, (iN k), (pT b_b (o_b + k * 36)), (.agg (Att.c y)), (.bool true), by kernel_rfl, by omega, (by first | exact (decide_eq_true ((lallsame_step hlen hx hy (of_decide_eq_true hb.symm)).2 hxy)).symm | exact (decide_eq_false (fun h => hxy ((lallsame_step hlen hx hy (of_decide_eq_true hb.symm)).1 h))).symm), h7, h8, K9⟩, ?_⟩
   exact lt_meas (x := l.length - (k + 1)) (y := l.length - k) (by kernel_rfl) (by kernel_rfl) (by omega)
  ·obtain ⟨x, hx⟩ : ∃ x, l[k]? = some x := ⟨_, List.getElem?_eq_getElem hlt⟩
   obtain ⟨y, hy⟩ : ∃ y, m[k]? = some y := ⟨_, List.getElem?_eq_getElem (by omega)⟩
   obtain ⟨b_a, o_a, c_a, hv_a, hb_a, _⟩ := (h2).at_ k _ hx
   obtain ⟨b_b, o_b, c_b, hv_b, hb_b, _⟩ := (h3).at_ k _ hy
   skip
   have hxy := hx0 x y hx hy
   refine q_ <| qr_ [0, 1, 2, 3, 4, 5, 6] <| pkq (.bool true) <| pkq (.bool true) <| pkq (iN k) <| pkq (va) <| ppq (iN l.length) (exec_len_sl (.tmp 15) 32 28 (by kernel_rfl) Tryz.underlying32 (by kernel_rfl) h2) <| ppq (.bool true) (dct ((((k : Nat) : Int)) < (((l.length : Nat) : Int))) (by omega)) <| pkq (.bool true) <| ey_ <| s_ <| tq_ <| bl_ 1 <| sy_reg ?_
   refine rg_still 5 9 (opsAt (qc116_1 932)) [qo116_1 932 0, qo116_1 932 1, qo116_1 932 2, qo116_1 932 3, qo116_1 932 4, qo116_1 932 5, qo116_1 932 6, qo116_1 932 7, qo116_1 932 8] [qo116_1 932 9] (by kernel_rfl) (by kernel_rfl) (by kernel_rfl) (by kernel_rfl) (by kernel_rfl) ?_
   obtain ⟨V11, eV11, kV11⟩ := drew_step V1
   rw [eV11]
   clear eV11
   have h12 : AttsAt V11 va l := h2.keepsN kV11
   have h13 : AttsAt V11 vb m := h3.keepsN kV11
   have K14 := K4.nn kV11
   refine skq (va) <| skq (iN k) <| spq (pT b_a (o_a + k * 36)) (exec_indexAt_slice 32 (.tmp 21) (.tmp 22) (by kernel_rfl) b_a o_a l.length c_a (Eq.trans (b := va) (by kernel_rfl) hv_a) .i64 k (by kernel_rfl) _ 36 Tryz.underlying32 (by kernel_rfl) (by omega)) <| spq (.agg (Att.c x)) (exec_load_mid 28 (.tmp 23) (by kernel_rfl) b_a (o_a + k * 36) (by kernel_rfl) (Att.cl x) _ (Sl.range h12 hx hv_a) Tryz.underlying28 rfl (by rw [Att.cl_len (oka x (List.mem_of_getElem? hx))]; kernel_rfl)) <| skq (vb) <| skq (iN k) <| spq (pT b_b (o_b + k * 36)) (exec_indexAt_slice 32 (.tmp 25) (.tmp 26) (by kernel_rfl) b_b o_b m.length c_b (Eq.trans (b := vb) (by kernel_rfl) hv_b) .i64 k (by kernel_rfl) _ 36 Tryz.underlying32 (by kernel_rfl) (by omega)) <| spq (.agg (Att.c y)) (exec_load_mid 28 (.tmp 27) (by kernel_rfl) b_b (o_b + k * 36) (by kernel_rfl) (Att.cl y) _ (Sl.range h13 hy hv_b) Tryz.underlying28 rfl (by rw [Att.cl_len (okb y (List.mem_of_getElem? hy))]; kernel_rfl)) <| spq (.bool false) (exec_cast (congrArg Value.bool (decide_eq_false hxy)) (exec_binop .eql 28 28 (.tmp 24) (.tmp 28) (by kernel_rfl) (.agg (Att.c x)) (.agg (Att.c y)) _ (by kernel_rfl) (by kernel_rfl) (run_eqGuard_agg _ _ _ _ _ _ _ att_guard) (att_eq _ _ (oka x (List.mem_of_getElem? hx)).r (okb y (List.mem_of_getElem? hy)).r _))) <| st_end <| ls_run (qo116_1 932 9) (.bool false) (w' := V11) (by kernel_rfl) (by kernel_rfl) <| ls_end <| blk_n <| tr_ [0, 1, 2] ?_
   refine pkq (iN k) <| ppq (iN (k + 1)) (exec_cast (congrArg (Value.int .i64) (wrapN (k + 1) (by omega))) (by kernel_rfl)) <| pkq (iN (k + 1)) <| et_ ?_
   refine ⟨⟨k + 1, false, (.bool true), (.bool true), (iN k), va, (iN l.length), (.bool true), (.bool true), (iN k), (iN (k + 1)), va, (iN k), (pT b_a (o_a + k * 36)), (.agg (Att.c x)), vb, (iN k), (pT b_b (o_b + k * 36)), (.agg (Att.c y)), (.bool false), by kernel_rfl, by omega, (by first | exact (decide_eq_true ((lallsame_step hlen hx hy (of_decide_eq_true hb.symm)).2 hxy)).symm | exact (decide_eq_false (fun h => hxy ((lallsame_step hlen hx hy (of_decide_eq_true hb.symm)).1 h))).symm), h12, h13, K14⟩, ?_⟩
   exact lt_meas (x := l.length - (k + 1)) (y := l.length - k) (by kernel_rfl) (by kernel_rfl) (by omega)
  ·skip
   refine q_ <| qr_ [0, 1, 2, 3, 4, 5, 6] <| pkq (.bool true) <| pkq (.bool true) <| pkq (iN k) <| pkq (va) <| ppq (iN l.length) (exec_len_sl (.tmp 15) 32 28 (by kernel_rfl) Tryz.underlying32 (by kernel_rfl) h2) <| ppq (.bool false) (dcf ((((k : Nat) : Int)) < (((l.length : Nat) : Int))) (by omega)) <| pkq (.bool false) <| en_ <| sy_exit 0 (by kernel_rfl) <| then_e <| then_e <| blk_e ?_
   refine tqr_ [0, 1] <| pkq (.bool true) <| pkq (.bool true) <| eu_ <| so_ (.bool true) ?_
   exact ⟨by first | (rw [decide_eq_true (by first | exact ht | exact hf)]) | (rw [decide_eq_false (by first | exact ht | exact hf)]), K4⟩
  ·skip
   refine q_ <| qr_ [0, 1, 2, 3, 4, 5, 6] <| pkq (.bool false) <| pkq (.bool false) <| pnq <| pnq <| pnq <| pnq <| pkq (.bool false) <| en_ <| sy_exit 0 (by kernel_rfl) <| then_e <| then_e <| blk_e ?_
   refine tqr_ [0, 1] <| pkq (.bool false) <| pkq (.bool false) <| eu_ <| so_ (.bool false) ?_
   exact ⟨by first | (rw [decide_eq_true (by first | exact ht | exact hf)]) | (rw [decide_eq_false (by first | exact ht | exact hf)]), K4⟩
theorem ltsameVotes_ok (va vb : Value) (l m : List Att) (w : World) (Ha : AttsAt w va l) (Hb : AttsAt w vb m) (oka : ∀ x ∈ l, x.Ok) (okb : ∀ x ∈ m, x.Ok) : Calls Tryz.prog 18 #[va, vb] w fun e w' => e = .returned (.bool (decide (l = m))) ∧ Keeps Nob w w' := by
 by_cases h : l.length = m.length
 ·exact ltsameVotes_eq va vb l m w Ha Hb oka okb h
 ·rw [decide_eq_false (fun e => h (by rw [e]))]; exact ltsameVotes_len va vb l m w Ha Hb oka okb h
end Go.Proofs.YthmclmbeflbhhaaGreat
namespace Go.Kec
set_option maxRecDepth 100000
set_option maxHeartbeats 4000000
def frc {α : Type} (x : Nat) (k : Nat → α) : α := Nat.rec (k 0) (fun n _ => k (Nat.succ n)) x
theorem frc_eq {α : Type} (x : Nat) (k : Nat → α) : frc x k = k x := by cases x <;> rfl
def frcL {α : Type} : List Nat → (List Nat → α) → α
  | [], k => k []
  | x :: r, k => frc x fun y => frcL r fun s => k (y :: s)
theorem frcL_eq {α : Type} (l : List Nat) (k : List Nat → α) : frcL l k = k l := by
  induction l generalizing k with
  | nil => rfl
  | cons x r ih => rw [frcL, frc_eq, ih]
def roundF {α : Type} (s : List Nat) (k : Nat) (c : List Nat → α) : α := frcL (columns s) fun a => frcL (moves a) fun b => frcL (mixes b) fun d => frcL (iota k d) c
theorem roundF_eq {α : Type} (s : List Nat) (k : Nat) (c : List Nat → α) : roundF s k c = c (round s k) := by simp only [roundF, frcL_eq]; rfl
def permF : List Nat → List Nat → List Nat
  | [], s => s
  | k :: r, s => roundF s k (permF r)
theorem permF_fold (l s : List Nat) : permF l s = l.foldl round s := by
  induction l generalizing s with
  | nil => rfl
  | cons k r ih => rw [permF, roundF_eq, ih]; rfl
theorem permF_eq (s : List Nat) : permF K s = perm s := permF_fold K s
end Go.Kec
namespace Go.Kec
set_option maxRecDepth 100000
set_option maxHeartbeats 4000000
theorem dv_0_p : perm [50397441, 0, 0, 0, 25769803776, 0, 0, 0, 0, 0, 0, 0, 0, 0, 0, 0, 9223372036854775808, 0, 0, 0, 0, 0, 0, 0, 0] = [10278817104298907784, 14134970630840752888, 17363985685164303104, 18389485117995911768, 16872467568207025606, 9880550185199613785, 8702172063674108429, 13316258402160285168, 10236985223849689404, 5860379226928172647, 15829787594177647871, 6462967174338455390, 18021331280727149677, 15916898099768558152, 3679637874036185435, 12387242279299914377, 4235371239492183536, 5733416220640983090, 9353649997158515924, 3421662946199531572, 13558299609658487161, 9262926056336788377, 191223070837001956, 5369682799525405547, 5690039844963607325] := by
  rw [← permF_eq]; decide +kernel
theorem dv_0 : sum [1, 1, 1, 3, 0, 0, 0, 0, 0, 0, 0, 0, 0, 0, 0, 0, 0, 0, 0, 0, 0, 0, 0, 0, 0, 0, 0, 0, 0, 0, 0, 0, 0, 0, 0, 0] = [136, 24, 242, 100, 178, 177, 165, 142, 248, 154, 215, 1, 230, 128, 41, 196, 0, 163, 47, 121, 251, 68, 249, 240, 88, 138, 122, 124, 72, 147, 52, 255] := by
  unfold sum takes
  rw [show mixin (stateOf [1, 1, 1, 3, 0, 0, 0, 0, 0, 0, 0, 0, 0, 0, 0, 0, 0, 0, 0, 0, 0, 0, 0, 0, 0, 0, 0, 0, 0, 0, 0, 0, 0, 0, 0, 0]) (lastBlock (restOf [1, 1, 1, 3, 0, 0, 0, 0, 0, 0, 0, 0, 0, 0, 0, 0, 0, 0, 0, 0, 0, 0, 0, 0, 0, 0, 0, 0, 0, 0, 0, 0, 0, 0, 0, 0])) = [50397441, 0, 0, 0, 25769803776, 0, 0, 0, 0, 0, 0, 0, 0, 0, 0, 0, 9223372036854775808, 0, 0, 0, 0, 0, 0, 0, 0] by decide +kernel, dv_0_p]
  decide +kernel
theorem dv_9_p : perm [38705103105, 0, 0, 0, 25769803776, 0, 0, 0, 0, 0, 0, 0, 0, 0, 0, 0, 9223372036854775808, 0, 0, 0, 0, 0, 0, 0, 0] = [2154681888263928074, 3994399662339074967, 15680322908900252505, 14959504540305114199, 3939025773601331822, 4180352709838545711, 17832467667595138326, 15179124566345544200, 3780859113330340130, 1538577736398751074, 18422416699085792656, 8008731313364947278, 7180360859733228359, 6821971019552084536, 13409211901343582193, 3044510065114281961, 14906762268628027335, 17041025736636346587, 11696401803647358705, 1183525966290647333, 10462953683335550294, 2352071882287202736, 722607103555360748, 440292756518081747, 2092473023775917026] := by
  rw [← permF_eq]; decide +kernel
theorem dv_9 : sum [1, 1, 1, 3, 9, 0, 0, 0, 0, 0, 0, 0, 0, 0, 0, 0, 0, 0, 0, 0, 0, 0, 0, 0, 0, 0, 0, 0, 0, 0, 0, 0, 0, 0, 0, 0] = [10, 121, 240, 233, 194, 247, 230, 29, 151, 43, 169, 100, 84, 245, 110, 55, 89, 91, 107, 148, 155, 178, 155, 217, 87, 196, 186, 220, 30, 214, 154, 207] := by
  unfold sum takes
  rw [show mixin (stateOf [1, 1, 1, 3, 9, 0, 0, 0, 0, 0, 0, 0, 0, 0, 0, 0, 0, 0, 0, 0, 0, 0, 0, 0, 0, 0, 0, 0, 0, 0, 0, 0, 0, 0, 0, 0]) (lastBlock (restOf [1, 1, 1, 3, 9, 0, 0, 0, 0, 0, 0, 0, 0, 0, 0, 0, 0, 0, 0, 0, 0, 0, 0, 0, 0, 0, 0, 0, 0, 0, 0, 0, 0, 0, 0, 0])) = [38705103105, 0, 0, 0, 25769803776, 0, 0, 0, 0, 0, 0, 0, 0, 0, 0, 0, 9223372036854775808, 0, 0, 0, 0, 0, 0, 0, 0] by decide +kernel, dv_9_p]
  decide +kernel
theorem db_0_p : perm [721154, 0, 0, 0, 100663296, 0, 0, 0, 0, 0, 0, 0, 0, 0, 0, 0, 9223372036854775808, 0, 0, 0, 0, 0, 0, 0, 0] = [10993524779600974296, 1034957209709741975, 14069353694323440965, 12705192768685108665, 6101324150725729903, 11505569384058797601, 14457160008009147190, 2602098683795194234, 18141963390756384385, 15769384004373938561, 11751224561456478225, 17859685102316134118, 3149124103126257091, 2927153721099131781, 3454985326362135072, 9201446519026412821, 10558031673068409923, 2709494654079622972, 4095638742271209938, 4675049861332807976, 12354861536990356725, 15741266679408100489, 15854875860151414869, 9286648568191496318, 1179131903297595904] := by
  rw [← permF_eq]; decide +kernel
theorem db_0 : sum [2, 1, 11, 0, 0, 0, 0, 0, 0, 0, 0, 0, 0, 0, 0, 0, 0, 0, 0, 0, 0, 0, 0, 0, 0, 0, 0, 0, 0, 0, 0, 0, 0, 0, 0] = [216, 17, 146, 117, 138, 216, 144, 152, 151, 135, 122, 74, 25, 232, 92, 14, 69, 125, 122, 113, 164, 98, 64, 195, 185, 109, 86, 20, 130, 233, 81, 176] := by
  unfold sum takes
  rw [show mixin (stateOf [2, 1, 11, 0, 0, 0, 0, 0, 0, 0, 0, 0, 0, 0, 0, 0, 0, 0, 0, 0, 0, 0, 0, 0, 0, 0, 0, 0, 0, 0, 0, 0, 0, 0, 0]) (lastBlock (restOf [2, 1, 11, 0, 0, 0, 0, 0, 0, 0, 0, 0, 0, 0, 0, 0, 0, 0, 0, 0, 0, 0, 0, 0, 0, 0, 0, 0, 0, 0, 0, 0, 0, 0, 0])) = [721154, 0, 0, 0, 100663296, 0, 0, 0, 0, 0, 0, 0, 0, 0, 0, 0, 9223372036854775808, 0, 0, 0, 0, 0, 0, 0, 0] by decide +kernel, db_0_p]
  decide +kernel
theorem db_9_p : perm [151716098, 0, 0, 0, 100663296, 0, 0, 0, 0, 0, 0, 0, 0, 0, 0, 0, 9223372036854775808, 0, 0, 0, 0, 0, 0, 0, 0] = [12596443811411472840, 13220596910902319982, 7949676814118256441, 1381494476181026509, 14513143676414693558, 18123851096220536837, 3773439359263886008, 9320443421330652334, 4540152473003997482, 16554005909735033663, 17256579151232813542, 15753866159111689673, 201542974503508075, 5862795697931704650, 15088594515480474305, 12596656288682541634, 10471826997196004191, 17916393483742475613, 12867907750093369590, 9791003995685768363, 5500386634326529468, 7968426848996069030, 4934422938586578711, 10756744817827422090, 7547477582302672854] := by
  rw [← permF_eq]; decide +kernel
theorem db_9 : sum [2, 1, 11, 9, 0, 0, 0, 0, 0, 0, 0, 0, 0, 0, 0, 0, 0, 0, 0, 0, 0, 0, 0, 0, 0, 0, 0, 0, 0, 0, 0, 0, 0, 0, 0] = [200, 49, 89, 92, 232, 142, 207, 174, 110, 155, 245, 64, 216, 254, 120, 183, 57, 127, 173, 120, 241, 236, 82, 110, 205, 54, 239, 23, 232, 13, 44, 19] := by
  unfold sum takes
  rw [show mixin (stateOf [2, 1, 11, 9, 0, 0, 0, 0, 0, 0, 0, 0, 0, 0, 0, 0, 0, 0, 0, 0, 0, 0, 0, 0, 0, 0, 0, 0, 0, 0, 0, 0, 0, 0, 0]) (lastBlock (restOf [2, 1, 11, 9, 0, 0, 0, 0, 0, 0, 0, 0, 0, 0, 0, 0, 0, 0, 0, 0, 0, 0, 0, 0, 0, 0, 0, 0, 0, 0, 0, 0, 0, 0, 0])) = [151716098, 0, 0, 0, 100663296, 0, 0, 0, 0, 0, 0, 0, 0, 0, 0, 0, 9223372036854775808, 0, 0, 0, 0, 0, 0, 0, 0] by decide +kernel, db_9_p]
  decide +kernel
end Go.Kec
namespace Go.Proofs.YthmclmbeflbhhaaGreat
set_option maxRecDepth 100000
set_option maxHeartbeats 4000000
open Go Go.RowKit Go.Own Go.Shelf
/-- What is left of judging when no vote has the same target. -/
def dRest (p : Par) (l : List Att) (a : Att) : Vd :=
  match l.find? (fun b => decide (b.s > a.s)) with
  | some w => if w.t < a.t then ⟨3, w, zPro, (p.first (max a.t w.t)).1⟩ else dJudge2 p l a
  | none => dJudge2 p l a
section
variable {p : Par} {l : List Att} {a w : Att} {m : List Pro} {q u : Pro}
theorem dJudge_no (hf : l.find? (fun b => decide (b.t = a.t)) = none) : dJudge p l a = dRest p l a := by unfold dJudge dRest; rw [hf]; rfl
theorem dJudge_one (hf : l.find? (fun b => decide (b.t = a.t)) = some w) (hd : (a.dg == w.dg) = true) : dJudge p l a = ⟨1, w, zPro, 0⟩ := by unfold dJudge; rw [hf]; exact if_pos hd
theorem dJudge_two (hf : l.find? (fun b => decide (b.t = a.t)) = some w) (hd : (a.dg == w.dg) = false) : dJudge p l a = ⟨2, w, zPro, (p.first (max a.t w.t)).1⟩ := by unfold dJudge; rw [hf]; exact if_neg (by rw [hd]; simp)
theorem dPro_no (hf : m.find? (fun b => decide (b.h = q.h)) = none) : dPro m q = Vd.z := by unfold dPro; rw [hf]
theorem dPro_two (hf : m.find? (fun b => decide (b.h = q.h)) = some u) (hd : doubP q u = true) : dPro m q = ⟨2, zAtt, u, q.h⟩ := by unfold dPro; rw [hf]; exact if_pos hd
end
theorem pro_yes {p : Par} {h : Int} {Q : List Pro} {q : Pro} (hE : proErr p h q = 0) {y : Vd} (hy : dPro (blocksOf p h Q q.v) q = y) : proVd p h Q q = y ∧ proNew p h Q q = if y.k = 0 then Q ++ [q] else Q := by
  unfold proNew proVd
  rw [hE, if_pos rfl, hy]; simp
theorem v1_ok {s t : Int} (b : UInt8) (hs : i64b s) (ht : i64b t) : (v1 s t b).Ok := ⟨(by decide : i64b 1), hs, ht, byteH_len b, (by decide : 0 < 2 ^ 64)⟩
theorem b1_ok {h : Int} (b : UInt8) (hh : i64b h) : (b1 h b).Ok := ⟨(by decide : i64b 1), hh, byteH_len b, (by decide : 0 < 2 ^ 64)⟩
theorem v1_vd {k f s t : Int} {b : UInt8} : VdOk ⟨k, v1 s t b, zPro, f⟩ := ⟨byteH_len b, zPro_r⟩
theorem b1_vd {k f h : Int} {b : UInt8} : VdOk ⟨k, zAtt, b1 h b, f⟩ := ⟨zAtt_r, byteH_len b⟩
theorem z_vd {k f : Int} : VdOk ⟨k, zAtt, zPro, f⟩ := ⟨zAtt_r, zPro_r⟩
theorem p23_check : (ofP 2 3).check = (0, 0) := by kernel_rfl
theorem ofP_ok {e W : Int} (he : i64ok e) (hW : i64ok W) : (ofP e W).Ok := by
  have k : ∀ x : Int, 0 ≤ x → x ≤ 1000000000 → i64ok x := fun x a b => by unfold i64ok; omega
  have u : ∀ x : Int, 0 ≤ x → x ≤ 1000000000 → u64ok x := fun x a b => by unfold u64ok; omega
  exact ⟨show i64ok 100 from k _ (by decide) (by decide), show i64ok 100 from k _ (by decide) (by decide), he, hW, show i64ok 7 from k _ (by decide) (by decide), show i64ok 8 from k _ (by decide) (by decide), show i64ok 20 from k _ (by decide) (by decide), show u64ok 50000000 from u _ (by decide) (by decide), show u64ok 3 from u _ (by decide) (by decide), show i64ok 50 from k _ (by decide) (by decide), show u64ok 100000000 from u _ (by decide) (by decide)⟩
theorem p23_ok : (ofP 2 3).Ok := ofP_ok (by unfold i64ok; omega) (by unfold i64ok; omega)
theorem dv0 : (v1 1 3 0).dig = Kec.sum [1, 1, 1, 3, 0, 0, 0, 0, 0, 0, 0, 0, 0, 0, 0, 0, 0, 0, 0, 0, 0, 0, 0, 0, 0, 0, 0, 0, 0, 0, 0, 0, 0, 0, 0, 0] := congrArg Kec.sum (show (v1 1 3 0).bare = _ by kernel_rfl)
theorem dv9 : (v1 1 3 9).dig = Kec.sum [1, 1, 1, 3, 9, 0, 0, 0, 0, 0, 0, 0, 0, 0, 0, 0, 0, 0, 0, 0, 0, 0, 0, 0, 0, 0, 0, 0, 0, 0, 0, 0, 0, 0, 0, 0] := congrArg Kec.sum (show (v1 1 3 9).bare = _ by kernel_rfl)
theorem db0 : (b1 11 0).dig = Kec.sum [2, 1, 11, 0, 0, 0, 0, 0, 0, 0, 0, 0, 0, 0, 0, 0, 0, 0, 0, 0, 0, 0, 0, 0, 0, 0, 0, 0, 0, 0, 0, 0, 0, 0, 0] := congrArg Kec.sum (show (b1 11 0).bare = _ by kernel_rfl)
theorem db9 : (b1 11 9).dig = Kec.sum [2, 1, 11, 9, 0, 0, 0, 0, 0, 0, 0, 0, 0, 0, 0, 0, 0, 0, 0, 0, 0, 0, 0, 0, 0, 0, 0, 0, 0, 0, 0, 0, 0, 0, 0] := congrArg Kec.sum (show (b1 11 9).bare = _ by kernel_rfl)
theorem dgs : ((v1 1 3 9).dg == (v1 1 3 0).dg) = false := by
  rw [show (v1 1 3 9).dg = (v1 1 3 9).dig from if_pos (by decide), show (v1 1 3 0).dg = (v1 1 3 0).dig from if_pos (by decide), dv0, dv9, Kec.dv_0, Kec.dv_9]; decide
theorem dgb : doubP (b1 11 9) (b1 11 0) = true := decide_eq_true ⟨by decide, by decide, rfl, rfl, by rw [db0, db9, Kec.db_0, Kec.db_9]; decide⟩
theorem dgs_same (a : Att) : (a.dg == a.dg) = true := by simp
theorem kE0 : attErr (ofP 2 3) 7 (v1 1 3 0) = 0 := by kernel_rfl
theorem kJ0 : dJudge (ofP 2 3) (votesOf (ofP 2 3) 7 [] (v1 1 3 0).v) (v1 1 3 0) = ⟨0, zAtt, zPro, 0⟩ := ((dJudge_no (by kernel_rfl)).trans (by kernel_rfl))
theorem kY0 : attVd (ofP 2 3) 7 [] (v1 1 3 0) = ⟨0, zAtt, zPro, 0⟩ := (att_yes kE0 kJ0).1
theorem kN0 : attNew (ofP 2 3) 7 [] (v1 1 3 0) = [v1 1 3 0] := (att_yes kE0 kJ0).2.trans rfl
theorem kE1 : attErr (ofP 2 3) 7 (v1 1 3 0) = 0 := by kernel_rfl
theorem kJ1 : dJudge (ofP 2 3) (votesOf (ofP 2 3) 7 [v1 1 3 0] (v1 1 3 0).v) (v1 1 3 0) = ⟨1, v1 1 3 0, zPro, 0⟩ := (dJudge_one (by kernel_rfl) (dgs_same _))
theorem kY1 : attVd (ofP 2 3) 7 [v1 1 3 0] (v1 1 3 0) = ⟨1, v1 1 3 0, zPro, 0⟩ := (att_yes kE1 kJ1).1
theorem kN1 : attNew (ofP 2 3) 7 [v1 1 3 0] (v1 1 3 0) = [v1 1 3 0] := (att_yes kE1 kJ1).2.trans rfl
theorem kE2 : attErr (ofP 2 3) 7 (v1 1 3 9) = 0 := by kernel_rfl
theorem kJ2 : dJudge (ofP 2 3) (votesOf (ofP 2 3) 7 [v1 1 3 0] (v1 1 3 9).v) (v1 1 3 9) = ⟨2, v1 1 3 0, zPro, 7⟩ := ((dJudge_two (by kernel_rfl) dgs).trans (by kernel_rfl))
theorem kY2 : attVd (ofP 2 3) 7 [v1 1 3 0] (v1 1 3 9) = ⟨2, v1 1 3 0, zPro, 7⟩ := (att_yes kE2 kJ2).1
theorem kN2 : attNew (ofP 2 3) 7 [v1 1 3 0] (v1 1 3 9) = [v1 1 3 0] := (att_yes kE2 kJ2).2.trans rfl
theorem kE3 : attErr (ofP 2 3) 7 (v1 2 2 0) = 0 := by kernel_rfl
theorem kJ3 : dJudge (ofP 2 3) (votesOf (ofP 2 3) 7 [v1 1 3 0] (v1 2 2 0).v) (v1 2 2 0) = ⟨4, v1 1 3 0, zPro, 7⟩ := ((dJudge_no (by kernel_rfl)).trans (by kernel_rfl))
theorem kY3 : attVd (ofP 2 3) 7 [v1 1 3 0] (v1 2 2 0) = ⟨4, v1 1 3 0, zPro, 7⟩ := (att_yes kE3 kJ3).1
theorem kN3 : attNew (ofP 2 3) 7 [v1 1 3 0] (v1 2 2 0) = [v1 1 3 0] := (att_yes kE3 kJ3).2.trans rfl
theorem kE4 : attErr (ofP 2 3) 7 (v1 1 1 0) = 0 := by kernel_rfl
theorem kJ4 : dJudge (ofP 2 3) (votesOf (ofP 2 3) 7 [v1 1 3 0] (v1 1 1 0).v) (v1 1 1 0) = ⟨0, zAtt, zPro, 0⟩ := ((dJudge_no (by kernel_rfl)).trans (by kernel_rfl))
theorem kY4 : attVd (ofP 2 3) 7 [v1 1 3 0] (v1 1 1 0) = ⟨0, zAtt, zPro, 0⟩ := (att_yes kE4 kJ4).1
theorem kN4 : attNew (ofP 2 3) 7 [v1 1 3 0] (v1 1 1 0) = [v1 1 3 0, v1 1 1 0] := (att_yes kE4 kJ4).2.trans rfl
theorem kE5 : attErr (ofP 2 3) 7 (v1 1 2 0) = 0 := by kernel_rfl
theorem kJ5 : dJudge (ofP 2 3) (votesOf (ofP 2 3) 7 [v1 1 3 0, v1 1 1 0] (v1 1 2 0).v) (v1 1 2 0) = ⟨0, zAtt, zPro, 0⟩ := ((dJudge_no (by kernel_rfl)).trans (by kernel_rfl))
theorem kY5 : attVd (ofP 2 3) 7 [v1 1 3 0, v1 1 1 0] (v1 1 2 0) = ⟨0, zAtt, zPro, 0⟩ := (att_yes kE5 kJ5).1
theorem kN5 : attNew (ofP 2 3) 7 [v1 1 3 0, v1 1 1 0] (v1 1 2 0) = [v1 1 3 0, v1 1 1 0, v1 1 2 0] := (att_yes kE5 kJ5).2.trans rfl
theorem kE6 : attErr (ofP 2 3) 11 (v1 3 5 0) = 0 := by kernel_rfl
theorem kJ6 : dJudge (ofP 2 3) (votesOf (ofP 2 3) 11 [v1 1 3 0, v1 1 1 0, v1 1 2 0] (v1 3 5 0).v) (v1 3 5 0) = ⟨0, zAtt, zPro, 0⟩ := ((dJudge_no (by kernel_rfl)).trans (by kernel_rfl))
theorem kY6 : attVd (ofP 2 3) 11 [v1 1 3 0, v1 1 1 0, v1 1 2 0] (v1 3 5 0) = ⟨0, zAtt, zPro, 0⟩ := (att_yes kE6 kJ6).1
theorem kN6 : attNew (ofP 2 3) 11 [v1 1 3 0, v1 1 1 0, v1 1 2 0] (v1 3 5 0) = [v1 1 3 0, v1 1 1 0, v1 1 2 0, v1 3 5 0] := (att_yes kE6 kJ6).2.trans rfl
theorem kE7 : attErr (ofP 2 3) 11 (v1 4 4 0) = 0 := by kernel_rfl
theorem kJ7 : dJudge (ofP 2 3) (votesOf (ofP 2 3) 11 [v1 1 3 0, v1 1 1 0, v1 1 2 0, v1 3 5 0] (v1 4 4 0).v) (v1 4 4 0) = ⟨4, v1 3 5 0, zPro, 11⟩ := ((dJudge_no (by kernel_rfl)).trans (by kernel_rfl))
theorem kY7 : attVd (ofP 2 3) 11 [v1 1 3 0, v1 1 1 0, v1 1 2 0, v1 3 5 0] (v1 4 4 0) = ⟨4, v1 3 5 0, zPro, 11⟩ := (att_yes kE7 kJ7).1
theorem kN7 : attNew (ofP 2 3) 11 [v1 1 3 0, v1 1 1 0, v1 1 2 0, v1 3 5 0] (v1 4 4 0) = [v1 1 3 0, v1 1 1 0, v1 1 2 0, v1 3 5 0] := (att_yes kE7 kJ7).2.trans rfl
theorem kE8 : attErr (ofP 2 3) 11 (v1 3 4 0) = 0 := by kernel_rfl
theorem kJ8 : dJudge (ofP 2 3) (votesOf (ofP 2 3) 11 [v1 1 3 0, v1 1 1 0, v1 1 2 0, v1 3 5 0] (v1 3 4 0).v) (v1 3 4 0) = ⟨0, zAtt, zPro, 0⟩ := ((dJudge_no (by kernel_rfl)).trans (by kernel_rfl))
theorem kY8 : attVd (ofP 2 3) 11 [v1 1 3 0, v1 1 1 0, v1 1 2 0, v1 3 5 0] (v1 3 4 0) = ⟨0, zAtt, zPro, 0⟩ := (att_yes kE8 kJ8).1
theorem kN8 : attNew (ofP 2 3) 11 [v1 1 3 0, v1 1 1 0, v1 1 2 0, v1 3 5 0] (v1 3 4 0) = [v1 1 3 0, v1 1 1 0, v1 1 2 0, v1 3 5 0, v1 3 4 0] := (att_yes kE8 kJ8).2.trans rfl
theorem pE0 : proErr (ofP 2 3) 11 (b1 11 0) = 0 := by kernel_rfl
theorem pJ0 : dPro (blocksOf (ofP 2 3) 11 [] (b1 11 0).v) (b1 11 0) = ⟨0, zAtt, zPro, 0⟩ := (dPro_no (by kernel_rfl))
theorem pY0 : proVd (ofP 2 3) 11 [] (b1 11 0) = ⟨0, zAtt, zPro, 0⟩ := (pro_yes pE0 pJ0).1
theorem pN0 : proNew (ofP 2 3) 11 [] (b1 11 0) = [b1 11 0] := (pro_yes pE0 pJ0).2.trans rfl
theorem pE1 : proErr (ofP 2 3) 11 (b1 11 9) = 0 := by kernel_rfl
theorem pJ1 : dPro (blocksOf (ofP 2 3) 11 [b1 11 0] (b1 11 9).v) (b1 11 9) = ⟨2, zAtt, b1 11 0, 11⟩ := (dPro_two (by kernel_rfl) dgb)
theorem pY1 : proVd (ofP 2 3) 11 [b1 11 0] (b1 11 9) = ⟨2, zAtt, b1 11 0, 11⟩ := (pro_yes pE1 pJ1).1
theorem pN1 : proNew (ofP 2 3) 11 [b1 11 0] (b1 11 9) = [b1 11 0] := (pro_yes pE1 pJ1).2.trans rfl
theorem lV1 : votesOf (ofP 2 3) 7 [v1 1 3 0, v1 1 1 0, v1 1 2 0] 1 = [v1 1 1 0, v1 1 2 0, v1 1 3 0] := by kernel_rfl
theorem lV2 : votesOf (ofP 2 3) 11 [v1 1 3 0, v1 1 1 0, v1 1 2 0, v1 3 5 0, v1 3 4 0] 1 = [v1 1 3 0, v1 3 4 0, v1 3 5 0] := by kernel_rfl
end Go.Proofs.YthmclmbeflbhhaaGreat
namespace Go.Proofs.YthmclmbeflbhhaaGreat
set_option maxRecDepth 100000
set_option maxHeartbeats 4000000
open Go Go.RowKit Go.Own Go.Shelf
theorem v1_r {s t : Int} {b : UInt8} : (v1 s t b).r.length = 32 := byteH_len b
theorem b1_r {h : Int} {b : UInt8} : (b1 h b).r.length = 32 := byteH_len b
instance (x : Int) : Decidable (i64b x) := inferInstanceAs (Decidable (_ ∧ _))
theorem Sl.blockH {α : Type} {w : World} {g : Nat} {T : TypeId} {xs : List α} {c : α → List Value} {s n : Nat} (h : w.heap[g]? = some (.cells (xs.flatMap c).toArray T (0, 0))) (hc : ∀ x ∈ xs, (c x).length = s) (hn : xs.length = n) (hm : n ≤ 1000) : Sl w s c (.slice (some ⟨g, 0, none⟩) n n) xs := by
 subst hn
 exact ⟨⟨_, _, rfl, Nat.le_refl _, by unfold maxLen; omega, fun h => by cases h⟩, fun k x hx => ⟨g, 0, _, rfl, lt_of_block h, fun j u hj => by
  rw [Nat.zero_add]
  exact rc h (by rw [List.getElem?_toArray]; exact flat_get hc k x hx j u hj)⟩⟩
/-- A new detector. -/
theorem det_new (p : Par) (hp : p.Ok) (y : Int) (hc : p.check = (0, y)) (w : World) : Calls Tryz.prog 19 #[.agg p.cells] w fun e w' => ∃ d, e = .returned (.tuple #[pT d 0, .int .i64 0]) ∧ Det1 w.heap.size w' d p 1 [] [] ∧ w.heap.size ≤ d ∧ Keeps Nob w w' := by
 refine (dNew_fine p w hp y hc).mono ?_
 rintro e w' ⟨d, rfl, hd, hw, k⟩
 refine ⟨d, rfl, ⟨⟨fun _ => none, fun _ => 0, ⟨hd, fun v x _ h => (by cases h), fun v _ _ => ⟨fun a h => (by cases h), fun a h => (by cases h)⟩, rfl, fun v x _ h => (by cases h), fun v x _ h => (by cases h)⟩, fun j hj => ?_, fun j hj => ?_⟩, ⟨⟨hp, by rw [hc], by decide, by decide⟩, fun a h => (by cases h), fun a h => (by cases h), List.Pairwise.nil, List.Pairwise.nil⟩⟩, hw, k⟩
 ·rcases hj with rfl | ⟨v, x, _, h, _⟩
  ·exact hw
  ·cases h
 ·obtain ⟨v, x, _, h, _⟩ := hj
  cases h
noncomputable def qc120_2 (n : Nat) : Code := partOf Tryz.f37 n
theorem ltfirst_ok (w : World) :
  Calls Tryz.prog 37 #[] w (fun e w' => ∃ d, e = .returned (pT d 0) ∧ Det1 w.heap.size w' d (ofP 2 3) 7 [v1 1 3 0] [] ∧ Keeps Nob w w') := by
 have t0 := Turns.refl w.heap.size w
 have K0 : Keeps ((fun j => w.heap.size ≤ j)) w w := Keeps.refl _ _
 refine sy_enter (qc120_2 1) ⟨fr [ud] 49, []⟩ Tryz.func37 (by kernel_rfl) (by kernel_rfl) <| qr_ [0] <| pkq (.pointer none) <| eqr_ [0, 1, 2, 3, 4, 5, 6] ?_
 refine pcq 21 #[.int .i64 2, .int .i64 3] Tryz.func21 ((ltof_ok 2 3 _).mono ?_)
 rintro e V1 ⟨rfl, kV1⟩
 refine ⟨_, rfl, ?_⟩
 have h2 : Turns w.heap.size w V1 := Turns.nn t0 kV1
 have K3 := K0.nn kV1
 have z4 := kV1.size
 refine pcq 19 #[.agg (ofP 2 3).cells] Tryz.func19 ((det_new (ofP 2 3) p23_ok 0 p23_check _).mono ?_)
 rintro e V5 ⟨d, rfl, hDV5, hdwV5, kV5⟩
 have hLV5 := hDV5.lower K3.size
 refine ⟨_, rfl, ?_⟩
 have h6 : Turns w.heap.size w V5 := Turns.nn h2 kV5
 have K7 := K3.nn kV5
 have z8 := kV5.size
 refine pkq (.tuple #[pT d 0, .int .i64 0]) <| pkq (pT d 0) <| pkq (.int .i64 0) <| pkq (pT d 0) <| pkq (.int .i64 0) <| eqr_ [0, 1, 2] ?_
 refine pcq 9 #[.int .i64 1, .int .i64 3, .int .u8 0] Tryz.func9 ((ltvote1_ok 1 3 0 0 (by decide) _).mono ?_)
 rintro e V9 ⟨rfl, kV9⟩
 refine ⟨_, rfl, ?_⟩
 have h10 : Turns w.heap.size w V9 := Turns.nn h6 kV9
 have kb11 : Keeps Nob V5 V9 := (Keeps.refl Nob V5).nn kV9
 have K12 := K7.nn kV9
 have z13 := kV9.size
 refine pal 28 (zl1_) (.agg (zl1_)) fun V14 go ego h15 kV14 => ?_
 have n16 := nk ego K12
 have h17 : Turns w.heap.size w V14 := Turns.nn h10 kV14
 have kb18 : Keeps Nob V5 V14 := kb11.nn kV14
 have K19 := K12.nn kV14
 have z20 := kV14.size
 refine pst 28 go ((Att.c (v1 1 3 0))) h15 (by rw [Att.c_size _ v1_r]; kernel_rfl) (by rw [Att.c_size _ v1_r]; rfl) (Att.c_one _) fun V21 h22 kV21 => ?_
 have h23 : Turns w.heap.size w V21 := Turns.no h17 kV21 (by omega)
 have kb24 : Keeps Nob V5 V21 := kb18.nO kV21
 have K25 := K19.nO kV21
 have z26 := kV21.size
 refine eq_ <| q_ <| sy_np <| sy_reg <| an_begin 3 39 (opsAt (qc120_2 60)) (fun W => (W.heap[go]? = some (.cells (Att.c (v1 1 3 0)) 28 (0, 0)))) #[false, false, false, false, false, false, false, false, false, false, false, false, false, false, false, false, false, false, false, false, false, false, false, false, false, false, false, false, false, false, false, false, false, false, false, false, false, false, false] (by kernel_rfl) (by kernel_rfl) (by kernel_rfl) (by kernel_rfl) ?_
 obtain ⟨V27, eV27, kV27⟩ := drew_step V21
 rw [eV27]
 clear eV27
 have h28 : Turns w.heap.size w V27 := Turns.nn h23 kV27
 have kb29 : Keeps Nob V5 V27 := kb24.nn kV27
 have ⟨K31, z32, h30⟩ := kV27.z1 K25 h22
 refine akq 0 (.int .i64 0) h30 <| akq 1 (.bool false) h30 <| akq 2 (.bool false) h30 <| akq 3 (pT d 0) h30 <| akq 4 (.bool false) h30 <| akq 5 (.bool false) h30 <| akq 6 (.bool false) h30 <| akq 7 (pT d 0) h30 <| an_o 8 ?_
 refine ncq 17 #[pT d 0, .int .i64 7] Tryz.func17 ((Det1.is_move (x := 7) (hLV5.keepsN kb29) K31.size (e0 := 0) (h' := 7) rfl rfl).mono ?_)
 rintro e V33 ⟨rfl, hDV33, MV33, hMV33, kV33⟩
 refine ⟨_, rfl, ?_⟩
 have h34 : Turns w.heap.size w V33 := Turns.trans h28 ⟨MV33, hMV33, kV33⟩
 have h35 : V33.heap[go]? = some (.cells (Att.c (v1 1 3 0)) 28 (0, 0)) := (kV33.block go (lt_of_block h30) (fun e => hMV33.no h30 e)).trans h30
 have K36 : Keeps ((fun j => w.heap.size ≤ j)) w V33 := K31.then kV33 (fun i hi hm => Nat.le_of_not_lt (fun h => hMV33.sub i h hm))
 have z37 := kV33.size
 refine ⟨h35, ?_⟩
 refine akq 9 (.bool false) h35 <| akq 10 (.bool false) h35 <| akq 11 (.bool false) h35 <| akq 12 (pT d 0) h35 <| avq 13 (.agg (Att.c (v1 1 3 0))) (fun W hS => ldr 28 go (hS) (by rw [Att.c_size _ v1_r]; kernel_rfl)) h35 <| akq 14 (.agg (Att.c zAtt)) h35 <| an_o 15 ?_
 refine ncq 28 #[pT d 0, .agg (Att.c (v1 1 3 0)), .int .i64 0, .agg (Att.c zAtt), .int .i64 0] Tryz.func28 ((ltattests_ok _ d _ _ _ _ _ K36.size hDV33 (v1 1 3 0) (v1_ok _ (by decide) (by decide)) v1_r 0 0 zAtt zAtt_r kE0 _ z_vd kY0 rfl _ kN0).mono ?_)
 rintro e V38 ⟨rfl, hDV38, MV38, hMV38, kV38⟩
 refine ⟨_, rfl, ?_⟩
 have h39 : Turns w.heap.size w V38 := Turns.trans h34 ⟨MV38, hMV38, kV38⟩
 have h40 : V38.heap[go]? = some (.cells (Att.c (v1 1 3 0)) 28 (0, 0)) := (kV38.block go (lt_of_block h35) (fun e => hMV38.no h35 e)).trans h35
 have K41 : Keeps ((fun j => w.heap.size ≤ j)) w V38 := K36.then kV38 (fun i hi hm => Nat.le_of_not_lt (fun h => hMV38.sub i h hm))
 have z42 := kV38.size
 refine ⟨h40, ?_⟩
 refine akq 16 (.bool false) h40 <| akq 17 (.bool false) h40 <| akq 18 (.bool false) h40 <| akq 19 (pT d 0) h40 <| avq 20 (.agg (Att.c (v1 1 3 0))) (fun W hS => ldr 28 go (hS) (by rw [Att.c_size _ v1_r]; kernel_rfl)) h40 <| avq 21 (.agg (Att.c (v1 1 3 0))) (fun W hS => ldr 28 go (hS) (by rw [Att.c_size _ v1_r]; kernel_rfl)) h40 <| an_o 22 ?_
 refine ncq 28 #[pT d 0, .agg (Att.c (v1 1 3 0)), .int .i64 1, .agg (Att.c (v1 1 3 0)), .int .i64 0] Tryz.func28 ((ltattests_ok _ d _ _ _ _ _ K41.size hDV38 (v1 1 3 0) (v1_ok _ (by decide) (by decide)) v1_r 1 0 (v1 1 3 0) v1_r kE1 _ v1_vd kY1 rfl _ kN1).mono ?_)
 rintro e V43 ⟨rfl, hDV43, MV43, hMV43, kV43⟩
 refine ⟨_, rfl, ?_⟩
 have h44 : Turns w.heap.size w V43 := Turns.trans h39 ⟨MV43, hMV43, kV43⟩
 have h45 : V43.heap[go]? = some (.cells (Att.c (v1 1 3 0)) 28 (0, 0)) := (kV43.block go (lt_of_block h40) (fun e => hMV43.no h40 e)).trans h40
 have K46 : Keeps ((fun j => w.heap.size ≤ j)) w V43 := K41.then kV43 (fun i hi hm => Nat.le_of_not_lt (fun h => hMV43.sub i h hm))
 have z47 := kV43.size
 refine ⟨h45, ?_⟩
 refine akq 23 (.bool false) h45 <| akq 24 (.bool false) h45 <| akq 25 (.bool false) h45 <| akq 26 (pT d 0) h45 <| avq 28 (.agg (Att.c (v1 1 3 0))) (fun W hS => ldr 28 go (hS) (by rw [Att.c_size _ v1_r]; kernel_rfl)) h45 <| an_o 27 ?_
 refine ncq 9 #[.int .i64 1, .int .i64 3, .int .u8 9] Tryz.func9 ((ltvote1_ok 1 3 9 9 (by decide) _).mono ?_)
 rintro e V48 ⟨rfl, kV48⟩
 refine ⟨_, rfl, ?_⟩
 have h49 : Turns w.heap.size w V48 := Turns.nn h44 kV48
 have h50 := kV48.bk h45
 have kb51 : Keeps Nob V43 V48 := (Keeps.refl Nob V43).nn kV48
 have K52 := K46.nn kV48
 have z53 := kV48.size
 refine ⟨h50, ?_⟩
 refine an_o 29 ?_
 refine ncq 28 #[pT d 0, .agg (Att.c (v1 1 3 9)), .int .i64 2, .agg (Att.c (v1 1 3 0)), .int .i64 7] Tryz.func28 ((ltattests_ok _ d _ _ _ _ _ K52.size (hDV43.keepsN kb51) (v1 1 3 9) (v1_ok _ (by decide) (by decide)) v1_r 2 7 (v1 1 3 0) v1_r kE2 _ v1_vd kY2 rfl _ kN2).mono ?_)
 rintro e V54 ⟨rfl, hDV54, MV54, hMV54, kV54⟩
 refine ⟨_, rfl, ?_⟩
 have h55 : Turns w.heap.size w V54 := Turns.trans h49 ⟨MV54, hMV54, kV54⟩
 have h56 : V54.heap[go]? = some (.cells (Att.c (v1 1 3 0)) 28 (0, 0)) := (kV54.block go (lt_of_block h50) (fun e => hMV54.no h50 e)).trans h50
 have K57 : Keeps ((fun j => w.heap.size ≤ j)) w V54 := K52.then kV54 (fun i hi hm => Nat.le_of_not_lt (fun h => hMV54.sub i h hm))
 have z58 := kV54.size
 refine ⟨h56, ?_⟩
 refine akq 30 (.bool false) h56 <| akq 31 (.bool false) h56 <| akq 32 (.bool false) h56 <| akq 33 (pT d 0) h56 <| avq 35 (.agg (Att.c (v1 1 3 0))) (fun W hS => ldr 28 go (hS) (by rw [Att.c_size _ v1_r]; kernel_rfl)) h56 <| an_o 34 ?_
 refine ncq 9 #[.int .i64 2, .int .i64 2, .int .u8 0] Tryz.func9 ((ltvote1_ok 2 2 0 0 (by decide) _).mono ?_)
 rintro e V59 ⟨rfl, kV59⟩
 refine ⟨_, rfl, ?_⟩
 have h60 : Turns w.heap.size w V59 := Turns.nn h55 kV59
 have h61 := kV59.bk h56
 have kb62 : Keeps Nob V54 V59 := (Keeps.refl Nob V54).nn kV59
 have K63 := K57.nn kV59
 have z64 := kV59.size
 refine ⟨h61, ?_⟩
 refine an_o 36 ?_
 refine ncq 28 #[pT d 0, .agg (Att.c (v1 2 2 0)), .int .i64 4, .agg (Att.c (v1 1 3 0)), .int .i64 7] Tryz.func28 ((ltattests_ok _ d _ _ _ _ _ K63.size (hDV54.keepsN kb62) (v1 2 2 0) (v1_ok _ (by decide) (by decide)) v1_r 4 7 (v1 1 3 0) v1_r kE3 _ v1_vd kY3 rfl _ kN3).mono ?_)
 rintro e V65 ⟨rfl, hDV65, MV65, hMV65, kV65⟩
 refine ⟨_, rfl, ?_⟩
 have h66 : Turns w.heap.size w V65 := Turns.trans h60 ⟨MV65, hMV65, kV65⟩
 have h67 : V65.heap[go]? = some (.cells (Att.c (v1 1 3 0)) 28 (0, 0)) := (kV65.block go (lt_of_block h61) (fun e => hMV65.no h61 e)).trans h61
 have K68 : Keeps ((fun j => w.heap.size ≤ j)) w V65 := K63.then kV65 (fun i hi hm => Nat.le_of_not_lt (fun h => hMV65.sub i h hm))
 have z69 := kV65.size
 refine ⟨h67, ?_⟩
 refine akq 37 (.bool false) h67 <| akq 38 (.bool false) h67 <| an_end (by kernel_rfl) <| sy_a ⟨#[.pointer none, pT d 0, .int .i64 0, pT go 0, .tuple #[pT d 0, .int .i64 0], .agg (ofP 2 3).cells, .tuple #[pT d 0, .int .i64 0], pT d 0, .int .i64 0, .agg (Att.c (v1 1 3 0)), .int .i64 0, .bool false, .bool false, pT d 0, .bool false, .bool false, .bool false, pT d 0, .int .i64 0, .bool false, .bool false, .bool false, pT d 0, .agg (Att.c (v1 1 3 0)), .agg (Att.c zAtt), .bool true, .bool false, .bool false, .bool false, pT d 0, .agg (Att.c (v1 1 3 0)), .agg (Att.c (v1 1 3 0)), .bool true, .bool false, .bool false, .bool false, pT d 0, .agg (Att.c (v1 1 3 9)), .agg (Att.c (v1 1 3 0)), .bool true, .bool false, .bool false, .bool false, pT d 0, .agg (Att.c (v1 2 2 0)), .agg (Att.c (v1 1 3 0)), .bool true, .bool false, .bool false, ud], []⟩ <| then_n <| n_ <| s_ <| tqr_ [0, 1] <| pkq (pT d 0) <| pkq (pT d 0) <| eu_ <| so_ (pT d 0) ?_
 exact ⟨d, rfl, hDV65, h66.keeps (Keeps.refl Nob w) (Nat.le_refl _)⟩
noncomputable def qc120_0 (n : Nat) : Code := partOf Tryz.f8 n
theorem ltsecond_ok (w : World) :
  Calls Tryz.prog 8 #[] w (fun e w' => ∃ d, e = .returned (pT d 0) ∧ Det1 w.heap.size w' d (ofP 2 3) 11 [v1 1 3 0, v1 1 1 0, v1 1 2 0, v1 3 5 0, v1 3 4 0] [] ∧ Keeps Nob w w') := by
 have t0 := Turns.refl w.heap.size w
 obtain ⟨i0, hi0, hz0, hz1, hz2⟩ := info_parts att_info0
 obtain ⟨i1, hi1, hw0, hw1, hw2⟩ := info_parts pro_info0
 have hok := (fun (x : Att) (hx : x ∈ ([v1 1 1 0, v1 1 2 0, v1 1 3 0] : List Att)) => show x.Ok by simp only [List.mem_cons, List.not_mem_nil, or_false] at hx; rcases hx with rfl | rfl | rfl <;> exact v1_ok _ (by decide) (by decide))
 have K0 : Keeps ((fun j => w.heap.size ≤ j)) w w := Keeps.refl _ _
 refine sy_enter (qc120_0 1) ⟨fr [ud] 55, []⟩ Tryz.func8 (by kernel_rfl) (by kernel_rfl) <| qr_ [0] <| pkq (.pointer none) <| eqr_ [0, 1] ?_
 refine pcq 37 #[] Tryz.func37 ((ltfirst_ok _).mono ?_)
 rintro e V1 ⟨d, rfl, hDV1, kV1⟩
 have hLV1 := hDV1.lower K0.size
 refine ⟨_, rfl, ?_⟩
 have h2 : Turns w.heap.size w V1 := Turns.nn t0 kV1
 have K3 := K0.nn kV1
 have z4 := kV1.size
 refine pkq (pT d 0) <| eq_ <| qr_ [0, 1, 2, 3, 4, 5, 6, 7, 8, 9, 10, 11, 12, 13, 14, 15, 16, 17, 18, 19, 20, 21, 22, 23, 24, 25, 26, 27, 28, 29, 30] <| pkq (pT d 0) <| pkq (.bool false) <| pkq (.bool false) <| pkq (pT d 0) ?_
 refine pcq 9 #[.int .i64 1, .int .i64 1, .int .u8 0] Tryz.func9 ((ltvote1_ok 1 1 0 0 (by decide) _).mono ?_)
 rintro e V5 ⟨rfl, kV5⟩
 refine ⟨_, rfl, ?_⟩
 have h6 : Turns w.heap.size w V5 := Turns.nn h2 kV5
 have kb7 : Keeps Nob V1 V5 := (Keeps.refl Nob V1).nn kV5
 have K8 := K3.nn kV5
 have z9 := kV5.size
 refine pkq (.agg (Att.c zAtt)) ?_
 refine pcq 28 #[pT d 0, .agg (Att.c (v1 1 1 0)), .int .i64 0, .agg (Att.c zAtt), .int .i64 0] Tryz.func28 ((ltattests_ok _ d _ _ _ _ _ K8.size (hLV1.keepsN kb7) (v1 1 1 0) (v1_ok _ (by decide) (by decide)) v1_r 0 0 zAtt zAtt_r kE4 _ z_vd kY4 rfl _ kN4).mono ?_)
 rintro e V10 ⟨rfl, hDV10, MV10, hMV10, kV10⟩
 refine ⟨_, rfl, ?_⟩
 have h11 : Turns w.heap.size w V10 := Turns.trans h6 ⟨MV10, hMV10, kV10⟩
 have K12 : Keeps ((fun j => w.heap.size ≤ j)) w V10 := K8.then kV10 (fun i hi hm => Nat.le_of_not_lt (fun h => hMV10.sub i h hm))
 have z13 := kV10.size
 refine pkq (.bool false) <| pkq (.bool false) <| pkq (.bool false) <| pkq (pT d 0) ?_
 refine pcq 9 #[.int .i64 1, .int .i64 2, .int .u8 0] Tryz.func9 ((ltvote1_ok 1 2 0 0 (by decide) _).mono ?_)
 rintro e V14 ⟨rfl, kV14⟩
 refine ⟨_, rfl, ?_⟩
 have h15 : Turns w.heap.size w V14 := Turns.nn h11 kV14
 have kb16 : Keeps Nob V10 V14 := (Keeps.refl Nob V10).nn kV14
 have K17 := K12.nn kV14
 have z18 := kV14.size
 refine pkq (.agg (Att.c zAtt)) ?_
 refine pcq 28 #[pT d 0, .agg (Att.c (v1 1 2 0)), .int .i64 0, .agg (Att.c zAtt), .int .i64 0] Tryz.func28 ((ltattests_ok _ d _ _ _ _ _ K17.size (hDV10.keepsN kb16) (v1 1 2 0) (v1_ok _ (by decide) (by decide)) v1_r 0 0 zAtt zAtt_r kE5 _ z_vd kY5 rfl _ kN5).mono ?_)
 rintro e V19 ⟨rfl, hDV19, MV19, hMV19, kV19⟩
 refine ⟨_, rfl, ?_⟩
 have h20 : Turns w.heap.size w V19 := Turns.trans h15 ⟨MV19, hMV19, kV19⟩
 have K21 : Keeps ((fun j => w.heap.size ≤ j)) w V19 := K17.then kV19 (fun i hi hm => Nat.le_of_not_lt (fun h => hMV19.sub i h hm))
 have z22 := kV19.size
 refine pkq (.bool false) <| pkq (.bool false) <| pkq (.bool false) <| pkq (pT d 0) ?_
 refine pcq 11 #[pT d 0, .int .i64 1] Tryz.func11 ((Det1.votes hDV19 1).mono ?_)
 rintro e V23 ⟨vaV23, rfl, hrV23, hnV23, kV23⟩
 rw [lV1] at hrV23
 have hsV23 : AttsAt V23 vaV23 [v1 1 1 0, v1 1 2 0, v1 1 3 0] := Row.sl hrV23 rfl (fun x hx => Att.cl_len (hok x hx))
 refine ⟨_, rfl, ?_⟩
 have h24 : Turns w.heap.size w V23 := Turns.nn h20 kV23
 have kb25 : Keeps Nob V19 V23 := (Keeps.refl Nob V19).nn kV23
 have K26 := K21.nn kV23
 have z27 := kV23.size
 refine pcq 9 #[.int .i64 1, .int .i64 1, .int .u8 0] Tryz.func9 ((ltvote1_ok 1 1 0 0 (by decide) _).mono ?_)
 rintro e V28 ⟨rfl, kV28⟩
 refine ⟨_, rfl, ?_⟩
 have h29 : Turns w.heap.size w V28 := Turns.nn h24 kV28
 have kb30 : Keeps Nob V19 V28 := kb25.nn kV28
 have h31 : AttsAt V28 vaV23 ([v1 1 1 0, v1 1 2 0, v1 1 3 0]) := hsV23.keepsN kV28
 have K32 := K26.nn kV28
 have z33 := kV28.size
 refine pcq 9 #[.int .i64 1, .int .i64 2, .int .u8 0] Tryz.func9 ((ltvote1_ok 1 2 0 0 (by decide) _).mono ?_)
 rintro e V34 ⟨rfl, kV34⟩
 refine ⟨_, rfl, ?_⟩
 have h35 : Turns w.heap.size w V34 := Turns.nn h29 kV34
 have kb36 : Keeps Nob V19 V34 := kb30.nn kV34
 have h37 : AttsAt V34 vaV23 ([v1 1 1 0, v1 1 2 0, v1 1 3 0]) := h31.keepsN kV34
 have K38 := K32.nn kV34
 have z39 := kV34.size
 refine pcq 9 #[.int .i64 1, .int .i64 3, .int .u8 0] Tryz.func9 ((ltvote1_ok 1 3 0 0 (by decide) _).mono ?_)
 rintro e V40 ⟨rfl, kV40⟩
 refine ⟨_, rfl, ?_⟩
 have h41 : Turns w.heap.size w V40 := Turns.nn h35 kV40
 have kb42 : Keeps Nob V19 V40 := kb36.nn kV40
 have h43 : AttsAt V40 vaV23 ([v1 1 1 0, v1 1 2 0, v1 1 3 0]) := h37.keepsN kV40
 have K44 := K38.nn kV40
 have z45 := kV40.size
 obtain ⟨V46, eV46, gl, egl, h47, kV46⟩ := alloc_step V40 (([.agg (Att.c (v1 1 1 0)), .agg (Att.c (v1 1 2 0)), .agg (Att.c (v1 1 3 0))] : List Value).flatMap fun v => v.cells.toList).toArray 28
 have n48 := nk egl K44
 refine prq (.slice (some ⟨gl, 0, none⟩) 3 3) (w' := V46) (by rw [← eV46, ← egl]; exact exec_buildAll 32 28 3 #[(0, .tmp 23), (1, .tmp 24), (2, .tmp 25)] (by kernel_rfl) [.agg (Att.c (v1 1 1 0)), .agg (Att.c (v1 1 2 0)), .agg (Att.c (v1 1 3 0))] (by kernel_rfl) i0 _ Tryz.underlying32 hi0 hz0 36 hz1 (by decide) rfl (by decide) (by decide) (fun u hu => by simp only [List.mem_cons, List.not_mem_nil, or_false] at hu; rcases hu with rfl | rfl | rfl; exact Att.c_size _ v1_r; exact Att.c_size _ v1_r; exact Att.c_size _ v1_r)) ?_
 clear eV46
 have h49 : V46.heap[gl]? = some (.cells ((List.flatMap Att.cl [v1 1 1 0, v1 1 2 0, v1 1 3 0]).toArray) 28 (0, 0)) := h47
 have h50 : Turns w.heap.size w V46 := Turns.nn h41 kV46
 have kb51 : Keeps Nob V19 V46 := kb42.nn kV46
 have h52 : AttsAt V46 vaV23 ([v1 1 1 0, v1 1 2 0, v1 1 3 0]) := h43.keepsN kV46
 have K53 := K44.nn kV46
 have z54 := kV46.size
 refine pcq 18 #[vaV23, .slice (some ⟨gl, 0, none⟩) 3 3] Tryz.func18 (((show Calls Tryz.prog 18 #[vaV23, .slice (some ⟨gl, 0, none⟩) 3 3] V46 _ from (decide_eq_true (rfl : ([v1 1 1 0, v1 1 2 0, v1 1 3 0] : List Att) = [v1 1 1 0, v1 1 2 0, v1 1 3 0])) ▸ ltsameVotes_ok _ _ [v1 1 1 0, v1 1 2 0, v1 1 3 0] [v1 1 1 0, v1 1 2 0, v1 1 3 0] _ h52 (Sl.blockH h49 (fun x hx => Att.cl_len (hok x hx)) rfl (by decide)) hok hok)).mono ?_)
 rintro e V55 ⟨rfl, kV55⟩
 refine ⟨_, rfl, ?_⟩
 have h56 : Turns w.heap.size w V55 := Turns.nn h50 kV55
 have kb57 : Keeps Nob V19 V55 := kb51.nn kV55
 have ⟨K59, z60, h58⟩ := kV55.z1 K53 h49
 refine pkq (.bool false) <| pkq (.bool false) <| pkq (.bool false) <| pkq (pT d 0) ?_
 refine pcq 17 #[pT d 0, .int .i64 11] Tryz.func17 ((Det1.is_move (x := 11) (hDV19.keepsN kb57) K59.size (e0 := 0) (h' := 11) rfl rfl).mono ?_)
 rintro e V61 ⟨rfl, hDV61, MV61, hMV61, kV61⟩
 refine ⟨_, rfl, ?_⟩
 have h62 : Turns w.heap.size w V61 := Turns.trans h56 ⟨MV61, hMV61, kV61⟩
 have h63 : V61.heap[gl]? = some (.cells ((List.flatMap Att.cl [v1 1 1 0, v1 1 2 0, v1 1 3 0]).toArray) 28 (0, 0)) := (kV61.block gl (lt_of_block h58) (fun e => hMV61.no h58 e)).trans h58
 have K64 : Keeps ((fun j => w.heap.size ≤ j)) w V61 := K59.then kV61 (fun i hi hm => Nat.le_of_not_lt (fun h => hMV61.sub i h hm))
 have z65 := kV61.size
 refine pkq (.bool false) <| pkq (.bool false) <| ps_end <| sy_a ⟨fr [.pointer none, pT d 0, ud, pT d 0, pT d 0, .bool false, .bool false, pT d 0, .agg (Att.c (v1 1 1 0)), .agg (Att.c zAtt), .bool true, .bool false, .bool false, .bool false, pT d 0, .agg (Att.c (v1 1 2 0)), .agg (Att.c zAtt), .bool true, .bool false, .bool false, .bool false, pT d 0, vaV23, .agg (Att.c (v1 1 1 0)), .agg (Att.c (v1 1 2 0)), .agg (Att.c (v1 1 3 0)), .slice (some ⟨gl, 0, none⟩) 3 3, .bool true, .bool false, .bool false, .bool false, pT d 0, .int .i64 0, .bool false, .bool false] 21, []⟩ <| then_n <| n_ <| s_ <| tqr_ [0, 1, 2] ?_
 refine pcq 9 #[.int .i64 3, .int .i64 5, .int .u8 0] Tryz.func9 ((ltvote1_ok 3 5 0 0 (by decide) _).mono ?_)
 rintro e V66 ⟨rfl, kV66⟩
 refine ⟨_, rfl, ?_⟩
 have h67 : Turns w.heap.size w V66 := Turns.nn h62 kV66
 have h68 := kV66.bk h63
 have kb69 : Keeps Nob V61 V66 := (Keeps.refl Nob V61).nn kV66
 have K70 := K64.nn kV66
 have z71 := kV66.size
 refine pal 28 (zl1_) (.agg (zl1_)) fun V72 go ego h73 kV72 => ?_
 have n74 := nl ego h68
 have n75 := nk ego K70
 have h76 : Turns w.heap.size w V72 := Turns.nn h67 kV72
 have kb78 : Keeps Nob V61 V72 := kb69.nn kV72
 have K79 := K70.nn kV72
 have z80 := kV72.size
 refine pst 28 go ((Att.c (v1 3 5 0))) h73 (by rw [Att.c_size _ v1_r]; kernel_rfl) (by rw [Att.c_size _ v1_r]; rfl) (Att.c_one _) fun V81 h82 kV81 => ?_
 have h83 : Turns w.heap.size w V81 := Turns.no h76 kV81 (by omega)
 have kb85 : Keeps Nob V61 V81 := kb78.nO kV81
 have K86 := K79.nO kV81
 have z87 := kV81.size
 refine eq_ <| q_ <| sy_np <| sy_reg <| an_begin 5 19 (opsAt (qc120_0 124)) (fun W => (W.heap[go]? = some (.cells (Att.c (v1 3 5 0)) 28 (0, 0)))) #[false, false, false, false, false, false, false, false, false, false, false, false, false, false, false, false, false, false, false] (by kernel_rfl) (by kernel_rfl) (by kernel_rfl) (by kernel_rfl) ?_
 obtain ⟨V88, eV88, kV88⟩ := drew_step V81
 rw [eV88]
 clear eV88
 have h89 : Turns w.heap.size w V88 := Turns.nn h83 kV88
 have kb91 : Keeps Nob V61 V88 := kb85.nn kV88
 have ⟨K93, z94, h92⟩ := kV88.z1 K86 h82
 refine akq 0 (pT d 0) h92 <| avq 1 (.agg (Att.c (v1 3 5 0))) (fun W hS => ldr 28 go (hS) (by rw [Att.c_size _ v1_r]; kernel_rfl)) h92 <| akq 2 (.agg (Att.c zAtt)) h92 <| an_o 3 ?_
 refine ncq 28 #[pT d 0, .agg (Att.c (v1 3 5 0)), .int .i64 0, .agg (Att.c zAtt), .int .i64 0] Tryz.func28 ((ltattests_ok _ d _ _ _ _ _ K93.size (hDV61.keepsN kb91) (v1 3 5 0) (v1_ok _ (by decide) (by decide)) v1_r 0 0 zAtt zAtt_r kE6 _ z_vd kY6 rfl _ kN6).mono ?_)
 rintro e V95 ⟨rfl, hDV95, MV95, hMV95, kV95⟩
 refine ⟨_, rfl, ?_⟩
 have h96 : Turns w.heap.size w V95 := Turns.trans h89 ⟨MV95, hMV95, kV95⟩
 have h98 : V95.heap[go]? = some (.cells (Att.c (v1 3 5 0)) 28 (0, 0)) := (kV95.block go (lt_of_block h92) (fun e => hMV95.no h92 e)).trans h92
 have K99 : Keeps ((fun j => w.heap.size ≤ j)) w V95 := K93.then kV95 (fun i hi hm => Nat.le_of_not_lt (fun h => hMV95.sub i h hm))
 have z100 := kV95.size
 refine ⟨h98, ?_⟩
 refine akq 4 (.bool false) h98 <| akq 5 (.bool false) h98 <| akq 6 (pT d 0) h98 <| avq 8 (.agg (Att.c (v1 3 5 0))) (fun W hS => ldr 28 go (hS) (by rw [Att.c_size _ v1_r]; kernel_rfl)) h98 <| an_o 7 ?_
 refine ncq 9 #[.int .i64 4, .int .i64 4, .int .u8 0] Tryz.func9 ((ltvote1_ok 4 4 0 0 (by decide) _).mono ?_)
 rintro e V101 ⟨rfl, kV101⟩
 refine ⟨_, rfl, ?_⟩
 have h102 : Turns w.heap.size w V101 := Turns.nn h96 kV101
 have h104 := kV101.bk h98
 have kb105 : Keeps Nob V95 V101 := (Keeps.refl Nob V95).nn kV101
 have K106 := K99.nn kV101
 have z107 := kV101.size
 refine ⟨h104, ?_⟩
 refine an_o 9 ?_
 refine ncq 28 #[pT d 0, .agg (Att.c (v1 4 4 0)), .int .i64 4, .agg (Att.c (v1 3 5 0)), .int .i64 11] Tryz.func28 ((ltattests_ok _ d _ _ _ _ _ K106.size (hDV95.keepsN kb105) (v1 4 4 0) (v1_ok _ (by decide) (by decide)) v1_r 4 11 (v1 3 5 0) v1_r kE7 _ v1_vd kY7 rfl _ kN7).mono ?_)
 rintro e V108 ⟨rfl, hDV108, MV108, hMV108, kV108⟩
 refine ⟨_, rfl, ?_⟩
 have h109 : Turns w.heap.size w V108 := Turns.trans h102 ⟨MV108, hMV108, kV108⟩
 have h111 : V108.heap[go]? = some (.cells (Att.c (v1 3 5 0)) 28 (0, 0)) := (kV108.block go (lt_of_block h104) (fun e => hMV108.no h104 e)).trans h104
 have K112 : Keeps ((fun j => w.heap.size ≤ j)) w V108 := K106.then kV108 (fun i hi hm => Nat.le_of_not_lt (fun h => hMV108.sub i h hm))
 have z113 := kV108.size
 refine ⟨h111, ?_⟩
 refine akq 10 (.bool false) h111 <| akq 11 (.bool false) h111 <| akq 12 (.bool false) h111 <| akq 13 (pT d 0) h111 <| akq 15 (.agg (Att.c zAtt)) h111 <| an_o 14 ?_
 refine ncq 9 #[.int .i64 3, .int .i64 4, .int .u8 0] Tryz.func9 ((ltvote1_ok 3 4 0 0 (by decide) _).mono ?_)
 rintro e V114 ⟨rfl, kV114⟩
 refine ⟨_, rfl, ?_⟩
 have h115 : Turns w.heap.size w V114 := Turns.nn h109 kV114
 have h117 := kV114.bk h111
 have kb118 : Keeps Nob V108 V114 := (Keeps.refl Nob V108).nn kV114
 have K119 := K112.nn kV114
 have z120 := kV114.size
 refine ⟨h117, ?_⟩
 refine an_o 16 ?_
 refine ncq 28 #[pT d 0, .agg (Att.c (v1 3 4 0)), .int .i64 0, .agg (Att.c zAtt), .int .i64 0] Tryz.func28 ((ltattests_ok _ d _ _ _ _ _ K119.size (hDV108.keepsN kb118) (v1 3 4 0) (v1_ok _ (by decide) (by decide)) v1_r 0 0 zAtt zAtt_r kE8 _ z_vd kY8 rfl _ kN8).mono ?_)
 rintro e V121 ⟨rfl, hDV121, MV121, hMV121, kV121⟩
 refine ⟨_, rfl, ?_⟩
 have h122 : Turns w.heap.size w V121 := Turns.trans h115 ⟨MV121, hMV121, kV121⟩
 have h124 : V121.heap[go]? = some (.cells (Att.c (v1 3 5 0)) 28 (0, 0)) := (kV121.block go (lt_of_block h117) (fun e => hMV121.no h117 e)).trans h117
 have K125 : Keeps ((fun j => w.heap.size ≤ j)) w V121 := K119.then kV121 (fun i hi hm => Nat.le_of_not_lt (fun h => hMV121.sub i h hm))
 have z126 := kV121.size
 refine ⟨h124, ?_⟩
 refine akq 17 (.bool false) h124 <| akq 18 (.bool false) h124 <| an_end (by kernel_rfl) <| then_n <| n_ <| s_ <| tqr_ [0, 1] <| pkq (pT d 0) <| pkq (pT d 0) <| ps_end <| sy_a ⟨#[pT d 0, pT d 0, pT go 0, pT d 0, pT d 0, .bool false, .bool false, pT d 0, .agg (Att.c (v1 1 1 0)), .agg (Att.c zAtt), .bool true, .bool false, .bool false, .bool false, pT d 0, .agg (Att.c (v1 1 2 0)), .agg (Att.c zAtt), .bool true, .bool false, .bool false, .bool false, pT d 0, vaV23, .agg (Att.c (v1 1 1 0)), .agg (Att.c (v1 1 2 0)), .agg (Att.c (v1 1 3 0)), .slice (some ⟨gl, 0, none⟩) 3 3, .bool true, .bool false, .bool false, .bool false, pT d 0, .int .i64 0, .bool false, .bool false, .agg (Att.c (v1 3 5 0)), pT d 0, .agg (Att.c (v1 3 5 0)), .agg (Att.c zAtt), .bool true, .bool false, .bool false, pT d 0, .agg (Att.c (v1 4 4 0)), .agg (Att.c (v1 3 5 0)), .bool true, .bool false, .bool false, .bool false, pT d 0, .agg (Att.c (v1 3 4 0)), .agg (Att.c zAtt), .bool true, .bool false, .bool false, pT d 0], []⟩ <| then_n <| u_ <| so_ (pT d 0) ?_
 exact ⟨d, rfl, hDV121, h122.keeps (Keeps.refl Nob w) (Nat.le_refl _)⟩
noncomputable def qc120_1 (n : Nat) : Code := partOf Tryz.f20 n
theorem ltawake_ok (w : World) :
  Calls Tryz.prog 20 #[] w (fun e w' => e = .returned (.bool true) ∧ Keeps Nob w w') := by
 have t0 := Turns.refl w.heap.size w
 obtain ⟨i0, hi0, hz0, hz1, hz2⟩ := info_parts att_info0
 obtain ⟨i1, hi1, hw0, hw1, hw2⟩ := info_parts pro_info0
 have hok := (fun (x : Att) (hx : x ∈ ([v1 1 3 0, v1 3 4 0, v1 3 5 0] : List Att)) => show x.Ok by simp only [List.mem_cons, List.not_mem_nil, or_false] at hx; rcases hx with rfl | rfl | rfl <;> exact v1_ok _ (by decide) (by decide))
 have K0 : Keeps ((fun j => w.heap.size ≤ j)) w w := Keeps.refl _ _
 refine sy_enter (qc120_1 1) ⟨fr [ud] 23, []⟩ Tryz.func20 (by kernel_rfl) (by kernel_rfl) <| qr_ [0] <| pkq (.bool false) <| eqr_ [0, 1] ?_
 refine pcq 8 #[] Tryz.func8 ((ltsecond_ok _).mono ?_)
 rintro e V1 ⟨d, rfl, hDV1, kV1⟩
 have hLV1 := hDV1.lower K0.size
 refine ⟨_, rfl, ?_⟩
 have h2 : Turns w.heap.size w V1 := Turns.nn t0 kV1
 have K3 := K0.nn kV1
 have z4 := kV1.size
 refine pkq (pT d 0) <| eqr_ [0, 1, 2, 3, 4, 5, 6, 7, 8, 9, 10, 11, 12, 13, 14, 15, 16, 17, 18, 19, 20, 21] <| pkq (pT d 0) <| pkq (.bool true) <| pkq (.bool true) <| pkq (pT d 0) ?_
 refine pcq 11 #[pT d 0, .int .i64 1] Tryz.func11 ((Det1.votes hLV1 1).mono ?_)
 rintro e V5 ⟨vaV5, rfl, hrV5, hnV5, kV5⟩
 rw [lV2] at hrV5
 have hsV5 : AttsAt V5 vaV5 [v1 1 3 0, v1 3 4 0, v1 3 5 0] := Row.sl hrV5 rfl (fun x hx => Att.cl_len (hok x hx))
 refine ⟨_, rfl, ?_⟩
 have h6 : Turns w.heap.size w V5 := Turns.nn h2 kV5
 have kb7 : Keeps Nob V1 V5 := (Keeps.refl Nob V1).nn kV5
 have K8 := K3.nn kV5
 have z9 := kV5.size
 refine pcq 9 #[.int .i64 1, .int .i64 3, .int .u8 0] Tryz.func9 ((ltvote1_ok 1 3 0 0 (by decide) _).mono ?_)
 rintro e V10 ⟨rfl, kV10⟩
 refine ⟨_, rfl, ?_⟩
 have h11 : Turns w.heap.size w V10 := Turns.nn h6 kV10
 have kb12 : Keeps Nob V1 V10 := kb7.nn kV10
 have h13 : AttsAt V10 vaV5 ([v1 1 3 0, v1 3 4 0, v1 3 5 0]) := hsV5.keepsN kV10
 have K14 := K8.nn kV10
 have z15 := kV10.size
 refine pcq 9 #[.int .i64 3, .int .i64 4, .int .u8 0] Tryz.func9 ((ltvote1_ok 3 4 0 0 (by decide) _).mono ?_)
 rintro e V16 ⟨rfl, kV16⟩
 refine ⟨_, rfl, ?_⟩
 have h17 : Turns w.heap.size w V16 := Turns.nn h11 kV16
 have kb18 : Keeps Nob V1 V16 := kb12.nn kV16
 have h19 : AttsAt V16 vaV5 ([v1 1 3 0, v1 3 4 0, v1 3 5 0]) := h13.keepsN kV16
 have K20 := K14.nn kV16
 have z21 := kV16.size
 refine pcq 9 #[.int .i64 3, .int .i64 5, .int .u8 0] Tryz.func9 ((ltvote1_ok 3 5 0 0 (by decide) _).mono ?_)
 rintro e V22 ⟨rfl, kV22⟩
 refine ⟨_, rfl, ?_⟩
 have h23 : Turns w.heap.size w V22 := Turns.nn h17 kV22
 have kb24 : Keeps Nob V1 V22 := kb18.nn kV22
 have h25 : AttsAt V22 vaV5 ([v1 1 3 0, v1 3 4 0, v1 3 5 0]) := h19.keepsN kV22
 have K26 := K20.nn kV22
 have z27 := kV22.size
 obtain ⟨V28, eV28, gl, egl, h29, kV28⟩ := alloc_step V22 (([.agg (Att.c (v1 1 3 0)), .agg (Att.c (v1 3 4 0)), .agg (Att.c (v1 3 5 0))] : List Value).flatMap fun v => v.cells.toList).toArray 28
 have n30 := nk egl K26
 refine prq (.slice (some ⟨gl, 0, none⟩) 3 3) (w' := V28) (by rw [← eV28, ← egl]; exact exec_buildAll 32 28 3 #[(0, .tmp 8), (1, .tmp 9), (2, .tmp 10)] (by kernel_rfl) [.agg (Att.c (v1 1 3 0)), .agg (Att.c (v1 3 4 0)), .agg (Att.c (v1 3 5 0))] (by kernel_rfl) i0 _ Tryz.underlying32 hi0 hz0 36 hz1 (by decide) rfl (by decide) (by decide) (fun u hu => by simp only [List.mem_cons, List.not_mem_nil, or_false] at hu; rcases hu with rfl | rfl | rfl; exact Att.c_size _ v1_r; exact Att.c_size _ v1_r; exact Att.c_size _ v1_r)) ?_
 clear eV28
 have h31 : V28.heap[gl]? = some (.cells ((List.flatMap Att.cl [v1 1 3 0, v1 3 4 0, v1 3 5 0]).toArray) 28 (0, 0)) := h29
 have h32 : Turns w.heap.size w V28 := Turns.nn h23 kV28
 have kb33 : Keeps Nob V1 V28 := kb24.nn kV28
 have h34 : AttsAt V28 vaV5 ([v1 1 3 0, v1 3 4 0, v1 3 5 0]) := h25.keepsN kV28
 have K35 := K26.nn kV28
 have z36 := kV28.size
 refine pcq 18 #[vaV5, .slice (some ⟨gl, 0, none⟩) 3 3] Tryz.func18 (((show Calls Tryz.prog 18 #[vaV5, .slice (some ⟨gl, 0, none⟩) 3 3] V28 _ from (decide_eq_true (rfl : ([v1 1 3 0, v1 3 4 0, v1 3 5 0] : List Att) = [v1 1 3 0, v1 3 4 0, v1 3 5 0])) ▸ ltsameVotes_ok _ _ [v1 1 3 0, v1 3 4 0, v1 3 5 0] [v1 1 3 0, v1 3 4 0, v1 3 5 0] _ h34 (Sl.blockH h31 (fun x hx => Att.cl_len (hok x hx)) rfl (by decide)) hok hok)).mono ?_)
 rintro e V37 ⟨rfl, kV37⟩
 refine ⟨_, rfl, ?_⟩
 have h38 : Turns w.heap.size w V37 := Turns.nn h32 kV37
 have kb39 : Keeps Nob V1 V37 := kb33.nn kV37
 have K41 := K35.nn kV37
 have z42 := kV37.size
 refine pkq (.bool true) <| pkq (.bool true) <| pkq (pT d 0) ?_
 refine pcq 14 #[.int .i64 11, .int .u8 0] Tryz.func14 ((ltblock1_ok 11 0 0 (by decide) _).mono ?_)
 rintro e V43 ⟨rfl, kV43⟩
 refine ⟨_, rfl, ?_⟩
 have h44 : Turns w.heap.size w V43 := Turns.nn h38 kV43
 have kb45 : Keeps Nob V1 V43 := kb39.nn kV43
 have K47 := K41.nn kV43
 have z48 := kV43.size
 refine pcq 13 #[pT d 0, .agg (Pro.c (b1 11 0)), .int .i64 0, .int .i64 0, .int .i64 0] Tryz.func13 ((ltproposes_ok _ d _ _ _ _ _ K47.size (hLV1.keepsN kb45) (b1 11 0) (b1_ok _ (by decide)) b1_r 0 0 0 pE0 _ z_vd pY0 rfl rfl _ pN0).mono ?_)
 rintro e V49 ⟨rfl, hDV49, MV49, hMV49, kV49⟩
 refine ⟨_, rfl, ?_⟩
 have h50 : Turns w.heap.size w V49 := Turns.trans h44 ⟨MV49, hMV49, kV49⟩
 have K52 : Keeps ((fun j => w.heap.size ≤ j)) w V49 := K47.then kV49 (fun i hi hm => Nat.le_of_not_lt (fun h => hMV49.sub i h hm))
 have z53 := kV49.size
 refine pkq (.bool true) <| pkq (.bool true) <| pkq (pT d 0) ?_
 refine pcq 14 #[.int .i64 11, .int .u8 9] Tryz.func14 ((ltblock1_ok 11 9 9 (by decide) _).mono ?_)
 rintro e V54 ⟨rfl, kV54⟩
 refine ⟨_, rfl, ?_⟩
 have h55 : Turns w.heap.size w V54 := Turns.nn h50 kV54
 have kb57 : Keeps Nob V49 V54 := (Keeps.refl Nob V49).nn kV54
 have K58 := K52.nn kV54
 have z59 := kV54.size
 refine pcq 13 #[pT d 0, .agg (Pro.c (b1 11 9)), .int .i64 2, .int .i64 11, .int .i64 0] Tryz.func13 ((ltproposes_ok _ d _ _ _ _ _ K58.size (hDV49.keepsN kb57) (b1 11 9) (b1_ok _ (by decide)) b1_r 2 11 0 pE1 _ b1_vd pY1 rfl rfl _ pN1).mono ?_)
 rintro e V60 ⟨rfl, hDV60, MV60, hMV60, kV60⟩
 refine ⟨_, rfl, ?_⟩
 have h61 : Turns w.heap.size w V60 := Turns.trans h55 ⟨MV60, hMV60, kV60⟩
 have K63 : Keeps ((fun j => w.heap.size ≤ j)) w V60 := K58.then kV60 (fun i hi hm => Nat.le_of_not_lt (fun h => hMV60.sub i h hm))
 have z64 := kV60.size
 refine pkq (.bool true) <| pkq (.bool true) <| ps_end <| sy_a ⟨#[.bool true, pT d 0, pT d 0, pT d 0, .bool true, .bool true, pT d 0, vaV5, .agg (Att.c (v1 1 3 0)), .agg (Att.c (v1 3 4 0)), .agg (Att.c (v1 3 5 0)), .slice (some ⟨gl, 0, none⟩) 3 3, .bool true, .bool true, .bool true, pT d 0, .agg (Pro.c (b1 11 0)), .bool true, .bool true, .bool true, pT d 0, .agg (Pro.c (b1 11 9)), .bool true, .bool true], []⟩ <| then_n <| u_ <| so_ (.bool true) ?_
 exact ⟨rfl, h61.keeps (Keeps.refl Nob w) (Nat.le_refl _)⟩
end Go.Proofs.YthmclmbeflbhhaaGreat
namespace Go.Proofs.YthmclmbeflbhhaaGreat
set_option maxRecDepth 100000
set_option maxHeartbeats 4000000
open Go Go.RowKit Go.Own Go.Shelf
theorem none_at {w : World} {d : Nat} (h : w.heap[d]? = some (.cells (detC zPar 0 fun _ => none) 79 (0, 0))) {k : Nat} (hk : k < 2) : ∃ u, (#[.pointer none, pT d 0] : Array Value)[k]? = some u ∧ NoDet w u := by
 match k, hk with
 | 0, _ => exact ⟨_, rfl, .inl rfl⟩
 | 1, _ => exact ⟨_, rfl, .inr ⟨d, zPar, _, rfl, h⟩⟩
noncomputable def qc121_0 (n : Nat) : Code := partOf Tryz.f7 n
theorem none_all (x : DAct) (w : World) (hx : x.Ok) :
  Calls Tryz.prog 7 #[.agg (DAct.c x)] w (fun e w' => e = .returned (.bool true) ∧ Keeps Nob w w') := by
 have K0 : Keeps Nob w w := Keeps.refl _ _
 refine sy_enter (qc121_0 1) ⟨fr [.agg (DAct.c x)] 87, []⟩ Tryz.func7 (by kernel_rfl) (by kernel_rfl) <| qr_ [0, 1] <| pbx 54 ((DAct.c x)) (.agg (DAct.c x)) fun V1 gx egx h2 kV1 => ?_
 have n3 := nk egx K0
 have K4 := K0.nn kV1
 have z5 := kV1.size
 refine pkq (.bool false) <| eqr_ [0, 1, 2, 3] <| pkq (.agg (detC zPar 0 fun _ => none)) ?_
 refine pbx 79 ((detC zPar 0 fun _ => none)) (.agg (detC zPar 0 fun _ => none)) fun V6 d0 ed0 h7 kV6 => ?_
 have n8 := nl ed0 h2
 have n9 := nk ed0 K4
 have ⟨K11, z12, h10⟩ := kV6.z1 K4 h2
 obtain ⟨V13, eV13, gl, egl, h14, kV13⟩ := alloc_step V6 (#[.pointer none, pT d0 0]) 22
 have n15 := nl egl h10
 have n16 := nl egl h7
 have n17 := nk egl K11
 refine prq (.slice (some ⟨gl, 0, none⟩) 2 2) (w' := V13) (by rw [← eV13, ← egl]; kernel_rfl) ?_
 have ⟨K20, z21, h18, h19⟩ := kV13.z2 K11 h10 h7
 refine pkq (.slice (some ⟨gl, 0, none⟩) 2 2) <| eq_ <| qr_ [0] <| pkq (.int .i64 0) <| et_ <| bl_ 0 ?_
 refine sy_loop (qc121_0 116) (fun a V => ∃ (k : Nat) (uu : Nat → Value), (a = ⟨#[.agg (DAct.c x), pT gx 0, uu 0, .slice (some ⟨gl, 0, none⟩) 2 2, iN k, uu 1, uu 2, uu 3, uu 4, uu 5, .agg (detC zPar 0 fun _ => none), pT d0 0, .slice (some ⟨gl, 0, none⟩) 2 2, uu 6, uu 7, uu 8, uu 9, uu 10, uu 11, uu 12, uu 13, uu 14, uu 15, uu 16, uu 17, uu 18, uu 19, uu 20, uu 21, uu 22, uu 23, uu 24, uu 25, uu 26, uu 27, uu 28, uu 29, uu 30, uu 31, uu 32, uu 33, uu 34, uu 35, uu 36, uu 37, uu 38, uu 39, uu 40, uu 41, uu 42, uu 43, uu 44, uu 45, uu 46, uu 47, uu 48, uu 49, uu 50, uu 51, uu 52, uu 53, uu 54, uu 55, uu 56, uu 57, uu 58, uu 59, uu 60, uu 61, uu 62, uu 63, uu 64, uu 65, uu 66, uu 67, uu 68, uu 69, uu 70, uu 71, uu 72, uu 73, uu 74, uu 75, uu 76, uu 77, uu 78, uu 79, ud], []⟩) ∧ (k ≤ 2) ∧ (V.heap[gx]? = some (.cells (DAct.c x) 54 (0, 0))) ∧ (V.heap[d0]? = some (.cells (detC zPar 0 fun _ => none) 79 (0, 0))) ∧ (V.heap[gl]? = some (.cells (#[.pointer none, pT d0 0]) 22 (0, 0))) ∧ (Keeps Nob w V)) (fun a _ => 2 - (intOf (a.tmps.getD 4 undef)).toNat) (by kernel_rfl) ?_ ?_
 ·exact ⟨0, (fun kz => ([.bool false, undef, undef, undef, undef, undef, undef, undef, undef, undef, undef, undef, undef, undef, undef, undef, undef, undef, undef, undef, undef, undef, undef, undef, undef, undef, undef, undef, undef, undef, undef, undef, undef, undef, undef, undef, undef, undef, undef, undef, undef, undef, undef, undef, undef, undef, undef, undef, undef, undef, undef, undef, undef, undef, undef, undef, undef, undef, undef, undef, undef, undef, undef, undef, undef, undef, undef, undef, undef, undef, undef, undef, undef, undef, undef, undef, undef, undef, undef, undef] : List Value).getD kz undef), by kernel_rfl, by omega, h18, h19, h14, K20⟩
 ·rintro a V22 ⟨k, uu, rfl, hk, h23, h24, h25, K26⟩
  by_cases lt_k : k < 2
  ·obtain ⟨u, hu, hnu⟩ := none_at h24 lt_k
   refine q_ <| qr_ [0, 1] <| pkq (iN k) <| ppq (.bool true) (dct ((((k : Nat) : Int)) < ((2) : Int)) (by omega)) <| ey_ <| s_ <| tq_ <| bl_ 1 <| qr_ [0, 1, 2, 3, 4] <| pkq (.slice (some ⟨gl, 0, none⟩) 2 2) <| pkq (iN k) <| ppq (pT gl k) (exec_cast (v := pT gl (0 + k * 1)) (by simp) (exec_indexAt_slice 80 (.tmp 17) (.tmp 18) (by kernel_rfl) gl 0 2 2 (by kernel_rfl) .i64 k (by kernel_rfl) _ 1 Tryz.underlying80 (by kernel_rfl) (by omega))) <| ppq (u) (ldc 22 gl k (rc (h25) (hu))) <| pkq (u) ?_
   refine eqr_ [0, 1, 2, 3, 4, 5, 6, 7, 8, 9] <| pkq (u) <| pkq (pT gx 1) <| ppq (.agg (Att.c x.a)) (exec_load_seg 28 (.tmp 23) (by kernel_rfl) gx 1 (by kernel_rfl) (Att.cl x.a) _ _ _ h23 (fun j u h => DAct.c_a h) Tryz.underlying28 rfl (by rw [Att.cl_len hx.a]; kernel_rfl)) ?_
   refine pcq 24 #[u, .agg (Att.c x.a)] Tryz.func24 ((dAttest_none u x.a hx.a.r _ hnu).mono ?_)
   rintro e V27 ⟨rfl, kV27⟩
   refine ⟨_, rfl, ?_⟩
   have ⟨h28, h29, h30⟩ := kV27.k3 h23 h24 h25
   have kb31 : Keeps Nob V22 V27 := (Keeps.refl Nob V22).nn kV27
   have K32 := K26.nn kV27
   have z33 := kV27.size
   refine pkq (.tuple #[.agg (Vd.c Vd.z), .int .i64 1]) <| pkq (.agg (Vd.c Vd.z)) <| pkq (.int .i64 1) <| pal 57 (vdC 0 attZ proZ 0) (.agg (vdC 0 attZ proZ 0)) fun V34 va eva h35 kV34 => ?_
   have n36 := nl eva h28
   have n37 := nl eva h29
   have n38 := nl eva h30
   have n39 := nk eva K32
   have ⟨h40, h41, h42⟩ := kV34.k3 h28 h29 h30
   have kb43 : Keeps Nob V22 V34 := kb31.nn kV34
   have K44 := K32.nn kV34
   have z45 := kV34.size
   refine pst 57 va (Vd.c Vd.z) h35 (by rw [Vd.c_size Vd.z_ok]; kernel_rfl) (vd_sizes (Vd.c_size Vd.z_ok) (by kernel_rfl)) Vd.c_one fun V46 h47 kV46 => ?_
   have ⟨h48, h49, h50⟩ := kV46.ko3 h40 h41 h42
   have kb51 : Keeps Nob V22 V46 := kb43.nO kV46
   have K52 := K44.nO kV46
   have z53 := kV46.size
   refine pkq (.int .i64 1) <| eqr_ [0, 1, 2, 3, 4, 5, 6, 7, 8, 9] <| pkq (u) <| pkq (pT gx 37) <| ppq (.agg (Pro.c x.q)) (exec_load_seg 37 (.tmp 30) (by kernel_rfl) gx 37 (by kernel_rfl) (Pro.cl x.q) _ _ _ h48 (fun j u h => DAct.c_q hx h) Tryz.underlying37 rfl (by rw [Pro.cl_len hx.q]; kernel_rfl)) ?_
   refine pcq 25 #[u, .agg (Pro.c x.q)] Tryz.func25 ((dPropose_none u x.q hx.q.r _ (hnu.keepsN kb51)).mono ?_)
   rintro e V54 ⟨rfl, kV54⟩
   refine ⟨_, rfl, ?_⟩
   have ⟨h55, h56, h57⟩ := kV54.k3 h48 h49 h50
   have kb58 : Keeps Nob V22 V54 := kb51.nn kV54
   have ⟨K60, z61, h59⟩ := kV54.z1 K52 h47
   refine pkq (.tuple #[.agg (Vd.c Vd.z), .int .i64 1]) <| pkq (.agg (Vd.c Vd.z)) <| pkq (.int .i64 1) <| pal 57 (vdC 0 attZ proZ 0) (.agg (vdC 0 attZ proZ 0)) fun V62 vb evb h63 kV62 => ?_
   have n64 := nl evb h55
   have n65 := nl evb h56
   have n66 := nl evb h57
   have n67 := nl evb h59
   have n68 := nk evb K60
   have ⟨h69, h70, h71⟩ := kV62.k3 h55 h56 h57
   have kb72 : Keeps Nob V22 V62 := kb58.nn kV62
   have ⟨K74, z75, h73⟩ := kV62.z1 K60 h59
   refine pst 57 vb (Vd.c Vd.z) h63 (by rw [Vd.c_size Vd.z_ok]; kernel_rfl) (vd_sizes (Vd.c_size Vd.z_ok) (by kernel_rfl)) Vd.c_one fun V76 h77 kV76 => ?_
   have ⟨h78, h79, h80⟩ := kV76.ko3 h69 h70 h71
   have kb81 : Keeps Nob V22 V76 := kb72.nO kV76
   have ⟨K83, z84, h82⟩ := kV76.zo1 K74 h73
   refine pkq (.int .i64 1) <| ps_end <| sy_a ⟨#[.agg (DAct.c x), pT gx 0, uu 0, .slice (some ⟨gl, 0, none⟩) 2 2, iN k, u, pT va 0, .int .i64 1, pT vb 0, .int .i64 1, .agg (detC zPar 0 fun _ => none), pT d0 0, .slice (some ⟨gl, 0, none⟩) 2 2, iN k, .bool true, uu 8, uu 9, .slice (some ⟨gl, 0, none⟩) 2 2, iN k, pT gl k, u, .tuple #[.agg (Vd.c Vd.z), .int .i64 1], u, pT gx 1, .agg (Att.c x.a), .tuple #[.agg (Vd.c Vd.z), .int .i64 1], .agg (Vd.c Vd.z), .int .i64 1, .tuple #[.agg (Vd.c Vd.z), .int .i64 1], u, pT gx 37, .agg (Pro.c x.q), .tuple #[.agg (Vd.c Vd.z), .int .i64 1], .agg (Vd.c Vd.z), .int .i64 1, uu 28, uu 29, uu 30, uu 31, uu 32, uu 33, uu 34, uu 35, uu 36, uu 37, uu 38, uu 39, uu 40, uu 41, uu 42, uu 43, uu 44, uu 45, uu 46, uu 47, uu 48, uu 49, uu 50, uu 51, uu 52, uu 53, uu 54, uu 55, uu 56, uu 57, uu 58, uu 59, uu 60, uu 61, uu 62, uu 63, uu 64, uu 65, uu 66, uu 67, uu 68, uu 69, uu 70, uu 71, uu 72, uu 73, uu 74, uu 75, uu 76, uu 77, uu 78, uu 79, ud], []⟩ <| tqr_ [0, 1, 2, 3, 4, 5, 6, 7, 8, 9, 10, 11, 12, 13, 14, 15, 16, 17, 18, 19, 20, 21, 22, 23, 24, 25, 26, 27, 28, 29, 30, 31, 32, 33, 34, 35, 36, 37, 38, 39, 40, 41, 42, 43, 44, 45, 46, 47, 48, 49, 50, 51] <| ppq (.agg (Vd.c Vd.z)) (ldr 57 va (h82) (by rw [Vd.c_size Vd.z_ok]; kernel_rfl)) <| pkq (.agg (vdC 0 attZ proZ 0)) <| ppq (.bool false) (exec_cast (congrArg Value.bool (by simp : (!decide ((Vd.z : Vd) = Vd.z)) = false)) (exec_binop .neq 57 57 (.tmp 35) (.tmp 36) (by kernel_rfl) (.agg (Vd.c Vd.z)) (.agg (Vd.c Vd.z)) _ (by kernel_rfl) (by kernel_rfl) (run_eqGuard_agg _ _ _ _ _ _ _ vd_guard) (vd_ne _ _ Vd.z_ok Vd.z_ok _))) <| pkq (.bool false) <| pkq (.int .i64 1) <| pkq (.bool false) <| pkq (.bool false) <| pkq (.bool false) <| ppq (.agg (Vd.c Vd.z)) (ldr 57 vb (h77) (by rw [Vd.c_size Vd.z_ok]; kernel_rfl)) <| pkq (.agg (vdC 0 attZ proZ 0)) ?_
   refine ppq (.bool false) (exec_cast (congrArg Value.bool (by simp : (!decide ((Vd.z : Vd) = Vd.z)) = false)) (exec_binop .neq 57 57 (.tmp 43) (.tmp 44) (by kernel_rfl) (.agg (Vd.c Vd.z)) (.agg (Vd.c Vd.z)) _ (by kernel_rfl) (by kernel_rfl) (run_eqGuard_agg _ _ _ _ _ _ _ vd_guard) (vd_ne _ _ Vd.z_ok Vd.z_ok _))) <| pkq (.bool false) <| pkq (.bool false) <| pkq (.int .i64 1) <| pkq (.bool false) <| pkq (.bool false) <| pkq (.bool false) <| pkq (u) <| pkq (pT gx 72) <| ppq (.int .i64 x.h) (ldc 3 gx 72 (rc (h78) (DAct.c_h hx))) ?_
   refine pcq 17 #[u, .int .i64 x.h] Tryz.func17 ((dMove_none u _ x.h (hnu.keepsN kb81)).mono ?_)
   rintro e w1 ⟨rfl, rfl⟩
   refine ⟨_, rfl, ?_⟩
   refine pkq (.bool false) <| pkq (.bool false) <| pkq (.bool false) <| pkq (u) ?_
   refine pcq 12 #[u] Tryz.func12 ((dHeight_none u _ (hnu.keepsN kb81)).mono ?_)
   rintro e w1 ⟨rfl, rfl⟩
   refine ⟨_, rfl, ?_⟩
   refine pkq (.bool false) <| pkq (.bool false) <| pkq (.bool false) <| pkq (u) <| pkq (pT gx 1) <| pkq (pT gx 1) <| ppq (.int .i64 x.a.v) (ldc 3 gx 1 (rc (h78) (DAct.c_a (j := 0) Att.cl_0))) ?_
   refine pcq 11 #[u, .int .i64 x.a.v] Tryz.func11 ((dVotes_none u _ (hnu.keepsN kb81) x.a.v).mono ?_)
   rintro e w1 ⟨rfl, rfl⟩
   refine ⟨_, rfl, ?_⟩
   refine ppq (.int .i64 0) (exec_len (.tmp 68) 32 _ (by kernel_rfl) Tryz.underlying32 none 0 0 (by kernel_rfl)) <| pkq (.bool false) <| pkq (.bool false) <| pkq (.bool false) <| pkq (u) <| pkq (pT gx 37) <| pkq (pT gx 37) <| ppq (.int .i64 x.q.v) (ldc 3 gx 37 (rc (h78) (DAct.c_q (j := 0) hx Pro.cl_0))) ?_
   refine pcq 16 #[u, .int .i64 x.q.v] Tryz.func16 ((dBlocks_none u _ (hnu.keepsN kb81) x.q.v).mono ?_)
   rintro e w1 ⟨rfl, rfl⟩
   refine ⟨_, rfl, ?_⟩
   refine ppq (.int .i64 0) (exec_len (.tmp 77) 40 _ (by kernel_rfl) Tryz.underlying40 none 0 0 (by kernel_rfl)) <| pkq (.bool false) <| pkq (.bool false) <| pkq (.bool false) <| pkq (u) ?_
   refine pcq 36 #[u] Tryz.func36 ((dCopy_none u _ (hnu.keepsN kb81)).mono ?_)
   rintro e V85 ⟨c, rfl, hcV85, hwV85, kV85⟩
   have hnc : NoDet V85 (pT c 0) := .inr ⟨c, zPar, _, rfl, hcV85⟩
   refine ⟨_, rfl, ?_⟩
   have ⟨h86, h87, h88⟩ := kV85.k3 h78 h79 h80
   have kb89 : Keeps Nob V22 V85 := kb81.nn kV85
   have K92 := K83.nn kV85
   have z93 := kV85.size
   refine pcq 17 #[pT c 0, .int .i64 1] Tryz.func17 ((dMove_none _ _ 1 hnc).mono ?_)
   rintro e w1 ⟨rfl, rfl⟩
   refine ⟨_, rfl, ?_⟩
   refine pkq (.bool false) <| pkq (.bool false) <| ps_end <| sy_a ⟨#[.agg (DAct.c x), pT gx 0, uu 0, .slice (some ⟨gl, 0, none⟩) 2 2, iN k, u, pT va 0, .int .i64 1, pT vb 0, .int .i64 1, .agg (detC zPar 0 fun _ => none), pT d0 0, .slice (some ⟨gl, 0, none⟩) 2 2, iN k, .bool true, uu 8, uu 9, .slice (some ⟨gl, 0, none⟩) 2 2, iN k, pT gl k, u, .tuple #[.agg (Vd.c Vd.z), .int .i64 1], u, pT gx 1, .agg (Att.c x.a), .tuple #[.agg (Vd.c Vd.z), .int .i64 1], .agg (Vd.c Vd.z), .int .i64 1, .tuple #[.agg (Vd.c Vd.z), .int .i64 1], u, pT gx 37, .agg (Pro.c x.q), .tuple #[.agg (Vd.c Vd.z), .int .i64 1], .agg (Vd.c Vd.z), .int .i64 1, .agg (Vd.c Vd.z), .agg (vdC 0 attZ proZ 0), .bool false, .bool false, .int .i64 1, .bool false, .bool false, .bool false, .agg (Vd.c Vd.z), .agg (vdC 0 attZ proZ 0), .bool false, .bool false, .bool false, .int .i64 1, .bool false, .bool false, .bool false, u, pT gx 72, .int .i64 x.h, .int .i64 1, .bool false, .bool false, .bool false, u, .int .i64 0, .bool false, .bool false, .bool false, u, pT gx 1, pT gx 1, .int .i64 x.a.v, .slice none 0 0, .int .i64 0, .bool false, .bool false, .bool false, u, pT gx 37, pT gx 37, .int .i64 x.q.v, .slice none 0 0, .int .i64 0, .bool false, .bool false, .bool false, u, pT c 0, .int .i64 1, .bool false, .bool false, ud], []⟩ <| then_n <| n_ <| s_ <| blk_n <| tr_ [0, 1, 2] <| pkq (iN k) <| ppq (iN (k + 1)) (exec_cast (congrArg (Value.int .i64) (wrapN (k + 1) (by omega))) (by kernel_rfl)) <| pkq (iN (k + 1)) <| et_ ?_
   refine ⟨⟨k + 1, (fun kz => ([uu 0, u, pT va 0, .int .i64 1, pT vb 0, .int .i64 1, iN k, .bool true, iN k, iN (k + 1), .slice (some ⟨gl, 0, none⟩) 2 2, iN k, pT gl k, u, .tuple #[.agg (Vd.c Vd.z), .int .i64 1], u, pT gx 1, .agg (Att.c x.a), .tuple #[.agg (Vd.c Vd.z), .int .i64 1], .agg (Vd.c Vd.z), .int .i64 1, .tuple #[.agg (Vd.c Vd.z), .int .i64 1], u, pT gx 37, .agg (Pro.c x.q), .tuple #[.agg (Vd.c Vd.z), .int .i64 1], .agg (Vd.c Vd.z), .int .i64 1, .agg (Vd.c Vd.z), .agg (vdC 0 attZ proZ 0), .bool false, .bool false, .int .i64 1, .bool false, .bool false, .bool false, .agg (Vd.c Vd.z), .agg (vdC 0 attZ proZ 0), .bool false, .bool false, .bool false, .int .i64 1, .bool false, .bool false, .bool false, u, pT gx 72, .int .i64 x.h, .int .i64 1, .bool false, .bool false, .bool false, u, .int .i64 0, .bool false, .bool false, .bool false, u, pT gx 1, pT gx 1, .int .i64 x.a.v, .slice none 0 0, .int .i64 0, .bool false, .bool false, .bool false, u, pT gx 37, pT gx 37, .int .i64 x.q.v, .slice none 0 0, .int .i64 0, .bool false, .bool false, .bool false, u, pT c 0, .int .i64 1, .bool false, .bool false] : List Value).getD kz undef), by kernel_rfl, by omega, h86, h87, h88, K92⟩, ?_⟩
   exact lt_meas (x := 2 - (k + 1)) (y := 2 - k) (by kernel_rfl) (by kernel_rfl) (by omega)
  ·have eq_k : k = 2 := by omega
   refine q_ <| qr_ [0, 1] <| pkq (iN k) <| ppq (.bool false) (dcf ((((k : Nat) : Int)) < ((2) : Int)) (by omega)) <| en_ <| sy_exit 0 (by kernel_rfl) <| then_e <| then_e <| blk_e <| tqr_ [0, 1] ?_
   refine pcq 20 #[] Tryz.func20 ((ltawake_ok _).mono ?_)
   rintro e V94 ⟨rfl, kV94⟩
   refine ⟨_, rfl, ?_⟩
   have K98 := K26.nn kV94
   have z99 := kV94.size
   refine pkq (.bool true) <| eu_ <| so_ (.bool true) ?_
   exact ⟨rfl, K98⟩
end Go.Proofs.YthmclmbeflbhhaaGreat
namespace Go.Proofs.YthmclmbeflbhhaaGreat.detectNone
open Go.ChangeShapes Go.WideShapes Go.ChangeAt Go.RowKit Go.Own
open Go.ChangeMaps (open_string shut_string)
theorem own : ownKnob Tryz.prog.godebug = none := by kernel_rfl
theorem laid : laidOutB Tryz.prog = true := by kernel_rfl
set_option maxRecDepth 100000 in
theorem lifted (os : Os) (started : os.Started) (H : Type) (enc : TypeId × Value → H) :
    ReturnsInHanded {} Tryz.checked os 7 .any (Rows.detectNoneSpec.pre6 enc Tryz.prog Tryz.f7 Rows.detectNoneRow.domain false) (Rows.detectNoneSpec.post enc Tryz.prog Tryz.f7 false true false false) := by
  refine returnsInHanded_of_change (C := Tryz.checked) own started (by kernel_rfl) Tryz.func7
    (ChangeSpec.witness6 (enc := enc) (C := Tryz.checked) false ⟨#[], #[.agg #[.int .i64 0, .int .i64 0, .int .i64 0, .int .i64 0, .int .u8 0, .int .u8 0, .int .u8 0, .int .u8 0, .int .u8 0, .int .u8 0, .int .u8 0, .int .u8 0, .int .u8 0, .int .u8 0, .int .u8 0, .int .u8 0, .int .u8 0, .int .u8 0, .int .u8 0, .int .u8 0, .int .u8 0, .int .u8 0, .int .u8 0, .int .u8 0, .int .u8 0, .int .u8 0, .int .u8 0, .int .u8 0, .int .u8 0, .int .u8 0, .int .u8 0, .int .u8 0, .int .u8 0, .int .u8 0, .int .u8 0, .int .u8 0, .int .u64 0, .int .i64 0, .int .i64 0, .int .u8 0, .int .u8 0, .int .u8 0, .int .u8 0, .int .u8 0, .int .u8 0, .int .u8 0, .int .u8 0, .int .u8 0, .int .u8 0, .int .u8 0, .int .u8 0, .int .u8 0, .int .u8 0, .int .u8 0, .int .u8 0, .int .u8 0, .int .u8 0, .int .u8 0, .int .u8 0, .int .u8 0, .int .u8 0, .int .u8 0, .int .u8 0, .int .u8 0, .int .u8 0, .int .u8 0, .int .u8 0, .int .u8 0, .int .u8 0, .int .u8 0, .int .u8 0, .int .u64 0, .int .i64 0]], []⟩ 8 (by kernel_rfl) (by kernel_rfl) (by kernel_rfl) (by kernel_rfl)) ?_
  intro W base args ds gs before hval0 hW hcnd _
  have hval : ∀ (j : Nat) t v, Tryz.f7.params[j]? = some t → args[j]? = some v → Value.okWide Tryz.prog W .any base t v := hval0
  have hW' := hW
  obtain ⟨p, q, hA0, hV, rfl, hfz, hnd⟩ := hW
  have hA : DataW.TrodAll enc Tryz.prog W 0 (fun _ => true) true Tryz.f7.params.toList args.toList ds p := hA0
  rw [Tryz.params7] at hA hval
  obtain ⟨v0, vs0, d0, ds0, p0, q0, hargs, rfl, rfl, h0, r0⟩ := trodAll_cons hA
  obtain ⟨rfl, rfl, rfl⟩ := trodAll_nil r0
  obtain rfl : args = #[v0] := by cases args; simp_all
  obtain ⟨rfl, rfl⟩ := trodVars_none hV
  obtain ⟨x0, rfl, hx0⟩ := open_dact h0 (hval 0 54 v0 rfl rfl)
  clear hA0 hval0
  refine (none_all x0 W hx0).mono fun e W' ⟨he, hg⟩ => ?_
  subst he
  exact ⟨_, rfl, law_post laid (by kernel_rfl) rfl Tryz.underlying4 rfl rfl hW' (hg.below (Nat.le_refl _) (fun _ _ x => x))⟩
theorem proved : Rows.DetectNoneSaid :=
  OpenClaim.holds_of_wide 7 Tryz.f7 rfl rfl rfl rfl rfl rfl rfl ⟨rfl, rfl, rfl, rfl, rfl⟩ rfl rfl rfl rfl rfl (by kernel_rfl) Tryz.func7 (by kernel_rfl)
    (of_decide_eq_true (by kernel_rfl)) (by unfold Func.isWrapper; first | (rw [if_pos (by decide +kernel)]; kernel_rfl) | (rw [if_neg (by decide +kernel)]; exact ⟨rfl, rfl⟩))
    (fun os started H enc _ => lifted os started H enc)
end Go.Proofs.YthmclmbeflbhhaaGreat.detectNone
