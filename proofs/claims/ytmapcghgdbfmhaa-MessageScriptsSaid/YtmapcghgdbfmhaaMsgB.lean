/-
  Messages: how their fields are gone through, whoever goes (printed by msg1.py). Conditions: none.
-/
import Derived.Test.YtmapcghgdbfmhaaSymP
import Derived.Test.YtmapcghgdbfmhaaVoteA
namespace Go.Proofs.Ytmapcghgdbfmhaa
open Go Go.RowKit Go.Own Go.Shelf
/-- Whoever goes through the things of a message: an interface value, its receiver, its methods. -/
structure Vis where
  (v rv : Value) (fn fa fh : FuncId)
structure Vis.Ok (V : Vis) : Prop where
  num : MethodAt Try.prog V.v "distraint/message.num" V.fn V.rv
  amount : MethodAt Try.prog V.v "distraint/message.amount" V.fa V.rv
  hash : MethodAt Try.prog V.v "distraint/message.hash" V.fh V.rv
  num0 : NilAt Try.prog V.v "distraint/message.num"
  amount0 : NilAt Try.prog V.v "distraint/message.amount"
  hash0 : NilAt Try.prog V.v "distraint/message.hash"
/-- A thing: a number at a place of the message, within bounds; an amount; a hash; the number of a kind of votes. -/
inductive It where
  | n (o : Nat) (lo hi : Int) | a (o : Nat) | h (o : Nat) | k (x : Int)
/-- What is so when all things are gone through, one behind the other: K; where one panics: E. -/
def Run (V : Vis) (g : Nat) : List It → (World → Prop) → (List PanicEntry → World → Prop) → World → Prop
  | [], K, _, w => K w
  | .n o lo hi :: r, K, E, w => ∀ W, Keeps Nob w W → Calls Try.prog V.fn #[V.rv, .pointer (some ⟨g, o, none⟩), .int .i64 lo, .int .i64 hi] W (PEnd (Run V g r K E) E)
  | .a o :: r, K, E, w => ∀ W, Keeps Nob w W → Calls Try.prog V.fa #[V.rv, .pointer (some ⟨g, o, none⟩)] W (PEnd (Run V g r K E) E)
  | .h o :: r, K, E, w => ∀ W, Keeps Nob w W → Calls Try.prog V.fh #[V.rv, .pointer (some ⟨g, o, none⟩)] W (PEnd (Run V g r K E) E)
  | .k x :: r, K, E, w => ∀ W c, Keeps Nob w W → w.heap.size ≤ c → W.heap[c]? = some (.cells #[.int .i64 x] 3 (0, 0)) → Calls Try.prog V.fn #[V.rv, .pointer (some ⟨c, 0, none⟩), .int .i64 x, .int .i64 x] W (PEnd (Run V g r K E) E)
theorem Run.keepsN {V : Vis} {g : Nat} {i : It} {r : List It} {K : World → Prop} {E : List PanicEntry → World → Prop} {w w' : World} (h : Run V g (i :: r) K E w) (k : Keeps Nob w w') : Run V g (i :: r) K E w' := by
  cases i with
  | n o lo hi => exact fun W k2 => h W (k.nn k2)
  | a o => exact fun W k2 => h W (k.nn k2)
  | h o => exact fun W k2 => h W (k.nn k2)
  | k x => exact fun W c k2 hc hb => h W c (k.nn k2) (Nat.le_trans k.size hc) hb
def evI (p : Int) : List It := if p = 3 then [.k 2, .n 84 0 31, .n 85 1 4294967296, .h 86, .a 118, .k 2, .n 119 0 31, .n 120 1 4294967296, .h 121, .a 153] else [.k 1, .n 12 0 31, .n 13 0 4294967296, .n 14 0 4294967296, .h 15, .a 47, .k 1, .n 48 0 31, .n 49 0 4294967296, .n 50 0 4294967296, .h 51, .a 83]
/-- What evidence asks: its proof is looked at behind the account, and behind itself. -/
def EvK (V : Vis) (g : Nat) (K : World → Prop) (E : List PanicEntry → World → Prop) (x0 : Int) (w : World) : Prop := ∃ cs x, w.heap[g]? = some (.cells cs 70 (0, 0)) ∧ cs[11]? = some (.int .i64 x) ∧ Run V g (evI (if x ≠ 0 then x else x0)) K E w
def EvA (V : Vis) (g : Nat) (K : World → Prop) (E : List PanicEntry → World → Prop) (w : World) : Prop := ∃ cs x0, w.heap[g]? = some (.cells cs 70 (0, 0)) ∧ cs[11]? = some (.int .i64 x0) ∧ Run V g [.n 11 1 3] (EvK V g K E x0) E w
def kItems : Nat → List It
  | 1 => [.n 1 0 63, .n 3 0 63, .a 4]
  | 2 => [.n 1 0 63, .a 5, .a 4]
  | 3 => [.n 1 0 63, .n 2 0 31, .a 4]
  | 4 => [.n 1 0 63, .n 6 0 31, .n 7 1 4294967296, .n 8 (-1) 31, .n 9 0 4294967296, .a 4]
  | 5 => [.n 1 0 63, .n 6 0 31, .n 7 1 4294967296, .n 8 (-1) 31, .n 9 0 4294967296, .a 4, .n 3 0 31]
  | 6 => [.n 1 0 63, .k 1, .n 12 0 31, .n 13 0 4294967296, .n 14 0 4294967296, .h 15, .a 47]
  | 7 => [.n 1 0 63, .k 2, .n 84 0 31, .n 85 1 4294967296, .h 86, .a 118]
  | 9 => [.n 1 0 63, .n 2 0 31]
  | 10 => [.n 1 0 63]
  | 11 => [.n 10 1 1000]
  | _ => []
def RunAll (V : Vis) (g k : Nat) (K : World → Prop) (E : List PanicEntry → World → Prop) (w : World) : Prop := if k = 8 then Run V g [.n 1 0 63] (EvA V g K E) E w else Run V g (kItems k) K E w

noncomputable def part_maccount (n : Nat) : Code := partOf Try.f108 n
noncomputable abbrev o_maccount (n k : Nat) : Oper := (opsAt (part_maccount n)).getD k default
set_option maxRecDepth 100000 in
set_option maxHeartbeats 4000000 in
theorem maccount_ok (V : Vis) (hV : V.Ok) (g : Nat) (K : World → Prop) (E : List PanicEntry → World → Prop) (w : World) (H : Run V g [.n 1 0 63] K E w) :
    Calls Try.prog 108 #[.pointer (some ⟨g, 0, none⟩), V.v] w (PEnd K E) := by
  have K0 : Keeps Nob w w := Keeps.refl _ _
  refine sy_enter (part_maccount 1) ⟨#[pT g 0, V.v, undef, undef, undef, undef, undef, undef, undef, undef, undef, undef], []⟩ Try.func108 (by kernel_rfl) (by kernel_rfl) ?_
  refine sy_reg ?_
  refine rg_still 0 7 (opsAt (part_maccount 1)) [o_maccount 1 0, o_maccount 1 1, o_maccount 1 2, o_maccount 1 3, o_maccount 1 4, o_maccount 1 5, o_maccount 1 6] [o_maccount 1 7] (by kernel_rfl) (by kernel_rfl) (by kernel_rfl) (by kernel_rfl) (by kernel_rfl) ?_
  obtain ⟨V2, eV2, kV2⟩ := drew_step w
  rw [eV2]
  clear eV2
  have kb3 : Keeps Nob w V2 := (Keeps.refl Nob w).nn kV2
  have K4 := K0.nn kV2
  refine st_k (o_maccount 1 0) (V.v) ?_
  refine st_k (o_maccount 1 1) (pT g 0) ?_
  refine st_k (o_maccount 1 2) (pT g 0) ?_
  refine st_k (o_maccount 1 3) (pT g 1) ?_
  refine st_k (o_maccount 1 4) (.func (.method "distraint/message.num") #[V.v] #[]) ?_
  refine st_p (o_maccount 1 5) (.func (.method "distraint/message.num") #[V.v] #[]) (hV.num0 _ _ (.tmp 8) _ (by kernel_rfl) (by kernel_rfl)) ?_
  refine st_k (o_maccount 1 6) (V.v) ?_
  refine st_end ?_
  refine ls_P (o_maccount 1 7) V.fn #[V.rv, .pointer (some ⟨g, 1, none⟩), .int .i64 0, .int .i64 63] _ _ (run_invoke (o_maccount 1 7) (.tmp 10) "distraint/message.num" V.v V.fn V.rv #[.pointer (some ⟨g, 1, none⟩), .int .i64 0, .int .i64 63] #[V.rv, .pointer (some ⟨g, 1, none⟩), .int .i64 0, .int .i64 63] (by kernel_rfl) (by kernel_rfl) (by kernel_rfl) hV.num (by kernel_rfl)) (H _ kb3) (fun c w' h => ⟨rfl, .inr ⟨c, rfl, h⟩⟩) ?_
  rintro V5 H6
  refine ls_end ?_
  refine sy_fall (.tuple #[]) rfl (by kernel_rfl) ?_
  exact .inl ⟨rfl, H6⟩
noncomputable def part_mvalidator (n : Nat) : Code := partOf Try.f109 n
noncomputable abbrev o_mvalidator (n k : Nat) : Oper := (opsAt (part_mvalidator n)).getD k default
set_option maxRecDepth 100000 in
set_option maxHeartbeats 4000000 in
theorem mvalidator_ok (V : Vis) (hV : V.Ok) (g : Nat) (K : World → Prop) (E : List PanicEntry → World → Prop) (w : World) (H : Run V g [.n 2 0 31] K E w) :
    Calls Try.prog 109 #[.pointer (some ⟨g, 0, none⟩), V.v] w (PEnd K E) := by
  have K0 : Keeps Nob w w := Keeps.refl _ _
  refine sy_enter (part_mvalidator 1) ⟨#[pT g 0, V.v, undef, undef, undef, undef, undef, undef, undef, undef, undef, undef], []⟩ Try.func109 (by kernel_rfl) (by kernel_rfl) ?_
  refine sy_reg ?_
  refine rg_still 0 7 (opsAt (part_mvalidator 1)) [o_mvalidator 1 0, o_mvalidator 1 1, o_mvalidator 1 2, o_mvalidator 1 3, o_mvalidator 1 4, o_mvalidator 1 5, o_mvalidator 1 6] [o_mvalidator 1 7] (by kernel_rfl) (by kernel_rfl) (by kernel_rfl) (by kernel_rfl) (by kernel_rfl) ?_
  obtain ⟨V2, eV2, kV2⟩ := drew_step w
  rw [eV2]
  clear eV2
  have kb3 : Keeps Nob w V2 := (Keeps.refl Nob w).nn kV2
  have K4 := K0.nn kV2
  refine st_k (o_mvalidator 1 0) (V.v) ?_
  refine st_k (o_mvalidator 1 1) (pT g 0) ?_
  refine st_k (o_mvalidator 1 2) (pT g 0) ?_
  refine st_k (o_mvalidator 1 3) (pT g 2) ?_
  refine st_k (o_mvalidator 1 4) (.func (.method "distraint/message.num") #[V.v] #[]) ?_
  refine st_p (o_mvalidator 1 5) (.func (.method "distraint/message.num") #[V.v] #[]) (hV.num0 _ _ (.tmp 8) _ (by kernel_rfl) (by kernel_rfl)) ?_
  refine st_k (o_mvalidator 1 6) (V.v) ?_
  refine st_end ?_
  refine ls_P (o_mvalidator 1 7) V.fn #[V.rv, .pointer (some ⟨g, 2, none⟩), .int .i64 0, .int .i64 31] _ _ (run_invoke (o_mvalidator 1 7) (.tmp 10) "distraint/message.num" V.v V.fn V.rv #[.pointer (some ⟨g, 2, none⟩), .int .i64 0, .int .i64 31] #[V.rv, .pointer (some ⟨g, 2, none⟩), .int .i64 0, .int .i64 31] (by kernel_rfl) (by kernel_rfl) (by kernel_rfl) hV.num (by kernel_rfl)) (H _ kb3) (fun c w' h => ⟨rfl, .inr ⟨c, rfl, h⟩⟩) ?_
  rintro V5 H6
  refine ls_end ?_
  refine sy_fall (.tuple #[]) rfl (by kernel_rfl) ?_
  exact .inl ⟨rfl, H6⟩
noncomputable def part_mlot (n : Nat) : Code := partOf Try.f110 n
noncomputable abbrev o_mlot (n k : Nat) : Oper := (opsAt (part_mlot n)).getD k default
set_option maxRecDepth 100000 in
set_option maxHeartbeats 4000000 in
theorem mlot_ok (V : Vis) (hV : V.Ok) (g : Nat) (K : World → Prop) (E : List PanicEntry → World → Prop) (w : World) (H : Run V g [.n 6 0 31, .n 7 1 4294967296, .n 8 (-1) 31, .n 9 0 4294967296] K E w) :
    Calls Try.prog 110 #[.pointer (some ⟨g, 0, none⟩), V.v] w (PEnd K E) := by
  have K0 : Keeps Nob w w := Keeps.refl _ _
  refine sy_enter (part_mlot 1) ⟨#[pT g 0, V.v, undef, undef, undef, undef, undef, undef, undef, undef, undef, undef, undef, undef, undef, undef, undef, undef, undef, undef, undef, undef, undef, undef, undef, undef, undef, undef, undef, undef, undef, undef, undef, undef, undef, undef, undef, undef, undef, undef], []⟩ Try.func110 (by kernel_rfl) (by kernel_rfl) ?_
  refine sy_sq (part_mlot 2) (part_mlot 3) ?_
  refine sy_reg ?_
  refine rg_still 0 8 (opsAt (part_mlot 2)) [o_mlot 2 0, o_mlot 2 1, o_mlot 2 2, o_mlot 2 3, o_mlot 2 4, o_mlot 2 5, o_mlot 2 6, o_mlot 2 7] [o_mlot 2 8] (by kernel_rfl) (by kernel_rfl) (by kernel_rfl) (by kernel_rfl) (by kernel_rfl) ?_
  obtain ⟨V2, eV2, kV2⟩ := drew_step w
  rw [eV2]
  clear eV2
  have kb3 : Keeps Nob w V2 := (Keeps.refl Nob w).nn kV2
  have K4 := K0.nn kV2
  refine st_k (o_mlot 2 0) (V.v) ?_
  refine st_k (o_mlot 2 1) (pT g 0) ?_
  refine st_k (o_mlot 2 2) (pT g 0) ?_
  refine st_k (o_mlot 2 3) (pT g 6) ?_
  refine st_k (o_mlot 2 4) (pT g 6) ?_
  refine st_k (o_mlot 2 5) (.func (.method "distraint/message.num") #[V.v] #[]) ?_
  refine st_p (o_mlot 2 6) (.func (.method "distraint/message.num") #[V.v] #[]) (hV.num0 _ _ (.tmp 9) _ (by kernel_rfl) (by kernel_rfl)) ?_
  refine st_k (o_mlot 2 7) (V.v) ?_
  refine st_end ?_
  refine ls_P (o_mlot 2 8) V.fn #[V.rv, .pointer (some ⟨g, 6, none⟩), .int .i64 0, .int .i64 31] _ _ (run_invoke (o_mlot 2 8) (.tmp 11) "distraint/message.num" V.v V.fn V.rv #[.pointer (some ⟨g, 6, none⟩), .int .i64 0, .int .i64 31] #[V.rv, .pointer (some ⟨g, 6, none⟩), .int .i64 0, .int .i64 31] (by kernel_rfl) (by kernel_rfl) (by kernel_rfl) hV.num (by kernel_rfl)) (H _ kb3) (fun c w' h => ⟨rfl, .inr ⟨c, rfl, h⟩⟩) ?_
  rintro V5 H6
  refine ls_end ?_
  refine then_n ?_
  refine sy_sq (part_mlot 6) (part_mlot 7) ?_
  refine sy_reg ?_
  refine rg_still 1 8 (opsAt (part_mlot 6)) [o_mlot 6 0, o_mlot 6 1, o_mlot 6 2, o_mlot 6 3, o_mlot 6 4, o_mlot 6 5, o_mlot 6 6, o_mlot 6 7] [o_mlot 6 8] (by kernel_rfl) (by kernel_rfl) (by kernel_rfl) (by kernel_rfl) (by kernel_rfl) ?_
  obtain ⟨V8, eV8, kV8⟩ := drew_step V5
  rw [eV8]
  clear eV8
  have kb9 : Keeps Nob V5 V8 := (Keeps.refl Nob V5).nn kV8
  refine st_k (o_mlot 6 0) (V.v) ?_
  refine st_k (o_mlot 6 1) (pT g 0) ?_
  refine st_k (o_mlot 6 2) (pT g 0) ?_
  refine st_k (o_mlot 6 3) (pT g 6) ?_
  refine st_k (o_mlot 6 4) (pT g 7) ?_
  refine st_k (o_mlot 6 5) (.func (.method "distraint/message.num") #[V.v] #[]) ?_
  refine st_p (o_mlot 6 6) (.func (.method "distraint/message.num") #[V.v] #[]) (hV.num0 _ _ (.tmp 18) _ (by kernel_rfl) (by kernel_rfl)) ?_
  refine st_k (o_mlot 6 7) (V.v) ?_
  refine st_end ?_
  refine ls_P (o_mlot 6 8) V.fn #[V.rv, .pointer (some ⟨g, 7, none⟩), .int .i64 1, .int .i64 4294967296] _ _ (run_invoke (o_mlot 6 8) (.tmp 20) "distraint/message.num" V.v V.fn V.rv #[.pointer (some ⟨g, 7, none⟩), .int .i64 1, .int .i64 4294967296] #[V.rv, .pointer (some ⟨g, 7, none⟩), .int .i64 1, .int .i64 4294967296] (by kernel_rfl) (by kernel_rfl) (by kernel_rfl) hV.num (by kernel_rfl)) (H6 _ kb9) (fun c w' h => ⟨rfl, .inr ⟨c, rfl, h⟩⟩) ?_
  rintro V10 H11
  refine ls_end ?_
  refine then_n ?_
  refine sy_sq (part_mlot 14) (part_mlot 15) ?_
  refine sy_reg ?_
  refine rg_still 2 8 (opsAt (part_mlot 14)) [o_mlot 14 0, o_mlot 14 1, o_mlot 14 2, o_mlot 14 3, o_mlot 14 4, o_mlot 14 5, o_mlot 14 6, o_mlot 14 7] [o_mlot 14 8] (by kernel_rfl) (by kernel_rfl) (by kernel_rfl) (by kernel_rfl) (by kernel_rfl) ?_
  obtain ⟨V13, eV13, kV13⟩ := drew_step V10
  rw [eV13]
  clear eV13
  have kb14 : Keeps Nob V10 V13 := (Keeps.refl Nob V10).nn kV13
  refine st_k (o_mlot 14 0) (V.v) ?_
  refine st_k (o_mlot 14 1) (pT g 0) ?_
  refine st_k (o_mlot 14 2) (pT g 0) ?_
  refine st_k (o_mlot 14 3) (pT g 6) ?_
  refine st_k (o_mlot 14 4) (pT g 8) ?_
  refine st_k (o_mlot 14 5) (.func (.method "distraint/message.num") #[V.v] #[]) ?_
  refine st_p (o_mlot 14 6) (.func (.method "distraint/message.num") #[V.v] #[]) (hV.num0 _ _ (.tmp 27) _ (by kernel_rfl) (by kernel_rfl)) ?_
  refine st_k (o_mlot 14 7) (V.v) ?_
  refine st_end ?_
  refine ls_P (o_mlot 14 8) V.fn #[V.rv, .pointer (some ⟨g, 8, none⟩), .int .i64 (-1), .int .i64 31] _ _ (run_invoke (o_mlot 14 8) (.tmp 29) "distraint/message.num" V.v V.fn V.rv #[.pointer (some ⟨g, 8, none⟩), .int .i64 (-1), .int .i64 31] #[V.rv, .pointer (some ⟨g, 8, none⟩), .int .i64 (-1), .int .i64 31] (by kernel_rfl) (by kernel_rfl) (by kernel_rfl) hV.num (by kernel_rfl)) (H11 _ kb14) (fun c w' h => ⟨rfl, .inr ⟨c, rfl, h⟩⟩) ?_
  rintro V15 H16
  refine ls_end ?_
  refine sy_a ⟨#[pT g 0, V.v, undef, undef, V.v, pT g 0, pT g 0, pT g 6, pT g 6, .func (.method "distraint/message.num") #[V.v] #[], .func (.method "distraint/message.num") #[V.v] #[], V.v, .tuple #[], V.v, pT g 0, pT g 0, pT g 6, pT g 7, .func (.method "distraint/message.num") #[V.v] #[], .func (.method "distraint/message.num") #[V.v] #[], V.v, .tuple #[], V.v, pT g 0, pT g 0, pT g 6, pT g 8, .func (.method "distraint/message.num") #[V.v] #[], .func (.method "distraint/message.num") #[V.v] #[], V.v, .tuple #[], undef, undef, undef, undef, undef, undef, undef, undef, undef], []⟩ ?_
  refine then_n ?_
  refine sy_reg ?_
  refine rg_still 3 8 (opsAt (part_mlot 15)) [o_mlot 15 0, o_mlot 15 1, o_mlot 15 2, o_mlot 15 3, o_mlot 15 4, o_mlot 15 5, o_mlot 15 6, o_mlot 15 7] [o_mlot 15 8] (by kernel_rfl) (by kernel_rfl) (by kernel_rfl) (by kernel_rfl) (by kernel_rfl) ?_
  obtain ⟨V18, eV18, kV18⟩ := drew_step V15
  rw [eV18]
  clear eV18
  have kb19 : Keeps Nob V15 V18 := (Keeps.refl Nob V15).nn kV18
  refine st_k (o_mlot 15 0) (V.v) ?_
  refine st_k (o_mlot 15 1) (pT g 0) ?_
  refine st_k (o_mlot 15 2) (pT g 0) ?_
  refine st_k (o_mlot 15 3) (pT g 6) ?_
  refine st_k (o_mlot 15 4) (pT g 9) ?_
  refine st_k (o_mlot 15 5) (.func (.method "distraint/message.num") #[V.v] #[]) ?_
  refine st_p (o_mlot 15 6) (.func (.method "distraint/message.num") #[V.v] #[]) (hV.num0 _ _ (.tmp 36) _ (by kernel_rfl) (by kernel_rfl)) ?_
  refine st_k (o_mlot 15 7) (V.v) ?_
  refine st_end ?_
  refine ls_P (o_mlot 15 8) V.fn #[V.rv, .pointer (some ⟨g, 9, none⟩), .int .i64 0, .int .i64 4294967296] _ _ (run_invoke (o_mlot 15 8) (.tmp 38) "distraint/message.num" V.v V.fn V.rv #[.pointer (some ⟨g, 9, none⟩), .int .i64 0, .int .i64 4294967296] #[V.rv, .pointer (some ⟨g, 9, none⟩), .int .i64 0, .int .i64 4294967296] (by kernel_rfl) (by kernel_rfl) (by kernel_rfl) hV.num (by kernel_rfl)) (H16 _ kb19) (fun c w' h => ⟨rfl, .inr ⟨c, rfl, h⟩⟩) ?_
  rintro V20 H21
  refine ls_end ?_
  refine sy_fall (.tuple #[]) rfl (by kernel_rfl) ?_
  exact .inl ⟨rfl, H21⟩
noncomputable def part_mkind (n : Nat) : Code := partOf Try.f117 n
noncomputable abbrev o_mkind (n k : Nat) : Oper := (opsAt (part_mkind n)).getD k default
set_option maxRecDepth 100000 in
set_option maxHeartbeats 4000000 in
theorem mkind_ok (V : Vis) (hV : V.Ok) (g : Nat) (x : Int) (K : World → Prop) (E : List PanicEntry → World → Prop) (w : World) (H : Run V g [.k x] K E w) :
    Calls Try.prog 117 #[V.v, .int .i64 x] w (PEnd K E) := by
  have K0 : Keeps Nob w w := Keeps.refl _ _
  refine sy_enter (part_mkind 1) ⟨#[V.v, .int .i64 x, undef, undef, undef, undef, undef, undef], []⟩ Try.func117 (by kernel_rfl) (by kernel_rfl) ?_
  refine sy_sq (part_mkind 2) (part_mkind 3) ?_
  refine sy_reg ?_
  refine rg_plain 0 (opsAt (part_mkind 2)) [0] (by kernel_rfl) (by kernel_rfl) ?_
  obtain ⟨V1, eV1, c, ec, h2, kV1⟩ := alloc_step w (#[.int .i64 x]) 3
  have n3 : w.heap.size ≤ c := ec ▸ K0.size
  refine ps_r (o_mkind 2 0) (pT c 0) (w' := V1) (by rw [← eV1, ← ec]; exact exec_box 3 (.tmp 1) (by kernel_rfl) (.int .i64 x) (by kernel_rfl)) ?_
  clear eV1
  have kb4 : Keeps Nob w V1 := (Keeps.refl Nob w).nn kV1
  have K5 := K0.nn kV1
  refine ps_end ?_
  refine then_n ?_
  refine sy_reg ?_
  refine rg_plain 1 (opsAt (part_mkind 3)) [0, 1, 2, 3] (by kernel_rfl) (by kernel_rfl) ?_
  refine ps_k (o_mkind 3 0) (V.v) ?_
  refine ps_p (o_mkind 3 1) (.int .i64 x) (exec_ld 3 (.tmp 3) c 0 Try.underlying3 (rc (h2) (by kernel_rfl))) ?_
  refine ps_p (o_mkind 3 2) (.int .i64 x) (exec_ld 3 (.tmp 3) c 0 Try.underlying3 (rc (h2) (by kernel_rfl))) ?_
  refine ps_P (o_mkind 3 3) V.fn #[V.rv, .pointer (some ⟨c, 0, none⟩), .int .i64 x, .int .i64 x] _ _ (run_invoke (o_mkind 3 3) (.tmp 4) "distraint/message.num" V.v V.fn V.rv #[.pointer (some ⟨c, 0, none⟩), .int .i64 x, .int .i64 x] #[V.rv, .pointer (some ⟨c, 0, none⟩), .int .i64 x, .int .i64 x] (by kernel_rfl) (by kernel_rfl) (by kernel_rfl) hV.num (by kernel_rfl)) (H _ c kb4 (by omega) h2) (fun c w' h => ⟨rfl, .inr ⟨c, rfl, h⟩⟩) ?_
  rintro V6 H7
  refine ps_end ?_
  refine sy_fall (.tuple #[]) rfl (by kernel_rfl) ?_
  exact .inl ⟨rfl, H7⟩
noncomputable def part_mvote (n : Nat) : Code := partOf Try.f111 n
noncomputable abbrev o_mvote (n k : Nat) : Oper := (opsAt (part_mvote n)).getD k default
set_option maxRecDepth 100000 in
set_option maxHeartbeats 4000000 in
theorem mvote_ok (V : Vis) (hV : V.Ok) (g : Nat) (o : Nat) (K : World → Prop) (E : List PanicEntry → World → Prop) (w : World) (H : Run V g [.k 1, .n o 0 31, .n (o + 1) 0 4294967296, .n (o + 2) 0 4294967296, .h (o + 3), .a (o + 35)] K E w) :
    Calls Try.prog 111 #[V.v, .pointer (some ⟨g, o, none⟩)] w (PEnd K E) := by
  have K0 : Keeps Nob w w := Keeps.refl _ _
  refine sy_enter (part_mvote 1) ⟨#[V.v, pT g o, undef, undef, undef, undef, undef, undef, undef, undef, undef, undef, undef, undef, undef, undef, undef, undef, undef, undef, undef, undef, undef, undef, undef, undef, undef, undef, undef, undef, undef, undef, undef, undef, undef, undef, undef, undef, undef, undef, undef, undef, undef, undef, undef, undef], []⟩ Try.func111 (by kernel_rfl) (by kernel_rfl) ?_
  refine sy_sq (part_mvote 2) (part_mvote 3) ?_
  refine sy_reg ?_
  refine rg_plain 0 (opsAt (part_mvote 2)) [0, 1] (by kernel_rfl) (by kernel_rfl) ?_
  refine ps_k (o_mvote 2 0) (V.v) ?_
  refine ps_P (o_mvote 2 1) 117 #[V.v, .int .i64 1] _ _ (run_callF (o_mvote 2 1) 117 #[V.v, .int .i64 1] (by kernel_rfl) rfl (by kernel_rfl) (enters_of Try.func117 (by kernel_rfl) rfl)) (mkind_ok V hV g 1 (Run V g [.n o 0 31, .n (o + 1) 0 4294967296, .n (o + 2) 0 4294967296, .h (o + 3), .a (o + 35)] K E) E _ (Run.keepsN H (Keeps.refl Nob w))) (fun c w' h => ⟨rfl, .inr ⟨c, rfl, h⟩⟩) ?_
  rintro V1 H2
  refine ps_end ?_
  refine then_n ?_
  refine sy_sq (part_mvote 6) (part_mvote 7) ?_
  refine sy_reg ?_
  refine rg_still 1 7 (opsAt (part_mvote 6)) [o_mvote 6 0, o_mvote 6 1, o_mvote 6 2, o_mvote 6 3, o_mvote 6 4, o_mvote 6 5, o_mvote 6 6] [o_mvote 6 7] (by kernel_rfl) (by kernel_rfl) (by kernel_rfl) (by kernel_rfl) (by kernel_rfl) ?_
  obtain ⟨V4, eV4, kV4⟩ := drew_step V1
  rw [eV4]
  clear eV4
  have kb5 : Keeps Nob V1 V4 := (Keeps.refl Nob V1).nn kV4
  refine st_k (o_mvote 6 0) (V.v) ?_
  refine st_k (o_mvote 6 1) (pT g o) ?_
  refine st_k (o_mvote 6 2) (pT g o) ?_
  refine st_k (o_mvote 6 3) (pT g (o + 0)) ?_
  refine st_k (o_mvote 6 4) (.func (.method "distraint/message.num") #[V.v] #[]) ?_
  refine st_p (o_mvote 6 5) (.func (.method "distraint/message.num") #[V.v] #[]) (hV.num0 _ _ (.tmp 10) _ (by kernel_rfl) (by kernel_rfl)) ?_
  refine st_k (o_mvote 6 6) (V.v) ?_
  refine st_end ?_
  refine ls_P (o_mvote 6 7) V.fn #[V.rv, .pointer (some ⟨g, o + 0, none⟩), .int .i64 0, .int .i64 31] _ _ (run_invoke (o_mvote 6 7) (.tmp 12) "distraint/message.num" V.v V.fn V.rv #[.pointer (some ⟨g, o + 0, none⟩), .int .i64 0, .int .i64 31] #[V.rv, .pointer (some ⟨g, o + 0, none⟩), .int .i64 0, .int .i64 31] (by kernel_rfl) (by kernel_rfl) (by kernel_rfl) hV.num (by kernel_rfl)) (H2 _ kb5) (fun c w' h => ⟨rfl, .inr ⟨c, rfl, h⟩⟩) ?_
  rintro V6 H7
  refine ls_end ?_
  refine then_n ?_
  refine sy_sq (part_mvote 14) (part_mvote 15) ?_
  refine sy_reg ?_
  refine rg_still 2 7 (opsAt (part_mvote 14)) [o_mvote 14 0, o_mvote 14 1, o_mvote 14 2, o_mvote 14 3, o_mvote 14 4, o_mvote 14 5, o_mvote 14 6] [o_mvote 14 7] (by kernel_rfl) (by kernel_rfl) (by kernel_rfl) (by kernel_rfl) (by kernel_rfl) ?_
  obtain ⟨V9, eV9, kV9⟩ := drew_step V6
  rw [eV9]
  clear eV9
  have kb10 : Keeps Nob V6 V9 := (Keeps.refl Nob V6).nn kV9
  refine st_k (o_mvote 14 0) (V.v) ?_
  refine st_k (o_mvote 14 1) (pT g o) ?_
  refine st_k (o_mvote 14 2) (pT g o) ?_
  refine st_k (o_mvote 14 3) (pT g (o + 1)) ?_
  refine st_k (o_mvote 14 4) (.func (.method "distraint/message.num") #[V.v] #[]) ?_
  refine st_p (o_mvote 14 5) (.func (.method "distraint/message.num") #[V.v] #[]) (hV.num0 _ _ (.tmp 18) _ (by kernel_rfl) (by kernel_rfl)) ?_
  refine st_k (o_mvote 14 6) (V.v) ?_
  refine st_end ?_
  refine ls_P (o_mvote 14 7) V.fn #[V.rv, .pointer (some ⟨g, o + 1, none⟩), .int .i64 0, .int .i64 4294967296] _ _ (run_invoke (o_mvote 14 7) (.tmp 20) "distraint/message.num" V.v V.fn V.rv #[.pointer (some ⟨g, o + 1, none⟩), .int .i64 0, .int .i64 4294967296] #[V.rv, .pointer (some ⟨g, o + 1, none⟩), .int .i64 0, .int .i64 4294967296] (by kernel_rfl) (by kernel_rfl) (by kernel_rfl) hV.num (by kernel_rfl)) (H7 _ kb10) (fun c w' h => ⟨rfl, .inr ⟨c, rfl, h⟩⟩) ?_
  rintro V11 H12
  refine ls_end ?_
  refine then_n ?_
  refine sy_sq (part_mvote 30) (part_mvote 31) ?_
  refine sy_reg ?_
  refine rg_still 3 7 (opsAt (part_mvote 30)) [o_mvote 30 0, o_mvote 30 1, o_mvote 30 2, o_mvote 30 3, o_mvote 30 4, o_mvote 30 5, o_mvote 30 6] [o_mvote 30 7] (by kernel_rfl) (by kernel_rfl) (by kernel_rfl) (by kernel_rfl) (by kernel_rfl) ?_
  obtain ⟨V14, eV14, kV14⟩ := drew_step V11
  rw [eV14]
  clear eV14
  have kb15 : Keeps Nob V11 V14 := (Keeps.refl Nob V11).nn kV14
  refine st_k (o_mvote 30 0) (V.v) ?_
  refine st_k (o_mvote 30 1) (pT g o) ?_
  refine st_k (o_mvote 30 2) (pT g o) ?_
  refine st_k (o_mvote 30 3) (pT g (o + 2)) ?_
  refine st_k (o_mvote 30 4) (.func (.method "distraint/message.num") #[V.v] #[]) ?_
  refine st_p (o_mvote 30 5) (.func (.method "distraint/message.num") #[V.v] #[]) (hV.num0 _ _ (.tmp 26) _ (by kernel_rfl) (by kernel_rfl)) ?_
  refine st_k (o_mvote 30 6) (V.v) ?_
  refine st_end ?_
  refine ls_P (o_mvote 30 7) V.fn #[V.rv, .pointer (some ⟨g, o + 2, none⟩), .int .i64 0, .int .i64 4294967296] _ _ (run_invoke (o_mvote 30 7) (.tmp 28) "distraint/message.num" V.v V.fn V.rv #[.pointer (some ⟨g, o + 2, none⟩), .int .i64 0, .int .i64 4294967296] #[V.rv, .pointer (some ⟨g, o + 2, none⟩), .int .i64 0, .int .i64 4294967296] (by kernel_rfl) (by kernel_rfl) (by kernel_rfl) hV.num (by kernel_rfl)) (H12 _ kb15) (fun c w' h => ⟨rfl, .inr ⟨c, rfl, h⟩⟩) ?_
  rintro V16 H17
  refine ls_end ?_
  refine sy_a ⟨#[V.v, pT g o, undef, undef, V.v, .tuple #[], V.v, pT g o, pT g o, pT g (o + 0), .func (.method "distraint/message.num") #[V.v] #[], .func (.method "distraint/message.num") #[V.v] #[], V.v, .tuple #[], V.v, pT g o, pT g o, pT g (o + 1), .func (.method "distraint/message.num") #[V.v] #[], .func (.method "distraint/message.num") #[V.v] #[], V.v, .tuple #[], V.v, pT g o, pT g o, pT g (o + 2), .func (.method "distraint/message.num") #[V.v] #[], .func (.method "distraint/message.num") #[V.v] #[], V.v, .tuple #[], undef, undef, undef, undef, undef, undef, undef, undef, undef, undef, undef, undef, undef, undef, undef, undef], []⟩ ?_
  refine then_n ?_
  refine sy_sq (part_mvote 62) (part_mvote 63) ?_
  refine sy_reg ?_
  refine rg_still 4 7 (opsAt (part_mvote 62)) [o_mvote 62 0, o_mvote 62 1, o_mvote 62 2, o_mvote 62 3, o_mvote 62 4, o_mvote 62 5, o_mvote 62 6] [o_mvote 62 7] (by kernel_rfl) (by kernel_rfl) (by kernel_rfl) (by kernel_rfl) (by kernel_rfl) ?_
  obtain ⟨V19, eV19, kV19⟩ := drew_step V16
  rw [eV19]
  clear eV19
  have kb20 : Keeps Nob V16 V19 := (Keeps.refl Nob V16).nn kV19
  refine st_k (o_mvote 62 0) (V.v) ?_
  refine st_k (o_mvote 62 1) (pT g o) ?_
  refine st_k (o_mvote 62 2) (pT g o) ?_
  refine st_k (o_mvote 62 3) (pT g (o + 3)) ?_
  refine st_k (o_mvote 62 4) (.func (.method "distraint/message.hash") #[V.v] #[]) ?_
  refine st_p (o_mvote 62 5) (.func (.method "distraint/message.hash") #[V.v] #[]) (hV.hash0 _ _ (.tmp 34) _ (by kernel_rfl) (by kernel_rfl)) ?_
  refine st_k (o_mvote 62 6) (V.v) ?_
  refine st_end ?_
  refine ls_P (o_mvote 62 7) V.fh #[V.rv, .pointer (some ⟨g, o + 3, none⟩)] _ _ (run_invoke (o_mvote 62 7) (.tmp 36) "distraint/message.hash" V.v V.fh V.rv #[.pointer (some ⟨g, o + 3, none⟩)] #[V.rv, .pointer (some ⟨g, o + 3, none⟩)] (by kernel_rfl) (by kernel_rfl) (by kernel_rfl) hV.hash (by kernel_rfl)) (H17 _ kb20) (fun c w' h => ⟨rfl, .inr ⟨c, rfl, h⟩⟩) ?_
  rintro V21 H22
  refine ls_end ?_
  refine then_n ?_
  refine sy_reg ?_
  refine rg_still 5 7 (opsAt (part_mvote 63)) [o_mvote 63 0, o_mvote 63 1, o_mvote 63 2, o_mvote 63 3, o_mvote 63 4, o_mvote 63 5, o_mvote 63 6] [o_mvote 63 7] (by kernel_rfl) (by kernel_rfl) (by kernel_rfl) (by kernel_rfl) (by kernel_rfl) ?_
  obtain ⟨V24, eV24, kV24⟩ := drew_step V21
  rw [eV24]
  clear eV24
  have kb25 : Keeps Nob V21 V24 := (Keeps.refl Nob V21).nn kV24
  refine st_k (o_mvote 63 0) (V.v) ?_
  refine st_k (o_mvote 63 1) (pT g o) ?_
  refine st_k (o_mvote 63 2) (pT g o) ?_
  refine st_k (o_mvote 63 3) (pT g (o + 35)) ?_
  refine st_k (o_mvote 63 4) (.func (.method "distraint/message.amount") #[V.v] #[]) ?_
  refine st_p (o_mvote 63 5) (.func (.method "distraint/message.amount") #[V.v] #[]) (hV.amount0 _ _ (.tmp 42) _ (by kernel_rfl) (by kernel_rfl)) ?_
  refine st_k (o_mvote 63 6) (V.v) ?_
  refine st_end ?_
  refine ls_P (o_mvote 63 7) V.fa #[V.rv, .pointer (some ⟨g, o + 35, none⟩)] _ _ (run_invoke (o_mvote 63 7) (.tmp 44) "distraint/message.amount" V.v V.fa V.rv #[.pointer (some ⟨g, o + 35, none⟩)] #[V.rv, .pointer (some ⟨g, o + 35, none⟩)] (by kernel_rfl) (by kernel_rfl) (by kernel_rfl) hV.amount (by kernel_rfl)) (H22 _ kb25) (fun c w' h => ⟨rfl, .inr ⟨c, rfl, h⟩⟩) ?_
  rintro V26 H27
  refine ls_end ?_
  refine sy_fall (.tuple #[]) rfl (by kernel_rfl) ?_
  exact .inl ⟨rfl, H27⟩
noncomputable def part_mblock (n : Nat) : Code := partOf Try.f112 n
noncomputable abbrev o_mblock (n k : Nat) : Oper := (opsAt (part_mblock n)).getD k default
set_option maxRecDepth 100000 in
set_option maxHeartbeats 4000000 in
theorem mblock_ok (V : Vis) (hV : V.Ok) (g : Nat) (o : Nat) (K : World → Prop) (E : List PanicEntry → World → Prop) (w : World) (H : Run V g [.k 2, .n o 0 31, .n (o + 1) 1 4294967296, .h (o + 2), .a (o + 34)] K E w) :
    Calls Try.prog 112 #[V.v, .pointer (some ⟨g, o, none⟩)] w (PEnd K E) := by
  have K0 : Keeps Nob w w := Keeps.refl _ _
  refine sy_enter (part_mblock 1) ⟨#[V.v, pT g o, undef, undef, undef, undef, undef, undef, undef, undef, undef, undef, undef, undef, undef, undef, undef, undef, undef, undef, undef, undef, undef, undef, undef, undef, undef, undef, undef, undef, undef, undef, undef, undef, undef, undef, undef, undef], []⟩ Try.func112 (by kernel_rfl) (by kernel_rfl) ?_
  refine sy_sq (part_mblock 2) (part_mblock 3) ?_
  refine sy_reg ?_
  refine rg_plain 0 (opsAt (part_mblock 2)) [0, 1] (by kernel_rfl) (by kernel_rfl) ?_
  refine ps_k (o_mblock 2 0) (V.v) ?_
  refine ps_P (o_mblock 2 1) 117 #[V.v, .int .i64 2] _ _ (run_callF (o_mblock 2 1) 117 #[V.v, .int .i64 2] (by kernel_rfl) rfl (by kernel_rfl) (enters_of Try.func117 (by kernel_rfl) rfl)) (mkind_ok V hV g 2 (Run V g [.n o 0 31, .n (o + 1) 1 4294967296, .h (o + 2), .a (o + 34)] K E) E _ (Run.keepsN H (Keeps.refl Nob w))) (fun c w' h => ⟨rfl, .inr ⟨c, rfl, h⟩⟩) ?_
  rintro V1 H2
  refine ps_end ?_
  refine then_n ?_
  refine sy_sq (part_mblock 6) (part_mblock 7) ?_
  refine sy_reg ?_
  refine rg_still 1 7 (opsAt (part_mblock 6)) [o_mblock 6 0, o_mblock 6 1, o_mblock 6 2, o_mblock 6 3, o_mblock 6 4, o_mblock 6 5, o_mblock 6 6] [o_mblock 6 7] (by kernel_rfl) (by kernel_rfl) (by kernel_rfl) (by kernel_rfl) (by kernel_rfl) ?_
  obtain ⟨V4, eV4, kV4⟩ := drew_step V1
  rw [eV4]
  clear eV4
  have kb5 : Keeps Nob V1 V4 := (Keeps.refl Nob V1).nn kV4
  refine st_k (o_mblock 6 0) (V.v) ?_
  refine st_k (o_mblock 6 1) (pT g o) ?_
  refine st_k (o_mblock 6 2) (pT g o) ?_
  refine st_k (o_mblock 6 3) (pT g (o + 0)) ?_
  refine st_k (o_mblock 6 4) (.func (.method "distraint/message.num") #[V.v] #[]) ?_
  refine st_p (o_mblock 6 5) (.func (.method "distraint/message.num") #[V.v] #[]) (hV.num0 _ _ (.tmp 10) _ (by kernel_rfl) (by kernel_rfl)) ?_
  refine st_k (o_mblock 6 6) (V.v) ?_
  refine st_end ?_
  refine ls_P (o_mblock 6 7) V.fn #[V.rv, .pointer (some ⟨g, o + 0, none⟩), .int .i64 0, .int .i64 31] _ _ (run_invoke (o_mblock 6 7) (.tmp 12) "distraint/message.num" V.v V.fn V.rv #[.pointer (some ⟨g, o + 0, none⟩), .int .i64 0, .int .i64 31] #[V.rv, .pointer (some ⟨g, o + 0, none⟩), .int .i64 0, .int .i64 31] (by kernel_rfl) (by kernel_rfl) (by kernel_rfl) hV.num (by kernel_rfl)) (H2 _ kb5) (fun c w' h => ⟨rfl, .inr ⟨c, rfl, h⟩⟩) ?_
  rintro V6 H7
  refine ls_end ?_
  refine then_n ?_
  refine sy_sq (part_mblock 14) (part_mblock 15) ?_
  refine sy_reg ?_
  refine rg_still 2 7 (opsAt (part_mblock 14)) [o_mblock 14 0, o_mblock 14 1, o_mblock 14 2, o_mblock 14 3, o_mblock 14 4, o_mblock 14 5, o_mblock 14 6] [o_mblock 14 7] (by kernel_rfl) (by kernel_rfl) (by kernel_rfl) (by kernel_rfl) (by kernel_rfl) ?_
  obtain ⟨V9, eV9, kV9⟩ := drew_step V6
  rw [eV9]
  clear eV9
  have kb10 : Keeps Nob V6 V9 := (Keeps.refl Nob V6).nn kV9
  refine st_k (o_mblock 14 0) (V.v) ?_
  refine st_k (o_mblock 14 1) (pT g o) ?_
  refine st_k (o_mblock 14 2) (pT g o) ?_
  refine st_k (o_mblock 14 3) (pT g (o + 1)) ?_
  refine st_k (o_mblock 14 4) (.func (.method "distraint/message.num") #[V.v] #[]) ?_
  refine st_p (o_mblock 14 5) (.func (.method "distraint/message.num") #[V.v] #[]) (hV.num0 _ _ (.tmp 18) _ (by kernel_rfl) (by kernel_rfl)) ?_
  refine st_k (o_mblock 14 6) (V.v) ?_
  refine st_end ?_
  refine ls_P (o_mblock 14 7) V.fn #[V.rv, .pointer (some ⟨g, o + 1, none⟩), .int .i64 1, .int .i64 4294967296] _ _ (run_invoke (o_mblock 14 7) (.tmp 20) "distraint/message.num" V.v V.fn V.rv #[.pointer (some ⟨g, o + 1, none⟩), .int .i64 1, .int .i64 4294967296] #[V.rv, .pointer (some ⟨g, o + 1, none⟩), .int .i64 1, .int .i64 4294967296] (by kernel_rfl) (by kernel_rfl) (by kernel_rfl) hV.num (by kernel_rfl)) (H7 _ kb10) (fun c w' h => ⟨rfl, .inr ⟨c, rfl, h⟩⟩) ?_
  rintro V11 H12
  refine ls_end ?_
  refine then_n ?_
  refine sy_sq (part_mblock 30) (part_mblock 31) ?_
  refine sy_reg ?_
  refine rg_still 3 7 (opsAt (part_mblock 30)) [o_mblock 30 0, o_mblock 30 1, o_mblock 30 2, o_mblock 30 3, o_mblock 30 4, o_mblock 30 5, o_mblock 30 6] [o_mblock 30 7] (by kernel_rfl) (by kernel_rfl) (by kernel_rfl) (by kernel_rfl) (by kernel_rfl) ?_
  obtain ⟨V14, eV14, kV14⟩ := drew_step V11
  rw [eV14]
  clear eV14
  have kb15 : Keeps Nob V11 V14 := (Keeps.refl Nob V11).nn kV14
  refine st_k (o_mblock 30 0) (V.v) ?_
  refine st_k (o_mblock 30 1) (pT g o) ?_
  refine st_k (o_mblock 30 2) (pT g o) ?_
  refine st_k (o_mblock 30 3) (pT g (o + 2)) ?_
  refine st_k (o_mblock 30 4) (.func (.method "distraint/message.hash") #[V.v] #[]) ?_
  refine st_p (o_mblock 30 5) (.func (.method "distraint/message.hash") #[V.v] #[]) (hV.hash0 _ _ (.tmp 26) _ (by kernel_rfl) (by kernel_rfl)) ?_
  refine st_k (o_mblock 30 6) (V.v) ?_
  refine st_end ?_
  refine ls_P (o_mblock 30 7) V.fh #[V.rv, .pointer (some ⟨g, o + 2, none⟩)] _ _ (run_invoke (o_mblock 30 7) (.tmp 28) "distraint/message.hash" V.v V.fh V.rv #[.pointer (some ⟨g, o + 2, none⟩)] #[V.rv, .pointer (some ⟨g, o + 2, none⟩)] (by kernel_rfl) (by kernel_rfl) (by kernel_rfl) hV.hash (by kernel_rfl)) (H12 _ kb15) (fun c w' h => ⟨rfl, .inr ⟨c, rfl, h⟩⟩) ?_
  rintro V16 H17
  refine ls_end ?_
  refine sy_a ⟨#[V.v, pT g o, undef, undef, V.v, .tuple #[], V.v, pT g o, pT g o, pT g (o + 0), .func (.method "distraint/message.num") #[V.v] #[], .func (.method "distraint/message.num") #[V.v] #[], V.v, .tuple #[], V.v, pT g o, pT g o, pT g (o + 1), .func (.method "distraint/message.num") #[V.v] #[], .func (.method "distraint/message.num") #[V.v] #[], V.v, .tuple #[], V.v, pT g o, pT g o, pT g (o + 2), .func (.method "distraint/message.hash") #[V.v] #[], .func (.method "distraint/message.hash") #[V.v] #[], V.v, .tuple #[], undef, undef, undef, undef, undef, undef, undef, undef], []⟩ ?_
  refine then_n ?_
  refine sy_reg ?_
  refine rg_still 4 7 (opsAt (part_mblock 31)) [o_mblock 31 0, o_mblock 31 1, o_mblock 31 2, o_mblock 31 3, o_mblock 31 4, o_mblock 31 5, o_mblock 31 6] [o_mblock 31 7] (by kernel_rfl) (by kernel_rfl) (by kernel_rfl) (by kernel_rfl) (by kernel_rfl) ?_
  obtain ⟨V19, eV19, kV19⟩ := drew_step V16
  rw [eV19]
  clear eV19
  have kb20 : Keeps Nob V16 V19 := (Keeps.refl Nob V16).nn kV19
  refine st_k (o_mblock 31 0) (V.v) ?_
  refine st_k (o_mblock 31 1) (pT g o) ?_
  refine st_k (o_mblock 31 2) (pT g o) ?_
  refine st_k (o_mblock 31 3) (pT g (o + 34)) ?_
  refine st_k (o_mblock 31 4) (.func (.method "distraint/message.amount") #[V.v] #[]) ?_
  refine st_p (o_mblock 31 5) (.func (.method "distraint/message.amount") #[V.v] #[]) (hV.amount0 _ _ (.tmp 34) _ (by kernel_rfl) (by kernel_rfl)) ?_
  refine st_k (o_mblock 31 6) (V.v) ?_
  refine st_end ?_
  refine ls_P (o_mblock 31 7) V.fa #[V.rv, .pointer (some ⟨g, o + 34, none⟩)] _ _ (run_invoke (o_mblock 31 7) (.tmp 36) "distraint/message.amount" V.v V.fa V.rv #[.pointer (some ⟨g, o + 34, none⟩)] #[V.rv, .pointer (some ⟨g, o + 34, none⟩)] (by kernel_rfl) (by kernel_rfl) (by kernel_rfl) hV.amount (by kernel_rfl)) (H17 _ kb20) (fun c w' h => ⟨rfl, .inr ⟨c, rfl, h⟩⟩) ?_
  rintro V21 H22
  refine ls_end ?_
  refine sy_fall (.tuple #[]) rfl (by kernel_rfl) ?_
  exact .inl ⟨rfl, H22⟩
noncomputable def part_mtransfer (n : Nat) : Code := partOf Try.f88 n
noncomputable abbrev o_mtransfer (n k : Nat) : Oper := (opsAt (part_mtransfer n)).getD k default
set_option maxRecDepth 100000 in
set_option maxHeartbeats 4000000 in
theorem mtransfer_ok (V : Vis) (hV : V.Ok) (g : Nat) (K : World → Prop) (E : List PanicEntry → World → Prop) (w : World) (H : Run V g [.n 1 0 63, .n 3 0 63, .a 4] K E w) :
    Calls Try.prog 88 #[.pointer (some ⟨g, 0, none⟩), V.v] w (PEnd K E) := by
  have K0 : Keeps Nob w w := Keeps.refl _ _
  refine sy_enter (part_mtransfer 1) ⟨#[pT g 0, V.v, undef, undef, undef, undef, undef, undef, undef, undef, undef, undef, undef, undef, undef, undef, undef, undef, undef, undef, undef, undef, undef], []⟩ Try.func88 (by kernel_rfl) (by kernel_rfl) ?_
  refine sy_sq (part_mtransfer 2) (part_mtransfer 3) ?_
  refine sy_reg ?_
  refine rg_plain 0 (opsAt (part_mtransfer 2)) [0, 1, 2] (by kernel_rfl) (by kernel_rfl) ?_
  refine ps_k (o_mtransfer 2 0) (pT g 0) ?_
  refine ps_k (o_mtransfer 2 1) (V.v) ?_
  refine ps_P (o_mtransfer 2 2) 108 #[.pointer (some ⟨g, 0, none⟩), V.v] _ _ (run_callF (o_mtransfer 2 2) 108 #[.pointer (some ⟨g, 0, none⟩), V.v] (by kernel_rfl) rfl (by kernel_rfl) (enters_of Try.func108 (by kernel_rfl) rfl)) (maccount_ok V hV g (Run V g [.n 3 0 63, .a 4] K E) E _ (Run.keepsN H (Keeps.refl Nob w))) (fun c w' h => ⟨rfl, .inr ⟨c, rfl, h⟩⟩) ?_
  rintro V1 H2
  refine ps_end ?_
  refine then_n ?_
  refine sy_sq (part_mtransfer 6) (part_mtransfer 7) ?_
  refine sy_reg ?_
  refine rg_still 1 7 (opsAt (part_mtransfer 6)) [o_mtransfer 6 0, o_mtransfer 6 1, o_mtransfer 6 2, o_mtransfer 6 3, o_mtransfer 6 4, o_mtransfer 6 5, o_mtransfer 6 6] [o_mtransfer 6 7] (by kernel_rfl) (by kernel_rfl) (by kernel_rfl) (by kernel_rfl) (by kernel_rfl) ?_
  obtain ⟨V4, eV4, kV4⟩ := drew_step V1
  rw [eV4]
  clear eV4
  have kb5 : Keeps Nob V1 V4 := (Keeps.refl Nob V1).nn kV4
  refine st_k (o_mtransfer 6 0) (V.v) ?_
  refine st_k (o_mtransfer 6 1) (pT g 0) ?_
  refine st_k (o_mtransfer 6 2) (pT g 0) ?_
  refine st_k (o_mtransfer 6 3) (pT g 3) ?_
  refine st_k (o_mtransfer 6 4) (.func (.method "distraint/message.num") #[V.v] #[]) ?_
  refine st_p (o_mtransfer 6 5) (.func (.method "distraint/message.num") #[V.v] #[]) (hV.num0 _ _ (.tmp 11) _ (by kernel_rfl) (by kernel_rfl)) ?_
  refine st_k (o_mtransfer 6 6) (V.v) ?_
  refine st_end ?_
  refine ls_P (o_mtransfer 6 7) V.fn #[V.rv, .pointer (some ⟨g, 3, none⟩), .int .i64 0, .int .i64 63] _ _ (run_invoke (o_mtransfer 6 7) (.tmp 13) "distraint/message.num" V.v V.fn V.rv #[.pointer (some ⟨g, 3, none⟩), .int .i64 0, .int .i64 63] #[V.rv, .pointer (some ⟨g, 3, none⟩), .int .i64 0, .int .i64 63] (by kernel_rfl) (by kernel_rfl) (by kernel_rfl) hV.num (by kernel_rfl)) (H2 _ kb5) (fun c w' h => ⟨rfl, .inr ⟨c, rfl, h⟩⟩) ?_
  rintro V6 H7
  refine ls_end ?_
  refine then_n ?_
  refine sy_reg ?_
  refine rg_still 2 7 (opsAt (part_mtransfer 7)) [o_mtransfer 7 0, o_mtransfer 7 1, o_mtransfer 7 2, o_mtransfer 7 3, o_mtransfer 7 4, o_mtransfer 7 5, o_mtransfer 7 6] [o_mtransfer 7 7] (by kernel_rfl) (by kernel_rfl) (by kernel_rfl) (by kernel_rfl) (by kernel_rfl) ?_
  obtain ⟨V9, eV9, kV9⟩ := drew_step V6
  rw [eV9]
  clear eV9
  have kb10 : Keeps Nob V6 V9 := (Keeps.refl Nob V6).nn kV9
  refine st_k (o_mtransfer 7 0) (V.v) ?_
  refine st_k (o_mtransfer 7 1) (pT g 0) ?_
  refine st_k (o_mtransfer 7 2) (pT g 0) ?_
  refine st_k (o_mtransfer 7 3) (pT g 4) ?_
  refine st_k (o_mtransfer 7 4) (.func (.method "distraint/message.amount") #[V.v] #[]) ?_
  refine st_p (o_mtransfer 7 5) (.func (.method "distraint/message.amount") #[V.v] #[]) (hV.amount0 _ _ (.tmp 19) _ (by kernel_rfl) (by kernel_rfl)) ?_
  refine st_k (o_mtransfer 7 6) (V.v) ?_
  refine st_end ?_
  refine ls_P (o_mtransfer 7 7) V.fa #[V.rv, .pointer (some ⟨g, 4, none⟩)] _ _ (run_invoke (o_mtransfer 7 7) (.tmp 21) "distraint/message.amount" V.v V.fa V.rv #[.pointer (some ⟨g, 4, none⟩)] #[V.rv, .pointer (some ⟨g, 4, none⟩)] (by kernel_rfl) (by kernel_rfl) (by kernel_rfl) hV.amount (by kernel_rfl)) (H7 _ kb10) (fun c w' h => ⟨rfl, .inr ⟨c, rfl, h⟩⟩) ?_
  rintro V11 H12
  refine ls_end ?_
  refine sy_fall (.tuple #[]) rfl (by kernel_rfl) ?_
  exact .inl ⟨rfl, H12⟩
noncomputable def part_mcreate (n : Nat) : Code := partOf Try.f89 n
noncomputable abbrev o_mcreate (n k : Nat) : Oper := (opsAt (part_mcreate n)).getD k default
set_option maxRecDepth 100000 in
set_option maxHeartbeats 4000000 in
theorem mcreate_ok (V : Vis) (hV : V.Ok) (g : Nat) (K : World → Prop) (E : List PanicEntry → World → Prop) (w : World) (H : Run V g [.n 1 0 63, .a 5, .a 4] K E w) :
    Calls Try.prog 89 #[.pointer (some ⟨g, 0, none⟩), V.v] w (PEnd K E) := by
  have K0 : Keeps Nob w w := Keeps.refl _ _
  refine sy_enter (part_mcreate 1) ⟨#[pT g 0, V.v, undef, undef, undef, undef, undef, undef, undef, undef, undef, undef, undef, undef, undef, undef, undef, undef, undef, undef, undef, undef, undef], []⟩ Try.func89 (by kernel_rfl) (by kernel_rfl) ?_
  refine sy_sq (part_mcreate 2) (part_mcreate 3) ?_
  refine sy_reg ?_
  refine rg_plain 0 (opsAt (part_mcreate 2)) [0, 1, 2] (by kernel_rfl) (by kernel_rfl) ?_
  refine ps_k (o_mcreate 2 0) (pT g 0) ?_
  refine ps_k (o_mcreate 2 1) (V.v) ?_
  refine ps_P (o_mcreate 2 2) 108 #[.pointer (some ⟨g, 0, none⟩), V.v] _ _ (run_callF (o_mcreate 2 2) 108 #[.pointer (some ⟨g, 0, none⟩), V.v] (by kernel_rfl) rfl (by kernel_rfl) (enters_of Try.func108 (by kernel_rfl) rfl)) (maccount_ok V hV g (Run V g [.a 5, .a 4] K E) E _ (Run.keepsN H (Keeps.refl Nob w))) (fun c w' h => ⟨rfl, .inr ⟨c, rfl, h⟩⟩) ?_
  rintro V1 H2
  refine ps_end ?_
  refine then_n ?_
  refine sy_sq (part_mcreate 6) (part_mcreate 7) ?_
  refine sy_reg ?_
  refine rg_still 1 7 (opsAt (part_mcreate 6)) [o_mcreate 6 0, o_mcreate 6 1, o_mcreate 6 2, o_mcreate 6 3, o_mcreate 6 4, o_mcreate 6 5, o_mcreate 6 6] [o_mcreate 6 7] (by kernel_rfl) (by kernel_rfl) (by kernel_rfl) (by kernel_rfl) (by kernel_rfl) ?_
  obtain ⟨V4, eV4, kV4⟩ := drew_step V1
  rw [eV4]
  clear eV4
  have kb5 : Keeps Nob V1 V4 := (Keeps.refl Nob V1).nn kV4
  refine st_k (o_mcreate 6 0) (V.v) ?_
  refine st_k (o_mcreate 6 1) (pT g 0) ?_
  refine st_k (o_mcreate 6 2) (pT g 0) ?_
  refine st_k (o_mcreate 6 3) (pT g 5) ?_
  refine st_k (o_mcreate 6 4) (.func (.method "distraint/message.amount") #[V.v] #[]) ?_
  refine st_p (o_mcreate 6 5) (.func (.method "distraint/message.amount") #[V.v] #[]) (hV.amount0 _ _ (.tmp 11) _ (by kernel_rfl) (by kernel_rfl)) ?_
  refine st_k (o_mcreate 6 6) (V.v) ?_
  refine st_end ?_
  refine ls_P (o_mcreate 6 7) V.fa #[V.rv, .pointer (some ⟨g, 5, none⟩)] _ _ (run_invoke (o_mcreate 6 7) (.tmp 13) "distraint/message.amount" V.v V.fa V.rv #[.pointer (some ⟨g, 5, none⟩)] #[V.rv, .pointer (some ⟨g, 5, none⟩)] (by kernel_rfl) (by kernel_rfl) (by kernel_rfl) hV.amount (by kernel_rfl)) (H2 _ kb5) (fun c w' h => ⟨rfl, .inr ⟨c, rfl, h⟩⟩) ?_
  rintro V6 H7
  refine ls_end ?_
  refine then_n ?_
  refine sy_reg ?_
  refine rg_still 2 7 (opsAt (part_mcreate 7)) [o_mcreate 7 0, o_mcreate 7 1, o_mcreate 7 2, o_mcreate 7 3, o_mcreate 7 4, o_mcreate 7 5, o_mcreate 7 6] [o_mcreate 7 7] (by kernel_rfl) (by kernel_rfl) (by kernel_rfl) (by kernel_rfl) (by kernel_rfl) ?_
  obtain ⟨V9, eV9, kV9⟩ := drew_step V6
  rw [eV9]
  clear eV9
  have kb10 : Keeps Nob V6 V9 := (Keeps.refl Nob V6).nn kV9
  refine st_k (o_mcreate 7 0) (V.v) ?_
  refine st_k (o_mcreate 7 1) (pT g 0) ?_
  refine st_k (o_mcreate 7 2) (pT g 0) ?_
  refine st_k (o_mcreate 7 3) (pT g 4) ?_
  refine st_k (o_mcreate 7 4) (.func (.method "distraint/message.amount") #[V.v] #[]) ?_
  refine st_p (o_mcreate 7 5) (.func (.method "distraint/message.amount") #[V.v] #[]) (hV.amount0 _ _ (.tmp 19) _ (by kernel_rfl) (by kernel_rfl)) ?_
  refine st_k (o_mcreate 7 6) (V.v) ?_
  refine st_end ?_
  refine ls_P (o_mcreate 7 7) V.fa #[V.rv, .pointer (some ⟨g, 4, none⟩)] _ _ (run_invoke (o_mcreate 7 7) (.tmp 21) "distraint/message.amount" V.v V.fa V.rv #[.pointer (some ⟨g, 4, none⟩)] #[V.rv, .pointer (some ⟨g, 4, none⟩)] (by kernel_rfl) (by kernel_rfl) (by kernel_rfl) hV.amount (by kernel_rfl)) (H7 _ kb10) (fun c w' h => ⟨rfl, .inr ⟨c, rfl, h⟩⟩) ?_
  rintro V11 H12
  refine ls_end ?_
  refine sy_fall (.tuple #[]) rfl (by kernel_rfl) ?_
  exact .inl ⟨rfl, H12⟩
noncomputable def part_mdelegate (n : Nat) : Code := partOf Try.f90 n
noncomputable abbrev o_mdelegate (n k : Nat) : Oper := (opsAt (part_mdelegate n)).getD k default
set_option maxRecDepth 100000 in
set_option maxHeartbeats 4000000 in
theorem mdelegate_ok (V : Vis) (hV : V.Ok) (g : Nat) (K : World → Prop) (E : List PanicEntry → World → Prop) (w : World) (H : Run V g [.n 1 0 63, .n 2 0 31, .a 4] K E w) :
    Calls Try.prog 90 #[.pointer (some ⟨g, 0, none⟩), V.v] w (PEnd K E) := by
  have K0 : Keeps Nob w w := Keeps.refl _ _
  refine sy_enter (part_mdelegate 1) ⟨#[pT g 0, V.v, undef, undef, undef, undef, undef, undef, undef, undef, undef, undef, undef, undef, undef, undef, undef, undef], []⟩ Try.func90 (by kernel_rfl) (by kernel_rfl) ?_
  refine sy_sq (part_mdelegate 2) (part_mdelegate 3) ?_
  refine sy_reg ?_
  refine rg_plain 0 (opsAt (part_mdelegate 2)) [0, 1, 2] (by kernel_rfl) (by kernel_rfl) ?_
  refine ps_k (o_mdelegate 2 0) (pT g 0) ?_
  refine ps_k (o_mdelegate 2 1) (V.v) ?_
  refine ps_P (o_mdelegate 2 2) 108 #[.pointer (some ⟨g, 0, none⟩), V.v] _ _ (run_callF (o_mdelegate 2 2) 108 #[.pointer (some ⟨g, 0, none⟩), V.v] (by kernel_rfl) rfl (by kernel_rfl) (enters_of Try.func108 (by kernel_rfl) rfl)) (maccount_ok V hV g (Run V g [.n 2 0 31, .a 4] K E) E _ (Run.keepsN H (Keeps.refl Nob w))) (fun c w' h => ⟨rfl, .inr ⟨c, rfl, h⟩⟩) ?_
  rintro V1 H2
  refine ps_end ?_
  refine then_n ?_
  refine sy_sq (part_mdelegate 6) (part_mdelegate 7) ?_
  refine sy_reg ?_
  refine rg_plain 1 (opsAt (part_mdelegate 6)) [0, 1, 2] (by kernel_rfl) (by kernel_rfl) ?_
  refine ps_k (o_mdelegate 6 0) (pT g 0) ?_
  refine ps_k (o_mdelegate 6 1) (V.v) ?_
  refine ps_P (o_mdelegate 6 2) 109 #[.pointer (some ⟨g, 0, none⟩), V.v] _ _ (run_callF (o_mdelegate 6 2) 109 #[.pointer (some ⟨g, 0, none⟩), V.v] (by kernel_rfl) rfl (by kernel_rfl) (enters_of Try.func109 (by kernel_rfl) rfl)) (mvalidator_ok V hV g (Run V g [.a 4] K E) E _ (Run.keepsN H2 (Keeps.refl Nob V1))) (fun c w' h => ⟨rfl, .inr ⟨c, rfl, h⟩⟩) ?_
  rintro V3 H4
  refine ps_end ?_
  refine then_n ?_
  refine sy_reg ?_
  refine rg_still 2 7 (opsAt (part_mdelegate 7)) [o_mdelegate 7 0, o_mdelegate 7 1, o_mdelegate 7 2, o_mdelegate 7 3, o_mdelegate 7 4, o_mdelegate 7 5, o_mdelegate 7 6] [o_mdelegate 7 7] (by kernel_rfl) (by kernel_rfl) (by kernel_rfl) (by kernel_rfl) (by kernel_rfl) ?_
  obtain ⟨V6, eV6, kV6⟩ := drew_step V3
  rw [eV6]
  clear eV6
  have kb7 : Keeps Nob V3 V6 := (Keeps.refl Nob V3).nn kV6
  refine st_k (o_mdelegate 7 0) (V.v) ?_
  refine st_k (o_mdelegate 7 1) (pT g 0) ?_
  refine st_k (o_mdelegate 7 2) (pT g 0) ?_
  refine st_k (o_mdelegate 7 3) (pT g 4) ?_
  refine st_k (o_mdelegate 7 4) (.func (.method "distraint/message.amount") #[V.v] #[]) ?_
  refine st_p (o_mdelegate 7 5) (.func (.method "distraint/message.amount") #[V.v] #[]) (hV.amount0 _ _ (.tmp 14) _ (by kernel_rfl) (by kernel_rfl)) ?_
  refine st_k (o_mdelegate 7 6) (V.v) ?_
  refine st_end ?_
  refine ls_P (o_mdelegate 7 7) V.fa #[V.rv, .pointer (some ⟨g, 4, none⟩)] _ _ (run_invoke (o_mdelegate 7 7) (.tmp 16) "distraint/message.amount" V.v V.fa V.rv #[.pointer (some ⟨g, 4, none⟩)] #[V.rv, .pointer (some ⟨g, 4, none⟩)] (by kernel_rfl) (by kernel_rfl) (by kernel_rfl) hV.amount (by kernel_rfl)) (H4 _ kb7) (fun c w' h => ⟨rfl, .inr ⟨c, rfl, h⟩⟩) ?_
  rintro V8 H9
  refine ls_end ?_
  refine sy_fall (.tuple #[]) rfl (by kernel_rfl) ?_
  exact .inl ⟨rfl, H9⟩
noncomputable def part_mundelegate (n : Nat) : Code := partOf Try.f91 n
noncomputable abbrev o_mundelegate (n k : Nat) : Oper := (opsAt (part_mundelegate n)).getD k default
set_option maxRecDepth 100000 in
set_option maxHeartbeats 4000000 in
theorem mundelegate_ok (V : Vis) (hV : V.Ok) (g : Nat) (K : World → Prop) (E : List PanicEntry → World → Prop) (w : World) (H : Run V g [.n 1 0 63, .n 6 0 31, .n 7 1 4294967296, .n 8 (-1) 31, .n 9 0 4294967296, .a 4] K E w) :
    Calls Try.prog 91 #[.pointer (some ⟨g, 0, none⟩), V.v] w (PEnd K E) := by
  have K0 : Keeps Nob w w := Keeps.refl _ _
  refine sy_enter (part_mundelegate 1) ⟨#[pT g 0, V.v, undef, undef, undef, undef, undef, undef, undef, undef, undef, undef, undef, undef, undef, undef, undef, undef], []⟩ Try.func91 (by kernel_rfl) (by kernel_rfl) ?_
  refine sy_sq (part_mundelegate 2) (part_mundelegate 3) ?_
  refine sy_reg ?_
  refine rg_plain 0 (opsAt (part_mundelegate 2)) [0, 1, 2] (by kernel_rfl) (by kernel_rfl) ?_
  refine ps_k (o_mundelegate 2 0) (pT g 0) ?_
  refine ps_k (o_mundelegate 2 1) (V.v) ?_
  refine ps_P (o_mundelegate 2 2) 108 #[.pointer (some ⟨g, 0, none⟩), V.v] _ _ (run_callF (o_mundelegate 2 2) 108 #[.pointer (some ⟨g, 0, none⟩), V.v] (by kernel_rfl) rfl (by kernel_rfl) (enters_of Try.func108 (by kernel_rfl) rfl)) (maccount_ok V hV g (Run V g [.n 6 0 31, .n 7 1 4294967296, .n 8 (-1) 31, .n 9 0 4294967296, .a 4] K E) E _ (Run.keepsN H (Keeps.refl Nob w))) (fun c w' h => ⟨rfl, .inr ⟨c, rfl, h⟩⟩) ?_
  rintro V1 H2
  refine ps_end ?_
  refine then_n ?_
  refine sy_sq (part_mundelegate 6) (part_mundelegate 7) ?_
  refine sy_reg ?_
  refine rg_plain 1 (opsAt (part_mundelegate 6)) [0, 1, 2] (by kernel_rfl) (by kernel_rfl) ?_
  refine ps_k (o_mundelegate 6 0) (pT g 0) ?_
  refine ps_k (o_mundelegate 6 1) (V.v) ?_
  refine ps_P (o_mundelegate 6 2) 110 #[.pointer (some ⟨g, 0, none⟩), V.v] _ _ (run_callF (o_mundelegate 6 2) 110 #[.pointer (some ⟨g, 0, none⟩), V.v] (by kernel_rfl) rfl (by kernel_rfl) (enters_of Try.func110 (by kernel_rfl) rfl)) (mlot_ok V hV g (Run V g [.a 4] K E) E _ (Run.keepsN H2 (Keeps.refl Nob V1))) (fun c w' h => ⟨rfl, .inr ⟨c, rfl, h⟩⟩) ?_
  rintro V3 H4
  refine ps_end ?_
  refine then_n ?_
  refine sy_reg ?_
  refine rg_still 2 7 (opsAt (part_mundelegate 7)) [o_mundelegate 7 0, o_mundelegate 7 1, o_mundelegate 7 2, o_mundelegate 7 3, o_mundelegate 7 4, o_mundelegate 7 5, o_mundelegate 7 6] [o_mundelegate 7 7] (by kernel_rfl) (by kernel_rfl) (by kernel_rfl) (by kernel_rfl) (by kernel_rfl) ?_
  obtain ⟨V6, eV6, kV6⟩ := drew_step V3
  rw [eV6]
  clear eV6
  have kb7 : Keeps Nob V3 V6 := (Keeps.refl Nob V3).nn kV6
  refine st_k (o_mundelegate 7 0) (V.v) ?_
  refine st_k (o_mundelegate 7 1) (pT g 0) ?_
  refine st_k (o_mundelegate 7 2) (pT g 0) ?_
  refine st_k (o_mundelegate 7 3) (pT g 4) ?_
  refine st_k (o_mundelegate 7 4) (.func (.method "distraint/message.amount") #[V.v] #[]) ?_
  refine st_p (o_mundelegate 7 5) (.func (.method "distraint/message.amount") #[V.v] #[]) (hV.amount0 _ _ (.tmp 14) _ (by kernel_rfl) (by kernel_rfl)) ?_
  refine st_k (o_mundelegate 7 6) (V.v) ?_
  refine st_end ?_
  refine ls_P (o_mundelegate 7 7) V.fa #[V.rv, .pointer (some ⟨g, 4, none⟩)] _ _ (run_invoke (o_mundelegate 7 7) (.tmp 16) "distraint/message.amount" V.v V.fa V.rv #[.pointer (some ⟨g, 4, none⟩)] #[V.rv, .pointer (some ⟨g, 4, none⟩)] (by kernel_rfl) (by kernel_rfl) (by kernel_rfl) hV.amount (by kernel_rfl)) (H4 _ kb7) (fun c w' h => ⟨rfl, .inr ⟨c, rfl, h⟩⟩) ?_
  rintro V8 H9
  refine ls_end ?_
  refine sy_fall (.tuple #[]) rfl (by kernel_rfl) ?_
  exact .inl ⟨rfl, H9⟩
noncomputable def part_mredelegate (n : Nat) : Code := partOf Try.f92 n
noncomputable abbrev o_mredelegate (n k : Nat) : Oper := (opsAt (part_mredelegate n)).getD k default
set_option maxRecDepth 100000 in
set_option maxHeartbeats 4000000 in
theorem mredelegate_ok (V : Vis) (hV : V.Ok) (g : Nat) (K : World → Prop) (E : List PanicEntry → World → Prop) (w : World) (H : Run V g [.n 1 0 63, .n 6 0 31, .n 7 1 4294967296, .n 8 (-1) 31, .n 9 0 4294967296, .a 4, .n 3 0 31] K E w) :
    Calls Try.prog 92 #[.pointer (some ⟨g, 0, none⟩), V.v] w (PEnd K E) := by
  have K0 : Keeps Nob w w := Keeps.refl _ _
  refine sy_enter (part_mredelegate 1) ⟨#[pT g 0, V.v, undef, undef, undef, undef, undef, undef, undef, undef, undef, undef, undef, undef, undef], []⟩ Try.func92 (by kernel_rfl) (by kernel_rfl) ?_
  refine sy_sq (part_mredelegate 2) (part_mredelegate 3) ?_
  refine sy_reg ?_
  refine rg_plain 0 (opsAt (part_mredelegate 2)) [0, 1, 2] (by kernel_rfl) (by kernel_rfl) ?_
  refine ps_k (o_mredelegate 2 0) (pT g 0) ?_
  refine ps_k (o_mredelegate 2 1) (V.v) ?_
  refine ps_P (o_mredelegate 2 2) 91 #[.pointer (some ⟨g, 0, none⟩), V.v] _ _ (run_callF (o_mredelegate 2 2) 91 #[.pointer (some ⟨g, 0, none⟩), V.v] (by kernel_rfl) rfl (by kernel_rfl) (enters_of Try.func91 (by kernel_rfl) rfl)) (mundelegate_ok V hV g (Run V g [.n 3 0 31] K E) E _ (Run.keepsN H (Keeps.refl Nob w))) (fun c w' h => ⟨rfl, .inr ⟨c, rfl, h⟩⟩) ?_
  rintro V1 H2
  refine ps_end ?_
  refine then_n ?_
  refine sy_reg ?_
  refine rg_still 1 7 (opsAt (part_mredelegate 3)) [o_mredelegate 3 0, o_mredelegate 3 1, o_mredelegate 3 2, o_mredelegate 3 3, o_mredelegate 3 4, o_mredelegate 3 5, o_mredelegate 3 6] [o_mredelegate 3 7] (by kernel_rfl) (by kernel_rfl) (by kernel_rfl) (by kernel_rfl) (by kernel_rfl) ?_
  obtain ⟨V4, eV4, kV4⟩ := drew_step V1
  rw [eV4]
  clear eV4
  have kb5 : Keeps Nob V1 V4 := (Keeps.refl Nob V1).nn kV4
  refine st_k (o_mredelegate 3 0) (V.v) ?_
  refine st_k (o_mredelegate 3 1) (pT g 0) ?_
  refine st_k (o_mredelegate 3 2) (pT g 0) ?_
  refine st_k (o_mredelegate 3 3) (pT g 3) ?_
  refine st_k (o_mredelegate 3 4) (.func (.method "distraint/message.num") #[V.v] #[]) ?_
  refine st_p (o_mredelegate 3 5) (.func (.method "distraint/message.num") #[V.v] #[]) (hV.num0 _ _ (.tmp 11) _ (by kernel_rfl) (by kernel_rfl)) ?_
  refine st_k (o_mredelegate 3 6) (V.v) ?_
  refine st_end ?_
  refine ls_P (o_mredelegate 3 7) V.fn #[V.rv, .pointer (some ⟨g, 3, none⟩), .int .i64 0, .int .i64 31] _ _ (run_invoke (o_mredelegate 3 7) (.tmp 13) "distraint/message.num" V.v V.fn V.rv #[.pointer (some ⟨g, 3, none⟩), .int .i64 0, .int .i64 31] #[V.rv, .pointer (some ⟨g, 3, none⟩), .int .i64 0, .int .i64 31] (by kernel_rfl) (by kernel_rfl) (by kernel_rfl) hV.num (by kernel_rfl)) (H2 _ kb5) (fun c w' h => ⟨rfl, .inr ⟨c, rfl, h⟩⟩) ?_
  rintro V6 H7
  refine ls_end ?_
  refine sy_fall (.tuple #[]) rfl (by kernel_rfl) ?_
  exact .inl ⟨rfl, H7⟩
noncomputable def part_mattest (n : Nat) : Code := partOf Try.f93 n
noncomputable abbrev o_mattest (n k : Nat) : Oper := (opsAt (part_mattest n)).getD k default
set_option maxRecDepth 100000 in
set_option maxHeartbeats 4000000 in
theorem mattest_ok (V : Vis) (hV : V.Ok) (g : Nat) (K : World → Prop) (E : List PanicEntry → World → Prop) (w : World) (H : Run V g [.n 1 0 63, .k 1, .n 12 0 31, .n 13 0 4294967296, .n 14 0 4294967296, .h 15, .a 47] K E w) :
    Calls Try.prog 93 #[.pointer (some ⟨g, 0, none⟩), V.v] w (PEnd K E) := by
  have K0 : Keeps Nob w w := Keeps.refl _ _
  refine sy_enter (part_mattest 1) ⟨#[pT g 0, V.v, undef, undef, undef, undef, undef, undef, undef, undef, undef, undef], []⟩ Try.func93 (by kernel_rfl) (by kernel_rfl) ?_
  refine sy_sq (part_mattest 2) (part_mattest 3) ?_
  refine sy_reg ?_
  refine rg_plain 0 (opsAt (part_mattest 2)) [0, 1, 2] (by kernel_rfl) (by kernel_rfl) ?_
  refine ps_k (o_mattest 2 0) (pT g 0) ?_
  refine ps_k (o_mattest 2 1) (V.v) ?_
  refine ps_P (o_mattest 2 2) 108 #[.pointer (some ⟨g, 0, none⟩), V.v] _ _ (run_callF (o_mattest 2 2) 108 #[.pointer (some ⟨g, 0, none⟩), V.v] (by kernel_rfl) rfl (by kernel_rfl) (enters_of Try.func108 (by kernel_rfl) rfl)) (maccount_ok V hV g (Run V g [.k 1, .n 12 0 31, .n 13 0 4294967296, .n 14 0 4294967296, .h 15, .a 47] K E) E _ (Run.keepsN H (Keeps.refl Nob w))) (fun c w' h => ⟨rfl, .inr ⟨c, rfl, h⟩⟩) ?_
  rintro V1 H2
  refine ps_end ?_
  refine then_n ?_
  refine sy_reg ?_
  refine rg_plain 1 (opsAt (part_mattest 3)) [0, 1, 2, 3, 4] (by kernel_rfl) (by kernel_rfl) ?_
  refine ps_k (o_mattest 3 0) (V.v) ?_
  refine ps_k (o_mattest 3 1) (pT g 0) ?_
  refine ps_k (o_mattest 3 2) (pT g 0) ?_
  refine ps_k (o_mattest 3 3) (pT g 12) ?_
  refine ps_P (o_mattest 3 4) 111 #[V.v, .pointer (some ⟨g, 12, none⟩)] _ _ (run_callF (o_mattest 3 4) 111 #[V.v, .pointer (some ⟨g, 12, none⟩)] (by kernel_rfl) rfl (by kernel_rfl) (enters_of Try.func111 (by kernel_rfl) rfl)) (mvote_ok V hV g 12 K E _ (Run.keepsN H2 (Keeps.refl Nob V1))) (fun c w' h => ⟨rfl, .inr ⟨c, rfl, h⟩⟩) ?_
  rintro V3 H4
  refine ps_end ?_
  refine sy_fall (.tuple #[]) rfl (by kernel_rfl) ?_
  exact .inl ⟨rfl, H4⟩
noncomputable def part_mpropose (n : Nat) : Code := partOf Try.f94 n
noncomputable abbrev o_mpropose (n k : Nat) : Oper := (opsAt (part_mpropose n)).getD k default
set_option maxRecDepth 100000 in
set_option maxHeartbeats 4000000 in
theorem mpropose_ok (V : Vis) (hV : V.Ok) (g : Nat) (K : World → Prop) (E : List PanicEntry → World → Prop) (w : World) (H : Run V g [.n 1 0 63, .k 2, .n 84 0 31, .n 85 1 4294967296, .h 86, .a 118] K E w) :
    Calls Try.prog 94 #[.pointer (some ⟨g, 0, none⟩), V.v] w (PEnd K E) := by
  have K0 : Keeps Nob w w := Keeps.refl _ _
  refine sy_enter (part_mpropose 1) ⟨#[pT g 0, V.v, undef, undef, undef, undef, undef, undef, undef, undef, undef, undef], []⟩ Try.func94 (by kernel_rfl) (by kernel_rfl) ?_
  refine sy_sq (part_mpropose 2) (part_mpropose 3) ?_
  refine sy_reg ?_
  refine rg_plain 0 (opsAt (part_mpropose 2)) [0, 1, 2] (by kernel_rfl) (by kernel_rfl) ?_
  refine ps_k (o_mpropose 2 0) (pT g 0) ?_
  refine ps_k (o_mpropose 2 1) (V.v) ?_
  refine ps_P (o_mpropose 2 2) 108 #[.pointer (some ⟨g, 0, none⟩), V.v] _ _ (run_callF (o_mpropose 2 2) 108 #[.pointer (some ⟨g, 0, none⟩), V.v] (by kernel_rfl) rfl (by kernel_rfl) (enters_of Try.func108 (by kernel_rfl) rfl)) (maccount_ok V hV g (Run V g [.k 2, .n 84 0 31, .n 85 1 4294967296, .h 86, .a 118] K E) E _ (Run.keepsN H (Keeps.refl Nob w))) (fun c w' h => ⟨rfl, .inr ⟨c, rfl, h⟩⟩) ?_
  rintro V1 H2
  refine ps_end ?_
  refine then_n ?_
  refine sy_reg ?_
  refine rg_plain 1 (opsAt (part_mpropose 3)) [0, 1, 2, 3, 4] (by kernel_rfl) (by kernel_rfl) ?_
  refine ps_k (o_mpropose 3 0) (V.v) ?_
  refine ps_k (o_mpropose 3 1) (pT g 0) ?_
  refine ps_k (o_mpropose 3 2) (pT g 0) ?_
  refine ps_k (o_mpropose 3 3) (pT g 84) ?_
  refine ps_P (o_mpropose 3 4) 112 #[V.v, .pointer (some ⟨g, 84, none⟩)] _ _ (run_callF (o_mpropose 3 4) 112 #[V.v, .pointer (some ⟨g, 84, none⟩)] (by kernel_rfl) rfl (by kernel_rfl) (enters_of Try.func112 (by kernel_rfl) rfl)) (mblock_ok V hV g 84 K E _ (Run.keepsN H2 (Keeps.refl Nob V1))) (fun c w' h => ⟨rfl, .inr ⟨c, rfl, h⟩⟩) ?_
  rintro V3 H4
  refine ps_end ?_
  refine sy_fall (.tuple #[]) rfl (by kernel_rfl) ?_
  exact .inl ⟨rfl, H4⟩
noncomputable def part_munjail (n : Nat) : Code := partOf Try.f96 n
noncomputable abbrev o_munjail (n k : Nat) : Oper := (opsAt (part_munjail n)).getD k default
set_option maxRecDepth 100000 in
set_option maxHeartbeats 4000000 in
theorem munjail_ok (V : Vis) (hV : V.Ok) (g : Nat) (K : World → Prop) (E : List PanicEntry → World → Prop) (w : World) (H : Run V g [.n 1 0 63, .n 2 0 31] K E w) :
    Calls Try.prog 96 #[.pointer (some ⟨g, 0, none⟩), V.v] w (PEnd K E) := by
  have K0 : Keeps Nob w w := Keeps.refl _ _
  refine sy_enter (part_munjail 1) ⟨#[pT g 0, V.v, undef, undef, undef, undef, undef, undef, undef, undef], []⟩ Try.func96 (by kernel_rfl) (by kernel_rfl) ?_
  refine sy_sq (part_munjail 2) (part_munjail 3) ?_
  refine sy_reg ?_
  refine rg_plain 0 (opsAt (part_munjail 2)) [0, 1, 2] (by kernel_rfl) (by kernel_rfl) ?_
  refine ps_k (o_munjail 2 0) (pT g 0) ?_
  refine ps_k (o_munjail 2 1) (V.v) ?_
  refine ps_P (o_munjail 2 2) 108 #[.pointer (some ⟨g, 0, none⟩), V.v] _ _ (run_callF (o_munjail 2 2) 108 #[.pointer (some ⟨g, 0, none⟩), V.v] (by kernel_rfl) rfl (by kernel_rfl) (enters_of Try.func108 (by kernel_rfl) rfl)) (maccount_ok V hV g (Run V g [.n 2 0 31] K E) E _ (Run.keepsN H (Keeps.refl Nob w))) (fun c w' h => ⟨rfl, .inr ⟨c, rfl, h⟩⟩) ?_
  rintro V1 H2
  refine ps_end ?_
  refine then_n ?_
  refine sy_reg ?_
  refine rg_plain 1 (opsAt (part_munjail 3)) [0, 1, 2] (by kernel_rfl) (by kernel_rfl) ?_
  refine ps_k (o_munjail 3 0) (pT g 0) ?_
  refine ps_k (o_munjail 3 1) (V.v) ?_
  refine ps_P (o_munjail 3 2) 109 #[.pointer (some ⟨g, 0, none⟩), V.v] _ _ (run_callF (o_munjail 3 2) 109 #[.pointer (some ⟨g, 0, none⟩), V.v] (by kernel_rfl) rfl (by kernel_rfl) (enters_of Try.func109 (by kernel_rfl) rfl)) (mvalidator_ok V hV g K E _ (Run.keepsN H2 (Keeps.refl Nob V1))) (fun c w' h => ⟨rfl, .inr ⟨c, rfl, h⟩⟩) ?_
  rintro V3 H4
  refine ps_end ?_
  refine sy_fall (.tuple #[]) rfl (by kernel_rfl) ?_
  exact .inl ⟨rfl, H4⟩
noncomputable def part_mclaim (n : Nat) : Code := partOf Try.f97 n
noncomputable abbrev o_mclaim (n k : Nat) : Oper := (opsAt (part_mclaim n)).getD k default
set_option maxRecDepth 100000 in
set_option maxHeartbeats 4000000 in
theorem mclaim_ok (V : Vis) (hV : V.Ok) (g : Nat) (K : World → Prop) (E : List PanicEntry → World → Prop) (w : World) (H : Run V g [.n 1 0 63] K E w) :
    Calls Try.prog 97 #[.pointer (some ⟨g, 0, none⟩), V.v] w (PEnd K E) := by
  have K0 : Keeps Nob w w := Keeps.refl _ _
  refine sy_enter (part_mclaim 1) ⟨#[pT g 0, V.v, undef, undef, undef, undef, undef], []⟩ Try.func97 (by kernel_rfl) (by kernel_rfl) ?_
  refine sy_reg ?_
  refine rg_plain 0 (opsAt (part_mclaim 1)) [0, 1, 2] (by kernel_rfl) (by kernel_rfl) ?_
  refine ps_k (o_mclaim 1 0) (pT g 0) ?_
  refine ps_k (o_mclaim 1 1) (V.v) ?_
  refine ps_P (o_mclaim 1 2) 108 #[.pointer (some ⟨g, 0, none⟩), V.v] _ _ (run_callF (o_mclaim 1 2) 108 #[.pointer (some ⟨g, 0, none⟩), V.v] (by kernel_rfl) rfl (by kernel_rfl) (enters_of Try.func108 (by kernel_rfl) rfl)) (maccount_ok V hV g K E _ (Run.keepsN H (Keeps.refl Nob w))) (fun c w' h => ⟨rfl, .inr ⟨c, rfl, h⟩⟩) ?_
  rintro V1 H2
  refine ps_end ?_
  refine sy_fall (.tuple #[]) rfl (by kernel_rfl) ?_
  exact .inl ⟨rfl, H2⟩
noncomputable def part_mtick (n : Nat) : Code := partOf Try.f98 n
noncomputable abbrev o_mtick (n k : Nat) : Oper := (opsAt (part_mtick n)).getD k default
set_option maxRecDepth 100000 in
set_option maxHeartbeats 4000000 in
theorem mtick_ok (V : Vis) (hV : V.Ok) (g : Nat) (K : World → Prop) (E : List PanicEntry → World → Prop) (w : World) (H : Run V g [.n 10 1 1000] K E w) :
    Calls Try.prog 98 #[.pointer (some ⟨g, 0, none⟩), V.v] w (PEnd K E) := by
  have K0 : Keeps Nob w w := Keeps.refl _ _
  refine sy_enter (part_mtick 1) ⟨#[pT g 0, V.v, undef, undef, undef, undef, undef, undef, undef, undef, undef, undef], []⟩ Try.func98 (by kernel_rfl) (by kernel_rfl) ?_
  refine sy_reg ?_
  refine rg_still 0 7 (opsAt (part_mtick 1)) [o_mtick 1 0, o_mtick 1 1, o_mtick 1 2, o_mtick 1 3, o_mtick 1 4, o_mtick 1 5, o_mtick 1 6] [o_mtick 1 7] (by kernel_rfl) (by kernel_rfl) (by kernel_rfl) (by kernel_rfl) (by kernel_rfl) ?_
  obtain ⟨V2, eV2, kV2⟩ := drew_step w
  rw [eV2]
  clear eV2
  have kb3 : Keeps Nob w V2 := (Keeps.refl Nob w).nn kV2
  have K4 := K0.nn kV2
  refine st_k (o_mtick 1 0) (V.v) ?_
  refine st_k (o_mtick 1 1) (pT g 0) ?_
  refine st_k (o_mtick 1 2) (pT g 0) ?_
  refine st_k (o_mtick 1 3) (pT g 10) ?_
  refine st_k (o_mtick 1 4) (.func (.method "distraint/message.num") #[V.v] #[]) ?_
  refine st_p (o_mtick 1 5) (.func (.method "distraint/message.num") #[V.v] #[]) (hV.num0 _ _ (.tmp 8) _ (by kernel_rfl) (by kernel_rfl)) ?_
  refine st_k (o_mtick 1 6) (V.v) ?_
  refine st_end ?_
  refine ls_P (o_mtick 1 7) V.fn #[V.rv, .pointer (some ⟨g, 10, none⟩), .int .i64 1, .int .i64 1000] _ _ (run_invoke (o_mtick 1 7) (.tmp 10) "distraint/message.num" V.v V.fn V.rv #[.pointer (some ⟨g, 10, none⟩), .int .i64 1, .int .i64 1000] #[V.rv, .pointer (some ⟨g, 10, none⟩), .int .i64 1, .int .i64 1000] (by kernel_rfl) (by kernel_rfl) (by kernel_rfl) hV.num (by kernel_rfl)) (H _ kb3) (fun c w' h => ⟨rfl, .inr ⟨c, rfl, h⟩⟩) ?_
  rintro V5 H6
  refine ls_end ?_
  refine sy_fall (.tuple #[]) rfl (by kernel_rfl) ?_
  exact .inl ⟨rfl, H6⟩
noncomputable def part_mevidence (n : Nat) : Code := partOf Try.f95 n
noncomputable abbrev o_mevidence (n k : Nat) : Oper := (opsAt (part_mevidence n)).getD k default
set_option maxRecDepth 100000 in
set_option maxHeartbeats 4000000 in
theorem mevidence_ok (V : Vis) (hV : V.Ok) (g : Nat) (K : World → Prop) (E : List PanicEntry → World → Prop) (w : World) (H : Run V g [.n 1 0 63] (EvA V g K E) E w) :
    Calls Try.prog 95 #[.pointer (some ⟨g, 0, none⟩), V.v] w (PEnd K E) := by
  have K0 : Keeps Nob w w := Keeps.refl _ _
  refine sy_enter (part_mevidence 1) ⟨#[pT g 0, V.v, undef, undef, undef, undef, undef, undef, undef, undef, undef, undef, undef, undef, undef, undef, undef, undef, undef, undef, undef, undef, undef, undef, undef, undef, undef, undef, undef, undef, undef, undef, undef, undef, undef, undef, undef, undef, undef, undef, undef, undef, undef, undef, undef, undef, undef, undef, undef, undef, undef], []⟩ Try.func95 (by kernel_rfl) (by kernel_rfl) ?_
  refine sy_sq (part_mevidence 2) (part_mevidence 3) ?_
  refine sy_reg ?_
  refine rg_plain 0 (opsAt (part_mevidence 2)) [0, 1, 2] (by kernel_rfl) (by kernel_rfl) ?_
  refine ps_k (o_mevidence 2 0) (pT g 0) ?_
  refine ps_k (o_mevidence 2 1) (V.v) ?_
  refine ps_P (o_mevidence 2 2) 108 #[.pointer (some ⟨g, 0, none⟩), V.v] _ _ (run_callF (o_mevidence 2 2) 108 #[.pointer (some ⟨g, 0, none⟩), V.v] (by kernel_rfl) rfl (by kernel_rfl) (enters_of Try.func108 (by kernel_rfl) rfl)) (maccount_ok V hV g (EvA V g K E) E _ (Run.keepsN H (Keeps.refl _ _))) (fun c w' h => ⟨rfl, .inr ⟨c, rfl, h⟩⟩) ?_
  rintro V1 ⟨cs_, x0, hb0, hx0, H1⟩
  refine ps_end ?_
  refine then_n ?_
  refine sy_sq (part_mevidence 6) (part_mevidence 7) ?_
  refine sy_reg ?_
  refine rg_plain 1 (opsAt (part_mevidence 6)) [0, 1, 2, 3, 4] (by kernel_rfl) (by kernel_rfl) ?_
  refine ps_k (o_mevidence 6 0) (pT g 0) ?_
  refine ps_k (o_mevidence 6 1) (pT g 0) ?_
  refine ps_k (o_mevidence 6 2) (pT g 11) ?_
  refine ps_p (o_mevidence 6 3) (.int .i64 x0) (exec_ld 3 (.tmp 10) g 11 Try.underlying3 (rc (hb0) (hx0))) ?_
  refine ps_k (o_mevidence 6 4) (.int .i64 x0) ?_
  refine ps_end ?_
  refine then_n ?_
  refine sy_sq (part_mevidence 14) (part_mevidence 15) ?_
  refine sy_reg ?_
  refine rg_still 2 7 (opsAt (part_mevidence 14)) [o_mevidence 14 0, o_mevidence 14 1, o_mevidence 14 2, o_mevidence 14 3, o_mevidence 14 4, o_mevidence 14 5, o_mevidence 14 6] [o_mevidence 14 7] (by kernel_rfl) (by kernel_rfl) (by kernel_rfl) (by kernel_rfl) (by kernel_rfl) ?_
  obtain ⟨V3, eV3, kV3⟩ := drew_step V1
  rw [eV3]
  clear eV3
  have h4 := kV3.bk hb0
  have kb5 : Keeps Nob V1 V3 := (Keeps.refl Nob V1).nn kV3
  refine st_k (o_mevidence 14 0) (V.v) ?_
  refine st_k (o_mevidence 14 1) (pT g 0) ?_
  refine st_k (o_mevidence 14 2) (pT g 0) ?_
  refine st_k (o_mevidence 14 3) (pT g 11) ?_
  refine st_k (o_mevidence 14 4) (.func (.method "distraint/message.num") #[V.v] #[]) ?_
  refine st_p (o_mevidence 14 5) (.func (.method "distraint/message.num") #[V.v] #[]) (hV.num0 _ _ (.tmp 16) _ (by kernel_rfl) (by kernel_rfl)) ?_
  refine st_k (o_mevidence 14 6) (V.v) ?_
  refine st_end ?_
  refine ls_P (o_mevidence 14 7) V.fn #[V.rv, .pointer (some ⟨g, 11, none⟩), .int .i64 1, .int .i64 3] _ _ (run_invoke (o_mevidence 14 7) (.tmp 18) "distraint/message.num" V.v V.fn V.rv #[.pointer (some ⟨g, 11, none⟩), .int .i64 1, .int .i64 3] #[V.rv, .pointer (some ⟨g, 11, none⟩), .int .i64 1, .int .i64 3] (by kernel_rfl) (by kernel_rfl) (by kernel_rfl) hV.num (by kernel_rfl)) (H1 _ kb5) (fun c w' h => ⟨rfl, .inr ⟨c, rfl, h⟩⟩) ?_
  rintro V6 ⟨cs_2, x, hb2, hx2, H2⟩
  refine ls_end ?_
  refine then_n ?_
  rcases (show (x ≠ 0 ∧ x = 3) ∨ (x ≠ 0 ∧ ¬ x = 3) ∨ (x = 0 ∧ x0 = 3) ∨ (x = 0 ∧ ¬ x0 = 3) by omega) with ⟨hz, h3⟩ | ⟨hz, h3⟩ | ⟨hz, h3⟩ | ⟨hz, h3⟩
  · have H3 : Run V g [.k 2, .n 84 0 31, .n 85 1 4294967296, .h 86, .a 118, .k 2, .n 119 0 31, .n 120 1 4294967296, .h 121, .a 153] K E _ := (show evI (if x ≠ 0 then x else x0) = ([.k 2, .n 84 0 31, .n 85 1 4294967296, .h 86, .a 118, .k 2, .n 119 0 31, .n 120 1 4294967296, .h 121, .a 153] : List It) from (congrArg evI (if_pos hz)).trans (if_pos h3)) ▸ H2
    refine sy_sq (part_mevidence 30) (part_mevidence 31) ?_
    refine sy_sq (part_mevidence 60) (part_mevidence 61) ?_
    refine sy_reg ?_
    refine rg_plain 3 (opsAt (part_mevidence 60)) [0, 1, 2, 3, 4] (by kernel_rfl) (by kernel_rfl) ?_
    refine ps_k (o_mevidence 60 0) (pT g 0) ?_
    refine ps_k (o_mevidence 60 1) (pT g 0) ?_
    refine ps_k (o_mevidence 60 2) (pT g 11) ?_
    refine ps_p (o_mevidence 60 3) (.int .i64 x) (exec_ld 3 (.tmp 22) g 11 Try.underlying3 (rc (hb2) (hx2))) ?_
    refine ps_p (o_mevidence 60 4) (.bool true) (nqt ((x) : Int) ((0) : Int) (by omega)) ?_
    refine ps_end ?_
    refine then_n ?_
    refine sy_ys (.tmp 24) (part_mevidence 122) (part_mevidence 123) ?_
    refine sy_reg ?_
    refine rg_plain 4 (opsAt (part_mevidence 122)) [0, 1, 2, 3, 4] (by kernel_rfl) (by kernel_rfl) ?_
    refine ps_k (o_mevidence 122 0) (pT g 0) ?_
    refine ps_k (o_mevidence 122 1) (pT g 0) ?_
    refine ps_k (o_mevidence 122 2) (pT g 11) ?_
    refine ps_p (o_mevidence 122 3) (.int .i64 x) (exec_ld 3 (.tmp 27) g 11 Try.underlying3 (rc (hb2) (hx2))) ?_
    refine ps_k (o_mevidence 122 4) (.int .i64 x) ?_
    refine ps_end ?_
    refine sy_a ⟨#[pT g 0, V.v, undef, undef, .int .i64 x, pT g 0, V.v, .tuple #[], pT g 0, pT g 0, pT g 11, .int .i64 x0, V.v, pT g 0, pT g 0, pT g 11, .func (.method "distraint/message.num") #[V.v] #[], .func (.method "distraint/message.num") #[V.v] #[], V.v, .tuple #[], pT g 0, pT g 0, pT g 11, .int .i64 x, .bool true, pT g 0, pT g 0, pT g 11, .int .i64 x, undef, undef, undef, undef, undef, undef, undef, undef, undef, undef, undef, undef, undef, undef, undef, undef, undef, undef, undef, undef, undef, undef], []⟩ ?_
    refine then_n ?_
    refine sy_sq (part_mevidence 62) (part_mevidence 63) ?_
    refine sy_sq (part_mevidence 124) (part_mevidence 125) ?_
    refine sy_reg ?_
    refine rg_plain 5 (opsAt (part_mevidence 124)) [0, 1] (by kernel_rfl) (by kernel_rfl) ?_
    refine ps_k (o_mevidence 124 0) (.int .i64 x) ?_
    refine ps_p (o_mevidence 124 1) (.bool true) (eqt ((x) : Int) ((3) : Int) (by omega)) ?_
    refine ps_end ?_
    refine then_n ?_
    refine sy_ys (.tmp 30) (part_mevidence 250) (part_mevidence 251) ?_
    refine sy_sq (part_mevidence 500) (part_mevidence 501) ?_
    refine sy_reg ?_
    refine rg_plain 6 (opsAt (part_mevidence 500)) [0, 1, 2, 3, 4] (by kernel_rfl) (by kernel_rfl) ?_
    refine ps_k (o_mevidence 500 0) (V.v) ?_
    refine ps_k (o_mevidence 500 1) (pT g 0) ?_
    refine ps_k (o_mevidence 500 2) (pT g 0) ?_
    refine ps_k (o_mevidence 500 3) (pT g 84) ?_
    refine ps_P (o_mevidence 500 4) 112 #[V.v, .pointer (some ⟨g, 84, none⟩)] _ _ (run_callF (o_mevidence 500 4) 112 #[V.v, .pointer (some ⟨g, 84, none⟩)] (by kernel_rfl) rfl (by kernel_rfl) (enters_of Try.func112 (by kernel_rfl) rfl)) (mblock_ok V hV g 84 (Run V g [.k 2, .n 119 0 31, .n 120 1 4294967296, .h 121, .a 153] K E) E _ (Run.keepsN H3 (Keeps.refl Nob V6))) (fun c w' h => ⟨rfl, .inr ⟨c, rfl, h⟩⟩) ?_
    rintro V8 H9
    refine ps_end ?_
    refine then_n ?_
    refine sy_sq (part_mevidence 1002) (part_mevidence 1003) ?_
    refine sy_reg ?_
    refine rg_plain 7 (opsAt (part_mevidence 1002)) [0, 1, 2, 3, 4] (by kernel_rfl) (by kernel_rfl) ?_
    refine ps_k (o_mevidence 1002 0) (V.v) ?_
    refine ps_k (o_mevidence 1002 1) (pT g 0) ?_
    refine ps_k (o_mevidence 1002 2) (pT g 0) ?_
    refine ps_k (o_mevidence 1002 3) (pT g 119) ?_
    refine ps_P (o_mevidence 1002 4) 112 #[V.v, .pointer (some ⟨g, 119, none⟩)] _ _ (run_callF (o_mevidence 1002 4) 112 #[V.v, .pointer (some ⟨g, 119, none⟩)] (by kernel_rfl) rfl (by kernel_rfl) (enters_of Try.func112 (by kernel_rfl) rfl)) (mblock_ok V hV g 119 K E _ (Run.keepsN H9 (Keeps.refl Nob V8))) (fun c w' h => ⟨rfl, .inr ⟨c, rfl, h⟩⟩) ?_
    rintro V10 H11
    refine ps_end ?_
    refine then_n ?_
    refine sy_ret (by kernel_rfl) ?_
    refine then_r ?_
    refine sy_out (.tuple #[]) rfl (by kernel_rfl) ?_
    exact .inl ⟨rfl, H11⟩
  · have H3 : Run V g [.k 1, .n 12 0 31, .n 13 0 4294967296, .n 14 0 4294967296, .h 15, .a 47, .k 1, .n 48 0 31, .n 49 0 4294967296, .n 50 0 4294967296, .h 51, .a 83] K E _ := (show evI (if x ≠ 0 then x else x0) = ([.k 1, .n 12 0 31, .n 13 0 4294967296, .n 14 0 4294967296, .h 15, .a 47, .k 1, .n 48 0 31, .n 49 0 4294967296, .n 50 0 4294967296, .h 51, .a 83] : List It) from (congrArg evI (if_pos hz)).trans (if_neg h3)) ▸ H2
    refine sy_sq (part_mevidence 30) (part_mevidence 31) ?_
    refine sy_sq (part_mevidence 60) (part_mevidence 61) ?_
    refine sy_reg ?_
    refine rg_plain 3 (opsAt (part_mevidence 60)) [0, 1, 2, 3, 4] (by kernel_rfl) (by kernel_rfl) ?_
    refine ps_k (o_mevidence 60 0) (pT g 0) ?_
    refine ps_k (o_mevidence 60 1) (pT g 0) ?_
    refine ps_k (o_mevidence 60 2) (pT g 11) ?_
    refine ps_p (o_mevidence 60 3) (.int .i64 x) (exec_ld 3 (.tmp 22) g 11 Try.underlying3 (rc (hb2) (hx2))) ?_
    refine ps_p (o_mevidence 60 4) (.bool true) (nqt ((x) : Int) ((0) : Int) (by omega)) ?_
    refine ps_end ?_
    refine then_n ?_
    refine sy_ys (.tmp 24) (part_mevidence 122) (part_mevidence 123) ?_
    refine sy_reg ?_
    refine rg_plain 4 (opsAt (part_mevidence 122)) [0, 1, 2, 3, 4] (by kernel_rfl) (by kernel_rfl) ?_
    refine ps_k (o_mevidence 122 0) (pT g 0) ?_
    refine ps_k (o_mevidence 122 1) (pT g 0) ?_
    refine ps_k (o_mevidence 122 2) (pT g 11) ?_
    refine ps_p (o_mevidence 122 3) (.int .i64 x) (exec_ld 3 (.tmp 27) g 11 Try.underlying3 (rc (hb2) (hx2))) ?_
    refine ps_k (o_mevidence 122 4) (.int .i64 x) ?_
    refine ps_end ?_
    refine sy_a ⟨#[pT g 0, V.v, undef, undef, .int .i64 x, pT g 0, V.v, .tuple #[], pT g 0, pT g 0, pT g 11, .int .i64 x0, V.v, pT g 0, pT g 0, pT g 11, .func (.method "distraint/message.num") #[V.v] #[], .func (.method "distraint/message.num") #[V.v] #[], V.v, .tuple #[], pT g 0, pT g 0, pT g 11, .int .i64 x, .bool true, pT g 0, pT g 0, pT g 11, .int .i64 x, undef, undef, undef, undef, undef, undef, undef, undef, undef, undef, undef, undef, undef, undef, undef, undef, undef, undef, undef, undef, undef, undef], []⟩ ?_
    refine then_n ?_
    refine sy_sq (part_mevidence 62) (part_mevidence 63) ?_
    refine sy_sq (part_mevidence 124) (part_mevidence 125) ?_
    refine sy_reg ?_
    refine rg_plain 5 (opsAt (part_mevidence 124)) [0, 1] (by kernel_rfl) (by kernel_rfl) ?_
    refine ps_k (o_mevidence 124 0) (.int .i64 x) ?_
    refine ps_p (o_mevidence 124 1) (.bool false) (eqf ((x) : Int) ((3) : Int) (by omega)) ?_
    refine ps_end ?_
    refine then_n ?_
    refine sy_n (.tmp 30) (part_mevidence 250) (part_mevidence 251) ?_
    refine sy_sk ?_
    refine then_n ?_
    refine sy_sq (part_mevidence 126) (part_mevidence 127) ?_
    refine sy_reg ?_
    refine rg_plain 8 (opsAt (part_mevidence 126)) [0, 1, 2, 3, 4] (by kernel_rfl) (by kernel_rfl) ?_
    refine ps_k (o_mevidence 126 0) (V.v) ?_
    refine ps_k (o_mevidence 126 1) (pT g 0) ?_
    refine ps_k (o_mevidence 126 2) (pT g 0) ?_
    refine ps_k (o_mevidence 126 3) (pT g 12) ?_
    refine ps_P (o_mevidence 126 4) 111 #[V.v, .pointer (some ⟨g, 12, none⟩)] _ _ (run_callF (o_mevidence 126 4) 111 #[V.v, .pointer (some ⟨g, 12, none⟩)] (by kernel_rfl) rfl (by kernel_rfl) (enters_of Try.func111 (by kernel_rfl) rfl)) (mvote_ok V hV g 12 (Run V g [.k 1, .n 48 0 31, .n 49 0 4294967296, .n 50 0 4294967296, .h 51, .a 83] K E) E _ (Run.keepsN H3 (Keeps.refl Nob V6))) (fun c w' h => ⟨rfl, .inr ⟨c, rfl, h⟩⟩) ?_
    rintro V12 H13
    refine ps_end ?_
    refine then_n ?_
    refine sy_reg ?_
    refine rg_plain 9 (opsAt (part_mevidence 127)) [0, 1, 2, 3, 4] (by kernel_rfl) (by kernel_rfl) ?_
    refine ps_k (o_mevidence 127 0) (V.v) ?_
    refine ps_k (o_mevidence 127 1) (pT g 0) ?_
    refine ps_k (o_mevidence 127 2) (pT g 0) ?_
    refine ps_k (o_mevidence 127 3) (pT g 48) ?_
    refine ps_P (o_mevidence 127 4) 111 #[V.v, .pointer (some ⟨g, 48, none⟩)] _ _ (run_callF (o_mevidence 127 4) 111 #[V.v, .pointer (some ⟨g, 48, none⟩)] (by kernel_rfl) rfl (by kernel_rfl) (enters_of Try.func111 (by kernel_rfl) rfl)) (mvote_ok V hV g 48 K E _ (Run.keepsN H13 (Keeps.refl Nob V12))) (fun c w' h => ⟨rfl, .inr ⟨c, rfl, h⟩⟩) ?_
    rintro V14 H15
    refine ps_end ?_
    refine sy_fall (.tuple #[]) rfl (by kernel_rfl) ?_
    exact .inl ⟨rfl, H15⟩
  · have H3 : Run V g [.k 2, .n 84 0 31, .n 85 1 4294967296, .h 86, .a 118, .k 2, .n 119 0 31, .n 120 1 4294967296, .h 121, .a 153] K E _ := (show evI (if x ≠ 0 then x else x0) = ([.k 2, .n 84 0 31, .n 85 1 4294967296, .h 86, .a 118, .k 2, .n 119 0 31, .n 120 1 4294967296, .h 121, .a 153] : List It) from (congrArg evI (if_neg (fun (h : x ≠ 0) => h hz))).trans (if_pos h3)) ▸ H2
    refine sy_sq (part_mevidence 30) (part_mevidence 31) ?_
    refine sy_sq (part_mevidence 60) (part_mevidence 61) ?_
    refine sy_reg ?_
    refine rg_plain 3 (opsAt (part_mevidence 60)) [0, 1, 2, 3, 4] (by kernel_rfl) (by kernel_rfl) ?_
    refine ps_k (o_mevidence 60 0) (pT g 0) ?_
    refine ps_k (o_mevidence 60 1) (pT g 0) ?_
    refine ps_k (o_mevidence 60 2) (pT g 11) ?_
    refine ps_p (o_mevidence 60 3) (.int .i64 x) (exec_ld 3 (.tmp 22) g 11 Try.underlying3 (rc (hb2) (hx2))) ?_
    refine ps_p (o_mevidence 60 4) (.bool false) (nqf ((x) : Int) ((0) : Int) (by omega)) ?_
    refine ps_end ?_
    refine then_n ?_
    refine sy_n (.tmp 24) (part_mevidence 122) (part_mevidence 123) ?_
    refine sy_sk ?_
    refine then_n ?_
    refine sy_sq (part_mevidence 62) (part_mevidence 63) ?_
    refine sy_sq (part_mevidence 124) (part_mevidence 125) ?_
    refine sy_reg ?_
    refine rg_plain 5 (opsAt (part_mevidence 124)) [0, 1] (by kernel_rfl) (by kernel_rfl) ?_
    refine ps_k (o_mevidence 124 0) (.int .i64 x0) ?_
    refine ps_p (o_mevidence 124 1) (.bool true) (eqt ((x0) : Int) ((3) : Int) (by omega)) ?_
    refine ps_end ?_
    refine then_n ?_
    refine sy_ys (.tmp 30) (part_mevidence 250) (part_mevidence 251) ?_
    refine sy_sq (part_mevidence 500) (part_mevidence 501) ?_
    refine sy_reg ?_
    refine rg_plain 6 (opsAt (part_mevidence 500)) [0, 1, 2, 3, 4] (by kernel_rfl) (by kernel_rfl) ?_
    refine ps_k (o_mevidence 500 0) (V.v) ?_
    refine ps_k (o_mevidence 500 1) (pT g 0) ?_
    refine ps_k (o_mevidence 500 2) (pT g 0) ?_
    refine ps_k (o_mevidence 500 3) (pT g 84) ?_
    refine ps_P (o_mevidence 500 4) 112 #[V.v, .pointer (some ⟨g, 84, none⟩)] _ _ (run_callF (o_mevidence 500 4) 112 #[V.v, .pointer (some ⟨g, 84, none⟩)] (by kernel_rfl) rfl (by kernel_rfl) (enters_of Try.func112 (by kernel_rfl) rfl)) (mblock_ok V hV g 84 (Run V g [.k 2, .n 119 0 31, .n 120 1 4294967296, .h 121, .a 153] K E) E _ (Run.keepsN H3 (Keeps.refl Nob V6))) (fun c w' h => ⟨rfl, .inr ⟨c, rfl, h⟩⟩) ?_
    rintro V16 H17
    refine ps_end ?_
    refine sy_a ⟨#[pT g 0, V.v, undef, undef, .int .i64 x0, pT g 0, V.v, .tuple #[], pT g 0, pT g 0, pT g 11, .int .i64 x0, V.v, pT g 0, pT g 0, pT g 11, .func (.method "distraint/message.num") #[V.v] #[], .func (.method "distraint/message.num") #[V.v] #[], V.v, .tuple #[], pT g 0, pT g 0, pT g 11, .int .i64 x, .bool false, undef, undef, undef, undef, .int .i64 x0, .bool true, V.v, pT g 0, pT g 0, pT g 84, .tuple #[], undef, undef, undef, undef, undef, undef, undef, undef, undef, undef, undef, undef, undef, undef, undef], []⟩ ?_
    refine then_n ?_
    refine sy_sq (part_mevidence 1002) (part_mevidence 1003) ?_
    refine sy_reg ?_
    refine rg_plain 7 (opsAt (part_mevidence 1002)) [0, 1, 2, 3, 4] (by kernel_rfl) (by kernel_rfl) ?_
    refine ps_k (o_mevidence 1002 0) (V.v) ?_
    refine ps_k (o_mevidence 1002 1) (pT g 0) ?_
    refine ps_k (o_mevidence 1002 2) (pT g 0) ?_
    refine ps_k (o_mevidence 1002 3) (pT g 119) ?_
    refine ps_P (o_mevidence 1002 4) 112 #[V.v, .pointer (some ⟨g, 119, none⟩)] _ _ (run_callF (o_mevidence 1002 4) 112 #[V.v, .pointer (some ⟨g, 119, none⟩)] (by kernel_rfl) rfl (by kernel_rfl) (enters_of Try.func112 (by kernel_rfl) rfl)) (mblock_ok V hV g 119 K E _ (Run.keepsN H17 (Keeps.refl Nob V16))) (fun c w' h => ⟨rfl, .inr ⟨c, rfl, h⟩⟩) ?_
    rintro V18 H19
    refine ps_end ?_
    refine then_n ?_
    refine sy_ret (by kernel_rfl) ?_
    refine then_r ?_
    refine sy_out (.tuple #[]) rfl (by kernel_rfl) ?_
    exact .inl ⟨rfl, H19⟩
  · have H3 : Run V g [.k 1, .n 12 0 31, .n 13 0 4294967296, .n 14 0 4294967296, .h 15, .a 47, .k 1, .n 48 0 31, .n 49 0 4294967296, .n 50 0 4294967296, .h 51, .a 83] K E _ := (show evI (if x ≠ 0 then x else x0) = ([.k 1, .n 12 0 31, .n 13 0 4294967296, .n 14 0 4294967296, .h 15, .a 47, .k 1, .n 48 0 31, .n 49 0 4294967296, .n 50 0 4294967296, .h 51, .a 83] : List It) from (congrArg evI (if_neg (fun (h : x ≠ 0) => h hz))).trans (if_neg h3)) ▸ H2
    refine sy_sq (part_mevidence 30) (part_mevidence 31) ?_
    refine sy_sq (part_mevidence 60) (part_mevidence 61) ?_
    refine sy_reg ?_
    refine rg_plain 3 (opsAt (part_mevidence 60)) [0, 1, 2, 3, 4] (by kernel_rfl) (by kernel_rfl) ?_
    refine ps_k (o_mevidence 60 0) (pT g 0) ?_
    refine ps_k (o_mevidence 60 1) (pT g 0) ?_
    refine ps_k (o_mevidence 60 2) (pT g 11) ?_
    refine ps_p (o_mevidence 60 3) (.int .i64 x) (exec_ld 3 (.tmp 22) g 11 Try.underlying3 (rc (hb2) (hx2))) ?_
    refine ps_p (o_mevidence 60 4) (.bool false) (nqf ((x) : Int) ((0) : Int) (by omega)) ?_
    refine ps_end ?_
    refine then_n ?_
    refine sy_n (.tmp 24) (part_mevidence 122) (part_mevidence 123) ?_
    refine sy_sk ?_
    refine then_n ?_
    refine sy_sq (part_mevidence 62) (part_mevidence 63) ?_
    refine sy_sq (part_mevidence 124) (part_mevidence 125) ?_
    refine sy_reg ?_
    refine rg_plain 5 (opsAt (part_mevidence 124)) [0, 1] (by kernel_rfl) (by kernel_rfl) ?_
    refine ps_k (o_mevidence 124 0) (.int .i64 x0) ?_
    refine ps_p (o_mevidence 124 1) (.bool false) (eqf ((x0) : Int) ((3) : Int) (by omega)) ?_
    refine ps_end ?_
    refine then_n ?_
    refine sy_n (.tmp 30) (part_mevidence 250) (part_mevidence 251) ?_
    refine sy_sk ?_
    refine then_n ?_
    refine sy_sq (part_mevidence 126) (part_mevidence 127) ?_
    refine sy_reg ?_
    refine rg_plain 8 (opsAt (part_mevidence 126)) [0, 1, 2, 3, 4] (by kernel_rfl) (by kernel_rfl) ?_
    refine ps_k (o_mevidence 126 0) (V.v) ?_
    refine ps_k (o_mevidence 126 1) (pT g 0) ?_
    refine ps_k (o_mevidence 126 2) (pT g 0) ?_
    refine ps_k (o_mevidence 126 3) (pT g 12) ?_
    refine ps_P (o_mevidence 126 4) 111 #[V.v, .pointer (some ⟨g, 12, none⟩)] _ _ (run_callF (o_mevidence 126 4) 111 #[V.v, .pointer (some ⟨g, 12, none⟩)] (by kernel_rfl) rfl (by kernel_rfl) (enters_of Try.func111 (by kernel_rfl) rfl)) (mvote_ok V hV g 12 (Run V g [.k 1, .n 48 0 31, .n 49 0 4294967296, .n 50 0 4294967296, .h 51, .a 83] K E) E _ (Run.keepsN H3 (Keeps.refl Nob V6))) (fun c w' h => ⟨rfl, .inr ⟨c, rfl, h⟩⟩) ?_
    rintro V20 H21
    refine ps_end ?_
    refine sy_a ⟨#[pT g 0, V.v, undef, undef, .int .i64 x0, pT g 0, V.v, .tuple #[], pT g 0, pT g 0, pT g 11, .int .i64 x0, V.v, pT g 0, pT g 0, pT g 11, .func (.method "distraint/message.num") #[V.v] #[], .func (.method "distraint/message.num") #[V.v] #[], V.v, .tuple #[], pT g 0, pT g 0, pT g 11, .int .i64 x, .bool false, undef, undef, undef, undef, .int .i64 x0, .bool false, undef, undef, undef, undef, undef, undef, undef, undef, undef, undef, V.v, pT g 0, pT g 0, pT g 12, .tuple #[], undef, undef, undef, undef, undef], []⟩ ?_
    refine then_n ?_
    refine sy_reg ?_
    refine rg_plain 9 (opsAt (part_mevidence 127)) [0, 1, 2, 3, 4] (by kernel_rfl) (by kernel_rfl) ?_
    refine ps_k (o_mevidence 127 0) (V.v) ?_
    refine ps_k (o_mevidence 127 1) (pT g 0) ?_
    refine ps_k (o_mevidence 127 2) (pT g 0) ?_
    refine ps_k (o_mevidence 127 3) (pT g 48) ?_
    refine ps_P (o_mevidence 127 4) 111 #[V.v, .pointer (some ⟨g, 48, none⟩)] _ _ (run_callF (o_mevidence 127 4) 111 #[V.v, .pointer (some ⟨g, 48, none⟩)] (by kernel_rfl) rfl (by kernel_rfl) (enters_of Try.func111 (by kernel_rfl) rfl)) (mvote_ok V hV g 48 K E _ (Run.keepsN H21 (Keeps.refl Nob V20))) (fun c w' h => ⟨rfl, .inr ⟨c, rfl, h⟩⟩) ?_
    rintro V22 H23
    refine ps_end ?_
    refine sy_fall (.tuple #[]) rfl (by kernel_rfl) ?_
    exact .inl ⟨rfl, H23⟩
end Go.Proofs.Ytmapcghgdbfmhaa
