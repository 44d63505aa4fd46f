/-
  Votes and faults compared. Conditions: none.
-/
import Derived.Test.YtmapcghgdbfmhaaVoteA
import Derived.Test.YtmapcghgdbfmhaaArr
namespace Go.Proofs.Ytmapcghgdbfmhaa
open Go Go.RowKit Go.Own Go.Shelf
theorem eqF_int {d : Nat} {f : Field} {fs : List Field} {xs ys : Array Value} {k : IntKind} {a b : Int} (w : World) (hf : f.name ≠ "_") (ht : Try.prog.underlying f.type = some (.int k)) (hp : Try.prog.plainKey f.type = true) (hx : xs[f.offset]? = some (.int k a)) (hy : ys[f.offset]? = some (.int k b)) :
    (Op.eqFields (d + 1) xs ys (f :: fs)).run Try.prog w = if a = b then (Op.eqFields (d + 1) xs ys fs).run Try.prog w else .ok false w := by
  conv => lhs; unfold Op.eqFields
  rw [if_pos hf]
  simp only [Sem.run_bind, run_part_plain w hp hx, run_part_plain w hp hy, Result.andThen_ok, run_equalIn_int w d f.type k k a b ht]
  by_cases h : a = b
  · simp [h]
  · simp [h]
theorem part_hash (xs : Array Value) (off : Nat) (w : World) : (part 29 xs off).run Try.prog w = .ok (.agg (xs.extract off (off + 32))) w := by
  have h : (sizeOf 29).run Try.prog w = .ok 32 w := by kernel_rfl
  simp [part, isAgg, run_underlying Try.underlying29, h]
theorem eqF_hash {d : Nat} {f : Field} {fs : List Field} {xs ys : Array Value} {l m : List UInt8} (w : World) (hf : f.name ≠ "_") (ht : f.type = 29) (hx : xs.extract f.offset (f.offset + 32) = (B l).toArray) (hy : ys.extract f.offset (f.offset + 32) = (B m).toArray) (hl : l.length = 32) (hm : m.length = 32) :
    (Op.eqFields (d + 2) xs ys (f :: fs)).run Try.prog w = if l = m then (Op.eqFields (d + 2) xs ys fs).run Try.prog w else .ok false w := by
  obtain ⟨i0, hi, _, _, _⟩ := info_parts u8_info0
  have h := run_equalIn_bytes (P := Try.prog) (t := 29) (e := 5) (n := 32) Try.underlying29 hi (by kernel_rfl) Try.underlying5 (by kernel_rfl) d l m w hl hm
  conv => lhs; unfold Op.eqFields
  rw [if_pos hf]
  simp only [ht, Sem.run_bind, part_hash, Result.andThen_ok, hx, hy, h]
  by_cases h : l = m
  · simp [h]
  · simp [h]
theorem Att.c_ext (a : Att) (h : a.r.length = 32) : a.c.extract 3 35 = (B a.r).toArray := by
  apply Array.toList_inj.1
  rw [Array.toList_extract]
  simp only [Att.c, List.extract_eq_take_drop, List.drop_succ_cons, List.drop_zero, Nat.reduceSub]
  rw [List.take_append_of_le_length (by rw [B_length]; omega), List.take_of_length_le (by rw [B_length]; omega)]
theorem Pro.c_ext (a : Pro) (h : a.r.length = 32) : a.c.extract 2 34 = (B a.r).toArray := by
  apply Array.toList_inj.1
  rw [Array.toList_extract]
  simp only [Pro.c, List.extract_eq_take_drop, List.drop_succ_cons, List.drop_zero, Nat.reduceSub]
  rw [List.take_append_of_le_length (by rw [B_length]; omega), List.take_of_length_le (by rw [B_length]; omega)]
theorem fault_guard : Try.prog.eqGuardType Try.prog.depth 38 = false := by kernel_rfl
theorem att_guard : Try.prog.eqGuardType Try.prog.depth 31 = false := by kernel_rfl
theorem pro_guard : Try.prog.eqGuardType Try.prog.depth 33 = false := by kernel_rfl
set_option maxRecDepth 100000 in
theorem fault_equal (e p e' p' : Int) (w : World) : (Op.equalIn 10000 38 (.agg #[.int .i64 e, .int .i64 p]) (.agg #[.int .i64 e', .int .i64 p'])).run Try.prog w = .ok (decide (e = e' ∧ p = p')) w := by
  rw [run_equalIn_struct w 9999 38 _ _ (by kernel_rfl) (by kernel_rfl)]
  simp only [Program.fieldsOf, Try.underlying38]
  rw [eqF_int (d := 9998) (k := .i64) (a := e) (b := e') w (by decide) Try.underlying36 (by kernel_rfl) rfl rfl, eqF_int (d := 9998) (k := .i64) (a := p) (b := p') w (by decide) Try.underlying3 (by kernel_rfl) rfl rfl]
  simp only [Op.eqFields, Sem.run_pure]
  by_cases h : e = e' <;> by_cases h2 : p = p' <;> simp [h, h2]
theorem fault_eq (e p e' p' : Int) (w : World) : (binOp .eql 38 (.agg #[.int .i64 e, .int .i64 p]) (.agg #[.int .i64 e', .int .i64 p'])).run Try.prog w = .ok (.bool (decide (e = e' ∧ p = p'))) w := by
  rw [run_eql_struct, fault_equal]; rfl
theorem fault_ne (e p e' p' : Int) (w : World) : (binOp .neq 38 (.agg #[.int .i64 e, .int .i64 p]) (.agg #[.int .i64 e', .int .i64 p'])).run Try.prog w = .ok (.bool (!decide (e = e' ∧ p = p'))) w := by
  rw [run_neq_struct, fault_equal]; rfl
set_option maxRecDepth 100000 in
theorem att_equal (a b : Att) (ha : a.r.length = 32) (hb : b.r.length = 32) (w : World) : (Op.equalIn 10000 31 (.agg a.c) (.agg b.c)).run Try.prog w = .ok (decide (a = b)) w := by
  rw [run_equalIn_struct w 9999 31 _ _ (by kernel_rfl) (by kernel_rfl)]
  simp only [Program.fieldsOf, Try.underlying31]
  rw [eqF_int (d := 9998) (k := .i64) (a := a.v) (b := b.v) w (by decide) Try.underlying3 (by kernel_rfl) (Att.c_0 a) (Att.c_0 b), eqF_int (d := 9998) (k := .i64) (a := a.s) (b := b.s) w (by decide) Try.underlying3 (by kernel_rfl) (Att.c_1 a) (Att.c_1 b),
    eqF_int (d := 9998) (k := .i64) (a := a.t) (b := b.t) w (by decide) Try.underlying3 (by kernel_rfl) (Att.c_2 a) (Att.c_2 b), eqF_hash (d := 9997) (l := a.r) (m := b.r) w (by decide) rfl (Att.c_ext a ha) (Att.c_ext b hb) ha hb,
    eqF_int (d := 9998) (k := .u64) (a := ((a.g : Nat) : Int)) (b := ((b.g : Nat) : Int)) w (by decide) Try.underlying25 (by kernel_rfl) (Att.c_tag a ha) (Att.c_tag b hb)]
  simp only [Op.eqFields, Sem.run_pure]
  obtain ⟨v, s, t, r, g⟩ := a
  obtain ⟨v', s', t', r', g'⟩ := b
  simp only [Att.mk.injEq]
  by_cases h1 : v = v' <;> by_cases h2 : s = s' <;> by_cases h3 : t = t' <;> by_cases h4 : r = r' <;> by_cases h5 : g = g' <;> simp [h1, h2, h3, h4, h5] <;> omega
set_option maxRecDepth 100000 in
theorem pro_equal (a b : Pro) (ha : a.r.length = 32) (hb : b.r.length = 32) (w : World) : (Op.equalIn 10000 33 (.agg a.c) (.agg b.c)).run Try.prog w = .ok (decide (a = b)) w := by
  rw [run_equalIn_struct w 9999 33 _ _ (by kernel_rfl) (by kernel_rfl)]
  simp only [Program.fieldsOf, Try.underlying33]
  rw [eqF_int (d := 9998) (k := .i64) (a := a.v) (b := b.v) w (by decide) Try.underlying3 (by kernel_rfl) (Pro.c_0 a) (Pro.c_0 b), eqF_int (d := 9998) (k := .i64) (a := a.h) (b := b.h) w (by decide) Try.underlying3 (by kernel_rfl) (Pro.c_1 a) (Pro.c_1 b),
    eqF_hash (d := 9997) (l := a.r) (m := b.r) w (by decide) rfl (Pro.c_ext a ha) (Pro.c_ext b hb) ha hb,
    eqF_int (d := 9998) (k := .u64) (a := ((a.g : Nat) : Int)) (b := ((b.g : Nat) : Int)) w (by decide) Try.underlying25 (by kernel_rfl) (Pro.c_tag a ha) (Pro.c_tag b hb)]
  simp only [Op.eqFields, Sem.run_pure]
  obtain ⟨v, s, r, g⟩ := a
  obtain ⟨v', s', r', g'⟩ := b
  simp only [Pro.mk.injEq]
  by_cases h1 : v = v' <;> by_cases h2 : s = s' <;> by_cases h4 : r = r' <;> by_cases h5 : g = g' <;> simp [h1, h2, h4, h5] <;> omega
theorem att_eq (a b : Att) (ha : a.r.length = 32) (hb : b.r.length = 32) (w : World) : (binOp .eql 31 (.agg a.c) (.agg b.c)).run Try.prog w = .ok (.bool (decide (a = b))) w := by rw [run_eql_struct, att_equal a b ha hb]; rfl
theorem att_ne (a b : Att) (ha : a.r.length = 32) (hb : b.r.length = 32) (w : World) : (binOp .neq 31 (.agg a.c) (.agg b.c)).run Try.prog w = .ok (.bool (!decide (a = b))) w := by rw [run_neq_struct, att_equal a b ha hb]; rfl
theorem pro_eq (a b : Pro) (ha : a.r.length = 32) (hb : b.r.length = 32) (w : World) : (binOp .eql 33 (.agg a.c) (.agg b.c)).run Try.prog w = .ok (.bool (decide (a = b))) w := by rw [run_eql_struct, pro_equal a b ha hb]; rfl
theorem pro_ne (a b : Pro) (ha : a.r.length = 32) (hb : b.r.length = 32) (w : World) : (binOp .neq 33 (.agg a.c) (.agg b.c)).run Try.prog w = .ok (.bool (!decide (a = b))) w := by rw [run_neq_struct, pro_equal a b ha hb]; rfl
theorem fault_ok {e p : Int} (h : e = 0 ∧ p = 0) : (!decide (e = 0 ∧ p = 0)) = false := by simp [h]
theorem fault_no {e p : Int} (h : ¬ e = 0) : (!decide (e = 0 ∧ p = 0)) = true := by simp [h]
end Go.Proofs.Ytmapcghgdbfmhaa
