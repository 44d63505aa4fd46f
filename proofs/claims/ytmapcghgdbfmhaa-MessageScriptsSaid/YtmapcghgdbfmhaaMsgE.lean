/-
  Messages compared. Conditions: none.
-/
import Derived.Test.YtmapcghgdbfmhaaMsgA
import Derived.Test.YtmapcghgdbfmhaaVoteEq
namespace Go.Proofs.Ytmapcghgdbfmhaa
open Go Go.RowKit Go.Own Go.Shelf
theorem eqF_sub {d : Nat} {f : Field} {fs : List Field} {xs ys a b : Array Value} {p : Bool} (w : World) (t : TypeId) (off : Nat) (hx : (part t xs off).run Try.prog w = .ok (.agg a) w) (hy : (part t ys off).run Try.prog w = .ok (.agg b) w)
    (he : (Op.equalIn (d + 1) t (.agg a) (.agg b)).run Try.prog w = .ok p w) (hf : f.name ≠ "_") (ht : f.type = t) (ho : f.offset = off) : (Op.eqFields (d + 1) xs ys (f :: fs)).run Try.prog w = if p = true then (Op.eqFields (d + 1) xs ys fs).run Try.prog w else .ok false w := by
  subst ht; subst ho
  conv => lhs; unfold Op.eqFields
  rw [if_pos hf]
  simp only [Sem.run_bind, Result.andThen_ok, hx, hy, he]
  cases p <;> simp
theorem ifok {p : Prop} [Decidable p] {q : Bool} {w : World} : (if p then (.ok q w : Result Bool) else .ok false w) = .ok (decide p && q) w := by by_cases h : p <;> simp [h]
theorem part_att (xs : Array Value) (off : Nat) (w : World) : (part 31 xs off).run Try.prog w = .ok (.agg (xs.extract off (off + 36))) w := by
  have h : (sizeOf 31).run Try.prog w = .ok 36 w := by kernel_rfl
  simp [part, isAgg, run_underlying Try.underlying31, h]
theorem part_pro (xs : Array Value) (off : Nat) (w : World) : (part 33 xs off).run Try.prog w = .ok (.agg (xs.extract off (off + 35))) w := by
  have h : (sizeOf 33).run Try.prog w = .ok 35 w := by kernel_rfl
  simp [part, isAgg, run_underlying Try.underlying33, h]
theorem part_stamp (xs : Array Value) (off : Nat) (w : World) : (part 27 xs off).run Try.prog w = .ok (.agg (xs.extract off (off + 4))) w := by
  have h : (sizeOf 27).run Try.prog w = .ok 4 w := by kernel_rfl
  simp [part, isAgg, run_underlying Try.underlying27, h]
theorem ext_mid {x y z : List Value} {n k : Nat} {c : Array Value} (hn : x.length = n) (hk : c.toList.length = k) (hy : y = c.toList) : (x ++ (y ++ z)).toArray.extract n (n + k) = c := by
  subst hy
  apply Array.toList_inj.1
  rw [Array.toList_extract]
  simp only [List.extract_eq_take_drop]
  rw [List.drop_left' hn, show n + k - n = k by omega, List.take_left' hk]
def Msg.st (m : Msg) : Array Value := #[.int .i64 m.sv, .int .i64 m.ss, .int .i64 m.sp, .int .i64 m.sf]
section
variable {m : Msg} (h : m.R)
theorem Msg.ext_st (m : Msg) : m.c.extract 6 (6 + 4) = m.st := by
  have e : m.c = (([.int .i64 m.k, .int .i64 m.f, .int .i64 m.vl, .int .i64 m.t, .int .u64 ((m.am : Nat) : Int), .int .u64 ((m.mn : Nat) : Int)] : List Value) ++ (([.int .i64 m.sv, .int .i64 m.ss, .int .i64 m.sp, .int .i64 m.sf] : List Value) ++ (([.int .i64 m.n, .int .i64 m.pf] : List Value) ++ (m.a.c.toList ++ (m.b.c.toList ++ (m.p.c.toList ++ m.q.c.toList)))))).toArray := rfl
  rw [e]
  exact ext_mid rfl rfl rfl
include h
theorem Msg.ext_a : m.c.extract 12 (12 + 36) = m.a.c := by rw [Msg.c, Msg.cl_a]; exact ext_mid Msg.hd_len (Att.tl h.a) rfl
theorem Msg.ext_b : m.c.extract 48 (48 + 36) = m.b.c := by rw [Msg.c, Msg.cl_b]; exact ext_mid (len_b h) (Att.tl h.b) rfl
theorem Msg.ext_p : m.c.extract 84 (84 + 35) = m.p.c := by rw [Msg.c, Msg.cl_p]; exact ext_mid (len_p h) (Pro.tl h.p) rfl
theorem Msg.ext_q : m.c.extract 119 (119 + 35) = m.q.c := by rw [Msg.c, Msg.cl_q]; exact ext_mid (len_q h) (Pro.tl h.q) rfl
end
set_option maxRecDepth 100000 in
theorem att_equalD (d : Nat) (a b : Att) (ha : a.r.length = 32) (hb : b.r.length = 32) (w : World) : (Op.equalIn (d + 3) 31 (.agg a.c) (.agg b.c)).run Try.prog w = .ok (decide (a = b)) w := by
  rw [run_equalIn_struct w (d + 2) 31 _ _ (by kernel_rfl) (by kernel_rfl)]
  simp only [Program.fieldsOf, Try.underlying31]
  rw [eqF_int (d := d + 1) (k := .i64) (a := a.v) (b := b.v) w (by decide) Try.underlying3 (by kernel_rfl) (Att.c_0 a) (Att.c_0 b), eqF_int (d := d + 1) (k := .i64) (a := a.s) (b := b.s) w (by decide) Try.underlying3 (by kernel_rfl) (Att.c_1 a) (Att.c_1 b),
    eqF_int (d := d + 1) (k := .i64) (a := a.t) (b := b.t) w (by decide) Try.underlying3 (by kernel_rfl) (Att.c_2 a) (Att.c_2 b), eqF_hash (d := d) (l := a.r) (m := b.r) w (by decide) rfl (Att.c_ext a ha) (Att.c_ext b hb) ha hb,
    eqF_int (d := d + 1) (k := .u64) (a := ((a.g : Nat) : Int)) (b := ((b.g : Nat) : Int)) w (by decide) Try.underlying25 (by kernel_rfl) (Att.c_tag a ha) (Att.c_tag b hb)]
  simp only [Op.eqFields, Sem.run_pure, ifok]
  obtain ⟨v, s, t, r, g⟩ := a
  obtain ⟨v', s', t', r', g'⟩ := b
  congr 1
  rw [Bool.eq_iff_iff]
  simp only [Bool.and_eq_true, decide_eq_true_eq, Att.mk.injEq, Int.natCast_inj, and_true]
set_option maxRecDepth 100000 in
theorem pro_equalD (d : Nat) (a b : Pro) (ha : a.r.length = 32) (hb : b.r.length = 32) (w : World) : (Op.equalIn (d + 3) 33 (.agg a.c) (.agg b.c)).run Try.prog w = .ok (decide (a = b)) w := by
  rw [run_equalIn_struct w (d + 2) 33 _ _ (by kernel_rfl) (by kernel_rfl)]
  simp only [Program.fieldsOf, Try.underlying33]
  rw [eqF_int (d := d + 1) (k := .i64) (a := a.v) (b := b.v) w (by decide) Try.underlying3 (by kernel_rfl) (Pro.c_0 a) (Pro.c_0 b), eqF_int (d := d + 1) (k := .i64) (a := a.h) (b := b.h) w (by decide) Try.underlying3 (by kernel_rfl) (Pro.c_1 a) (Pro.c_1 b),
    eqF_hash (d := d) (l := a.r) (m := b.r) w (by decide) rfl (Pro.c_ext a ha) (Pro.c_ext b hb) ha hb,
    eqF_int (d := d + 1) (k := .u64) (a := ((a.g : Nat) : Int)) (b := ((b.g : Nat) : Int)) w (by decide) Try.underlying25 (by kernel_rfl) (Pro.c_tag a ha) (Pro.c_tag b hb)]
  simp only [Op.eqFields, Sem.run_pure, ifok]
  obtain ⟨v, s, r, g⟩ := a
  obtain ⟨v', s', r', g'⟩ := b
  congr 1
  rw [Bool.eq_iff_iff]
  simp only [Bool.and_eq_true, decide_eq_true_eq, Pro.mk.injEq, Int.natCast_inj, and_true]
set_option maxRecDepth 100000 in
theorem stamp_equalD (d : Nat) (m m' : Msg) (w : World) : (Op.equalIn (d + 2) 27 (.agg m.st) (.agg m'.st)).run Try.prog w = .ok (decide (m.sv = m'.sv ∧ m.ss = m'.ss ∧ m.sp = m'.sp ∧ m.sf = m'.sf)) w := by
  rw [run_equalIn_struct w (d + 1) 27 _ _ (by kernel_rfl) (by kernel_rfl)]
  simp only [Program.fieldsOf, Try.underlying27]
  rw [eqF_int (d := d) (k := .i64) (a := m.sv) (b := m'.sv) w (by decide) Try.underlying3 (by kernel_rfl) rfl rfl, eqF_int (d := d) (k := .i64) (a := m.ss) (b := m'.ss) w (by decide) Try.underlying3 (by kernel_rfl) rfl rfl, eqF_int (d := d) (k := .i64) (a := m.sp) (b := m'.sp) w (by decide) Try.underlying3 (by kernel_rfl) rfl rfl, eqF_int (d := d) (k := .i64) (a := m.sf) (b := m'.sf) w (by decide) Try.underlying3 (by kernel_rfl) rfl rfl]
  simp only [Op.eqFields, Sem.run_pure, ifok]
  congr 1
  rw [Bool.eq_iff_iff]
  simp only [Bool.and_eq_true, decide_eq_true_eq, and_true]
theorem msg_guard : Try.prog.eqGuardType Try.prog.depth 35 = false := by kernel_rfl
set_option maxRecDepth 100000 in
theorem msg_equal (m m' : Msg) (h : m.R) (h' : m'.R) (w : World) : (Op.equalIn 10000 35 (.agg m.c) (.agg m'.c)).run Try.prog w = .ok (decide (m = m')) w := by
  rw [run_equalIn_struct w 9999 35 _ _ (by kernel_rfl) (by kernel_rfl)]
  simp only [Program.fieldsOf, Try.underlying35]
  rw [eqF_int (d := 9998) (k := .i64) (a := m.k) (b := m'.k) w (by decide) Try.underlying3 (by kernel_rfl) (Msg.get_n h NF.k) (Msg.get_n h' NF.k)]
  rw [eqF_int (d := 9998) (k := .i64) (a := m.f) (b := m'.f) w (by decide) Try.underlying3 (by kernel_rfl) (Msg.get_n h NF.f) (Msg.get_n h' NF.f)]
  rw [eqF_int (d := 9998) (k := .i64) (a := m.vl) (b := m'.vl) w (by decide) Try.underlying3 (by kernel_rfl) (Msg.get_n h NF.vl) (Msg.get_n h' NF.vl)]
  rw [eqF_int (d := 9998) (k := .i64) (a := m.t) (b := m'.t) w (by decide) Try.underlying3 (by kernel_rfl) (Msg.get_n h NF.t) (Msg.get_n h' NF.t)]
  rw [eqF_int (d := 9998) (k := .u64) (a := ((m.am : Nat) : Int)) (b := ((m'.am : Nat) : Int)) w (by decide) Try.underlying25 (by kernel_rfl) (Msg.get_a h AF.am) (Msg.get_a h' AF.am)]
  rw [eqF_int (d := 9998) (k := .u64) (a := ((m.mn : Nat) : Int)) (b := ((m'.mn : Nat) : Int)) w (by decide) Try.underlying25 (by kernel_rfl) (Msg.get_a h AF.mn) (Msg.get_a h' AF.mn)]
  rw [eqF_sub (d := 9998) w 27 6 (show (part _ m.c 6).run Try.prog w = .ok (.agg m.st) w from (part_stamp m.c 6 w).trans (by rw [Msg.ext_st])) (show (part _ m'.c 6).run Try.prog w = .ok (.agg m'.st) w from (part_stamp m'.c 6 w).trans (by rw [Msg.ext_st])) (stamp_equalD 9997 m m' w) (by decide) rfl rfl]
  rw [eqF_int (d := 9998) (k := .i64) (a := m.n) (b := m'.n) w (by decide) Try.underlying3 (by kernel_rfl) (Msg.get_n h NF.n) (Msg.get_n h' NF.n)]
  rw [eqF_int (d := 9998) (k := .i64) (a := m.pf) (b := m'.pf) w (by decide) Try.underlying3 (by kernel_rfl) (Msg.get_n h NF.pf) (Msg.get_n h' NF.pf)]
  rw [eqF_sub (d := 9998) w 31 12 (show (part _ m.c 12).run Try.prog w = .ok (.agg m.a.c) w from (part_att m.c 12 w).trans (by rw [Msg.ext_a h])) (show (part _ m'.c 12).run Try.prog w = .ok (.agg m'.a.c) w from (part_att m'.c 12 w).trans (by rw [Msg.ext_a h'])) (att_equalD 9996 m.a m'.a h.a h'.a w) (by decide) rfl rfl]
  rw [eqF_sub (d := 9998) w 31 48 (show (part _ m.c 48).run Try.prog w = .ok (.agg m.b.c) w from (part_att m.c 48 w).trans (by rw [Msg.ext_b h])) (show (part _ m'.c 48).run Try.prog w = .ok (.agg m'.b.c) w from (part_att m'.c 48 w).trans (by rw [Msg.ext_b h'])) (att_equalD 9996 m.b m'.b h.b h'.b w) (by decide) rfl rfl]
  rw [eqF_sub (d := 9998) w 33 84 (show (part _ m.c 84).run Try.prog w = .ok (.agg m.p.c) w from (part_pro m.c 84 w).trans (by rw [Msg.ext_p h])) (show (part _ m'.c 84).run Try.prog w = .ok (.agg m'.p.c) w from (part_pro m'.c 84 w).trans (by rw [Msg.ext_p h'])) (pro_equalD 9996 m.p m'.p h.p h'.p w) (by decide) rfl rfl]
  rw [eqF_sub (d := 9998) w 33 119 (show (part _ m.c 119).run Try.prog w = .ok (.agg m.q.c) w from (part_pro m.c 119 w).trans (by rw [Msg.ext_q h])) (show (part _ m'.c 119).run Try.prog w = .ok (.agg m'.q.c) w from (part_pro m'.c 119 w).trans (by rw [Msg.ext_q h'])) (pro_equalD 9996 m.q m'.q h.q h'.q w) (by decide) rfl rfl]
  simp only [Op.eqFields, Sem.run_pure, ifok]
  obtain ⟨k, f, vl, t, am, mn, sv, ss, sp, sf, n, pf, a, b, p, q⟩ := m
  obtain ⟨k', f', vl', t', am', mn', sv', ss', sp', sf', n', pf', a', b', p', q'⟩ := m'
  congr 1
  rw [Bool.eq_iff_iff]
  simp only [Bool.and_eq_true, decide_eq_true_eq, Msg.mk.injEq, Int.natCast_inj, and_true, and_assoc]
theorem msg_eq (a b : Msg) (ha : a.R) (hb : b.R) (w : World) : (binOp .eql 35 (.agg a.c) (.agg b.c)).run Try.prog w = .ok (.bool (decide (a = b))) w := by rw [run_eql_struct, msg_equal a b ha hb]; rfl
theorem msg_ne (a b : Msg) (ha : a.R) (hb : b.R) (w : World) : (binOp .neq 35 (.agg a.c) (.agg b.c)).run Try.prog w = .ok (.bool (!decide (a = b))) w := by rw [run_neq_struct, msg_equal a b ha hb]; rfl
theorem form_guard : Try.prog.eqGuardType Try.prog.depth 70 = false := by kernel_rfl
set_option maxRecDepth 100000 in
theorem form_equal (m m' : Msg) (h : m.R) (h' : m'.R) (w : World) : (Op.equalIn 10000 70 (.agg m.c) (.agg m'.c)).run Try.prog w = .ok (decide (m = m')) w := by
  rw [run_equalIn_struct w 9999 70 _ _ (by kernel_rfl) (by kernel_rfl)]
  simp only [Program.fieldsOf, Try.underlying70]
  rw [eqF_int (d := 9998) (k := .i64) (a := m.k) (b := m'.k) w (by decide) Try.underlying3 (by kernel_rfl) (Msg.get_n h NF.k) (Msg.get_n h' NF.k)]
  rw [eqF_int (d := 9998) (k := .i64) (a := m.f) (b := m'.f) w (by decide) Try.underlying3 (by kernel_rfl) (Msg.get_n h NF.f) (Msg.get_n h' NF.f)]
  rw [eqF_int (d := 9998) (k := .i64) (a := m.vl) (b := m'.vl) w (by decide) Try.underlying3 (by kernel_rfl) (Msg.get_n h NF.vl) (Msg.get_n h' NF.vl)]
  rw [eqF_int (d := 9998) (k := .i64) (a := m.t) (b := m'.t) w (by decide) Try.underlying3 (by kernel_rfl) (Msg.get_n h NF.t) (Msg.get_n h' NF.t)]
  rw [eqF_int (d := 9998) (k := .u64) (a := ((m.am : Nat) : Int)) (b := ((m'.am : Nat) : Int)) w (by decide) Try.underlying25 (by kernel_rfl) (Msg.get_a h AF.am) (Msg.get_a h' AF.am)]
  rw [eqF_int (d := 9998) (k := .u64) (a := ((m.mn : Nat) : Int)) (b := ((m'.mn : Nat) : Int)) w (by decide) Try.underlying25 (by kernel_rfl) (Msg.get_a h AF.mn) (Msg.get_a h' AF.mn)]
  rw [eqF_sub (d := 9998) w 27 6 (show (part _ m.c 6).run Try.prog w = .ok (.agg m.st) w from (part_stamp m.c 6 w).trans (by rw [Msg.ext_st])) (show (part _ m'.c 6).run Try.prog w = .ok (.agg m'.st) w from (part_stamp m'.c 6 w).trans (by rw [Msg.ext_st])) (stamp_equalD 9997 m m' w) (by decide) rfl rfl]
  rw [eqF_int (d := 9998) (k := .i64) (a := m.n) (b := m'.n) w (by decide) Try.underlying3 (by kernel_rfl) (Msg.get_n h NF.n) (Msg.get_n h' NF.n)]
  rw [eqF_int (d := 9998) (k := .i64) (a := m.pf) (b := m'.pf) w (by decide) Try.underlying3 (by kernel_rfl) (Msg.get_n h NF.pf) (Msg.get_n h' NF.pf)]
  rw [eqF_sub (d := 9998) w 31 12 (show (part _ m.c 12).run Try.prog w = .ok (.agg m.a.c) w from (part_att m.c 12 w).trans (by rw [Msg.ext_a h])) (show (part _ m'.c 12).run Try.prog w = .ok (.agg m'.a.c) w from (part_att m'.c 12 w).trans (by rw [Msg.ext_a h'])) (att_equalD 9996 m.a m'.a h.a h'.a w) (by decide) rfl rfl]
  rw [eqF_sub (d := 9998) w 31 48 (show (part _ m.c 48).run Try.prog w = .ok (.agg m.b.c) w from (part_att m.c 48 w).trans (by rw [Msg.ext_b h])) (show (part _ m'.c 48).run Try.prog w = .ok (.agg m'.b.c) w from (part_att m'.c 48 w).trans (by rw [Msg.ext_b h'])) (att_equalD 9996 m.b m'.b h.b h'.b w) (by decide) rfl rfl]
  rw [eqF_sub (d := 9998) w 33 84 (show (part _ m.c 84).run Try.prog w = .ok (.agg m.p.c) w from (part_pro m.c 84 w).trans (by rw [Msg.ext_p h])) (show (part _ m'.c 84).run Try.prog w = .ok (.agg m'.p.c) w from (part_pro m'.c 84 w).trans (by rw [Msg.ext_p h'])) (pro_equalD 9996 m.p m'.p h.p h'.p w) (by decide) rfl rfl]
  rw [eqF_sub (d := 9998) w 33 119 (show (part _ m.c 119).run Try.prog w = .ok (.agg m.q.c) w from (part_pro m.c 119 w).trans (by rw [Msg.ext_q h])) (show (part _ m'.c 119).run Try.prog w = .ok (.agg m'.q.c) w from (part_pro m'.c 119 w).trans (by rw [Msg.ext_q h'])) (pro_equalD 9996 m.q m'.q h.q h'.q w) (by decide) rfl rfl]
  simp only [Op.eqFields, Sem.run_pure, ifok]
  obtain ⟨k, f, vl, t, am, mn, sv, ss, sp, sf, n, pf, a, b, p, q⟩ := m
  obtain ⟨k', f', vl', t', am', mn', sv', ss', sp', sf', n', pf', a', b', p', q'⟩ := m'
  congr 1
  rw [Bool.eq_iff_iff]
  simp only [Bool.and_eq_true, decide_eq_true_eq, Msg.mk.injEq, Int.natCast_inj, and_true, and_assoc]
theorem form_eq (a b : Msg) (ha : a.R) (hb : b.R) (w : World) : (binOp .eql 70 (.agg a.c) (.agg b.c)).run Try.prog w = .ok (.bool (decide (a = b))) w := by rw [run_eql_struct, form_equal a b ha hb]; rfl
theorem form_ne (a b : Msg) (ha : a.R) (hb : b.R) (w : World) : (binOp .neq 70 (.agg a.c) (.agg b.c)).run Try.prog w = .ok (.bool (!decide (a = b))) w := by rw [run_neq_struct, form_equal a b ha hb]; rfl
end Go.Proofs.Ytmapcghgdbfmhaa
