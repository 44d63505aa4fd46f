/-
  Messages: their cells, and the fields by their places. Conditions: none.
-/
import Derived.Test.YtmapcghgdbfmhaaVoteA
namespace Go.Proofs.Ytmapcghgdbfmhaa
open Go Go.RowKit Go.Own Go.Shelf

structure Msg where
  (k f vl t : Int) (am mn : Nat) (sv ss sp sf n pf : Int) (a b : Att) (p q : Pro)
  deriving DecidableEq
def Msg.hd (m : Msg) : List Value := [.int .i64 m.k, .int .i64 m.f, .int .i64 m.vl, .int .i64 m.t, .int .u64 ((m.am : Nat) : Int), .int .u64 ((m.mn : Nat) : Int), .int .i64 m.sv, .int .i64 m.ss, .int .i64 m.sp, .int .i64 m.sf, .int .i64 m.n, .int .i64 m.pf]
def Msg.cl (m : Msg) : List Value := m.hd ++ (m.a.c.toList ++ (m.b.c.toList ++ (m.p.c.toList ++ m.q.c.toList)))
def Msg.c (m : Msg) : Array Value := m.cl.toArray
structure Msg.R (m : Msg) : Prop where
  a : m.a.r.length = 32
  b : m.b.r.length = 32
  p : m.p.r.length = 32
  q : m.q.r.length = 32
structure Msg.Ok (m : Msg) : Prop where
  k : i64b m.k
  f : i64b m.f
  vl : i64b m.vl
  t : i64b m.t
  am : m.am < 2 ^ 64
  mn : m.mn < 2 ^ 64
  sv : i64b m.sv
  ss : i64b m.ss
  sp : i64b m.sp
  sf : i64b m.sf
  n : i64b m.n
  pf : i64b m.pf
  a : m.a.Ok
  b : m.b.Ok
  p : m.p.Ok
  q : m.q.Ok
theorem Msg.Ok.R {m : Msg} (h : m.Ok) : m.R := ⟨h.a.r, h.b.r, h.p.r, h.q.r⟩
/-- Fields that are numbers, amounts, hashes. -/
inductive NF where
  | k | f | vl | t | sv | ss | sp | sf | n | pf | av | as_ | at_ | bv | bs | bt | pv | ph | qv | qh
  deriving DecidableEq
inductive AF where
  | am | mn | ag | bg | pg | qg
  deriving DecidableEq
inductive HF where
  | ar | br | pr | qr
  deriving DecidableEq
def NF.off : NF → Nat
  | k => 0 | f => 1 | vl => 2 | t => 3 | sv => 6 | ss => 7 | sp => 8 | sf => 9 | n => 10 | pf => 11
  | av => 12 | as_ => 13 | at_ => 14 | bv => 48 | bs => 49 | bt => 50 | pv => 84 | ph => 85 | qv => 119 | qh => 120
def AF.off : AF → Nat
  | am => 4 | mn => 5 | ag => 47 | bg => 83 | pg => 118 | qg => 153
def HF.off : HF → Nat
  | ar => 15 | br => 51 | pr => 86 | qr => 121
def NF.get (m : Msg) : NF → Int
  | k => m.k | f => m.f | vl => m.vl | t => m.t | sv => m.sv | ss => m.ss | sp => m.sp | sf => m.sf | n => m.n | pf => m.pf
  | av => m.a.v | as_ => m.a.s | at_ => m.a.t | bv => m.b.v | bs => m.b.s | bt => m.b.t | pv => m.p.v | ph => m.p.h | qv => m.q.v | qh => m.q.h
def NF.set (m : Msg) (x : Int) : NF → Msg
  | k => { m with k := x } | f => { m with f := x } | vl => { m with vl := x } | t => { m with t := x } | sv => { m with sv := x } | ss => { m with ss := x } | sp => { m with sp := x } | sf => { m with sf := x } | n => { m with n := x } | pf => { m with pf := x }
  | av => { m with a := ⟨x, m.a.s, m.a.t, m.a.r, m.a.g⟩ } | as_ => { m with a := ⟨m.a.v, x, m.a.t, m.a.r, m.a.g⟩ } | at_ => { m with a := ⟨m.a.v, m.a.s, x, m.a.r, m.a.g⟩ }
  | bv => { m with b := ⟨x, m.b.s, m.b.t, m.b.r, m.b.g⟩ } | bs => { m with b := ⟨m.b.v, x, m.b.t, m.b.r, m.b.g⟩ } | bt => { m with b := ⟨m.b.v, m.b.s, x, m.b.r, m.b.g⟩ }
  | pv => { m with p := ⟨x, m.p.h, m.p.r, m.p.g⟩ } | ph => { m with p := ⟨m.p.v, x, m.p.r, m.p.g⟩ } | qv => { m with q := ⟨x, m.q.h, m.q.r, m.q.g⟩ } | qh => { m with q := ⟨m.q.v, x, m.q.r, m.q.g⟩ }
def AF.get (m : Msg) : AF → Nat
  | am => m.am | mn => m.mn | ag => m.a.g | bg => m.b.g | pg => m.p.g | qg => m.q.g
def AF.set (m : Msg) (x : Nat) : AF → Msg
  | am => { m with am := x } | mn => { m with mn := x } | ag => { m with a := ⟨m.a.v, m.a.s, m.a.t, m.a.r, x⟩ } | bg => { m with b := ⟨m.b.v, m.b.s, m.b.t, m.b.r, x⟩ }
  | pg => { m with p := ⟨m.p.v, m.p.h, m.p.r, x⟩ } | qg => { m with q := ⟨m.q.v, m.q.h, m.q.r, x⟩ }
def HF.get (m : Msg) : HF → List UInt8
  | ar => m.a.r | br => m.b.r | pr => m.p.r | qr => m.q.r
def HF.set (m : Msg) (x : List UInt8) : HF → Msg
  | ar => { m with a := ⟨m.a.v, m.a.s, m.a.t, x, m.a.g⟩ } | br => { m with b := ⟨m.b.v, m.b.s, m.b.t, x, m.b.g⟩ }
  | pr => { m with p := ⟨m.p.v, m.p.h, x, m.p.g⟩ } | qr => { m with q := ⟨m.q.v, m.q.h, x, m.q.g⟩ }
section
variable {m : Msg}
theorem Msg.hd_len : m.hd.length = 12 := rfl
theorem Att.tl {a : Att} (h : a.r.length = 32) : a.c.toList.length = 36 := by have := Att.c_size a h; simpa using this
theorem Pro.tl {a : Pro} (h : a.r.length = 32) : a.c.toList.length = 35 := by have := Pro.c_size a h; simpa using this
theorem Msg.c_size (h : m.R) : m.c.size = 154 := by simp [Msg.c, Msg.cl, Msg.hd_len, Att.tl h.a, Att.tl h.b, Pro.tl h.p, Pro.tl h.q, -Array.length_toList]
theorem mid_get {x y z : List Value} {n : Nat} (hn : x.length = n) {j : Nat} {v : Value} (h : y[j]? = some v) : (x ++ (y ++ z))[n + j]? = some v := by
  rw [List.getElem?_append_right (by omega), hn, Nat.add_sub_cancel_left, List.getElem?_append_left (List.getElem?_eq_some_iff.1 h).1]; exact h
theorem mid_set {x y z : List Value} {n : Nat} (hn : x.length = n) {j : Nat} (hj : j < y.length) (v : Value) : (x ++ (y ++ z)).set (n + j) v = x ++ (y.set j v ++ z) := by
  rw [List.set_append_right _ _ (by omega), hn, Nat.add_sub_cancel_left, List.set_append_left _ _ hj]
theorem Msg.cl_a (m : Msg) : m.cl = m.hd ++ (m.a.c.toList ++ (m.b.c.toList ++ (m.p.c.toList ++ m.q.c.toList))) := rfl
theorem Msg.cl_b (m : Msg) : m.cl = (m.hd ++ m.a.c.toList) ++ (m.b.c.toList ++ (m.p.c.toList ++ m.q.c.toList)) := by rw [Msg.cl_a, List.append_assoc]
theorem Msg.cl_p (m : Msg) : m.cl = (m.hd ++ (m.a.c.toList ++ m.b.c.toList)) ++ (m.p.c.toList ++ m.q.c.toList) := by rw [Msg.cl_a]; simp only [List.append_assoc]
theorem Msg.cl_q (m : Msg) : m.cl = (m.hd ++ (m.a.c.toList ++ (m.b.c.toList ++ m.p.c.toList))) ++ (m.q.c.toList ++ []) := by rw [Msg.cl_a]; simp only [List.append_assoc, List.append_nil]
theorem len_b (h : m.R) : (m.hd ++ m.a.c.toList).length = 48 := by rw [List.length_append, Msg.hd_len, Att.tl h.a]
theorem len_p (h : m.R) : (m.hd ++ (m.a.c.toList ++ m.b.c.toList)).length = 84 := by rw [List.length_append, List.length_append, Msg.hd_len, Att.tl h.a, Att.tl h.b]
theorem len_q (h : m.R) : (m.hd ++ (m.a.c.toList ++ (m.b.c.toList ++ m.p.c.toList))).length = 119 := by rw [List.length_append, List.length_append, List.length_append, Msg.hd_len, Att.tl h.a, Att.tl h.b, Pro.tl h.p]
theorem getA (m : Msg) {j : Nat} {v : Value} (h : m.a.c[j]? = some v) : m.c[12 + j]? = some v := by
  rw [Msg.c, List.getElem?_toArray, Msg.cl_a]; exact mid_get Msg.hd_len (by rw [Array.getElem?_toList]; exact h)
theorem getB (hr : m.R) {j : Nat} {v : Value} (h : m.b.c[j]? = some v) : m.c[48 + j]? = some v := by
  rw [Msg.c, List.getElem?_toArray, Msg.cl_b]; exact mid_get (len_b hr) (by rw [Array.getElem?_toList]; exact h)
theorem getP (hr : m.R) {j : Nat} {v : Value} (h : m.p.c[j]? = some v) : m.c[84 + j]? = some v := by
  rw [Msg.c, List.getElem?_toArray, Msg.cl_p]; exact mid_get (len_p hr) (by rw [Array.getElem?_toList]; exact h)
theorem getQ (hr : m.R) {j : Nat} {v : Value} (h : m.q.c[j]? = some v) : m.c[119 + j]? = some v := by
  rw [Msg.c, List.getElem?_toArray, Msg.cl_q]; exact mid_get (len_q hr) (by rw [Array.getElem?_toList]; exact h)
theorem Msg.get_n (hr : m.R) (x : NF) : m.c[x.off]? = some (.int .i64 (x.get m)) := by
  cases x
  case av => exact getA m (Att.c_0 _)
  case as_ => exact getA m (Att.c_1 _)
  case at_ => exact getA m (Att.c_2 _)
  case bv => exact getB hr (Att.c_0 _)
  case bs => exact getB hr (Att.c_1 _)
  case bt => exact getB hr (Att.c_2 _)
  case pv => exact getP hr (Pro.c_0 _)
  case ph => exact getP hr (Pro.c_1 _)
  case qv => exact getQ hr (Pro.c_0 _)
  case qh => exact getQ hr (Pro.c_1 _)
  all_goals rfl
theorem Msg.get_a (hr : m.R) (x : AF) : m.c[x.off]? = some (.int .u64 ((x.get m : Nat) : Int)) := by
  cases x
  case ag => exact getA m (Att.c_tag _ hr.a)
  case bg => exact getB hr (Att.c_tag _ hr.b)
  case pg => exact getP hr (Pro.c_tag _ hr.p)
  case qg => exact getQ hr (Pro.c_tag _ hr.q)
  all_goals rfl
theorem Msg.get_h (hr : m.R) (x : HF) : ∀ (j : Nat) (u : Value), (B (x.get m))[j]? = some u → m.c[x.off + j]? = some u := by
  intro j u h
  cases x
  case ar => exact (show 15 + j = 12 + (3 + j) by omega) ▸ getA m (Att.c_seg _ j u h)
  case br => exact (show 51 + j = 48 + (3 + j) by omega) ▸ getB hr (Att.c_seg _ j u h)
  case pr => exact (show 86 + j = 84 + (2 + j) by omega) ▸ getP hr (Pro.c_seg _ j u h)
  case qr => exact (show 121 + j = 119 + (2 + j) by omega) ▸ getQ hr (Pro.c_seg _ j u h)
theorem tl_set {c d : Array Value} {j : Nat} {v : Value} (h : c.setIfInBounds j v = d) : c.toList.set j v = d.toList := by rw [← h, Array.toList_setIfInBounds]
theorem setA (hr : m.R) {j : Nat} (hj : j < 36) {v : Value} {a : Att} (h : m.a.c.setIfInBounds j v = a.c) : m.c.setIfInBounds (12 + j) v = Msg.c { m with a := a } := by
  rw [Msg.c, Msg.cl_a, List.setIfInBounds_toArray, mid_set Msg.hd_len (by rw [Att.tl hr.a]; exact hj), tl_set h]; rfl
theorem setB (hr : m.R) {j : Nat} (hj : j < 36) {v : Value} {a : Att} (h : m.b.c.setIfInBounds j v = a.c) : m.c.setIfInBounds (48 + j) v = Msg.c { m with b := a } := by
  rw [Msg.c, Msg.cl_b, List.setIfInBounds_toArray, mid_set (len_b hr) (by rw [Att.tl hr.b]; exact hj), tl_set h, Msg.c, Msg.cl_b]; rfl
theorem setP (hr : m.R) {j : Nat} (hj : j < 35) {v : Value} {a : Pro} (h : m.p.c.setIfInBounds j v = a.c) : m.c.setIfInBounds (84 + j) v = Msg.c { m with p := a } := by
  rw [Msg.c, Msg.cl_p, List.setIfInBounds_toArray, mid_set (len_p hr) (by rw [Pro.tl hr.p]; exact hj), tl_set h, Msg.c, Msg.cl_p]; rfl
theorem setQ (hr : m.R) {j : Nat} (hj : j < 35) {v : Value} {a : Pro} (h : m.q.c.setIfInBounds j v = a.c) : m.c.setIfInBounds (119 + j) v = Msg.c { m with q := a } := by
  rw [Msg.c, Msg.cl_q, List.setIfInBounds_toArray, mid_set (len_q hr) (by rw [Pro.tl hr.q]; exact hj), tl_set h, Msg.c, Msg.cl_q]; rfl
theorem Msg.set_n (hr : m.R) (x : NF) (v : Int) : m.c.setIfInBounds x.off (.int .i64 v) = (x.set m v).c := by
  cases x
  case av => exact setA hr (j := 0) (by decide) (Att.c_set0 _ _)
  case as_ => exact setA hr (j := 1) (by decide) (Att.c_set1 _ _)
  case at_ => exact setA hr (j := 2) (by decide) (Att.c_set2 _ _)
  case bv => exact setB hr (j := 0) (by decide) (Att.c_set0 _ _)
  case bs => exact setB hr (j := 1) (by decide) (Att.c_set1 _ _)
  case bt => exact setB hr (j := 2) (by decide) (Att.c_set2 _ _)
  case pv => exact setP hr (j := 0) (by decide) (Pro.c_set0 _ _)
  case ph => exact setP hr (j := 1) (by decide) (Pro.c_set1 _ _)
  case qv => exact setQ hr (j := 0) (by decide) (Pro.c_set0 _ _)
  case qh => exact setQ hr (j := 1) (by decide) (Pro.c_set1 _ _)
  all_goals (rw [Msg.c, List.setIfInBounds_toArray]; rfl)
theorem Msg.set_a (hr : m.R) (x : AF) (v : Nat) : m.c.setIfInBounds x.off (.int .u64 ((v : Nat) : Int)) = (x.set m v).c := by
  cases x
  case ag => exact setA hr (j := 35) (by decide) (Att.c_settag _ _ hr.a)
  case bg => exact setB hr (j := 35) (by decide) (Att.c_settag _ _ hr.b)
  case pg => exact setP hr (j := 34) (by decide) (Pro.c_settag _ _ hr.p)
  case qg => exact setQ hr (j := 34) (by decide) (Pro.c_settag _ _ hr.q)
  all_goals (rw [Msg.c, List.setIfInBounds_toArray]; rfl)
theorem tl_seg {c d : Array Value} {j : Nat} {xs : List Value} (h : Go.Own.seg c j xs = d) : c.toList.take j ++ (xs ++ c.toList.drop (j + xs.length)) = d.toList := by rw [← h]; simp [Go.Own.seg]
theorem mid_seg {x y z : List Value} {n : Nat} (hn : x.length = n) {j : Nat} {xs : List Value} (hj : j + xs.length ≤ y.length) :
    (x ++ (y ++ z)).take (n + j) ++ (xs ++ (x ++ (y ++ z)).drop (n + j + xs.length)) = x ++ ((y.take j ++ (xs ++ y.drop (j + xs.length))) ++ z) := by
  rw [List.take_append, List.take_of_length_le (by omega), hn, Nat.add_sub_cancel_left, List.take_append_of_le_length (by omega)]
  rw [List.drop_append, List.drop_of_length_le (by omega), hn, show n + j + xs.length - n = j + xs.length by omega, List.drop_append_of_le_length (by omega)]
  simp
theorem segM {c : List Value} {x y z : List Value} (hc : c = x ++ (y ++ z)) {n : Nat} (hn : x.length = n) {j : Nat} {xs : List Value} (hj : j + xs.length ≤ y.length) {d : List Value} (h : y.take j ++ (xs ++ y.drop (j + xs.length)) = d) : Go.Own.seg c.toArray (n + j) xs = (x ++ (d ++ z)).toArray := by
  subst hc; subst h
  have := mid_seg (z := z) hn hj
  simp only [Go.Own.seg]
  rw [← this]; simp
theorem Msg.set_h (hr : m.R) (x : HF) (v : List UInt8) (hv : v.length = 32) : Go.Own.seg m.c x.off (B v) = (x.set m v).c := by
  have hB : (B v).length = 32 := by rw [B_length, hv]
  cases x
  case ar => exact (segM (Msg.cl_a m) Msg.hd_len (j := 3) (by rw [hB, Att.tl hr.a]; decide) (tl_seg (Att.c_seth _ v hr.a hv))).trans rfl
  case br => exact (segM (Msg.cl_b m) (len_b hr) (j := 3) (by rw [hB, Att.tl hr.b]; decide) (tl_seg (Att.c_seth _ v hr.b hv))).trans (by rw [Msg.c, Msg.cl_b]; rfl)
  case pr => exact (segM (Msg.cl_p m) (len_p hr) (j := 2) (by rw [hB, Pro.tl hr.p]; decide) (tl_seg (Pro.c_seth _ v hr.p hv))).trans (by rw [Msg.c, Msg.cl_p]; rfl)
  case qr => exact (segM (Msg.cl_q m) (len_q hr) (j := 2) (by rw [hB, Pro.tl hr.q]; decide) (tl_seg (Pro.c_seth _ v hr.q hv))).trans (by rw [Msg.c, Msg.cl_q]; rfl)
theorem NF.R {x : NF} {v : Int} (h : m.R) : (x.set m v).R := by cases x <;> exact ⟨h.a, h.b, h.p, h.q⟩
theorem AF.R {x : AF} {v : Nat} (h : m.R) : (x.set m v).R := by cases x <;> exact ⟨h.a, h.b, h.p, h.q⟩
theorem HF.R {x : HF} {v : List UInt8} (h : m.R) (hv : v.length = 32) : (x.set m v).R := by
  cases x
  · exact ⟨hv, h.b, h.p, h.q⟩
  · exact ⟨h.a, hv, h.p, h.q⟩
  · exact ⟨h.a, h.b, hv, h.q⟩
  · exact ⟨h.a, h.b, h.p, hv⟩
theorem HF.len {x : HF} (h : m.R) : (x.get m).length = 32 := by
  cases x
  · exact h.a
  · exact h.b
  · exact h.p
  · exact h.q
theorem Msg.c_one (m : Msg) : m.c.all (·.oneCell') = true := by
  have hA (a : Att) : a.c.toList.all (·.oneCell') = true := by rw [← Att.c_one a]; exact Array.all_toList
  have hP (a : Pro) : a.c.toList.all (·.oneCell') = true := by rw [← Pro.c_one a]; exact Array.all_toList
  simp only [Msg.c, Msg.cl, List.all_toArray, List.all_append, hA, hP, Bool.and_true]
  rfl
end
end Go.Proofs.Ytmapcghgdbfmhaa
