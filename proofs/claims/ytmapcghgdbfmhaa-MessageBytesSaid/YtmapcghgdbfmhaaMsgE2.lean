/-
  Messages: votes and stamps as parts of them. Conditions: none.
-/
import Derived.Test.YtmapcghgdbfmhaaMsgE
namespace Go.Proofs.Ytmapcghgdbfmhaa
open Go Go.RowKit Go.Own Go.Shelf
def putS (m x : Msg) : Msg := { m with sv := x.sv, ss := x.ss, sp := x.sp, sf := x.sf }
def putA (m : Msg) (x : Att) : Msg := { m with a := x }
def putB (m : Msg) (x : Att) : Msg := { m with b := x }
def putP (m : Msg) (x : Pro) : Msg := { m with p := x }
def putQ (m : Msg) (x : Pro) : Msg := { m with q := x }
section
variable {m : Msg}
theorem putS_R {x : Msg} (h : m.R) : (putS m x).R := ⟨h.a, h.b, h.p, h.q⟩
theorem putA_R {x : Att} (h : m.R) (hx : x.r.length = 32) : (putA m x).R := ⟨hx, h.b, h.p, h.q⟩
theorem putB_R {x : Att} (h : m.R) (hx : x.r.length = 32) : (putB m x).R := ⟨h.a, hx, h.p, h.q⟩
theorem putP_R {x : Pro} (h : m.R) (hx : x.r.length = 32) : (putP m x).R := ⟨h.a, h.b, hx, h.q⟩
theorem putQ_R {x : Pro} (h : m.R) (hx : x.r.length = 32) : (putQ m x).R := ⟨h.a, h.b, h.p, hx⟩
theorem Msg.seg_S (m : Msg) : ∀ (j : Nat) (u : Value), m.st.toList[j]? = some u → m.c[6 + j]? = some u := by
  intro j u h
  have hj : j < 4 := (List.getElem?_eq_some_iff.1 h).1
  match j, hj with
  | 0, _ => exact h
  | 1, _ => exact h
  | 2, _ => exact h
  | 3, _ => exact h
theorem Msg.seg_A (hr : m.R) : ∀ (j : Nat) (u : Value), m.a.c.toList[j]? = some u → m.c[12 + j]? = some u := fun j u h => getA m (by rw [Array.getElem?_toList] at h; exact h)
theorem Msg.seg_B (hr : m.R) : ∀ (j : Nat) (u : Value), m.b.c.toList[j]? = some u → m.c[48 + j]? = some u := fun j u h => getB hr (by rw [Array.getElem?_toList] at h; exact h)
theorem Msg.seg_P (hr : m.R) : ∀ (j : Nat) (u : Value), m.p.c.toList[j]? = some u → m.c[84 + j]? = some u := fun j u h => getP hr (by rw [Array.getElem?_toList] at h; exact h)
theorem Msg.seg_Q (hr : m.R) : ∀ (j : Nat) (u : Value), m.q.c.toList[j]? = some u → m.c[119 + j]? = some u := fun j u h => getQ hr (by rw [Array.getElem?_toList] at h; exact h)
theorem Msg.set_S (_hr : m.R) (x : Msg) : seg m.c 6 x.st.toList = (putS m x).c := rfl
theorem full_seg {y xs : List Value} (h : xs.length = y.length) : y.take 0 ++ (xs ++ y.drop (0 + xs.length)) = xs := by
  rw [Nat.zero_add, h, List.drop_length]; simp
theorem Msg.set_A (hr : m.R) (x : Att) (hx : x.r.length = 32) : seg m.c 12 x.c.toList = (putA m x).c :=
  (segM (Msg.cl_a m) Msg.hd_len (j := 0) (by rw [Att.tl hr.a, Att.tl hx]; decide) (full_seg (by rw [Att.tl hr.a, Att.tl hx]))).trans rfl
theorem Msg.set_B (hr : m.R) (x : Att) (hx : x.r.length = 32) : seg m.c 48 x.c.toList = (putB m x).c :=
  (segM (Msg.cl_b m) (len_b hr) (j := 0) (by rw [Att.tl hr.b, Att.tl hx]; decide) (full_seg (by rw [Att.tl hr.b, Att.tl hx]))).trans (by rw [Msg.c, Msg.cl_b]; rfl)
theorem Msg.set_P (hr : m.R) (x : Pro) (hx : x.r.length = 32) : seg m.c 84 x.c.toList = (putP m x).c :=
  (segM (Msg.cl_p m) (len_p hr) (j := 0) (by rw [Pro.tl hr.p, Pro.tl hx]; decide) (full_seg (by rw [Pro.tl hr.p, Pro.tl hx]))).trans (by rw [Msg.c, Msg.cl_p]; rfl)
theorem Msg.set_Q (hr : m.R) (x : Pro) (hx : x.r.length = 32) : seg m.c 119 x.c.toList = (putQ m x).c :=
  (segM (Msg.cl_q m) (len_q hr) (j := 0) (by rw [Pro.tl hr.q, Pro.tl hx]; decide) (full_seg (by rw [Pro.tl hr.q, Pro.tl hx]))).trans (by rw [Msg.c, Msg.cl_q]; rfl)
end
end Go.Proofs.Ytmapcghgdbfmhaa
