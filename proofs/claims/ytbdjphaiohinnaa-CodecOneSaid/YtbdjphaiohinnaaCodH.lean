/-
  Codec: the laws' examples; the law of numbers. Conditions: none.
-/
import Derived.Test.YtbdjphaiohinnaaCodG
import Derived.Test.YtbdjphaiohinnaaKitB
namespace Go.Proofs.Ytbdjphaiohinnaa
open Go Go.RowKit Go.Own Go.Shelf

set_option maxRecDepth 100000 in
set_option maxHeartbeats 2000000 in
theorem puts_ok (x : Nat) (hx : x < 2 ^ 64) (v : Value) (w : World) (hv : BytesAt w v (Cod.enc x)) :
    Calls Try.prog 29 #[.int .u64 (x : Int), v] w fun e w' => e = .returned (.bool true) ∧ Keeps Nob w w' := by
  obtain ⟨l, hl⟩ : ∃ l, Cod.enc x = l := ⟨_, rfl⟩
  have hP := fun W => cPut_ok x hx W
  have hS := fun W => cSize_ok x hx W
  rw [hl] at hv hP hS
  obtain ⟨A, cap, rfl⟩ := hv.len
  have HP := Lib.hid hP
  have HS := Lib.hid hS
  have HV := Lib.hid hv
  clear hP hS hv hx hl
  go_enter Try.func29, Try.ntmps29
  go_wp2_with (first
    | (go_at_call 10; refine (HP.out _).mono ?_; rintro e w1 ⟨v1, rfl, h1, h2, h3, h4⟩; have H1 := Lib.hid h1; have H2 := Lib.hid h2; have H3 := Lib.hid h3; clear h1 h2 h3)
    | (go_at_call 15; refine (sameBytes_ok _ _ l l _ H1.out.bytes (HV.out.keepsN h4)).mono ?_; rintro e w2 ⟨rfl, rfl⟩)
    | (go_at_call 16; refine (HS.out _).mono ?_; rintro e w3 ⟨rfl, h5⟩))
  go_ret
  exact ⟨by simp, h4.trans h5⟩

set_option maxRecDepth 100000 in
set_option maxHeartbeats 2000000 in
theorem gets_ok (v : Value) (l : List UInt8) (at_ : Int) (n : Nat) (to e bad : Int) (w : World) (hv : BytesAt w v l) (hg : getAt l at_ = (n, to, e, bad)) :
    Calls Try.prog 30 #[v, .int .i64 at_, .int .u64 (n : Int), .int .i64 to, .int .i64 e, .int .i64 bad] w fun e w' => e = .returned (.bool true) ∧ Keeps Nob w w' := by
  have hG := cGet_ok v l at_ w hv
  rw [hg] at hG
  simp only [getV] at hG
  have HG := Lib.hid hG
  clear hG hg hv
  go_enter Try.func30, Try.ntmps30
  go_wp2_with (go_at_call 13; refine HG.out.mono ?_; rintro e w1 ⟨rfl, h1⟩)
  go_ret
  exact ⟨by simp, (h1.alloc _)⟩

/-- A slice literal of bytes. -/
theorem lit_bytes (w : World) (l : List UInt8) (cs : Array Value) (n : Nat) (hcs : (B l).toArray = cs) (hn : l.length = n) (hm : n ≤ maxLen) : BytesAt (w.alloc (.cells cs 5)) (.slice (some ⟨w.heap.size, 0, none⟩) n n) l := by
  subst hcs; subst hn
  exact (Row.newB w l 5 hm).bytes

set_option maxRecDepth 100000 in
set_option maxHeartbeats 4000000 in
theorem awake_ok (w : World) : Calls Try.prog 9 #[] w fun e w' => e = .returned (.bool true) ∧ Keeps Nob w w' := by
  go_enter Try.func9, Try.ntmps9
  go_wp2_with fail
  refine (puts_ok 0 (by decide) _ _ (lit_bytes _ (Cod.enc 0) _ _ (by rfl) (by rfl) (by decide))).mono ?_
  rintro e w1 ⟨rfl, h1⟩
  go_wp2_with fail
  refine (puts_ok 300 (by decide) _ _ (lit_bytes _ (Cod.enc 300) _ _ (by rfl) (by rfl) (by decide))).mono ?_
  rintro e w2 ⟨rfl, h2⟩
  go_wp2_with fail
  refine (gets_ok _ [172, 2] _ 300 2 0 0 _ (lit_bytes _ _ _ _ (by rfl) (by rfl) (by decide)) (by rfl)).mono ?_
  rintro e w3 ⟨rfl, h3⟩
  go_wp2_with fail
  refine (gets_ok _ [128, 0] _ 0 0 5 0 _ (lit_bytes _ _ _ _ (by rfl) (by rfl) (by decide)) (by rfl)).mono ?_
  rintro e w4 ⟨rfl, h4⟩
  go_wp2_with fail
  refine (gets_ok _ [] _ 0 0 6 0 _ (BytesAt.nil _) (by rfl)).mono ?_
  rintro e w5 ⟨rfl, h5⟩
  go_wp2_with fail
  go_ret
  exact ⟨rfl, (((((((((Keeps.refl Nob w).alloc _).trans h1).alloc _).trans h2).alloc _).trans h3).alloc _).trans h4).trans h5⟩

set_option maxRecDepth 100000 in
set_option maxHeartbeats 8000000 in
/-- The law of numbers. -/
theorem numbers_ok (x : Nat) (hx : x < 2 ^ 64) (v : Value) (l : List UInt8) (at_ : Int) (_ : -9223372036854775808 ≤ at_ ∧ at_ ≤ 9223372036854775807) (w : World) (hv : BytesAt w v l) :
    Calls Try.prog 3 #[.int .u64 (x : Int), v, .int .i64 at_] w fun e w' => e = .returned (.bool true) ∧ Keeps Nob w w' := by
  have hlen := hv.length_le
  obtain ⟨A, cap, rfl⟩ := hv.len
  by_cases h300 : (300 : Int) < (l.length : Int)
  · have hd : decide ((300 : Int) < (l.length : Int)) = true := by simpa using h300
    have HV := Lib.hid hv; clear hv hx
    go_enter Try.func3, Try.ntmps3
    go_wp2_with (go_at_call 9; refine (awake_ok _).mono ?_; rintro e w1 ⟨rfl, h1⟩)
    go_ret
    exact ⟨rfl, h1⟩
  · have hd : decide ((300 : Int) < (l.length : Int)) = false := by simpa using h300
    have hl3 : l.length ≤ 300 := by omega
    have HPc := Lib.hid (fun W => cPut_ok x hx W)
    have HPr := Lib.hid (fun W => rPut_ok x hx W)
    have HSz := Lib.hid (fun W => cSize_ok x hx W)
    have HGc := Lib.hid (fun v W hv => cGet_ok v l at_ W hv)
    have HGr := Lib.hid (fun v W hv => rGet_ok v l at_ W hv)
    have HV := Lib.hid hv
    clear hv hx
    obtain ⟨r, hr⟩ : ∃ r, getAt l at_ = r := ⟨_, rfl⟩
    rw [hr] at HGc HGr
    clear hr
    obtain ⟨r1, r2, r3, r4⟩ := r
    simp only [getV] at HGc HGr
    obtain ⟨en, hen⟩ : ∃ en, Cod.enc x = en := ⟨_, rfl⟩
    rw [hen] at HPc HPr HSz
    clear hen
    go_enter Try.func3, Try.ntmps3
    go_wp2_with fail
    refine (HPc.out _).mono ?_
    rintro e w1 ⟨p, rfl, p1, p2, p3, k1⟩
    have HP1 := Lib.hid p1
    have HP2 := Lib.hid p2
    clear p1 p2 p3
    go_wp2_with fail
    refine (HPr.out _).mono ?_
    rintro e w2 ⟨q, rfl, q1, q2, q3, k2⟩
    obtain ⟨Aq, cq, rfl⟩ := (Row.bytes q1).len
    have HQ1 := Lib.hid q1
    have HQ2 := Lib.hid q2
    clear q1 q2 q3
    go_wp2_with fail
    refine (lentBytes_ok _ l _ (HV.out.keepsN (k1.trans k2)) (by omega)).mono ?_
    rintro e w3 ⟨inn, rfl, i1, i2, k3⟩
    have HI1 := Lib.hid i1
    have HI2 := Lib.hid i2
    clear i1 i2
    go_wp2_with fail
    refine (HGc.out _ _ HI1.out.bytes).mono ?_
    rintro e w4 ⟨rfl, k4⟩
    go_wp2_with fail
    have k34 : Keeps Nob w w4 := ((k1.trans k2).trans k3).trans k4
    refine (HGr.out _ _ (HV.out.keepsN (k34.alloc _))).mono ?_
    rintro e w5 ⟨rfl, k5⟩
    have k45 : Keeps Nob w4 w5 := ((Keeps.refl Nob w4).alloc _).trans k5
    go_wp2_with fail
    have kp5 : Keeps Nob w1 w5 := ((k2.trans k3).trans k4).trans k45
    refine (sameBytes_ok _ _ en en _ (HP1.out.bytes.keepsN (kp5.alloc _)) (HQ1.out.bytes.keepsN (((k3.trans k4).trans k45).alloc _))).mono ?_
    rintro e w6 ⟨rfl, rfl⟩
    go_wp2_with fail
    refine (HSz.out _).mono ?_
    rintro e w6 ⟨rfl, k6⟩
    have hb4 : w4.heap.size < (w4.alloc (.cells #[.int .i64 r3, .int .i64 r4] 29)).heap.size := by simp
    have hb45 : w4.heap.size < w5.heap.size := Nat.lt_of_lt_of_le hb4 k5.size
    have k56 : Keeps Nob (w4.alloc (.cells #[.int .i64 r3, .int .i64 r4] 29)) w6 := (k5.alloc _).trans k6
    have c1 := (k56.cell (i := 0) hb4 (fun x => x)).trans ((World.cell?_alloc_at _ _ _ _ rfl).trans rfl)
    have c2 := (k56.cell (i := 1) hb4 (fun x => x)).trans ((World.cell?_alloc_at _ _ _ _ rfl).trans rfl)
    have c3 := (k6.cell (k := w5.heap.size) (i := 0) (by simp) (fun x => x)).trans ((World.cell?_alloc_at _ _ _ _ rfl).trans rfl)
    have c4 := (k6.cell (k := w5.heap.size) (i := 1) (by simp) (fun x => x)).trans ((World.cell?_alloc_at _ _ _ _ rfl).trans rfl)
    have kp6 : Keeps Nob w1 w6 := (kp5.alloc _).trans k6
    go_wp2_with fail
    refine (overBytes_ok p en _ (HP1.out.keeps kp6 (fun _ _ x => x))).mono ?_
    rintro e w7 ⟨⟨r, rfl⟩, k7⟩
    have kw7 : Keeps Nob w w7 := (k1.trans kp6).then k7 (fun i hi hm => by have := HP2.out i hm; omega)
    have kw3 : Keeps (fun j => p.ownBlock = some j) w3 w7 := ((((k4.trans k45).alloc _).trans k6).mono (fun _ _ x => x.elim)).trans k7
    clear c1 c2 c3 c4
    go_wp2_with fail
    refine (keptBytes_ok _ _ l _ (HI1.out.keeps kw3 (fun j hj hp => ?_)) (HV.out.keepsN kw7) (by omega)).mono ?_
    · have a1 := HI2.out j hj
      have a2 := (World.ownsRow.lt HP1.out j hp).2
      have a3 := k2.size
      omega
    rintro e w8 ⟨rfl, k8⟩
    go_wp2_with fail
    refine (awake_ok _).mono ?_
    rintro e w9 ⟨rfl, k9⟩
    go_wp2_with fail
    go_ret
    exact ⟨rfl, (kw7.trans k8).trans k9⟩
end Go.Proofs.Ytbdjphaiohinnaa
