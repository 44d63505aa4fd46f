/-
  Codec: the chapter's examples: the walk of CodecKnown. Conditions: none.
-/
import Derived.Test.YtbdjphaiohinnaaCodWs
import Derived.Test.YtbdjphaiohinnaaCodM
import Derived.Test.YtbdjphaiohinnaaCodH
import Derived.Test.YtbdjphaiohinnaaCodSp
import Derived.Lib.SlBytesConst
namespace Go.Proofs.Ytbdjphaiohinnaa
open Go Go.RowKit Go.Own Go.Shelf

theorem kn_add1 : (⟨5, [], 0⟩ : WS).add (Cod.enc (5 : Int).toNat) = ⟨5, [5], 0⟩ := by kernel_rfl
theorem kn_add2 : (⟨5, [5], 0⟩ : WS).add (Cod.enc ([97, 98] : List UInt8).length ++ [97, 98]) = ⟨5, [5, 2, 97, 98], 0⟩ := by kernel_rfl
theorem kn_add3 : (⟨5, [5, 2, 97, 98], 0⟩ : WS).add (Cod.enc 1) = ⟨5, [5, 2, 97, 98, 1], 0⟩ := by kernel_rfl
theorem kn_add4 : (⟨5, [5, 2, 97, 98, 1], 0⟩ : WS).add (Cod.enc 1) = ⟨5, [5, 2, 97, 98, 1], 4⟩ := by kernel_rfl
theorem kn_size : ((Cod.enc 18446744073709551615).length : Int) = 10 := by kernel_rfl
def knL : List UInt8 := [5, 2, 97, 98, 1]
theorem kn_r1 : rdN knL ⟨0, 0⟩ 0 9 = (5, ⟨0, 1⟩) := by kernel_rfl
theorem kn_r2 : rdB knL ⟨0, 1⟩ 9 = ([97, 98], ⟨0, 4⟩) := by kernel_rfl
theorem kn_r3 : (⟨0, 4⟩ : RS).left knL = 1 := by kernel_rfl
theorem kn_r4 : rdN knL ⟨0, 4⟩ 2 9 = (0, ⟨3, 4⟩) := by kernel_rfl
theorem kn_r5 : (⟨3, 4⟩ : RS).fin knL = (3, 4) := by kernel_rfl
theorem kn_r6 : rdU knL ⟨3, 4⟩ = (0, ⟨3, 4⟩) := by kernel_rfl

/-- A slice literal of bytes, at a block whose number is known. -/
theorem lit_at {w : World} {g : Nat} (hg : w.heap.size = g) (l : List UInt8) (cs : Array Value) (n : Nat) (fr : Nat × Nat) (hcs : (B l).toArray = cs) (hn : l.length = n) (hm : n ≤ maxLen) : BytesAt (w.alloc (.cells cs 5 fr)) (.slice (some ⟨g, 0, none⟩) n n) l := by
  subst hg; subst hcs; subst hn
  exact bytes_of_block (heap_alloc_new _ _) hm

set_option maxRecDepth 100000 in
set_option maxHeartbeats 16000000 in
theorem known_ok (w : World) : Calls Try.prog 5 #[] w fun e w' => e = .returned (.bool true) ∧ Keeps Nob w w' := by
  have HAH := Lib.hid (fun W => awake_ok W)
  have kc := fun (W : World) (C : Array Value) (n c : Nat) => Lib.run_convert_bytes_const (P := Try.prog) W 23 5 C n c Try.underlying23 Try.underlying5
  go_enter Try.func5, Try.ntmps5
  go_wp2_with fail
  have L0 : Hid (BytesAt (w.alloc (.cells #[.int .u8 255, .int .u8 255, .int .u8 255, .int .u8 255, .int .u8 255, .int .u8 255, .int .u8 255, .int .u8 255, .int .u8 255, .int .u8 2] 5)) (.slice (some ⟨w.heap.size, 0, none⟩) 10 10) [255, 255, 255, 255, 255, 255, 255, 255, 255, 2]) := Lib.hid (lit_at rfl _ _ _ _ (by rfl) (by rfl) (by decide))
  have K0 : Hid (Keeps Nob w (w.alloc (.cells #[.int .u8 255, .int .u8 255, .int .u8 255, .int .u8 255, .int .u8 255, .int .u8 255, .int .u8 255, .int .u8 255, .int .u8 255, .int .u8 2] 5))) := Lib.hid ((Keeps.refl _ _).alloc _)
  have hs0 : (w.alloc (.cells #[.int .u8 255, .int .u8 255, .int .u8 255, .int .u8 255, .int .u8 255, .int .u8 255, .int .u8 255, .int .u8 255, .int .u8 255, .int .u8 2] 5)).heap.size = w.heap.size + 1 := by simp
  generalize w.alloc (.cells #[.int .u8 255, .int .u8 255, .int .u8 255, .int .u8 255, .int .u8 255, .int .u8 255, .int .u8 255, .int .u8 255, .int .u8 255, .int .u8 2] 5) = w0 at *
  refine (puts_ok 127 (by decide) _ _ (lit_at hs0 (Cod.enc 127) _ _ _ (by rfl) (by rfl) (by decide))).mono ?_
  rintro e w1 ⟨rfl, h1⟩
  have K1 : Hid (Keeps Nob w w1) := Lib.hid (K0.out.trans (((Keeps.refl _ _).alloc _).trans h1))
  have M1 : Hid (Keeps Nob w0 w1) := Lib.hid (((Keeps.refl _ _).alloc _).trans h1)
  clear h1
  go_wp2_with fail
  refine (puts_ok 128 (by decide) _ _ (lit_at rfl (Cod.enc 128) _ _ _ (by rfl) (by rfl) (by decide))).mono ?_
  rintro e w2 ⟨rfl, h2⟩
  have K2 : Hid (Keeps Nob w w2) := Lib.hid (K1.out.trans (((Keeps.refl _ _).alloc _).trans h2))
  have M2 : Hid (Keeps Nob w0 w2) := Lib.hid (M1.out.trans (((Keeps.refl _ _).alloc _).trans h2))
  clear h2 K1 M1
  go_wp2_with fail
  have hsz := cSize_ok 18446744073709551615 (by decide) w2
  rw [kn_size] at hsz
  refine hsz.mono ?_
  rintro e w3 ⟨rfl, h3⟩
  have K3 : Hid (Keeps Nob w w3) := Lib.hid (K2.out.trans h3)
  have M3 : Hid (Keeps Nob w0 w3) := Lib.hid (M2.out.trans h3)
  clear h3 K2 M2 hsz
  go_wp2_with fail
  refine (gets_ok _ [128] 0 0 0 6 0 _ (lit_at rfl [128] _ _ _ (by rfl) (by rfl) (by decide)) (by kernel_rfl)).mono ?_
  rintro e w4 ⟨rfl, h4⟩
  have K4 : Hid (Keeps Nob w w4) := Lib.hid (K3.out.trans (((Keeps.refl _ _).alloc _).trans h4))
  have M4 : Hid (Keeps Nob w0 w4) := Lib.hid (M3.out.trans (((Keeps.refl _ _).alloc _).trans h4))
  clear h4 K3 M3
  go_wp2_with fail
  refine (gets_ok _ [0] 2 0 0 3 0 _ (lit_at rfl [0] _ _ _ (by rfl) (by rfl) (by decide)) (by kernel_rfl)).mono ?_
  rintro e w5 ⟨rfl, h5⟩
  have K5 : Hid (Keeps Nob w w5) := Lib.hid (K4.out.trans (((Keeps.refl _ _).alloc _).trans h5))
  have M5 : Hid (Keeps Nob w0 w5) := Lib.hid (M4.out.trans (((Keeps.refl _ _).alloc _).trans h5))
  clear h5 K4 M4
  go_wp2_with fail
  refine (gets_ok _ [255, 255, 255, 255, 255, 255, 255, 255, 255, 2] 0 0 0 5 0 _ (L0.out.keepsN M5.out) (by kernel_rfl)).mono ?_
  rintro e w6 ⟨rfl, h6⟩
  have K6 : Hid (Keeps Nob w w6) := Lib.hid (K5.out.trans h6)
  clear h6 K5 M5 L0
  go_wp2_with fail
  refine (wr_new 5 w6 (by decide) (by decide)).mono ?_
  rintro e w7 ⟨b, F, rfl, hW, hg, h7⟩
  have K7 : Hid (Keeps Nob w w7) := Lib.hid (K6.out.trans h7)
  have hW := Lib.hid hW
  have hg := Lib.hid (hg.keeps K6.out)
  clear h7 K6
  go_wp2_with fail
  have hc := hW.out.n 5 (by decide) (by decide)
  rw [kn_add1] at hc
  refine hc.mono ?_
  rintro e w8 ⟨rfl, F1, hW1, st⟩
  have K8 : Hid (Keeps Nob w w8) := Lib.hid (st.keeps K7.out hg.out)
  have hg1 := Lib.hid (st.ge hg.out K7.out.size)
  have hW1 := Lib.hid hW1
  clear K7 hW hg hc st
  go_wp2_with fail
  have hc := (hW1.out.keepsN ((Keeps.refl _ _).alloc _)).blob _ [97, 98] (lit_at (w := w8) (fr := (2, 3)) rfl [97, 98] _ 2 (by rfl) (by rfl) (by decide)) (by decide)
  rw [kn_add2] at hc
  refine hc.mono ?_
  rintro e w9 ⟨rfl, F2, hW2, st⟩
  have K9 : Hid (Keeps Nob w w9) := Lib.hid (st.keeps (K8.out.alloc _) hg1.out)
  have hg2 := Lib.hid (st.ge hg1.out (Nat.le_trans K8.out.size (by simp)))
  have hW2 := Lib.hid hW2
  clear K8 hW1 hg1 hc st
  go_wp2_with fail
  have hc := hW2.out.u 1 (by decide)
  rw [kn_add3] at hc
  refine hc.mono ?_
  rintro e w10 ⟨rfl, F3, hW3, st⟩
  have K10 : Hid (Keeps Nob w w10) := Lib.hid (st.keeps K9.out hg2.out)
  have hg3 := Lib.hid (st.ge hg2.out K9.out.size)
  have hW3 := Lib.hid hW3
  clear K9 hW2 hg2 hc st
  go_wp2_with fail
  have hc := hW3.out.u 1 (by decide)
  rw [kn_add4] at hc
  refine hc.mono ?_
  rintro e w11 ⟨rfl, F4, hW4, st⟩
  have K11 : Hid (Keeps Nob w w11) := Lib.hid (st.keeps K10.out hg3.out)
  have hW4 := Lib.hid hW4
  clear K10 hW3 hg3 hc st
  go_wp2_with fail
  refine hW4.out.done.mono ?_
  rintro e w12 ⟨X, rfl, -, h12⟩
  have K12 : Hid (Keeps Nob w w12) := Lib.hid (K11.out.trans h12)
  clear K11 hW4 h12
  go_wp2_with fail
  refine (rd_new _ knL _ (lit_at (w := w12) rfl knL _ 5 _ (by rfl) (by rfl) (by decide)) (by decide)).mono ?_
  rintro e w13 ⟨b2, G, rfl, hR, hg, h13⟩
  have K13 : Hid (Keeps Nob w w13) := Lib.hid ((K12.out.alloc _).trans h13)
  have hg := Lib.hid (hg.keeps (K12.out.alloc _))
  have hR := Lib.hid hR
  clear K12 h13
  go_wp2_with fail
  have hc := hR.out.n 0 9 (by decide) (by decide)
  rw [kn_r1] at hc
  refine hc.mono ?_
  rintro e w14 ⟨rfl, G1, hR1, st⟩
  have K14 : Hid (Keeps Nob w w14) := Lib.hid (st.keeps K13.out hg.out)
  have hg1 := Lib.hid (st.ge hg.out K13.out.size)
  have hR1 := Lib.hid hR1
  clear K13 hR hg hc st
  go_wp2_with fail
  have hc := hR1.out.blob (by decide) 9 (by decide)
  rw [kn_r2] at hc
  refine hc.mono ?_
  rintro e w15 ⟨Y, rfl, hY, G2, hR2, st, -, -⟩
  have K15 : Hid (Keeps Nob w w15) := Lib.hid (st.keeps K14.out hg1.out)
  have hg2 := Lib.hid (st.ge hg1.out K14.out.size)
  have hR2 := Lib.hid hR2
  have hY := Lib.hid (Row.bytes hY)
  clear K14 hR1 hg1 hc st
  go_wp2_with fail
  refine (sameBytes_ok _ _ [97, 98] [97, 98] _ (hY.out.keepsN ((Keeps.refl _ _).alloc _)) (lit_at (w := w15) (fr := (2, 3)) rfl [97, 98] _ 2 (by rfl) (by rfl) (by decide))).mono ?_
  rintro e w16 ⟨rfl, rfl⟩
  have K16 : Hid (Keeps Nob w (w15.alloc (.cells #[.int .u8 97, .int .u8 98] 5 (2, 3)))) := Lib.hid (K15.out.alloc _)
  have hR3 := Lib.hid (hR2.out.keepsN ((Keeps.refl Nob w15).alloc (.cells #[.int .u8 97, .int .u8 98] 5 (2, 3))))
  clear K15 hR2 hY
  generalize w15.alloc (.cells #[.int .u8 97, .int .u8 98] 5 (2, 3)) = w16 at *
  go_wp2_with fail
  refine hR3.out.at_.mono ?_
  rintro e w17 ⟨rfl, rfl⟩
  go_wp2_with fail
  have hc := hR3.out.left
  rw [kn_r3] at hc
  refine hc.mono ?_
  rintro e w17 ⟨rfl, n, rfl⟩
  clear hc
  have K17 : Hid (Keeps Nob w (w16.drewN n)) := Lib.hid (K16.out.drewN n)
  have hR4 := Lib.hid (hR3.out.keepsN ((Keeps.refl Nob w16).drewN n))
  have hg3 : Hid (Ge G2 w) := hg2
  clear K16 hR3
  generalize w16.drewN n = w17 at *
  go_wp2_with fail
  have hc := hR4.out.n 2 9 (by decide) (by decide)
  rw [kn_r4] at hc
  refine hc.mono ?_
  rintro e w18 ⟨rfl, G3, hR5, st⟩
  have K18 : Hid (Keeps Nob w w18) := Lib.hid (st.keeps K17.out hg3.out)
  have hg4 := Lib.hid (st.ge hg3.out K17.out.size)
  have hR5 := Lib.hid hR5
  clear K17 hR4 hg3 hc st
  go_wp2_with fail
  have hc := hR5.out.fin
  rw [kn_r5] at hc
  refine hc.mono ?_
  rintro e w19 ⟨rfl, h19⟩
  have K19 : Hid (Keeps Nob w w19) := Lib.hid (K18.out.trans h19)
  have hR6 := Lib.hid (hR5.out.keepsN h19)
  clear K18 hR5 hc h19
  go_wp2_with fail
  have hc := hR6.out.u
  rw [kn_r6] at hc
  refine hc.mono ?_
  rintro e w20 ⟨rfl, G4, -, st⟩
  have K20 : Hid (Keeps Nob w w20) := Lib.hid (st.keeps K19.out hg4.out)
  clear K19 hR6 hg4 hc st
  go_wp2_with fail
  refine (HAH.out _).mono ?_
  rintro e w21 ⟨rfl, h21⟩
  go_wp2_with fail
  go_ret
  exact ⟨rfl, K20.out.trans h21⟩
end Go.Proofs.Ytbdjphaiohinnaa
