/-
  DetectInnocent proved: for every input the law returns true, and each argument reads as it did. Conditions: none.
-/
import Derived.Test.YthmclmbeflbhhaaGreatDetectInnocentP5
set_option maxRecDepth 100000
set_option maxHeartbeats 4000000
namespace Go.Proofs.YthmclmbeflbhhaaGreat
section
open Go Go.RowKit Go.Own Go.Shelf
def byteH (b : UInt8) : List UInt8 := b :: List.replicate 31 0
theorem byteH_len (b : UInt8) : (byteH b).length = 32 := by simp [byteH]
def v1 (s t : Int) (b : UInt8) : Att := ⟨1, s, t, byteH b, 0⟩
def b1 (h : Int) (b : UInt8) : Pro := ⟨1, h, byteH b, 0⟩
noncomputable def qc115_4 (n : Nat) : Code := partOf Tryz.f43 n
theorem kdefault_ok (w : World) :
  Calls Tryz.prog 43 #[] w (fun e w' => e = .returned (.agg #[.int .i64 100, .int .i64 100, .int .i64 10, .int .i64 8, .int .i64 7, .int .i64 8, .int .i64 20, .int .u64 50000000, .int .u64 3, .int .i64 50, .int .u64 100000000]) ∧ Keeps Nob w w') := by
 have K0 : Keeps Nob w w := Keeps.refl _ _
 refine se_ (qc115_4 1) ⟨#[ud, ud], []⟩ Tryz.func43 <| qr_ [0] <| pal 47 (#[.int .i64 0, .int .i64 0, .int .i64 0, .int .i64 0, .int .i64 0, .int .i64 0, .int .i64 0, .int .u64 0, .int .u64 0, .int .i64 0, .int .u64 0]) (.agg (#[.int .i64 0, .int .i64 0, .int .i64 0, .int .i64 0, .int .i64 0, .int .i64 0, .int .i64 0, .int .u64 0, .int .u64 0, .int .i64 0, .int .u64 0])) fun V1 g2 eg2 h3 kV1 => ?_
 have n4 := nk eg2 K0
 have K5 := K0.nn kV1
 have z6 := kV1.size
 refine eqr_ [0, 1] <| kk 1 <| pst 47 g2 (#[.int .i64 100, .int .i64 100, .int .i64 10, .int .i64 8, .int .i64 7, .int .i64 8, .int .i64 20, .int .u64 50000000, .int .u64 3, .int .i64 50, .int .u64 100000000]) h3 (by kernel_rfl) rfl (by kernel_rfl) fun V7 h8 kV7 => ?_
 have K9 := K5.nO kV7
 have z10 := kV7.size
 refine eu_ <| sy_out (.agg (#[.int .i64 100, .int .i64 100, .int .i64 10, .int .i64 8, .int .i64 7, .int .i64 8, .int .i64 20, .int .u64 50000000, .int .u64 3, .int .i64 50, .int .u64 100000000])) rfl (rcr 47 g2 h8 Tryz.underlying47 (by kernel_rfl)) ?_
 exact ⟨rfl, K9⟩
noncomputable def qc115_6 (n : Nat) : Code := partOf Tryz.f21 n
theorem ltof_ok (el wn : Int) (w : World) :
  Calls Tryz.prog 21 #[.int .i64 el, .int .i64 wn] w (fun e w' => e = .returned (.agg (ofP el wn).cells) ∧ Keeps Nob w w') := by
 have K0 : Keeps Nob w w := Keeps.refl _ _
 refine se_ (qc115_6 1) ⟨fr [.int .i64 el, .int .i64 wn] 10, []⟩ Tryz.func21 <| qr_ [0] <| pal 47 (#[.int .i64 0, .int .i64 0, .int .i64 0, .int .i64 0, .int .i64 0, .int .i64 0, .int .i64 0, .int .u64 0, .int .u64 0, .int .i64 0, .int .u64 0]) (.agg (#[.int .i64 0, .int .i64 0, .int .i64 0, .int .i64 0, .int .i64 0, .int .i64 0, .int .i64 0, .int .u64 0, .int .u64 0, .int .i64 0, .int .u64 0])) fun V1 res eres h2 kV1 => ?_
 have n3 := nk eres K0
 have K4 := K0.nn kV1
 have z5 := kV1.size
 refine eqr_ [0, 1, 2] ?_
 refine pcr 43 #[] Tryz.func43 (kdefault_ok _) fun V6 kV6 => ?_
 have ⟨K8, z9, h7⟩ := kV6.z1 K4 h2
 refine pal 47 (#[.int .i64 0, .int .i64 0, .int .i64 0, .int .i64 0, .int .i64 0, .int .i64 0, .int .i64 0, .int .u64 0, .int .u64 0, .int .i64 0, .int .u64 0]) (.agg (#[.int .i64 0, .int .i64 0, .int .i64 0, .int .i64 0, .int .i64 0, .int .i64 0, .int .i64 0, .int .u64 0, .int .u64 0, .int .i64 0, .int .u64 0])) fun V10 pp epp h11 kV10 => ?_
 have n12 := nl epp h7
 have n13 := nk epp K8
 have ⟨K15, z16, h14⟩ := kV10.z1 K8 h7
 refine pst 47 pp (#[.int .i64 100, .int .i64 100, .int .i64 10, .int .i64 8, .int .i64 7, .int .i64 8, .int .i64 20, .int .u64 50000000, .int .u64 3, .int .i64 50, .int .u64 100000000]) h11 (by kernel_rfl) rfl (by kernel_rfl) fun V17 h18 kV17 => ?_
 have ⟨K20, z21, h19⟩ := kV17.zo1 K15 h14
 refine eqr_ [0, 1, 2] <| kk 2 <| pce 3 pp 2 (.int .i64 el) (#[.int .i64 100, .int .i64 100, .int .i64 el, .int .i64 8, .int .i64 7, .int .i64 8, .int .i64 20, .int .u64 50000000, .int .u64 3, .int .i64 50, .int .u64 100000000]) h18 (rc (h18) (by kernel_rfl)) (by kernel_rfl) (u := .int .i64 10) fun V22 h23 kV22 => ?_
 have ⟨K25, z26, h24⟩ := kV22.zo1 K20 h19
 refine eqr_ [0, 1, 2] <| kk 2 <| pce 3 pp 3 (.int .i64 wn) (#[.int .i64 100, .int .i64 100, .int .i64 el, .int .i64 wn, .int .i64 7, .int .i64 8, .int .i64 20, .int .u64 50000000, .int .u64 3, .int .i64 50, .int .u64 100000000]) h23 (rc (h23) (by kernel_rfl)) (by kernel_rfl) (u := .int .i64 8) fun V27 h28 kV27 => ?_
 have ⟨K30, z31, h29⟩ := kV27.zo1 K25 h24
 refine eqr_ [0, 1] <| ppq _ (ldr 47 pp (h28) (by kernel_rfl)) <| pst 47 res (#[.int .i64 100, .int .i64 100, .int .i64 el, .int .i64 wn, .int .i64 7, .int .i64 8, .int .i64 20, .int .u64 50000000, .int .u64 3, .int .i64 50, .int .u64 100000000]) h29 (by kernel_rfl) rfl (by kernel_rfl) fun V32 h33 kV32 => ?_
 have K35 := K30.nO kV32
 have z36 := kV32.size
 refine eu_ <| sy_out (.agg (#[.int .i64 100, .int .i64 100, .int .i64 el, .int .i64 wn, .int .i64 7, .int .i64 8, .int .i64 20, .int .u64 50000000, .int .u64 3, .int .i64 50, .int .u64 100000000])) rfl (rcr 47 res h33 Tryz.underlying47 (by kernel_rfl)) ?_
 exact ⟨by kernel_rfl, K35⟩
noncomputable def qc115_5 (n : Nat) : Code := partOf Tryz.f9 n
theorem ltvote1_ok (s t : Int) (b : UInt8) (n : Int) (hn : n = ((b.toNat : Nat) : Int)) (w : World) :
  Calls Tryz.prog 9 #[.int .i64 s, .int .i64 t, .int .u8 n] w (fun e w' => e = .returned (.agg (Att.c (v1 s t b))) ∧ Keeps Nob w w') := by
 have K0 : Keeps Nob w w := Keeps.refl _ _
 refine se_ (qc115_5 1) ⟨fr [.int .i64 s, .int .i64 t, .int .u8 n] 9, []⟩ Tryz.func9 <| qr_ [0] <| pal 28 (#[.int .i64 0, .int .i64 0, .int .i64 0, .int .u8 0, .int .u8 0, .int .u8 0, .int .u8 0, .int .u8 0, .int .u8 0, .int .u8 0, .int .u8 0, .int .u8 0, .int .u8 0, .int .u8 0, .int .u8 0, .int .u8 0, .int .u8 0, .int .u8 0, .int .u8 0, .int .u8 0, .int .u8 0, .int .u8 0, .int .u8 0, .int .u8 0, .int .u8 0, .int .u8 0, .int .u8 0, .int .u8 0, .int .u8 0, .int .u8 0, .int .u8 0, .int .u8 0, .int .u8 0, .int .u8 0, .int .u8 0, .int .u64 0]) (.agg (#[.int .i64 0, .int .i64 0, .int .i64 0, .int .u8 0, .int .u8 0, .int .u8 0, .int .u8 0, .int .u8 0, .int .u8 0, .int .u8 0, .int .u8 0, .int .u8 0, .int .u8 0, .int .u8 0, .int .u8 0, .int .u8 0, .int .u8 0, .int .u8 0, .int .u8 0, .int .u8 0, .int .u8 0, .int .u8 0, .int .u8 0, .int .u8 0, .int .u8 0, .int .u8 0, .int .u8 0, .int .u8 0, .int .u8 0, .int .u8 0, .int .u8 0, .int .u8 0, .int .u8 0, .int .u8 0, .int .u8 0, .int .u64 0])) fun V1 g2 eg2 h3 kV1 => ?_
 have n4 := nk eg2 K0
 have K5 := K0.nn kV1
 have z6 := kV1.size
 refine eqr_ nl6_ <| kk 5 <| psk 28 g2 (#[.int .i64 1, .int .i64 s, .int .i64 t, .int .u8 n, .int .u8 0, .int .u8 0, .int .u8 0, .int .u8 0, .int .u8 0, .int .u8 0, .int .u8 0, .int .u8 0, .int .u8 0, .int .u8 0, .int .u8 0, .int .u8 0, .int .u8 0, .int .u8 0, .int .u8 0, .int .u8 0, .int .u8 0, .int .u8 0, .int .u8 0, .int .u8 0, .int .u8 0, .int .u8 0, .int .u8 0, .int .u8 0, .int .u8 0, .int .u8 0, .int .u8 0, .int .u8 0, .int .u8 0, .int .u8 0, .int .u8 0, .int .u64 0]) h3 fun V7 h8 kV7 => ?_
 have K9 := K5.nO kV7
 have z10 := kV7.size
 refine eu_ <| sy_out (.agg (#[.int .i64 1, .int .i64 s, .int .i64 t, .int .u8 n, .int .u8 0, .int .u8 0, .int .u8 0, .int .u8 0, .int .u8 0, .int .u8 0, .int .u8 0, .int .u8 0, .int .u8 0, .int .u8 0, .int .u8 0, .int .u8 0, .int .u8 0, .int .u8 0, .int .u8 0, .int .u8 0, .int .u8 0, .int .u8 0, .int .u8 0, .int .u8 0, .int .u8 0, .int .u8 0, .int .u8 0, .int .u8 0, .int .u8 0, .int .u8 0, .int .u8 0, .int .u8 0, .int .u8 0, .int .u8 0, .int .u8 0, .int .u64 0])) rfl (rcr 28 g2 h8 Tryz.underlying28 (by kernel_rfl)) ?_
 exact ⟨by subst hn; kernel_rfl, K9⟩
noncomputable def qc115_3 (n : Nat) : Code := partOf Tryz.f14 n
theorem ltblock1_ok (h : Int) (b : UInt8) (n : Int) (hn : n = ((b.toNat : Nat) : Int)) (w : World) :
  Calls Tryz.prog 14 #[.int .i64 h, .int .u8 n] w (fun e w' => e = .returned (.agg (Pro.c (b1 h b))) ∧ Keeps Nob w w') := by
 have K0 : Keeps Nob w w := Keeps.refl _ _
 refine se_ (qc115_3 1) ⟨fr [.int .i64 h, .int .u8 n] 7, []⟩ Tryz.func14 <| qr_ [0] <| pal 37 (#[.int .i64 0, .int .i64 0, .int .u8 0, .int .u8 0, .int .u8 0, .int .u8 0, .int .u8 0, .int .u8 0, .int .u8 0, .int .u8 0, .int .u8 0, .int .u8 0, .int .u8 0, .int .u8 0, .int .u8 0, .int .u8 0, .int .u8 0, .int .u8 0, .int .u8 0, .int .u8 0, .int .u8 0, .int .u8 0, .int .u8 0, .int .u8 0, .int .u8 0, .int .u8 0, .int .u8 0, .int .u8 0, .int .u8 0, .int .u8 0, .int .u8 0, .int .u8 0, .int .u8 0, .int .u8 0, .int .u64 0]) (.agg (#[.int .i64 0, .int .i64 0, .int .u8 0, .int .u8 0, .int .u8 0, .int .u8 0, .int .u8 0, .int .u8 0, .int .u8 0, .int .u8 0, .int .u8 0, .int .u8 0, .int .u8 0, .int .u8 0, .int .u8 0, .int .u8 0, .int .u8 0, .int .u8 0, .int .u8 0, .int .u8 0, .int .u8 0, .int .u8 0, .int .u8 0, .int .u8 0, .int .u8 0, .int .u8 0, .int .u8 0, .int .u8 0, .int .u8 0, .int .u8 0, .int .u8 0, .int .u8 0, .int .u8 0, .int .u8 0, .int .u64 0])) fun V1 g2 eg2 h3 kV1 => ?_
 have n4 := nk eg2 K0
 have K5 := K0.nn kV1
 have z6 := kV1.size
 refine eqr_ nl5_ <| kk 4 <| psk 37 g2 (#[.int .i64 1, .int .i64 h, .int .u8 n, .int .u8 0, .int .u8 0, .int .u8 0, .int .u8 0, .int .u8 0, .int .u8 0, .int .u8 0, .int .u8 0, .int .u8 0, .int .u8 0, .int .u8 0, .int .u8 0, .int .u8 0, .int .u8 0, .int .u8 0, .int .u8 0, .int .u8 0, .int .u8 0, .int .u8 0, .int .u8 0, .int .u8 0, .int .u8 0, .int .u8 0, .int .u8 0, .int .u8 0, .int .u8 0, .int .u8 0, .int .u8 0, .int .u8 0, .int .u8 0, .int .u8 0, .int .u64 0]) h3 fun V7 h8 kV7 => ?_
 have K9 := K5.nO kV7
 have z10 := kV7.size
 refine eu_ <| sy_out (.agg (#[.int .i64 1, .int .i64 h, .int .u8 n, .int .u8 0, .int .u8 0, .int .u8 0, .int .u8 0, .int .u8 0, .int .u8 0, .int .u8 0, .int .u8 0, .int .u8 0, .int .u8 0, .int .u8 0, .int .u8 0, .int .u8 0, .int .u8 0, .int .u8 0, .int .u8 0, .int .u8 0, .int .u8 0, .int .u8 0, .int .u8 0, .int .u8 0, .int .u8 0, .int .u8 0, .int .u8 0, .int .u8 0, .int .u8 0, .int .u8 0, .int .u8 0, .int .u8 0, .int .u8 0, .int .u8 0, .int .u64 0])) rfl (rcr 37 g2 h8 Tryz.underlying37 (by kernel_rfl)) ?_
 exact ⟨by subst hn; kernel_rfl, K9⟩
structure GSt (S : World → Prop) (w : World) : Prop where
 s : S w
 k : ∀ w w', Keeps Nob w w' → S w → S w'
theorem GSt.keepsN {S : World → Prop} {w w' : World} (g : GSt S w) (k : Keeps Nob w w') : GSt S w' := ⟨g.k _ _ k g.s, g.k⟩
theorem GSt.of {B d : Nat} {p : Par} {h : Int} {A : List Att} {Q : List Pro} {w : World} (s : Det1 B w d p h A Q) : GSt (fun w => Det1 B w d p h A Q) w := ⟨s, fun _ _ k s => s.keepsN k⟩
noncomputable def qc115_2 (n : Nat) : Code := partOf Tryz.f28 n
theorem ltattests_g (B d : Nat) (S S' : World → Prop) (w : World) (hB : B ≤ w.heap.size) (D0 : GSt S w) (a : Att) (hr_a : a.r.length = 32) (k f : Int) (x : Att) (hr_x : x.r.length = 32) (y : Vd) (hyo : VdOk y) (hyv : y = ⟨k, x, zPro, f⟩) (hc : ∀ V, B ≤ V.heap.size → GSt S V → Calls Tryz.prog 24 #[pT d 0, .agg (Att.c a)] V fun e W => e = .returned (.tuple #[.agg (Vd.c y), .int .i64 0]) ∧ GSt S' W ∧ Turns B V W) :
  Calls Tryz.prog 28 #[pT d 0, .agg (Att.c a), .int .i64 k, .agg (Att.c x), .int .i64 f] w (fun e w' => e = .returned (.bool true) ∧ GSt S' w' ∧ Turns B w w') := by
 have t0 := Turns.refl B w
 have K0 : Keeps ((fun j => B ≤ j)) w w := Keeps.refl _ _
 refine se_ (qc115_2 1) ⟨fr [pT d 0, .agg (Att.c a), .int .i64 k, .agg (Att.c x), .int .i64 f] 24, []⟩ Tryz.func28 <| qr_ [0, 1, 2] <| pbx 28 ((Att.c a)) (.agg (Att.c a)) fun V1 ga ega h2 kV1 => ?_
 have n3 := nk ega K0
 have kb4 := (Keeps.refl Nob w).nn kV1
 have h5 := Turns.nn t0 kV1
 have K6 := K0.nn kV1
 have z7 := kV1.size
 refine pbx 28 ((Att.c x)) (.agg (Att.c x)) fun V8 gw egw h9 kV8 => ?_
 have n10 := nl egw h2
 have n11 := nk egw K6
 have kb12 := kb4.nn kV8
 have h13 := Turns.nn h5 kV8
 have ⟨K15, z16, h14⟩ := kV8.z1 K6 h2
 refine kk 1 <| eqr_ nl9_ <| kk 1 <| ppq _ (ldr 28 ga (h14) (by rw [Att.c_size _ hr_a]; kernel_rfl)) ?_
 refine pcq 24 #[pT d 0, .agg (Att.c a)] Tryz.func24 ((hc _ (Nat.le_trans hB K15.size) (D0.keepsN kb12)).mono ?_)
 rintro e V17 ⟨rfl, hDV17, MV17, hMV17, kV17⟩
 refine ⟨_, rfl, ?_⟩
 have h18 : Turns B w V17 := Turns.trans h13 ⟨MV17, hMV17, kV17⟩
 have h19 : HP V17 ga (Att.c a) 28 := (kV17.block ga (lt_of_block h14) (fun e => hMV17.no h14 e)).trans h14
 have h20 : HP V17 gw (Att.c x) 28 := (kV17.block gw (lt_of_block h9) (fun e => hMV17.no h9 e)).trans h9
 have K21 : Keeps ((fun j => B ≤ j)) w V17 := K15.then kV17 (fun i hi hm => Nat.le_of_not_lt (fun h => hMV17.sub i h hm))
 have z22 := kV17.size
 refine kk 3 <| pal 57 (vdC 0 attZ proZ 0) (.agg (vdC 0 attZ proZ 0)) fun V23 gv egv h24 kV23 => ?_
 have n25 := nl egv h19
 have n26 := nl egv h20
 have n27 := nk egv K21
 have h28 := Turns.nn h18 kV23
 have h30 := kV23.bk h20
 have kb31 := (Keeps.refl Nob V17).nn kV23
 have K32 := K21.nn kV23
 have z33 := kV23.size
 refine pst 57 gv (Vd.c y) h24 (by rw [Vd.c_size hyo]; kernel_rfl) (vd_sizes (Vd.c_size hyo) (by kernel_rfl)) Vd.c_one fun V34 h35 kV34 => ?_
 have h36 : Turns B w V34 := Turns.no h28 kV34 (by omega)
 have h38 := kV34.bO h30
 have kb39 : Keeps Nob V17 V34 := kb31.nO kV34
 have K40 := K32.nO kV34
 have z41 := kV34.size
 refine kk 1 <| eqr_ nl11_ <| kk 3 <| ppq _ (ldr 57 gv (h35) (by rw [Vd.c_size hyo]; kernel_rfl)) <| kk 1 <| ppq _ (ldr 28 gw (h38) (by rw [Att.c_size _ hr_x]; kernel_rfl)) <| kk 1 <| ppq (.agg (Vd.c (⟨k, x, zPro, f⟩))) (exec_build_fill 57 #[(0, .tmp 23), (1, .tmp 24), (3, .tmp 25)] (by kernel_rfl) [(0, .int .i64 k), (1, .agg (Att.c x)), (3, .int .i64 f)] (by kernel_rfl) _ Tryz.underlying57 (.agg (vdC 0 attZ proZ 0)) (fun _ => by kernel_rfl) PlV (fun _ => by kernel_rfl) _ (fill_vda k f x hr_x)) <| ppq (.bool true) (exec_cast (congrArg Value.bool (decide_eq_true (show (y : Vd) = ⟨k, x, zPro, f⟩ from hyv))) (exec_binop .eql 57 57 (.tmp 22) (.tmp 26) (by kernel_rfl) (.agg (Vd.c y)) (.agg (Vd.c (⟨k, x, zPro, f⟩))) _ (by kernel_rfl) (by kernel_rfl) (run_eqGuard_agg _ _ _ _ _ _ _ vd_guard) (vd_eq _ _ hyo ⟨hr_x, zPro_r⟩ _))) <| kk 2 <| eu_ ?_
 refine so_ (.bool true) ?_
 exact ⟨rfl, (hDV17.keepsN kb39), h36⟩
theorem ltattests_ok (B d : Nat) (p : Par) (h : Int) (A : List Att) (Q : List Pro) (w : World) (hB : B ≤ w.heap.size) (D0 : Det1 B w d p h A Q) (a : Att) (ha : a.Ok) (hr_a : a.r.length = 32) (k f : Int) (x : Att) (hr_x : x.r.length = 32) (hE : attErr p h a = 0) (y : Vd) (hyo : VdOk y) (hy : attVd p h A a = y) (hyv : y = ⟨k, x, zPro, f⟩) (A' : List Att) (hN : attNew p h A a = A') :
  Calls Tryz.prog 28 #[pT d 0, .agg (Att.c a), .int .i64 k, .agg (Att.c x), .int .i64 f] w fun e w' => e = .returned (.bool true) ∧ Det1 B w' d p h A' Q ∧ Turns B w w' :=
 (ltattests_g B d _ (fun w => Det1 B w d p h A' Q) w hB (.of D0) a hr_a k f x hr_x y hyo hyv fun V hV s => (Det1.is_attest s.s hV ha hE hy hN).mono fun _ _ ⟨e, s, t⟩ => ⟨e, .of s, t⟩).mono fun _ _ ⟨e, s, t⟩ => ⟨e, s.s, t⟩
noncomputable def qc115_1 (n : Nat) : Code := partOf Tryz.f10 n
theorem ltrefused_ok (B d : Nat) (p : Par) (h : Int) (A : List Att) (Q : List Pro) (w : World) (hB : B ≤ w.heap.size) (D0 : Det1 B w d p h A Q) (a : Att) (ha : a.Ok) (hr_a : a.r.length = 32) (e0 : Int) (hE : attErr p h a = e0) (h0 : ¬ e0 = 0) :
  Calls Tryz.prog 10 #[pT d 0, .agg (Att.c a)] w (fun e w' => e = .returned (.int .i64 e0) ∧ Det1 B w' d p h A Q ∧ Turns B w w') := by
 have t0 := Turns.refl B w
 have K0 : Keeps ((fun j => B ≤ j)) w w := Keeps.refl _ _
 refine se_ (qc115_1 1) ⟨fr [pT d 0, .agg (Att.c a)] 12, []⟩ Tryz.func10 <| qr_ [0, 1] <| pbx 28 ((Att.c a)) (.agg (Att.c a)) fun V1 ga ega h2 kV1 => ?_
 have n3 := nk ega K0
 have kb4 := (Keeps.refl Nob w).nn kV1
 have h5 := Turns.nn t0 kV1
 have K6 := K0.nn kV1
 have z7 := kV1.size
 refine kk 1 <| eqr_ nl9_ <| kk 1 <| ppq _ (ldr 28 ga (h2) (by rw [Att.c_size _ hr_a]; kernel_rfl)) ?_
 refine pcq 24 #[pT d 0, .agg (Att.c a)] Tryz.func24 ((Det1.is_attest (D0.keepsN kb4) (Nat.le_trans hB K6.size) ha hE (att_no hE h0).1 (att_no hE h0).2).mono ?_)
 rintro e V8 ⟨rfl, hDV8, MV8, hMV8, kV8⟩
 refine ⟨_, rfl, ?_⟩
 have h9 : Turns B w V8 := Turns.trans h5 ⟨MV8, hMV8, kV8⟩
 have h10 : HP V8 ga (Att.c a) 28 := (kV8.block ga (lt_of_block h2) (fun e => hMV8.no h2 e)).trans h2
 have K11 : Keeps ((fun j => B ≤ j)) w V8 := K6.then kV8 (fun i hi hm => Nat.le_of_not_lt (fun h => hMV8.sub i h hm))
 have z12 := kV8.size
 refine kk 3 <| pal 57 (vdC 0 attZ proZ 0) (.agg (vdC 0 attZ proZ 0)) fun V13 gv egv h14 kV13 => ?_
 have n15 := nl egv h10
 have n16 := nk egv K11
 have h17 := Turns.nn h9 kV13
 have kb19 := (Keeps.refl Nob V8).nn kV13
 have K20 := K11.nn kV13
 have z21 := kV13.size
 obtain ⟨V22, eV22, kV22⟩ := rowset_step V13 gv (Vd.c Vd.z)
 refine pzq (w' := V22) (by rw [← eV22]; exact exec_store_row 57 (.tmp 5) (.tmp 11) (by kernel_rfl) gv (Vd.c Vd.z) (by kernel_rfl) (by kernel_rfl) 57 (vdC 0 attZ proZ 0) h14 (by rw [Vd.c_size Vd.z_ok]; kernel_rfl) (vd_sizes (Vd.c_size Vd.z_ok) (by kernel_rfl)) Vd.c_one) ?_
 clear eV22
 have h24 : Turns B w V22 := Turns.no h17 kV22 (by omega)
 have kb26 : Keeps Nob V8 V22 := kb19.nO kV22
 have K27 := K20.nO kV22
 have z28 := kV22.size
 refine kk 1 <| eqr_ [0, 1] <| kk 2 <| eu_ <| so_ (.int .i64 e0) ?_
 exact ⟨rfl, (hDV8.keepsN kb26), h24⟩
noncomputable def qc115_0 (n : Nat) : Code := partOf Tryz.f13 n
theorem ltproposes_g (B d : Nat) (S S' : World → Prop) (w : World) (hB : B ≤ w.heap.size) (D0 : GSt S w) (q : Pro) (hr_q : q.r.length = 32) (k f e0 : Int) (y : Vd) (hyo : VdOk y) (hk : y.k = k) (hf : y.f = f) (hc : ∀ V, B ≤ V.heap.size → GSt S V → Calls Tryz.prog 25 #[pT d 0, .agg (Pro.c q)] V fun e W => e = .returned (.tuple #[.agg (Vd.c y), .int .i64 e0]) ∧ GSt S' W ∧ Turns B V W) :
  Calls Tryz.prog 13 #[pT d 0, .agg (Pro.c q), .int .i64 k, .int .i64 f, .int .i64 e0] w (fun e w' => e = .returned (.bool true) ∧ GSt S' w' ∧ Turns B w w') := by
 have t0 := Turns.refl B w
 have K0 : Keeps ((fun j => B ≤ j)) w w := Keeps.refl _ _
 refine se_ (qc115_0 1) ⟨fr [pT d 0, .agg (Pro.c q), .int .i64 k, .int .i64 f, .int .i64 e0] 29, []⟩ Tryz.func13 <| qr_ [0, 1] <| pbx 37 ((Pro.c q)) (.agg (Pro.c q)) fun V1 gq egq h2 kV1 => ?_
 have n3 := nk egq K0
 have kb4 := (Keeps.refl Nob w).nn kV1
 have h5 := Turns.nn t0 kV1
 have K6 := K0.nn kV1
 have z7 := kV1.size
 refine kk 1 <| eqr_ nl9_ <| kk 1 <| ppq _ (ldr 37 gq (h2) (by rw [Pro.c_size _ hr_q]; kernel_rfl)) ?_
 refine pcq 25 #[pT d 0, .agg (Pro.c q)] Tryz.func25 ((hc _ (Nat.le_trans hB K6.size) (D0.keepsN kb4)).mono ?_)
 rintro e V8 ⟨rfl, hDV8, MV8, hMV8, kV8⟩
 refine ⟨_, rfl, ?_⟩
 have h9 : Turns B w V8 := Turns.trans h5 ⟨MV8, hMV8, kV8⟩
 have h10 : HP V8 gq (Pro.c q) 37 := (kV8.block gq (lt_of_block h2) (fun e => hMV8.no h2 e)).trans h2
 have K11 : Keeps ((fun j => B ≤ j)) w V8 := K6.then kV8 (fun i hi hm => Nat.le_of_not_lt (fun h => hMV8.sub i h hm))
 have z12 := kV8.size
 refine kk 3 <| pal 57 (vdC 0 attZ proZ 0) (.agg (vdC 0 attZ proZ 0)) fun V13 gv egv h14 kV13 => ?_
 have n15 := nl egv h10
 have n16 := nk egv K11
 have h17 := Turns.nn h9 kV13
 have kb19 := (Keeps.refl Nob V8).nn kV13
 have K20 := K11.nn kV13
 have z21 := kV13.size
 refine pst 57 gv (Vd.c y) h14 (by rw [Vd.c_size hyo]; kernel_rfl) (vd_sizes (Vd.c_size hyo) (by kernel_rfl)) Vd.c_one fun V22 h23 kV22 => ?_
 have h24 : Turns B w V22 := Turns.no h17 kV22 (by omega)
 have kb26 : Keeps Nob V8 V22 := kb19.nO kV22
 have K27 := K20.nO kV22
 have z28 := kV22.size
 refine kk 1 <| eqr_ nl16_ <| kk 2 <| ppq (.bool true) (cbo (show ((((e0) : Int) == ((e0) : Int))) = true from by simp)) <| kk 2 <| ppq (.int .i64 y.k) (lc (h23) (rfl) (k := 0)) <| kk 1 <| ppq (.bool true) (cbo (show ((((y.k) : Int) == ((k) : Int))) = true from by rw [hk]; simp)) <| kk 3 <| ppq _ (lc (h23) (vdC_first (Att.tl hyo.a) (Pro.tl hyo.b))) ?_
 refine kk 1 <| ppq (.bool true) (cbo (show ((((y.f) : Int) == ((f) : Int))) = true from by rw [hf]; simp)) <| kk 2 <| ps_end <| then_n <| u_ <| so_ (.bool true) ?_
 exact ⟨rfl, (hDV8.keepsN kb26), h24⟩
theorem ltproposes_ok (B d : Nat) (p : Par) (h : Int) (A : List Att) (Q : List Pro) (w : World) (hB : B ≤ w.heap.size) (D0 : Det1 B w d p h A Q) (q : Pro) (hq : q.Ok) (hr_q : q.r.length = 32) (k f e0 : Int) (hE : proErr p h q = e0) (y : Vd) (hyo : VdOk y) (hy : proVd p h Q q = y) (hk : y.k = k) (hf : y.f = f) (Q' : List Pro) (hN : proNew p h Q q = Q') :
  Calls Tryz.prog 13 #[pT d 0, .agg (Pro.c q), .int .i64 k, .int .i64 f, .int .i64 e0] w fun e w' => e = .returned (.bool true) ∧ Det1 B w' d p h A Q' ∧ Turns B w w' :=
 (ltproposes_g B d _ (fun w => Det1 B w d p h A Q') w hB (.of D0) q hr_q k f e0 y hyo hk hf fun V hV s => (Det1.is_propose s.s hV hq hE hy hN).mono fun _ _ ⟨e, s, t⟩ => ⟨e, .of s, t⟩).mono fun _ _ ⟨e, s, t⟩ => ⟨e, s.s, t⟩
end
section
open Go Go.RowKit Go.Own Go.Shelf
theorem lallsame_step {α : Type} [DecidableEq α] {l m : List α} (hl : l.length = m.length) {k : Nat} {x y : α} (hx : l[k]? = some x) (hy : m[k]? = some y) (h : l.take k = m.take k) : (l.take (k + 1) = m.take (k + 1)) ↔ x = y := by
 rw [List.take_add_one, List.take_add_one, hx, hy, h]
 constructor
 ·intro h2; have := List.append_cancel_left h2; simpa using this
 ·intro h2; rw [h2]
noncomputable def qc116_1 (n : Nat) : Code := partOf Tryz.f18 n
noncomputable abbrev qo116_1 (n k : Nat) : Oper := (opsAt (qc116_1 n)).getD k default
theorem ltsameVotes_len (va vb : Value) (l m : List Att) (w : World) (Ha : AttsAt w va l) (Hb : AttsAt w vb m) (oka : ∀ x ∈ l, x.Ok) (okb : ∀ x ∈ m, x.Ok) (hne : l.length ≠ m.length) :
  Calls Tryz.prog 18 #[va, vb] w (fun e w' => e = .returned (.bool (false)) ∧ Keeps Nob w w') := by
 have hll := Ha.len_le
 have hml := Hb.len_le
 have K0 : Keeps Nob w w := Keeps.refl _ _
 refine se_ (qc116_1 1) ⟨fr [va, vb] 29, []⟩ Tryz.func18 <| qr_ [0] <| kk 1 <| eqr_ nl6_ <| kk 1 <| ppq (iN l.length) (exec_len_sl (.tmp 7) 32 28 (by kernel_rfl) Tryz.underlying32 (by kernel_rfl) Ha) <| kk 1 <| ppq (iN m.length) (exec_len_sl (.tmp 9) 32 28 (by kernel_rfl) Tryz.underlying32 (by kernel_rfl) Hb) <| ppq _ (eqf (((l.length : Nat) : Int)) (((m.length : Nat) : Int)) (by omega)) <| kk 1 <| eq_ <| qr_ [0] <| kk 1 <| et_ ?_
 refine bl_ 0 <| sy_rounds 1 (qc116_1 116) (by kernel_rfl) <| rd_step <| q_ <| qr_ nl7_ <| kk 7 <| en_ <| sy_exit 0 (by kernel_rfl) ?_
 refine then_e <| then_e <| blk_e <| tqr_ [0, 1] <| kk 2 <| eu_ <| so_ (.bool false) ?_
 exact ⟨rfl, K0⟩
theorem lsame_cases (l m : List Att) (k : Nat) (bb : Bool) (hlen : l.length = m.length) (hk : k ≤ l.length) (hb : bb = decide (l.take k = m.take k)) :
  (bb = true ∧ k < l.length ∧ ∀ x y, l[k]? = some x → m[k]? = some y → x = y) ∨ (bb = true ∧ k < l.length ∧ ∀ x y, l[k]? = some x → m[k]? = some y → x ≠ y) ∨ (bb = true ∧ k = l.length ∧ l = m) ∨ (bb = false ∧ l ≠ m) := by
 cases bb with
 | false => exact .inr (.inr (.inr ⟨rfl, fun e => by subst e; simp at hb⟩))
 | true =>
  have ht : l.take k = m.take k := of_decide_eq_true hb.symm
  by_cases hlt : k < l.length
  ·by_cases h : l[k]? = m[k]?
   ·exact .inl ⟨rfl, hlt, fun x y hx hy => by rw [hx, hy] at h; exact Option.some.inj h⟩
   ·exact .inr (.inl ⟨rfl, hlt, fun x y hx hy e => h (by rw [hx, hy, e])⟩)
  ·have hk2 : k = l.length := by omega
   refine .inr (.inr (.inl ⟨rfl, hk2, ?_⟩))
   rwa [List.take_of_length_le (by omega), List.take_of_length_le (by omega)] at ht
theorem ltsameVotes_eq (va vb : Value) (l m : List Att) (w : World) (Ha : AttsAt w va l) (Hb : AttsAt w vb m) (oka : ∀ x ∈ l, x.Ok) (okb : ∀ x ∈ m, x.Ok) (hlen : l.length = m.length) :
  Calls Tryz.prog 18 #[va, vb] w (fun e w' => e = .returned (.bool (decide (l = m))) ∧ Keeps Nob w w') := by
 have hll := Ha.len_le
 have hml := Hb.len_le
 have K0 : Keeps Nob w w := Keeps.refl _ _
 refine se_ (qc116_1 1) ⟨fr [va, vb] 29, []⟩ Tryz.func18 <| qr_ [0] <| kk 1 <| eqr_ nl6_ <| kk 1 <| ppq (iN l.length) (exec_len_sl (.tmp 7) 32 28 (by kernel_rfl) Tryz.underlying32 (by kernel_rfl) Ha) <| kk 1 <| ppq (iN m.length) (exec_len_sl (.tmp 9) 32 28 (by kernel_rfl) Tryz.underlying32 (by kernel_rfl) Hb) <| ppq _ (eqt (((l.length : Nat) : Int)) (((m.length : Nat) : Int)) (by omega)) <| kk 1 <| eq_ <| qr_ [0] <| kk 1 <| et_ ?_
 refine bl_ 0 ?_
 refine sy_loop (qc116_1 116) (fun a V => ∃ (k : Nat) (bb : Bool) (u12 u13 u14 u15 u16 u17 u18 u19 u20 u21 u22 u23 u24 u25 u26 u27 u28 u29 : Value), (a = ⟨#[va, vb, ud, ud, .bool false, .bool bb, iN k, va, iN l.length, vb, iN m.length, .bool true, u12, u13, u14, u15, u16, u17, u18, u19, u20, u21, u22, u23, u24, u25, u26, u27, u28, u29, ud], []⟩) ∧ (k ≤ l.length) ∧ (bb = decide (l.take k = m.take k)) ∧ (AttsAt V va l) ∧ (AttsAt V vb m) ∧ (Keeps Nob w V)) (fun a _ => l.length - (intOf (a.tmps.getD 6 undef)).toNat) (by kernel_rfl) ?_ ?_
 ·exact ⟨0, true, undef, undef, undef, undef, undef, undef, undef, undef, undef, undef, undef, undef, undef, undef, undef, undef, undef, undef, by kernel_rfl, Nat.zero_le _, rfl, Ha, Hb, K0⟩
 ·rintro a V1 ⟨k, bb, u12, u13, u14, u15, u16, u17, u18, u19, u20, u21, u22, u23, u24, u25, u26, u27, u28, u29, rfl, hk, hb, h2, h3, K4⟩
  rcases lsame_cases l m k bb hlen hk hb with ⟨rfl, hlt, hx0⟩ | ⟨rfl, hlt, hx0⟩ | ⟨rfl, heq, ht⟩ | ⟨rfl, hf⟩
  ·obtain ⟨x, hx⟩ : ∃ x, l[k]? = some x := ⟨_, List.getElem?_eq_getElem hlt⟩
   obtain ⟨y, hy⟩ : ∃ y, m[k]? = some y := ⟨_, List.getElem?_eq_getElem (by omega)⟩
   obtain ⟨b_a, o_a, c_a, hv_a, hb_a, _⟩ := (h2).at_ k _ hx
   obtain ⟨b_b, o_b, c_b, hv_b, hb_b, _⟩ := (h3).at_ k _ hy
   skip
   have hxy := hx0 x y hx hy
   refine q_ <| qr_ nl7_ <| kk 4 <| ppq (iN l.length) (exec_len_sl (.tmp 15) 32 28 (by kernel_rfl) Tryz.underlying32 (by kernel_rfl) h2) <| ppq _ (dct ((((k : Nat) : Int)) < (((l.length : Nat) : Int))) (by omega)) <| kk 1 <| ey_ <| s_ <| tq_ <| bl_ 1 <| sy_reg ?_
   refine rgs 9 (zo9_ (qo116_1 932)) [qo116_1 932 9] ?_
   obtain ⟨V6, eV6, kV6⟩ := drew_step V1
   rw [eV6]
   clear eV6
   have h7 : AttsAt V6 va l := h2.keepsN kV6
   have h8 : AttsAt V6 vb m := h3.keepsN kV6
   have K9 := K4.nn kV6
   refine ks 2 <| spq _ (ixs b_a o_a l.length c_a .i64 k 36 Tryz.underlying32 (by omega) (hx := Eq.trans (b := va) (by kernel_rfl) hv_a)) <| spq (.agg (Att.c x)) (exec_load_mid 28 (.tmp 23) (by kernel_rfl) b_a (o_a + k * 36) (by kernel_rfl) (Att.cl x) _ (Sl.range h7 hx hv_a) Tryz.underlying28 rfl (by rw [Att.cl_len (oka x (List.mem_of_getElem? hx))]; kernel_rfl)) <| ks 2 <| spq _ (ixs b_b o_b m.length c_b .i64 k 36 Tryz.underlying32 (by omega) (hx := Eq.trans (b := vb) (by kernel_rfl) hv_b)) <| spq (.agg (Att.c y)) (exec_load_mid 28 (.tmp 27) (by kernel_rfl) b_b (o_b + k * 36) (by kernel_rfl) (Att.cl y) _ (Sl.range h8 hy hv_b) Tryz.underlying28 rfl (by rw [Att.cl_len (okb y (List.mem_of_getElem? hy))]; kernel_rfl)) <| spq (.bool true) (exec_cast (congrArg Value.bool (decide_eq_true hxy)) (exec_binop .eql 28 28 (.tmp 24) (.tmp 28) (by kernel_rfl) (.agg (Att.c x)) (.agg (Att.c y)) _ (by kernel_rfl) (by kernel_rfl) (run_eqGuard_agg _ _ _ _ _ _ _ att_guard) (att_eq _ _ (oka x (List.mem_of_getElem? hx)).r (okb y (List.mem_of_getElem? hy)).r _))) <| st_end <| ls_run (qo116_1 932 9) (.bool true) (w' := V6) (by kernel_rfl) (by kernel_rfl) <| ls_end <| blk_n <| tr_ [0, 1, 2] ?_
   refine kk 1 <| ppq _ (cwN (n := k + 1)) <| kk 1 <| et_ ?_
   refine ⟨⟨k + 1, true, (.bool true), (.bool true), (iN k), va, (iN l.length), (.bool true), (.bool true), (iN k), (iN (k + 1)), va, (iN k), (pT b_a (o_a + k * 36)), (.agg (Att.c x)), vb, (iN k), (pT b_b (o_b + k * 36)), (.agg (Att.c y)), (.bool true), by kernel_rfl, by omega, (by first | exact (decide_eq_true ((lallsame_step hlen hx hy (of_decide_eq_true hb.symm)).2 hxy)).symm | exact (decide_eq_false (fun h => hxy ((lallsame_step hlen hx hy (of_decide_eq_true hb.symm)).1 h))).symm), h7, h8, K9⟩, ?_⟩
   exact lt_meas (x := l.length - (k + 1)) (y := l.length - k) (by kernel_rfl) (by kernel_rfl) (by omega)
  ·obtain ⟨x, hx⟩ : ∃ x, l[k]? = some x := ⟨_, List.getElem?_eq_getElem hlt⟩
   obtain ⟨y, hy⟩ : ∃ y, m[k]? = some y := ⟨_, List.getElem?_eq_getElem (by omega)⟩
   obtain ⟨b_a, o_a, c_a, hv_a, hb_a, _⟩ := (h2).at_ k _ hx
   obtain ⟨b_b, o_b, c_b, hv_b, hb_b, _⟩ := (h3).at_ k _ hy
   skip
   have hxy := hx0 x y hx hy
   refine q_ <| qr_ nl7_ <| kk 4 <| ppq (iN l.length) (exec_len_sl (.tmp 15) 32 28 (by kernel_rfl) Tryz.underlying32 (by kernel_rfl) h2) <| ppq _ (dct ((((k : Nat) : Int)) < (((l.length : Nat) : Int))) (by omega)) <| kk 1 <| ey_ <| s_ <| tq_ <| bl_ 1 <| sy_reg ?_
   refine rgs 9 (zo9_ (qo116_1 932)) [qo116_1 932 9] ?_
   obtain ⟨V11, eV11, kV11⟩ := drew_step V1
   rw [eV11]
   clear eV11
   have h12 : AttsAt V11 va l := h2.keepsN kV11
   have h13 : AttsAt V11 vb m := h3.keepsN kV11
   have K14 := K4.nn kV11
   refine ks 2 <| spq _ (ixs b_a o_a l.length c_a .i64 k 36 Tryz.underlying32 (by omega) (hx := Eq.trans (b := va) (by kernel_rfl) hv_a)) <| spq (.agg (Att.c x)) (exec_load_mid 28 (.tmp 23) (by kernel_rfl) b_a (o_a + k * 36) (by kernel_rfl) (Att.cl x) _ (Sl.range h12 hx hv_a) Tryz.underlying28 rfl (by rw [Att.cl_len (oka x (List.mem_of_getElem? hx))]; kernel_rfl)) <| ks 2 <| spq _ (ixs b_b o_b m.length c_b .i64 k 36 Tryz.underlying32 (by omega) (hx := Eq.trans (b := vb) (by kernel_rfl) hv_b)) <| spq (.agg (Att.c y)) (exec_load_mid 28 (.tmp 27) (by kernel_rfl) b_b (o_b + k * 36) (by kernel_rfl) (Att.cl y) _ (Sl.range h13 hy hv_b) Tryz.underlying28 rfl (by rw [Att.cl_len (okb y (List.mem_of_getElem? hy))]; kernel_rfl)) <| spq (.bool false) (exec_cast (congrArg Value.bool (decide_eq_false hxy)) (exec_binop .eql 28 28 (.tmp 24) (.tmp 28) (by kernel_rfl) (.agg (Att.c x)) (.agg (Att.c y)) _ (by kernel_rfl) (by kernel_rfl) (run_eqGuard_agg _ _ _ _ _ _ _ att_guard) (att_eq _ _ (oka x (List.mem_of_getElem? hx)).r (okb y (List.mem_of_getElem? hy)).r _))) <| st_end <| ls_run (qo116_1 932 9) (.bool false) (w' := V11) (by kernel_rfl) (by kernel_rfl) <| ls_end <| blk_n <| tr_ [0, 1, 2] ?_
   refine kk 1 <| ppq _ (cwN (n := k + 1)) <| kk 1 <| et_ ?_
   refine ⟨⟨k + 1, false, (.bool true), (.bool true), (iN k), va, (iN l.length), (.bool true), (.bool true), (iN k), (iN (k + 1)), va, (iN k), (pT b_a (o_a + k * 36)), (.agg (Att.c x)), vb, (iN k), (pT b_b (o_b + k * 36)), (.agg (Att.c y)), (.bool false), by kernel_rfl, by omega, (by first | exact (decide_eq_true ((lallsame_step hlen hx hy (of_decide_eq_true hb.symm)).2 hxy)).symm | exact (decide_eq_false (fun h => hxy ((lallsame_step hlen hx hy (of_decide_eq_true hb.symm)).1 h))).symm), h12, h13, K14⟩, ?_⟩
   exact lt_meas (x := l.length - (k + 1)) (y := l.length - k) (by kernel_rfl) (by kernel_rfl) (by omega)
  ·skip
   refine q_ <| qr_ nl7_ <| kk 4 <| ppq (iN l.length) (exec_len_sl (.tmp 15) 32 28 (by kernel_rfl) Tryz.underlying32 (by kernel_rfl) h2) <| ppq _ (dcf ((((k : Nat) : Int)) < (((l.length : Nat) : Int))) (by omega)) <| kk 1 <| en_ <| sy_exit 0 (by kernel_rfl) <| then_e <| then_e <| blk_e ?_
   refine tqr_ [0, 1] <| kk 2 <| eu_ <| so_ (.bool true) ?_
   exact ⟨by first | (rw [decide_eq_true (by first | exact ht | exact hf)]) | (rw [decide_eq_false (by first | exact ht | exact hf)]), K4⟩
  ·skip
   refine q_ <| qr_ nl7_ <| kk 7 <| en_ <| sy_exit 0 (by kernel_rfl) <| then_e <| then_e <| blk_e ?_
   refine tqr_ [0, 1] <| kk 2 <| eu_ <| so_ (.bool false) ?_
   exact ⟨by first | (rw [decide_eq_true (by first | exact ht | exact hf)]) | (rw [decide_eq_false (by first | exact ht | exact hf)]), K4⟩
theorem ltsameVotes_ok (va vb : Value) (l m : List Att) (w : World) (Ha : AttsAt w va l) (Hb : AttsAt w vb m) (oka : ∀ x ∈ l, x.Ok) (okb : ∀ x ∈ m, x.Ok) : Calls Tryz.prog 18 #[va, vb] w fun e w' => e = .returned (.bool (decide (l = m))) ∧ Keeps Nob w w' := by
 by_cases h : l.length = m.length
 ·exact ltsameVotes_eq va vb l m w Ha Hb oka okb h
 ·rw [decide_eq_false (fun e => h (by rw [e]))]; exact ltsameVotes_len va vb l m w Ha Hb oka okb h
noncomputable def qc116_0 (n : Nat) : Code := partOf Tryz.f15 n
noncomputable abbrev qo116_0 (n k : Nat) : Oper := (opsAt (qc116_0 n)).getD k default
theorem ltsameBlocks_len (va vb : Value) (l m : List Pro) (w : World) (Ha : ProsAt w va l) (Hb : ProsAt w vb m) (oka : ∀ x ∈ l, x.Ok) (okb : ∀ x ∈ m, x.Ok) (hne : l.length ≠ m.length) :
  Calls Tryz.prog 15 #[va, vb] w (fun e w' => e = .returned (.bool (false)) ∧ Keeps Nob w w') := by
 have hll := Ha.len_le
 have hml := Hb.len_le
 have K0 : Keeps Nob w w := Keeps.refl _ _
 refine se_ (qc116_0 1) ⟨fr [va, vb] 29, []⟩ Tryz.func15 <| qr_ [0] <| kk 1 <| eqr_ nl6_ <| kk 1 <| ppq (iN l.length) (exec_len_sl (.tmp 7) 40 37 (by kernel_rfl) Tryz.underlying40 (by kernel_rfl) Ha) <| kk 1 <| ppq (iN m.length) (exec_len_sl (.tmp 9) 40 37 (by kernel_rfl) Tryz.underlying40 (by kernel_rfl) Hb) <| ppq _ (eqf (((l.length : Nat) : Int)) (((m.length : Nat) : Int)) (by omega)) <| kk 1 <| eq_ <| qr_ [0] <| kk 1 <| et_ ?_
 refine bl_ 0 <| sy_rounds 1 (qc116_0 116) (by kernel_rfl) <| rd_step <| q_ <| qr_ nl7_ <| kk 7 <| en_ <| sy_exit 0 (by kernel_rfl) ?_
 refine then_e <| then_e <| blk_e <| tqr_ [0, 1] <| kk 2 <| eu_ <| so_ (.bool false) ?_
 exact ⟨rfl, K0⟩
theorem lsame_casesB (l m : List Pro) (k : Nat) (bb : Bool) (hlen : l.length = m.length) (hk : k ≤ l.length) (hb : bb = decide (l.take k = m.take k)) :
  (bb = true ∧ k < l.length ∧ ∀ x y, l[k]? = some x → m[k]? = some y → x = y) ∨ (bb = true ∧ k < l.length ∧ ∀ x y, l[k]? = some x → m[k]? = some y → x ≠ y) ∨ (bb = true ∧ k = l.length ∧ l = m) ∨ (bb = false ∧ l ≠ m) := by
 cases bb with
 | false => exact .inr (.inr (.inr ⟨rfl, fun e => by subst e; simp at hb⟩))
 | true =>
  have ht : l.take k = m.take k := of_decide_eq_true hb.symm
  by_cases hlt : k < l.length
  ·by_cases h : l[k]? = m[k]?
   ·exact .inl ⟨rfl, hlt, fun x y hx hy => by rw [hx, hy] at h; exact Option.some.inj h⟩
   ·exact .inr (.inl ⟨rfl, hlt, fun x y hx hy e => h (by rw [hx, hy, e])⟩)
  ·have hk2 : k = l.length := by omega
   refine .inr (.inr (.inl ⟨rfl, hk2, ?_⟩))
   rwa [List.take_of_length_le (by omega), List.take_of_length_le (by omega)] at ht
theorem ltsameBlocks_eq (va vb : Value) (l m : List Pro) (w : World) (Ha : ProsAt w va l) (Hb : ProsAt w vb m) (oka : ∀ x ∈ l, x.Ok) (okb : ∀ x ∈ m, x.Ok) (hlen : l.length = m.length) :
  Calls Tryz.prog 15 #[va, vb] w (fun e w' => e = .returned (.bool (decide (l = m))) ∧ Keeps Nob w w') := by
 have hll := Ha.len_le
 have hml := Hb.len_le
 have K0 : Keeps Nob w w := Keeps.refl _ _
 refine se_ (qc116_0 1) ⟨fr [va, vb] 29, []⟩ Tryz.func15 <| qr_ [0] <| kk 1 <| eqr_ nl6_ <| kk 1 <| ppq (iN l.length) (exec_len_sl (.tmp 7) 40 37 (by kernel_rfl) Tryz.underlying40 (by kernel_rfl) Ha) <| kk 1 <| ppq (iN m.length) (exec_len_sl (.tmp 9) 40 37 (by kernel_rfl) Tryz.underlying40 (by kernel_rfl) Hb) <| ppq _ (eqt (((l.length : Nat) : Int)) (((m.length : Nat) : Int)) (by omega)) <| kk 1 <| eq_ <| qr_ [0] <| kk 1 <| et_ ?_
 refine bl_ 0 ?_
 refine sy_loop (qc116_0 116) (fun a V => ∃ (k : Nat) (bb : Bool) (u12 u13 u14 u15 u16 u17 u18 u19 u20 u21 u22 u23 u24 u25 u26 u27 u28 u29 : Value), (a = ⟨#[va, vb, ud, ud, .bool false, .bool bb, iN k, va, iN l.length, vb, iN m.length, .bool true, u12, u13, u14, u15, u16, u17, u18, u19, u20, u21, u22, u23, u24, u25, u26, u27, u28, u29, ud], []⟩) ∧ (k ≤ l.length) ∧ (bb = decide (l.take k = m.take k)) ∧ (ProsAt V va l) ∧ (ProsAt V vb m) ∧ (Keeps Nob w V)) (fun a _ => l.length - (intOf (a.tmps.getD 6 undef)).toNat) (by kernel_rfl) ?_ ?_
 ·exact ⟨0, true, undef, undef, undef, undef, undef, undef, undef, undef, undef, undef, undef, undef, undef, undef, undef, undef, undef, undef, by kernel_rfl, Nat.zero_le _, rfl, Ha, Hb, K0⟩
 ·rintro a V1 ⟨k, bb, u12, u13, u14, u15, u16, u17, u18, u19, u20, u21, u22, u23, u24, u25, u26, u27, u28, u29, rfl, hk, hb, h2, h3, K4⟩
  rcases lsame_casesB l m k bb hlen hk hb with ⟨rfl, hlt, hx0⟩ | ⟨rfl, hlt, hx0⟩ | ⟨rfl, heq, ht⟩ | ⟨rfl, hf⟩
  ·obtain ⟨x, hx⟩ : ∃ x, l[k]? = some x := ⟨_, List.getElem?_eq_getElem hlt⟩
   obtain ⟨y, hy⟩ : ∃ y, m[k]? = some y := ⟨_, List.getElem?_eq_getElem (by omega)⟩
   obtain ⟨b_a, o_a, c_a, hv_a, hb_a, _⟩ := (h2).at_ k _ hx
   obtain ⟨b_b, o_b, c_b, hv_b, hb_b, _⟩ := (h3).at_ k _ hy
   skip
   have hxy := hx0 x y hx hy
   refine q_ <| qr_ nl7_ <| kk 4 <| ppq (iN l.length) (exec_len_sl (.tmp 15) 40 37 (by kernel_rfl) Tryz.underlying40 (by kernel_rfl) h2) <| ppq _ (dct ((((k : Nat) : Int)) < (((l.length : Nat) : Int))) (by omega)) <| kk 1 <| ey_ <| s_ <| tq_ <| bl_ 1 <| sy_reg ?_
   refine rgs 9 (zo9_ (qo116_0 932)) [qo116_0 932 9] ?_
   obtain ⟨V6, eV6, kV6⟩ := drew_step V1
   rw [eV6]
   clear eV6
   have h7 : ProsAt V6 va l := h2.keepsN kV6
   have h8 : ProsAt V6 vb m := h3.keepsN kV6
   have K9 := K4.nn kV6
   refine ks 2 <| spq _ (ixs b_a o_a l.length c_a .i64 k 35 Tryz.underlying40 (by omega) (hx := Eq.trans (b := va) (by kernel_rfl) hv_a)) <| spq (.agg (Pro.c x)) (exec_load_mid 37 (.tmp 23) (by kernel_rfl) b_a (o_a + k * 35) (by kernel_rfl) (Pro.cl x) _ (Sl.range h7 hx hv_a) Tryz.underlying37 rfl (by rw [Pro.cl_len (oka x (List.mem_of_getElem? hx))]; kernel_rfl)) <| ks 2 <| spq _ (ixs b_b o_b m.length c_b .i64 k 35 Tryz.underlying40 (by omega) (hx := Eq.trans (b := vb) (by kernel_rfl) hv_b)) <| spq (.agg (Pro.c y)) (exec_load_mid 37 (.tmp 27) (by kernel_rfl) b_b (o_b + k * 35) (by kernel_rfl) (Pro.cl y) _ (Sl.range h8 hy hv_b) Tryz.underlying37 rfl (by rw [Pro.cl_len (okb y (List.mem_of_getElem? hy))]; kernel_rfl)) <| spq (.bool true) (exec_cast (congrArg Value.bool (decide_eq_true hxy)) (exec_binop .eql 37 37 (.tmp 24) (.tmp 28) (by kernel_rfl) (.agg (Pro.c x)) (.agg (Pro.c y)) _ (by kernel_rfl) (by kernel_rfl) (run_eqGuard_agg _ _ _ _ _ _ _ pro_guard) (pro_eq _ _ (oka x (List.mem_of_getElem? hx)).r (okb y (List.mem_of_getElem? hy)).r _))) <| st_end <| ls_run (qo116_0 932 9) (.bool true) (w' := V6) (by kernel_rfl) (by kernel_rfl) <| ls_end <| blk_n <| tr_ [0, 1, 2] ?_
   refine kk 1 <| ppq _ (cwN (n := k + 1)) <| kk 1 <| et_ ?_
   refine ⟨⟨k + 1, true, (.bool true), (.bool true), (iN k), va, (iN l.length), (.bool true), (.bool true), (iN k), (iN (k + 1)), va, (iN k), (pT b_a (o_a + k * 35)), (.agg (Pro.c x)), vb, (iN k), (pT b_b (o_b + k * 35)), (.agg (Pro.c y)), (.bool true), by kernel_rfl, by omega, (by first | exact (decide_eq_true ((lallsame_step hlen hx hy (of_decide_eq_true hb.symm)).2 hxy)).symm | exact (decide_eq_false (fun h => hxy ((lallsame_step hlen hx hy (of_decide_eq_true hb.symm)).1 h))).symm), h7, h8, K9⟩, ?_⟩
   exact lt_meas (x := l.length - (k + 1)) (y := l.length - k) (by kernel_rfl) (by kernel_rfl) (by omega)
  ·obtain ⟨x, hx⟩ : ∃ x, l[k]? = some x := ⟨_, List.getElem?_eq_getElem hlt⟩
   obtain ⟨y, hy⟩ : ∃ y, m[k]? = some y := ⟨_, List.getElem?_eq_getElem (by omega)⟩
   obtain ⟨b_a, o_a, c_a, hv_a, hb_a, _⟩ := (h2).at_ k _ hx
   obtain ⟨b_b, o_b, c_b, hv_b, hb_b, _⟩ := (h3).at_ k _ hy
   skip
   have hxy := hx0 x y hx hy
   refine q_ <| qr_ nl7_ <| kk 4 <| ppq (iN l.length) (exec_len_sl (.tmp 15) 40 37 (by kernel_rfl) Tryz.underlying40 (by kernel_rfl) h2) <| ppq _ (dct ((((k : Nat) : Int)) < (((l.length : Nat) : Int))) (by omega)) <| kk 1 <| ey_ <| s_ <| tq_ <| bl_ 1 <| sy_reg ?_
   refine rgs 9 (zo9_ (qo116_0 932)) [qo116_0 932 9] ?_
   obtain ⟨V11, eV11, kV11⟩ := drew_step V1
   rw [eV11]
   clear eV11
   have h12 : ProsAt V11 va l := h2.keepsN kV11
   have h13 : ProsAt V11 vb m := h3.keepsN kV11
   have K14 := K4.nn kV11
   refine ks 2 <| spq _ (ixs b_a o_a l.length c_a .i64 k 35 Tryz.underlying40 (by omega) (hx := Eq.trans (b := va) (by kernel_rfl) hv_a)) <| spq (.agg (Pro.c x)) (exec_load_mid 37 (.tmp 23) (by kernel_rfl) b_a (o_a + k * 35) (by kernel_rfl) (Pro.cl x) _ (Sl.range h12 hx hv_a) Tryz.underlying37 rfl (by rw [Pro.cl_len (oka x (List.mem_of_getElem? hx))]; kernel_rfl)) <| ks 2 <| spq _ (ixs b_b o_b m.length c_b .i64 k 35 Tryz.underlying40 (by omega) (hx := Eq.trans (b := vb) (by kernel_rfl) hv_b)) <| spq (.agg (Pro.c y)) (exec_load_mid 37 (.tmp 27) (by kernel_rfl) b_b (o_b + k * 35) (by kernel_rfl) (Pro.cl y) _ (Sl.range h13 hy hv_b) Tryz.underlying37 rfl (by rw [Pro.cl_len (okb y (List.mem_of_getElem? hy))]; kernel_rfl)) <| spq (.bool false) (exec_cast (congrArg Value.bool (decide_eq_false hxy)) (exec_binop .eql 37 37 (.tmp 24) (.tmp 28) (by kernel_rfl) (.agg (Pro.c x)) (.agg (Pro.c y)) _ (by kernel_rfl) (by kernel_rfl) (run_eqGuard_agg _ _ _ _ _ _ _ pro_guard) (pro_eq _ _ (oka x (List.mem_of_getElem? hx)).r (okb y (List.mem_of_getElem? hy)).r _))) <| st_end <| ls_run (qo116_0 932 9) (.bool false) (w' := V11) (by kernel_rfl) (by kernel_rfl) <| ls_end <| blk_n <| tr_ [0, 1, 2] ?_
   refine kk 1 <| ppq _ (cwN (n := k + 1)) <| kk 1 <| et_ ?_
   refine ⟨⟨k + 1, false, (.bool true), (.bool true), (iN k), va, (iN l.length), (.bool true), (.bool true), (iN k), (iN (k + 1)), va, (iN k), (pT b_a (o_a + k * 35)), (.agg (Pro.c x)), vb, (iN k), (pT b_b (o_b + k * 35)), (.agg (Pro.c y)), (.bool false), by kernel_rfl, by omega, (by first | exact (decide_eq_true ((lallsame_step hlen hx hy (of_decide_eq_true hb.symm)).2 hxy)).symm | exact (decide_eq_false (fun h => hxy ((lallsame_step hlen hx hy (of_decide_eq_true hb.symm)).1 h))).symm), h12, h13, K14⟩, ?_⟩
   exact lt_meas (x := l.length - (k + 1)) (y := l.length - k) (by kernel_rfl) (by kernel_rfl) (by omega)
  ·skip
   refine q_ <| qr_ nl7_ <| kk 4 <| ppq (iN l.length) (exec_len_sl (.tmp 15) 40 37 (by kernel_rfl) Tryz.underlying40 (by kernel_rfl) h2) <| ppq _ (dcf ((((k : Nat) : Int)) < (((l.length : Nat) : Int))) (by omega)) <| kk 1 <| en_ <| sy_exit 0 (by kernel_rfl) <| then_e <| then_e <| blk_e ?_
   refine tqr_ [0, 1] <| kk 2 <| eu_ <| so_ (.bool true) ?_
   exact ⟨by first | (rw [decide_eq_true (by first | exact ht | exact hf)]) | (rw [decide_eq_false (by first | exact ht | exact hf)]), K4⟩
  ·skip
   refine q_ <| qr_ nl7_ <| kk 7 <| en_ <| sy_exit 0 (by kernel_rfl) <| then_e <| then_e <| blk_e ?_
   refine tqr_ [0, 1] <| kk 2 <| eu_ <| so_ (.bool false) ?_
   exact ⟨by first | (rw [decide_eq_true (by first | exact ht | exact hf)]) | (rw [decide_eq_false (by first | exact ht | exact hf)]), K4⟩
theorem ltsameBlocks_ok (va vb : Value) (l m : List Pro) (w : World) (Ha : ProsAt w va l) (Hb : ProsAt w vb m) (oka : ∀ x ∈ l, x.Ok) (okb : ∀ x ∈ m, x.Ok) : Calls Tryz.prog 15 #[va, vb] w fun e w' => e = .returned (.bool (decide (l = m))) ∧ Keeps Nob w w' := by
 by_cases h : l.length = m.length
 ·exact ltsameBlocks_eq va vb l m w Ha Hb oka okb h
 ·rw [decide_eq_false (fun e => h (by rw [e]))]; exact ltsameBlocks_len va vb l m w Ha Hb oka okb h
end
end Go.Proofs.YthmclmbeflbhhaaGreat
namespace Go.Kec
section
def frc {α : Type} (x : Nat) (k : Nat → α) : α := Nat.rec (k 0) (fun n _ => k (Nat.succ n)) x
theorem frc_eq {α : Type} (x : Nat) (k : Nat → α) : frc x k = k x := by cases x <;> rfl
def frcL {α : Type} : List Nat → (List Nat → α) → α
  | [], k => k []
  | x :: r, k => frc x fun y => frcL r fun s => k (y :: s)
theorem frcL_eq {α : Type} (l : List Nat) (k : List Nat → α) : frcL l k = k l := by
  induction l generalizing k with
  | nil => rfl
  | cons x r ih => rw [frcL, frc_eq, ih]
def roundF {α : Type} (s : List Nat) (k : Nat) (c : List Nat → α) : α := frcL (columns s) fun a => frcL (moves a) fun b => frcL (mixes b) fun d => frcL (iota k d) c
theorem roundF_eq {α : Type} (s : List Nat) (k : Nat) (c : List Nat → α) : roundF s k c = c (round s k) := by simp only [roundF, frcL_eq]; rfl
def permF : List Nat → List Nat → List Nat
  | [], s => s
  | k :: r, s => roundF s k (permF r)
theorem permF_fold (l s : List Nat) : permF l s = l.foldl round s := by
  induction l generalizing s with
  | nil => rfl
  | cons k r ih => rw [permF, roundF_eq, ih]; rfl
theorem permF_eq (s : List Nat) : permF K s = perm s := permF_fold K s
end
section
theorem dv_0_p : perm [50397441, 0, 0, 0, 25769803776, 0, 0, 0, 0, 0, 0, 0, 0, 0, 0, 0, 9223372036854775808, 0, 0, 0, 0, 0, 0, 0, 0] = [10278817104298907784, 14134970630840752888, 17363985685164303104, 18389485117995911768, 16872467568207025606, 9880550185199613785, 8702172063674108429, 13316258402160285168, 10236985223849689404, 5860379226928172647, 15829787594177647871, 6462967174338455390, 18021331280727149677, 15916898099768558152, 3679637874036185435, 12387242279299914377, 4235371239492183536, 5733416220640983090, 9353649997158515924, 3421662946199531572, 13558299609658487161, 9262926056336788377, 191223070837001956, 5369682799525405547, 5690039844963607325] := by
  rw [← permF_eq]; decide +kernel
theorem dv_0 : sum [1, 1, 1, 3, 0, 0, 0, 0, 0, 0, 0, 0, 0, 0, 0, 0, 0, 0, 0, 0, 0, 0, 0, 0, 0, 0, 0, 0, 0, 0, 0, 0, 0, 0, 0, 0] = [136, 24, 242, 100, 178, 177, 165, 142, 248, 154, 215, 1, 230, 128, 41, 196, 0, 163, 47, 121, 251, 68, 249, 240, 88, 138, 122, 124, 72, 147, 52, 255] := by
  unfold sum takes
  rw [show mixin (stateOf [1, 1, 1, 3, 0, 0, 0, 0, 0, 0, 0, 0, 0, 0, 0, 0, 0, 0, 0, 0, 0, 0, 0, 0, 0, 0, 0, 0, 0, 0, 0, 0, 0, 0, 0, 0]) (lastBlock (restOf [1, 1, 1, 3, 0, 0, 0, 0, 0, 0, 0, 0, 0, 0, 0, 0, 0, 0, 0, 0, 0, 0, 0, 0, 0, 0, 0, 0, 0, 0, 0, 0, 0, 0, 0, 0])) = [50397441, 0, 0, 0, 25769803776, 0, 0, 0, 0, 0, 0, 0, 0, 0, 0, 0, 9223372036854775808, 0, 0, 0, 0, 0, 0, 0, 0] by decide +kernel, dv_0_p]
  decide +kernel
theorem dv_9_p : perm [38705103105, 0, 0, 0, 25769803776, 0, 0, 0, 0, 0, 0, 0, 0, 0, 0, 0, 9223372036854775808, 0, 0, 0, 0, 0, 0, 0, 0] = [2154681888263928074, 3994399662339074967, 15680322908900252505, 14959504540305114199, 3939025773601331822, 4180352709838545711, 17832467667595138326, 15179124566345544200, 3780859113330340130, 1538577736398751074, 18422416699085792656, 8008731313364947278, 7180360859733228359, 6821971019552084536, 13409211901343582193, 3044510065114281961, 14906762268628027335, 17041025736636346587, 11696401803647358705, 1183525966290647333, 10462953683335550294, 2352071882287202736, 722607103555360748, 440292756518081747, 2092473023775917026] := by
  rw [← permF_eq]; decide +kernel
theorem dv_9 : sum [1, 1, 1, 3, 9, 0, 0, 0, 0, 0, 0, 0, 0, 0, 0, 0, 0, 0, 0, 0, 0, 0, 0, 0, 0, 0, 0, 0, 0, 0, 0, 0, 0, 0, 0, 0] = [10, 121, 240, 233, 194, 247, 230, 29, 151, 43, 169, 100, 84, 245, 110, 55, 89, 91, 107, 148, 155, 178, 155, 217, 87, 196, 186, 220, 30, 214, 154, 207] := by
  unfold sum takes
  rw [show mixin (stateOf [1, 1, 1, 3, 9, 0, 0, 0, 0, 0, 0, 0, 0, 0, 0, 0, 0, 0, 0, 0, 0, 0, 0, 0, 0, 0, 0, 0, 0, 0, 0, 0, 0, 0, 0, 0]) (lastBlock (restOf [1, 1, 1, 3, 9, 0, 0, 0, 0, 0, 0, 0, 0, 0, 0, 0, 0, 0, 0, 0, 0, 0, 0, 0, 0, 0, 0, 0, 0, 0, 0, 0, 0, 0, 0, 0])) = [38705103105, 0, 0, 0, 25769803776, 0, 0, 0, 0, 0, 0, 0, 0, 0, 0, 0, 9223372036854775808, 0, 0, 0, 0, 0, 0, 0, 0] by decide +kernel, dv_9_p]
  decide +kernel
theorem db_0_p : perm [721154, 0, 0, 0, 100663296, 0, 0, 0, 0, 0, 0, 0, 0, 0, 0, 0, 9223372036854775808, 0, 0, 0, 0, 0, 0, 0, 0] = [10993524779600974296, 1034957209709741975, 14069353694323440965, 12705192768685108665, 6101324150725729903, 11505569384058797601, 14457160008009147190, 2602098683795194234, 18141963390756384385, 15769384004373938561, 11751224561456478225, 17859685102316134118, 3149124103126257091, 2927153721099131781, 3454985326362135072, 9201446519026412821, 10558031673068409923, 2709494654079622972, 4095638742271209938, 4675049861332807976, 12354861536990356725, 15741266679408100489, 15854875860151414869, 9286648568191496318, 1179131903297595904] := by
  rw [← permF_eq]; decide +kernel
theorem db_0 : sum [2, 1, 11, 0, 0, 0, 0, 0, 0, 0, 0, 0, 0, 0, 0, 0, 0, 0, 0, 0, 0, 0, 0, 0, 0, 0, 0, 0, 0, 0, 0, 0, 0, 0, 0] = [216, 17, 146, 117, 138, 216, 144, 152, 151, 135, 122, 74, 25, 232, 92, 14, 69, 125, 122, 113, 164, 98, 64, 195, 185, 109, 86, 20, 130, 233, 81, 176] := by
  unfold sum takes
  rw [show mixin (stateOf [2, 1, 11, 0, 0, 0, 0, 0, 0, 0, 0, 0, 0, 0, 0, 0, 0, 0, 0, 0, 0, 0, 0, 0, 0, 0, 0, 0, 0, 0, 0, 0, 0, 0, 0]) (lastBlock (restOf [2, 1, 11, 0, 0, 0, 0, 0, 0, 0, 0, 0, 0, 0, 0, 0, 0, 0, 0, 0, 0, 0, 0, 0, 0, 0, 0, 0, 0, 0, 0, 0, 0, 0, 0])) = [721154, 0, 0, 0, 100663296, 0, 0, 0, 0, 0, 0, 0, 0, 0, 0, 0, 9223372036854775808, 0, 0, 0, 0, 0, 0, 0, 0] by decide +kernel, db_0_p]
  decide +kernel
theorem db_9_p : perm [151716098, 0, 0, 0, 100663296, 0, 0, 0, 0, 0, 0, 0, 0, 0, 0, 0, 9223372036854775808, 0, 0, 0, 0, 0, 0, 0, 0] = [12596443811411472840, 13220596910902319982, 7949676814118256441, 1381494476181026509, 14513143676414693558, 18123851096220536837, 3773439359263886008, 9320443421330652334, 4540152473003997482, 16554005909735033663, 17256579151232813542, 15753866159111689673, 201542974503508075, 5862795697931704650, 15088594515480474305, 12596656288682541634, 10471826997196004191, 17916393483742475613, 12867907750093369590, 9791003995685768363, 5500386634326529468, 7968426848996069030, 4934422938586578711, 10756744817827422090, 7547477582302672854] := by
  rw [← permF_eq]; decide +kernel
theorem db_9 : sum [2, 1, 11, 9, 0, 0, 0, 0, 0, 0, 0, 0, 0, 0, 0, 0, 0, 0, 0, 0, 0, 0, 0, 0, 0, 0, 0, 0, 0, 0, 0, 0, 0, 0, 0] = [200, 49, 89, 92, 232, 142, 207, 174, 110, 155, 245, 64, 216, 254, 120, 183, 57, 127, 173, 120, 241, 236, 82, 110, 205, 54, 239, 23, 232, 13, 44, 19] := by
  unfold sum takes
  rw [show mixin (stateOf [2, 1, 11, 9, 0, 0, 0, 0, 0, 0, 0, 0, 0, 0, 0, 0, 0, 0, 0, 0, 0, 0, 0, 0, 0, 0, 0, 0, 0, 0, 0, 0, 0, 0, 0]) (lastBlock (restOf [2, 1, 11, 9, 0, 0, 0, 0, 0, 0, 0, 0, 0, 0, 0, 0, 0, 0, 0, 0, 0, 0, 0, 0, 0, 0, 0, 0, 0, 0, 0, 0, 0, 0, 0])) = [151716098, 0, 0, 0, 100663296, 0, 0, 0, 0, 0, 0, 0, 0, 0, 0, 0, 9223372036854775808, 0, 0, 0, 0, 0, 0, 0, 0] by decide +kernel, db_9_p]
  decide +kernel
end
end Go.Kec
namespace Go.Proofs.YthmclmbeflbhhaaGreat
section
open Go Go.RowKit Go.Own Go.Shelf
def dRest (p : Par) (l : List Att) (a : Att) : Vd :=
  match l.find? (fun b => decide (b.s > a.s)) with
  | some w => if w.t < a.t then ⟨3, w, zPro, (p.first (max a.t w.t)).1⟩ else dJudge2 p l a
  | none => dJudge2 p l a
section
variable {p : Par} {l : List Att} {a w : Att} {m : List Pro} {q u : Pro}
theorem dJudge_no (hf : l.find? (fun b => decide (b.t = a.t)) = none) : dJudge p l a = dRest p l a := by unfold dJudge dRest; rw [hf]; rfl
theorem dJudge_one (hf : l.find? (fun b => decide (b.t = a.t)) = some w) (hd : (a.dg == w.dg) = true) : dJudge p l a = ⟨1, w, zPro, 0⟩ := by unfold dJudge; rw [hf]; exact if_pos hd
theorem dJudge_two (hf : l.find? (fun b => decide (b.t = a.t)) = some w) (hd : (a.dg == w.dg) = false) : dJudge p l a = ⟨2, w, zPro, (p.first (max a.t w.t)).1⟩ := by unfold dJudge; rw [hf]; exact if_neg (by rw [hd]; simp)
theorem dPro_no (hf : m.find? (fun b => decide (b.h = q.h)) = none) : dPro m q = Vd.z := by unfold dPro; rw [hf]
theorem dPro_one (hf : m.find? (fun b => decide (b.h = q.h)) = some u) (hd : doubP q u = false) : dPro m q = ⟨1, zAtt, u, 0⟩ := by unfold dPro; rw [hf]; exact if_neg (by rw [hd]; simp)
theorem dPro_two (hf : m.find? (fun b => decide (b.h = q.h)) = some u) (hd : doubP q u = true) : dPro m q = ⟨2, zAtt, u, q.h⟩ := by unfold dPro; rw [hf]; exact if_pos hd
end
theorem pro_yes {p : Par} {h : Int} {Q : List Pro} {q : Pro} (hE : proErr p h q = 0) {y : Vd} (hy : dPro (blocksOf p h Q q.v) q = y) : proVd p h Q q = y ∧ proNew p h Q q = if y.k = 0 then Q ++ [q] else Q := by
  unfold proNew proVd
  rw [hE, if_pos rfl, hy]; simp
theorem v1_ok {s t : Int} (b : UInt8) (hs : i64b s) (ht : i64b t) : (v1 s t b).Ok := ⟨(by decide : i64b 1), hs, ht, byteH_len b, (by decide : 0 < 2 ^ 64)⟩
theorem b1_ok {h : Int} (b : UInt8) (hh : i64b h) : (b1 h b).Ok := ⟨(by decide : i64b 1), hh, byteH_len b, (by decide : 0 < 2 ^ 64)⟩
theorem v1_vd {k f s t : Int} {b : UInt8} : VdOk ⟨k, v1 s t b, zPro, f⟩ := ⟨byteH_len b, zPro_r⟩
theorem b1_vd {k f h : Int} {b : UInt8} : VdOk ⟨k, zAtt, b1 h b, f⟩ := ⟨zAtt_r, byteH_len b⟩
theorem z_vd {k f : Int} : VdOk ⟨k, zAtt, zPro, f⟩ := ⟨zAtt_r, zPro_r⟩
theorem p23_check : (ofP 2 3).check = (0, 0) := by kernel_rfl
theorem ofP_ok {e W : Int} (he : i64ok e) (hW : i64ok W) : (ofP e W).Ok := by
  have k : ∀ x : Int, 0 ≤ x → x ≤ 1000000000 → i64ok x := fun x a b => by unfold i64ok; omega
  have u : ∀ x : Int, 0 ≤ x → x ≤ 1000000000 → u64ok x := fun x a b => by unfold u64ok; omega
  exact ⟨show i64ok 100 from k _ (by decide) (by decide), show i64ok 100 from k _ (by decide) (by decide), he, hW, show i64ok 7 from k _ (by decide) (by decide), show i64ok 8 from k _ (by decide) (by decide), show i64ok 20 from k _ (by decide) (by decide), show u64ok 50000000 from u _ (by decide) (by decide), show u64ok 3 from u _ (by decide) (by decide), show i64ok 50 from k _ (by decide) (by decide), show u64ok 100000000 from u _ (by decide) (by decide)⟩
theorem p23_ok : (ofP 2 3).Ok := ofP_ok (by unfold i64ok; omega) (by unfold i64ok; omega)
theorem dv0 : (v1 1 3 0).dig = Kec.sum [1, 1, 1, 3, 0, 0, 0, 0, 0, 0, 0, 0, 0, 0, 0, 0, 0, 0, 0, 0, 0, 0, 0, 0, 0, 0, 0, 0, 0, 0, 0, 0, 0, 0, 0, 0] := congrArg Kec.sum (show (v1 1 3 0).bare = _ by kernel_rfl)
theorem dv9 : (v1 1 3 9).dig = Kec.sum [1, 1, 1, 3, 9, 0, 0, 0, 0, 0, 0, 0, 0, 0, 0, 0, 0, 0, 0, 0, 0, 0, 0, 0, 0, 0, 0, 0, 0, 0, 0, 0, 0, 0, 0, 0] := congrArg Kec.sum (show (v1 1 3 9).bare = _ by kernel_rfl)
theorem db0 : (b1 11 0).dig = Kec.sum [2, 1, 11, 0, 0, 0, 0, 0, 0, 0, 0, 0, 0, 0, 0, 0, 0, 0, 0, 0, 0, 0, 0, 0, 0, 0, 0, 0, 0, 0, 0, 0, 0, 0, 0] := congrArg Kec.sum (show (b1 11 0).bare = _ by kernel_rfl)
theorem db9 : (b1 11 9).dig = Kec.sum [2, 1, 11, 9, 0, 0, 0, 0, 0, 0, 0, 0, 0, 0, 0, 0, 0, 0, 0, 0, 0, 0, 0, 0, 0, 0, 0, 0, 0, 0, 0, 0, 0, 0, 0] := congrArg Kec.sum (show (b1 11 9).bare = _ by kernel_rfl)
theorem dgs : ((v1 1 3 9).dg == (v1 1 3 0).dg) = false := by
  rw [show (v1 1 3 9).dg = (v1 1 3 9).dig from if_pos (by decide), show (v1 1 3 0).dg = (v1 1 3 0).dig from if_pos (by decide), dv0, dv9, Kec.dv_0, Kec.dv_9]; decide
theorem dgb : doubP (b1 11 9) (b1 11 0) = true := decide_eq_true ⟨by decide, by decide, rfl, rfl, by rw [db0, db9, Kec.db_0, Kec.db_9]; decide⟩
theorem dgs_same (a : Att) : (a.dg == a.dg) = true := by simp
theorem doub_same (q : Pro) : doubP q q = false := by simp [doubP]
theorem kE0 : attErr (ofP 2 3) 7 (v1 1 3 0) = 0 := by kernel_rfl
theorem kJ0 : dJudge (ofP 2 3) (votesOf (ofP 2 3) 7 [] (v1 1 3 0).v) (v1 1 3 0) = ⟨0, zAtt, zPro, 0⟩ := ((dJudge_no (by kernel_rfl)).trans (by kernel_rfl))
theorem kY0 : attVd (ofP 2 3) 7 [] (v1 1 3 0) = ⟨0, zAtt, zPro, 0⟩ := (att_yes kE0 kJ0).1
theorem kN0 : attNew (ofP 2 3) 7 [] (v1 1 3 0) = [v1 1 3 0] := (att_yes kE0 kJ0).2.trans rfl
theorem kE1 : attErr (ofP 2 3) 7 (v1 1 3 0) = 0 := by kernel_rfl
theorem kJ1 : dJudge (ofP 2 3) (votesOf (ofP 2 3) 7 [v1 1 3 0] (v1 1 3 0).v) (v1 1 3 0) = ⟨1, v1 1 3 0, zPro, 0⟩ := (dJudge_one (by kernel_rfl) (dgs_same _))
theorem kY1 : attVd (ofP 2 3) 7 [v1 1 3 0] (v1 1 3 0) = ⟨1, v1 1 3 0, zPro, 0⟩ := (att_yes kE1 kJ1).1
theorem kN1 : attNew (ofP 2 3) 7 [v1 1 3 0] (v1 1 3 0) = [v1 1 3 0] := (att_yes kE1 kJ1).2.trans rfl
theorem kE2 : attErr (ofP 2 3) 7 (v1 1 3 9) = 0 := by kernel_rfl
theorem kJ2 : dJudge (ofP 2 3) (votesOf (ofP 2 3) 7 [v1 1 3 0] (v1 1 3 9).v) (v1 1 3 9) = ⟨2, v1 1 3 0, zPro, 7⟩ := ((dJudge_two (by kernel_rfl) dgs).trans (by kernel_rfl))
theorem kY2 : attVd (ofP 2 3) 7 [v1 1 3 0] (v1 1 3 9) = ⟨2, v1 1 3 0, zPro, 7⟩ := (att_yes kE2 kJ2).1
theorem kN2 : attNew (ofP 2 3) 7 [v1 1 3 0] (v1 1 3 9) = [v1 1 3 0] := (att_yes kE2 kJ2).2.trans rfl
theorem kE3 : attErr (ofP 2 3) 7 (v1 2 2 0) = 0 := by kernel_rfl
theorem kJ3 : dJudge (ofP 2 3) (votesOf (ofP 2 3) 7 [v1 1 3 0] (v1 2 2 0).v) (v1 2 2 0) = ⟨4, v1 1 3 0, zPro, 7⟩ := ((dJudge_no (by kernel_rfl)).trans (by kernel_rfl))
theorem kY3 : attVd (ofP 2 3) 7 [v1 1 3 0] (v1 2 2 0) = ⟨4, v1 1 3 0, zPro, 7⟩ := (att_yes kE3 kJ3).1
theorem kN3 : attNew (ofP 2 3) 7 [v1 1 3 0] (v1 2 2 0) = [v1 1 3 0] := (att_yes kE3 kJ3).2.trans rfl
theorem kE4 : attErr (ofP 2 3) 7 (v1 1 1 0) = 0 := by kernel_rfl
theorem kJ4 : dJudge (ofP 2 3) (votesOf (ofP 2 3) 7 [v1 1 3 0] (v1 1 1 0).v) (v1 1 1 0) = ⟨0, zAtt, zPro, 0⟩ := ((dJudge_no (by kernel_rfl)).trans (by kernel_rfl))
theorem kY4 : attVd (ofP 2 3) 7 [v1 1 3 0] (v1 1 1 0) = ⟨0, zAtt, zPro, 0⟩ := (att_yes kE4 kJ4).1
theorem kN4 : attNew (ofP 2 3) 7 [v1 1 3 0] (v1 1 1 0) = [v1 1 3 0, v1 1 1 0] := (att_yes kE4 kJ4).2.trans rfl
theorem kE5 : attErr (ofP 2 3) 7 (v1 1 2 0) = 0 := by kernel_rfl
theorem kJ5 : dJudge (ofP 2 3) (votesOf (ofP 2 3) 7 [v1 1 3 0, v1 1 1 0] (v1 1 2 0).v) (v1 1 2 0) = ⟨0, zAtt, zPro, 0⟩ := ((dJudge_no (by kernel_rfl)).trans (by kernel_rfl))
theorem kY5 : attVd (ofP 2 3) 7 [v1 1 3 0, v1 1 1 0] (v1 1 2 0) = ⟨0, zAtt, zPro, 0⟩ := (att_yes kE5 kJ5).1
theorem kN5 : attNew (ofP 2 3) 7 [v1 1 3 0, v1 1 1 0] (v1 1 2 0) = [v1 1 3 0, v1 1 1 0, v1 1 2 0] := (att_yes kE5 kJ5).2.trans rfl
theorem kE6 : attErr (ofP 2 3) 11 (v1 3 5 0) = 0 := by kernel_rfl
theorem kJ6 : dJudge (ofP 2 3) (votesOf (ofP 2 3) 11 [v1 1 3 0, v1 1 1 0, v1 1 2 0] (v1 3 5 0).v) (v1 3 5 0) = ⟨0, zAtt, zPro, 0⟩ := ((dJudge_no (by kernel_rfl)).trans (by kernel_rfl))
theorem kY6 : attVd (ofP 2 3) 11 [v1 1 3 0, v1 1 1 0, v1 1 2 0] (v1 3 5 0) = ⟨0, zAtt, zPro, 0⟩ := (att_yes kE6 kJ6).1
theorem kN6 : attNew (ofP 2 3) 11 [v1 1 3 0, v1 1 1 0, v1 1 2 0] (v1 3 5 0) = [v1 1 3 0, v1 1 1 0, v1 1 2 0, v1 3 5 0] := (att_yes kE6 kJ6).2.trans rfl
theorem kE7 : attErr (ofP 2 3) 11 (v1 4 4 0) = 0 := by kernel_rfl
theorem kJ7 : dJudge (ofP 2 3) (votesOf (ofP 2 3) 11 [v1 1 3 0, v1 1 1 0, v1 1 2 0, v1 3 5 0] (v1 4 4 0).v) (v1 4 4 0) = ⟨4, v1 3 5 0, zPro, 11⟩ := ((dJudge_no (by kernel_rfl)).trans (by kernel_rfl))
theorem kY7 : attVd (ofP 2 3) 11 [v1 1 3 0, v1 1 1 0, v1 1 2 0, v1 3 5 0] (v1 4 4 0) = ⟨4, v1 3 5 0, zPro, 11⟩ := (att_yes kE7 kJ7).1
theorem kN7 : attNew (ofP 2 3) 11 [v1 1 3 0, v1 1 1 0, v1 1 2 0, v1 3 5 0] (v1 4 4 0) = [v1 1 3 0, v1 1 1 0, v1 1 2 0, v1 3 5 0] := (att_yes kE7 kJ7).2.trans rfl
theorem kE8 : attErr (ofP 2 3) 11 (v1 3 4 0) = 0 := by kernel_rfl
theorem kJ8 : dJudge (ofP 2 3) (votesOf (ofP 2 3) 11 [v1 1 3 0, v1 1 1 0, v1 1 2 0, v1 3 5 0] (v1 3 4 0).v) (v1 3 4 0) = ⟨0, zAtt, zPro, 0⟩ := ((dJudge_no (by kernel_rfl)).trans (by kernel_rfl))
theorem kY8 : attVd (ofP 2 3) 11 [v1 1 3 0, v1 1 1 0, v1 1 2 0, v1 3 5 0] (v1 3 4 0) = ⟨0, zAtt, zPro, 0⟩ := (att_yes kE8 kJ8).1
theorem kN8 : attNew (ofP 2 3) 11 [v1 1 3 0, v1 1 1 0, v1 1 2 0, v1 3 5 0] (v1 3 4 0) = [v1 1 3 0, v1 1 1 0, v1 1 2 0, v1 3 5 0, v1 3 4 0] := (att_yes kE8 kJ8).2.trans rfl
theorem pE0 : proErr (ofP 2 3) 11 (b1 11 0) = 0 := by kernel_rfl
theorem pJ0 : dPro (blocksOf (ofP 2 3) 11 [] (b1 11 0).v) (b1 11 0) = ⟨0, zAtt, zPro, 0⟩ := (dPro_no (by kernel_rfl))
theorem pY0 : proVd (ofP 2 3) 11 [] (b1 11 0) = ⟨0, zAtt, zPro, 0⟩ := (pro_yes pE0 pJ0).1
theorem pN0 : proNew (ofP 2 3) 11 [] (b1 11 0) = [b1 11 0] := (pro_yes pE0 pJ0).2.trans rfl
theorem pE1 : proErr (ofP 2 3) 11 (b1 11 9) = 0 := by kernel_rfl
theorem pJ1 : dPro (blocksOf (ofP 2 3) 11 [b1 11 0] (b1 11 9).v) (b1 11 9) = ⟨2, zAtt, b1 11 0, 11⟩ := (dPro_two (by kernel_rfl) dgb)
theorem pY1 : proVd (ofP 2 3) 11 [b1 11 0] (b1 11 9) = ⟨2, zAtt, b1 11 0, 11⟩ := (pro_yes pE1 pJ1).1
theorem pN1 : proNew (ofP 2 3) 11 [b1 11 0] (b1 11 9) = [b1 11 0] := (pro_yes pE1 pJ1).2.trans rfl
theorem pE2 : proErr (ofP 2 3) 11 (b1 11 0) = 0 := by kernel_rfl
theorem pJ2 : dPro (blocksOf (ofP 2 3) 11 [b1 11 0] (b1 11 0).v) (b1 11 0) = ⟨1, zAtt, b1 11 0, 0⟩ := (dPro_one (by kernel_rfl) (doub_same _))
theorem pY2 : proVd (ofP 2 3) 11 [b1 11 0] (b1 11 0) = ⟨1, zAtt, b1 11 0, 0⟩ := (pro_yes pE2 pJ2).1
theorem pN2 : proNew (ofP 2 3) 11 [b1 11 0] (b1 11 0) = [b1 11 0] := (pro_yes pE2 pJ2).2.trans rfl
theorem pE3 : proErr (ofP 2 3) 11 (b1 6 0) = 0 := by kernel_rfl
theorem pJ3 : dPro (blocksOf (ofP 2 3) 11 [b1 11 0] (b1 6 0).v) (b1 6 0) = ⟨0, zAtt, zPro, 0⟩ := (dPro_no (by kernel_rfl))
theorem pY3 : proVd (ofP 2 3) 11 [b1 11 0] (b1 6 0) = ⟨0, zAtt, zPro, 0⟩ := (pro_yes pE3 pJ3).1
theorem pN3 : proNew (ofP 2 3) 11 [b1 11 0] (b1 6 0) = [b1 11 0, b1 6 0] := (pro_yes pE3 pJ3).2.trans rfl
theorem lV1 : votesOf (ofP 2 3) 7 [v1 1 3 0, v1 1 1 0, v1 1 2 0] 1 = [v1 1 1 0, v1 1 2 0, v1 1 3 0] := by kernel_rfl
theorem lV2 : votesOf (ofP 2 3) 11 [v1 1 3 0, v1 1 1 0, v1 1 2 0, v1 3 5 0, v1 3 4 0] 1 = [v1 1 3 0, v1 3 4 0, v1 3 5 0] := by kernel_rfl
theorem lV3 : votesOf (ofP 2 3) 13 [v1 1 3 0, v1 1 1 0, v1 1 2 0, v1 3 5 0, v1 3 4 0] 1 = [v1 3 4 0, v1 3 5 0] := by kernel_rfl
theorem lV4 : votesOf (ofP 2 3) 11 [v1 1 3 0, v1 1 1 0, v1 1 2 0, v1 3 5 0, v1 3 4 0] 32 = [] := by kernel_rfl
theorem lB1 : blocksOf (ofP 2 3) 11 [b1 11 0, b1 6 0] 1 = [b1 6 0, b1 11 0] := by kernel_rfl
theorem rE0 : attErr (ofP 2 3) 11 (v1 4 3 0) = 9 := by kernel_rfl
theorem rE1 : attErr (ofP 2 3) 11 (v1 3 6 0) = 17 := by kernel_rfl
theorem rE2 : attErr (ofP 2 3) 11 (v1 2 5 0) = 16 := by kernel_rfl
theorem rE3 : attErr (ofP 2 3) 11 (⟨32, (v1 3 3 0).s, (v1 3 3 0).t, (v1 3 3 0).r, (v1 3 3 0).g⟩) = 3 := by kernel_rfl
theorem rP0 : proErr (ofP 2 3) 11 (b1 5 0) = 16 := by kernel_rfl
theorem rP1 : proErr (ofP 2 3) 11 (b1 12 0) = 17 := by kernel_rfl
theorem zPar_check : zPar.check = (3, 0) := by kernel_rfl
theorem zPar_ok : zPar.Ok := by
  have k : i64ok 0 := by unfold i64ok; omega
  have u : u64ok 0 := by unfold u64ok; omega
  exact ⟨k, k, k, k, k, k, k, u, u, k, u⟩
end
section
open Go Go.RowKit Go.Own Go.Shelf
theorem v1_r {s t : Int} {b : UInt8} : (v1 s t b).r.length = 32 := byteH_len b
theorem b1_r {h : Int} {b : UInt8} : (b1 h b).r.length = 32 := byteH_len b
instance (x : Int) : Decidable (i64b x) := inferInstanceAs (Decidable (_ ∧ _))
theorem Sl.blockH {α : Type} {w : World} {g : Nat} {T : TypeId} {xs : List α} {c : α → List Value} {s n : Nat} (h : HP w g (xs.flatMap c).toArray T) (hc : ∀ x ∈ xs, (c x).length = s) (hn : xs.length = n) (hm : n ≤ 1000) : Sl w s c (.slice (some ⟨g, 0, none⟩) n n) xs := by
 subst hn
 exact ⟨⟨_, _, rfl, Nat.le_refl _, by unfold maxLen; omega, fun h => by cases h⟩, fun k x hx => ⟨g, 0, _, rfl, lt_of_block h, fun j u hj => by
  rw [Nat.zero_add]
  exact rc h (by rw [List.getElem?_toArray]; exact flat_get hc k x hx j u hj)⟩⟩
theorem det_new (p : Par) (hp : p.Ok) (y : Int) (hc : p.check = (0, y)) (w : World) : Calls Tryz.prog 19 #[.agg p.cells] w fun e w' => ∃ d, e = .returned (.tuple #[pT d 0, .int .i64 0]) ∧ Det1 w.heap.size w' d p 1 [] [] ∧ w.heap.size ≤ d ∧ Keeps Nob w w' := by
 refine (dNew_fine p w hp y hc).mono ?_
 rintro e w' ⟨d, rfl, hd, hw, k⟩
 refine ⟨d, rfl, ⟨⟨fun _ => none, fun _ => 0, ⟨hd, fun v x _ h => (by cases h), fun v _ _ => ⟨fun a h => (by cases h), fun a h => (by cases h)⟩, rfl, fun v x _ h => (by cases h), fun v x _ h => (by cases h)⟩, fun j hj => ?_, fun j hj => ?_⟩, ⟨⟨hp, by rw [hc], by decide, by decide⟩, fun a h => (by cases h), fun a h => (by cases h), List.Pairwise.nil, List.Pairwise.nil⟩⟩, hw, k⟩
 ·rcases hj with rfl | ⟨v, x, _, h, _⟩
  ·exact hw
  ·cases h
 ·obtain ⟨v, x, _, h, _⟩ := hj
  cases h
noncomputable def qc120_1 (n : Nat) : Code := partOf Tryz.f37 n
theorem ltfirst_ok (w : World) :
  Calls Tryz.prog 37 #[] w (fun e w' => ∃ d, e = .returned (pT d 0) ∧ Det1 w.heap.size w' d (ofP 2 3) 7 [v1 1 3 0] [] ∧ Keeps Nob w w') := by
 have t0 := Turns.refl w.heap.size w
 have K0 : Keeps ((fun j => w.heap.size ≤ j)) w w := Keeps.refl _ _
 refine se_ (qc120_1 1) ⟨fs [un 50], []⟩ Tryz.func37 <| qr_ [0] <| kk 1 <| eqr_ nl7_ ?_
 refine pcr 21 #[.int .i64 2, .int .i64 3] Tryz.func21 (ltof_ok 2 3 _) fun V1 kV1 => ?_
 have h2 := Turns.nn t0 kV1
 have K3 := K0.nn kV1
 have z4 := kV1.size
 refine pcq 19 #[.agg (ofP 2 3).cells] Tryz.func19 ((det_new (ofP 2 3) p23_ok 0 p23_check _).mono ?_)
 rintro e V5 ⟨d, rfl, hDV5, hdwV5, kV5⟩
 have hLV5 := hDV5.lower K3.size
 refine ⟨_, rfl, ?_⟩
 have h6 := Turns.nn h2 kV5
 have K7 := K3.nn kV5
 have z8 := kV5.size
 refine kk 5 <| eqr_ [0, 1, 2] ?_
 refine pcr 9 #[.int .i64 1, .int .i64 3, .int .u8 0] Tryz.func9 (ltvote1_ok 1 3 0 0 (by decide) _) fun V9 kV9 => ?_
 have h10 := Turns.nn h6 kV9
 have kb11 := (Keeps.refl Nob V5).nn kV9
 have K12 := K7.nn kV9
 have z13 := kV9.size
 refine pal 28 (#[.int .i64 0, .int .i64 0, .int .i64 0, .int .u8 0, .int .u8 0, .int .u8 0, .int .u8 0, .int .u8 0, .int .u8 0, .int .u8 0, .int .u8 0, .int .u8 0, .int .u8 0, .int .u8 0, .int .u8 0, .int .u8 0, .int .u8 0, .int .u8 0, .int .u8 0, .int .u8 0, .int .u8 0, .int .u8 0, .int .u8 0, .int .u8 0, .int .u8 0, .int .u8 0, .int .u8 0, .int .u8 0, .int .u8 0, .int .u8 0, .int .u8 0, .int .u8 0, .int .u8 0, .int .u8 0, .int .u8 0, .int .u64 0]) (.agg (#[.int .i64 0, .int .i64 0, .int .i64 0, .int .u8 0, .int .u8 0, .int .u8 0, .int .u8 0, .int .u8 0, .int .u8 0, .int .u8 0, .int .u8 0, .int .u8 0, .int .u8 0, .int .u8 0, .int .u8 0, .int .u8 0, .int .u8 0, .int .u8 0, .int .u8 0, .int .u8 0, .int .u8 0, .int .u8 0, .int .u8 0, .int .u8 0, .int .u8 0, .int .u8 0, .int .u8 0, .int .u8 0, .int .u8 0, .int .u8 0, .int .u8 0, .int .u8 0, .int .u8 0, .int .u8 0, .int .u8 0, .int .u64 0])) fun V14 go ego h15 kV14 => ?_
 have n16 := nk ego K12
 have h17 := Turns.nn h10 kV14
 have kb18 := kb11.nn kV14
 have K19 := K12.nn kV14
 have z20 := kV14.size
 refine pst 28 go ((Att.c (v1 1 3 0))) h15 (by rw [Att.c_size _ v1_r]; kernel_rfl) (by rw [Att.c_size _ v1_r]; rfl) (Att.c_one _) fun V21 h22 kV21 => ?_
 have h23 : Turns w.heap.size w V21 := Turns.no h17 kV21 (by omega)
 have kb24 : Keeps Nob V5 V21 := kb18.nO kV21
 have K25 := K19.nO kV21
 have z26 := kV21.size
 refine eq_ <| q_ <| sy_np <| sy_reg <| anb 39 (fun W => (HP W go (Att.c (v1 1 3 0)) 28)) #[false, false, false, false, false, false, false, false, false, false, false, false, false, false, false, false, false, false, false, false, false, false, false, false, false, false, false, false, false, false, false, false, false, false, false, false, false, false, false] ?_
 obtain ⟨V27, eV27, kV27⟩ := drew_step V21
 rw [eV27]
 clear eV27
 have h28 := Turns.nn h23 kV27
 have kb29 := kb24.nn kV27
 have ⟨K31, z32, h30⟩ := kV27.z1 K25 h22
 refine ka [0, 1, 2, 3, 4, 5, 6, 7] h30 <| an_o 8 ?_
 refine ncq 17 #[pT d 0, .int .i64 7] Tryz.func17 ((Det1.is_move (x := 7) (hLV5.keepsN kb29) K31.size (e0 := 0) (h' := 7) rfl rfl).mono ?_)
 rintro e V33 ⟨rfl, hDV33, MV33, hMV33, kV33⟩
 refine ⟨_, rfl, ?_⟩
 have h34 : Turns w.heap.size w V33 := Turns.trans h28 ⟨MV33, hMV33, kV33⟩
 have h35 : HP V33 go (Att.c (v1 1 3 0)) 28 := (kV33.block go (lt_of_block h30) (fun e => hMV33.no h30 e)).trans h30
 have K36 : Keeps ((fun j => w.heap.size ≤ j)) w V33 := K31.then kV33 (fun i hi hm => Nat.le_of_not_lt (fun h => hMV33.sub i h hm))
 have z37 := kV33.size
 refine ⟨h35, ?_⟩
 refine ka [9, 10, 11, 12] h35 <| avq 13 _ (fun W hS => ldr 28 go (hS) (by rw [Att.c_size _ v1_r]; kernel_rfl)) h35 <| ka [14] h35 <| an_o 15 ?_
 refine ncq 28 #[pT d 0, .agg (Att.c (v1 1 3 0)), .int .i64 0, .agg (Att.c zAtt), .int .i64 0] Tryz.func28 ((ltattests_ok _ d _ _ _ _ _ K36.size hDV33 (v1 1 3 0) (v1_ok _ (by decide) (by decide)) v1_r 0 0 zAtt zAtt_r kE0 _ z_vd kY0 rfl _ kN0).mono ?_)
 rintro e V38 ⟨rfl, hDV38, MV38, hMV38, kV38⟩
 refine ⟨_, rfl, ?_⟩
 have h39 : Turns w.heap.size w V38 := Turns.trans h34 ⟨MV38, hMV38, kV38⟩
 have h40 : HP V38 go (Att.c (v1 1 3 0)) 28 := (kV38.block go (lt_of_block h35) (fun e => hMV38.no h35 e)).trans h35
 have K41 : Keeps ((fun j => w.heap.size ≤ j)) w V38 := K36.then kV38 (fun i hi hm => Nat.le_of_not_lt (fun h => hMV38.sub i h hm))
 have z42 := kV38.size
 refine ⟨h40, ?_⟩
 refine ka [16, 17, 18, 19] h40 <| avq 20 _ (fun W hS => ldr 28 go (hS) (by rw [Att.c_size _ v1_r]; kernel_rfl)) h40 <| avq 21 _ (fun W hS => ldr 28 go (hS) (by rw [Att.c_size _ v1_r]; kernel_rfl)) h40 <| an_o 22 ?_
 refine ncq 28 #[pT d 0, .agg (Att.c (v1 1 3 0)), .int .i64 1, .agg (Att.c (v1 1 3 0)), .int .i64 0] Tryz.func28 ((ltattests_ok _ d _ _ _ _ _ K41.size hDV38 (v1 1 3 0) (v1_ok _ (by decide) (by decide)) v1_r 1 0 (v1 1 3 0) v1_r kE1 _ v1_vd kY1 rfl _ kN1).mono ?_)
 rintro e V43 ⟨rfl, hDV43, MV43, hMV43, kV43⟩
 refine ⟨_, rfl, ?_⟩
 have h44 : Turns w.heap.size w V43 := Turns.trans h39 ⟨MV43, hMV43, kV43⟩
 have h45 : HP V43 go (Att.c (v1 1 3 0)) 28 := (kV43.block go (lt_of_block h40) (fun e => hMV43.no h40 e)).trans h40
 have K46 : Keeps ((fun j => w.heap.size ≤ j)) w V43 := K41.then kV43 (fun i hi hm => Nat.le_of_not_lt (fun h => hMV43.sub i h hm))
 have z47 := kV43.size
 refine ⟨h45, ?_⟩
 refine ka [23, 24, 25, 26] h45 <| avq 28 _ (fun W hS => ldr 28 go (hS) (by rw [Att.c_size _ v1_r]; kernel_rfl)) h45 <| an_o 27 ?_
 refine ncr 9 #[.int .i64 1, .int .i64 3, .int .u8 9] Tryz.func9 (ltvote1_ok 1 3 9 9 (by decide) _) fun V48 kV48 => ?_
 have h49 := Turns.nn h44 kV48
 have h50 := kV48.bk h45
 have kb51 := (Keeps.refl Nob V43).nn kV48
 have K52 := K46.nn kV48
 have z53 := kV48.size
 refine ⟨h50, ?_⟩
 refine an_o 29 ?_
 refine ncq 28 #[pT d 0, .agg (Att.c (v1 1 3 9)), .int .i64 2, .agg (Att.c (v1 1 3 0)), .int .i64 7] Tryz.func28 ((ltattests_ok _ d _ _ _ _ _ K52.size (hDV43.keepsN kb51) (v1 1 3 9) (v1_ok _ (by decide) (by decide)) v1_r 2 7 (v1 1 3 0) v1_r kE2 _ v1_vd kY2 rfl _ kN2).mono ?_)
 rintro e V54 ⟨rfl, hDV54, MV54, hMV54, kV54⟩
 refine ⟨_, rfl, ?_⟩
 have h55 : Turns w.heap.size w V54 := Turns.trans h49 ⟨MV54, hMV54, kV54⟩
 have h56 : HP V54 go (Att.c (v1 1 3 0)) 28 := (kV54.block go (lt_of_block h50) (fun e => hMV54.no h50 e)).trans h50
 have K57 : Keeps ((fun j => w.heap.size ≤ j)) w V54 := K52.then kV54 (fun i hi hm => Nat.le_of_not_lt (fun h => hMV54.sub i h hm))
 have z58 := kV54.size
 refine ⟨h56, ?_⟩
 refine ka [30, 31, 32, 33] h56 <| avq 35 _ (fun W hS => ldr 28 go (hS) (by rw [Att.c_size _ v1_r]; kernel_rfl)) h56 <| an_o 34 ?_
 refine ncr 9 #[.int .i64 2, .int .i64 2, .int .u8 0] Tryz.func9 (ltvote1_ok 2 2 0 0 (by decide) _) fun V59 kV59 => ?_
 have h60 := Turns.nn h55 kV59
 have h61 := kV59.bk h56
 have kb62 := (Keeps.refl Nob V54).nn kV59
 have K63 := K57.nn kV59
 have z64 := kV59.size
 refine ⟨h61, ?_⟩
 refine an_o 36 ?_
 refine ncq 28 #[pT d 0, .agg (Att.c (v1 2 2 0)), .int .i64 4, .agg (Att.c (v1 1 3 0)), .int .i64 7] Tryz.func28 ((ltattests_ok _ d _ _ _ _ _ K63.size (hDV54.keepsN kb62) (v1 2 2 0) (v1_ok _ (by decide) (by decide)) v1_r 4 7 (v1 1 3 0) v1_r kE3 _ v1_vd kY3 rfl _ kN3).mono ?_)
 rintro e V65 ⟨rfl, hDV65, MV65, hMV65, kV65⟩
 refine ⟨_, rfl, ?_⟩
 have h66 : Turns w.heap.size w V65 := Turns.trans h60 ⟨MV65, hMV65, kV65⟩
 have h67 : HP V65 go (Att.c (v1 1 3 0)) 28 := (kV65.block go (lt_of_block h61) (fun e => hMV65.no h61 e)).trans h61
 have K68 : Keeps ((fun j => w.heap.size ≤ j)) w V65 := K63.then kV65 (fun i hi hm => Nat.le_of_not_lt (fun h => hMV65.sub i h hm))
 have z69 := kV65.size
 refine ⟨h67, ?_⟩
 refine ka [37, 38] h67 <| ane <| then_n <| n_ <| s_ <| tqr_ [0, 1] <| kk 2 <| eu_ <| so_ (pT d 0) ?_
 exact ⟨d, rfl, hDV65, h66.keeps (Keeps.refl Nob w) (Nat.le_refl _)⟩
noncomputable def qc120_0 (n : Nat) : Code := partOf Tryz.f8 n
theorem ltsecond_ok (w : World) :
  Calls Tryz.prog 8 #[] w (fun e w' => ∃ d, e = .returned (pT d 0) ∧ Det1 w.heap.size w' d (ofP 2 3) 11 [v1 1 3 0, v1 1 1 0, v1 1 2 0, v1 3 5 0, v1 3 4 0] [] ∧ Keeps Nob w w') := by
 have t0 := Turns.refl w.heap.size w
 obtain ⟨i0, hi0, hz0, hz1, hz2⟩ := info_parts att_info0
 obtain ⟨i1, hi1, hw0, hw1, hw2⟩ := info_parts pro_info0
 have hok := (fun (x : Att) (hx : x ∈ ([v1 1 1 0, v1 1 2 0, v1 1 3 0] : List Att)) => show x.Ok by simp only [List.mem_cons, List.not_mem_nil, or_false] at hx; rcases hx with rfl | rfl | rfl <;> exact v1_ok _ (by decide) (by decide))
 have K0 : Keeps ((fun j => w.heap.size ≤ j)) w w := Keeps.refl _ _
 refine se_ (qc120_0 1) ⟨fs [un 56], []⟩ Tryz.func8 <| qr_ [0] <| kk 1 <| eqr_ [0, 1] ?_
 refine pcq 37 #[] Tryz.func37 ((ltfirst_ok _).mono ?_)
 rintro e V1 ⟨d, rfl, hDV1, kV1⟩
 have hLV1 := hDV1.lower K0.size
 refine ⟨_, rfl, ?_⟩
 have h2 := Turns.nn t0 kV1
 have K3 := K0.nn kV1
 have z4 := kV1.size
 refine kk 1 <| eq_ <| qr_ nl31_ <| kk 4 ?_
 refine pcr 9 #[.int .i64 1, .int .i64 1, .int .u8 0] Tryz.func9 (ltvote1_ok 1 1 0 0 (by decide) _) fun V5 kV5 => ?_
 have h6 := Turns.nn h2 kV5
 have kb7 := (Keeps.refl Nob V1).nn kV5
 have K8 := K3.nn kV5
 have z9 := kV5.size
 refine kk 1 ?_
 refine pcq 28 #[pT d 0, .agg (Att.c (v1 1 1 0)), .int .i64 0, .agg (Att.c zAtt), .int .i64 0] Tryz.func28 ((ltattests_ok _ d _ _ _ _ _ K8.size (hLV1.keepsN kb7) (v1 1 1 0) (v1_ok _ (by decide) (by decide)) v1_r 0 0 zAtt zAtt_r kE4 _ z_vd kY4 rfl _ kN4).mono ?_)
 rintro e V10 ⟨rfl, hDV10, MV10, hMV10, kV10⟩
 refine ⟨_, rfl, ?_⟩
 have h11 : Turns w.heap.size w V10 := Turns.trans h6 ⟨MV10, hMV10, kV10⟩
 have K12 : Keeps ((fun j => w.heap.size ≤ j)) w V10 := K8.then kV10 (fun i hi hm => Nat.le_of_not_lt (fun h => hMV10.sub i h hm))
 have z13 := kV10.size
 refine kk 4 ?_
 refine pcr 9 #[.int .i64 1, .int .i64 2, .int .u8 0] Tryz.func9 (ltvote1_ok 1 2 0 0 (by decide) _) fun V14 kV14 => ?_
 have h15 := Turns.nn h11 kV14
 have kb16 := (Keeps.refl Nob V10).nn kV14
 have K17 := K12.nn kV14
 have z18 := kV14.size
 refine kk 1 ?_
 refine pcq 28 #[pT d 0, .agg (Att.c (v1 1 2 0)), .int .i64 0, .agg (Att.c zAtt), .int .i64 0] Tryz.func28 ((ltattests_ok _ d _ _ _ _ _ K17.size (hDV10.keepsN kb16) (v1 1 2 0) (v1_ok _ (by decide) (by decide)) v1_r 0 0 zAtt zAtt_r kE5 _ z_vd kY5 rfl _ kN5).mono ?_)
 rintro e V19 ⟨rfl, hDV19, MV19, hMV19, kV19⟩
 refine ⟨_, rfl, ?_⟩
 have h20 : Turns w.heap.size w V19 := Turns.trans h15 ⟨MV19, hMV19, kV19⟩
 have K21 : Keeps ((fun j => w.heap.size ≤ j)) w V19 := K17.then kV19 (fun i hi hm => Nat.le_of_not_lt (fun h => hMV19.sub i h hm))
 have z22 := kV19.size
 refine kk 4 ?_
 refine pcq 11 #[pT d 0, .int .i64 1] Tryz.func11 ((Det1.votes hDV19 1).mono ?_)
 rintro e V23 ⟨vaV23, rfl, hrV23, hnV23, kV23⟩
 rw [lV1] at hrV23
 have hsV23 : AttsAt V23 vaV23 [v1 1 1 0, v1 1 2 0, v1 1 3 0] := Row.sl hrV23 rfl (fun x hx => Att.cl_len (hok x hx))
 refine ⟨_, rfl, ?_⟩
 have h24 := Turns.nn h20 kV23
 have kb25 := (Keeps.refl Nob V19).nn kV23
 have K26 := K21.nn kV23
 have z27 := kV23.size
 refine pcr 9 #[.int .i64 1, .int .i64 1, .int .u8 0] Tryz.func9 (ltvote1_ok 1 1 0 0 (by decide) _) fun V28 kV28 => ?_
 have h29 := Turns.nn h24 kV28
 have kb30 := kb25.nn kV28
 have h31 : AttsAt V28 vaV23 ([v1 1 1 0, v1 1 2 0, v1 1 3 0]) := hsV23.keepsN kV28
 have K32 := K26.nn kV28
 have z33 := kV28.size
 refine pcr 9 #[.int .i64 1, .int .i64 2, .int .u8 0] Tryz.func9 (ltvote1_ok 1 2 0 0 (by decide) _) fun V34 kV34 => ?_
 have h35 := Turns.nn h29 kV34
 have kb36 := kb30.nn kV34
 have h37 : AttsAt V34 vaV23 ([v1 1 1 0, v1 1 2 0, v1 1 3 0]) := h31.keepsN kV34
 have K38 := K32.nn kV34
 have z39 := kV34.size
 refine pcr 9 #[.int .i64 1, .int .i64 3, .int .u8 0] Tryz.func9 (ltvote1_ok 1 3 0 0 (by decide) _) fun V40 kV40 => ?_
 have h41 := Turns.nn h35 kV40
 have kb42 := kb36.nn kV40
 have h43 : AttsAt V40 vaV23 ([v1 1 1 0, v1 1 2 0, v1 1 3 0]) := h37.keepsN kV40
 have K44 := K38.nn kV40
 have z45 := kV40.size
 obtain ⟨V46, eV46, gl, egl, h47, kV46⟩ := alloc_step V40 (([.agg (Att.c (v1 1 1 0)), .agg (Att.c (v1 1 2 0)), .agg (Att.c (v1 1 3 0))] : List Value).flatMap fun v => v.cells.toList).toArray 28
 have n48 := nk egl K44
 refine prq (.slice (some ⟨gl, 0, none⟩) 3 3) (w' := V46) (by rw [← eV46, ← egl]; exact exec_buildAll 32 28 3 #[(0, .tmp 23), (1, .tmp 24), (2, .tmp 25)] (by kernel_rfl) [.agg (Att.c (v1 1 1 0)), .agg (Att.c (v1 1 2 0)), .agg (Att.c (v1 1 3 0))] (by kernel_rfl) i0 _ Tryz.underlying32 hi0 hz0 36 hz1 (by decide) rfl (by decide) (by decide) (fun u hu => by simp only [List.mem_cons, List.not_mem_nil, or_false] at hu; rcases hu with rfl | rfl | rfl; exact Att.c_size _ v1_r; exact Att.c_size _ v1_r; exact Att.c_size _ v1_r)) ?_
 clear eV46
 have h49 : HP V46 gl ((List.flatMap Att.cl [v1 1 1 0, v1 1 2 0, v1 1 3 0]).toArray) 28 := h47
 have h50 := Turns.nn h41 kV46
 have kb51 := kb42.nn kV46
 have h52 : AttsAt V46 vaV23 ([v1 1 1 0, v1 1 2 0, v1 1 3 0]) := h43.keepsN kV46
 have K53 := K44.nn kV46
 have z54 := kV46.size
 refine pcr 18 #[vaV23, .slice (some ⟨gl, 0, none⟩) 3 3] Tryz.func18 ((show Calls Tryz.prog 18 #[vaV23, .slice (some ⟨gl, 0, none⟩) 3 3] V46 _ from (decide_eq_true (rfl : ([v1 1 1 0, v1 1 2 0, v1 1 3 0] : List Att) = [v1 1 1 0, v1 1 2 0, v1 1 3 0])) ▸ ltsameVotes_ok _ _ [v1 1 1 0, v1 1 2 0, v1 1 3 0] [v1 1 1 0, v1 1 2 0, v1 1 3 0] _ h52 (Sl.blockH h49 (fun x hx => Att.cl_len (hok x hx)) rfl (by decide)) hok hok)) fun V55 kV55 => ?_
 have h56 := Turns.nn h50 kV55
 have kb57 := kb51.nn kV55
 have ⟨K59, z60, h58⟩ := kV55.z1 K53 h49
 refine kk 4 ?_
 refine pcq 17 #[pT d 0, .int .i64 11] Tryz.func17 ((Det1.is_move (x := 11) (hDV19.keepsN kb57) K59.size (e0 := 0) (h' := 11) rfl rfl).mono ?_)
 rintro e V61 ⟨rfl, hDV61, MV61, hMV61, kV61⟩
 refine ⟨_, rfl, ?_⟩
 have h62 : Turns w.heap.size w V61 := Turns.trans h56 ⟨MV61, hMV61, kV61⟩
 have h63 : HP V61 gl ((List.flatMap Att.cl [v1 1 1 0, v1 1 2 0, v1 1 3 0]).toArray) 28 := (kV61.block gl (lt_of_block h58) (fun e => hMV61.no h58 e)).trans h58
 have K64 : Keeps ((fun j => w.heap.size ≤ j)) w V61 := K59.then kV61 (fun i hi hm => Nat.le_of_not_lt (fun h => hMV61.sub i h hm))
 have z65 := kV61.size
 refine kk 2 <| ps_end <| then_n <| n_ <| s_ <| tqr_ [0, 1, 2] ?_
 refine pcr 9 #[.int .i64 3, .int .i64 5, .int .u8 0] Tryz.func9 (ltvote1_ok 3 5 0 0 (by decide) _) fun V66 kV66 => ?_
 have h67 := Turns.nn h62 kV66
 have h68 := kV66.bk h63
 have kb69 := (Keeps.refl Nob V61).nn kV66
 have K70 := K64.nn kV66
 have z71 := kV66.size
 refine pal 28 (#[.int .i64 0, .int .i64 0, .int .i64 0, .int .u8 0, .int .u8 0, .int .u8 0, .int .u8 0, .int .u8 0, .int .u8 0, .int .u8 0, .int .u8 0, .int .u8 0, .int .u8 0, .int .u8 0, .int .u8 0, .int .u8 0, .int .u8 0, .int .u8 0, .int .u8 0, .int .u8 0, .int .u8 0, .int .u8 0, .int .u8 0, .int .u8 0, .int .u8 0, .int .u8 0, .int .u8 0, .int .u8 0, .int .u8 0, .int .u8 0, .int .u8 0, .int .u8 0, .int .u8 0, .int .u8 0, .int .u8 0, .int .u64 0]) (.agg (#[.int .i64 0, .int .i64 0, .int .i64 0, .int .u8 0, .int .u8 0, .int .u8 0, .int .u8 0, .int .u8 0, .int .u8 0, .int .u8 0, .int .u8 0, .int .u8 0, .int .u8 0, .int .u8 0, .int .u8 0, .int .u8 0, .int .u8 0, .int .u8 0, .int .u8 0, .int .u8 0, .int .u8 0, .int .u8 0, .int .u8 0, .int .u8 0, .int .u8 0, .int .u8 0, .int .u8 0, .int .u8 0, .int .u8 0, .int .u8 0, .int .u8 0, .int .u8 0, .int .u8 0, .int .u8 0, .int .u8 0, .int .u64 0])) fun V72 go ego h73 kV72 => ?_
 have n74 := nl ego h68
 have n75 := nk ego K70
 have h76 := Turns.nn h67 kV72
 have kb78 := kb69.nn kV72
 have K79 := K70.nn kV72
 have z80 := kV72.size
 refine pst 28 go ((Att.c (v1 3 5 0))) h73 (by rw [Att.c_size _ v1_r]; kernel_rfl) (by rw [Att.c_size _ v1_r]; rfl) (Att.c_one _) fun V81 h82 kV81 => ?_
 have h83 : Turns w.heap.size w V81 := Turns.no h76 kV81 (by omega)
 have kb85 : Keeps Nob V61 V81 := kb78.nO kV81
 have K86 := K79.nO kV81
 have z87 := kV81.size
 refine eq_ <| q_ <| sy_np <| sy_reg <| anb 19 (fun W => (HP W go (Att.c (v1 3 5 0)) 28)) #[false, false, false, false, false, false, false, false, false, false, false, false, false, false, false, false, false, false, false] ?_
 obtain ⟨V88, eV88, kV88⟩ := drew_step V81
 rw [eV88]
 clear eV88
 have h89 := Turns.nn h83 kV88
 have kb91 := kb85.nn kV88
 have ⟨K93, z94, h92⟩ := kV88.z1 K86 h82
 refine ka [0] h92 <| avq 1 _ (fun W hS => ldr 28 go (hS) (by rw [Att.c_size _ v1_r]; kernel_rfl)) h92 <| ka [2] h92 <| an_o 3 ?_
 refine ncq 28 #[pT d 0, .agg (Att.c (v1 3 5 0)), .int .i64 0, .agg (Att.c zAtt), .int .i64 0] Tryz.func28 ((ltattests_ok _ d _ _ _ _ _ K93.size (hDV61.keepsN kb91) (v1 3 5 0) (v1_ok _ (by decide) (by decide)) v1_r 0 0 zAtt zAtt_r kE6 _ z_vd kY6 rfl _ kN6).mono ?_)
 rintro e V95 ⟨rfl, hDV95, MV95, hMV95, kV95⟩
 refine ⟨_, rfl, ?_⟩
 have h96 : Turns w.heap.size w V95 := Turns.trans h89 ⟨MV95, hMV95, kV95⟩
 have h98 : HP V95 go (Att.c (v1 3 5 0)) 28 := (kV95.block go (lt_of_block h92) (fun e => hMV95.no h92 e)).trans h92
 have K99 : Keeps ((fun j => w.heap.size ≤ j)) w V95 := K93.then kV95 (fun i hi hm => Nat.le_of_not_lt (fun h => hMV95.sub i h hm))
 have z100 := kV95.size
 refine ⟨h98, ?_⟩
 refine ka [4, 5, 6] h98 <| avq 8 _ (fun W hS => ldr 28 go (hS) (by rw [Att.c_size _ v1_r]; kernel_rfl)) h98 <| an_o 7 ?_
 refine ncr 9 #[.int .i64 4, .int .i64 4, .int .u8 0] Tryz.func9 (ltvote1_ok 4 4 0 0 (by decide) _) fun V101 kV101 => ?_
 have h102 := Turns.nn h96 kV101
 have h104 := kV101.bk h98
 have kb105 := (Keeps.refl Nob V95).nn kV101
 have K106 := K99.nn kV101
 have z107 := kV101.size
 refine ⟨h104, ?_⟩
 refine an_o 9 ?_
 refine ncq 28 #[pT d 0, .agg (Att.c (v1 4 4 0)), .int .i64 4, .agg (Att.c (v1 3 5 0)), .int .i64 11] Tryz.func28 ((ltattests_ok _ d _ _ _ _ _ K106.size (hDV95.keepsN kb105) (v1 4 4 0) (v1_ok _ (by decide) (by decide)) v1_r 4 11 (v1 3 5 0) v1_r kE7 _ v1_vd kY7 rfl _ kN7).mono ?_)
 rintro e V108 ⟨rfl, hDV108, MV108, hMV108, kV108⟩
 refine ⟨_, rfl, ?_⟩
 have h109 : Turns w.heap.size w V108 := Turns.trans h102 ⟨MV108, hMV108, kV108⟩
 have h111 : HP V108 go (Att.c (v1 3 5 0)) 28 := (kV108.block go (lt_of_block h104) (fun e => hMV108.no h104 e)).trans h104
 have K112 : Keeps ((fun j => w.heap.size ≤ j)) w V108 := K106.then kV108 (fun i hi hm => Nat.le_of_not_lt (fun h => hMV108.sub i h hm))
 have z113 := kV108.size
 refine ⟨h111, ?_⟩
 refine ka [10, 11, 12, 13, 15] h111 <| an_o 14 ?_
 refine ncr 9 #[.int .i64 3, .int .i64 4, .int .u8 0] Tryz.func9 (ltvote1_ok 3 4 0 0 (by decide) _) fun V114 kV114 => ?_
 have h115 := Turns.nn h109 kV114
 have h117 := kV114.bk h111
 have kb118 := (Keeps.refl Nob V108).nn kV114
 have K119 := K112.nn kV114
 have z120 := kV114.size
 refine ⟨h117, ?_⟩
 refine an_o 16 ?_
 refine ncq 28 #[pT d 0, .agg (Att.c (v1 3 4 0)), .int .i64 0, .agg (Att.c zAtt), .int .i64 0] Tryz.func28 ((ltattests_ok _ d _ _ _ _ _ K119.size (hDV108.keepsN kb118) (v1 3 4 0) (v1_ok _ (by decide) (by decide)) v1_r 0 0 zAtt zAtt_r kE8 _ z_vd kY8 rfl _ kN8).mono ?_)
 rintro e V121 ⟨rfl, hDV121, MV121, hMV121, kV121⟩
 refine ⟨_, rfl, ?_⟩
 have h122 : Turns w.heap.size w V121 := Turns.trans h115 ⟨MV121, hMV121, kV121⟩
 have h124 : HP V121 go (Att.c (v1 3 5 0)) 28 := (kV121.block go (lt_of_block h117) (fun e => hMV121.no h117 e)).trans h117
 have K125 : Keeps ((fun j => w.heap.size ≤ j)) w V121 := K119.then kV121 (fun i hi hm => Nat.le_of_not_lt (fun h => hMV121.sub i h hm))
 have z126 := kV121.size
 refine ⟨h124, ?_⟩
 refine ka [17, 18] h124 <| ane <| then_n <| n_ <| s_ <| tqr_ [0, 1] <| kk 2 <| ps_end <| then_n <| u_ <| so_ (pT d 0) ?_
 exact ⟨d, rfl, hDV121, h122.keeps (Keeps.refl Nob w) (Nat.le_refl _)⟩
noncomputable def qc120_2 (n : Nat) : Code := partOf Tryz.f20 n
theorem ltawake_ok (w : World) :
  Calls Tryz.prog 20 #[] w (fun e w' => e = .returned (.bool true) ∧ Keeps Nob w w') := by
 have t0 := Turns.refl w.heap.size w
 obtain ⟨i0, hi0, hz0, hz1, hz2⟩ := info_parts att_info0
 obtain ⟨i1, hi1, hw0, hw1, hw2⟩ := info_parts pro_info0
 have hok := (fun (x : Att) (hx : x ∈ ([v1 1 3 0, v1 3 4 0, v1 3 5 0] : List Att)) => show x.Ok by simp only [List.mem_cons, List.not_mem_nil, or_false] at hx; rcases hx with rfl | rfl | rfl <;> exact v1_ok _ (by decide) (by decide))
 have K0 : Keeps ((fun j => w.heap.size ≤ j)) w w := Keeps.refl _ _
 refine se_ (qc120_2 1) ⟨fs [un 24], []⟩ Tryz.func20 <| qr_ [0] <| kk 1 <| eqr_ [0, 1] ?_
 refine pcq 8 #[] Tryz.func8 ((ltsecond_ok _).mono ?_)
 rintro e V1 ⟨d, rfl, hDV1, kV1⟩
 have hLV1 := hDV1.lower K0.size
 refine ⟨_, rfl, ?_⟩
 have h2 := Turns.nn t0 kV1
 have K3 := K0.nn kV1
 have z4 := kV1.size
 refine kk 1 <| eqr_ nl22_ <| kk 4 ?_
 refine pcq 11 #[pT d 0, .int .i64 1] Tryz.func11 ((Det1.votes hLV1 1).mono ?_)
 rintro e V5 ⟨vaV5, rfl, hrV5, hnV5, kV5⟩
 rw [lV2] at hrV5
 have hsV5 : AttsAt V5 vaV5 [v1 1 3 0, v1 3 4 0, v1 3 5 0] := Row.sl hrV5 rfl (fun x hx => Att.cl_len (hok x hx))
 refine ⟨_, rfl, ?_⟩
 have h6 := Turns.nn h2 kV5
 have kb7 := (Keeps.refl Nob V1).nn kV5
 have K8 := K3.nn kV5
 have z9 := kV5.size
 refine pcr 9 #[.int .i64 1, .int .i64 3, .int .u8 0] Tryz.func9 (ltvote1_ok 1 3 0 0 (by decide) _) fun V10 kV10 => ?_
 have h11 := Turns.nn h6 kV10
 have kb12 := kb7.nn kV10
 have h13 : AttsAt V10 vaV5 ([v1 1 3 0, v1 3 4 0, v1 3 5 0]) := hsV5.keepsN kV10
 have K14 := K8.nn kV10
 have z15 := kV10.size
 refine pcr 9 #[.int .i64 3, .int .i64 4, .int .u8 0] Tryz.func9 (ltvote1_ok 3 4 0 0 (by decide) _) fun V16 kV16 => ?_
 have h17 := Turns.nn h11 kV16
 have kb18 := kb12.nn kV16
 have h19 : AttsAt V16 vaV5 ([v1 1 3 0, v1 3 4 0, v1 3 5 0]) := h13.keepsN kV16
 have K20 := K14.nn kV16
 have z21 := kV16.size
 refine pcr 9 #[.int .i64 3, .int .i64 5, .int .u8 0] Tryz.func9 (ltvote1_ok 3 5 0 0 (by decide) _) fun V22 kV22 => ?_
 have h23 := Turns.nn h17 kV22
 have kb24 := kb18.nn kV22
 have h25 : AttsAt V22 vaV5 ([v1 1 3 0, v1 3 4 0, v1 3 5 0]) := h19.keepsN kV22
 have K26 := K20.nn kV22
 have z27 := kV22.size
 obtain ⟨V28, eV28, gl, egl, h29, kV28⟩ := alloc_step V22 (([.agg (Att.c (v1 1 3 0)), .agg (Att.c (v1 3 4 0)), .agg (Att.c (v1 3 5 0))] : List Value).flatMap fun v => v.cells.toList).toArray 28
 have n30 := nk egl K26
 refine prq (.slice (some ⟨gl, 0, none⟩) 3 3) (w' := V28) (by rw [← eV28, ← egl]; exact exec_buildAll 32 28 3 #[(0, .tmp 8), (1, .tmp 9), (2, .tmp 10)] (by kernel_rfl) [.agg (Att.c (v1 1 3 0)), .agg (Att.c (v1 3 4 0)), .agg (Att.c (v1 3 5 0))] (by kernel_rfl) i0 _ Tryz.underlying32 hi0 hz0 36 hz1 (by decide) rfl (by decide) (by decide) (fun u hu => by simp only [List.mem_cons, List.not_mem_nil, or_false] at hu; rcases hu with rfl | rfl | rfl; exact Att.c_size _ v1_r; exact Att.c_size _ v1_r; exact Att.c_size _ v1_r)) ?_
 clear eV28
 have h31 : HP V28 gl ((List.flatMap Att.cl [v1 1 3 0, v1 3 4 0, v1 3 5 0]).toArray) 28 := h29
 have h32 := Turns.nn h23 kV28
 have kb33 := kb24.nn kV28
 have h34 : AttsAt V28 vaV5 ([v1 1 3 0, v1 3 4 0, v1 3 5 0]) := h25.keepsN kV28
 have K35 := K26.nn kV28
 have z36 := kV28.size
 refine pcr 18 #[vaV5, .slice (some ⟨gl, 0, none⟩) 3 3] Tryz.func18 ((show Calls Tryz.prog 18 #[vaV5, .slice (some ⟨gl, 0, none⟩) 3 3] V28 _ from (decide_eq_true (rfl : ([v1 1 3 0, v1 3 4 0, v1 3 5 0] : List Att) = [v1 1 3 0, v1 3 4 0, v1 3 5 0])) ▸ ltsameVotes_ok _ _ [v1 1 3 0, v1 3 4 0, v1 3 5 0] [v1 1 3 0, v1 3 4 0, v1 3 5 0] _ h34 (Sl.blockH h31 (fun x hx => Att.cl_len (hok x hx)) rfl (by decide)) hok hok)) fun V37 kV37 => ?_
 have h38 := Turns.nn h32 kV37
 have kb39 := kb33.nn kV37
 have K41 := K35.nn kV37
 have z42 := kV37.size
 refine kk 3 ?_
 refine pcr 14 #[.int .i64 11, .int .u8 0] Tryz.func14 (ltblock1_ok 11 0 0 (by decide) _) fun V43 kV43 => ?_
 have h44 := Turns.nn h38 kV43
 have kb45 := kb39.nn kV43
 have K47 := K41.nn kV43
 have z48 := kV43.size
 refine pcq 13 #[pT d 0, .agg (Pro.c (b1 11 0)), .int .i64 0, .int .i64 0, .int .i64 0] Tryz.func13 ((ltproposes_ok _ d _ _ _ _ _ K47.size (hLV1.keepsN kb45) (b1 11 0) (b1_ok _ (by decide)) b1_r 0 0 0 pE0 _ z_vd pY0 rfl rfl _ pN0).mono ?_)
 rintro e V49 ⟨rfl, hDV49, MV49, hMV49, kV49⟩
 refine ⟨_, rfl, ?_⟩
 have h50 : Turns w.heap.size w V49 := Turns.trans h44 ⟨MV49, hMV49, kV49⟩
 have K52 : Keeps ((fun j => w.heap.size ≤ j)) w V49 := K47.then kV49 (fun i hi hm => Nat.le_of_not_lt (fun h => hMV49.sub i h hm))
 have z53 := kV49.size
 refine kk 3 ?_
 refine pcr 14 #[.int .i64 11, .int .u8 9] Tryz.func14 (ltblock1_ok 11 9 9 (by decide) _) fun V54 kV54 => ?_
 have h55 := Turns.nn h50 kV54
 have kb57 := (Keeps.refl Nob V49).nn kV54
 have K58 := K52.nn kV54
 have z59 := kV54.size
 refine pcq 13 #[pT d 0, .agg (Pro.c (b1 11 9)), .int .i64 2, .int .i64 11, .int .i64 0] Tryz.func13 ((ltproposes_ok _ d _ _ _ _ _ K58.size (hDV49.keepsN kb57) (b1 11 9) (b1_ok _ (by decide)) b1_r 2 11 0 pE1 _ b1_vd pY1 rfl rfl _ pN1).mono ?_)
 rintro e V60 ⟨rfl, hDV60, MV60, hMV60, kV60⟩
 refine ⟨_, rfl, ?_⟩
 have h61 : Turns w.heap.size w V60 := Turns.trans h55 ⟨MV60, hMV60, kV60⟩
 have K63 : Keeps ((fun j => w.heap.size ≤ j)) w V60 := K58.then kV60 (fun i hi hm => Nat.le_of_not_lt (fun h => hMV60.sub i h hm))
 have z64 := kV60.size
 refine kk 2 <| ps_end <| then_n <| u_ <| so_ (.bool true) ?_
 exact ⟨rfl, h61.keeps (Keeps.refl Nob w) (Nat.le_refl _)⟩
end
section
open Go Go.RowKit Go.Own
theorem pick_ok (x n : Int) (w : World) (hx : -9223372036854775808 ≤ x ∧ x ≤ 9223372036854775807) (hn : n ≤ 9223372036854775807) :
  Calls Tryz.prog 22 #[.int .i64 x, .int .i64 n] w fun e w' => e = .returned (.int .i64 (if n ≤ 0 then 0 else x % n)) ∧ w = w' := by
 obtain ⟨hx1, hx2⟩ := hx
 by_cases h0 : n ≤ 0
 ·rw [if_pos h0]
  have d0 : decide (n ≤ 0) = true := by simpa using h0
  go_enter Tryz.func22, Tryz.ntmps22
  go_wp2
  go_ret
  exact ⟨rfl, rfl⟩
 ·rw [if_neg h0]
  have d0 : decide (n ≤ 0) = false := by simpa using h0
  have hnz : (n == 0) = false := by simp; omega
  have hnz2 : n ≠ 0 := by omega
  have e1 : x.tmod n = if x < 0 ∧ x % n ≠ 0 then x % n - n else x % n := by
   have h1 := Int.emod_nonneg x (show n ≠ 0 by omega)
   have h2 := Int.emod_lt_of_pos x (show 0 < n by omega)
   rw [Int.tmod_eq_emod]
   split
   ·rename_i h
    rw [if_neg]
    ·simp
    ·intro h3
     rcases h with h | h
     ·omega
     ·exact h3.2 (Int.emod_eq_zero_of_dvd h)
   ·rename_i h
    have h4 : ¬ n ∣ x := fun hd => h (.inr hd)
    rw [if_pos ⟨by omega, fun he => h4 (Int.dvd_of_emod_eq_zero he)⟩]
    omega
  have h1 := Int.emod_nonneg x (show n ≠ 0 by omega)
  have h2 := Int.emod_lt_of_pos x (show 0 < n by omega)
  by_cases hc : x < 0 ∧ x % n ≠ 0
  ·have e2 : x.tmod n = x % n - n := by rw [e1, if_pos hc]
   have d1 : decide (x.tmod n < 0) = true := by simp; omega
   have w1 : wrap64 (x.tmod n + n) = x.tmod n + n := IntWalk.wrap64_in _ ⟨by omega, by omega⟩
   have E2 := Lib.hid e2
   clear e1 e2 hc h1 h2
   go_enter Tryz.func22, Tryz.ntmps22
   go_wp2
   go_ret
   exact ⟨ret_int (by rw [E2.out]; omega), rfl⟩
  ·have e2 : x.tmod n = x % n := by rw [e1, if_neg hc]
   have d1 : decide (x.tmod n < 0) = false := by simp; omega
   have E2 := Lib.hid e2
   clear e1 e2 hc h1 h2
   go_enter Tryz.func22, Tryz.ntmps22
   go_wp2
   go_ret
   exact ⟨ret_int (by rw [E2.out]), rfl⟩
end
section
open Go Go.RowKit Go.Own Go.Shelf
theorem dexec_min {P : Program} {o : Oper} {ρ : Operand → Value} {w : World} (x y : Operand) (ts : Array TypeId) (ho : o.op = .call { callee := .builtin .min, args := #[x, y], argTypes := ts }) (k : IntKind) (a b c : Int) (hx : ρ x = .int k a) (hy : ρ y = .int k b) (hc : c = min a b) :
  (execOp ρ o).run P w = .ok (.value (.int k c)) w := by
 subst hc
 unfold execOp
 simp [ho, hx, hy, resolve, invoke, builtin, Builtin.min_, Builtin.min2]
 rw [Int.min_def]
 split <;> split <;> omega
theorem exec_rem3 {P : Program} {o : Oper} {ρ : Operand → Value} {w : World} (t t' : TypeId) (x y : Operand) (ho : o.op = .binOp .rem t x y t') (a c : Nat) (hx : ρ x = .int .u8 (a : Int)) (hy : ρ y = .int .u8 3) (hc : a % 3 = c) :
  (execOp ρ o).run P w = .ok (.value (.int .u8 ((c : Nat) : Int))) w := by
 subst hc
 refine exec_binop .rem t t' x y ho _ _ _ hx hy rfl ?_
 rw [binOp_rem]
 simp only [Op.intDiv, if_neg (show ¬ (3 : Int) = 0 by decide)]
 exact congrArg (fun x => Result.ok (Value.int .u8 x) w) (show Int.tmod (a : Int) 3 = ((a % 3 : Nat) : Int) from rfl)
theorem pick_as (x n m : Int) (w : World) (hx : i64b x) (h0 : 0 < n) (hn : n ≤ 9223372036854775807) (hm : x % n = m) : Calls Tryz.prog 22 #[.int .i64 x, .int .i64 n] w fun e w' => e = .returned (.int .i64 m) ∧ w = w' := by
 have h := pick_ok x n w hx hn
 rw [if_neg (by omega), hm] at h; exact h
def nearAct (p : Par) (h : Int) (x : DAct) : DAct :=
 ⟨x.k % 3, ⟨x.a.v % 3, dlo p h + x.a.s % (dep p h - dlo p h + 1), dlo p h + x.a.s % (dep p h - dlo p h + 1) + x.a.t % (dep p h - (dlo p h + x.a.s % (dep p h - dlo p h + 1)) + 1), byteH (x.a.r.getD 0 0 % 3), x.a.g⟩,
  ⟨x.q.v % 3, max (dfl p h) (h - x.q.h % 5), byteH (x.q.r.getD 0 0 % 3), x.q.g⟩, min (h + x.h % 4) 5000⟩
section
variable {k f : Int} {b : List Value}
theorem vdC_sett (a : Att) (x : Int) : (vdC k a.cl b f).setIfInBounds 3 (.int .i64 x) = vdC k (Att.cl ⟨a.v, a.s, x, a.r, a.g⟩) b f := by simp [vdC, Att.cl, Att.c]
theorem vdC_t (a : Att) : (vdC k a.cl b f)[3]? = some (.int .i64 a.t) := by simp [vdC, Att.cl, Att.c]
theorem vdC_s (a : Att) : (vdC k a.cl b f)[2]? = some (.int .i64 a.s) := by simp [vdC, Att.cl, Att.c]
end
noncomputable def qc122_0 (n : Nat) : Code := partOf Tryz.f23 n
noncomputable abbrev qo122_0 (n k : Nat) : Oper := (opsAt (qc122_0 n)).getD k default
theorem ltnear_ok (B d : Nat) (p : Par) (h : Int) (A : List Att) (Q : List Pro) (x : DAct) (w : World) (D0 : Det1 B w d p h A Q) (hx : x.Ok) :
  Calls Tryz.prog 23 #[.agg p.cells, pT d 0, .agg (DAct.c x)] w (fun e w' => e = .returned (.agg (DAct.c (nearAct p h x))) ∧ Keeps Nob w w') := by
 have hk := D0.inv.ok
 have g1 := hk.lo
 have g2 := hk.ep
 have g3 := hk.fl
 have g4 := hk.2.2
 obtain ⟨lo, hlo⟩ : ∃ y, dlo p h = y := ⟨_, rfl⟩
 obtain ⟨ee, hee⟩ : ∃ y, dep p h = y := ⟨_, rfl⟩
 obtain ⟨ff, hff⟩ : ∃ y, dfl p h = y := ⟨_, rfl⟩
 rw [hlo, hee] at g1
 rw [hee] at g2
 rw [hff] at g3
 obtain ⟨k0, hk0⟩ : ∃ y, x.k % 3 = y := ⟨_, rfl⟩
 have bk0 : 0 ≤ k0 ∧ k0 < 3 := ⟨hk0 ▸ Int.emod_nonneg _ (by omega), hk0 ▸ Int.emod_lt_of_pos _ (by omega)⟩
 obtain ⟨h0, hh0⟩ : ∃ y, x.h % 4 = y := ⟨_, rfl⟩
 have bh0 : 0 ≤ h0 ∧ h0 < 4 := ⟨hh0 ▸ Int.emod_nonneg _ (by omega), hh0 ▸ Int.emod_lt_of_pos _ (by omega)⟩
 obtain ⟨v0, hv0⟩ : ∃ y, x.a.v % 3 = y := ⟨_, rfl⟩
 have bv0 : 0 ≤ v0 ∧ v0 < 3 := ⟨hv0 ▸ Int.emod_nonneg _ (by omega), hv0 ▸ Int.emod_lt_of_pos _ (by omega)⟩
 obtain ⟨m1, hm1⟩ : ∃ y, x.a.s % (ee - lo + 1) = y := ⟨_, rfl⟩
 have bm1 : 0 ≤ m1 ∧ m1 < ee - lo + 1 := ⟨hm1 ▸ Int.emod_nonneg _ (by omega), hm1 ▸ Int.emod_lt_of_pos _ (by omega)⟩
 obtain ⟨t0, ht0⟩ : ∃ y, x.a.t % (ee - (lo + m1) + 1) = y := ⟨_, rfl⟩
 have bt0 : 0 ≤ t0 ∧ t0 < ee - (lo + m1) + 1 := ⟨ht0 ▸ Int.emod_nonneg _ (by omega), ht0 ▸ Int.emod_lt_of_pos _ (by omega)⟩
 obtain ⟨v1_, hv1_⟩ : ∃ y, x.q.v % 3 = y := ⟨_, rfl⟩
 have bv1_ : 0 ≤ v1_ ∧ v1_ < 3 := ⟨hv1_ ▸ Int.emod_nonneg _ (by omega), hv1_ ▸ Int.emod_lt_of_pos _ (by omega)⟩
 obtain ⟨q1, hq1⟩ : ∃ y, x.q.h % 5 = y := ⟨_, rfl⟩
 have bq1 : 0 ≤ q1 ∧ q1 < 5 := ⟨hq1 ▸ Int.emod_nonneg _ (by omega), hq1 ▸ Int.emod_lt_of_pos _ (by omega)⟩
 obtain ⟨ba, hba0⟩ : ∃ y, x.a.r.getD 0 0 % 3 = y := ⟨_, rfl⟩
 have hba : (x.a.r.getD 0 0).toNat % 3 = ba.toNat := by rw [← hba0, UInt8.toNat_mod]; rfl
 obtain ⟨bb, hbb0⟩ : ∃ y, x.q.r.getD 0 0 % 3 = y := ⟨_, rfl⟩
 have hbb : (x.q.r.getD 0 0).toNat % 3 = bb.toNat := by rw [← hbb0, UInt8.toNat_mod]; rfl
 have hfin : DAct.Ok ⟨k0, ⟨v0, lo + m1, lo + m1 + t0, byteH ba, x.a.g⟩, ⟨v1_, max ff (h - q1), byteH bb, x.q.g⟩, min (h + h0) 5000⟩ := ⟨⟨by dsimp only; omega, by dsimp only; omega⟩, ⟨⟨by dsimp only; omega, by dsimp only; omega⟩, ⟨by dsimp only; omega, by dsimp only; omega⟩, ⟨by dsimp only; omega, by dsimp only; omega⟩, byteH_len _, hx.a.g⟩, ⟨⟨by dsimp only; omega, by dsimp only; omega⟩, ⟨by dsimp only; omega, by dsimp only; omega⟩, byteH_len _, hx.q.g⟩, ⟨by dsimp only; omega, by dsimp only; omega⟩⟩
 have K0 : Keeps Nob w w := Keeps.refl _ _
 refine se_ (qc122_0 1) ⟨fr [.agg p.cells, pT d 0, .agg (DAct.c x)] 107, []⟩ Tryz.func23 <| qr_ [0, 1, 2] <| pbx 47 p.cells (.agg p.cells) fun V1 gp egp h2 kV1 => ?_
 have n3 := nk egp K0
 have K4 := K0.nn kV1
 have z5 := kV1.size
 refine pbx 54 ((DAct.c x)) (.agg (DAct.c x)) fun V6 gx egx h7 kV6 => ?_
 have n8 := nl egx h2
 have n9 := nk egx K4
 have ⟨K11, z12, h10⟩ := kV6.z1 K4 h2
 refine pal 54 (vdC 0 attZ proZ 0) (.agg (vdC 0 attZ proZ 0)) fun V13 res eres h14 kV13 => ?_
 have n15 := nl eres h10
 have n16 := nl eres h7
 have n17 := nk eres K11
 have ⟨K20, z21, h18, h19⟩ := kV13.z2 K11 h10 h7
 refine eqr_ [0, 1, 2] <| kk 1 ?_
 refine pcq 12 #[pT d 0] Tryz.func12 ((Det1.height (D0.keepsN K20)).mono ?_)
 rintro e w1 ⟨rfl, rfl⟩
 refine ⟨_, rfl, ?_⟩
 refine kk 1 <| eqr_ nl8_ <| ppq (.agg p.cells) (exec_load_row 47 (.tmp 3) (by kernel_rfl) _ (by kernel_rfl) 47 p.cells (0, 0) _ h18 Tryz.underlying47 rfl (by kernel_rfl)) <| kk 1 ?_
 refine pcr 26 #[.agg p.cells, .int .i64 h] Tryz.func26 (dpLow_is hk hlo _) fun V22 kV22 => ?_
 have ⟨K26, z27, h23, h24, h25⟩ := kV22.z3 K20 h18 h19 h14
 refine kk 5 <| eqr_ nl8_ <| ppq (.agg p.cells) (exec_load_row 47 (.tmp 3) (by kernel_rfl) _ (by kernel_rfl) 47 p.cells (0, 0) _ h23 Tryz.underlying47 rfl (by kernel_rfl)) <| kk 1 ?_
 refine pcr 27 #[.agg p.cells, .int .i64 h] Tryz.func27 (dpEpoch_is hk hee _) fun V28 kV28 => ?_
 have ⟨K32, z33, h29, h30, h31⟩ := kV28.z3 K26 h23 h24 h25
 refine kk 5 <| eqr_ nl8_ <| ppq (.agg p.cells) (exec_load_row 47 (.tmp 3) (by kernel_rfl) _ (by kernel_rfl) 47 p.cells (0, 0) _ h29 Tryz.underlying47 rfl (by kernel_rfl)) <| kk 1 ?_
 refine pcr 44 #[.agg p.cells, .int .i64 h] Tryz.func44 (dpFloor_is hk hff _) fun V34 kV34 => ?_
 have ⟨K38, z39, h35, h36, h37⟩ := kV34.z3 K32 h29 h30 h31
 refine kk 5 <| ps_end <| tq_ ?_
 refine sy_cut (fun aQ VQ => ∃ (gy : Nat), (aQ = ⟨fr [.agg p.cells, pT d 0, .agg (DAct.c x), pT gp 0, ud, pT gx 0, pT res 0, .int .i64 h, .int .i64 lo, .int .i64 0, .int .i64 ee, .int .i64 0, .int .i64 ff, .int .i64 0, pT gy 0, pT d 0, .int .i64 h, .tuple #[.int .i64 lo, .int .i64 0], .agg p.cells, .int .i64 h, .tuple #[.int .i64 lo, .int .i64 0], .int .i64 lo, .int .i64 0, .tuple #[.int .i64 ee, .int .i64 0], .agg p.cells, .int .i64 h, .tuple #[.int .i64 ee, .int .i64 0], .int .i64 ee, .int .i64 0, .tuple #[.int .i64 ff, .int .i64 0], .agg p.cells, .int .i64 h, .tuple #[.int .i64 ff, .int .i64 0], .int .i64 ff, .int .i64 0, pT gx 0, .int .i64 x.k, .int .i64 k0, .int .i64 h, pT gx 72, .int .i64 x.h, .int .i64 h0, .int .i64 (h + h0), .int .i64 (min (h + h0) 5000), .agg (vdC k0 attZ proZ (min (h + h0) 5000))] 65, []⟩) ∧ (HP VQ gp p.cells 47) ∧ (HP VQ gx (DAct.c x) 54) ∧ (HP VQ res (vdC 0 attZ proZ 0) 54) ∧ (HP VQ gy (vdC k0 attZ proZ (min (h + h0) 5000)) 54) ∧ (gy ≠ gp ∧ gy ≠ gx ∧ gy ≠ res ∧ w.heap.size ≤ gy ∧ V34.heap.size ≤ gy) ∧ (Keeps Nob w VQ)) ?_ ?_
 ·refine sy_np <| sy_reg <| anb 12 (fun W => (HP W gx (DAct.c x) 54)) #[false, false, false, false, false, false, false, false, false, false, false, false] ?_
  obtain ⟨V40, eV40, kV40⟩ := drew_step V34
  rw [eV40]
  clear eV40
  have ⟨K44, z45, h41, h42, h43⟩ := kV40.z3 K38 h35 h36 h37
  refine ka [0] h42 <| avq 1 _ (fun W hS => lc (hS) (DAct.c_0)) h42 <| ka [3, 4] h42 <| avq 5 _ (fun W hS => lc (hS) (DAct.c_h hx)) h42 ?_
  refine an_two 2 10 (by kernel_rfl) ?_ ?_
  ·refine ncq 22 #[.int .i64 x.k, .int .i64 3] Tryz.func22 ((pick_as (x.k) (3) k0 _ hx.k (by omega) (by omega) hk0).mono ?_)
   rintro e w1 ⟨rfl, rfl⟩
   refine ⟨_, rfl, ?_⟩
   refine ⟨h42, ?_⟩
   refine an_two 6 10 (by kernel_rfl) ?_ ?_
   ·refine ncq 22 #[.int .i64 x.h, .int .i64 4] Tryz.func22 ((pick_as (x.h) (4) h0 _ hx.h (by omega) (by omega) hh0).mono ?_)
    rintro e w1 ⟨rfl, rfl⟩
    refine ⟨_, rfl, ?_⟩
    refine ⟨h42, ?_⟩
    refine avq 7 _ (fun W hS => cwI (x := h + h0)) h42 <| avq 8 (.int .i64 (min (h + h0) 5000)) (fun W hS => dexec_min (.tmp 42) (.const (.int .i64 5000)) #[3, 3] (by kernel_rfl) .i64 (h + h0) 5000 _ (by kernel_rfl) (by kernel_rfl) rfl) h42 <| ka [9] h42 <| an_o 10 <| nal 54 (vdC 0 attZ proZ 0) (.agg (vdC 0 attZ proZ 0)) fun V46 gy egy h47 kV46 => ?_
    have n48 := nl egy h41
    have n49 := nl egy h42
    have n50 := nl egy h43
    have n51 := nk egy K44
    have ⟨K55, z56, h52, h53, h54⟩ := kV46.z3 K44 h41 h42 h43
    refine ⟨h53, ?_⟩
    refine an_o 11 <| nsk 54 gy (vdC k0 attZ proZ (min (h + h0) 5000)) h47 fun V57 h58 kV57 => ?_
    have ⟨K62, z63, h59, h60, h61⟩ := kV57.zo3 K55 h52 h53 h54
    refine ⟨h60, ?_⟩
    refine ane ?_
    exact ⟨rfl, gy, by kernel_rfl, h59, h60, h61, h58, by omega, K62⟩
   ·refine nal 54 (vdC 0 attZ proZ 0) (.agg (vdC 0 attZ proZ 0)) fun V64 gy egy h65 kV64 => ?_
    have n66 := nl egy h41
    have n67 := nl egy h42
    have n68 := nl egy h43
    have n69 := nk egy K44
    have ⟨K73, z74, h70, h71, h72⟩ := kV64.z3 K44 h41 h42 h43
    refine ⟨h71, ?_⟩
    refine an_o 6 ?_
    refine ncq 22 #[.int .i64 x.h, .int .i64 4] Tryz.func22 ((pick_as (x.h) (4) h0 _ hx.h (by omega) (by omega) hh0).mono ?_)
    rintro e w1 ⟨rfl, rfl⟩
    refine ⟨_, rfl, ?_⟩
    refine ⟨h71, ?_⟩
    refine avq 7 _ (fun W hS => cwI (x := h + h0)) h71 <| avq 8 (.int .i64 (min (h + h0) 5000)) (fun W hS => dexec_min (.tmp 42) (.const (.int .i64 5000)) #[3, 3] (by kernel_rfl) .i64 (h + h0) 5000 _ (by kernel_rfl) (by kernel_rfl) rfl) h71 <| ka [9] h71 <| an_o 11 <| nsk 54 gy (vdC k0 attZ proZ (min (h + h0) 5000)) h65 fun V75 h76 kV75 => ?_
    have ⟨K80, z81, h77, h78, h79⟩ := kV75.zo3 K73 h70 h71 h72
    refine ⟨h78, ?_⟩
    refine ane ?_
    exact ⟨rfl, gy, by kernel_rfl, h77, h78, h79, h76, by omega, K80⟩
  ·refine nal 54 (vdC 0 attZ proZ 0) (.agg (vdC 0 attZ proZ 0)) fun V82 gy egy h83 kV82 => ?_
   have n84 := nl egy h41
   have n85 := nl egy h42
   have n86 := nl egy h43
   have n87 := nk egy K44
   have ⟨K91, z92, h88, h89, h90⟩ := kV82.z3 K44 h41 h42 h43
   refine ⟨h89, ?_⟩
   refine an_o 2 ?_
   refine ncq 22 #[.int .i64 x.k, .int .i64 3] Tryz.func22 ((pick_as (x.k) (3) k0 _ hx.k (by omega) (by omega) hk0).mono ?_)
   rintro e w1 ⟨rfl, rfl⟩
   refine ⟨_, rfl, ?_⟩
   refine ⟨h89, ?_⟩
   refine an_o 6 ?_
   refine ncq 22 #[.int .i64 x.h, .int .i64 4] Tryz.func22 ((pick_as (x.h) (4) h0 _ hx.h (by omega) (by omega) hh0).mono ?_)
   rintro e w1 ⟨rfl, rfl⟩
   refine ⟨_, rfl, ?_⟩
   refine ⟨h89, ?_⟩
   refine avq 7 _ (fun W hS => cwI (x := h + h0)) h89 <| avq 8 (.int .i64 (min (h + h0) 5000)) (fun W hS => dexec_min (.tmp 42) (.const (.int .i64 5000)) #[3, 3] (by kernel_rfl) .i64 (h + h0) 5000 _ (by kernel_rfl) (by kernel_rfl) rfl) h89 <| ka [9] h89 <| an_o 11 <| nsk 54 gy (vdC k0 attZ proZ (min (h + h0) 5000)) h83 fun V93 h94 kV93 => ?_
   have ⟨K98, z99, h95, h96, h97⟩ := kV93.zo3 K91 h88 h89 h90
   refine ⟨h96, ?_⟩
   refine ane ?_
   exact ⟨rfl, gy, by kernel_rfl, h95, h96, h97, h94, by omega, K98⟩
 rintro aQ V100 ⟨gy, rfl, h101, h102, h103, h104, hd105, K106⟩
 have z107 := lt_of_block h104
 refine tq_ <| sy_reg <| rgs 24 (zo24_ (qo122_0 254)) [qo122_0 254 24, qo122_0 254 25] ?_
 obtain ⟨V109, eV109, kV109⟩ := drew_step V100
 rw [eV109]
 clear eV109
 have ⟨K114, z115, h111, h112, h113⟩ := kV109.z3 K106 h102 h103 h104
 refine ks 2 <| spq _ (lc (h111) (DAct.c_a (j := 0) Att.cl_0)) <| scq 22 #[.int .i64 x.a.v, .int .i64 3] (.int .i64 v0) Tryz.func22 (pick_as (x.a.v) (3) v0 _ hx.a.v (by omega) (by omega) hv0) <| ks 3 <| spq _ (lc (h111) (DAct.c_a (j := 1) Att.cl_1)) <| ks 2 <| spq _ (cwI (x := ee - lo)) <| spq _ (cwI (x := (ee - lo) + 1)) <| scq 22 #[.int .i64 x.a.s, .int .i64 ((ee - lo) + 1)] (.int .i64 m1) Tryz.func22 (pick_as (x.a.s) (ee - lo + 1) m1 _ hx.a.s (by omega) (by omega) hm1) <| spq _ (cwI (x := lo + m1)) ?_
 refine ks 2 <| spq (pT gx 4) (exec_cast (v := pT gx (4 + 0 * 1)) (by simp) (ixa gx 4 .i64 0 1 Tryz.underlying25 (by omega))) <| spq _ (lc (h111) (DAct.c_a (j := 3) (Att.cl_r0 hx.a.r))) <| spq (cN ba.toNat) (exec_rem3 5 5 (.tmp 62) (.const (.int .u8 3)) (by kernel_rfl) ((x.a.r.getD 0 0).toNat) (ba.toNat) (by kernel_rfl) (by kernel_rfl) hba) <| ks 3 <| spq _ (lc (h111) (DAct.c_a (j := 35) (Att.cl_tag hx.a.r))) <| ks 1 <| st_end <| ls_run (qo122_0 254 24) (pT gy 1) (w' := V109) (by kernel_rfl) (by kernel_rfl) ?_
 obtain ⟨V116, eV116⟩ : ∃ V, V109.setCells gy 1 (Att.c (⟨v0, lo + m1, 0, byteH ba, x.a.g⟩)).toList = V := ⟨_, rfl⟩
 have kV116 : Keeps (One gy) V109 V116 := eV116 ▸ Keeps.setCells _ _ _ _
 have h117 : HP V116 gy (vdC k0 (Att.cl (⟨v0, lo + m1, 0, byteH ba, x.a.g⟩)) proZ (min (h + h0) 5000)) 54 := eV116 ▸ (heap_setCells _ _ (Att.c (⟨v0, lo + m1, 0, byteH ba, x.a.g⟩)).toList 1 _ _ h113 (by rw [vdC_size attZ_len proZ_len, (show (Att.c (⟨v0, lo + m1, 0, byteH ba, x.a.g⟩)).toList.length = 36 from Att.tl (byteH_len _))]; decide)).trans (congrArg (fun c => some (Obj.cells c 54 (0, 0))) (vdC_seta attZ_len proZ_len (Att.tl (a := ⟨v0, lo + m1, 0, byteH ba, x.a.g⟩) (byteH_len _))))
 refine ls_skip (qo122_0 254 25) (w' := V116) (by kernel_rfl) (by rw [← eV116]; exact exec_store_mid 28 (.tmp 69) (.tmp 68) (by kernel_rfl) gy 1 (by kernel_rfl) (Att.c (⟨v0, lo + m1, 0, byteH ba, x.a.g⟩)) (by kernel_rfl) _ _ h113 (by rw [vdC_size attZ_len proZ_len, (show (Att.c (⟨v0, lo + m1, 0, byteH ba, x.a.g⟩)).size = 36 from Att.c_size _ (byteH_len _))]; decide) (by rw [(show (Att.c (⟨v0, lo + m1, 0, byteH ba, x.a.g⟩)).size = 36 from Att.c_size _ (byteH_len _))]; kernel_rfl) (Att.c_one _)) ?_
 clear eV116
 have ⟨K121, z122, h119, h120⟩ := kV116.zo2 K114 h111 h112
 refine ls_end <| tq_ <| sy_reg <| rgs 14 (zo14_ (qo122_0 510)) [qo122_0 510 14, qo122_0 510 15, qo122_0 510 16] ?_
 obtain ⟨V124, eV124, kV124⟩ := drew_step V116
 rw [eV124]
 clear eV124
 have ⟨K129, z130, h126, h127, h128⟩ := kV124.z3 K121 h119 h120 h117
 refine ks 2 <| spq _ (lc (h128) (vdC_s _)) <| ks 2 <| spq _ (lc (h126) (DAct.c_a (j := 2) Att.cl_2)) <| ks 3 <| spq _ (lc (h128) (vdC_s _)) <| spq _ (cwI (x := ee - (lo + m1))) <| spq _ (cwI (x := (ee - (lo + m1)) + 1)) <| scq 22 #[.int .i64 x.a.t, .int .i64 ((ee - (lo + m1)) + 1)] (.int .i64 t0) Tryz.func22 (pick_as (x.a.t) (ee - (lo + m1) + 1) t0 _ hx.a.t (by omega) (by omega) ht0) <| spq _ (cwI (x := (lo + m1) + t0)) ?_
 refine st_end <| ls_run (qo122_0 510 14) (pT gy 1) (w' := V124) (by kernel_rfl) (by kernel_rfl) <| ls_run (qo122_0 510 15) (pT gy 3) (w' := V124) (by kernel_rfl) (by kernel_rfl) ?_
 obtain ⟨V131, eV131, kV131⟩ := cell_step V124 gy 3 (.int .i64 ((lo + m1) + t0))
 have h132 : HP V131 gy (vdC k0 (Att.cl (⟨v0, lo + m1, lo + m1 + t0, byteH ba, x.a.g⟩)) proZ (min (h + h0) 5000)) 54 := eV131 ▸ ((heap_setCell_same _ gy 3 _ _ (.int .i64 ((lo + m1) + t0)) h128).trans (congrArg (fun c => some (Obj.cells c 54 (0, 0))) (show (vdC k0 (Att.cl (⟨v0, lo + m1, 0, byteH ba, x.a.g⟩)) proZ (min (h + h0) 5000) : Array Value).setIfInBounds 3 (.int .i64 ((lo + m1) + t0)) = vdC k0 (Att.cl (⟨v0, lo + m1, lo + m1 + t0, byteH ba, x.a.g⟩)) proZ (min (h + h0) 5000) from vdC_sett _ _)))
 refine ls_skip (qo122_0 510 16) (w' := V131) (by kernel_rfl) (by rw [← eV131]; exact exec_store_cell 3 (.tmp 85) (.tmp 83) (by kernel_rfl) gy 3 (by kernel_rfl) (.int .i64 ((lo + m1) + t0)) (by kernel_rfl) (by kernel_rfl) (by kernel_rfl) (.int .i64 0) (rc (h128) (vdC_t _)) (frozen_of_row _ _ _ _ _ h128) (by kernel_rfl)) ?_
 clear eV131
 have ⟨K136, z137, h134, h135⟩ := kV131.zo2 K129 h126 h127
 refine ls_end <| tq_ <| sy_reg <| rgs 22 (zo22_ (qo122_0 1022)) [qo122_0 1022 22, qo122_0 1022 23] ?_
 obtain ⟨V139, eV139, kV139⟩ := drew_step V131
 rw [eV139]
 clear eV139
 have ⟨K144, z145, h141, h142, h143⟩ := kV139.z3 K136 h134 h135 h132
 refine ks 2 <| spq _ (lc (h141) (DAct.c_q (j := 0) hx Pro.cl_0)) <| scq 22 #[.int .i64 x.q.v, .int .i64 3] (.int .i64 v1_) Tryz.func22 (pick_as (x.q.v) (3) v1_ _ hx.q.v (by omega) (by omega) hv1_) <| ks 4 <| spq _ (lc (h141) (DAct.c_q (j := 1) hx Pro.cl_1)) <| scq 22 #[.int .i64 x.q.h, .int .i64 5] (.int .i64 q1) Tryz.func22 (pick_as (x.q.h) (5) q1 _ hx.q.h (by omega) (by omega) hq1) <| spq _ (cwI (x := h - q1)) <| spq (.int .i64 (max ff (h - q1))) (exec_max (.tmp 90) (.tmp 96) #[3, 3] (by kernel_rfl) .i64 ff (h - q1) (by kernel_rfl) (by kernel_rfl)) <| ks 2 ?_
 refine spq (pT gx 39) (exec_cast (v := pT gx (39 + 0 * 1)) (by simp) (ixa gx 39 .i64 0 1 Tryz.underlying25 (by omega))) <| spq _ (lc (h141) (DAct.c_q (j := 2) hx (Pro.cl_r0 hx.q.r))) <| spq (cN bb.toNat) (exec_rem3 5 5 (.tmp 101) (.const (.int .u8 3)) (by kernel_rfl) ((x.q.r.getD 0 0).toNat) (bb.toNat) (by kernel_rfl) (by kernel_rfl) hbb) <| ks 3 <| spq _ (lc (h141) (DAct.c_q (j := 34) hx (Pro.cl_tag hx.q.r))) <| ks 1 <| st_end <| ls_run (qo122_0 1022 22) (pT gy 37) (w' := V139) (by kernel_rfl) (by kernel_rfl) ?_
 obtain ⟨V146, eV146⟩ : ∃ V, V139.setCells gy 37 (Pro.c (⟨v1_, max ff (h - q1), byteH bb, x.q.g⟩)).toList = V := ⟨_, rfl⟩
 have kV146 : Keeps (One gy) V139 V146 := eV146 ▸ Keeps.setCells _ _ _ _
 have h147 : HP V146 gy (vdC k0 (Att.cl (⟨v0, lo + m1, lo + m1 + t0, byteH ba, x.a.g⟩)) (Pro.cl (⟨v1_, max ff (h - q1), byteH bb, x.q.g⟩)) (min (h + h0) 5000)) 54 := eV146 ▸ (heap_setCells _ _ (Pro.c (⟨v1_, max ff (h - q1), byteH bb, x.q.g⟩)).toList 37 _ _ h143 (by rw [vdC_size (Att.tl (byteH_len _)) proZ_len, (show (Pro.c (⟨v1_, max ff (h - q1), byteH bb, x.q.g⟩)).toList.length = 35 from Pro.tl (byteH_len _))]; decide)).trans (congrArg (fun c => some (Obj.cells c 54 (0, 0))) (vdC_setb (Att.tl (byteH_len _)) proZ_len (Pro.tl (a := ⟨v1_, max ff (h - q1), byteH bb, x.q.g⟩) (byteH_len _))))
 refine ls_skip (qo122_0 1022 23) (w' := V146) (by kernel_rfl) (by rw [← eV146]; exact exec_store_mid 37 (.tmp 108) (.tmp 107) (by kernel_rfl) gy 37 (by kernel_rfl) (Pro.c (⟨v1_, max ff (h - q1), byteH bb, x.q.g⟩)) (by kernel_rfl) _ _ h143 (by rw [vdC_size (Att.tl (byteH_len _)) proZ_len, (show (Pro.c (⟨v1_, max ff (h - q1), byteH bb, x.q.g⟩)).size = 35 from Pro.c_size _ (byteH_len _))]; decide) (by rw [(show (Pro.c (⟨v1_, max ff (h - q1), byteH bb, x.q.g⟩)).size = 35 from Pro.c_size _ (byteH_len _))]; kernel_rfl) (Pro.c_one _)) ?_
 clear eV146
 have ⟨K151, z152, h150⟩ := kV146.zo1 K144 h142
 refine ls_end <| tqr_ [0, 1] <| ppq (.agg (DAct.c ⟨k0, ⟨v0, lo + m1, lo + m1 + t0, byteH ba, x.a.g⟩, ⟨v1_, max ff (h - q1), byteH bb, x.q.g⟩, min (h + h0) 5000⟩)) (exec_load_row 54 (.tmp 14) (by kernel_rfl) _ (by kernel_rfl) 54 (DAct.c ⟨k0, ⟨v0, lo + m1, lo + m1 + t0, byteH ba, x.a.g⟩, ⟨v1_, max ff (h - q1), byteH bb, x.q.g⟩, min (h + h0) 5000⟩) (0, 0) _ h147 Tryz.underlying54 rfl (by rw [DAct.c_size hfin]; kernel_rfl)) <| pst 54 res ((DAct.c ⟨k0, ⟨v0, lo + m1, lo + m1 + t0, byteH ba, x.a.g⟩, ⟨v1_, max ff (h - q1), byteH bb, x.q.g⟩, min (h + h0) 5000⟩)) h150 (by rw [DAct.c_size hfin]; kernel_rfl) (by rw [DAct.c_size hfin]; rfl) DAct.c_one fun V153 h154 kV153 => ?_
 have K158 := K151.nO kV153
 have z159 := kV153.size
 refine eu_ <| sy_out (.agg (DAct.c (⟨k0, ⟨v0, lo + m1, lo + m1 + t0, byteH ba, x.a.g⟩, ⟨v1_, max ff (h - q1), byteH bb, x.q.g⟩, min (h + h0) 5000⟩))) rfl (rcr 54 res h154 Tryz.underlying54 (by rw [DAct.c_size hfin]; kernel_rfl)) ?_
 exact ⟨by rw [show nearAct p h x = ⟨k0, ⟨v0, lo + m1, lo + m1 + t0, byteH ba, x.a.g⟩, ⟨v1_, max ff (h - q1), byteH bb, x.q.g⟩, min (h + h0) 5000⟩ by subst hlo hee hff hk0 hh0 hv0 hm1 ht0 hv1_ hq1 hba0 hbb0; rfl], K158⟩
end
section
open Go Go.RowKit Go.Own Go.Shelf
theorem Vd.c_a {x : Vd} {j : Nat} {u : Value} (h : x.a.cl[j]? = some u) : x.c[1 + j]? = some u := by
 unfold Vd.c vdC
 rw [List.getElem?_toArray, Nat.add_comm, List.getElem?_cons_succ, List.getElem?_append_left (List.getElem?_eq_some_iff.1 h).1]; exact h
end
section
open Go Go.RowKit Go.Own Go.Shelf
end
section
open Go Go.RowKit Go.Own Go.Shelf
section
variable {p : Par} {h : Int} {A : List Att} {Q : List Pro} {a : Att} {q : Pro}
theorem surr_no {x y : Att} (hn : ¬ (x.v = y.v ∧ x.s < y.s ∧ y.t < x.t)) : surr x y = false := decide_eq_false fun ⟨_, _, h1, h2, h3⟩ => hn ⟨h1, h2, h3⟩
theorem surr_of {x y : Att} (hs : surr x y = true) : x.v = y.v ∧ x.s < y.s ∧ y.t < x.t := let ⟨_, _, h1, h2, h3⟩ := of_decide_eq_true hs; ⟨h1, h2, h3⟩
theorem surr_yes {x y : Att} (hx : x.fine) (hy : y.fine) (h1 : x.v = y.v) (h2 : x.s < y.s) (h3 : y.t < x.t) : surr x y = true := decide_eq_true ⟨hx, hy, h1, h2, h3⟩
theorem judge_cases (i : DInv p h A Q) (c : Comes p h a) {y : Vd} (hy : dJudge p (votesOf p h A a.v) a = y) :
    (∃ w ∈ votesOf p h A a.v, w.t = a.t ∧ ((a.dg == w.dg) = true ∧ y = ⟨1, w, zPro, 0⟩ ∨ (a.dg == w.dg) = false ∧ y = ⟨2, w, zPro, (p.first (max a.t w.t)).1⟩)) ∨
    (∀ w ∈ votesOf p h A a.v, w.t ≠ a.t) ∧ ((∃ w ∈ votesOf p h A a.v, surr a w = true ∧ y = ⟨3, w, zPro, (p.first (max a.t w.t)).1⟩) ∨
      (∀ w ∈ votesOf p h A a.v, surr a w = false) ∧ ((∃ w ∈ votesOf p h A a.v, surr w a = true ∧ y = ⟨4, w, zPro, (p.first (max a.t w.t)).1⟩) ∨ (∀ w ∈ votesOf p h A a.v, surr w a = false) ∧ y = Vd.z)) := by
  have hso := votes_sorted (p := p) (h := h) (v := a.v) i.ua
  subst hy
  have hf1 : ∀ w ∈ votesOf p h A a.v, w.fine ∧ w.v = a.v := fun w hw => ⟨(i.a w (mem_votes.1 hw).1).2.1, (mem_votes.1 hw).2.1⟩
  have back : (∃ w ∈ votesOf p h A a.v, surr w a = true ∧ dJudge2 p (votesOf p h A a.v) a = ⟨4, w, zPro, (p.first (max a.t w.t)).1⟩) ∨ (∀ w ∈ votesOf p h A a.v, surr w a = false) ∧ dJudge2 p (votesOf p h A a.v) a = Vd.z := by
    unfold dJudge2
    cases hf : (votesOf p h A a.v).reverse.find? (fun b => surr b a) with
    | some w => exact .inl ⟨w, List.mem_reverse.1 (List.mem_of_find?_eq_some hf), List.find?_some (p := fun b => surr b a) hf, rfl⟩
    | none => exact .inr ⟨fun w hw => by simpa using (List.find?_eq_none.1 hf) w (List.mem_reverse.2 hw), rfl⟩
  cases hf : (votesOf p h A a.v).find? (fun b => decide (b.t = a.t)) with
  | some w =>
    refine .inl ⟨w, List.mem_of_find?_eq_some hf, by simpa using List.find?_some hf, ?_⟩
    cases hd : a.dg == w.dg with
    | true => exact .inl ⟨rfl, dJudge_one hf hd⟩
    | false => exact .inr ⟨rfl, dJudge_two hf hd⟩
  | none =>
    have hn : ∀ w ∈ votesOf p h A a.v, w.t ≠ a.t := fun w hw => by simpa using (List.find?_eq_none.1 hf) w hw
    refine .inr ⟨hn, ?_⟩
    rw [dJudge_no hf]
    cases hg : (votesOf p h A a.v).find? (fun b => decide (b.s > a.s)) with
    | none =>
      have hs : ∀ w ∈ votesOf p h A a.v, surr a w = false := fun w hw => surr_no fun ⟨_, h2, _⟩ => by
        have := (List.find?_eq_none.1 hg) w hw
        simp only [decide_eq_true_eq] at this; omega
      rw [show dRest p (votesOf p h A a.v) a = dJudge2 p (votesOf p h A a.v) a by unfold dRest; rw [hg]]
      exact .inr ⟨hs, back⟩
    | some w =>
      obtain ⟨k1, k2, k3⟩ := find_by hso hg
      simp only [decide_eq_true_eq] at k2
      by_cases hw : w.t < a.t
      · rw [show dRest p (votesOf p h A a.v) a = ⟨3, w, zPro, (p.first (max a.t w.t)).1⟩ by unfold dRest; rw [hg]; exact if_pos hw]
        exact .inl ⟨w, k1, surr_yes c.fine (hf1 w k1).1 (hf1 w k1).2.symm k2 hw, rfl⟩
      · have hs : ∀ u ∈ votesOf p h A a.v, surr a u = false := fun u hu => surr_no fun ⟨_, h2, h3⟩ => by
          rcases k3 u hu (by simpa using h2) with e | e
          · rw [e] at h3; exact hw h3
          · omega
        rw [show dRest p (votesOf p h A a.v) a = dJudge2 p (votesOf p h A a.v) a by unfold dRest; rw [hg]; exact if_neg hw]
        exact .inr ⟨hs, back⟩
end
section
variable {B d : Nat} {w : World} {p : Par} {h : Int} {A : List Att} {Q : List Pro} {x : DAct}
theorem near_comes (i : DInv p h A Q) (hx : x.Ok) : Comes p h (nearAct p h x).a ∧ ComesP p h (nearAct p h x).q ∧ (0 ≤ (nearAct p h x).k ∧ (nearAct p h x).k < 3) ∧ (h ≤ 5000 → movErr h (nearAct p h x).h = 0 ∧ (nearAct p h x).h ≤ 5000) ∧ (nearAct p h x).Ok := by
  have g1 := i.ok.lo
  have g2 := i.ok.ep
  have g3 := i.ok.fl
  have g4 := i.ok.2.2
  unfold nearAct
  have e0 : 0 ≤ x.k % 3 ∧ x.k % 3 < 3 := ⟨Int.emod_nonneg _ (by omega), Int.emod_lt_of_pos _ (by omega)⟩
  have e1 : 0 ≤ x.h % 4 ∧ x.h % 4 < 4 := ⟨Int.emod_nonneg _ (by omega), Int.emod_lt_of_pos _ (by omega)⟩
  have e2 : 0 ≤ x.a.v % 3 ∧ x.a.v % 3 < 3 := ⟨Int.emod_nonneg _ (by omega), Int.emod_lt_of_pos _ (by omega)⟩
  have e3 : 0 ≤ x.q.v % 3 ∧ x.q.v % 3 < 3 := ⟨Int.emod_nonneg _ (by omega), Int.emod_lt_of_pos _ (by omega)⟩
  have e4 : 0 ≤ x.q.h % 5 ∧ x.q.h % 5 < 5 := ⟨Int.emod_nonneg _ (by omega), Int.emod_lt_of_pos _ (by omega)⟩
  have e5 : 0 ≤ x.a.s % (dep p h - dlo p h + 1) ∧ x.a.s % (dep p h - dlo p h + 1) < dep p h - dlo p h + 1 := ⟨Int.emod_nonneg _ (by omega), Int.emod_lt_of_pos _ (by omega)⟩
  generalize x.a.s % (dep p h - dlo p h + 1) = m1 at *
  have e6 : 0 ≤ x.a.t % (dep p h - (dlo p h + m1) + 1) ∧ x.a.t % (dep p h - (dlo p h + m1) + 1) < dep p h - (dlo p h + m1) + 1 := ⟨Int.emod_nonneg _ (by omega), Int.emod_lt_of_pos _ (by omega)⟩
  generalize x.a.t % (dep p h - (dlo p h + m1) + 1) = t0 at *
  generalize x.k % 3 = k0 at *
  generalize x.h % 4 = h0 at *
  generalize x.a.v % 3 = v0 at *
  generalize x.q.v % 3 = v1' at *
  generalize x.q.h % 5 = q1 at *
  dsimp only
  refine ⟨⟨⟨by dsimp only; omega, by dsimp only; omega, by dsimp only; omega, by dsimp only; omega, by dsimp only; omega, by dsimp only; omega⟩, by dsimp only; omega, by dsimp only; omega, by dsimp only; omega⟩, ⟨⟨by dsimp only; omega, by dsimp only; omega, by dsimp only; omega, by dsimp only; omega⟩, by dsimp only; omega, by dsimp only; omega⟩, e0, fun hh => ⟨?_, by omega⟩, ?_⟩
  · unfold movErr
    rw [if_neg (by omega), if_neg (by omega)]
  · exact ⟨⟨by dsimp only; omega, by dsimp only; omega⟩, ⟨⟨by dsimp only; omega, by dsimp only; omega⟩, ⟨by dsimp only; omega, by dsimp only; omega⟩, ⟨by dsimp only; omega, by dsimp only; omega⟩, byteH_len _, hx.a.g⟩, ⟨⟨by dsimp only; omega, by dsimp only; omega⟩, ⟨by dsimp only; omega, by dsimp only; omega⟩, byteH_len _, hx.q.g⟩, ⟨by dsimp only; omega, by dsimp only; omega⟩⟩
theorem ofP_check {e W : Int} (h0 : 0 ≤ e) (h1 : e < 3) (h2 : 0 ≤ W) (h3 : W < 6) : (ofP (1 + e) (1 + W)).check = (0, 0) := by
  have a : e = 0 ∨ e = 1 ∨ e = 2 := by omega
  have b : W = 0 ∨ W = 1 ∨ W = 2 ∨ W = 3 ∨ W = 4 ∨ W = 5 := by omega
  rcases a with rfl | rfl | rfl <;> rcases b with rfl | rfl | rfl | rfl | rfl | rfl <;> first | decide | rfl
end
end
section
open Go Go.RowKit Go.Own Go.Shelf
structure Inn (A A2 : List Att) (Q Q2 : List Pro) (s t b : Int) : Prop where
  a : ∀ x, x.v = 5 → (x ∈ A ↔ x ∈ A2)
  q : ∀ x, x.v = 5 → (x ∈ Q ↔ x ∈ Q2)
  m : ∀ x ∈ A, x.v = 5 → x.s ≤ s ∧ x.t ≤ t
  n : ∀ x ∈ Q, x.v = 5 → x.h ≤ b
section
variable {p : Par} {h : Int} {A A2 : List Att} {Q Q2 : List Pro} {s s' t b : Int} {a : Att} {q : Pro}
theorem Inn.src (i : Inn A A2 Q Q2 s t b) (hs : s ≤ s') : Inn A A2 Q Q2 s' t b := ⟨i.a, i.q, fun x hx hv => ⟨Int.le_trans (i.m x hx hv).1 hs, (i.m x hx hv).2⟩, i.n⟩
theorem Inn.att (i : Inn A A2 Q Q2 s t b) (ha : a.v ≠ 5) : Inn (attNew p h A a) A2 Q Q2 s t b := by
  unfold attNew
  split
  · refine ⟨fun x hv => ?_, i.q, fun x hx hv => ?_, i.n⟩
    · rw [List.mem_append, List.mem_singleton, ← i.a x hv]
      exact ⟨fun e => e.elim id fun e => absurd (e ▸ hv) ha, .inl⟩
    · rcases List.mem_append.1 hx with hx | hx
      · exact i.m x hx hv
      · rw [List.mem_singleton] at hx; exact absurd (hx ▸ hv) ha
  · exact i
theorem Inn.pro (i : Inn A A2 Q Q2 s t b) (hq : q.v ≠ 5) : Inn A A2 (proNew p h Q q) Q2 s t b := by
  unfold proNew
  split
  · refine ⟨i.a, fun x hv => ?_, i.m, fun x hx hv => ?_⟩
    · rw [List.mem_append, List.mem_singleton, ← i.q x hv]
      exact ⟨fun e => e.elim id fun e => absurd (e ▸ hv) hq, .inl⟩
    · rcases List.mem_append.1 hx with hx | hx
      · exact i.n x hx hv
      · rw [List.mem_singleton] at hx; exact absurd (hx ▸ hv) hq
  · exact i
theorem inn_att (i : DInv p h A Q) (c : Comes p h a) (hn : ∀ x ∈ A, x.v = a.v → x.s ≤ a.s ∧ x.t < a.t) : attVd p h A a = Vd.z ∧ attNew p h A a = A ++ [a] := by
  have hz : dJudge p (votesOf p h A a.v) a = Vd.z := by
    have hw : ∀ w ∈ votesOf p h A a.v, w.s ≤ a.s ∧ w.t < a.t := fun w hw => hn w (mem_votes.1 hw).1 (mem_votes.1 hw).2.1
    rcases judge_cases i c rfl with ⟨w, h1, h2, _⟩ | ⟨_, ⟨w, h1, h2, _⟩ | ⟨_, ⟨w, h1, h2, _⟩ | ⟨_, e⟩⟩⟩
    · have := hw w h1; omega
    · have := surr_of h2; have := hw w h1; omega
    · have := surr_of h2; have := hw w h1; omega
    · exact e
  have hv : attVd p h A a = Vd.z := by unfold attVd; rw [if_pos c.err, hz]
  exact ⟨hv, by unfold attNew; rw [hv, if_pos ⟨c.err, rfl⟩]⟩
theorem inn_pro (c : ComesP p h q) (hn : ∀ x ∈ Q, x.v = q.v → x.h < q.h) : proVd p h Q q = Vd.z ∧ proNew p h Q q = Q ++ [q] := by
  have hv : proVd p h Q q = Vd.z := by
    unfold proVd
    rw [if_pos c.err]
    unfold dPro
    rw [show (blocksOf p h Q q.v).find? (fun b => decide (b.h = q.h)) = none from List.find?_eq_none.2 fun w hw => by
      have := hn w (mem_blocks.1 hw).1 (mem_blocks.1 hw).2.1
      simp only [decide_eq_true_eq]; omega]
  exact ⟨hv, by unfold proNew; rw [hv, if_pos ⟨c.err, rfl⟩]⟩
theorem Inn.atts (i : Inn A A2 Q Q2 s t b) (hs : a.s ≤ s') (h0 : s ≤ s') (ht : t ≤ a.t) : Inn (A ++ [a]) (A2 ++ [a]) Q Q2 s' a.t b := by
  refine ⟨fun x hv => ?_, i.q, fun x hx hv => ?_, i.n⟩
  · rw [List.mem_append, List.mem_append, i.a x hv]
  · rcases List.mem_append.1 hx with hx | hx
    · have := i.m x hx hv; omega
    · rw [List.mem_singleton] at hx; subst hx; omega
theorem Inn.pros (i : Inn A A2 Q Q2 s t b) (hb : b ≤ q.h) : Inn A A2 (Q ++ [q]) (Q2 ++ [q]) s t q.h := by
  refine ⟨i.a, fun x hv => ?_, i.m, fun x hx hv => ?_⟩
  · rw [List.mem_append, List.mem_append, i.q x hv]
  · rcases List.mem_append.1 hx with hx | hx
    · have := i.n x hx hv; omega
    · rw [List.mem_singleton] at hx; subst hx; omega
theorem blocks_sorted (i : DInv p h A Q) (v : Int) : (blocksOf p h Q v).Pairwise fun x y => x.h < y.h := by
  rw [← blocks_is i]
  unfold items
  rw [List.pairwise_filterMap]
  refine List.pairwise_lt_range.imp fun {k j} hkj x hx y hy => ?_
  have h1 := ((vb_some i).1 hx).2
  have h2 := ((vb_some i).1 hy).2
  omega
theorem Inn.votes (i : Inn A A2 Q Q2 s t b) (d1 : DInv p h A Q) (d2 : DInv p h A2 Q2) : votesOf p h A 5 = votesOf p h A2 5 :=
  sorted_eq (·.t) (votes_sorted d1.ua) (votes_sorted d2.ua) fun x => by
    rw [mem_votes, mem_votes]
    exact ⟨fun ⟨h1, h2, h3⟩ => ⟨(i.a x h2).1 h1, h2, h3⟩, fun ⟨h1, h2, h3⟩ => ⟨(i.a x h2).2 h1, h2, h3⟩⟩
theorem Inn.blocks (i : Inn A A2 Q Q2 s t b) (d1 : DInv p h A Q) (d2 : DInv p h A2 Q2) : blocksOf p h Q 5 = blocksOf p h Q2 5 :=
  sorted_eq (·.h) (blocks_sorted d1 5) (blocks_sorted d2 5) fun x => by
    rw [mem_blocks, mem_blocks]
    exact ⟨fun ⟨h1, h2, h3⟩ => ⟨(i.q x h2).1 h1, h2, h3⟩, fun ⟨h1, h2, h3⟩ => ⟨(i.q x h2).2 h1, h2, h3⟩⟩
end
end
section
open Go Go.RowKit Go.Own Go.Shelf
noncomputable def qc127_0 (n : Nat) : Code := partOf Tryz.f3 n
theorem known_all (w : World) :
  Calls Tryz.prog 3 #[] w (fun e w' => e = .returned (.bool true) ∧ Keeps Nob w w') := by
 have t0 := Turns.refl w.heap.size w
 obtain ⟨i0, hi0, hz0, hz1, hz2⟩ := info_parts att_info0
 obtain ⟨i1, hi1, hw0, hw1, hw2⟩ := info_parts pro_info0
 have hok := (fun (x : Att) (hx : x ∈ ([v1 3 4 0, v1 3 5 0] : List Att)) => show x.Ok by simp only [List.mem_cons, List.not_mem_nil, or_false] at hx; rcases hx with rfl | rfl <;> exact v1_ok _ (by decide) (by decide))
 have hokB := (fun (x : Pro) (hx : x ∈ ([b1 6 0, b1 11 0] : List Pro)) => show x.Ok by simp only [List.mem_cons, List.not_mem_nil, or_false] at hx; rcases hx with rfl | rfl <;> exact b1_ok _ (by decide))
 have K0 : Keeps ((fun j => w.heap.size ≤ j)) w w := Keeps.refl _ _
 refine se_ (qc127_0 1) ⟨fs [un 123], []⟩ Tryz.func3 <| qr_ [0] <| kk 1 <| eqr_ [0, 1] ?_
 refine pcq 8 #[] Tryz.func8 ((ltsecond_ok _).mono ?_)
 rintro e V1 ⟨d, rfl, hDV1, kV1⟩
 have hLV1 := hDV1.lower K0.size
 refine ⟨_, rfl, ?_⟩
 have h2 := Turns.nn t0 kV1
 have K3 := K0.nn kV1
 have z4 := kV1.size
 refine kk 1 <| eq_ <| qr_ [0, 1] <| kk 2 <| en_ <| s_ <| tqr_ [0, 1, 2] ?_
 refine pcr 9 #[.int .i64 3, .int .i64 3, .int .u8 0] Tryz.func9 (ltvote1_ok 3 3 0 0 (by decide) _) fun V5 kV5 => ?_
 have h6 := Turns.nn h2 kV5
 have kb7 := (Keeps.refl Nob V1).nn kV5
 have K8 := K3.nn kV5
 have z9 := kV5.size
 refine pal 28 (#[.int .i64 0, .int .i64 0, .int .i64 0, .int .u8 0, .int .u8 0, .int .u8 0, .int .u8 0, .int .u8 0, .int .u8 0, .int .u8 0, .int .u8 0, .int .u8 0, .int .u8 0, .int .u8 0, .int .u8 0, .int .u8 0, .int .u8 0, .int .u8 0, .int .u8 0, .int .u8 0, .int .u8 0, .int .u8 0, .int .u8 0, .int .u8 0, .int .u8 0, .int .u8 0, .int .u8 0, .int .u8 0, .int .u8 0, .int .u8 0, .int .u8 0, .int .u8 0, .int .u8 0, .int .u8 0, .int .u8 0, .int .u64 0]) (.agg (#[.int .i64 0, .int .i64 0, .int .i64 0, .int .u8 0, .int .u8 0, .int .u8 0, .int .u8 0, .int .u8 0, .int .u8 0, .int .u8 0, .int .u8 0, .int .u8 0, .int .u8 0, .int .u8 0, .int .u8 0, .int .u8 0, .int .u8 0, .int .u8 0, .int .u8 0, .int .u8 0, .int .u8 0, .int .u8 0, .int .u8 0, .int .u8 0, .int .u8 0, .int .u8 0, .int .u8 0, .int .u8 0, .int .u8 0, .int .u8 0, .int .u8 0, .int .u8 0, .int .u8 0, .int .u8 0, .int .u8 0, .int .u64 0])) fun V10 go ego h11 kV10 => ?_
 have n12 := nk ego K8
 have h13 := Turns.nn h6 kV10
 have kb14 := kb7.nn kV10
 have K15 := K8.nn kV10
 have z16 := kV10.size
 refine pst 28 go ((Att.c (v1 3 3 0))) h11 (by rw [Att.c_size _ v1_r]; kernel_rfl) (by rw [Att.c_size _ v1_r]; rfl) (Att.c_one _) fun V17 h18 kV17 => ?_
 have h19 : Turns w.heap.size w V17 := Turns.no h13 kV17 (by omega)
 have kb20 : Keeps Nob V1 V17 := kb14.nO kV17
 have K21 := K15.nO kV17
 have z22 := kV17.size
 refine eqr_ [0, 1] <| kk 1 <| pce 3 go 0 (.int .i64 32) (Att.c ⟨32, (v1 3 3 0).s, (v1 3 3 0).t, (v1 3 3 0).r, (v1 3 3 0).g⟩) h18 (rc (h18) (Att.c_0 _)) (Att.c_set0 _ _) fun V23 h24 kV23 => ?_
 have h25 : Turns w.heap.size w V23 := Turns.no h19 kV23 (by omega)
 have kb26 : Keeps Nob V1 V23 := kb20.nO kV23
 have K27 := K21.nO kV23
 have z28 := kV23.size
 refine eqr_ nl34_ <| kk 1 ?_
 refine pcr 9 #[.int .i64 4, .int .i64 3, .int .u8 0] Tryz.func9 (ltvote1_ok 4 3 0 0 (by decide) _) fun V29 kV29 => ?_
 have h30 := Turns.nn h25 kV29
 have kb31 := kb26.nn kV29
 have ⟨K33, z34, h32⟩ := kV29.z1 K27 h24
 refine pcq 10 #[pT d 0, .agg (Att.c (v1 4 3 0))] Tryz.func10 ((ltrefused_ok _ d _ _ _ _ _ K33.size (hLV1.keepsN kb31) (v1 4 3 0) (v1_ok _ (by decide) (by decide)) v1_r 9 rE0 (by decide)).mono ?_)
 rintro e V35 ⟨rfl, hDV35, MV35, hMV35, kV35⟩
 refine ⟨_, rfl, ?_⟩
 have h36 : Turns w.heap.size w V35 := Turns.trans h30 ⟨MV35, hMV35, kV35⟩
 have h37 : HP V35 go (Att.c ⟨32, (v1 3 3 0).s, (v1 3 3 0).t, (v1 3 3 0).r, (v1 3 3 0).g⟩) 28 := (kV35.block go (lt_of_block h32) (fun e => hMV35.no h32 e)).trans h32
 have K38 : Keeps ((fun j => w.heap.size ≤ j)) w V35 := K33.then kV35 (fun i hi hm => Nat.le_of_not_lt (fun h => hMV35.sub i h hm))
 have z39 := kV35.size
 refine kk 3 ?_
 refine pcr 9 #[.int .i64 3, .int .i64 6, .int .u8 0] Tryz.func9 (ltvote1_ok 3 6 0 0 (by decide) _) fun V40 kV40 => ?_
 have h41 := Turns.nn h36 kV40
 have h42 := kV40.bk h37
 have kb43 := (Keeps.refl Nob V35).nn kV40
 have K44 := K38.nn kV40
 have z45 := kV40.size
 refine pcq 10 #[pT d 0, .agg (Att.c (v1 3 6 0))] Tryz.func10 ((ltrefused_ok _ d _ _ _ _ _ K44.size (hDV35.keepsN kb43) (v1 3 6 0) (v1_ok _ (by decide) (by decide)) v1_r 17 rE1 (by decide)).mono ?_)
 rintro e V46 ⟨rfl, hDV46, MV46, hMV46, kV46⟩
 refine ⟨_, rfl, ?_⟩
 have h47 : Turns w.heap.size w V46 := Turns.trans h41 ⟨MV46, hMV46, kV46⟩
 have h48 : HP V46 go (Att.c ⟨32, (v1 3 3 0).s, (v1 3 3 0).t, (v1 3 3 0).r, (v1 3 3 0).g⟩) 28 := (kV46.block go (lt_of_block h42) (fun e => hMV46.no h42 e)).trans h42
 have K49 : Keeps ((fun j => w.heap.size ≤ j)) w V46 := K44.then kV46 (fun i hi hm => Nat.le_of_not_lt (fun h => hMV46.sub i h hm))
 have z50 := kV46.size
 refine kk 4 ?_
 refine pcr 9 #[.int .i64 2, .int .i64 5, .int .u8 0] Tryz.func9 (ltvote1_ok 2 5 0 0 (by decide) _) fun V51 kV51 => ?_
 have h52 := Turns.nn h47 kV51
 have h53 := kV51.bk h48
 have kb54 := (Keeps.refl Nob V46).nn kV51
 have K55 := K49.nn kV51
 have z56 := kV51.size
 refine pcq 10 #[pT d 0, .agg (Att.c (v1 2 5 0))] Tryz.func10 ((ltrefused_ok _ d _ _ _ _ _ K55.size (hDV46.keepsN kb54) (v1 2 5 0) (v1_ok _ (by decide) (by decide)) v1_r 16 rE2 (by decide)).mono ?_)
 rintro e V57 ⟨rfl, hDV57, MV57, hMV57, kV57⟩
 refine ⟨_, rfl, ?_⟩
 have h58 : Turns w.heap.size w V57 := Turns.trans h52 ⟨MV57, hMV57, kV57⟩
 have h59 : HP V57 go (Att.c ⟨32, (v1 3 3 0).s, (v1 3 3 0).t, (v1 3 3 0).r, (v1 3 3 0).g⟩) 28 := (kV57.block go (lt_of_block h53) (fun e => hMV57.no h53 e)).trans h53
 have K60 : Keeps ((fun j => w.heap.size ≤ j)) w V57 := K55.then kV57 (fun i hi hm => Nat.le_of_not_lt (fun h => hMV57.sub i h hm))
 have z61 := kV57.size
 refine kk 4 <| ppq _ (ldr 28 go (h59) (by rw [Att.c_size (⟨32, (v1 3 3 0).s, (v1 3 3 0).t, (v1 3 3 0).r, (v1 3 3 0).g⟩) (v1_r (s := 3) (t := 3) (b := 0))]; kernel_rfl)) ?_
 refine pcq 10 #[pT d 0, .agg (Att.c ⟨32, (v1 3 3 0).s, (v1 3 3 0).t, (v1 3 3 0).r, (v1 3 3 0).g⟩)] Tryz.func10 ((ltrefused_ok _ d _ _ _ _ _ K60.size hDV57 ⟨32, (v1 3 3 0).s, (v1 3 3 0).t, (v1 3 3 0).r, (v1 3 3 0).g⟩ ⟨by decide, by decide, by decide, byteH_len _, by decide⟩ (v1_r (s := 3) (t := 3) (b := 0)) 3 rE3 (by decide)).mono ?_)
 rintro e V62 ⟨rfl, hDV62, MV62, hMV62, kV62⟩
 refine ⟨_, rfl, ?_⟩
 have h63 : Turns w.heap.size w V62 := Turns.trans h58 ⟨MV62, hMV62, kV62⟩
 have h64 : HP V62 go (Att.c ⟨32, (v1 3 3 0).s, (v1 3 3 0).t, (v1 3 3 0).r, (v1 3 3 0).g⟩) 28 := (kV62.block go (lt_of_block h59) (fun e => hMV62.no h59 e)).trans h59
 have K65 : Keeps ((fun j => w.heap.size ≤ j)) w V62 := K60.then kV62 (fun i hi hm => Nat.le_of_not_lt (fun h => hMV62.sub i h hm))
 have z66 := kV62.size
 refine kk 4 ?_
 refine pcq 11 #[pT d 0, .int .i64 32] Tryz.func11 ((Det1.votes hDV62 32).mono ?_)
 rintro e V67 ⟨vaV67, rfl, hrV67, hnV67, kV67⟩
 rw [lV4] at hrV67
 have hsV67 : AttsAt V67 vaV67 ([] : List Att) := Row.sl hrV67 rfl (fun x hx => by cases hx)
 refine ⟨_, rfl, ?_⟩
 have h68 := Turns.nn h63 kV67
 have h69 := kV67.bk h64
 have kb70 := (Keeps.refl Nob V62).nn kV67
 have K71 := K65.nn kV67
 have z72 := kV67.size
 refine ppq (iN ((([] : List Att)).length)) (exec_len_sl (.tmp 37) 32 28 (by kernel_rfl) Tryz.underlying32 (by kernel_rfl) hsV67) <| ppq (.bool true) (cbo (show ((((((([] : List Att)).length : Nat) : Int)) == ((0) : Int))) = true from by rfl)) <| kk 3 ?_
 refine pcq 12 #[pT d 0] Tryz.func12 ((Det1.height (hDV62.keepsN kb70)).mono ?_)
 rintro e w1 ⟨rfl, rfl⟩
 refine ⟨_, rfl, ?_⟩
 refine kk 3 <| ps_end <| tqr_ nl29_ <| kk 1 ?_
 refine pcr 14 #[.int .i64 11, .int .u8 0] Tryz.func14 (ltblock1_ok 11 0 0 (by decide) _) fun V73 kV73 => ?_
 have h74 := Turns.nn h68 kV73
 have h75 := kV73.bk h69
 have kb76 := kb70.nn kV73
 have K77 := K71.nn kV73
 have z78 := kV73.size
 refine pcq 13 #[pT d 0, .agg (Pro.c (b1 11 0)), .int .i64 0, .int .i64 0, .int .i64 0] Tryz.func13 ((ltproposes_ok _ d _ _ _ _ _ K77.size (hDV62.keepsN kb76) (b1 11 0) (b1_ok _ (by decide)) b1_r 0 0 0 pE0 _ z_vd pY0 rfl rfl _ pN0).mono ?_)
 rintro e V79 ⟨rfl, hDV79, MV79, hMV79, kV79⟩
 refine ⟨_, rfl, ?_⟩
 have h80 : Turns w.heap.size w V79 := Turns.trans h74 ⟨MV79, hMV79, kV79⟩
 have h81 : HP V79 go (Att.c ⟨32, (v1 3 3 0).s, (v1 3 3 0).t, (v1 3 3 0).r, (v1 3 3 0).g⟩) 28 := (kV79.block go (lt_of_block h75) (fun e => hMV79.no h75 e)).trans h75
 have K82 : Keeps ((fun j => w.heap.size ≤ j)) w V79 := K77.then kV79 (fun i hi hm => Nat.le_of_not_lt (fun h => hMV79.sub i h hm))
 have z83 := kV79.size
 refine kk 2 ?_
 refine pcr 14 #[.int .i64 11, .int .u8 0] Tryz.func14 (ltblock1_ok 11 0 0 (by decide) _) fun V84 kV84 => ?_
 have h85 := Turns.nn h80 kV84
 have h86 := kV84.bk h81
 have kb87 := (Keeps.refl Nob V79).nn kV84
 have K88 := K82.nn kV84
 have z89 := kV84.size
 refine pcq 13 #[pT d 0, .agg (Pro.c (b1 11 0)), .int .i64 1, .int .i64 0, .int .i64 0] Tryz.func13 ((ltproposes_ok _ d _ _ _ _ _ K88.size (hDV79.keepsN kb87) (b1 11 0) (b1_ok _ (by decide)) b1_r 1 0 0 pE2 _ b1_vd pY2 rfl rfl _ pN2).mono ?_)
 rintro e V90 ⟨rfl, hDV90, MV90, hMV90, kV90⟩
 refine ⟨_, rfl, ?_⟩
 have h91 : Turns w.heap.size w V90 := Turns.trans h85 ⟨MV90, hMV90, kV90⟩
 have h92 : HP V90 go (Att.c ⟨32, (v1 3 3 0).s, (v1 3 3 0).t, (v1 3 3 0).r, (v1 3 3 0).g⟩) 28 := (kV90.block go (lt_of_block h86) (fun e => hMV90.no h86 e)).trans h86
 have K93 : Keeps ((fun j => w.heap.size ≤ j)) w V90 := K88.then kV90 (fun i hi hm => Nat.le_of_not_lt (fun h => hMV90.sub i h hm))
 have z94 := kV90.size
 refine kk 3 ?_
 refine pcr 14 #[.int .i64 11, .int .u8 9] Tryz.func14 (ltblock1_ok 11 9 9 (by decide) _) fun V95 kV95 => ?_
 have h96 := Turns.nn h91 kV95
 have h97 := kV95.bk h92
 have kb98 := (Keeps.refl Nob V90).nn kV95
 have K99 := K93.nn kV95
 have z100 := kV95.size
 refine pcq 13 #[pT d 0, .agg (Pro.c (b1 11 9)), .int .i64 2, .int .i64 11, .int .i64 0] Tryz.func13 ((ltproposes_ok _ d _ _ _ _ _ K99.size (hDV90.keepsN kb98) (b1 11 9) (b1_ok _ (by decide)) b1_r 2 11 0 pE1 _ b1_vd pY1 rfl rfl _ pN1).mono ?_)
 rintro e V101 ⟨rfl, hDV101, MV101, hMV101, kV101⟩
 refine ⟨_, rfl, ?_⟩
 have h102 : Turns w.heap.size w V101 := Turns.trans h96 ⟨MV101, hMV101, kV101⟩
 have h103 : HP V101 go (Att.c ⟨32, (v1 3 3 0).s, (v1 3 3 0).t, (v1 3 3 0).r, (v1 3 3 0).g⟩) 28 := (kV101.block go (lt_of_block h97) (fun e => hMV101.no h97 e)).trans h97
 have K104 : Keeps ((fun j => w.heap.size ≤ j)) w V101 := K99.then kV101 (fun i hi hm => Nat.le_of_not_lt (fun h => hMV101.sub i h hm))
 have z105 := kV101.size
 refine kk 3 ?_
 refine pcr 14 #[.int .i64 6, .int .u8 0] Tryz.func14 (ltblock1_ok 6 0 0 (by decide) _) fun V106 kV106 => ?_
 have h107 := Turns.nn h102 kV106
 have h108 := kV106.bk h103
 have kb109 := (Keeps.refl Nob V101).nn kV106
 have K110 := K104.nn kV106
 have z111 := kV106.size
 refine pcq 13 #[pT d 0, .agg (Pro.c (b1 6 0)), .int .i64 0, .int .i64 0, .int .i64 0] Tryz.func13 ((ltproposes_ok _ d _ _ _ _ _ K110.size (hDV101.keepsN kb109) (b1 6 0) (b1_ok _ (by decide)) b1_r 0 0 0 pE3 _ z_vd pY3 rfl rfl _ pN3).mono ?_)
 rintro e V112 ⟨rfl, hDV112, MV112, hMV112, kV112⟩
 refine ⟨_, rfl, ?_⟩
 have h113 : Turns w.heap.size w V112 := Turns.trans h107 ⟨MV112, hMV112, kV112⟩
 have h114 : HP V112 go (Att.c ⟨32, (v1 3 3 0).s, (v1 3 3 0).t, (v1 3 3 0).r, (v1 3 3 0).g⟩) 28 := (kV112.block go (lt_of_block h108) (fun e => hMV112.no h108 e)).trans h108
 have K115 : Keeps ((fun j => w.heap.size ≤ j)) w V112 := K110.then kV112 (fun i hi hm => Nat.le_of_not_lt (fun h => hMV112.sub i h hm))
 have z116 := kV112.size
 refine kk 3 ?_
 refine pcr 14 #[.int .i64 5, .int .u8 0] Tryz.func14 (ltblock1_ok 5 0 0 (by decide) _) fun V117 kV117 => ?_
 have h118 := Turns.nn h113 kV117
 have h119 := kV117.bk h114
 have kb120 := (Keeps.refl Nob V112).nn kV117
 have K121 := K115.nn kV117
 have z122 := kV117.size
 refine pcq 13 #[pT d 0, .agg (Pro.c (b1 5 0)), .int .i64 0, .int .i64 0, .int .i64 16] Tryz.func13 ((ltproposes_ok _ d _ _ _ _ _ K121.size (hDV112.keepsN kb120) (b1 5 0) (b1_ok _ (by decide)) b1_r 0 0 16 rP0 _ Vd.z_ok (pro_no rP0 (by decide)).1 rfl rfl _ (pro_no rP0 (by decide)).2).mono ?_)
 rintro e V123 ⟨rfl, hDV123, MV123, hMV123, kV123⟩
 refine ⟨_, rfl, ?_⟩
 have h124 : Turns w.heap.size w V123 := Turns.trans h118 ⟨MV123, hMV123, kV123⟩
 have h125 : HP V123 go (Att.c ⟨32, (v1 3 3 0).s, (v1 3 3 0).t, (v1 3 3 0).r, (v1 3 3 0).g⟩) 28 := (kV123.block go (lt_of_block h119) (fun e => hMV123.no h119 e)).trans h119
 have K126 : Keeps ((fun j => w.heap.size ≤ j)) w V123 := K121.then kV123 (fun i hi hm => Nat.le_of_not_lt (fun h => hMV123.sub i h hm))
 have z127 := kV123.size
 refine kk 3 ?_
 refine pcr 14 #[.int .i64 12, .int .u8 0] Tryz.func14 (ltblock1_ok 12 0 0 (by decide) _) fun V128 kV128 => ?_
 have h129 := Turns.nn h124 kV128
 have h130 := kV128.bk h125
 have kb131 := (Keeps.refl Nob V123).nn kV128
 have K132 := K126.nn kV128
 have z133 := kV128.size
 refine pcq 13 #[pT d 0, .agg (Pro.c (b1 12 0)), .int .i64 0, .int .i64 0, .int .i64 17] Tryz.func13 ((ltproposes_ok _ d _ _ _ _ _ K132.size (hDV123.keepsN kb131) (b1 12 0) (b1_ok _ (by decide)) b1_r 0 0 17 rP1 _ Vd.z_ok (pro_no rP1 (by decide)).1 rfl rfl _ (pro_no rP1 (by decide)).2).mono ?_)
 rintro e V134 ⟨rfl, hDV134, MV134, hMV134, kV134⟩
 refine ⟨_, rfl, ?_⟩
 have h135 : Turns w.heap.size w V134 := Turns.trans h129 ⟨MV134, hMV134, kV134⟩
 have h136 : HP V134 go (Att.c ⟨32, (v1 3 3 0).s, (v1 3 3 0).t, (v1 3 3 0).r, (v1 3 3 0).g⟩) 28 := (kV134.block go (lt_of_block h130) (fun e => hMV134.no h130 e)).trans h130
 have K137 : Keeps ((fun j => w.heap.size ≤ j)) w V134 := K132.then kV134 (fun i hi hm => Nat.le_of_not_lt (fun h => hMV134.sub i h hm))
 have z138 := kV134.size
 refine kk 2 <| ps_end <| tqr_ nl10_ <| kk 3 ?_
 refine pcq 16 #[pT d 0, .int .i64 1] Tryz.func16 ((Det1.blocks hDV134 1).mono ?_)
 rintro e V139 ⟨vbV139, rfl, hrV139, hnV139, kV139⟩
 rw [lB1] at hrV139
 have hsV139 : ProsAt V139 vbV139 [b1 6 0, b1 11 0] := Row.sl hrV139 rfl (fun x hx => Pro.cl_len (hokB x hx))
 refine ⟨_, rfl, ?_⟩
 have h140 := Turns.nn h135 kV139
 have h141 := kV139.bk h136
 have kb142 := (Keeps.refl Nob V134).nn kV139
 have K143 := K137.nn kV139
 have z144 := kV139.size
 refine pcr 14 #[.int .i64 6, .int .u8 0] Tryz.func14 (ltblock1_ok 6 0 0 (by decide) _) fun V145 kV145 => ?_
 have h146 := Turns.nn h140 kV145
 have h147 := kV145.bk h141
 have kb148 := kb142.nn kV145
 have h149 : ProsAt V145 vbV139 ([b1 6 0, b1 11 0]) := hsV139.keepsN kV145
 have K150 := K143.nn kV145
 have z151 := kV145.size
 refine pcr 14 #[.int .i64 11, .int .u8 0] Tryz.func14 (ltblock1_ok 11 0 0 (by decide) _) fun V152 kV152 => ?_
 have h153 := Turns.nn h146 kV152
 have h154 := kV152.bk h147
 have kb155 := kb148.nn kV152
 have h156 : ProsAt V152 vbV139 ([b1 6 0, b1 11 0]) := h149.keepsN kV152
 have K157 := K150.nn kV152
 have z158 := kV152.size
 obtain ⟨V159, eV159, gb, egb, h160, kV159⟩ := alloc_step V152 (([.agg (Pro.c (b1 6 0)), .agg (Pro.c (b1 11 0))] : List Value).flatMap fun v => v.cells.toList).toArray 37
 have n161 := nl egb h154
 have n162 := nk egb K157
 refine prq (.slice (some ⟨gb, 0, none⟩) 2 2) (w' := V159) (by rw [← eV159, ← egb]; exact exec_buildAll 40 37 2 #[(0, .tmp 78), (1, .tmp 79)] (by kernel_rfl) [.agg (Pro.c (b1 6 0)), .agg (Pro.c (b1 11 0))] (by kernel_rfl) i1 _ Tryz.underlying40 hi1 hw0 35 hw1 (by decide) rfl (by decide) (by decide) (fun u hu => by simp only [List.mem_cons, List.not_mem_nil, or_false] at hu; rcases hu with rfl | rfl; exact Pro.c_size _ b1_r; exact Pro.c_size _ b1_r)) ?_
 clear eV159
 have h163 : HP V159 gb ((List.flatMap Pro.cl [b1 6 0, b1 11 0]).toArray) 37 := h160
 have h164 := Turns.nn h153 kV159
 have h165 := kV159.bk h154
 have kb166 := kb155.nn kV159
 have h167 : ProsAt V159 vbV139 ([b1 6 0, b1 11 0]) := h156.keepsN kV159
 have K168 := K157.nn kV159
 have z169 := kV159.size
 refine pcr 15 #[vbV139, .slice (some ⟨gb, 0, none⟩) 2 2] Tryz.func15 ((show Calls Tryz.prog 15 #[vbV139, .slice (some ⟨gb, 0, none⟩) 2 2] V159 _ from (decide_eq_true (rfl : ([b1 6 0, b1 11 0] : List Pro) = [b1 6 0, b1 11 0])) ▸ ltsameBlocks_ok _ _ [b1 6 0, b1 11 0] [b1 6 0, b1 11 0] _ h167 (Sl.blockH h163 (fun x hx => Pro.cl_len (hokB x hx)) rfl (by decide)) hokB hokB)) fun V170 kV170 => ?_
 have h171 := Turns.nn h164 kV170
 have h172 := kV170.bk h165
 have kb173 := kb166.nn kV170
 have ⟨K175, z176, h174⟩ := kV170.z1 K168 h163
 refine kk 2 <| eqr_ nl22_ <| kk 1 ?_
 refine pcq 17 #[pT d 0, .int .i64 10] Tryz.func17 ((Det1.is_move (x := 10) (hDV134.keepsN kb173) K175.size (e0 := 9) (h' := 11) rfl rfl).mono ?_)
 rintro e V177 ⟨rfl, hDV177, MV177, hMV177, kV177⟩
 refine ⟨_, rfl, ?_⟩
 have h178 : Turns w.heap.size w V177 := Turns.trans h171 ⟨MV177, hMV177, kV177⟩
 have h179 : HP V177 go (Att.c ⟨32, (v1 3 3 0).s, (v1 3 3 0).t, (v1 3 3 0).r, (v1 3 3 0).g⟩) 28 := (kV177.block go (lt_of_block h172) (fun e => hMV177.no h172 e)).trans h172
 have h180 : HP V177 gb ((List.flatMap Pro.cl [b1 6 0, b1 11 0]).toArray) 37 := (kV177.block gb (lt_of_block h174) (fun e => hMV177.no h174 e)).trans h174
 have K181 : Keeps ((fun j => w.heap.size ≤ j)) w V177 := K175.then kV177 (fun i hi hm => Nat.le_of_not_lt (fun h => hMV177.sub i h hm))
 have z182 := kV177.size
 refine kk 3 ?_
 refine pcq 17 #[pT d 0, .int .i64 4294967297] Tryz.func17 ((Det1.is_move (x := 4294967297) hDV177 K181.size (e0 := 3) (h' := 11) rfl rfl).mono ?_)
 rintro e V183 ⟨rfl, hDV183, MV183, hMV183, kV183⟩
 refine ⟨_, rfl, ?_⟩
 have h184 : Turns w.heap.size w V183 := Turns.trans h178 ⟨MV183, hMV183, kV183⟩
 have h185 : HP V183 go (Att.c ⟨32, (v1 3 3 0).s, (v1 3 3 0).t, (v1 3 3 0).r, (v1 3 3 0).g⟩) 28 := (kV183.block go (lt_of_block h179) (fun e => hMV183.no h179 e)).trans h179
 have h186 : HP V183 gb ((List.flatMap Pro.cl [b1 6 0, b1 11 0]).toArray) 37 := (kV183.block gb (lt_of_block h180) (fun e => hMV183.no h180 e)).trans h180
 have K187 : Keeps ((fun j => w.heap.size ≤ j)) w V183 := K181.then kV183 (fun i hi hm => Nat.le_of_not_lt (fun h => hMV183.sub i h hm))
 have z188 := kV183.size
 refine kk 4 ?_
 refine pcq 17 #[pT d 0, .int .i64 13] Tryz.func17 ((Det1.is_move (x := 13) hDV183 K187.size (e0 := 0) (h' := 13) rfl rfl).mono ?_)
 rintro e V189 ⟨rfl, hDV189, MV189, hMV189, kV189⟩
 refine ⟨_, rfl, ?_⟩
 have h190 : Turns w.heap.size w V189 := Turns.trans h184 ⟨MV189, hMV189, kV189⟩
 have h191 : HP V189 go (Att.c ⟨32, (v1 3 3 0).s, (v1 3 3 0).t, (v1 3 3 0).r, (v1 3 3 0).g⟩) 28 := (kV189.block go (lt_of_block h185) (fun e => hMV189.no h185 e)).trans h185
 have h192 : HP V189 gb ((List.flatMap Pro.cl [b1 6 0, b1 11 0]).toArray) 37 := (kV189.block gb (lt_of_block h186) (fun e => hMV189.no h186 e)).trans h186
 have K193 : Keeps ((fun j => w.heap.size ≤ j)) w V189 := K187.then kV189 (fun i hi hm => Nat.le_of_not_lt (fun h => hMV189.sub i h hm))
 have z194 := kV189.size
 refine kk 4 ?_
 refine pcq 11 #[pT d 0, .int .i64 1] Tryz.func11 ((Det1.votes hDV189 1).mono ?_)
 rintro e V195 ⟨vaV195, rfl, hrV195, hnV195, kV195⟩
 rw [lV3] at hrV195
 have hsV195 : AttsAt V195 vaV195 [v1 3 4 0, v1 3 5 0] := Row.sl hrV195 rfl (fun x hx => Att.cl_len (hok x hx))
 refine ⟨_, rfl, ?_⟩
 have h196 := Turns.nn h190 kV195
 have ⟨h197, h198⟩ := kV195.k2 h191 h192
 have kb199 := (Keeps.refl Nob V189).nn kV195
 have K200 := K193.nn kV195
 have z201 := kV195.size
 refine pcr 9 #[.int .i64 3, .int .i64 4, .int .u8 0] Tryz.func9 (ltvote1_ok 3 4 0 0 (by decide) _) fun V202 kV202 => ?_
 have h203 := Turns.nn h196 kV202
 have ⟨h204, h205⟩ := kV202.k2 h197 h198
 have kb206 := kb199.nn kV202
 have h207 : AttsAt V202 vaV195 ([v1 3 4 0, v1 3 5 0]) := hsV195.keepsN kV202
 have K208 := K200.nn kV202
 have z209 := kV202.size
 refine pcr 9 #[.int .i64 3, .int .i64 5, .int .u8 0] Tryz.func9 (ltvote1_ok 3 5 0 0 (by decide) _) fun V210 kV210 => ?_
 have h211 := Turns.nn h203 kV210
 have ⟨h212, h213⟩ := kV210.k2 h204 h205
 have kb214 := kb206.nn kV210
 have h215 : AttsAt V210 vaV195 ([v1 3 4 0, v1 3 5 0]) := h207.keepsN kV210
 have K216 := K208.nn kV210
 have z217 := kV210.size
 obtain ⟨V218, eV218, gl, egl, h219, kV218⟩ := alloc_step V210 (([.agg (Att.c (v1 3 4 0)), .agg (Att.c (v1 3 5 0))] : List Value).flatMap fun v => v.cells.toList).toArray 28
 have n220 := nl egl h212
 have n221 := nl egl h213
 have n222 := nk egl K216
 refine prq (.slice (some ⟨gl, 0, none⟩) 2 2) (w' := V218) (by rw [← eV218, ← egl]; exact exec_buildAll 32 28 2 #[(0, .tmp 99), (1, .tmp 100)] (by kernel_rfl) [.agg (Att.c (v1 3 4 0)), .agg (Att.c (v1 3 5 0))] (by kernel_rfl) i0 _ Tryz.underlying32 hi0 hz0 36 hz1 (by decide) rfl (by decide) (by decide) (fun u hu => by simp only [List.mem_cons, List.not_mem_nil, or_false] at hu; rcases hu with rfl | rfl; exact Att.c_size _ v1_r; exact Att.c_size _ v1_r)) ?_
 clear eV218
 have h223 : HP V218 gl ((List.flatMap Att.cl [v1 3 4 0, v1 3 5 0]).toArray) 28 := h219
 have h224 := Turns.nn h211 kV218
 have kb227 := kb214.nn kV218
 have h228 : AttsAt V218 vaV195 ([v1 3 4 0, v1 3 5 0]) := h215.keepsN kV218
 have K229 := K216.nn kV218
 have z230 := kV218.size
 refine pcr 18 #[vaV195, .slice (some ⟨gl, 0, none⟩) 2 2] Tryz.func18 ((show Calls Tryz.prog 18 #[vaV195, .slice (some ⟨gl, 0, none⟩) 2 2] V218 _ from (decide_eq_true (rfl : ([v1 3 4 0, v1 3 5 0] : List Att) = [v1 3 4 0, v1 3 5 0])) ▸ ltsameVotes_ok _ _ [v1 3 4 0, v1 3 5 0] [v1 3 4 0, v1 3 5 0] _ h228 (Sl.blockH h223 (fun x hx => Att.cl_len (hok x hx)) rfl (by decide)) hok hok)) fun V231 kV231 => ?_
 have h232 := Turns.nn h224 kV231
 have kb235 := kb227.nn kV231
 have K237 := K229.nn kV231
 have z238 := kV231.size
 refine kk 2 <| ps_end <| tqr_ nl7_ <| kk 1 ?_
 refine pcr 19 #[.agg zPar.cells] Tryz.func19 (dNew_bad zPar _ zPar_ok 3 0 zPar_check (by decide)) fun V239 kV239 => ?_
 have h240 := Turns.nn h232 kV239
 have kb243 := kb235.nn kV239
 have K245 := K237.nn kV239
 have z246 := kV239.size
 refine kk 5 <| eqr_ nl15_ ?_
 refine pcr 20 #[] Tryz.func20 (ltawake_ok _) fun V247 kV247 => ?_
 have h248 := Turns.nn h240 kV247
 have kb251 := kb243.nn kV247
 have K253 := K245.nn kV247
 have z254 := kV247.size
 refine kk 14 ?_
 refine eu_ <| so_ (.bool true) ?_
 exact ⟨rfl, h248.keeps (Keeps.refl Nob w) (Nat.le_refl _)⟩
end
section
open Go Go.RowKit Go.Own Go.Shelf
theorem _root_.Go.Own.IntsAt.keepsM {M : Nat → Prop} {w w' : World} {v : Value} {l : List Int} (h : IntsAt w v l) (k : Keeps M w w') (hM : ∀ j, j < w.heap.size → ¬ M j) : IntsAt w' v l :=
 ⟨h.len, fun i x hi => by
  obtain ⟨b1, b2, b, o, cap, e, hb, hc⟩ := h.at_ i x hi
  exact ⟨b1, b2, b, o, cap, e, Nat.lt_of_lt_of_le hb k.size, (k.cell hb (hM b hb)).trans hc⟩⟩
theorem known_ok (w : World) : Calls Tryz.prog 3 #[] w fun e w' => e = .returned (.bool true) ∧ Keeps Nob w w' := known_all w
section
variable {B : Nat} {w w' : World} {d c : Nat} {p p2 : Par} {h h2 h' x e0 : Int} {A A2 A' : List Att} {Q Q2 Q' : List Pro} {a : Att} {q : Pro} {y : Vd} {f : FuncId} {args : Array Value} {v : Value}
theorem Det2.make (s : Det1 B w d p h A Q) (k : Keeps Nob w w') (t : Det1 w.heap.size w' c p2 h2 A2 Q2) (hB : B ≤ w.heap.size) : Det2 B w' d p h A Q c p2 h2 A2 Q2 := by
 obtain ⟨P, who, s1, s2, s3⟩ := s.ex
 obtain ⟨P2, who2, t1, t2, t3⟩ := t.ex
 exact ⟨⟨P, who, P2, who2, s1.keepsN k, t1, ⟨s2, s3⟩, ⟨fun j hj => Nat.le_trans hB (t2 j hj), fun j hj => Nat.le_trans hB (t3 j hj)⟩, fun j hj hj2 => by have := s1.lt j hj; have := t2 j hj2; omega, fun j hj hj2 => by have := s1.lt j hj; have := t3 j hj2; omega, fun j hj hj2 => by have := t2 j hj; have := s1.ltR j hj2; omega⟩, s.inv, t.inv⟩
theorem Det2.out (hc : Calls Tryz.prog f args w fun e w' => e = .returned v ∧ Det2 B w' c p2 h' A' Q' d p h A Q ∧ Turns B w w') : Calls Tryz.prog f args w fun e w' => e = .returned v ∧ Det2 B w' d p h A Q c p2 h' A' Q' ∧ Turns B w w' := hc.mono fun _ _ ⟨e, s, t⟩ => ⟨e, s.swap, t⟩
theorem Det2.is_attest (s : Det2 B w d p h A Q c p2 h2 A2 Q2) (hB : B ≤ w.heap.size) (ha : a.Ok) (hE : attErr p h a = e0) (hV : attVd p h A a = y) (hN : attNew p h A a = A') : Calls Tryz.prog 24 #[pT d 0, .agg (Att.c a)] w fun e w' => e = .returned (.tuple #[.agg (Vd.c y), .int .i64 e0]) ∧ Det2 B w' d p h A' Q c p2 h2 A2 Q2 ∧ Turns B w w' := by
 subst hE hV hN; exact s.attest hB ha
theorem Det2.is_propose (s : Det2 B w d p h A Q c p2 h2 A2 Q2) (hB : B ≤ w.heap.size) (hq : q.Ok) (hE : proErr p h q = e0) (hV : proVd p h Q q = y) (hN : proNew p h Q q = Q') : Calls Tryz.prog 25 #[pT d 0, .agg (Pro.c q)] w fun e w' => e = .returned (.tuple #[.agg (Vd.c y), .int .i64 e0]) ∧ Det2 B w' d p h A Q' c p2 h2 A2 Q2 ∧ Turns B w w' := by
 subst hE hV hN; exact s.propose hB hq
theorem Det2.is_move (s : Det2 B w d p h A Q c p2 h2 A2 Q2) (hB : B ≤ w.heap.size) (hE : movErr h x = e0) (hH : movH h x = h') : Calls Tryz.prog 17 #[pT d 0, .int .i64 x] w fun e w' => e = .returned (.int .i64 e0) ∧ Det2 B w' d p h' A Q c p2 h2 A2 Q2 ∧ Turns B w w' := by
 subst hE hH; exact s.move hB x
theorem GSt.of2 (s : Det2 B w d p h A Q c p2 h2 A2 Q2) : GSt (fun w => Det2 B w d p h A Q c p2 h2 A2 Q2) w := ⟨s, fun _ _ k s => s.keepsN k⟩
theorem Det2.attests (s : Det2 B w d p h A Q c p2 h2 A2 Q2) (hB : B ≤ w.heap.size) (ha : a.Ok) (hE : attErr p h a = 0) (hV : attVd p h A a = Vd.z) (hN : attNew p h A a = A') : Calls Tryz.prog 28 #[pT d 0, .agg (Att.c a), .int .i64 0, .agg (Att.c zAtt), .int .i64 0] w fun e w' => e = .returned (.bool true) ∧ Det2 B w' d p h A' Q c p2 h2 A2 Q2 ∧ Turns B w w' :=
 (ltattests_g B d _ (fun w => Det2 B w d p h A' Q c p2 h2 A2 Q2) w hB (.of2 s) a ha.r 0 0 zAtt zAtt_r Vd.z Vd.z_ok rfl fun _ hV2 s => (s.s.is_attest hV2 ha hE hV hN).mono fun _ _ ⟨e, s, t⟩ => ⟨e, .of2 s, t⟩).mono fun _ _ ⟨e, s, t⟩ => ⟨e, s.s, t⟩
theorem Det2.proposes (s : Det2 B w d p h A Q c p2 h2 A2 Q2) (hB : B ≤ w.heap.size) (hq : q.Ok) (hE : proErr p h q = 0) (hV : proVd p h Q q = Vd.z) (hN : proNew p h Q q = Q') : Calls Tryz.prog 13 #[pT d 0, .agg (Pro.c q), .int .i64 0, .int .i64 0, .int .i64 0] w fun e w' => e = .returned (.bool true) ∧ Det2 B w' d p h A Q' c p2 h2 A2 Q2 ∧ Turns B w w' :=
 (ltproposes_g B d _ (fun w => Det2 B w d p h A Q' c p2 h2 A2 Q2) w hB (.of2 s) q hq.r 0 0 0 Vd.z Vd.z_ok rfl rfl fun _ hV2 s => (s.s.is_propose hV2 hq hE hV hN).mono fun _ _ ⟨e, s, t⟩ => ⟨e, .of2 s, t⟩).mono fun _ _ ⟨e, s, t⟩ => ⟨e, s.s, t⟩
end
def inA (s t : Int) : Att := ⟨5, s, t, zhash, 0⟩
def inQ (h : Int) : Pro := ⟨5, h, zhash, 0⟩
def oA (p : Par) (h : Int) (A : List Att) (o : Option DAct) : List Att := match o with | some x => if x.k = 0 then attNew p h A x.a else A | none => A
def oQ (p : Par) (h : Int) (Q : List Pro) (o : Option DAct) : List Pro := match o with | some x => if x.k = 1 then proNew p h Q x.q else Q | none => Q
theorem oA_0 {p : Par} {h : Int} {A : List Att} {x : DAct} (hk : x.k = 0) : attNew p h A x.a = oA p h A (some x) := (if_pos hk).symm
theorem oA_1 {p : Par} {h : Int} {A : List Att} {x : DAct} (hk : ¬ x.k = 0) : A = oA p h A (some x) := (if_neg hk).symm
theorem oQ_0 {p : Par} {h : Int} {Q : List Pro} {x : DAct} (hk : x.k = 1) : proNew p h Q x.q = oQ p h Q (some x) := (if_pos hk).symm
theorem oQ_1 {p : Par} {h : Int} {Q : List Pro} {x : DAct} (hk : ¬ x.k = 1) : Q = oQ p h Q (some x) := (if_neg hk).symm
theorem Inn.others {p : Par} {h : Int} {A A2 : List Att} {Q Q2 : List Pro} {s t b : Int} (i : Inn A A2 Q Q2 s t b) (o : Option DAct) (ho : ∀ x, o = some x → x.a.v ≠ 5 ∧ x.q.v ≠ 5) : Inn (oA p h A o) A2 (oQ p h Q o) Q2 s t b := by
 cases o with
 | none => exact i
 | some x =>
  unfold oA oQ
  dsimp only
  split
  ·split
   ·exact (i.att (ho x rfl).1).pro (ho x rfl).2
   ·exact i.att (ho x rfl).1
  ·split
   ·exact i.pro (ho x rfl).2
   ·exact i
theorem near_v {p : Par} {h : Int} {x : DAct} : (nearAct p h x).a.v ≠ 5 ∧ (nearAct p h x).q.v ≠ 5 := by
 unfold nearAct
 have h1 : x.a.v % 3 < 3 := Int.emod_lt_of_pos _ (by omega)
 have h2 : x.q.v % 3 < 3 := Int.emod_lt_of_pos _ (by omega)
 exact ⟨fun e => by dsimp only at e; omega, fun e => by dsimp only at e; omega⟩
theorem inQ_comes {p : Par} {h : Int} (q : DOk p h) (h0 : 1 ≤ h) (h5 : h ≤ 4294967296) : ComesP p h (inQ h) := ⟨⟨show (0 : Int) ≤ 5 by decide, show (5 : Int) ≤ 31 by decide, h0, h5⟩, Int.le_refl _, q.fl.2.1⟩
theorem inA_comes {p : Par} {h s t : Int} (hs : 0 ≤ s) (hst : s ≤ t) (h5 : t ≤ 4294967296) (hi : t ≤ dep p h) (lo : dlo p h ≤ s) : Comes p h (inA s t) := ⟨⟨show (0 : Int) ≤ 5 by decide, show (5 : Int) ≤ 31 by decide, hs, show s ≤ 4294967296 by omega, show 0 ≤ t by omega, h5⟩, hst, hi, lo⟩
theorem inA_ok {s t : Int} (hs : i64b s) (ht : i64b t) : (inA s t).Ok := ⟨show i64b 5 from ⟨by decide, by decide⟩, hs, ht, zhash_len, show (0 : Nat) < 2 ^ 64 by decide⟩
theorem inQ_ok {h : Int} (hh : i64b h) : (inQ h).Ok := ⟨show i64b 5 from ⟨by decide, by decide⟩, hh, zhash_len, show (0 : Nat) < 2 ^ 64 by decide⟩
theorem inn_a {p : Par} {h : Int} {A A2 : List Att} {Q Q2 Q3 : List Pro} {s t b now : Int} {a : Att} (i : Inn A A2 Q Q2 s t b) (v : DInv p h A Q3) (ha : inA s now = a) (c : Comes p h a) (hn : now > t) : attVd p h A a = Vd.z ∧ attNew p h A a = A ++ [a] := by
 subst ha
 exact inn_att v c fun x hx hv => by have := i.m x hx hv; unfold inA; dsimp only; omega
theorem inn_a2 {p : Par} {h : Int} {A A2 : List Att} {Q Q2 Q3 : List Pro} {s t b now : Int} {a : Att} (i : Inn A A2 Q Q2 s t b) (v : DInv p h A2 Q3) (ha : inA s now = a) (c : Comes p h a) (hn : now > t) : attVd p h A2 a = Vd.z ∧ attNew p h A2 a = A2 ++ [a] := by
 subst ha
 exact inn_att v c fun x hx hv => by have := i.m x ((i.a x hv).2 hx) hv; unfold inA; dsimp only; omega
theorem inn_q {p : Par} {h : Int} {A A2 : List Att} {Q Q2 : List Pro} {s t b : Int} {q : Pro} (i : Inn A A2 Q Q2 s t b) (hq : inQ h = q) (c : ComesP p h q) (hn : h > b) : proVd p h Q q = Vd.z ∧ proNew p h Q q = Q ++ [q] := by
 subst hq
 exact inn_pro c fun x hx hv => by have := i.n x hx hv; unfold inQ; dsimp only; omega
theorem inn_q2 {p : Par} {h : Int} {A A2 : List Att} {Q Q2 : List Pro} {s t b : Int} {q : Pro} (i : Inn A A2 Q Q2 s t b) (hq : inQ h = q) (c : ComesP p h q) (hn : h > b) : proVd p h Q2 q = Vd.z ∧ proNew p h Q2 q = Q2 ++ [q] := by
 subst hq
 exact inn_pro c fun x hx hv => by have := i.n x ((i.q x hv).2 hx) hv; unfold inQ; dsimp only; omega
theorem inn_step {A A2 Ab Ac : List Att} {Q Q2 : List Pro} {s t b now tb sb : Int} {m : Nat} (i : Inn A A2 Q Q2 s t b) (h0 : 0 ≤ s) (hA : (if now > t ∧ now ≥ s then A ++ [inA s now] else A) = Ab) (hC : (if now > t ∧ now ≥ s then A2 ++ [inA s now] else A2) = Ac) (ht : (if now > t ∧ now ≥ s then now else t) = tb) (hs : (if now > t ∧ now ≥ s then min now (s + ((m / 4 % 3 : Nat) : Int)) else s) = sb) : Inn Ab Ac Q Q2 sb tb b ∧ 0 ≤ sb := by
 by_cases hc : now > t ∧ now ≥ s
 ·rw [if_pos hc] at hA hC ht hs
  subst hA hC ht hs
  exact ⟨i.atts (a := inA s now) (by unfold inA; dsimp only; omega) (by omega) (by unfold inA; dsimp only; omega), by omega⟩
 ·rw [if_neg hc] at hA hC ht hs
  subst hA hC ht hs
  exact ⟨i, h0⟩
theorem inn_stepQ {A A2 : List Att} {Q Q2 Qb Qc : List Pro} {s t b h bb : Int} (i : Inn A A2 Q Q2 s t b) (hA : (if h > b then Q ++ [inQ h] else Q) = Qb) (hC : (if h > b then Q2 ++ [inQ h] else Q2) = Qc) (hb : (if h > b then h else b) = bb) : Inn A A2 Qb Qc s t bb := by
 by_cases hc : h > b
 ·rw [if_pos hc] at hA hC hb
  subst hA hC hb
  exact i.pros (q := inQ h) (by unfold inQ; dsimp only; omega)
 ·rw [if_neg hc] at hA hC hb
  subst hA hC hb
  exact i
theorem sameV_is (va vb : Value) {l m : List Att} (e : l = m) (w : World) (Ha : AttsAt w va l) (Hb : AttsAt w vb m) (oka : ∀ x ∈ l, x.Ok) (okb : ∀ x ∈ m, x.Ok) : Calls Tryz.prog 18 #[va, vb] w fun e w' => e = .returned (.bool true) ∧ Keeps Nob w w' := by
 have := ltsameVotes_ok va vb l m w Ha Hb oka okb
 rwa [decide_eq_true e] at this
theorem sameB_is (va vb : Value) {l m : List Pro} (e : l = m) (w : World) (Ha : ProsAt w va l) (Hb : ProsAt w vb m) (oka : ∀ x ∈ l, x.Ok) (okb : ∀ x ∈ m, x.Ok) : Calls Tryz.prog 15 #[va, vb] w fun e w' => e = .returned (.bool true) ∧ Keeps Nob w w' := by
 have := ltsameBlocks_ok va vb l m w Ha Hb oka okb
 rwa [decide_eq_true e] at this
theorem rowOk {p : Par} {h : Int} {A : List Att} {Q : List Pro} (i : DInv p h A Q) (v : Int) : ∀ x ∈ votesOf p h A v, x.Ok := fun x hx => (i.a x (mem_votes.1 hx).1).1
theorem rowOkB {p : Par} {h : Int} {A : List Att} {Q : List Pro} (i : DInv p h A Q) (v : Int) : ∀ x ∈ blocksOf p h Q v, x.Ok := fun x hx => (i.q x (mem_blocks.1 hx).1).1
theorem dexec_maxc {P : Program} {o : Oper} {ρ : Operand → Value} {w : World} (x y : Operand) (ts : Array TypeId) (ho : o.op = .call { callee := .builtin .max, args := #[x, y], argTypes := ts }) (k : IntKind) (a b c : Int) (hx : ρ x = .int k a) (hy : ρ y = .int k b) (hc : max a b = c) :
  (execOp ρ o).run P w = .ok (.value (.int k c)) w := hc ▸ exec_max x y ts ho k a b hx hy
theorem act_split {l : List DAct} (p : Par) (h : Int) (i : Nat) : (i < l.length ∧ ∀ y, l[i]? = some y → (nearAct p h y).k = 0) ∨ (i < l.length ∧ ∀ y, l[i]? = some y → (nearAct p h y).k = 1) ∨ (i < l.length ∧ ∀ y, l[i]? = some y → ¬ (nearAct p h y).k = 0 ∧ ¬ (nearAct p h y).k = 1) ∨ ¬ i < l.length := by
 by_cases hl : i < l.length
 ·obtain ⟨x, hx⟩ : ∃ x, l[i]? = some x := ⟨_, List.getElem?_eq_getElem hl⟩
  have g : ∀ {R : Int → Prop}, R (nearAct p h x).k → ∀ y, l[i]? = some y → R (nearAct p h y).k := fun hr y hy => by rw [hx] at hy; cases hy; exact hr
  by_cases h0 : (nearAct p h x).k = 0
  ·exact .inl ⟨hl, g (R := fun k => k = 0) h0⟩
  ·by_cases h1 : (nearAct p h x).k = 1
   ·exact .inr (.inl ⟨hl, g (R := fun k => k = 1) h1⟩)
   ·exact .inr (.inr (.inl ⟨hl, g (R := fun k => ¬ k = 0 ∧ ¬ k = 1) ⟨h0, h1⟩⟩))
 ·exact .inr (.inr (.inr hl))
noncomputable def qc128_0 (n : Nat) : Code := partOf Tryz.f4 n
theorem innocent_all (ep : Int) (hep : i64b ep) (wn : Int) (hwn : i64b wn) (lv : Value) (l : List DAct) (sv : Value) (ks : List Int) (w : World) (hl : Sl w 73 DAct.cl lv l ∧ ∀ x ∈ l, x.Ok) (hks : IntsAt w sv ks) :
  Calls Tryz.prog 4 #[.int .i64 ep, .int .i64 wn, lv, sv] w (fun e w' => e = .returned (.bool true) ∧ Keeps Nob w w') := by
 have t0 := Turns.refl w.heap.size w
 obtain ⟨hs, hok⟩ := hl
 have hll := hs.len_le
 obtain ⟨a_s, c_s, hv_s⟩ := hks.len
 obtain ⟨ne, hne⟩ : ∃ y, ep % 3 = y := ⟨_, rfl⟩
 have bne : 0 ≤ ne ∧ ne < 3 := ⟨hne ▸ Int.emod_nonneg _ (by omega), hne ▸ Int.emod_lt_of_pos _ (by omega)⟩
 obtain ⟨nw, hnw⟩ : ∃ y, wn % 6 = y := ⟨_, rfl⟩
 have bnw : 0 ≤ nw ∧ nw < 6 := ⟨hnw ▸ Int.emod_nonneg _ (by omega), hnw ▸ Int.emod_lt_of_pos _ (by omega)⟩
 have hpc : (ofP (1 + ne) (1 + nw)).check = (0, 0) := ofP_check bne.1 bne.2 bnw.1 bnw.2
 have hpo : Par.Ok (ofP (1 + ne) (1 + nw)) := ofP_ok (by unfold i64ok; omega) (by unfold i64ok; omega)
 have K0 : Keeps ((fun j => w.heap.size ≤ j)) w w := Keeps.refl _ _
 refine se_ (qc128_0 1) ⟨fr [.int .i64 ep, .int .i64 wn, lv, sv] 193, []⟩ Tryz.func4 <| qr_ [0] <| kk 1 <| eqr_ [0, 1] ?_
 refine pcr 3 #[] Tryz.func3 (known_ok _) fun V1 kV1 => ?_
 have h2 := Turns.nn t0 kV1
 have K3 := K0.nn kV1
 have z4 := kV1.size
 refine kk 1 <| eq_ <| q_ ?_
 rcases (show l.length > 30 ∨ (¬ l.length > 30 ∧ ks.length > 30) ∨ (¬ l.length > 30 ∧ ¬ ks.length > 30) by omega) with h30 | h30 | h30
 ·refine r_ nl8_ <| kk 1 <| ppq (iN l.length) (exec_len_sl (.tmp 29) 49 54 (by kernel_rfl) Tryz.underlying49 (by kernel_rfl) (hs.keeps K3 (fun j _ hl hm => by omega))) <| ppq _ (dct ((((l.length : Nat) : Int)) > ((30) : Int)) (by omega)) <| kk 5 <| ey_ <| qr_ [0, 1] <| kk 2 <| eu_ ?_
  refine then_r <| so_ (.bool true) ?_
  exact ⟨rfl, h2.keeps (Keeps.refl Nob w) (Nat.le_refl _)⟩
 ·refine r_ nl8_ <| kk 1 <| ppq (iN l.length) (exec_len_sl (.tmp 29) 49 54 (by kernel_rfl) Tryz.underlying49 (by kernel_rfl) (hs.keeps K3 (fun j _ hl hm => by omega))) <| ppq _ (dcf ((((l.length : Nat) : Int)) > ((30) : Int)) (by omega)) <| kk 2 <| ppq _ (len_ a_s ks.length c_s Tryz.underlying50 (hx := Eq.trans (b := sv) (by kernel_rfl) hv_s)) <| ppq _ (dct ((((ks.length : Nat) : Int)) > ((30) : Int)) (by omega)) <| kk 1 <| ey_ <| qr_ [0, 1] <| kk 2 <| eu_ ?_
  refine then_r <| so_ (.bool true) ?_
  exact ⟨rfl, h2.keeps (Keeps.refl Nob w) (Nat.le_refl _)⟩
 ·refine r_ nl8_ <| kk 1 <| ppq (iN l.length) (exec_len_sl (.tmp 29) 49 54 (by kernel_rfl) Tryz.underlying49 (by kernel_rfl) (hs.keeps K3 (fun j _ hl hm => by omega))) <| ppq _ (dcf ((((l.length : Nat) : Int)) > ((30) : Int)) (by omega)) <| kk 2 <| ppq _ (len_ a_s ks.length c_s Tryz.underlying50 (hx := Eq.trans (b := sv) (by kernel_rfl) hv_s)) <| ppq _ (dcf ((((ks.length : Nat) : Int)) > ((30) : Int)) (by omega)) <| kk 1 <| en_ <| s_ <| tqr_ nl9_ <| kk 1 ?_
  refine pcq 22 #[.int .i64 ep, .int .i64 3] Tryz.func22 ((pick_as ep 3 ne _ hep (by omega) (by omega) hne).mono ?_)
  rintro e w1 ⟨rfl, rfl⟩
  refine ⟨_, rfl, ?_⟩
  refine ppq _ (cwI (x := 1 + ne)) <| kk 1 ?_
  refine pcq 22 #[.int .i64 wn, .int .i64 6] Tryz.func22 ((pick_as wn 6 nw _ hwn (by omega) (by omega) hnw).mono ?_)
  rintro e w1 ⟨rfl, rfl⟩
  refine ⟨_, rfl, ?_⟩
  refine ppq _ (cwI (x := 1 + nw)) ?_
  refine pcr 21 #[.int .i64 (1 + ne), .int .i64 (1 + nw)] Tryz.func21 (ltof_ok (1 + ne) (1 + nw) _) fun V5 kV5 => ?_
  have h6 := Turns.nn h2 kV5
  have K7 := K3.nn kV5
  have z8 := kV5.size
  refine pal 47 (#[.int .i64 0, .int .i64 0, .int .i64 0, .int .i64 0, .int .i64 0, .int .i64 0, .int .i64 0, .int .u64 0, .int .u64 0, .int .i64 0, .int .u64 0]) (.agg (#[.int .i64 0, .int .i64 0, .int .i64 0, .int .i64 0, .int .i64 0, .int .i64 0, .int .i64 0, .int .u64 0, .int .u64 0, .int .i64 0, .int .u64 0])) fun V9 gp egp h10 kV9 => ?_
  have n11 := nk egp K7
  have h12 := Turns.nn h6 kV9
  have K13 := K7.nn kV9
  have z14 := kV9.size
  obtain ⟨V15, eV15, kV15⟩ := rowset_step V9 gp ((ofP (1 + ne) (1 + nw)).cells)
  have h16 : HP V15 gp (Par.cells (ofP (1 + ne) (1 + nw))) 47 := eV15 ▸ setRow_heap _ _ _ _ _ _ h10
  refine pzq (w' := V15) (by rw [← eV15]; exact exec_store_row 47 (.tmp 10) (.tmp 44) (by kernel_rfl) gp ((ofP (1 + ne) (1 + nw)).cells) (by kernel_rfl) (by kernel_rfl) 47 (#[.int .i64 0, .int .i64 0, .int .i64 0, .int .i64 0, .int .i64 0, .int .i64 0, .int .i64 0, .int .u64 0, .int .u64 0, .int .i64 0, .int .u64 0]) h10 (by kernel_rfl) (by kernel_rfl) (by kernel_rfl)) ?_
  clear eV15
  have h17 : Turns w.heap.size w V15 := Turns.no h12 kV15 (by omega)
  have K18 := K13.nO kV15
  have z19 := kV15.size
  refine eqr_ nl7_ <| ppq (.agg (ofP (1 + ne) (1 + nw)).cells) (exec_load_row 47 (.tmp 10) (by kernel_rfl) _ (by kernel_rfl) 47 (Par.cells (ofP (1 + ne) (1 + nw))) (0, 0) _ h16 Tryz.underlying47 rfl (by kernel_rfl)) ?_
  refine pcq 19 #[.agg (ofP (1 + ne) (1 + nw)).cells] Tryz.func19 ((det_new (ofP (1 + ne) (1 + nw)) hpo 0 hpc _).mono ?_)
  rintro e V20 ⟨d, rfl, hDV20, hdwV20, kV20⟩
  have hLV20 := hDV20.lower K18.size
  refine ⟨_, rfl, ?_⟩
  have h21 := Turns.nn h17 kV20
  have ⟨K23, z24, h22⟩ := kV20.z1 K18 h16
  refine kk 5 <| ps_end <| tqr_ nl7_ <| ppq (.agg (ofP (1 + ne) (1 + nw)).cells) (exec_load_row 47 (.tmp 10) (by kernel_rfl) _ (by kernel_rfl) 47 (Par.cells (ofP (1 + ne) (1 + nw))) (0, 0) _ h22 Tryz.underlying47 rfl (by kernel_rfl)) ?_
  refine pcq 19 #[.agg (ofP (1 + ne) (1 + nw)).cells] Tryz.func19 ((det_new (ofP (1 + ne) (1 + nw)) hpo 0 hpc _).mono ?_)
  rintro e V25 ⟨c, rfl, hDV25, hdwV25, kV25⟩
  have hLV25 := Det2.make hLV20 kV25 hDV25 K23.size
  refine ⟨_, rfl, ?_⟩
  have h26 := Turns.nn h21 kV25
  have ⟨K28, z29, h27⟩ := kV25.z1 K23 h22
  refine kk 5 <| eq_ <| qr_ nl14_ <| kk 7 ?_
  refine kk 7 <| en_ <| s_ <| tqr_ [0, 1, 2] <| kk 3 <| ps_end ?_
  refine tq_ <| qr_ [0] <| kk 1 <| et_ <| bl_ 0 ?_
  refine sy_loop (qc128_0 8180) (fun a V => ∃ (i : Nat) (h : Int) (A : List Att) (A2 : List Att) (Q : List Pro) (Q2 : List Pro) (s : Int) (t : Int) (b : Int) (uu : Nat → Value), (a = ⟨fs [[.int .i64 ep, .int .i64 wn, lv, sv, ud, ud, ud, ud, uu 0, .bool true, pT gp 0, pT d 0, .int .i64 0, pT c 0, .int .i64 0, .int .i64 s, .int .i64 t, .int .i64 b, iN i], us uu 1 9, [.bool true, lv, iN l.length, .bool false, .bool false, sv, iN ks.length, .bool false, .bool false, ud, .int .i64 ep, .int .i64 ne, .int .i64 (1 + ne), .int .i64 wn, .int .i64 nw, .int .i64 (1 + nw), .agg (ofP (1 + ne) (1 + nw)).cells, .tuple #[pT d 0, .int .i64 0], .agg (ofP (1 + ne) (1 + nw)).cells, .tuple #[pT d 0, .int .i64 0], pT d 0, .int .i64 0, .tuple #[pT c 0, .int .i64 0], .agg (ofP (1 + ne) (1 + nw)).cells, .tuple #[pT c 0, .int .i64 0], pT c 0, .int .i64 0, .int .i64 0, .bool false, .bool false, .int .i64 0, .bool false, .bool false, .bool false, pT d 0, .bool false, .bool false, .bool false, pT c 0, .bool false, .bool false], us uu 10 113, un 15], []⟩) ∧ (i ≤ ks.length) ∧ (h ≤ 1 + 3 * (i : Int)) ∧ (0 ≤ s) ∧ (Inn A A2 Q Q2 s t b) ∧ (Turns w.heap.size w V) ∧ (HP V gp (Par.cells (ofP (1 + ne) (1 + nw))) 47) ∧ (Det2 w.heap.size V d (ofP (1 + ne) (1 + nw)) h A Q c (ofP (1 + ne) (1 + nw)) h A2 Q2) ∧ (Keeps ((fun j => w.heap.size ≤ j)) w V)) (fun a _ => ks.length - (intOf (a.tmps.getD 18 undef)).toNat) (by kernel_rfl) ?_ ?_
  ·exact ⟨0, 1, [], [], [], [], 0, (-1), 0, (kz_ [.bool false]), by kernel_rfl, Nat.zero_le _, by omega, by omega, ⟨fun _ _ => Iff.rfl, fun _ _ => Iff.rfl, fun _ h => (by cases h), fun _ h => (by cases h)⟩, h26, h27, hLV25, K28⟩
  ·rintro a V30 ⟨i, h, A, A2, Q, Q2, s, t, b, uu, rfl, hi, hh5, hs0, inn, h31, h32, h33, K34⟩
   by_cases lt_i : i < ks.length
   ·obtain ⟨sx, hsx⟩ : ∃ x, ks[i]? = some x := ⟨_, List.getElem?_eq_getElem lt_i⟩
    obtain ⟨bs1, bs2, b_k, o_k, c_k, hv_k, hb_k, hc_k⟩ := ((hks.keepsM K34 (fun j hl hm => by omega))).at_ i sx hsx
    obtain ⟨m, hm⟩ : ∃ m : Nat, sx % 1000 = (m : Int) := ⟨(sx % 1000).toNat, (Int.toNat_of_nonneg (Int.emod_nonneg _ (by omega))).symm⟩
    have bm : m < 1000 := by have := Int.emod_lt_of_pos sx (show (0 : Int) < 1000 by omega); omega
    have inv := (Det2.fst h33).inv
    have hp1 := inv.ok.2.2.1
    obtain ⟨hq, hhq⟩ : ∃ y, h + ((m % 4 : Nat) : Int) = y := ⟨_, rfl⟩
    have hqb : h ≤ hq ∧ hq ≤ h + 3 := by omega
    have hmv : movErr h hq = 0 := by unfold movErr; rw [if_neg (by omega), if_neg (by omega)]
    have hmh : movH h hq = hq := by unfold movH; rw [if_pos hmv]
    have ok2 : DOk (ofP (1 + ne) (1 + nw)) hq := ⟨inv.ok.1, inv.ok.2.1, by omega, by omega⟩
    obtain ⟨lo, hlo⟩ : ∃ y, dlo (ofP (1 + ne) (1 + nw)) hq = y := ⟨_, rfl⟩
    obtain ⟨now, hnow⟩ : ∃ y, dep (ofP (1 + ne) (1 + nw)) hq = y := ⟨_, rfl⟩
    have blo := ok2.lo
    have bep := ok2.ep
    rw [hlo, hnow] at blo
    rw [hnow] at bep
    obtain ⟨ox, hox0⟩ : ∃ y, (l[i]?).map (nearAct (ofP (1 + ne) (1 + nw)) h) = y := ⟨_, rfl⟩
    obtain ⟨Aa, hAa⟩ : ∃ y, oA (ofP (1 + ne) (1 + nw)) h A ox = y := ⟨_, rfl⟩
    obtain ⟨Qa, hQa⟩ : ∃ y, oQ (ofP (1 + ne) (1 + nw)) h Q ox = y := ⟨_, rfl⟩
    have inn1 : Inn Aa A2 Qa Q2 s t b := by rw [← hAa, ← hQa]; exact inn.others ox (fun x hx => by rw [← hox0] at hx; obtain ⟨x0, _, rfl⟩ := Option.map_eq_some_iff.1 hx; exact near_v)
    obtain ⟨sa, hsa⟩ : ∃ y, max s lo = y := ⟨_, rfl⟩
    have hsab : s ≤ sa ∧ lo ≤ sa ∧ 0 ≤ sa := by omega
    have inn2 := inn1.src hsab.1
    obtain ⟨Ab, hAb⟩ : ∃ y, (if now > t ∧ now ≥ sa then Aa ++ [inA sa now] else Aa) = y := ⟨_, rfl⟩
    obtain ⟨Ac, hAc⟩ : ∃ y, (if now > t ∧ now ≥ sa then A2 ++ [inA sa now] else A2) = y := ⟨_, rfl⟩
    obtain ⟨tb, htb⟩ : ∃ y, (if now > t ∧ now ≥ sa then now else t) = y := ⟨_, rfl⟩
    obtain ⟨sb, hsb⟩ : ∃ y, (if now > t ∧ now ≥ sa then min now (sa + ((m / 4 % 3 : Nat) : Int)) else sa) = y := ⟨_, rfl⟩
    have inn3 := inn_step inn2 hsab.2.2 hAb hAc htb hsb
    obtain ⟨Qb, hQb⟩ : ∃ y, (if hq > b then Qa ++ [inQ hq] else Qa) = y := ⟨_, rfl⟩
    obtain ⟨Qc, hQc⟩ : ∃ y, (if hq > b then Q2 ++ [inQ hq] else Q2) = y := ⟨_, rfl⟩
    obtain ⟨bb, hbb⟩ : ∃ y, (if hq > b then hq else b) = y := ⟨_, rfl⟩
    have inn4 := inn_stepQ inn3.1 hQb hQc hbb
    refine q_ <| qr_ [0, 1, 2, 3] <| kk 2 <| ppq _ (len_ a_s ks.length c_s Tryz.underlying50 (hx := Eq.trans (b := sv) (by kernel_rfl) hv_s)) <| ppq _ (dct ((((i : Nat) : Int)) < (((ks.length : Nat) : Int))) (by omega)) <| ey_ <| s_ <| tq_ <| bl_ 1 <| qr_ nl6_ <| kk 2 <| ppq (pT b_k (o_k + i)) (exec_cast (v := pT b_k (o_k + i * 1)) (by simp) (ixs b_k o_k ks.length c_k .i64 i 1 Tryz.underlying50 (by omega) (hx := Eq.trans (b := sv) (by kernel_rfl) hv_k))) ?_
    refine ppq (.int .i64 sx) (exec_load_cell 3 (.tmp 77) (by kernel_rfl) ⟨b_k, o_k + i, none⟩ (by kernel_rfl) _ _ Tryz.underlying3 rfl hc_k) ?_
    refine pcq 22 #[.int .i64 sx, .int .i64 1000] Tryz.func22 ((pick_as sx 1000 (m : Int) _ ⟨bs1, bs2⟩ (by omega) (by omega) hm).mono ?_)
    rintro e w1 ⟨rfl, rfl⟩
    refine ⟨_, rfl, ?_⟩
    refine kk 1 <| eq_ ?_
    refine sy_cut (fun aQ VQ => ∃ (u11_20 u11_80 u11_81 u11_82 u11_83 u11_84 u11_85 u11_86 u11_87 u11_88 u11_89 u11_90 u11_91 u11_92 u11_93 u11_94 u11_95 u11_96 u11_97 u11_98 u11_99 u11_100 u11_101 u11_102 u11_103 u11_104 : Value), (aQ = ⟨fs [[.int .i64 ep, .int .i64 wn, lv, sv, ud, ud, ud, ud, uu 0, .bool true, pT gp 0, pT d 0, .int .i64 0, pT c 0, .int .i64 0, .int .i64 s, .int .i64 t, .int .i64 b, .int .i64 ((i : Nat) : Int), .int .i64 ((m : Nat) : Int), u11_20], us uu 3 7, [.bool true, lv, .int .i64 ((l.length : Nat) : Int), .bool false, .bool false, sv, .int .i64 ((ks.length : Nat) : Int), .bool false, .bool false, ud, .int .i64 ep, .int .i64 ne, .int .i64 (1 + ne), .int .i64 wn, .int .i64 nw, .int .i64 (1 + nw), .agg (ofP (1 + ne) (1 + nw)).cells, .tuple #[pT d 0, .int .i64 0], .agg (ofP (1 + ne) (1 + nw)).cells, .tuple #[pT d 0, .int .i64 0], pT d 0, .int .i64 0, .tuple #[pT c 0, .int .i64 0], .agg (ofP (1 + ne) (1 + nw)).cells, .tuple #[pT c 0, .int .i64 0], pT c 0, .int .i64 0, .int .i64 0, .bool false, .bool false, .int .i64 0, .bool false, .bool false, .bool false, pT d 0, .bool false, .bool false, .bool false, pT c 0, .bool false, .bool false, .int .i64 ((i : Nat) : Int), sv, .int .i64 ((ks.length : Nat) : Int), .bool true, uu 14, uu 15, sv, .int .i64 ((i : Nat) : Int), pT b_k (o_k + i), .int .i64 sx, .int .i64 ((m : Nat) : Int), u11_80, u11_81, u11_82, u11_83, u11_84, u11_85, u11_86, u11_87, u11_88, u11_89, u11_90, u11_91, u11_92, u11_93, u11_94, u11_95, u11_96, u11_97, u11_98, u11_99, u11_100, u11_101, u11_102, u11_103, u11_104], us uu 46 77, un 15], []⟩) ∧ (Turns w.heap.size w VQ) ∧ (HP VQ gp (Par.cells (ofP (1 + ne) (1 + nw))) 47) ∧ (Det2 w.heap.size VQ d (ofP (1 + ne) (1 + nw)) h Aa Qa c (ofP (1 + ne) (1 + nw)) h A2 Q2) ∧ (V30.heap.size ≤ VQ.heap.size) ∧ (Keeps ((fun j => w.heap.size ≤ j)) w VQ)) ?_ ?_
    ·rcases (show (i < l.length ∧ ∀ y, l[i]? = some y → (nearAct (ofP (1 + ne) (1 + nw)) h y).k = 0) ∨ (i < l.length ∧ ∀ y, l[i]? = some y → (nearAct (ofP (1 + ne) (1 + nw)) h y).k = 1) ∨ (i < l.length ∧ ∀ y, l[i]? = some y → ¬ (nearAct (ofP (1 + ne) (1 + nw)) h y).k = 0 ∧ ¬ (nearAct (ofP (1 + ne) (1 + nw)) h y).k = 1) ∨ ¬ i < l.length from act_split _ _ _) with ⟨lt_l, hk0⟩ | ⟨lt_l, hk0⟩ | ⟨lt_l, hk0⟩ | lt_l
     ·obtain ⟨x0, hx⟩ : ∃ x, l[i]? = some x := ⟨_, List.getElem?_eq_getElem lt_l⟩
      have hxo := hok x0 (List.mem_of_getElem? hx)
      obtain ⟨b_x, o_x, c_x, hv_x, hb_x, _⟩ := ((hs.keeps K34 (fun j _ hl hm => by omega))).at_ i _ hx
      obtain ⟨x, hnear⟩ : ∃ x, nearAct (ofP (1 + ne) (1 + nw)) h x0 = x := ⟨_, rfl⟩
      obtain ⟨_, _, _, _, hx1⟩ := near_comes inv hxo
      rw [hnear] at hx1
      have hox : ox = some x := by rw [← hox0, hx, Option.map_some, hnear]
      have hk := hk0 x0 hx
      rw [hnear] at hk
      have eA : attNew (ofP (1 + ne) (1 + nw)) h A x.a = Aa := by rw [← hAa, hox]; exact oA_0 hk
      have eQ : Q = Qa := by rw [← hQa, hox]; exact oQ_1 (by omega)
      refine qr_ [0, 1, 2, 3] <| kk 2 <| ppq (iN l.length) (exec_len_sl (.tmp 81) 49 54 (by kernel_rfl) Tryz.underlying49 (by kernel_rfl) (hs.keeps K34 (fun j _ hl hm => by omega))) <| ppq _ (dct ((((i : Nat) : Int)) < (((l.length : Nat) : Int))) (by omega)) <| ey_ <| q_ ?_
      refine sy_cut (fun aQ VQ => ∃ (gy : Nat), (aQ = ⟨fs [[.int .i64 ep, .int .i64 wn, lv, sv, ud, ud, ud, ud, uu 0, .bool true, pT gp 0, pT d 0, .int .i64 0, pT c 0, .int .i64 0, .int .i64 s, .int .i64 t, .int .i64 b, .int .i64 ((i : Nat) : Int), .int .i64 ((m : Nat) : Int), pT gy 0], us uu 3 7, [.bool true, lv, .int .i64 ((l.length : Nat) : Int), .bool false, .bool false, sv, .int .i64 ((ks.length : Nat) : Int), .bool false, .bool false, ud, .int .i64 ep, .int .i64 ne, .int .i64 (1 + ne), .int .i64 wn, .int .i64 nw, .int .i64 (1 + nw), .agg (ofP (1 + ne) (1 + nw)).cells, .tuple #[pT d 0, .int .i64 0], .agg (ofP (1 + ne) (1 + nw)).cells, .tuple #[pT d 0, .int .i64 0], pT d 0, .int .i64 0, .tuple #[pT c 0, .int .i64 0], .agg (ofP (1 + ne) (1 + nw)).cells, .tuple #[pT c 0, .int .i64 0], pT c 0, .int .i64 0, .int .i64 0, .bool false, .bool false, .int .i64 0, .bool false, .bool false, .bool false, pT d 0, .bool false, .bool false, .bool false, pT c 0, .bool false, .bool false, .int .i64 ((i : Nat) : Int), sv, .int .i64 ((ks.length : Nat) : Int), .bool true, uu 14, uu 15, sv, .int .i64 ((i : Nat) : Int), pT b_k (o_k + i), .int .i64 sx, .int .i64 ((m : Nat) : Int), .int .i64 ((i : Nat) : Int), lv, .int .i64 ((l.length : Nat) : Int), .bool true, .agg (ofP (1 + ne) (1 + nw)).cells, pT d 0, lv, .int .i64 ((i : Nat) : Int), pT b_x (o_x + i * 73), .agg (DAct.c x0), .agg (DAct.c x)], us uu 32 91, un 15], []⟩) ∧ (Turns w.heap.size w VQ) ∧ (HP VQ gp (Par.cells (ofP (1 + ne) (1 + nw))) 47) ∧ (Det2 w.heap.size VQ d (ofP (1 + ne) (1 + nw)) h A Q c (ofP (1 + ne) (1 + nw)) h A2 Q2) ∧ (HP VQ gy (DAct.c x) 54) ∧ (gy ≠ gp ∧ w.heap.size ≤ gy ∧ V30.heap.size ≤ gy) ∧ (Keeps ((fun j => w.heap.size ≤ j)) w VQ)) ?_ ?_
      ·refine sy_np <| sy_reg <| anb 9 (fun W => (HP W gp (Par.cells (ofP (1 + ne) (1 + nw))) 47) ∧ (Sl W 73 DAct.cl lv l)) #[false, false, false, false, false, false, false, false, false] ?_
       obtain ⟨V35, eV35, kV35⟩ := drew_step V30
       rw [eV35]
       clear eV35
       have h36 := Turns.nn h31 kV35
       have h37 := kV35.bk h32
       have kb38 := (Keeps.refl Nob V30).nn kV35
       have K39 := K34.nn kV35
       have z40 := kV35.size
       refine avq 0 (.agg (ofP (1 + ne) (1 + nw)).cells) (fun W hS => exec_load_row 47 (.tmp 10) (by kernel_rfl) _ (by kernel_rfl) 47 (Par.cells (ofP (1 + ne) (1 + nw))) (0, 0) _ hS.1 Tryz.underlying47 rfl (by kernel_rfl)) ⟨h37, (hs.keeps K39 (fun j _ hl hm => by omega))⟩ <| ka [1, 2, 3] ⟨h37, (hs.keeps K39 (fun j _ hl hm => by omega))⟩ <| avq 4 _ (fun W hS => ixs b_x o_x l.length c_x .i64 i 73 Tryz.underlying49 (by omega) (hx := Eq.trans (b := lv) (by kernel_rfl) hv_x)) ⟨h37, (hs.keeps K39 (fun j _ hl hm => by omega))⟩ <| avq 5 (.agg (DAct.c x0)) (fun W hS => exec_load_mid 54 (.tmp 88) (by kernel_rfl) b_x (o_x + i * 73) (by kernel_rfl) (DAct.cl x0) _ (Sl.range hS.2 hx hv_x) Tryz.underlying54 rfl (by rw [DAct.cl_len hxo]; kernel_rfl)) ⟨h37, (hs.keeps K39 (fun j _ hl hm => by omega))⟩ ?_
       refine an_two 6 7 (by kernel_rfl) ?_ ?_
       ·refine ncr 23 #[.agg (ofP (1 + ne) (1 + nw)).cells, pT d 0, .agg (DAct.c x0)] Tryz.func23 ((hnear ▸ ltnear_ok _ d _ _ _ _ x0 _ (Det2.fst (h33.keepsN kb38)) hxo)) fun V41 kV41 => ?_
        have h42 := Turns.nn h36 kV41
        have h43 := kV41.bk h37
        have kb44 := kb38.nn kV41
        have K45 := K39.nn kV41
        have z46 := kV41.size
        refine ⟨⟨h43, (hs.keeps K45 (fun j _ hl hm => by omega))⟩, ?_⟩
        refine an_o 7 <| nal 54 (vdC 0 attZ proZ 0) (.agg (vdC 0 attZ proZ 0)) fun V47 gy egy h48 kV47 => ?_
        have n49 := nl egy h43
        have n50 := nk egy K45
        have h51 := Turns.nn h42 kV47
        have h52 := kV47.bk h43
        have kb53 := kb44.nn kV47
        have K54 := K45.nn kV47
        have z55 := kV47.size
        refine ⟨⟨h52, (hs.keeps K54 (fun j _ hl hm => by omega))⟩, ?_⟩
        refine an_o 8 <| nst 54 gy ((DAct.c x)) h48 (by rw [DAct.c_size hx1]; kernel_rfl) (by rw [DAct.c_size hx1]; kernel_rfl) DAct.c_one fun V56 h57 kV56 => ?_
        have h58 : Turns w.heap.size w V56 := Turns.no h51 kV56 (by omega)
        have h59 := kV56.bO h52
        have kb60 : Keeps Nob V30 V56 := kb53.nO kV56
        have K61 := K54.nO kV56
        have z62 := kV56.size
        refine ⟨⟨h59, (hs.keeps K61 (fun j _ hl hm => by omega))⟩, ?_⟩
        refine ane ?_
        exact ⟨rfl, gy, by kernel_rfl, h58, h59, (h33.keepsN kb60), h57, by omega, K61⟩
       ·refine nal 54 (vdC 0 attZ proZ 0) (.agg (vdC 0 attZ proZ 0)) fun V63 gy egy h64 kV63 => ?_
        have n65 := nl egy h37
        have n66 := nk egy K39
        have h67 := Turns.nn h36 kV63
        have h68 := kV63.bk h37
        have kb69 := kb38.nn kV63
        have K70 := K39.nn kV63
        have z71 := kV63.size
        refine ⟨⟨h68, (hs.keeps K70 (fun j _ hl hm => by omega))⟩, ?_⟩
        refine an_o 6 ?_
        refine ncr 23 #[.agg (ofP (1 + ne) (1 + nw)).cells, pT d 0, .agg (DAct.c x0)] Tryz.func23 ((hnear ▸ ltnear_ok _ d _ _ _ _ x0 _ (Det2.fst (h33.keepsN kb69)) hxo)) fun V72 kV72 => ?_
        have h73 := Turns.nn h67 kV72
        have h74 := kV72.bk h68
        have kb75 := kb69.nn kV72
        have ⟨K77, z78, h76⟩ := kV72.z1 K70 h64
        refine ⟨⟨h74, (hs.keeps K77 (fun j _ hl hm => by omega))⟩, ?_⟩
        refine an_o 8 <| nst 54 gy ((DAct.c x)) h76 (by rw [DAct.c_size hx1]; kernel_rfl) (by rw [DAct.c_size hx1]; kernel_rfl) DAct.c_one fun V79 h80 kV79 => ?_
        have h81 : Turns w.heap.size w V79 := Turns.no h73 kV79 (by omega)
        have h82 := kV79.bO h74
        have kb83 : Keeps Nob V30 V79 := kb75.nO kV79
        have K84 := K77.nO kV79
        have z85 := kV79.size
        refine ⟨⟨h82, (hs.keeps K84 (fun j _ hl hm => by omega))⟩, ?_⟩
        refine ane ?_
        exact ⟨rfl, gy, by kernel_rfl, h81, h82, (h33.keepsN kb83), h80, by omega, K84⟩
      rintro aQ V86 ⟨gy, rfl, h87, h88, h89, h90, hd91, K92⟩
      have z93 := lt_of_block h90
      refine tqr_ [0, 1] <| kk 1 <| ppq _ (lc (h90) (DAct.c_0)) <| et_ <| bl_ 2 <| qr_ [0, 1] <| ppq (.bool true) (cbo (show ((((x.k) : Int) == ((0) : Int))) = true from by rw [hk]; rfl)) <| kk 1 <| ey_ <| r_ [0, 1, 2, 3] <| kk 2 <| ppq (.agg (Att.c x.a)) (exec_load_seg 28 (.tmp 96) (by kernel_rfl) gy 1 (by kernel_rfl) (Att.cl x.a) _ _ _ h90 (fun j u h => DAct.c_a h) Tryz.underlying28 rfl (by rw [Att.cl_len hx1.a]; kernel_rfl)) ?_
      refine pcq 24 #[pT d 0, .agg (Att.c x.a)] Tryz.func24 ((Det2.attest h89 K92.size hx1.a).mono ?_)
      rintro e V94 ⟨rfl, hDV94, MV94, hMV94, kV94⟩
      refine ⟨_, rfl, ?_⟩
      have h95 : Turns w.heap.size w V94 := Turns.trans h87 ⟨MV94, hMV94, kV94⟩
      have h96 : HP V94 gp (Par.cells (ofP (1 + ne) (1 + nw))) 47 := (kV94.block gp (lt_of_block h88) (fun e => hMV94.no h88 e)).trans h88
      have K98 : Keeps ((fun j => w.heap.size ≤ j)) w V94 := K92.then kV94 (fun i hi hm => Nat.le_of_not_lt (fun h => hMV94.sub i h hm))
      have z99 := kV94.size
      refine ps_end <| blk_n ?_
      have hD100 : Det2 w.heap.size V94 d (ofP (1 + ne) (1 + nw)) h Aa Qa c (ofP (1 + ne) (1 + nw)) h A2 Q2 := by rw [← eA, ← eQ]; exact hDV94
      exact ⟨rfl, pT gy 0, .int .i64 ((i : Nat) : Int), lv, .int .i64 ((l.length : Nat) : Int), .bool true, .agg (ofP (1 + ne) (1 + nw)).cells, pT d 0, lv, .int .i64 ((i : Nat) : Int), pT b_x (o_x + i * 73), .agg (DAct.c x0), .agg (DAct.c x), pT gy 0, .int .i64 x.k, .bool true, .bool true, pT d 0, pT gy 1, .agg (Att.c x.a), .tuple #[.agg (Vd.c (attVd (ofP (1 + ne) (1 + nw)) h A x.a)), .int .i64 (attErr (ofP (1 + ne) (1 + nw)) h x.a)], uu 40, uu 41, uu 42, uu 43, uu 44, uu 45, by kernel_rfl, h95, h96, hD100, by omega, K98⟩
     ·obtain ⟨x0, hx⟩ : ∃ x, l[i]? = some x := ⟨_, List.getElem?_eq_getElem lt_l⟩
      have hxo := hok x0 (List.mem_of_getElem? hx)
      obtain ⟨b_x, o_x, c_x, hv_x, hb_x, _⟩ := ((hs.keeps K34 (fun j _ hl hm => by omega))).at_ i _ hx
      obtain ⟨x, hnear⟩ : ∃ x, nearAct (ofP (1 + ne) (1 + nw)) h x0 = x := ⟨_, rfl⟩
      obtain ⟨_, _, _, _, hx1⟩ := near_comes inv hxo
      rw [hnear] at hx1
      have hox : ox = some x := by rw [← hox0, hx, Option.map_some, hnear]
      have hk := hk0 x0 hx
      rw [hnear] at hk
      have eA : A = Aa := by rw [← hAa, hox]; exact oA_1 (by omega)
      have eQ : proNew (ofP (1 + ne) (1 + nw)) h Q x.q = Qa := by rw [← hQa, hox]; exact oQ_0 hk
      refine qr_ [0, 1, 2, 3] <| kk 2 <| ppq (iN l.length) (exec_len_sl (.tmp 81) 49 54 (by kernel_rfl) Tryz.underlying49 (by kernel_rfl) (hs.keeps K34 (fun j _ hl hm => by omega))) <| ppq _ (dct ((((i : Nat) : Int)) < (((l.length : Nat) : Int))) (by omega)) <| ey_ <| q_ ?_
      refine sy_cut (fun aQ VQ => ∃ (gy : Nat), (aQ = ⟨fs [[.int .i64 ep, .int .i64 wn, lv, sv, ud, ud, ud, ud, uu 0, .bool true, pT gp 0, pT d 0, .int .i64 0, pT c 0, .int .i64 0, .int .i64 s, .int .i64 t, .int .i64 b, .int .i64 ((i : Nat) : Int), .int .i64 ((m : Nat) : Int), pT gy 0], us uu 3 7, [.bool true, lv, .int .i64 ((l.length : Nat) : Int), .bool false, .bool false, sv, .int .i64 ((ks.length : Nat) : Int), .bool false, .bool false, ud, .int .i64 ep, .int .i64 ne, .int .i64 (1 + ne), .int .i64 wn, .int .i64 nw, .int .i64 (1 + nw), .agg (ofP (1 + ne) (1 + nw)).cells, .tuple #[pT d 0, .int .i64 0], .agg (ofP (1 + ne) (1 + nw)).cells, .tuple #[pT d 0, .int .i64 0], pT d 0, .int .i64 0, .tuple #[pT c 0, .int .i64 0], .agg (ofP (1 + ne) (1 + nw)).cells, .tuple #[pT c 0, .int .i64 0], pT c 0, .int .i64 0, .int .i64 0, .bool false, .bool false, .int .i64 0, .bool false, .bool false, .bool false, pT d 0, .bool false, .bool false, .bool false, pT c 0, .bool false, .bool false, .int .i64 ((i : Nat) : Int), sv, .int .i64 ((ks.length : Nat) : Int), .bool true, uu 14, uu 15, sv, .int .i64 ((i : Nat) : Int), pT b_k (o_k + i), .int .i64 sx, .int .i64 ((m : Nat) : Int), .int .i64 ((i : Nat) : Int), lv, .int .i64 ((l.length : Nat) : Int), .bool true, .agg (ofP (1 + ne) (1 + nw)).cells, pT d 0, lv, .int .i64 ((i : Nat) : Int), pT b_x (o_x + i * 73), .agg (DAct.c x0), .agg (DAct.c x)], us uu 32 91, un 15], []⟩) ∧ (Turns w.heap.size w VQ) ∧ (HP VQ gp (Par.cells (ofP (1 + ne) (1 + nw))) 47) ∧ (Det2 w.heap.size VQ d (ofP (1 + ne) (1 + nw)) h A Q c (ofP (1 + ne) (1 + nw)) h A2 Q2) ∧ (HP VQ gy (DAct.c x) 54) ∧ (gy ≠ gp ∧ w.heap.size ≤ gy ∧ V30.heap.size ≤ gy) ∧ (Keeps ((fun j => w.heap.size ≤ j)) w VQ)) ?_ ?_
      ·refine sy_np <| sy_reg <| anb 9 (fun W => (HP W gp (Par.cells (ofP (1 + ne) (1 + nw))) 47) ∧ (Sl W 73 DAct.cl lv l)) #[false, false, false, false, false, false, false, false, false] ?_
       obtain ⟨V101, eV101, kV101⟩ := drew_step V30
       rw [eV101]
       clear eV101
       have h102 := Turns.nn h31 kV101
       have h103 := kV101.bk h32
       have kb104 := (Keeps.refl Nob V30).nn kV101
       have K105 := K34.nn kV101
       have z106 := kV101.size
       refine avq 0 (.agg (ofP (1 + ne) (1 + nw)).cells) (fun W hS => exec_load_row 47 (.tmp 10) (by kernel_rfl) _ (by kernel_rfl) 47 (Par.cells (ofP (1 + ne) (1 + nw))) (0, 0) _ hS.1 Tryz.underlying47 rfl (by kernel_rfl)) ⟨h103, (hs.keeps K105 (fun j _ hl hm => by omega))⟩ <| ka [1, 2, 3] ⟨h103, (hs.keeps K105 (fun j _ hl hm => by omega))⟩ <| avq 4 _ (fun W hS => ixs b_x o_x l.length c_x .i64 i 73 Tryz.underlying49 (by omega) (hx := Eq.trans (b := lv) (by kernel_rfl) hv_x)) ⟨h103, (hs.keeps K105 (fun j _ hl hm => by omega))⟩ <| avq 5 (.agg (DAct.c x0)) (fun W hS => exec_load_mid 54 (.tmp 88) (by kernel_rfl) b_x (o_x + i * 73) (by kernel_rfl) (DAct.cl x0) _ (Sl.range hS.2 hx hv_x) Tryz.underlying54 rfl (by rw [DAct.cl_len hxo]; kernel_rfl)) ⟨h103, (hs.keeps K105 (fun j _ hl hm => by omega))⟩ ?_
       refine an_two 6 7 (by kernel_rfl) ?_ ?_
       ·refine ncr 23 #[.agg (ofP (1 + ne) (1 + nw)).cells, pT d 0, .agg (DAct.c x0)] Tryz.func23 ((hnear ▸ ltnear_ok _ d _ _ _ _ x0 _ (Det2.fst (h33.keepsN kb104)) hxo)) fun V107 kV107 => ?_
        have h108 := Turns.nn h102 kV107
        have h109 := kV107.bk h103
        have kb110 := kb104.nn kV107
        have K111 := K105.nn kV107
        have z112 := kV107.size
        refine ⟨⟨h109, (hs.keeps K111 (fun j _ hl hm => by omega))⟩, ?_⟩
        refine an_o 7 <| nal 54 (vdC 0 attZ proZ 0) (.agg (vdC 0 attZ proZ 0)) fun V113 gy egy h114 kV113 => ?_
        have n115 := nl egy h109
        have n116 := nk egy K111
        have h117 := Turns.nn h108 kV113
        have h118 := kV113.bk h109
        have kb119 := kb110.nn kV113
        have K120 := K111.nn kV113
        have z121 := kV113.size
        refine ⟨⟨h118, (hs.keeps K120 (fun j _ hl hm => by omega))⟩, ?_⟩
        refine an_o 8 <| nst 54 gy ((DAct.c x)) h114 (by rw [DAct.c_size hx1]; kernel_rfl) (by rw [DAct.c_size hx1]; kernel_rfl) DAct.c_one fun V122 h123 kV122 => ?_
        have h124 : Turns w.heap.size w V122 := Turns.no h117 kV122 (by omega)
        have h125 := kV122.bO h118
        have kb126 : Keeps Nob V30 V122 := kb119.nO kV122
        have K127 := K120.nO kV122
        have z128 := kV122.size
        refine ⟨⟨h125, (hs.keeps K127 (fun j _ hl hm => by omega))⟩, ?_⟩
        refine ane ?_
        exact ⟨rfl, gy, by kernel_rfl, h124, h125, (h33.keepsN kb126), h123, by omega, K127⟩
       ·refine nal 54 (vdC 0 attZ proZ 0) (.agg (vdC 0 attZ proZ 0)) fun V129 gy egy h130 kV129 => ?_
        have n131 := nl egy h103
        have n132 := nk egy K105
        have h133 := Turns.nn h102 kV129
        have h134 := kV129.bk h103
        have kb135 := kb104.nn kV129
        have K136 := K105.nn kV129
        have z137 := kV129.size
        refine ⟨⟨h134, (hs.keeps K136 (fun j _ hl hm => by omega))⟩, ?_⟩
        refine an_o 6 ?_
        refine ncr 23 #[.agg (ofP (1 + ne) (1 + nw)).cells, pT d 0, .agg (DAct.c x0)] Tryz.func23 ((hnear ▸ ltnear_ok _ d _ _ _ _ x0 _ (Det2.fst (h33.keepsN kb135)) hxo)) fun V138 kV138 => ?_
        have h139 := Turns.nn h133 kV138
        have h140 := kV138.bk h134
        have kb141 := kb135.nn kV138
        have ⟨K143, z144, h142⟩ := kV138.z1 K136 h130
        refine ⟨⟨h140, (hs.keeps K143 (fun j _ hl hm => by omega))⟩, ?_⟩
        refine an_o 8 <| nst 54 gy ((DAct.c x)) h142 (by rw [DAct.c_size hx1]; kernel_rfl) (by rw [DAct.c_size hx1]; kernel_rfl) DAct.c_one fun V145 h146 kV145 => ?_
        have h147 : Turns w.heap.size w V145 := Turns.no h139 kV145 (by omega)
        have h148 := kV145.bO h140
        have kb149 : Keeps Nob V30 V145 := kb141.nO kV145
        have K150 := K143.nO kV145
        have z151 := kV145.size
        refine ⟨⟨h148, (hs.keeps K150 (fun j _ hl hm => by omega))⟩, ?_⟩
        refine ane ?_
        exact ⟨rfl, gy, by kernel_rfl, h147, h148, (h33.keepsN kb149), h146, by omega, K150⟩
      rintro aQ V152 ⟨gy, rfl, h153, h154, h155, h156, hd157, K158⟩
      have z159 := lt_of_block h156
      refine tqr_ [0, 1] <| kk 1 <| ppq _ (lc (h156) (DAct.c_0)) <| et_ <| bl_ 2 <| qr_ [0, 1] <| ppq (.bool false) (cbo (show ((((x.k) : Int) == ((0) : Int))) = false from by rw [hk]; rfl)) <| kk 1 <| en_ <| qr_ [0, 1] <| ppq (.bool true) (cbo (show ((((x.k) : Int) == ((1) : Int))) = true from by rw [hk]; rfl)) <| kk 1 <| ey_ <| r_ [0, 1, 2, 3] ?_
      refine kk 2 <| ppq (.agg (Pro.c x.q)) (exec_load_seg 37 (.tmp 102) (by kernel_rfl) gy 37 (by kernel_rfl) (Pro.cl x.q) _ _ _ h156 (fun j u h => DAct.c_q hx1 h) Tryz.underlying37 rfl (by rw [Pro.cl_len hx1.q]; kernel_rfl)) ?_
      refine pcq 25 #[pT d 0, .agg (Pro.c x.q)] Tryz.func25 ((Det2.propose h155 K158.size hx1.q).mono ?_)
      rintro e V160 ⟨rfl, hDV160, MV160, hMV160, kV160⟩
      refine ⟨_, rfl, ?_⟩
      have h161 : Turns w.heap.size w V160 := Turns.trans h153 ⟨MV160, hMV160, kV160⟩
      have h162 : HP V160 gp (Par.cells (ofP (1 + ne) (1 + nw))) 47 := (kV160.block gp (lt_of_block h154) (fun e => hMV160.no h154 e)).trans h154
      have K164 : Keeps ((fun j => w.heap.size ≤ j)) w V160 := K158.then kV160 (fun i hi hm => Nat.le_of_not_lt (fun h => hMV160.sub i h hm))
      have z165 := kV160.size
      refine ps_end <| blk_n ?_
      have hD166 : Det2 w.heap.size V160 d (ofP (1 + ne) (1 + nw)) h Aa Qa c (ofP (1 + ne) (1 + nw)) h A2 Q2 := by rw [← eA, ← eQ]; exact hDV160
      exact ⟨rfl, pT gy 0, .int .i64 ((i : Nat) : Int), lv, .int .i64 ((l.length : Nat) : Int), .bool true, .agg (ofP (1 + ne) (1 + nw)).cells, pT d 0, lv, .int .i64 ((i : Nat) : Int), pT b_x (o_x + i * 73), .agg (DAct.c x0), .agg (DAct.c x), pT gy 0, .int .i64 x.k, .bool false, .bool false, uu 36, uu 37, uu 38, uu 39, .bool true, .bool true, pT d 0, pT gy 37, .agg (Pro.c x.q), .tuple #[.agg (Vd.c (proVd (ofP (1 + ne) (1 + nw)) h Q x.q)), .int .i64 (proErr (ofP (1 + ne) (1 + nw)) h x.q)], by kernel_rfl, h161, h162, hD166, by omega, K164⟩
     ·obtain ⟨x0, hx⟩ : ∃ x, l[i]? = some x := ⟨_, List.getElem?_eq_getElem lt_l⟩
      have hxo := hok x0 (List.mem_of_getElem? hx)
      obtain ⟨b_x, o_x, c_x, hv_x, hb_x, _⟩ := ((hs.keeps K34 (fun j _ hl hm => by omega))).at_ i _ hx
      obtain ⟨x, hnear⟩ : ∃ x, nearAct (ofP (1 + ne) (1 + nw)) h x0 = x := ⟨_, rfl⟩
      obtain ⟨_, _, _, _, hx1⟩ := near_comes inv hxo
      rw [hnear] at hx1
      have hox : ox = some x := by rw [← hox0, hx, Option.map_some, hnear]
      have hk := hk0 x0 hx
      rw [hnear] at hk
      have eA : A = Aa := by rw [← hAa, hox]; exact oA_1 hk.1
      have eQ : Q = Qa := by rw [← hQa, hox]; exact oQ_1 hk.2
      refine qr_ [0, 1, 2, 3] <| kk 2 <| ppq (iN l.length) (exec_len_sl (.tmp 81) 49 54 (by kernel_rfl) Tryz.underlying49 (by kernel_rfl) (hs.keeps K34 (fun j _ hl hm => by omega))) <| ppq _ (dct ((((i : Nat) : Int)) < (((l.length : Nat) : Int))) (by omega)) <| ey_ <| q_ ?_
      refine sy_cut (fun aQ VQ => ∃ (gy : Nat), (aQ = ⟨fs [[.int .i64 ep, .int .i64 wn, lv, sv, ud, ud, ud, ud, uu 0, .bool true, pT gp 0, pT d 0, .int .i64 0, pT c 0, .int .i64 0, .int .i64 s, .int .i64 t, .int .i64 b, .int .i64 ((i : Nat) : Int), .int .i64 ((m : Nat) : Int), pT gy 0], us uu 3 7, [.bool true, lv, .int .i64 ((l.length : Nat) : Int), .bool false, .bool false, sv, .int .i64 ((ks.length : Nat) : Int), .bool false, .bool false, ud, .int .i64 ep, .int .i64 ne, .int .i64 (1 + ne), .int .i64 wn, .int .i64 nw, .int .i64 (1 + nw), .agg (ofP (1 + ne) (1 + nw)).cells, .tuple #[pT d 0, .int .i64 0], .agg (ofP (1 + ne) (1 + nw)).cells, .tuple #[pT d 0, .int .i64 0], pT d 0, .int .i64 0, .tuple #[pT c 0, .int .i64 0], .agg (ofP (1 + ne) (1 + nw)).cells, .tuple #[pT c 0, .int .i64 0], pT c 0, .int .i64 0, .int .i64 0, .bool false, .bool false, .int .i64 0, .bool false, .bool false, .bool false, pT d 0, .bool false, .bool false, .bool false, pT c 0, .bool false, .bool false, .int .i64 ((i : Nat) : Int), sv, .int .i64 ((ks.length : Nat) : Int), .bool true, uu 14, uu 15, sv, .int .i64 ((i : Nat) : Int), pT b_k (o_k + i), .int .i64 sx, .int .i64 ((m : Nat) : Int), .int .i64 ((i : Nat) : Int), lv, .int .i64 ((l.length : Nat) : Int), .bool true, .agg (ofP (1 + ne) (1 + nw)).cells, pT d 0, lv, .int .i64 ((i : Nat) : Int), pT b_x (o_x + i * 73), .agg (DAct.c x0), .agg (DAct.c x)], us uu 32 91, un 15], []⟩) ∧ (Turns w.heap.size w VQ) ∧ (HP VQ gp (Par.cells (ofP (1 + ne) (1 + nw))) 47) ∧ (Det2 w.heap.size VQ d (ofP (1 + ne) (1 + nw)) h A Q c (ofP (1 + ne) (1 + nw)) h A2 Q2) ∧ (HP VQ gy (DAct.c x) 54) ∧ (gy ≠ gp ∧ w.heap.size ≤ gy ∧ V30.heap.size ≤ gy) ∧ (Keeps ((fun j => w.heap.size ≤ j)) w VQ)) ?_ ?_
      ·refine sy_np <| sy_reg <| anb 9 (fun W => (HP W gp (Par.cells (ofP (1 + ne) (1 + nw))) 47) ∧ (Sl W 73 DAct.cl lv l)) #[false, false, false, false, false, false, false, false, false] ?_
       obtain ⟨V167, eV167, kV167⟩ := drew_step V30
       rw [eV167]
       clear eV167
       have h168 := Turns.nn h31 kV167
       have h169 := kV167.bk h32
       have kb170 := (Keeps.refl Nob V30).nn kV167
       have K171 := K34.nn kV167
       have z172 := kV167.size
       refine avq 0 (.agg (ofP (1 + ne) (1 + nw)).cells) (fun W hS => exec_load_row 47 (.tmp 10) (by kernel_rfl) _ (by kernel_rfl) 47 (Par.cells (ofP (1 + ne) (1 + nw))) (0, 0) _ hS.1 Tryz.underlying47 rfl (by kernel_rfl)) ⟨h169, (hs.keeps K171 (fun j _ hl hm => by omega))⟩ <| ka [1, 2, 3] ⟨h169, (hs.keeps K171 (fun j _ hl hm => by omega))⟩ <| avq 4 _ (fun W hS => ixs b_x o_x l.length c_x .i64 i 73 Tryz.underlying49 (by omega) (hx := Eq.trans (b := lv) (by kernel_rfl) hv_x)) ⟨h169, (hs.keeps K171 (fun j _ hl hm => by omega))⟩ <| avq 5 (.agg (DAct.c x0)) (fun W hS => exec_load_mid 54 (.tmp 88) (by kernel_rfl) b_x (o_x + i * 73) (by kernel_rfl) (DAct.cl x0) _ (Sl.range hS.2 hx hv_x) Tryz.underlying54 rfl (by rw [DAct.cl_len hxo]; kernel_rfl)) ⟨h169, (hs.keeps K171 (fun j _ hl hm => by omega))⟩ ?_
       refine an_two 6 7 (by kernel_rfl) ?_ ?_
       ·refine ncr 23 #[.agg (ofP (1 + ne) (1 + nw)).cells, pT d 0, .agg (DAct.c x0)] Tryz.func23 ((hnear ▸ ltnear_ok _ d _ _ _ _ x0 _ (Det2.fst (h33.keepsN kb170)) hxo)) fun V173 kV173 => ?_
        have h174 := Turns.nn h168 kV173
        have h175 := kV173.bk h169
        have kb176 := kb170.nn kV173
        have K177 := K171.nn kV173
        have z178 := kV173.size
        refine ⟨⟨h175, (hs.keeps K177 (fun j _ hl hm => by omega))⟩, ?_⟩
        refine an_o 7 <| nal 54 (vdC 0 attZ proZ 0) (.agg (vdC 0 attZ proZ 0)) fun V179 gy egy h180 kV179 => ?_
        have n181 := nl egy h175
        have n182 := nk egy K177
        have h183 := Turns.nn h174 kV179
        have h184 := kV179.bk h175
        have kb185 := kb176.nn kV179
        have K186 := K177.nn kV179
        have z187 := kV179.size
        refine ⟨⟨h184, (hs.keeps K186 (fun j _ hl hm => by omega))⟩, ?_⟩
        refine an_o 8 <| nst 54 gy ((DAct.c x)) h180 (by rw [DAct.c_size hx1]; kernel_rfl) (by rw [DAct.c_size hx1]; kernel_rfl) DAct.c_one fun V188 h189 kV188 => ?_
        have h190 : Turns w.heap.size w V188 := Turns.no h183 kV188 (by omega)
        have h191 := kV188.bO h184
        have kb192 : Keeps Nob V30 V188 := kb185.nO kV188
        have K193 := K186.nO kV188
        have z194 := kV188.size
        refine ⟨⟨h191, (hs.keeps K193 (fun j _ hl hm => by omega))⟩, ?_⟩
        refine ane ?_
        exact ⟨rfl, gy, by kernel_rfl, h190, h191, (h33.keepsN kb192), h189, by omega, K193⟩
       ·refine nal 54 (vdC 0 attZ proZ 0) (.agg (vdC 0 attZ proZ 0)) fun V195 gy egy h196 kV195 => ?_
        have n197 := nl egy h169
        have n198 := nk egy K171
        have h199 := Turns.nn h168 kV195
        have h200 := kV195.bk h169
        have kb201 := kb170.nn kV195
        have K202 := K171.nn kV195
        have z203 := kV195.size
        refine ⟨⟨h200, (hs.keeps K202 (fun j _ hl hm => by omega))⟩, ?_⟩
        refine an_o 6 ?_
        refine ncr 23 #[.agg (ofP (1 + ne) (1 + nw)).cells, pT d 0, .agg (DAct.c x0)] Tryz.func23 ((hnear ▸ ltnear_ok _ d _ _ _ _ x0 _ (Det2.fst (h33.keepsN kb201)) hxo)) fun V204 kV204 => ?_
        have h205 := Turns.nn h199 kV204
        have h206 := kV204.bk h200
        have kb207 := kb201.nn kV204
        have ⟨K209, z210, h208⟩ := kV204.z1 K202 h196
        refine ⟨⟨h206, (hs.keeps K209 (fun j _ hl hm => by omega))⟩, ?_⟩
        refine an_o 8 <| nst 54 gy ((DAct.c x)) h208 (by rw [DAct.c_size hx1]; kernel_rfl) (by rw [DAct.c_size hx1]; kernel_rfl) DAct.c_one fun V211 h212 kV211 => ?_
        have h213 : Turns w.heap.size w V211 := Turns.no h205 kV211 (by omega)
        have h214 := kV211.bO h206
        have kb215 : Keeps Nob V30 V211 := kb207.nO kV211
        have K216 := K209.nO kV211
        have z217 := kV211.size
        refine ⟨⟨h214, (hs.keeps K216 (fun j _ hl hm => by omega))⟩, ?_⟩
        refine ane ?_
        exact ⟨rfl, gy, by kernel_rfl, h213, h214, (h33.keepsN kb215), h212, by omega, K216⟩
      rintro aQ V218 ⟨gy, rfl, h219, h220, h221, h222, hd223, K224⟩
      have z225 := lt_of_block h222
      refine tqr_ [0, 1] <| kk 1 <| ppq _ (lc (h222) (DAct.c_0)) <| et_ <| bl_ 2 <| qr_ [0, 1] <| ppq (.bool false) (cbo (show ((((x.k) : Int) == ((0) : Int))) = false from by simpa using hk.1)) <| kk 1 <| en_ <| qr_ [0, 1] <| ppq (.bool false) (cbo (show ((((x.k) : Int) == ((1) : Int))) = false from by simpa using hk.2)) <| kk 1 <| en_ <| s_ ?_
      refine blk_n ?_
      have hD226 : Det2 w.heap.size V218 d (ofP (1 + ne) (1 + nw)) h Aa Qa c (ofP (1 + ne) (1 + nw)) h A2 Q2 := by rw [← eA, ← eQ]; exact h221
      exact ⟨rfl, pT gy 0, .int .i64 ((i : Nat) : Int), lv, .int .i64 ((l.length : Nat) : Int), .bool true, .agg (ofP (1 + ne) (1 + nw)).cells, pT d 0, lv, .int .i64 ((i : Nat) : Int), pT b_x (o_x + i * 73), .agg (DAct.c x0), .agg (DAct.c x), pT gy 0, .int .i64 x.k, .bool false, .bool false, uu 36, uu 37, uu 38, uu 39, .bool false, .bool false, uu 42, uu 43, uu 44, uu 45, by kernel_rfl, h219, h220, hD226, by omega, K224⟩
     ·have hox : ox = none := by rw [← hox0, List.getElem?_eq_none (by omega)]; rfl
      have eA : A = Aa := by rw [← hAa, hox]; exact rfl
      have eQ : Q = Qa := by rw [← hQa, hox]; exact rfl
      refine qr_ [0, 1, 2, 3] <| kk 2 <| ppq (iN l.length) (exec_len_sl (.tmp 81) 49 54 (by kernel_rfl) Tryz.underlying49 (by kernel_rfl) (hs.keeps K34 (fun j _ hl hm => by omega))) <| ppq _ (dcf ((((i : Nat) : Int)) < (((l.length : Nat) : Int))) (by omega)) <| en_ <| s_ ?_
      have hD227 : Det2 w.heap.size V30 d (ofP (1 + ne) (1 + nw)) h Aa Qa c (ofP (1 + ne) (1 + nw)) h A2 Q2 := by rw [← eA, ← eQ]; exact h33
      exact ⟨rfl, uu 2, .int .i64 ((i : Nat) : Int), lv, .int .i64 ((l.length : Nat) : Int), .bool false, uu 25, uu 26, uu 27, uu 28, uu 29, uu 30, uu 31, uu 32, uu 33, uu 34, uu 35, uu 36, uu 37, uu 38, uu 39, uu 40, uu 41, uu 42, uu 43, uu 44, uu 45, by kernel_rfl, h31, h32, hD227, by omega, K34⟩
    rintro aQ V228 ⟨u11_20, u11_80, u11_81, u11_82, u11_83, u11_84, u11_85, u11_86, u11_87, u11_88, u11_89, u11_90, u11_91, u11_92, u11_93, u11_94, u11_95, u11_96, u11_97, u11_98, u11_99, u11_100, u11_101, u11_102, u11_103, u11_104, rfl, h229, h230, h231, z232, K233⟩
    refine tqr_ nl6_ <| kk 1 ?_
    refine pcq 12 #[pT d 0] Tryz.func12 ((Det1.height (Det2.fst h231)).mono ?_)
    rintro e w1 ⟨rfl, rfl⟩
    refine ⟨_, rfl, ?_⟩
    refine kk 2 <| ppq (.int .i64 hq) (exec_cast (congrArg (Value.int .i64) (wrapI (h + ((m % 4 : Nat) : Int)) hq hhq (by omega) (by omega))) (by kernel_rfl)) <| kk 1 <| eq_ <| qr_ nl10_ <| kk 2 ?_
    refine pcq 17 #[pT d 0, .int .i64 hq] Tryz.func17 ((Det2.is_move h231 K233.size hmv hmh).mono ?_)
    rintro e V234 ⟨rfl, hDV234, MV234, hMV234, kV234⟩
    refine ⟨_, rfl, ?_⟩
    have h235 : Turns w.heap.size w V234 := Turns.trans h229 ⟨MV234, hMV234, kV234⟩
    have h236 : HP V234 gp (Par.cells (ofP (1 + ne) (1 + nw))) 47 := (kV234.block gp (lt_of_block h230) (fun e => hMV234.no h230 e)).trans h230
    have K237 : Keeps ((fun j => w.heap.size ≤ j)) w V234 := K233.then kV234 (fun i hi hm => Nat.le_of_not_lt (fun h => hMV234.sub i h hm))
    have z238 := kV234.size
    refine kk 4 ?_
    refine pcq 17 #[pT c 0, .int .i64 hq] Tryz.func17 ((Det2.out (Det2.is_move (Det2.swap hDV234) K237.size hmv hmh)).mono ?_)
    rintro e V239 ⟨rfl, hDV239, MV239, hMV239, kV239⟩
    refine ⟨_, rfl, ?_⟩
    have h240 : Turns w.heap.size w V239 := Turns.trans h235 ⟨MV239, hMV239, kV239⟩
    have h241 : HP V239 gp (Par.cells (ofP (1 + ne) (1 + nw))) 47 := (kV239.block gp (lt_of_block h236) (fun e => hMV239.no h236 e)).trans h236
    have K242 : Keeps ((fun j => w.heap.size ≤ j)) w V239 := K237.then kV239 (fun i hi hm => Nat.le_of_not_lt (fun h => hMV239.sub i h hm))
    have z243 := kV239.size
    refine kk 2 <| en_ <| s_ <| tqr_ nl8_ <| ppq (.agg (ofP (1 + ne) (1 + nw)).cells) (exec_load_row 47 (.tmp 10) (by kernel_rfl) _ (by kernel_rfl) 47 (Par.cells (ofP (1 + ne) (1 + nw))) (0, 0) _ h241 Tryz.underlying47 rfl (by kernel_rfl)) <| kk 1 ?_
    refine pcr 26 #[.agg (ofP (1 + ne) (1 + nw)).cells, .int .i64 hq] Tryz.func26 (dpLow_is ok2 hlo _) fun V244 kV244 => ?_
    have h245 := Turns.nn h240 kV244
    have h246 := kV244.bk h241
    have kb247 := (Keeps.refl Nob V239).nn kV244
    have K248 := K242.nn kV244
    have z249 := kV244.size
    refine kk 5 <| ps_end <| tqr_ nl8_ <| ppq (.agg (ofP (1 + ne) (1 + nw)).cells) (exec_load_row 47 (.tmp 10) (by kernel_rfl) _ (by kernel_rfl) 47 (Par.cells (ofP (1 + ne) (1 + nw))) (0, 0) _ h246 Tryz.underlying47 rfl (by kernel_rfl)) <| kk 1 ?_
    refine pcr 27 #[.agg (ofP (1 + ne) (1 + nw)).cells, .int .i64 hq] Tryz.func27 (dpEpoch_is ok2 hnow _) fun V250 kV250 => ?_
    have h251 := Turns.nn h245 kV250
    have h252 := kV250.bk h246
    have kb253 := kb247.nn kV250
    have K254 := K248.nn kV250
    have z255 := kV250.size
    refine kk 5 <| eqr_ [0, 1, 2, 3] <| kk 2 <| ppq (.int .i64 sa) (dexec_maxc (.tmp 132) (.tmp 133) #[3, 3] (by kernel_rfl) .i64 s lo sa (by kernel_rfl) (by kernel_rfl) hsa) <| kk 1 <| eq_ ?_
    refine sy_cut (fun aQ VQ => ∃ (u17_26 u17_135 u17_136 u17_137 u17_138 u17_139 u17_140 u17_141 u17_142 u17_143 u17_144 u17_145 u17_146 u17_147 u17_148 u17_149 u17_150 u17_151 u17_152 u17_153 u17_154 u17_155 u17_156 u17_157 u17_158 u17_159 u17_160 u17_161 u17_162 u17_163 u17_164 u17_165 : Value), (aQ = ⟨fs [[.int .i64 ep, .int .i64 wn, lv, sv, ud, ud, ud, ud, uu 0, .bool true, pT gp 0, pT d 0, .int .i64 0, pT c 0, .int .i64 0, .int .i64 sb, .int .i64 tb, .int .i64 b, .int .i64 ((i : Nat) : Int), .int .i64 ((m : Nat) : Int), u11_20, .int .i64 hq, .int .i64 lo, .int .i64 0, .int .i64 now, .int .i64 0, u17_26, uu 9, .bool true, lv, .int .i64 ((l.length : Nat) : Int), .bool false, .bool false, sv, .int .i64 ((ks.length : Nat) : Int), .bool false, .bool false, ud, .int .i64 ep, .int .i64 ne, .int .i64 (1 + ne), .int .i64 wn, .int .i64 nw, .int .i64 (1 + nw), .agg (ofP (1 + ne) (1 + nw)).cells, .tuple #[pT d 0, .int .i64 0], .agg (ofP (1 + ne) (1 + nw)).cells, .tuple #[pT d 0, .int .i64 0], pT d 0, .int .i64 0, .tuple #[pT c 0, .int .i64 0], .agg (ofP (1 + ne) (1 + nw)).cells, .tuple #[pT c 0, .int .i64 0], pT c 0, .int .i64 0, .int .i64 0, .bool false, .bool false, .int .i64 0, .bool false, .bool false, .bool false, pT d 0, .bool false, .bool false, .bool false, pT c 0, .bool false, .bool false, .int .i64 ((i : Nat) : Int), sv, .int .i64 ((ks.length : Nat) : Int), .bool true, uu 14, uu 15, sv, .int .i64 ((i : Nat) : Int), pT b_k (o_k + i), .int .i64 sx, .int .i64 ((m : Nat) : Int), u11_80, u11_81, u11_82, u11_83, u11_84, u11_85, u11_86, u11_87, u11_88, u11_89, u11_90, u11_91, u11_92, u11_93, u11_94, u11_95, u11_96, u11_97, u11_98, u11_99, u11_100, u11_101, u11_102, u11_103, u11_104, pT d 0, .int .i64 h, .int .i64 ((m : Nat) : Int), .int .i64 ((m % 4 : Nat) : Int), .int .i64 hq, pT d 0, .int .i64 hq, .int .i64 0, .bool false, .bool false, pT c 0, .int .i64 hq, .int .i64 0, .bool false, .bool false, .tuple #[.int .i64 lo, .int .i64 0], .agg (ofP (1 + ne) (1 + nw)).cells, .int .i64 hq, .tuple #[.int .i64 lo, .int .i64 0], .int .i64 lo, .int .i64 0, .tuple #[.int .i64 now, .int .i64 0], .agg (ofP (1 + ne) (1 + nw)).cells, .int .i64 hq, .tuple #[.int .i64 now, .int .i64 0], .int .i64 now, .int .i64 0, .int .i64 s, .int .i64 lo, .int .i64 sa, u17_135, u17_136, u17_137, u17_138, u17_139, u17_140, u17_141, u17_142, u17_143, u17_144, u17_145, u17_146, u17_147, u17_148, u17_149, u17_150, u17_151, u17_152, u17_153, u17_154, u17_155, u17_156, u17_157, u17_158, u17_159, u17_160, u17_161, u17_162, u17_163, u17_164, u17_165], us uu 107 16, un 15], []⟩) ∧ (Turns w.heap.size w VQ) ∧ (HP VQ gp (Par.cells (ofP (1 + ne) (1 + nw))) 47) ∧ (Det2 w.heap.size VQ d (ofP (1 + ne) (1 + nw)) hq Ab Qa c (ofP (1 + ne) (1 + nw)) hq Ac Q2) ∧ (V250.heap.size ≤ VQ.heap.size) ∧ (Keeps ((fun j => w.heap.size ≤ j)) w VQ)) ?_ ?_
    ·rcases (show (now > t ∧ now ≥ sa) ∨ ¬ now > t ∨ (now > t ∧ ¬ now ≥ sa) by omega) with hc | hc | hc
     ·rw [if_pos hc] at hAb hAc htb hsb
      subst htb hsb
      obtain ⟨aa, haa⟩ : ∃ y, inA sa now = y := ⟨_, rfl⟩
      rw [haa] at hAb hAc
      have aok : aa.Ok := haa ▸ inA_ok (by unfold i64b; omega) (by unfold i64b; omega)
      have hr_aa := aok.r
      have com3 : Comes (ofP (1 + ne) (1 + nw)) hq aa := haa ▸ inA_comes (by omega) (by omega) (by omega) (by omega) (by omega)
      have inv3 := (Det2.fst (hDV239.keepsN kb253)).inv
      have inv4 := ((hDV239.keepsN kb253)).inv2
      have ja := inn_a inn2 inv3 haa com3 hc.1
      have jb := inn_a2 inn2 inv4 haa com3 hc.1
      refine qr_ nl8_ <| kk 2 <| ppq _ (dct (((now) : Int) > ((t) : Int)) (by omega)) <| kk 3 <| ppq _ (dct (((now) : Int) ≥ ((sa) : Int)) (by omega)) <| kk 1 <| ey_ <| qr_ nl5_ <| kk 2 <| ppq (.agg (Att.c aa)) (by subst haa; kernel_rfl) ?_
      refine pal 28 (#[.int .i64 0, .int .i64 0, .int .i64 0, .int .u8 0, .int .u8 0, .int .u8 0, .int .u8 0, .int .u8 0, .int .u8 0, .int .u8 0, .int .u8 0, .int .u8 0, .int .u8 0, .int .u8 0, .int .u8 0, .int .u8 0, .int .u8 0, .int .u8 0, .int .u8 0, .int .u8 0, .int .u8 0, .int .u8 0, .int .u8 0, .int .u8 0, .int .u8 0, .int .u8 0, .int .u8 0, .int .u8 0, .int .u8 0, .int .u8 0, .int .u8 0, .int .u8 0, .int .u8 0, .int .u8 0, .int .u8 0, .int .u64 0]) (.agg (#[.int .i64 0, .int .i64 0, .int .i64 0, .int .u8 0, .int .u8 0, .int .u8 0, .int .u8 0, .int .u8 0, .int .u8 0, .int .u8 0, .int .u8 0, .int .u8 0, .int .u8 0, .int .u8 0, .int .u8 0, .int .u8 0, .int .u8 0, .int .u8 0, .int .u8 0, .int .u8 0, .int .u8 0, .int .u8 0, .int .u8 0, .int .u8 0, .int .u8 0, .int .u8 0, .int .u8 0, .int .u8 0, .int .u8 0, .int .u8 0, .int .u8 0, .int .u8 0, .int .u8 0, .int .u8 0, .int .u8 0, .int .u64 0])) fun V256 ga ega h257 kV256 => ?_
      have n258 := nl ega h252
      have n259 := nk ega K254
      have h260 := Turns.nn h251 kV256
      have h261 := kV256.bk h252
      have kb262 := kb253.nn kV256
      have K263 := K254.nn kV256
      have z264 := kV256.size
      refine pst 28 ga ((Att.c aa)) h257 (by rw [Att.c_size _ hr_aa]; kernel_rfl) (by rw [Att.c_size _ hr_aa]; rfl) (Att.c_one _) fun V265 h266 kV265 => ?_
      have h267 : Turns w.heap.size w V265 := Turns.no h260 kV265 (by omega)
      have h268 := kV265.bO h261
      have kb269 : Keeps Nob V239 V265 := kb262.nO kV265
      have K270 := K263.nO kV265
      have z271 := kV265.size
      refine eq_ <| qr_ nl12_ <| kk 1 <| ppq _ (ldr 28 ga (h266) (by rw [Att.c_size _ hr_aa]; kernel_rfl)) <| kk 1 ?_
      refine pcq 28 #[pT d 0, .agg (Att.c aa), .int .i64 0, .agg (Att.c zAtt), .int .i64 0] Tryz.func28 ((Det2.attests (hDV239.keepsN kb269) K270.size aok com3.err ja.1 ja.2).mono ?_)
      rintro e V272 ⟨rfl, hDV272, MV272, hMV272, kV272⟩
      refine ⟨_, rfl, ?_⟩
      have h273 : Turns w.heap.size w V272 := Turns.trans h267 ⟨MV272, hMV272, kV272⟩
      have h274 : HP V272 gp (Par.cells (ofP (1 + ne) (1 + nw))) 47 := (kV272.block gp (lt_of_block h268) (fun e => hMV272.no h268 e)).trans h268
      have h275 : HP V272 ga (Att.c aa) 28 := (kV272.block ga (lt_of_block h266) (fun e => hMV272.no h266 e)).trans h266
      have K276 : Keeps ((fun j => w.heap.size ≤ j)) w V272 := K270.then kV272 (fun i hi hm => Nat.le_of_not_lt (fun h => hMV272.sub i h hm))
      have z277 := kV272.size
      refine kk 3 <| ppq _ (ldr 28 ga (h275) (by rw [Att.c_size _ hr_aa]; kernel_rfl)) <| kk 1 ?_
      refine pcq 28 #[pT c 0, .agg (Att.c aa), .int .i64 0, .agg (Att.c zAtt), .int .i64 0] Tryz.func28 ((Det2.out (Det2.attests (Det2.swap hDV272) K276.size aok com3.err jb.1 jb.2)).mono ?_)
      rintro e V278 ⟨rfl, hDV278, MV278, hMV278, kV278⟩
      refine ⟨_, rfl, ?_⟩
      have h279 : Turns w.heap.size w V278 := Turns.trans h273 ⟨MV278, hMV278, kV278⟩
      have h280 : HP V278 gp (Par.cells (ofP (1 + ne) (1 + nw))) 47 := (kV278.block gp (lt_of_block h274) (fun e => hMV278.no h274 e)).trans h274
      have K282 : Keeps ((fun j => w.heap.size ≤ j)) w V278 := K276.then kV278 (fun i hi hm => Nat.le_of_not_lt (fun h => hMV278.sub i h hm))
      have z283 := kV278.size
      refine kk 2 <| ps_end <| then_n <| n_ <| s_ <| tqr_ [0, 1] <| kk 2 <| er_ nl8_ <| kk 3 ?_
      refine ppq _ (cwN (n := m / 4)) <| kk 1 <| ppq _ (cwI (x := sa + ((((m / 4) % 3 : Nat) : Int)))) <| ppq (.int .i64 (min now ((sa + ((((m / 4) % 3 : Nat) : Int)))))) (dexec_min (.tmp 159) (.tmp 164) #[3, 3] (by kernel_rfl) .i64 now ((sa + ((((m / 4) % 3 : Nat) : Int)))) _ (by kernel_rfl) (by kernel_rfl) rfl) <| kk 1 <| ps_end ?_
      have hD284 : Det2 w.heap.size V278 d (ofP (1 + ne) (1 + nw)) hq Ab Qa c (ofP (1 + ne) (1 + nw)) hq Ac Q2 := by rw [← hAb, ← hAc]; exact hDV278
      exact ⟨rfl, pT ga 0, .int .i64 now, .int .i64 t, .bool true, .bool true, .int .i64 now, .int .i64 sa, .bool true, .bool true, .int .i64 sa, .int .i64 now, .agg (Att.c aa), pT d 0, .agg (Att.c aa), .agg (Att.c zAtt), .bool true, .bool false, .bool false, pT c 0, .agg (Att.c aa), .agg (Att.c zAtt), .bool true, .bool false, .bool false, .int .i64 now, .int .i64 now, .int .i64 sa, .int .i64 ((m : Nat) : Int), .int .i64 ((m / 4 : Nat) : Int), .int .i64 (((m / 4) % 3 : Nat) : Int), .int .i64 (sa + ((((m / 4) % 3 : Nat) : Int))), .int .i64 (min now ((sa + ((((m / 4) % 3 : Nat) : Int))))), by kernel_rfl, h279, h280, hD284, by omega, K282⟩
     ·rw [if_neg (show ¬ (now > t ∧ now ≥ sa) by omega)] at hAb hAc htb hsb
      subst htb hsb
      refine qr_ nl8_ <| kk 2 <| ppq _ (dcf (((now) : Int) > ((t) : Int)) (by omega)) <| kk 5 <| en_ <| s_ ?_
      have hD285 : Det2 w.heap.size V250 d (ofP (1 + ne) (1 + nw)) hq Ab Qa c (ofP (1 + ne) (1 + nw)) hq Ac Q2 := by rw [← hAb, ← hAc]; exact (hDV239.keepsN kb253)
      exact ⟨rfl, uu 8, .int .i64 now, .int .i64 t, .bool false, .bool false, undef, undef, undef, .bool false, uu 84, uu 85, uu 86, uu 87, uu 88, uu 89, uu 90, uu 91, uu 92, uu 93, uu 94, uu 95, uu 96, uu 97, uu 98, uu 99, uu 100, uu 101, uu 102, uu 103, uu 104, uu 105, uu 106, by kernel_rfl, h251, h252, hD285, by omega, K254⟩
     ·rw [if_neg (show ¬ (now > t ∧ now ≥ sa) by omega)] at hAb hAc htb hsb
      subst htb hsb
      refine qr_ nl8_ <| kk 2 <| ppq _ (dct (((now) : Int) > ((t) : Int)) (by omega)) <| kk 3 <| ppq _ (dcf (((now) : Int) ≥ ((sa) : Int)) (by omega)) <| kk 1 <| en_ <| s_ ?_
      have hD286 : Det2 w.heap.size V250 d (ofP (1 + ne) (1 + nw)) hq Ab Qa c (ofP (1 + ne) (1 + nw)) hq Ac Q2 := by rw [← hAb, ← hAc]; exact (hDV239.keepsN kb253)
      exact ⟨rfl, uu 8, .int .i64 now, .int .i64 t, .bool true, .bool true, .int .i64 now, .int .i64 sa, .bool false, .bool false, uu 84, uu 85, uu 86, uu 87, uu 88, uu 89, uu 90, uu 91, uu 92, uu 93, uu 94, uu 95, uu 96, uu 97, uu 98, uu 99, uu 100, uu 101, uu 102, uu 103, uu 104, uu 105, uu 106, by kernel_rfl, h251, h252, hD286, by omega, K254⟩
    rintro aQ V287 ⟨u17_26, u17_135, u17_136, u17_137, u17_138, u17_139, u17_140, u17_141, u17_142, u17_143, u17_144, u17_145, u17_146, u17_147, u17_148, u17_149, u17_150, u17_151, u17_152, u17_153, u17_154, u17_155, u17_156, u17_157, u17_158, u17_159, u17_160, u17_161, u17_162, u17_163, u17_164, u17_165, rfl, h288, h289, h290, z291, K292⟩
    refine then_n ?_
    refine sy_cut (fun aQ VQ => ∃ (u18_27 u18_166 u18_167 u18_168 u18_169 u18_170 u18_171 u18_172 u18_173 u18_174 u18_175 u18_176 u18_177 u18_178 u18_179 u18_180 u18_181 : Value), (aQ = ⟨fr [.int .i64 ep, .int .i64 wn, lv, sv, ud, ud, ud, ud, uu 0, .bool true, pT gp 0, pT d 0, .int .i64 0, pT c 0, .int .i64 0, .int .i64 sb, .int .i64 tb, .int .i64 bb, .int .i64 ((i : Nat) : Int), .int .i64 ((m : Nat) : Int), u11_20, .int .i64 hq, .int .i64 lo, .int .i64 0, .int .i64 now, .int .i64 0, u17_26, u18_27, .bool true, lv, .int .i64 ((l.length : Nat) : Int), .bool false, .bool false, sv, .int .i64 ((ks.length : Nat) : Int), .bool false, .bool false, ud, .int .i64 ep, .int .i64 ne, .int .i64 (1 + ne), .int .i64 wn, .int .i64 nw, .int .i64 (1 + nw), .agg (ofP (1 + ne) (1 + nw)).cells, .tuple #[pT d 0, .int .i64 0], .agg (ofP (1 + ne) (1 + nw)).cells, .tuple #[pT d 0, .int .i64 0], pT d 0, .int .i64 0, .tuple #[pT c 0, .int .i64 0], .agg (ofP (1 + ne) (1 + nw)).cells, .tuple #[pT c 0, .int .i64 0], pT c 0, .int .i64 0, .int .i64 0, .bool false, .bool false, .int .i64 0, .bool false, .bool false, .bool false, pT d 0, .bool false, .bool false, .bool false, pT c 0, .bool false, .bool false, .int .i64 ((i : Nat) : Int), sv, .int .i64 ((ks.length : Nat) : Int), .bool true, uu 14, uu 15, sv, .int .i64 ((i : Nat) : Int), pT b_k (o_k + i), .int .i64 sx, .int .i64 ((m : Nat) : Int), u11_80, u11_81, u11_82, u11_83, u11_84, u11_85, u11_86, u11_87, u11_88, u11_89, u11_90, u11_91, u11_92, u11_93, u11_94, u11_95, u11_96, u11_97, u11_98, u11_99, u11_100, u11_101, u11_102, u11_103, u11_104, pT d 0, .int .i64 h, .int .i64 ((m : Nat) : Int), .int .i64 ((m % 4 : Nat) : Int), .int .i64 hq, pT d 0, .int .i64 hq, .int .i64 0, .bool false, .bool false, pT c 0, .int .i64 hq, .int .i64 0, .bool false, .bool false, .tuple #[.int .i64 lo, .int .i64 0], .agg (ofP (1 + ne) (1 + nw)).cells, .int .i64 hq, .tuple #[.int .i64 lo, .int .i64 0], .int .i64 lo, .int .i64 0, .tuple #[.int .i64 now, .int .i64 0], .agg (ofP (1 + ne) (1 + nw)).cells, .int .i64 hq, .tuple #[.int .i64 now, .int .i64 0], .int .i64 now, .int .i64 0, .int .i64 s, .int .i64 lo, .int .i64 sa, u17_135, u17_136, u17_137, u17_138, u17_139, u17_140, u17_141, u17_142, u17_143, u17_144, u17_145, u17_146, u17_147, u17_148, u17_149, u17_150, u17_151, u17_152, u17_153, u17_154, u17_155, u17_156, u17_157, u17_158, u17_159, u17_160, u17_161, u17_162, u17_163, u17_164, u17_165, u18_166, u18_167, u18_168, u18_169, u18_170, u18_171, u18_172, u18_173, u18_174, u18_175, u18_176, u18_177, u18_178, u18_179, u18_180, u18_181] 15, []⟩) ∧ (Turns w.heap.size w VQ) ∧ (HP VQ gp (Par.cells (ofP (1 + ne) (1 + nw))) 47) ∧ (Det2 w.heap.size VQ d (ofP (1 + ne) (1 + nw)) hq Ab Qb c (ofP (1 + ne) (1 + nw)) hq Ac Qc) ∧ (V287.heap.size ≤ VQ.heap.size) ∧ (Keeps ((fun j => w.heap.size ≤ j)) w VQ)) ?_ ?_
    ·by_cases hc : hq > b
     ·rw [if_pos hc] at hQb hQc hbb
      subst hbb
      obtain ⟨qq, hqq⟩ : ∃ y, inQ hq = y := ⟨_, rfl⟩
      rw [hqq] at hQb hQc
      have qok : qq.Ok := hqq ▸ inQ_ok (by unfold i64b; omega)
      have hr_qq := qok.r
      have comq3 : ComesP (ofP (1 + ne) (1 + nw)) hq qq := hqq ▸ inQ_comes ok2 (by omega) (by omega)
      have ja := inn_q inn3.1 hqq comq3 hc
      have jb := inn_q2 inn3.1 hqq comq3 hc
      refine qr_ [0, 1, 2] <| kk 2 <| ppq _ (dct (((hq) : Int) > ((b) : Int)) (by omega)) <| ey_ <| qr_ [0, 1, 2, 3] <| kk 1 <| ppq (.agg (Pro.c qq)) (by subst hqq; kernel_rfl) <| pal 37 (#[.int .i64 0, .int .i64 0, .int .u8 0, .int .u8 0, .int .u8 0, .int .u8 0, .int .u8 0, .int .u8 0, .int .u8 0, .int .u8 0, .int .u8 0, .int .u8 0, .int .u8 0, .int .u8 0, .int .u8 0, .int .u8 0, .int .u8 0, .int .u8 0, .int .u8 0, .int .u8 0, .int .u8 0, .int .u8 0, .int .u8 0, .int .u8 0, .int .u8 0, .int .u8 0, .int .u8 0, .int .u8 0, .int .u8 0, .int .u8 0, .int .u8 0, .int .u8 0, .int .u8 0, .int .u8 0, .int .u64 0]) (.agg (#[.int .i64 0, .int .i64 0, .int .u8 0, .int .u8 0, .int .u8 0, .int .u8 0, .int .u8 0, .int .u8 0, .int .u8 0, .int .u8 0, .int .u8 0, .int .u8 0, .int .u8 0, .int .u8 0, .int .u8 0, .int .u8 0, .int .u8 0, .int .u8 0, .int .u8 0, .int .u8 0, .int .u8 0, .int .u8 0, .int .u8 0, .int .u8 0, .int .u8 0, .int .u8 0, .int .u8 0, .int .u8 0, .int .u8 0, .int .u8 0, .int .u8 0, .int .u8 0, .int .u8 0, .int .u8 0, .int .u64 0])) fun V293 gq egq h294 kV293 => ?_
      have n295 := nl egq h289
      have n296 := nk egq K292
      have h297 := Turns.nn h288 kV293
      have h298 := kV293.bk h289
      have kb299 := (Keeps.refl Nob V287).nn kV293
      have K300 := K292.nn kV293
      have z301 := kV293.size
      refine pst 37 gq ((Pro.c qq)) h294 (by rw [Pro.c_size _ hr_qq]; kernel_rfl) (by rw [Pro.c_size _ hr_qq]; rfl) (Pro.c_one _) fun V302 h303 kV302 => ?_
      have h304 : Turns w.heap.size w V302 := Turns.no h297 kV302 (by omega)
      have h305 := kV302.bO h298
      have kb306 : Keeps Nob V287 V302 := kb299.nO kV302
      have K307 := K300.nO kV302
      have z308 := kV302.size
      refine eq_ <| qr_ nl10_ <| kk 1 <| ppq _ (ldr 37 gq (h303) (by rw [Pro.c_size _ hr_qq]; kernel_rfl)) ?_
      refine pcq 13 #[pT d 0, .agg (Pro.c qq), .int .i64 0, .int .i64 0, .int .i64 0] Tryz.func13 ((Det2.proposes (h290.keepsN kb306) K307.size qok comq3.err ja.1 ja.2).mono ?_)
      rintro e V309 ⟨rfl, hDV309, MV309, hMV309, kV309⟩
      refine ⟨_, rfl, ?_⟩
      have h310 : Turns w.heap.size w V309 := Turns.trans h304 ⟨MV309, hMV309, kV309⟩
      have h311 : HP V309 gp (Par.cells (ofP (1 + ne) (1 + nw))) 47 := (kV309.block gp (lt_of_block h305) (fun e => hMV309.no h305 e)).trans h305
      have h312 : HP V309 gq (Pro.c qq) 37 := (kV309.block gq (lt_of_block h303) (fun e => hMV309.no h303 e)).trans h303
      have K313 : Keeps ((fun j => w.heap.size ≤ j)) w V309 := K307.then kV309 (fun i hi hm => Nat.le_of_not_lt (fun h => hMV309.sub i h hm))
      have z314 := kV309.size
      refine kk 3 <| ppq _ (ldr 37 gq (h312) (by rw [Pro.c_size _ hr_qq]; kernel_rfl)) ?_
      refine pcq 13 #[pT c 0, .agg (Pro.c qq), .int .i64 0, .int .i64 0, .int .i64 0] Tryz.func13 ((Det2.out (Det2.proposes (Det2.swap hDV309) K313.size qok comq3.err jb.1 jb.2)).mono ?_)
      rintro e V315 ⟨rfl, hDV315, MV315, hMV315, kV315⟩
      refine ⟨_, rfl, ?_⟩
      have h316 : Turns w.heap.size w V315 := Turns.trans h310 ⟨MV315, hMV315, kV315⟩
      have h317 : HP V315 gp (Par.cells (ofP (1 + ne) (1 + nw))) 47 := (kV315.block gp (lt_of_block h311) (fun e => hMV315.no h311 e)).trans h311
      have K319 : Keeps ((fun j => w.heap.size ≤ j)) w V315 := K313.then kV315 (fun i hi hm => Nat.le_of_not_lt (fun h => hMV315.sub i h hm))
      have z320 := kV315.size
      refine kk 2 <| en_ <| s_ <| tr_ [0, 1] <| kk 2 <| ps_end ?_
      have hD321 : Det2 w.heap.size V315 d (ofP (1 + ne) (1 + nw)) hq Ab Qb c (ofP (1 + ne) (1 + nw)) hq Ac Qc := by rw [← hQb, ← hQc]; exact hDV315
      exact ⟨rfl, pT gq 0, .int .i64 hq, .int .i64 b, .bool true, .int .i64 hq, .agg (Pro.c qq), pT d 0, .agg (Pro.c qq), .bool true, .bool false, .bool false, pT c 0, .agg (Pro.c qq), .bool true, .bool false, .bool false, .int .i64 hq, by kernel_rfl, h316, h317, hD321, by omega, K319⟩
     ·rw [if_neg hc] at hQb hQc hbb
      subst hbb
      refine qr_ [0, 1, 2] <| kk 2 <| ppq _ (dcf (((hq) : Int) > ((b) : Int)) (by omega)) <| en_ <| s_ ?_
      have hD322 : Det2 w.heap.size V287 d (ofP (1 + ne) (1 + nw)) hq Ab Qb c (ofP (1 + ne) (1 + nw)) hq Ac Qc := by rw [← hQb, ← hQc]; exact h290
      exact ⟨rfl, uu 9, .int .i64 hq, .int .i64 b, .bool false, uu 110, uu 111, uu 112, uu 113, uu 114, uu 115, uu 116, uu 117, uu 118, uu 119, uu 120, uu 121, uu 122, by kernel_rfl, h288, h289, hD322, by omega, K292⟩
    rintro aQ V323 ⟨u18_27, u18_166, u18_167, u18_168, u18_169, u18_170, u18_171, u18_172, u18_173, u18_174, u18_175, u18_176, u18_177, u18_178, u18_179, u18_180, u18_181, rfl, h324, h325, h326, z327, K328⟩
    refine blk_n <| tr_ [0, 1, 2] <| kk 1 <| ppq _ (cwN (n := i + 1)) <| kk 1 <| et_ ?_
    refine ⟨⟨i + 1, hq, Ab, Ac, Qb, Qc, sb, tb, bb, (kz_ [uu 0, iN m, u11_20, .int .i64 hq, .int .i64 lo, .int .i64 0, .int .i64 now, .int .i64 0, u17_26, u18_27, iN i, sv, iN ks.length, .bool true, iN i, iN (i + 1), sv, iN i, pT b_k (o_k + i), .int .i64 sx, iN m, u11_80, u11_81, u11_82, u11_83, u11_84, u11_85, u11_86, u11_87, u11_88, u11_89, u11_90, u11_91, u11_92, u11_93, u11_94, u11_95, u11_96, u11_97, u11_98, u11_99, u11_100, u11_101, u11_102, u11_103, u11_104, pT d 0, .int .i64 h, iN m, iN (m % 4), .int .i64 hq, pT d 0, .int .i64 hq, .int .i64 0, .bool false, .bool false, pT c 0, .int .i64 hq, .int .i64 0, .bool false, .bool false, .tuple #[.int .i64 lo, .int .i64 0], .agg (ofP (1 + ne) (1 + nw)).cells, .int .i64 hq, .tuple #[.int .i64 lo, .int .i64 0], .int .i64 lo, .int .i64 0, .tuple #[.int .i64 now, .int .i64 0], .agg (ofP (1 + ne) (1 + nw)).cells, .int .i64 hq, .tuple #[.int .i64 now, .int .i64 0], .int .i64 now, .int .i64 0, .int .i64 s, .int .i64 lo, .int .i64 sa, u17_135, u17_136, u17_137, u17_138, u17_139, u17_140, u17_141, u17_142, u17_143, u17_144, u17_145, u17_146, u17_147, u17_148, u17_149, u17_150, u17_151, u17_152, u17_153, u17_154, u17_155, u17_156, u17_157, u17_158, u17_159, u17_160, u17_161, u17_162, u17_163, u17_164, u17_165, u18_166, u18_167, u18_168, u18_169, u18_170, u18_171, u18_172, u18_173, u18_174, u18_175, u18_176, u18_177, u18_178, u18_179, u18_180, u18_181]), by kernel_rfl, by omega, by omega, inn3.2, inn4, h324, h325, h326, K328⟩, ?_⟩
    exact lt_meas (x := ks.length - (i + 1)) (y := ks.length - i) (by kernel_rfl) (by kernel_rfl) (by omega)
   ·have inv := (Det2.fst h33).inv
    have inv2 := (h33).inv2
    refine q_ <| qr_ [0, 1, 2, 3] <| kk 2 <| ppq _ (len_ a_s ks.length c_s Tryz.underlying50 (hx := Eq.trans (b := sv) (by kernel_rfl) hv_s)) <| ppq _ (dcf ((((i : Nat) : Int)) < (((ks.length : Nat) : Int))) (by omega)) <| en_ <| sy_exit 0 (by kernel_rfl) <| then_e <| then_e <| blk_e <| tqr_ nl16_ <| kk 2 ?_
    refine kk 1 ?_
    refine pcq 11 #[pT d 0, .int .i64 5] Tryz.func11 ((Det1.votes (Det2.fst h33) 5).mono ?_)
    rintro e V329 ⟨vla, rfl, hrV329, hnV329, kV329⟩
    have hsV329 : AttsAt V329 vla (votesOf (ofP (1 + ne) (1 + nw)) h A 5) := Row.sl hrV329 rfl (fun x hx => Att.cl_len ((rowOk inv _) x hx))
    refine ⟨_, rfl, ?_⟩
    have h330 := Turns.nn h31 kV329
    have kb332 := (Keeps.refl Nob V30).nn kV329
    have K333 := K34.nn kV329
    have z334 := kV329.size
    refine kk 1 ?_
    refine pcq 11 #[pT c 0, .int .i64 5] Tryz.func11 ((Det1.votes (Det2.snd (h33.keepsN kb332)) 5).mono ?_)
    rintro e V335 ⟨vlb, rfl, hrV335, hnV335, kV335⟩
    have hsV335 : AttsAt V335 vlb (votesOf (ofP (1 + ne) (1 + nw)) h A2 5) := Row.sl hrV335 rfl (fun x hx => Att.cl_len ((rowOk inv2 _) x hx))
    refine ⟨_, rfl, ?_⟩
    have h336 := Turns.nn h330 kV335
    have kb338 := kb332.nn kV335
    have h339 : AttsAt V335 vla ((votesOf (ofP (1 + ne) (1 + nw)) h A 5)) := hsV329.keepsN kV335
    have K340 := K333.nn kV335
    have z341 := kV335.size
    refine pcr 18 #[vla, vlb] Tryz.func18 (sameV_is _ _ (inn.votes inv inv2) _ h339 hsV335 (rowOk inv _) (rowOk inv2 _)) fun V342 kV342 => ?_
    have h343 := Turns.nn h336 kV342
    have kb345 := kb338.nn kV342
    have K348 := K340.nn kV342
    have z349 := kV342.size
    refine kk 3 ?_
    refine pcq 16 #[pT d 0, .int .i64 5] Tryz.func16 ((Det1.blocks (Det2.fst (h33.keepsN kb345)) 5).mono ?_)
    rintro e V350 ⟨vma, rfl, hrV350, hnV350, kV350⟩
    have hsV350 : ProsAt V350 vma (blocksOf (ofP (1 + ne) (1 + nw)) h Q 5) := Row.sl hrV350 rfl (fun x hx => Pro.cl_len ((rowOkB inv _) x hx))
    refine ⟨_, rfl, ?_⟩
    have h351 := Turns.nn h343 kV350
    have kb353 := kb345.nn kV350
    have K356 := K348.nn kV350
    have z357 := kV350.size
    refine kk 1 ?_
    refine pcq 16 #[pT c 0, .int .i64 5] Tryz.func16 ((Det1.blocks (Det2.snd (h33.keepsN kb353)) 5).mono ?_)
    rintro e V358 ⟨vmb, rfl, hrV358, hnV358, kV358⟩
    have hsV358 : ProsAt V358 vmb (blocksOf (ofP (1 + ne) (1 + nw)) h Q2 5) := Row.sl hrV358 rfl (fun x hx => Pro.cl_len ((rowOkB inv2 _) x hx))
    refine ⟨_, rfl, ?_⟩
    have h359 := Turns.nn h351 kV358
    have kb361 := kb353.nn kV358
    have h364 : ProsAt V358 vma ((blocksOf (ofP (1 + ne) (1 + nw)) h Q 5)) := hsV350.keepsN kV358
    have K365 := K356.nn kV358
    have z366 := kV358.size
    refine pcr 15 #[vma, vmb] Tryz.func15 (sameB_is _ _ (inn.blocks inv inv2) _ h364 hsV358 (rowOkB inv _) (rowOkB inv2 _)) fun V367 kV367 => ?_
    have h368 := Turns.nn h359 kV367
    have kb370 := kb361.nn kV367
    have K375 := K365.nn kV367
    have z376 := kV367.size
    refine kk 2 <| eu_ <| so_ (.bool true) ?_
    exact ⟨rfl, h368.keeps (Keeps.refl Nob w) (Nat.le_refl _)⟩
end
end Go.Proofs.YthmclmbeflbhhaaGreat
namespace Go.Proofs.YthmclmbeflbhhaaGreat.detectInnocent
open Go.ChangeShapes Go.WideShapes Go.ChangeAt Go.RowKit Go.Own
open Go.ChangeMaps (open_string shut_string)
theorem own : ownKnob Tryz.prog.godebug = none := by kernel_rfl
theorem laid : laidOutB Tryz.prog = true := by kernel_rfl
set_option maxRecDepth 100000 in
theorem lifted (os : Os) (started : os.Started) (H : Type) (enc : TypeId × Value → H) :
    ReturnsInHanded {} Tryz.checked os 4 .any (Rows.detectInnocentSpec.pre6 enc Tryz.prog Tryz.f4 Rows.detectInnocentRow.domain false) (Rows.detectInnocentSpec.post enc Tryz.prog Tryz.f4 false true false false) := by
  refine returnsInHanded_of_change (C := Tryz.checked) own started (by kernel_rfl) Tryz.func4
    (ChangeSpec.witness6 (enc := enc) (C := Tryz.checked) false ⟨#[], #[.int .i64 0, .int .i64 0, .slice none 0 0, .slice none 0 0], []⟩ 8 (by kernel_rfl) (by kernel_rfl) (by kernel_rfl) (by kernel_rfl)) ?_
  intro W base args ds gs before hval0 hW hcnd _
  have hval : ∀ (j : Nat) t v, Tryz.f4.params[j]? = some t → args[j]? = some v → Value.okWide Tryz.prog W .any base t v := hval0
  have hW' := hW
  obtain ⟨p, q, hA0, hV, rfl, hfz, hnd⟩ := hW
  have hA : DataW.TrodAll enc Tryz.prog W 0 (fun _ => true) true Tryz.f4.params.toList args.toList ds p := hA0
  rw [Tryz.params4] at hA hval
  obtain ⟨v0, vs0, d0, ds0, p0, q0, hargs, rfl, rfl, h0, r0⟩ := trodAll_cons hA
  obtain ⟨v1, vs1, d1, ds1, p1, q1, rfl, rfl, rfl, h1, r1⟩ := trodAll_cons r0
  obtain ⟨v2, vs2, d2, ds2, p2, q2, rfl, rfl, rfl, h2, r2⟩ := trodAll_cons r1
  obtain ⟨v3, vs3, d3, ds3, p3, q3, rfl, rfl, rfl, h3, r3⟩ := trodAll_cons r2
  obtain ⟨rfl, rfl, rfl⟩ := trodAll_nil r3
  obtain rfl : args = #[v0, v1, v2, v3] := by cases args; simp_all
  obtain ⟨rfl, rfl⟩ := trodVars_none hV
  obtain ⟨a0, rfl, rfl, rfl, w0⟩ := open_int Tryz.underlying3 (hval 0 3 v0 rfl rfl) h0
  obtain ⟨a1, rfl, rfl, rfl, w1⟩ := open_int Tryz.underlying3 (hval 1 3 v1 rfl rfl) h1
  obtain ⟨l2, hl2⟩ := open_dacts h2 (okWide_slice Tryz.underlying49 (hval 2 49 v2 rfl rfl))
  obtain ⟨l3, hl3⟩ := open_intsAt Tryz.underlying50 Tryz.underlying3 (by kernel_rfl) h3 (okWide_slice Tryz.underlying50 (hval 3 50 v3 rfl rfl))
  clear hA0 hval0
  refine (innocent_all a0 (bounds_i64 w0) a1 (bounds_i64 w1) v2 l2 v3 l3 W hl2 hl3).mono fun e W' ⟨he, hg⟩ => ?_
  subst he
  exact ⟨_, rfl, law_post laid (by kernel_rfl) rfl Tryz.underlying4 rfl rfl hW' (hg.below (Nat.le_refl _) (fun _ _ x => x))⟩
theorem proved : Rows.DetectInnocentSaid :=
  OpenClaim.holds_of_wide 4 Tryz.f4 rfl rfl rfl rfl rfl rfl rfl ⟨rfl, rfl, rfl, rfl, rfl⟩ rfl rfl rfl rfl rfl (by kernel_rfl) Tryz.func4 (by kernel_rfl)
    (of_decide_eq_true (by kernel_rfl)) (by unfold Func.isWrapper; first | (rw [if_pos (by decide +kernel)]; kernel_rfl) | (rw [if_neg (by decide +kernel)]; exact ⟨rfl, rfl⟩))
    (fun os started H enc _ => lifted os started H enc)
end Go.Proofs.YthmclmbeflbhhaaGreat.detectInnocent
