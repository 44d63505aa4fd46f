/-
  DetectActs proved: for every input the law returns true, and each argument reads as it did. Conditions: none.
-/
import Derived.Test.YthmclmbeflbhhaaGreatDetectActsP6
set_option maxRecDepth 100000
set_option maxHeartbeats 4000000
noncomputable section
open Go.Proofs.Tryz
namespace Go.Proofs.YthmclmbeflbhhaaGreat
section
open Go Go.RowKit Go.Own Go.Shelf
structure RV (w : World) (q : Nat) (p : Par) (h : Int) (A : List Att) (Q : List Pro) (va vb : Value) : Prop where
 q : HP w q (rdC p h va vb) 113
 a : Row w 28 36 va A.length (A.flatMap Att.cl)
 b : Row w 37 35 vb Q.length (Q.flatMap Pro.cl)
 na : Nc va A.length
 nb : Nc vb Q.length
def Grown (w : World) (v v' : Value) : Prop := ∀ j, v'.ownBlock = some j → v.ownBlock = some j ∨ w.heap.size ≤ j
theorem Grown.refl {w : World} {v : Value} : Grown w v v := fun _ h => .inl h
theorem RDet.of {w : World} {q : Nat} {p : Par} {h : Int} {A : List Att} {Q : List Pro} {va vb : Value} (h1 : HP w q (rdC p h va vb) 113) (h2 : Row w 28 36 va A.length (A.flatMap Att.cl)) (h3 : Row w 37 35 vb Q.length (Q.flatMap Pro.cl)) : RDet w q 0 p h A Q := ⟨va, vb, h1, h2, fun _ _ => Nat.zero_le _, h3, fun _ _ => Nat.zero_le _⟩
theorem RV.det {w : World} {q : Nat} {p : Par} {h : Int} {A : List Att} {Q : List Pro} {va vb : Value} (s : RV w q p h A Q va vb) : RDet w q 0 p h A Q := ⟨va, vb, s.q, s.a, fun _ _ => Nat.zero_le _, s.b, fun _ _ => Nat.zero_le _⟩
theorem dpro_one {l : List Pro} {z x : Pro} {i : Nat} (hx : l[i]? = some x) (ht : x.h = z.h) (hn : ∀ (j : Nat) (b : Pro), j < i → l[j]? = some b → ¬ b.h = z.h) (hd : doubP z x = true) : dPro l z = ⟨2, zAtt, x, z.h⟩ := by
 unfold dPro
 rw [find_at (P := fun b : Pro => decide (b.h = z.h)) hx (decide_eq_true ht) fun j b hj hb => decide_eq_false (hn j b hj hb)]
 dsimp only
 rw [hd, if_pos rfl]
theorem dpro_two {l : List Pro} {z x : Pro} {i : Nat} (hx : l[i]? = some x) (ht : x.h = z.h) (hn : ∀ (j : Nat) (b : Pro), j < i → l[j]? = some b → ¬ b.h = z.h) (hd : doubP z x = false) : dPro l z = ⟨1, zAtt, x, 0⟩ := by
 unfold dPro
 rw [find_at (P := fun b : Pro => decide (b.h = z.h)) hx (decide_eq_true ht) fun j b hj hb => decide_eq_false (hn j b hj hb)]
 dsimp only
 rw [hd, if_neg Bool.false_ne_true]
theorem dpro_no {l : List Pro} {z : Pro} (hn : ∀ (j : Nat) (b : Pro), l[j]? = some b → ¬ b.h = z.h) : dPro l z = Vd.z := by
 unfold dPro
 rw [find_not (P := fun b : Pro => decide (b.h = z.h)) fun j b hb => decide_eq_false (hn j b hb)]
theorem dp_cases {l : List Pro} {z : Pro} (i : Nat) (hi : i ≤ l.length) : (∃ x, i < l.length ∧ l[i]? = some x ∧ x.h = z.h ∧ doubP z x = true) ∨ (∃ x, i < l.length ∧ l[i]? = some x ∧ x.h = z.h ∧ doubP z x = false) ∨ (∃ x, i < l.length ∧ l[i]? = some x ∧ ¬ x.h = z.h) ∨ i = l.length := by
 by_cases h : i < l.length
 ·by_cases e : l[i].h = z.h
  ·cases d : doubP z l[i]
   ·exact .inr (.inl ⟨_, h, List.getElem?_eq_getElem h, e, d⟩)
   ·exact .inl ⟨_, h, List.getElem?_eq_getElem h, e, d⟩
  ·exact .inr (.inr (.inl ⟨_, h, List.getElem?_eq_getElem h, e⟩))
 ·exact .inr (.inr (.inr (by omega)))
theorem rdbl_is (a b : Pro) (r : Bool) (w : World) (ha : a.Ok) (hb : b.Ok) (hr : doubP a b = r) : Calls prog 109 #[.agg (Pro.c a), .agg (Pro.c b)] w (RK w (.bool r)) := by
 subst hr; exact rvDoublesBlock_ok a b w ha hb
def qc120_1 (n : Nat) : Code := partOf f64 n
abbrev qo120_1 (n k : Nat) : Oper := (opsAt (qc120_1 n)).getD k default
theorem rdAttest_ok (q : Nat) (p : Par) (h : Int) (A : List Att) (Q : List Pro) (va vb : Value) (z : Att) (hz : z.Ok) (w : World) (H : RV w q p h A Q va vb) (inv : DInv p h A Q) (hlen : A.length ≤ 300) :
  Calls prog 64 #[pT q 0, .agg (Att.c z)] w (fun e w' => e = .returned (.tuple #[.agg (Vd.c (attVd p h A z)), iI (attErr p h z)]) ∧ ∃ v', RV w' q p h (attNew p h A z) Q v' vb ∧ Grown w va v' ∧ Keeps (fun j => j = q ∨ va.ownBlock = some j) w w' ∧ Ones w w' 28 36) := by
 have hon0 : Ones w w 28 36 := Ones.refl
 have hq := H.q
 have hra := H.a
 have hrb := H.b
 have ltq := lt_of_block hq
 have hown : ∀ j, va.ownBlock = some j → j < w.heap.size := fun j hj => Row.lt hra hj
 have hn0_a : NewFrom 0 va := fun _ _ => Nat.zero_le _
 have hn0_b : NewFrom 0 vb := fun _ _ => Nat.zero_le _
 have hr_z := hz.r
 obtain ⟨lo, hlo⟩ : ∃ y, dlo p h = y := ⟨_, rfl⟩
 obtain ⟨ee, hee⟩ : ∃ y, dep p h = y := ⟨_, rfl⟩
 obtain ⟨ff, hff⟩ : ∃ y, dfl p h = y := ⟨_, rfl⟩
 obtain ⟨i0, hi0, hz0, hz1, hz2⟩ := info_parts att_info0
 have K0 := Keeps.refl ((fun j => j = q ∨ va.ownBlock = some j)) w
 refine sf_ (qc120_1 1) func64 <| qr_ [0, 1, 2] <| pbg 28 (Att.c z) fun V1 ga ega h2 j1 => ?_
 have := nqk1 ega hq K0
 have h5 := j1.bk hq
 have h6 := hra.rn j1
 have h7 := hrb.rn j1
 have h8 := hon0.nn j1
 have K9 := K0.nn j1
 refine pag 57 (vdC 0 attZ proZ 0) fun V10 res eres h11 j10 => ?_
 have := nqk2 eres h5 h2 K9
 have h15 := j10.bk h5
 have h16 := h6.rn j10
 have h17 := h7.rn j10
 have h18 := h8.nn j10
 have ⟨K20, h19⟩ := j10.K1 K9 h2
 refine kk 1 <| eqr_ nl9_ <| kk 1 <| pcs (rdwindow_ok q p h va vb _ h15 inv.ok lo ee ff hlo hee hff) fun V21 j21 => ?_
 have h22 := j21.bk h15
 have h23 := h16.rn j21
 have h24 := h17.rn j21
 have h25 := h18.nn j21
 have ⟨K28, h26, h27⟩ := j21.K2 K20 h19 h11
 refine kk 7 <| eqr_ [0, 1, 2] <| pP (ldz 28 ga h26 (Att.c_size _ hr_z)) <| pcs (rvCheck_ok z _ hz.r) fun V29 j29 => ?_
 have h30 := j29.bk h22
 have h31 := h23.rn j29
 have h32 := h24.rn j29
 have h33 := h25.nn j29
 have ⟨K36, h34, h35⟩ := j29.K2 K28 h26 h27
 refine kk 1 <| eq_ <| bl_ 0 <| q_ ?_
 by_cases g0 : z.err = 0
 ·refine r_ [0, 1, 2] <| kk 1 <| ppq (.bool false) (cbo (show ((((z.err) : Int) != ((0) : Int))) = false from by rw [g0]; rfl)) <| kk 1 <| en_ <| q_ ?_
  by_cases g1 : z.s > z.t
  ·have hE : attErr p h z = 9 := by unfold attErr; rw [if_neg (by simpa using g0), if_pos g1]
   have hV := (att_no (A := A) hE (by omega)).1
   have hN := (att_no (A := A) hE (by omega)).2
   refine r_ nl6_ <| kk 1 <| pP (lc h34 (Att.c_1 _)) <| kk 1 <| pP (lc h34 (Att.c_2 _)) <| pP (dtT (((z.s) : Int) > ((z.t) : Int))) <| kk 1 <| ey_ <| qr_ [0, 1, 2] <| kk 1 <| pst 57 res (vdC 0 attZ proZ 0) h35 (by kernel_rfl) (vd_sizes (by kernel_rfl) (by kernel_rfl)) (by kernel_rfl) fun V37 h38 j37 => ?_
   have h39 := j37.bO h30
   have h40 := h31.ro h35 j37
   have h41 := h32.ro h35 j37
   have h42 := h33.one h35 (by decide) j37
   have K44 := K36.nO j37
   refine kk 1 <| eu_ <| blk_r <| then_r <| sy_out (.tuple #[.agg (vdC 0 attZ proZ 0), iI 9]) rfl (rrt 57 res h38 underlying57 (by kernel_rfl)) ?_
   exact ⟨by rw [hE, hV] <;> kernel_rfl, va, (by rw [hN]; exact ⟨h39, h40, h41, H.na, H.nb⟩), Grown.refl, K44, h42⟩
  ·refine r_ nl6_ <| kk 1 <| pP (lc h34 (Att.c_1 _)) <| kk 1 <| pP (lc h34 (Att.c_2 _)) <| pP (dtF (((z.s) : Int) > ((z.t) : Int))) <| kk 1 <| en_ <| q_ ?_
   by_cases g2 : z.t > ee
   ·have hE : attErr p h z = 17 := by unfold attErr; rw [if_neg (by simpa using g0), if_neg g1, hee, if_pos g2]
    have hV := (att_no (A := A) hE (by omega)).1
    have hN := (att_no (A := A) hE (by omega)).2
    refine r_ nl5_ <| kk 1 <| pP (lc h34 (Att.c_2 _)) <| kk 1 <| pP (dtT (((z.t) : Int) > ((ee) : Int))) <| kk 1 <| ey_ <| qr_ [0, 1, 2] <| kk 1 <| pst 57 res (vdC 0 attZ proZ 0) h35 (by kernel_rfl) (vd_sizes (by kernel_rfl) (by kernel_rfl)) (by kernel_rfl) fun V45 h46 j45 => ?_
    have h47 := j45.bO h30
    have h48 := h31.ro h35 j45
    have h49 := h32.ro h35 j45
    have h50 := h33.one h35 (by decide) j45
    have K52 := K36.nO j45
    refine kk 1 <| eu_ <| blk_r <| then_r <| sy_out (.tuple #[.agg (vdC 0 attZ proZ 0), iI 17]) rfl (rrt 57 res h46 underlying57 (by kernel_rfl)) ?_
    exact ⟨by rw [hE, hV] <;> kernel_rfl, va, (by rw [hN]; exact ⟨h47, h48, h49, H.na, H.nb⟩), Grown.refl, K52, h50⟩
   ·refine r_ nl5_ <| kk 1 <| pP (lc h34 (Att.c_2 _)) <| kk 1 <| pP (dtF (((z.t) : Int) > ((ee) : Int))) <| kk 1 <| en_ <| q_ ?_
    by_cases g3 : z.s < lo
    ·have hE : attErr p h z = 16 := by unfold attErr; rw [if_neg (by simpa using g0), if_neg g1, hee, if_neg g2, hlo, if_pos g3]
     have hV := (att_no (A := A) hE (by omega)).1
     have hN := (att_no (A := A) hE (by omega)).2
     refine r_ nl5_ <| kk 1 <| pP (lc h34 (Att.c_1 _)) <| kk 1 <| pP (dtT (((z.s) : Int) < ((lo) : Int))) <| kk 1 <| ey_ <| qr_ [0, 1, 2] <| kk 1 <| pst 57 res (vdC 0 attZ proZ 0) h35 (by kernel_rfl) (vd_sizes (by kernel_rfl) (by kernel_rfl)) (by kernel_rfl) fun V53 h54 j53 => ?_
     have h55 := j53.bO h30
     have h56 := h31.ro h35 j53
     have h57 := h32.ro h35 j53
     have h58 := h33.one h35 (by decide) j53
     have K60 := K36.nO j53
     refine kk 1 <| eu_ <| blk_r <| then_r <| sy_out (.tuple #[.agg (vdC 0 attZ proZ 0), iI 16]) rfl (rrt 57 res h54 underlying57 (by kernel_rfl)) ?_
     exact ⟨by rw [hE, hV] <;> kernel_rfl, va, (by rw [hN]; exact ⟨h55, h56, h57, H.na, H.nb⟩), Grown.refl, K60, h58⟩
    ·have hE : attErr p h z = 0 := by unfold attErr; rw [if_neg (by simpa using g0), if_neg g1, hee, if_neg g2, hlo, if_neg g3]
     obtain ⟨y, hy⟩ : ∃ y, dJudge p (votesOf p h A z.v) z = y := ⟨_, rfl⟩
     have hyo : VdOk y := hy ▸ dJudge_ok (fun x hx => (inv.a x (mem_votes.1 hx).1).1)
     have hV : attVd p h A z = y := by unfold attVd; rw [if_pos hE, hy]
     refine r_ nl5_ <| kk 1 <| pP (lc h34 (Att.c_1 _)) <| kk 1 <| pP (dtF (((z.s) : Int) < ((lo) : Int))) <| kk 1 <| en_ <| s_ <| blk_n <| tqr_ nl5_ <| kk 1 <| pP (ldz 28 ga h34 (Att.c_size _ hr_z)) <| pcr 107 #[pT q 0, .agg (Att.c z)] func107 ((hy ▸ rdjudge_ok q 0 p h A Q z hz _ (RDet.of h30 h31 h32) inv hlen)) fun V61 j61 => ?_
     have h62 := j61.bk h30
     have h63 := h31.rn j61
     have h64 := h32.rn j61
     have h65 := h33.nn j61
     have ⟨K68, h66, h67⟩ := j61.K2 K36 h34 h35
     refine pag 57 (vdC 0 attZ proZ 0) fun V69 gv egv h70 j69 => ?_
     have := nq3 egv h62 h66 h67
     have n74 := nk egv K68
     have h75 := j69.bk h62
     have h76 := h63.rn j69
     have h77 := h64.rn j69
     have h78 := h65.nn j69
     have ⟨K81, h79, h80⟩ := j69.K2 K68 h66 h67
     refine pst 57 gv (Vd.c y) h70 (by rw [Vd.c_size hyo]; kernel_rfl) (vd_sizes (Vd.c_size hyo) (by kernel_rfl)) Vd.c_one fun V82 h83 j82 => ?_
     have h84 := j82.bO h75
     have h85 := h76.ro h70 j82
     have h86 := h77.ro h70 j82
     have h87 := h78.one h70 (by decide) j82
     have ⟨K90, h88, h89⟩ := j82.Ko2 K81 h79 h80
     refine eq_ <| q_ ?_
     by_cases hk : y.k = 0
     ·have hN : attNew p h A z = A ++ [z] := by unfold attNew; rw [hV, if_pos ⟨hE, hk⟩]
      refine r_ [0, 1, 2] <| kk 1 <| ppq (iI y.k) (lc h83 (rfl) (k := 0)) <| ppq (.bool true) (cbo (show ((((y.k) : Int) == ((0) : Int))) = true from by rw [hk]; rfl)) <| ey_ <| anp 11 (fun W => (HP W ga (Att.c z) 28)) fun V91 j91 => ?_
      have h92 := j91.bk h84
      have h93 := h85.rn j91
      have h94 := h86.rn j91
      have h95 := h87.nn j91
      have ⟨K99, h96, h97, h98⟩ := j91.K3 K90 h88 h89 h83
      refine kA [0, 1, 2, 3] <| avq 5 _ (fun W hS => ldr 28 ga hS (by rw [Att.c_size _ hr_z]; kernel_rfl)) h96 ?_
      refine an_two 4 6 (by kernel_rfl) ?_ ?_
      ·refine nrq va (w' := V91) (lc h92 (rfl) (k := 12)) ?_
       refine ⟨h96, ?_⟩
       refine an_o 6 ?_
       obtain ⟨V100, eV100, lit, elit, h101, j100⟩ := alloc_step V91 (Att.c z) 28
       have nlit : w.heap.size ≤ lit := elit ▸ K99.size
       refine nrq (sS lit 1 1) (w' := V100) (by rw [← eV100, ← elit]; exact exec_build1 32 28 (.tmp 54) (by kernel_rfl) (.agg (Att.c z)) (by kernel_rfl) i0 _ underlying32 hi0 hz0 36 hz1 (by decide) (by decide) (Att.c_size z hz.r)) ?_
       clear eV100
       have h102 := j100.bk h92
       have h103 := h93.rn j100
       have h104 := h94.rn j100
       have h105 := h95.nn j100
       have ⟨K109, h106, h107, h108⟩ := j100.K3 K99 h96 h97 h98
       refine ⟨h106, ?_⟩
       refine an_o 7 ?_
       obtain ⟨v110, V111, hr112, h113, hg114, hn115, ha116⟩ := run_append_any (P := prog) (w := V100) 32 (Oper.type (qo120_1 506 7)) 28 i0 (.agg zAtt.c) 36 64 underlying32 hi0 hz0 hz1 hz2 rfl (by decide) va A.length (A.flatMap Att.cl) h103 (sS lit 1 1) 1 (Att.cl z) (src_att hz h101) (by unfold maxLen; omega) (by omega)
       have j111 : Keeps (fun j => va.ownBlock = some j) V100 V111 := Keeps.rowAdd hg114
       have hw117 : NewFrom 0 v110 := hn0_a.next (Nat.zero_le _) ha116
       refine nrq v110 (w' := V111) (exec_append (.tmp 53) (.tmp 55) 32 (by kernel_rfl) va (sS lit 1 1) (by kernel_rfl) (by kernel_rfl) hr112) ?_
       have h118 : Row V111 28 36 v110 ((A ++ [z]).length) ((A ++ [z]).flatMap Att.cl) := (by rw [List.flatMap_append, List.length_append]; simpa using h113)
       have hones_ : Ones V100 V111 28 36 := append_ones2 (P := prog) 32 _ 28 i0 (.agg zAtt.c) 36 64 underlying32 hi0 hz0 hz1 hz2 rfl (by decide) va A.length (A.flatMap Att.cl) h103 _ 1 _ (src_att hz h101) (by decide) (by unfold maxLen; omega) (by omega) H.na hr112 hg114
       have hgr : Grown w va v110 := fun j hj => (ha116 j hj).elim .inl (fun e => .inr (by have q1 := K109.size; omega))
       have h119 : HP V111 q (rdC p h va vb) 113 := (j111.block q (lt_of_block h102) (fun e => Row.ne h103 h102 (by decide) e)).trans h102
       have h120 : Row V111 37 35 vb Q.length (Q.flatMap Pro.cl) := h104.keeps j111 (Row.apart h104 h103 (by decide))
       have h121 := h105.then hones_
       have h122 : HP V111 ga (Att.c z) 28 := (j111.block ga (lt_of_block h106) (fun e => by have q1 := hown _ e; omega)).trans h106
       have h123 : HP V111 res (vdC 0 attZ proZ 0) 57 := (j111.block res (lt_of_block h107) (fun e => Row.ne h103 h107 (by decide) e)).trans h107
       have h124 : HP V111 gv (Vd.c y) 57 := (j111.block gv (lt_of_block h108) (fun e => Row.ne h103 h108 (by decide) e)).trans h108
       have K125 : Keeps ((fun j => j = q ∨ va.ownBlock = some j)) w V111 := K109.then j111 (fun i hi hm => .inr hm)
       refine ⟨h122, ?_⟩
       refine kA [8, 9] <| an_o 10 ?_
       obtain ⟨V126, eV126, j126⟩ := cell_step V111 q 12 v110
       have h127 : HP V126 q (rdC p h v110 vb) 113 := eV126 ▸ ((heap_setCell_same _ q 12 _ _ v110 h119).trans (congrArg (fun c => some (Obj.cells c 113 (0, 0))) (show (rdC p h va vb : Array Value).setIfInBounds 12 v110 = rdC p h v110 vb from rfl)))
       refine nzq (w' := V126) (by rw [← eV126]; exact exec_store_cell 32 (.tmp 58) (.tmp 56) (by kernel_rfl) q 12 (by kernel_rfl) v110 (by kernel_rfl) (by kernel_rfl) (Row.cells1 h118) va (rc h119 (rfl)) (frozen_of_row _ _ _ _ _ h119) (Row.one h118)) ?_
       clear eV126
       have h128 := h120.ro h119 j126
       have h129 := h121.one h119 (by decide) j126
       have ⟨h130, h131, h132⟩ := j126.ko3 h122 h123 h124
       have h133 := h118.ro h119 j126
       have K134 := K125.nw j126 (.inl rfl)
       refine ⟨h130, ?_⟩
       refine ane <| tqr_ [0, 1, 2] <| pP (ldz 57 gv h132 (Vd.c_size hyo)) <| pst 57 res (Vd.c y) h131 (by rw [Vd.c_size hyo]; kernel_rfl) (vd_sizes (Vd.c_size hyo) (by kernel_rfl)) Vd.c_one fun V135 h136 j135 => ?_
       have h137 := h128.ro h131 j135
       have h138 := h129.one h131 (by decide) j135
       have h141 := h133.ro h131 j135
       have ⟨K143, h142⟩ := j135.Ko1 K134 h127
       refine kk 1 <| eu_ <| sy_out (.tuple #[.agg (Vd.c y), iI 0]) rfl (rrt 57 res h136 underlying57 (by rw [Vd.c_size hyo]; kernel_rfl)) ?_
       exact ⟨by rw [hE, hV], v110, (by rw [hN]; exact ⟨h142, h141, h137, Nc.pos (by simp), H.nb⟩), hgr, K143, h138⟩
      ·obtain ⟨V144, eV144, lit, elit, h145, j144⟩ := alloc_step V91 (Att.c z) 28
       have nlit : w.heap.size ≤ lit := elit ▸ K99.size
       refine nrq (sS lit 1 1) (w' := V144) (by rw [← eV144, ← elit]; exact exec_build1 32 28 (.tmp 54) (by kernel_rfl) (.agg (Att.c z)) (by kernel_rfl) i0 _ underlying32 hi0 hz0 36 hz1 (by decide) (by decide) (Att.c_size z hz.r)) ?_
       clear eV144
       have h146 := j144.bk h92
       have h147 := h93.rn j144
       have h148 := h94.rn j144
       have h149 := h95.nn j144
       have ⟨K153, h150, h151, h152⟩ := j144.K3 K99 h96 h97 h98
       refine ⟨h150, ?_⟩
       refine an_o 4 <| nrq va (w' := V144) (lc h146 (rfl) (k := 12)) ?_
       refine ⟨h150, ?_⟩
       refine an_o 7 ?_
       obtain ⟨v154, V155, hr156, h157, hg158, hn159, ha160⟩ := run_append_any (P := prog) (w := V144) 32 (Oper.type (qo120_1 506 7)) 28 i0 (.agg zAtt.c) 36 64 underlying32 hi0 hz0 hz1 hz2 rfl (by decide) va A.length (A.flatMap Att.cl) h147 (sS lit 1 1) 1 (Att.cl z) (src_att hz h145) (by unfold maxLen; omega) (by omega)
       have j155 : Keeps (fun j => va.ownBlock = some j) V144 V155 := Keeps.rowAdd hg158
       have hw161 : NewFrom 0 v154 := hn0_a.next (Nat.zero_le _) ha160
       refine nrq v154 (w' := V155) (exec_append (.tmp 53) (.tmp 55) 32 (by kernel_rfl) va (sS lit 1 1) (by kernel_rfl) (by kernel_rfl) hr156) ?_
       have h162 : Row V155 28 36 v154 ((A ++ [z]).length) ((A ++ [z]).flatMap Att.cl) := (by rw [List.flatMap_append, List.length_append]; simpa using h157)
       have hones_ : Ones V144 V155 28 36 := append_ones2 (P := prog) 32 _ 28 i0 (.agg zAtt.c) 36 64 underlying32 hi0 hz0 hz1 hz2 rfl (by decide) va A.length (A.flatMap Att.cl) h147 _ 1 _ (src_att hz h145) (by decide) (by unfold maxLen; omega) (by omega) H.na hr156 hg158
       have hgr : Grown w va v154 := fun j hj => (ha160 j hj).elim .inl (fun e => .inr (by have q1 := K153.size; omega))
       have h163 : HP V155 q (rdC p h va vb) 113 := (j155.block q (lt_of_block h146) (fun e => Row.ne h147 h146 (by decide) e)).trans h146
       have h164 : Row V155 37 35 vb Q.length (Q.flatMap Pro.cl) := h148.keeps j155 (Row.apart h148 h147 (by decide))
       have h165 := h149.then hones_
       have h166 : HP V155 ga (Att.c z) 28 := (j155.block ga (lt_of_block h150) (fun e => by have q1 := hown _ e; omega)).trans h150
       have h167 : HP V155 res (vdC 0 attZ proZ 0) 57 := (j155.block res (lt_of_block h151) (fun e => Row.ne h147 h151 (by decide) e)).trans h151
       have h168 : HP V155 gv (Vd.c y) 57 := (j155.block gv (lt_of_block h152) (fun e => Row.ne h147 h152 (by decide) e)).trans h152
       have K169 : Keeps ((fun j => j = q ∨ va.ownBlock = some j)) w V155 := K153.then j155 (fun i hi hm => .inr hm)
       refine ⟨h166, ?_⟩
       refine kA [8, 9] <| an_o 10 ?_
       obtain ⟨V170, eV170, j170⟩ := cell_step V155 q 12 v154
       have h171 : HP V170 q (rdC p h v154 vb) 113 := eV170 ▸ ((heap_setCell_same _ q 12 _ _ v154 h163).trans (congrArg (fun c => some (Obj.cells c 113 (0, 0))) (show (rdC p h va vb : Array Value).setIfInBounds 12 v154 = rdC p h v154 vb from rfl)))
       refine nzq (w' := V170) (by rw [← eV170]; exact exec_store_cell 32 (.tmp 58) (.tmp 56) (by kernel_rfl) q 12 (by kernel_rfl) v154 (by kernel_rfl) (by kernel_rfl) (Row.cells1 h162) va (rc h163 (rfl)) (frozen_of_row _ _ _ _ _ h163) (Row.one h162)) ?_
       clear eV170
       have h172 := h164.ro h163 j170
       have h173 := h165.one h163 (by decide) j170
       have ⟨h174, h175, h176⟩ := j170.ko3 h166 h167 h168
       have h177 := h162.ro h163 j170
       have K178 := K169.nw j170 (.inl rfl)
       refine ⟨h174, ?_⟩
       refine ane <| tqr_ [0, 1, 2] <| pP (ldz 57 gv h176 (Vd.c_size hyo)) <| pst 57 res (Vd.c y) h175 (by rw [Vd.c_size hyo]; kernel_rfl) (vd_sizes (Vd.c_size hyo) (by kernel_rfl)) Vd.c_one fun V179 h180 j179 => ?_
       have h181 := h172.ro h175 j179
       have h182 := h173.one h175 (by decide) j179
       have h185 := h177.ro h175 j179
       have ⟨K187, h186⟩ := j179.Ko1 K178 h171
       refine kk 1 <| eu_ <| sy_out (.tuple #[.agg (Vd.c y), iI 0]) rfl (rrt 57 res h180 underlying57 (by rw [Vd.c_size hyo]; kernel_rfl)) ?_
       exact ⟨by rw [hE, hV], v154, (by rw [hN]; exact ⟨h186, h185, h181, Nc.pos (by simp), H.nb⟩), hgr, K187, h182⟩
     ·have hN : attNew p h A z = A := by unfold attNew; rw [hV, if_neg (fun e => hk e.2)]
      refine r_ [0, 1, 2] <| kk 1 <| ppq (iI y.k) (lc h83 (rfl) (k := 0)) <| ppq (.bool false) (cbo (show ((((y.k) : Int) == ((0) : Int))) = false from by simpa using hk)) <| en_ <| s_ <| tqr_ [0, 1, 2] <| pP (ldz 57 gv h83 (Vd.c_size hyo)) <| pst 57 res (Vd.c y) h89 (by rw [Vd.c_size hyo]; kernel_rfl) (vd_sizes (Vd.c_size hyo) (by kernel_rfl)) Vd.c_one fun V188 h189 j188 => ?_
      have h190 := j188.bO h84
      have h191 := h85.ro h89 j188
      have h192 := h86.ro h89 j188
      have h193 := h87.one h89 (by decide) j188
      have K196 := K90.nO j188
      refine kk 1 <| eu_ <| sy_out (.tuple #[.agg (Vd.c y), iI 0]) rfl (rrt 57 res h189 underlying57 (by rw [Vd.c_size hyo]; kernel_rfl)) ?_
      exact ⟨by rw [hE, hV], va, (by rw [hN]; exact ⟨h190, h191, h192, H.na, H.nb⟩), Grown.refl, K196, h193⟩
 ·have hE : attErr p h z = z.err := by unfold attErr; rw [if_pos g0]
  have hV := (att_no (A := A) hE (by omega)).1
  have hN := (att_no (A := A) hE (by omega)).2
  refine r_ [0, 1, 2] <| kk 1 <| ppq (.bool true) (cbo (show ((((z.err) : Int) != ((0) : Int))) = true from by simpa using g0)) <| kk 1 <| ey_ <| qr_ [0, 1, 2, 3] <| kk 2 <| pst 57 res (vdC 0 attZ proZ 0) h35 (by kernel_rfl) (vd_sizes (by kernel_rfl) (by kernel_rfl)) (by kernel_rfl) fun V197 h198 j197 => ?_
  have h199 := j197.bO h30
  have h200 := h31.ro h35 j197
  have h201 := h32.ro h35 j197
  have h202 := h33.one h35 (by decide) j197
  have K204 := K36.nO j197
  refine kk 1 <| eu_ <| blk_r <| then_r <| sy_out (.tuple #[.agg (vdC 0 attZ proZ 0), iI z.err]) rfl (rrt 57 res h198 underlying57 (by kernel_rfl)) ?_
  exact ⟨by rw [hE, hV] <;> kernel_rfl, va, (by rw [hN]; exact ⟨h199, h200, h201, H.na, H.nb⟩), Grown.refl, K204, h202⟩
def qc120_0 (n : Nat) : Code := partOf f65 n
abbrev qo120_0 (n k : Nat) : Oper := (opsAt (qc120_0 n)).getD k default
theorem rdPropose_ok (q : Nat) (p : Par) (h : Int) (A : List Att) (Q : List Pro) (va vb : Value) (z : Pro) (hz : z.Ok) (w : World) (H : RV w q p h A Q va vb) (inv : DInv p h A Q) (hlen : Q.length ≤ 300) :
  Calls prog 65 #[pT q 0, .agg (Pro.c z)] w (fun e w' => e = .returned (.tuple #[.agg (Vd.c (proVd p h Q z)), iI (proErr p h z)]) ∧ ∃ v', RV w' q p h A (proNew p h Q z) va v' ∧ Grown w vb v' ∧ Keeps (fun j => j = q ∨ vb.ownBlock = some j) w w' ∧ Ones w w' 37 35) := by
 have hon0 : Ones w w 37 35 := Ones.refl
 have hq := H.q
 have hra := H.a
 have hrb := H.b
 have ltq := lt_of_block hq
 have hown : ∀ j, vb.ownBlock = some j → j < w.heap.size := fun j hj => Row.lt hrb hj
 have hn0_a : NewFrom 0 va := fun _ _ => Nat.zero_le _
 have hn0_b : NewFrom 0 vb := fun _ _ => Nat.zero_le _
 have hr_z := hz.r
 obtain ⟨lo, hlo⟩ : ∃ y, dlo p h = y := ⟨_, rfl⟩
 obtain ⟨ee, hee⟩ : ∃ y, dep p h = y := ⟨_, rfl⟩
 obtain ⟨ff, hff⟩ : ∃ y, dfl p h = y := ⟨_, rfl⟩
 obtain ⟨i0, hi0, hz0, hz1, hz2⟩ := info_parts pro_info0
 obtain ⟨l, hl⟩ : ∃ l, blocksOf p h Q z.v = l := ⟨_, rfl⟩
 have okl : ∀ x ∈ l, x.Ok := fun x hx => (inv.q x (mem_blocks.1 (hl ▸ hx)).1).1
 have K0 := Keeps.refl ((fun j => j = q ∨ vb.ownBlock = some j)) w
 refine sf_ (qc120_0 1) func65 <| qr_ [0, 1, 2] <| pbg 37 (Pro.c z) fun V1 gq egq h2 j1 => ?_
 have := nqk1 egq hq K0
 have h5 := j1.bk hq
 have h6 := hra.rn j1
 have h7 := hrb.rn j1
 have h8 := hon0.nn j1
 have K9 := K0.nn j1
 refine pag 57 (vdC 0 attZ proZ 0) fun V10 res eres h11 j10 => ?_
 have := nqk2 eres h5 h2 K9
 have h15 := j10.bk h5
 have h16 := h6.rn j10
 have h17 := h7.rn j10
 have h18 := h8.nn j10
 have ⟨K20, h19⟩ := j10.K1 K9 h2
 refine kk 1 <| eqr_ nl9_ <| kk 1 <| pcs (rdwindow_ok q p h va vb _ h15 inv.ok lo ee ff hlo hee hff) fun V21 j21 => ?_
 have h22 := j21.bk h15
 have h23 := h16.rn j21
 have h24 := h17.rn j21
 have h25 := h18.nn j21
 have ⟨K28, h26, h27⟩ := j21.K2 K20 h19 h11
 refine kk 7 <| eqr_ [0, 1, 2] <| pP (ldz 37 gq h26 (Pro.c_size _ hr_z)) <| pcs (rvCheckBlock_ok z _ hz.r) fun V29 j29 => ?_
 have h30 := j29.bk h22
 have h31 := h23.rn j29
 have h32 := h24.rn j29
 have h33 := h25.nn j29
 have ⟨K36, h34, h35⟩ := j29.K2 K28 h26 h27
 refine kk 1 <| eq_ <| bl_ 0 <| q_ ?_
 by_cases g0 : z.err = 0
 ·refine r_ [0, 1, 2] <| kk 1 <| ppq (.bool false) (cbo (show ((((z.err) : Int) != ((0) : Int))) = false from by rw [g0]; rfl)) <| kk 1 <| en_ <| q_ ?_
  by_cases g1 : z.h > h
  ·have hE : proErr p h z = 17 := proErr_2 g0 g1
   have hV := (pro_no (Q := Q) hE (by omega)).1
   have hN := (pro_no (Q := Q) hE (by omega)).2
   refine anp 8 (fun W => (HP W q (rdC p h va vb) 113) ∧ (HP W gq (Pro.c z) 37)) fun V37 j37 => ?_
   have h38 := j37.bk h30
   have h39 := h31.rn j37
   have h40 := h32.rn j37
   have h41 := h33.nn j37
   have ⟨K44, h42, h43⟩ := j37.K2 K36 h34 h35
   refine kA [0] <| aV 1 _ (fun W hS => lc hS.2 (Pro.c_1 _)) <| kA [2, 3, 4] <| aV 5 (iI h) (fun W hS => lc hS.1 (rfl) (k := 11)) <| aV 6 _ (fun W hS => dtT (((z.h) : Int) > ((h) : Int))) <| ako 7 ?_
   refine ane <| then_n <| y_ <| qr_ [0, 1, 2] <| kk 1 <| pst 57 res (vdC 0 attZ proZ 0) h43 (by kernel_rfl) (vd_sizes (by kernel_rfl) (by kernel_rfl)) (by kernel_rfl) fun V45 h46 j45 => ?_
   have h47 := j45.bO h38
   have h48 := h39.ro h43 j45
   have h49 := h40.ro h43 j45
   have h50 := h41.one h43 (by decide) j45
   have K52 := K44.nO j45
   refine kk 1 <| eu_ <| blk_r <| then_r <| sy_out (.tuple #[.agg (vdC 0 attZ proZ 0), iI 17]) rfl (rrt 57 res h46 underlying57 (by kernel_rfl)) ?_
   exact ⟨by rw [hE, hV] <;> kernel_rfl, vb, (by rw [hN]; exact ⟨h47, h48, h49, H.na, H.nb⟩), Grown.refl, K52, h50⟩
  ·refine anp 8 (fun W => (HP W q (rdC p h va vb) 113) ∧ (HP W gq (Pro.c z) 37)) fun V53 j53 => ?_
   have h54 := j53.bk h30
   have h55 := h31.rn j53
   have h56 := h32.rn j53
   have h57 := h33.nn j53
   have ⟨K60, h58, h59⟩ := j53.K2 K36 h34 h35
   refine kA [0] <| aV 1 _ (fun W hS => lc hS.2 (Pro.c_1 _)) <| kA [2, 3, 4] <| aV 5 (iI h) (fun W hS => lc hS.1 (rfl) (k := 11)) <| aV 6 _ (fun W hS => dtF (((z.h) : Int) > ((h) : Int))) <| ako 7 ?_
   refine ane <| then_n <| n_ <| q_ ?_
   by_cases g2 : z.h < ff
   ·have hE : proErr p h z = 16 := proErr_3 g0 g1 (by rw [hff]; exact g2)
    have hV := (pro_no (Q := Q) hE (by omega)).1
    have hN := (pro_no (Q := Q) hE (by omega)).2
    refine r_ nl5_ <| kk 1 <| pP (lc h58 (Pro.c_1 _)) <| kk 1 <| pP (dtT (((z.h) : Int) < ((ff) : Int))) <| kk 1 <| ey_ <| qr_ [0, 1, 2] <| kk 1 <| pst 57 res (vdC 0 attZ proZ 0) h59 (by kernel_rfl) (vd_sizes (by kernel_rfl) (by kernel_rfl)) (by kernel_rfl) fun V61 h62 j61 => ?_
    have h63 := j61.bO h54
    have h64 := h55.ro h59 j61
    have h65 := h56.ro h59 j61
    have h66 := h57.one h59 (by decide) j61
    have K68 := K60.nO j61
    refine kk 1 <| eu_ <| blk_r <| then_r <| sy_out (.tuple #[.agg (vdC 0 attZ proZ 0), iI 16]) rfl (rrt 57 res h62 underlying57 (by kernel_rfl)) ?_
    exact ⟨by rw [hE, hV] <;> kernel_rfl, vb, (by rw [hN]; exact ⟨h63, h64, h65, H.na, H.nb⟩), Grown.refl, K68, h66⟩
   ·have hE : proErr p h z = 0 := proErr_4 g0 g1 (by rw [hff]; exact g2)
    have hVl : ∀ y, dPro l z = y → proVd p h Q z = y := fun y e => by unfold proVd; rw [if_pos hE, hl, e]
    refine r_ nl5_ <| kk 1 <| pP (lc h58 (Pro.c_1 _)) <| kk 1 <| pP (dtF (((z.h) : Int) < ((ff) : Int))) <| kk 1 <| en_ <| s_ <| blk_n <| tqr_ nl5_ <| kk 2 <| pP (lc h58 (Pro.c_0 _)) ?_
    refine pcq 69 #[pT q 0, iI z.v] func69 (((hl ▸ rdBlocks_ok q 0 p h A Q z.v _ (RDet.of h54 h55 h56) inv hlen)).mono ?_)
    rintro e V69 ⟨vl, rfl, hrV69, hnV69, j69⟩
    have hsV69 : ProsAt V69 vl l := Row.sl hrV69 rfl (fun x hx => Pro.cl_len (okl x hx))
    have hll := hsV69.len_le
    have hrs := lt_of_block h59
    refine ⟨_, rfl, ?_⟩
    have h70 := j69.bk h54
    have h71 := h55.rn j69
    have h72 := h56.rn j69
    have h73 := h57.nn j69
    have ⟨K76, h74, h75⟩ := j69.K2 K60 h58 h59
    refine kk 1 <| eq_ <| qr_ [0] <| kk 1 <| et_ <| bl_ 1 ?_
    refine sy_loop (qc120_0 1012) (fun a V => ∃ (i : Nat), (Fr 87 [(0, pT q 0), (3, pT gq 0), (4, pT res 0), (10, vl), (11, iN i)] [] a) ∧ (i ≤ l.length) ∧ (∀ (j : Nat) (b : Pro), j < i → l[j]? = some b → ¬ b.h = z.h) ∧ (HP V q (rdC p h va vb) 113) ∧ (Row V 28 36 va A.length (A.flatMap Att.cl)) ∧ (Row V 37 35 vb Q.length (Q.flatMap Pro.cl)) ∧ (Ones w V 37 35) ∧ (HP V gq (Pro.c z) 37) ∧ (HP V res (vdC 0 attZ proZ 0) 57) ∧ (ProsAt V vl l) ∧ (Keeps ((fun j => j = q ∨ vb.ownBlock = some j)) w V)) (fun a _ => l.length - (intOf (a.tmps.getD 11 undef)).toNat) (by kernel_rfl) ?_ ?_
    ·exact ⟨0, fq, Nat.zero_le _, (fun _ _ h => by omega), h70, h71, h72, h73, h74, h75, hsV69, K76⟩
    ·rintro a V77 ⟨i, hfr, hi, hn0, h78, h79, h80, h81, h82, h83, h84, K85⟩
     obtain ⟨uu86, rfl⟩ := Fr.open hfr
     rcases dp_cases (z := z) i hi with ⟨x, hlt, hx, ht, hd⟩ | ⟨x, hlt, hx, ht, hd⟩ | ⟨x, hlt, hx, ht⟩ | ei
     ·have hxo := okl x (List.mem_of_getElem? hx)
      obtain ⟨b_x, o_x, c_x, hv_x, hb_x, _⟩ := (h84).at_ i _ hx
      skip
      have hfin := dpro_one hx ht hn0 hd
      obtain ⟨y, hy⟩ : ∃ y, (⟨2, zAtt, x, z.h⟩ : Vd) = y := ⟨_, rfl⟩
      have hV := hVl y (hfin.trans hy)
      have hyo : VdOk y := hy ▸ ⟨zAtt_r, hxo.r⟩
      have hN : proNew p h Q z = Q := by unfold proNew; rw [hV, if_neg (fun e => by have q1 := e.2; rw [← hy] at q1; exact absurd q1 (show ¬ (2 : Int) = 0 by decide))]
      refine q_ <| qr_ [0, 1, 2, 3] <| kk 2 <| ppq (iN l.length) (lsl h84 underlying40) <| pP (dtT ((i : Int) < (l.length : Int))) <| ey_ <| s_ <| tq_ <| bl_ 2 <| q_ <| anp 8 (fun W => (ProsAt W vl l) ∧ (HP W gq (Pro.c z) 37)) fun V87 j87 => ?_
      have h88 := j87.bk h78
      have h89 := h79.rn j87
      have h90 := h80.rn j87
      have h91 := h81.nn j87
      have ⟨h92, h93⟩ := j87.k2 h82 h83
      have h94 := h84.keepsN j87
      have K95 := K85.nn j87
      refine kA [0, 1] <| aV 2 _ (fun W hS => ixh hv_x i 35 underlying40) <| kA [3] <| aV 4 (iI x.h) (fun W hS => ldc 3 b_x (o_x + i * 35 + 1) (Sl.cell hS.1 hx hv_x Pro.cl_1)) <| kA [5] <| aV 6 _ (fun W hS => lc hS.2 (Pro.c_1 _)) <| aV 7 _ (fun W hS => eqT ((x.h) : Int) ((z.h) : Int)) <| ane <| then_n <| y_ <| q_ <| q_ <| sy_np <| sy_reg <| anb 6 (fun W => (ProsAt W vl l) ∧ (HP W gq (Pro.c z) 37)) #[false, false, false, false, false, false] ?_
      obtain ⟨V96, eV96, j96⟩ := drew_step V87
      rw [eV96]
      clear eV96
      have h97 := j96.bk h88
      have h98 := h89.rn j96
      have h99 := h90.rn j96
      have h100 := h91.nn j96
      have ⟨h101, h102⟩ := j96.k2 h92 h93
      have h103 := h94.keepsN j96
      have K104 := K95.nn j96
      refine aV 0 _ (fun W hS => ldz 37 gq hS.2 (Pro.c_size _ hr_z)) <| kA [1, 2] <| aV 3 _ (fun W hS => ixh hv_x i 35 underlying40) <| aV 4 (.agg (Pro.c x)) (fun W hS => ldm (Sl.range hS.1 hx hv_x) underlying37 (Pro.cl_len hxo)) <| an_o 5 <| ncs (rdbl_is z x true _ hz hxo hd) fun V105 j105 => ?_
      have h106 := j105.bk h97
      have h107 := h98.rn j105
      have h108 := h99.rn j105
      have h109 := h100.nn j105
      have ⟨h110, h111⟩ := j105.k2 h101 h102
      have h112 := h103.keepsN j105
      have K113 := K104.nn j105
      refine ⟨⟨h112, h110⟩, ?_⟩
      refine ane <| then_n <| y_ <| q_ <| anp 9 (fun W => (ProsAt W vl l) ∧ (HP W gq (Pro.c z) 37)) fun V114 j114 => ?_
      have h115 := j114.bk h106
      have h116 := h107.rn j114
      have h117 := h108.rn j114
      have h118 := h109.nn j114
      have ⟨h119, h120⟩ := j114.k2 h110 h111
      have h121 := h112.keepsN j114
      have K122 := K113.nn j114
      refine kA [0, 1] <| aV 2 _ (fun W hS => ixh hv_x i 35 underlying40) <| aV 3 (.agg (Pro.c x)) (fun W hS => ldm (Sl.range hS.1 hx hv_x) underlying37 (Pro.cl_len hxo)) <| kA [4] <| aV 5 _ (fun W hS => lc hS.2 (Pro.c_1 _)) <| aV 6 (.agg (Vd.c y)) (fun W hS => exec_build_fill 57 #[(0, .const (iI 2)), (2, .tmp 67), (3, .tmp 69)] (by kernel_rfl) [(0, iI 2), (2, .agg (Pro.c x)), (3, iI z.h)] (by kernel_rfl) _ underlying57 (.agg (vdC 0 attZ proZ 0)) (fun _ => by kernel_rfl) PlV (fun _ => by kernel_rfl) _ (hy ▸ fill_vdb 2 z.h x hxo.r)) <| an_o 7 <| nst 57 res (Vd.c y) h120 (by rw [Vd.c_size hyo]; kernel_rfl) (vd_sizes (Vd.c_size hyo) (by kernel_rfl)) Vd.c_one fun V123 h124 j123 => ?_
      have h125 := j123.bO h115
      have h126 := h116.ro h120 j123
      have h127 := h117.ro h120 j123
      have h128 := h118.one h120 (by decide) j123
      have h129 := j123.bO h119
      have h130 : ProsAt V123 vl l := Sl.keeps h121 j123 (fun j hj _ e => by have q1 := hnV69 j hj; have q2 : j = res := e; omega)
      have K131 := K122.nO j123
      refine ⟨⟨h130, h129⟩, ?_⟩
      refine ako 8 ?_
      refine ane <| then_n <| u_ <| then_r <| blk_r <| then_r <| then_r <| blk_r <| then_r <| sy_out (.tuple #[.agg (Vd.c y), iI 0]) rfl (rrt 57 res h124 underlying57 (by rw [Vd.c_size hyo]; kernel_rfl)) ?_
      exact ⟨by rw [hE, hV], vb, (by rw [hN]; exact ⟨h125, h126, h127, H.na, H.nb⟩), Grown.refl, K131, h128⟩
     ·have hxo := okl x (List.mem_of_getElem? hx)
      obtain ⟨b_x, o_x, c_x, hv_x, hb_x, _⟩ := (h84).at_ i _ hx
      skip
      have hfin := dpro_two hx ht hn0 hd
      obtain ⟨y, hy⟩ : ∃ y, (⟨1, zAtt, x, 0⟩ : Vd) = y := ⟨_, rfl⟩
      have hV := hVl y (hfin.trans hy)
      have hyo : VdOk y := hy ▸ ⟨zAtt_r, hxo.r⟩
      have hN : proNew p h Q z = Q := by unfold proNew; rw [hV, if_neg (fun e => by have q1 := e.2; rw [← hy] at q1; exact absurd q1 (show ¬ (1 : Int) = 0 by decide))]
      refine q_ <| qr_ [0, 1, 2, 3] <| kk 2 <| ppq (iN l.length) (lsl h84 underlying40) <| pP (dtT ((i : Int) < (l.length : Int))) <| ey_ <| s_ <| tq_ <| bl_ 2 <| q_ <| anp 8 (fun W => (ProsAt W vl l) ∧ (HP W gq (Pro.c z) 37)) fun V132 j132 => ?_
      have h133 := j132.bk h78
      have h134 := h79.rn j132
      have h135 := h80.rn j132
      have h136 := h81.nn j132
      have ⟨h137, h138⟩ := j132.k2 h82 h83
      have h139 := h84.keepsN j132
      have K140 := K85.nn j132
      refine kA [0, 1] <| aV 2 _ (fun W hS => ixh hv_x i 35 underlying40) <| kA [3] <| aV 4 (iI x.h) (fun W hS => ldc 3 b_x (o_x + i * 35 + 1) (Sl.cell hS.1 hx hv_x Pro.cl_1)) <| kA [5] <| aV 6 _ (fun W hS => lc hS.2 (Pro.c_1 _)) <| aV 7 _ (fun W hS => eqT ((x.h) : Int) ((z.h) : Int)) <| ane <| then_n <| y_ <| q_ <| q_ <| sy_np <| sy_reg <| anb 6 (fun W => (ProsAt W vl l) ∧ (HP W gq (Pro.c z) 37)) #[false, false, false, false, false, false] ?_
      obtain ⟨V141, eV141, j141⟩ := drew_step V132
      rw [eV141]
      clear eV141
      have h142 := j141.bk h133
      have h143 := h134.rn j141
      have h144 := h135.rn j141
      have h145 := h136.nn j141
      have ⟨h146, h147⟩ := j141.k2 h137 h138
      have h148 := h139.keepsN j141
      have K149 := K140.nn j141
      refine aV 0 _ (fun W hS => ldz 37 gq hS.2 (Pro.c_size _ hr_z)) <| kA [1, 2] <| aV 3 _ (fun W hS => ixh hv_x i 35 underlying40) <| aV 4 (.agg (Pro.c x)) (fun W hS => ldm (Sl.range hS.1 hx hv_x) underlying37 (Pro.cl_len hxo)) <| an_o 5 <| ncs (rdbl_is z x false _ hz hxo hd) fun V150 j150 => ?_
      have h151 := j150.bk h142
      have h152 := h143.rn j150
      have h153 := h144.rn j150
      have h154 := h145.nn j150
      have ⟨h155, h156⟩ := j150.k2 h146 h147
      have h157 := h148.keepsN j150
      have K158 := K149.nn j150
      refine ⟨⟨h157, h155⟩, ?_⟩
      refine ane <| then_n <| n_ <| s_ <| tqr_ nl7_ <| kk 2 <| pP (ixh hv_x i 35 underlying40) <| ppq (.agg (Pro.c x)) (ldm (Sl.range h157 hx hv_x) underlying37 (Pro.cl_len hxo)) <| ppq (.agg (Vd.c y)) (exec_build_fill 57 #[(0, .const (iI 1)), (2, .tmp 74)] (by kernel_rfl) [(0, iI 1), (2, .agg (Pro.c x))] (by kernel_rfl) _ underlying57 (.agg (vdC 0 attZ proZ 0)) (fun _ => by kernel_rfl) PlV (fun _ => by kernel_rfl) _ (hy ▸ fill_vds 1 x hxo.r)) <| pst 57 res (Vd.c y) h156 (by rw [Vd.c_size hyo]; kernel_rfl) (vd_sizes (Vd.c_size hyo) (by kernel_rfl)) Vd.c_one fun V159 h160 j159 => ?_
      have h161 := j159.bO h151
      have h162 := h152.ro h156 j159
      have h163 := h153.ro h156 j159
      have h164 := h154.one h156 (by decide) j159
      have K167 := K158.nO j159
      refine kk 1 <| eu_ <| blk_r <| then_r <| then_r <| blk_r <| then_r <| sy_out (.tuple #[.agg (Vd.c y), iI 0]) rfl (rrt 57 res h160 underlying57 (by rw [Vd.c_size hyo]; kernel_rfl)) ?_
      exact ⟨by rw [hE, hV], vb, (by rw [hN]; exact ⟨h161, h162, h163, H.na, H.nb⟩), Grown.refl, K167, h164⟩
     ·have hxo := okl x (List.mem_of_getElem? hx)
      obtain ⟨b_x, o_x, c_x, hv_x, hb_x, _⟩ := (h84).at_ i _ hx
      refine q_ <| qr_ [0, 1, 2, 3] <| kk 2 <| ppq (iN l.length) (lsl h84 underlying40) <| pP (dtT ((i : Int) < (l.length : Int))) <| ey_ <| s_ <| tq_ <| bl_ 2 <| q_ <| anp 8 (fun W => (ProsAt W vl l) ∧ (HP W gq (Pro.c z) 37)) fun V168 j168 => ?_
      have h169 := j168.bk h78
      have h170 := h79.rn j168
      have h171 := h80.rn j168
      have h172 := h81.nn j168
      have ⟨h173, h174⟩ := j168.k2 h82 h83
      have h175 := h84.keepsN j168
      have K176 := K85.nn j168
      refine kA [0, 1] <| aV 2 _ (fun W hS => ixh hv_x i 35 underlying40) <| kA [3] <| aV 4 (iI x.h) (fun W hS => ldc 3 b_x (o_x + i * 35 + 1) (Sl.cell hS.1 hx hv_x Pro.cl_1)) <| kA [5] <| aV 6 _ (fun W hS => lc hS.2 (Pro.c_1 _)) <| aV 7 _ (fun W hS => eqF ((x.h) : Int) ((z.h) : Int)) <| ane <| then_n <| n_ <| s_ <| blk_n <| tr_ [0, 1, 2] <| kk 1 <| pP (cwN (n := i + 1)) <| kk 1 <| et_ ?_
      refine ⟨⟨i + 1, fq, by omega, (fun j b hj hb => by by_cases e : j = i; subst e; rw [hx] at hb; cases hb; exact ht; exact hn0 j b (by omega) hb), h169, h170, h171, h172, h173, h174, h175, K176⟩, ?_⟩
      exact ltm (l.length - (i + 1)) (l.length - i)
     ·have hV := hVl _ (dpro_no (fun j b hb => hn0 j b (by have := (List.getElem?_eq_some_iff.1 hb).1; omega) hb))
      have hN : proNew p h Q z = Q ++ [z] := by unfold proNew; rw [hV, if_pos ⟨hE, rfl⟩]
      refine q_ <| qr_ [0, 1, 2, 3] <| kk 2 <| ppq (iN l.length) (lsl h84 underlying40) <| pP (dtF ((i : Int) < (l.length : Int))) <| en_ <| sy_exit 1 (by kernel_rfl) <| then_e <| then_e <| blk_e <| tq_ <| sy_np <| sy_reg <| anb 11 (fun W => (HP W gq (Pro.c z) 37)) #[false, false, false, false, false, false, false, false, false, false, false] ?_
      obtain ⟨V177, eV177, j177⟩ := drew_step V77
      rw [eV177]
      clear eV177
      have h178 := j177.bk h78
      have h179 := h79.rn j177
      have h180 := h80.rn j177
      have h181 := h81.nn j177
      have ⟨K185, h182, h183⟩ := j177.K2 K85 h82 h83
      refine kA [0, 1, 2, 3] <| avq 5 _ (fun W hS => ldr 37 gq hS (by rw [Pro.c_size _ hr_z]; kernel_rfl)) h182 ?_
      refine an_two 4 6 (by kernel_rfl) ?_ ?_
      ·refine nrq vb (w' := V177) (lc h178 (rfl) (k := 13)) ?_
       refine ⟨h182, ?_⟩
       refine an_o 6 ?_
       obtain ⟨V186, eV186, lit, elit, h187, j186⟩ := alloc_step V177 (Pro.c z) 37
       have nlit : w.heap.size ≤ lit := elit ▸ K185.size
       refine nrq (sS lit 1 1) (w' := V186) (by rw [← eV186, ← elit]; exact exec_build1 40 37 (.tmp 81) (by kernel_rfl) (.agg (Pro.c z)) (by kernel_rfl) i0 _ underlying40 hi0 hz0 35 hz1 (by decide) (by decide) (Pro.c_size z hz.r)) ?_
       clear eV186
       have h188 := j186.bk h178
       have h189 := h179.rn j186
       have h190 := h180.rn j186
       have h191 := h181.nn j186
       have ⟨K195, h192, h193⟩ := j186.K2 K185 h182 h183
       refine ⟨h192, ?_⟩
       refine an_o 7 ?_
       obtain ⟨v196, V197, hr198, h199, hg200, hn201, ha202⟩ := run_append_any (P := prog) (w := V186) 40 (Oper.type (qo120_0 254 7)) 37 i0 (.agg zPro.c) 35 56 underlying40 hi0 hz0 hz1 hz2 rfl (by decide) vb Q.length (Q.flatMap Pro.cl) h190 (sS lit 1 1) 1 (Pro.cl z) (src_pro hz h187) (by unfold maxLen; omega) (by omega)
       have j197 : Keeps (fun j => vb.ownBlock = some j) V186 V197 := Keeps.rowAdd hg200
       have hw203 : NewFrom 0 v196 := hn0_b.next (Nat.zero_le _) ha202
       refine nrq v196 (w' := V197) (exec_append (.tmp 80) (.tmp 82) 40 (by kernel_rfl) vb (sS lit 1 1) (by kernel_rfl) (by kernel_rfl) hr198) ?_
       have h204 : Row V197 37 35 v196 ((Q ++ [z]).length) ((Q ++ [z]).flatMap Pro.cl) := (by rw [List.flatMap_append, List.length_append]; simpa using h199)
       have hones_ : Ones V186 V197 37 35 := append_ones2 (P := prog) 40 _ 37 i0 (.agg zPro.c) 35 56 underlying40 hi0 hz0 hz1 hz2 rfl (by decide) vb Q.length (Q.flatMap Pro.cl) h190 _ 1 _ (src_pro hz h187) (by decide) (by unfold maxLen; omega) (by omega) H.nb hr198 hg200
       have hgr : Grown w vb v196 := fun j hj => (ha202 j hj).elim .inl (fun e => .inr (by have q1 := K195.size; omega))
       have h205 : HP V197 q (rdC p h va vb) 113 := (j197.block q (lt_of_block h188) (fun e => Row.ne h190 h188 (by decide) e)).trans h188
       have h206 : Row V197 28 36 va A.length (A.flatMap Att.cl) := h189.keeps j197 (Row.apart h189 h190 (by decide))
       have h207 := h191.then hones_
       have h208 : HP V197 gq (Pro.c z) 37 := (j197.block gq (lt_of_block h192) (fun e => by have q1 := hown _ e; omega)).trans h192
       have h209 : HP V197 res (vdC 0 attZ proZ 0) 57 := (j197.block res (lt_of_block h193) (fun e => Row.ne h190 h193 (by decide) e)).trans h193
       have K210 : Keeps ((fun j => j = q ∨ vb.ownBlock = some j)) w V197 := K195.then j197 (fun i hi hm => .inr hm)
       refine ⟨h208, ?_⟩
       refine kA [8, 9] <| an_o 10 ?_
       obtain ⟨V211, eV211, j211⟩ := cell_step V197 q 13 v196
       have h212 : HP V211 q (rdC p h va v196) 113 := eV211 ▸ ((heap_setCell_same _ q 13 _ _ v196 h205).trans (congrArg (fun c => some (Obj.cells c 113 (0, 0))) (show (rdC p h va vb : Array Value).setIfInBounds 13 v196 = rdC p h va v196 from rfl)))
       refine nzq (w' := V211) (by rw [← eV211]; exact exec_store_cell 40 (.tmp 85) (.tmp 83) (by kernel_rfl) q 13 (by kernel_rfl) v196 (by kernel_rfl) (by kernel_rfl) (Row.cells1 h204) vb (rc h205 (rfl)) (frozen_of_row _ _ _ _ _ h205) (Row.one h204)) ?_
       clear eV211
       have h213 := h206.ro h205 j211
       have h214 := h207.one h205 (by decide) j211
       have ⟨h215, h216⟩ := j211.ko2 h208 h209
       have h217 := h204.ro h205 j211
       have K218 := K210.nw j211 (.inl rfl)
       refine ⟨h215, ?_⟩
       refine ane <| tqr_ [0, 1, 2] <| kk 1 <| pst 57 res (vdC 0 attZ proZ 0) h216 (by kernel_rfl) (vd_sizes (by kernel_rfl) (by kernel_rfl)) (by kernel_rfl) fun V219 h220 j219 => ?_
       have h221 := h213.ro h216 j219
       have h222 := h214.one h216 (by decide) j219
       have h224 := h217.ro h216 j219
       have ⟨K226, h225⟩ := j219.Ko1 K218 h212
       refine kk 1 <| eu_ <| sy_out (.tuple #[.agg (vdC 0 attZ proZ 0), iI 0]) rfl (rrt 57 res h220 underlying57 (by kernel_rfl)) ?_
       exact ⟨by rw [hE, hV] <;> kernel_rfl, v196, (by rw [hN]; exact ⟨h225, h221, h224, H.na, Nc.pos (by simp)⟩), hgr, K226, h222⟩
      ·obtain ⟨V227, eV227, lit, elit, h228, j227⟩ := alloc_step V177 (Pro.c z) 37
       have nlit : w.heap.size ≤ lit := elit ▸ K185.size
       refine nrq (sS lit 1 1) (w' := V227) (by rw [← eV227, ← elit]; exact exec_build1 40 37 (.tmp 81) (by kernel_rfl) (.agg (Pro.c z)) (by kernel_rfl) i0 _ underlying40 hi0 hz0 35 hz1 (by decide) (by decide) (Pro.c_size z hz.r)) ?_
       clear eV227
       have h229 := j227.bk h178
       have h230 := h179.rn j227
       have h231 := h180.rn j227
       have h232 := h181.nn j227
       have ⟨K236, h233, h234⟩ := j227.K2 K185 h182 h183
       refine ⟨h233, ?_⟩
       refine an_o 4 <| nrq vb (w' := V227) (lc h229 (rfl) (k := 13)) ?_
       refine ⟨h233, ?_⟩
       refine an_o 7 ?_
       obtain ⟨v237, V238, hr239, h240, hg241, hn242, ha243⟩ := run_append_any (P := prog) (w := V227) 40 (Oper.type (qo120_0 254 7)) 37 i0 (.agg zPro.c) 35 56 underlying40 hi0 hz0 hz1 hz2 rfl (by decide) vb Q.length (Q.flatMap Pro.cl) h231 (sS lit 1 1) 1 (Pro.cl z) (src_pro hz h228) (by unfold maxLen; omega) (by omega)
       have j238 : Keeps (fun j => vb.ownBlock = some j) V227 V238 := Keeps.rowAdd hg241
       have hw244 : NewFrom 0 v237 := hn0_b.next (Nat.zero_le _) ha243
       refine nrq v237 (w' := V238) (exec_append (.tmp 80) (.tmp 82) 40 (by kernel_rfl) vb (sS lit 1 1) (by kernel_rfl) (by kernel_rfl) hr239) ?_
       have h245 : Row V238 37 35 v237 ((Q ++ [z]).length) ((Q ++ [z]).flatMap Pro.cl) := (by rw [List.flatMap_append, List.length_append]; simpa using h240)
       have hones_ : Ones V227 V238 37 35 := append_ones2 (P := prog) 40 _ 37 i0 (.agg zPro.c) 35 56 underlying40 hi0 hz0 hz1 hz2 rfl (by decide) vb Q.length (Q.flatMap Pro.cl) h231 _ 1 _ (src_pro hz h228) (by decide) (by unfold maxLen; omega) (by omega) H.nb hr239 hg241
       have hgr : Grown w vb v237 := fun j hj => (ha243 j hj).elim .inl (fun e => .inr (by have q1 := K236.size; omega))
       have h246 : HP V238 q (rdC p h va vb) 113 := (j238.block q (lt_of_block h229) (fun e => Row.ne h231 h229 (by decide) e)).trans h229
       have h247 : Row V238 28 36 va A.length (A.flatMap Att.cl) := h230.keeps j238 (Row.apart h230 h231 (by decide))
       have h248 := h232.then hones_
       have h249 : HP V238 gq (Pro.c z) 37 := (j238.block gq (lt_of_block h233) (fun e => by have q1 := hown _ e; omega)).trans h233
       have h250 : HP V238 res (vdC 0 attZ proZ 0) 57 := (j238.block res (lt_of_block h234) (fun e => Row.ne h231 h234 (by decide) e)).trans h234
       have K251 : Keeps ((fun j => j = q ∨ vb.ownBlock = some j)) w V238 := K236.then j238 (fun i hi hm => .inr hm)
       refine ⟨h249, ?_⟩
       refine kA [8, 9] <| an_o 10 ?_
       obtain ⟨V252, eV252, j252⟩ := cell_step V238 q 13 v237
       have h253 : HP V252 q (rdC p h va v237) 113 := eV252 ▸ ((heap_setCell_same _ q 13 _ _ v237 h246).trans (congrArg (fun c => some (Obj.cells c 113 (0, 0))) (show (rdC p h va vb : Array Value).setIfInBounds 13 v237 = rdC p h va v237 from rfl)))
       refine nzq (w' := V252) (by rw [← eV252]; exact exec_store_cell 40 (.tmp 85) (.tmp 83) (by kernel_rfl) q 13 (by kernel_rfl) v237 (by kernel_rfl) (by kernel_rfl) (Row.cells1 h245) vb (rc h246 (rfl)) (frozen_of_row _ _ _ _ _ h246) (Row.one h245)) ?_
       clear eV252
       have h254 := h247.ro h246 j252
       have h255 := h248.one h246 (by decide) j252
       have ⟨h256, h257⟩ := j252.ko2 h249 h250
       have h258 := h245.ro h246 j252
       have K259 := K251.nw j252 (.inl rfl)
       refine ⟨h256, ?_⟩
       refine ane <| tqr_ [0, 1, 2] <| kk 1 <| pst 57 res (vdC 0 attZ proZ 0) h257 (by kernel_rfl) (vd_sizes (by kernel_rfl) (by kernel_rfl)) (by kernel_rfl) fun V260 h261 j260 => ?_
       have h262 := h254.ro h257 j260
       have h263 := h255.one h257 (by decide) j260
       have h265 := h258.ro h257 j260
       have ⟨K267, h266⟩ := j260.Ko1 K259 h253
       refine kk 1 <| eu_ <| sy_out (.tuple #[.agg (vdC 0 attZ proZ 0), iI 0]) rfl (rrt 57 res h261 underlying57 (by kernel_rfl)) ?_
       exact ⟨by rw [hE, hV] <;> kernel_rfl, v237, (by rw [hN]; exact ⟨h266, h262, h265, H.na, Nc.pos (by simp)⟩), hgr, K267, h263⟩
 ·have hE : proErr p h z = z.err := proErr_1 g0
  have hV := (pro_no (Q := Q) hE (by omega)).1
  have hN := (pro_no (Q := Q) hE (by omega)).2
  refine r_ [0, 1, 2] <| kk 1 <| ppq (.bool true) (cbo (show ((((z.err) : Int) != ((0) : Int))) = true from by simpa using g0)) <| kk 1 <| ey_ <| qr_ [0, 1, 2, 3] <| kk 2 <| pst 57 res (vdC 0 attZ proZ 0) h35 (by kernel_rfl) (vd_sizes (by kernel_rfl) (by kernel_rfl)) (by kernel_rfl) fun V268 h269 j268 => ?_
  have h270 := j268.bO h30
  have h271 := h31.ro h35 j268
  have h272 := h32.ro h35 j268
  have h273 := h33.one h35 (by decide) j268
  have K275 := K36.nO j268
  refine kk 1 <| eu_ <| blk_r <| then_r <| sy_out (.tuple #[.agg (vdC 0 attZ proZ 0), iI z.err]) rfl (rrt 57 res h269 underlying57 (by kernel_rfl)) ?_
  exact ⟨by rw [hE, hV] <;> kernel_rfl, vb, (by rw [hN]; exact ⟨h270, h271, h272, H.na, H.nb⟩), Grown.refl, K275, h273⟩
def qc120_2 (n : Nat) : Code := partOf f66 n
theorem rdMove_v (q : Nat) (p : Par) (h : Int) (A : List Att) (Q : List Pro) (va vb : Value) (x : Int) (w : World) (H : RV w q p h A Q va vb) :
  Calls prog 66 #[pT q 0, iI x] w (fun e w' => e = .returned (iI (movErr h x)) ∧ RV w' q p (movH h x) A Q va vb ∧ Keeps (One q) w w') := by
 have hq := H.q
 have hra := H.a
 have hrb := H.b
 have ltq := lt_of_block hq
 have K0 := Keeps.refl ((One q)) w
 refine sf_ (qc120_2 1) func66 <| qr_ [0] <| kk 1 <| eq_ <| bl_ 0 <| q_ ?_
 rcases (show x < 1 ∨ (¬ x < 1 ∧ x > 4294967296) ∨ (¬ x < 1 ∧ ¬ x > 4294967296) by omega) with g0 | g0 | g0
 ·have hE : movErr h x = 3 := by unfold movErr; rw [if_pos (by omega)]
  refine r_ nl7_ <| kk 1 <| pP (dtT (((x) : Int) < ((1) : Int))) <| kk 5 <| ey_ <| qr_ [0] <| kk 1 <| eu_ <| blk_r <| then_r <| so_ (iI 3) ?_
  exact ⟨by rw [hE], (by unfold movH; rw [hE, if_neg (by decide)]; exact H), K0⟩
 ·have hE : movErr h x = 3 := by unfold movErr; rw [if_pos (by omega)]
  refine r_ nl7_ <| kk 1 <| pP (dtF (((x) : Int) < ((1) : Int))) <| kk 2 <| pP (dtT (((x) : Int) > ((4294967296) : Int))) <| kk 2 <| ey_ <| qr_ [0] <| kk 1 <| eu_ <| blk_r <| then_r <| so_ (iI 3) ?_
  exact ⟨by rw [hE], (by unfold movH; rw [hE, if_neg (by decide)]; exact H), K0⟩
 ·refine r_ nl7_ <| kk 1 <| pP (dtF (((x) : Int) < ((1) : Int))) <| kk 2 <| pP (dtF (((x) : Int) > ((4294967296) : Int))) <| kk 2 <| en_ <| q_ ?_
  by_cases g1 : x < h
  ·have hE : movErr h x = 9 := by unfold movErr; rw [if_neg (by omega), if_pos g1]
   refine r_ nl7_ <| kk 4 <| ppq (iI h) (lc (hq) (rfl) (k := 11)) <| pP (dtT (((x) : Int) < ((h) : Int))) <| kk 1 <| ey_ <| qr_ [0] <| kk 1 <| eu_ <| blk_r <| then_r <| so_ (iI 9) ?_
   exact ⟨by rw [hE], (by unfold movH; rw [hE, if_neg (by decide)]; exact H), K0⟩
  ·have hE : movErr h x = 0 := by unfold movErr; rw [if_neg (by omega), if_neg g1]
   refine r_ nl7_ <| kk 4 <| ppq (iI h) (lc (hq) (rfl) (k := 11)) <| pP (dtF (((x) : Int) < ((h) : Int))) <| kk 1 <| en_ <| s_ <| blk_n <| tqr_ nl5_ <| kk 2 <| kk 2 <| pce 3 q 11 (iI x) (rdC p x va vb) hq (rc (hq) (rfl)) (rfl) fun V1 h2 j1 => ?_
   have K3 := K0.nw j1 (rfl)
   refine eqr_ [0] <| kk 1 <| eu_ <| so_ (iI 0) ?_
   exact ⟨by rw [hE], (by unfold movH; rw [hE, if_pos rfl]; exact ⟨h2, hra.keeps K3 (fun j hj e => Row.ne hra hq (by decide) ((show j = q from e) ▸ hj)), hrb.keeps K3 (fun j hj e => Row.ne hrb hq (by decide) ((show j = q from e) ▸ hj)), H.na, H.nb⟩), K3⟩
theorem row_empty2 {w : World} {g size : Nat} {T : TypeId} (h : HP w g #[] T) (_ : (#[] : Array Value).size = 0) (_ : 0 ≤ maxLen) : Row w T size (sS g 0 0) 0 [] :=
 ⟨by simp, .inr ⟨g, 0, #[], rfl, Nat.zero_le _, h, Nat.le_refl _, Nat.zero_le _, by simp, by simp⟩⟩
theorem _root_.Go.Own.Row.shape {w : World} {e : TypeId} {s n k : Nat} {v : Value} {xs : List Value} (h : Row w e s v n xs) (hk : n = k) : ∃ A cap, v = .slice A k cap := by
 subst hk
 rcases h.2 with ⟨rfl, rfl⟩ | ⟨g, cap, cur, rfl, _⟩
 ·exact ⟨_, _, rfl⟩
 ·exact ⟨_, _, rfl⟩
def qc121_0 (n : Nat) : Code := partOf f67 n
abbrev qo121_0 (n k : Nat) : Oper := (opsAt (qc121_0 n)).getD k default
theorem rdCopy_ok (q : Nat) (p : Par) (h : Int) (A : List Att) (Q : List Pro) (va vb : Value) (w : World) (H : RV w q p h A Q va vb) (inv : DInv p h A Q) (hA : A.length ≤ 300) (hQ : Q.length ≤ 300) :
  Calls prog 67 #[pT q 0] w (fun e w' => ∃ c va' vb', e = .returned (pT c 0) ∧ RV w' c p h A Q va' vb' ∧ w.heap.size ≤ c ∧ NewFrom w.heap.size va' ∧ NewFrom w.heap.size vb' ∧ Keeps Nob w w') := by
 have hq := H.q
 have hra := H.a
 have hrb := H.b
 have ltq := lt_of_block hq
 have hoa : ∀ x ∈ A, x.Ok := fun x hx => (inv.a x hx).1
 have hob : ∀ x ∈ Q, x.Ok := fun x hx => (inv.q x hx).1
 have hsa : AttsAt w va A := Row.sl hra rfl (fun x hx => Att.cl_len (hoa x hx))
 have hsb : ProsAt w vb Q := Row.sl hrb rfl (fun x hx => Pro.cl_len (hob x hx))
 obtain ⟨ia, hia0, hia1, hia2, hia3⟩ := info_parts att_info0
 obtain ⟨ib, hib0, hib1, hib2, hib3⟩ := info_parts pro_info0
 have K0 := kz0 w
 refine sf_ (qc121_0 1) func67 <| qr_ [0] <| kk 1 <| eq_ <| anp 23 (fun W => (HP W q (rdC p h va vb) 113)) fun V1 j1 => ?_
 have ⟨K3, h2⟩ := j1.K1 K0 hq
 refine kA [0, 1, 2] <| aV 3 (.agg p.cells) (fun W hS => exec_cast (v := .agg p.cells.toList.toArray) rfl (exec_load_seg 47 (.tmp 5) (by kernel_rfl) q 0 (by kernel_rfl) p.cells.toList _ _ _ hS (rdC_seg p h va vb) underlying47 rfl (by kernel_rfl))) <| kA [4, 5, 6] <| aV 7 (iI h) (fun W hS => lc hS (rfl) (k := 11)) <| kA [9, 10, 11] <| aV 12 va (fun W hS => lc hS (rfl) (k := 12)) <| kA [15, 16] <| kA [17] <| avq 18 vb (fun W hS => lc hS (rfl) (k := 13)) h2 ?_
 refine an_two 8 14 (by kernel_rfl) ?_ ?_
 ·refine nbs 28 #[] 0 fun V4 ea eea h5 j4 => ?_
  have := nqk1 eea h2 K3
  have ⟨K9, h8⟩ := j4.K1 K3 h2
  refine ⟨h8, ?_⟩
  refine an_two 13 14 (by kernel_rfl) ?_ ?_
  ·have h10 : Row V4 28 36 (sS ea 0 0) 0 [] := row_empty2 h5 rfl (by decide)
   have hw11 : NewFrom w.heap.size (sS ea 0 0) := NewFrom.ptr (by omega) _ _
   obtain ⟨v12, V13, hr14, h15, hg16, hn17, ha18⟩ := run_append_any (P := prog) (w := V4) 32 (Oper.type (qo121_0 6 13)) 28 ia (.agg zAtt.c) 36 64 underlying32 hia0 hia1 hia2 hia3 rfl (by decide) (sS ea 0 0) 0 [] h10 va A.length (A.flatMap Att.cl) (Sl.src (hsa.keepsN K9) (fun x hx => Att.cl_len (hoa x hx)) (by decide) (fun x _ => Att.cl_one)) (by unfold maxLen; omega) (by omega)
   obtain ⟨Aa_, ca_, rfl⟩ := Row.shape h15 (Nat.zero_add _)
   have j13 : Keeps (fun j => (sS ea 0 0 : Value).ownBlock = some j) V4 V13 := Keeps.rowAdd hg16
   have hw19 : NewFrom w.heap.size (.slice Aa_ A.length ca_) := hw11.next K9.size ha18
   refine nrq (.slice Aa_ A.length ca_) (w' := V13) (exec_append (.tmp 11) (.tmp 15) 32 (by kernel_rfl) (sS ea 0 0) va (by kernel_rfl) (by kernel_rfl) hr14) ?_
   have h20 : Row V13 28 36 (.slice Aa_ A.length ca_) A.length (A.flatMap Att.cl) := (by rw [Nat.zero_add, List.nil_append] at h15; exact h15)
   have hnc_a : Nc (.slice Aa_ A.length ca_) A.length := append_nc underlying32 hia0 hia2 (Sl.src (hsa.keepsN K9) (fun x hx => Att.cl_len (hoa x hx)) (by decide) (fun x _ => Att.cl_one)) hr14
   have h21 : HP V13 q (rdC p h va vb) 113 := (j13.block q (lt_of_block h8) (fun e => Row.ne h10 h8 (by decide) e)).trans h8
   have K22 := K9.nr j13 hw11
   refine ⟨h21, ?_⟩
   refine an_o 14 <| nbs 37 #[] 0 fun V23 eb eeb h24 j23 => ?_
   have := nqk1 eeb h21 K22
   have h27 := j23.bk h21
   have h28 := h20.rn j23
   have K29 := K22.nn j23
   refine ⟨h27, ?_⟩
   refine an_o 19 ?_
   have h30 : Row V23 37 35 (sS eb 0 0) 0 [] := row_empty2 h24 rfl (by decide)
   have hw31 : NewFrom w.heap.size (sS eb 0 0) := NewFrom.ptr (by omega) _ _
   obtain ⟨v32, V33, hr34, h35, hg36, hn37, ha38⟩ := run_append_any (P := prog) (w := V23) 40 (Oper.type (qo121_0 6 19)) 37 ib (.agg zPro.c) 35 56 underlying40 hib0 hib1 hib2 hib3 rfl (by decide) (sS eb 0 0) 0 [] h30 vb Q.length (Q.flatMap Pro.cl) (Sl.src (hsb.keepsN K29) (fun x hx => Pro.cl_len (hob x hx)) (by decide) (fun x _ => Pro.cl_one)) (by unfold maxLen; omega) (by omega)
   obtain ⟨Ab_, cb_, rfl⟩ := Row.shape h35 (Nat.zero_add _)
   have j33 : Keeps (fun j => (sS eb 0 0 : Value).ownBlock = some j) V23 V33 := Keeps.rowAdd hg36
   have hw39 : NewFrom w.heap.size (.slice Ab_ Q.length cb_) := hw31.next K29.size ha38
   refine nrq (.slice Ab_ Q.length cb_) (w' := V33) (exec_append (.tmp 17) (.tmp 21) 40 (by kernel_rfl) (sS eb 0 0) vb (by kernel_rfl) (by kernel_rfl) hr34) ?_
   have h40 : Row V33 37 35 (.slice Ab_ Q.length cb_) Q.length (Q.flatMap Pro.cl) := (by rw [Nat.zero_add, List.nil_append] at h35; exact h35)
   have hnc_b : Nc (.slice Ab_ Q.length cb_) Q.length := append_nc underlying40 hib0 hib2 (Sl.src (hsb.keepsN K29) (fun x hx => Pro.cl_len (hob x hx)) (by decide) (fun x _ => Pro.cl_one)) hr34
   have h41 : HP V33 q (rdC p h va vb) 113 := (j33.block q (lt_of_block h27) (fun e => Row.ne h30 h27 (by decide) e)).trans h27
   have h42 : Row V33 28 36 (.slice Aa_ A.length ca_) A.length (A.flatMap Att.cl) := h28.keeps j33 (Row.apart h28 h30 (by decide))
   have K43 := K29.nr j33 hw31
   refine ⟨h41, ?_⟩
   refine kA [20] <| an_o 21 <| nbx 113 ((rdC p h (.slice Aa_ A.length ca_) (.slice Ab_ Q.length cb_))) (.agg (rdC p h (.slice Aa_ A.length ca_) (.slice Ab_ Q.length cb_))) fun V44 c ec h45 j44 => ?_
   have := nqk1 ec h41 K43
   have h48 := j44.bk h41
   have h49 := h42.rn j44
   have h50 := h40.rn j44
   have K51 := K43.nn j44
   refine ⟨h48, ?_⟩
   refine ako 22 ?_
   refine ane <| then_n <| u_ <| so_ (pT c 0) ?_
   exact ⟨c, .slice Aa_ A.length ca_, .slice Ab_ Q.length cb_, rfl, ⟨h45, h49, h50, hnc_a, hnc_b⟩, by omega, hw19, hw39, K51⟩
  ·refine nbs 37 #[] 0 fun V52 eb eeb h53 j52 => ?_
   have := nqk2 eeb h8 h5 K9
   have ⟨K59, h57, h58⟩ := j52.K2 K9 h8 h5
   refine ⟨h57, ?_⟩
   refine an_o 13 ?_
   have h60 : Row V52 28 36 (sS ea 0 0) 0 [] := row_empty2 h58 rfl (by decide)
   have hw61 : NewFrom w.heap.size (sS ea 0 0) := NewFrom.ptr (by omega) _ _
   obtain ⟨v62, V63, hr64, h65, hg66, hn67, ha68⟩ := run_append_any (P := prog) (w := V52) 32 (Oper.type (qo121_0 6 13)) 28 ia (.agg zAtt.c) 36 64 underlying32 hia0 hia1 hia2 hia3 rfl (by decide) (sS ea 0 0) 0 [] h60 va A.length (A.flatMap Att.cl) (Sl.src (hsa.keepsN K59) (fun x hx => Att.cl_len (hoa x hx)) (by decide) (fun x _ => Att.cl_one)) (by unfold maxLen; omega) (by omega)
   obtain ⟨Aa_, ca_, rfl⟩ := Row.shape h65 (Nat.zero_add _)
   have j63 : Keeps (fun j => (sS ea 0 0 : Value).ownBlock = some j) V52 V63 := Keeps.rowAdd hg66
   have hw69 : NewFrom w.heap.size (.slice Aa_ A.length ca_) := hw61.next K59.size ha68
   refine nrq (.slice Aa_ A.length ca_) (w' := V63) (exec_append (.tmp 11) (.tmp 15) 32 (by kernel_rfl) (sS ea 0 0) va (by kernel_rfl) (by kernel_rfl) hr64) ?_
   have h70 : Row V63 28 36 (.slice Aa_ A.length ca_) A.length (A.flatMap Att.cl) := (by rw [Nat.zero_add, List.nil_append] at h65; exact h65)
   have hnc_a : Nc (.slice Aa_ A.length ca_) A.length := append_nc underlying32 hia0 hia2 (Sl.src (hsa.keepsN K59) (fun x hx => Att.cl_len (hoa x hx)) (by decide) (fun x _ => Att.cl_one)) hr64
   have h71 : HP V63 q (rdC p h va vb) 113 := (j63.block q (lt_of_block h57) (fun e => Row.ne h60 h57 (by decide) e)).trans h57
   have h72 : HP V63 eb #[] 37 := (j63.block eb (lt_of_block h53) (fun e => Row.ne h60 h53 (by decide) e)).trans h53
   have K73 := K59.nr j63 hw61
   refine ⟨h71, ?_⟩
   refine an_o 19 ?_
   have h74 : Row V63 37 35 (sS eb 0 0) 0 [] := row_empty2 h72 rfl (by decide)
   have hw75 : NewFrom w.heap.size (sS eb 0 0) := NewFrom.ptr (by omega) _ _
   obtain ⟨v76, V77, hr78, h79, hg80, hn81, ha82⟩ := run_append_any (P := prog) (w := V63) 40 (Oper.type (qo121_0 6 19)) 37 ib (.agg zPro.c) 35 56 underlying40 hib0 hib1 hib2 hib3 rfl (by decide) (sS eb 0 0) 0 [] h74 vb Q.length (Q.flatMap Pro.cl) (Sl.src (hsb.keepsN K73) (fun x hx => Pro.cl_len (hob x hx)) (by decide) (fun x _ => Pro.cl_one)) (by unfold maxLen; omega) (by omega)
   obtain ⟨Ab_, cb_, rfl⟩ := Row.shape h79 (Nat.zero_add _)
   have j77 : Keeps (fun j => (sS eb 0 0 : Value).ownBlock = some j) V63 V77 := Keeps.rowAdd hg80
   have hw83 : NewFrom w.heap.size (.slice Ab_ Q.length cb_) := hw75.next K73.size ha82
   refine nrq (.slice Ab_ Q.length cb_) (w' := V77) (exec_append (.tmp 17) (.tmp 21) 40 (by kernel_rfl) (sS eb 0 0) vb (by kernel_rfl) (by kernel_rfl) hr78) ?_
   have h84 : Row V77 37 35 (.slice Ab_ Q.length cb_) Q.length (Q.flatMap Pro.cl) := (by rw [Nat.zero_add, List.nil_append] at h79; exact h79)
   have hnc_b : Nc (.slice Ab_ Q.length cb_) Q.length := append_nc underlying40 hib0 hib2 (Sl.src (hsb.keepsN K73) (fun x hx => Pro.cl_len (hob x hx)) (by decide) (fun x _ => Pro.cl_one)) hr78
   have h85 : HP V77 q (rdC p h va vb) 113 := (j77.block q (lt_of_block h71) (fun e => Row.ne h74 h71 (by decide) e)).trans h71
   have h86 : Row V77 28 36 (.slice Aa_ A.length ca_) A.length (A.flatMap Att.cl) := h70.keeps j77 (Row.apart h70 h74 (by decide))
   have K87 := K73.nr j77 hw75
   refine ⟨h85, ?_⟩
   refine kA [20] <| an_o 21 <| nbx 113 ((rdC p h (.slice Aa_ A.length ca_) (.slice Ab_ Q.length cb_))) (.agg (rdC p h (.slice Aa_ A.length ca_) (.slice Ab_ Q.length cb_))) fun V88 c ec h89 j88 => ?_
   have := nqk1 ec h85 K87
   have h92 := j88.bk h85
   have h93 := h86.rn j88
   have h94 := h84.rn j88
   have K95 := K87.nn j88
   refine ⟨h92, ?_⟩
   refine ako 22 ?_
   refine ane <| then_n <| u_ <| so_ (pT c 0) ?_
   exact ⟨c, .slice Aa_ A.length ca_, .slice Ab_ Q.length cb_, rfl, ⟨h89, h93, h94, hnc_a, hnc_b⟩, by omega, hw69, hw83, K95⟩
 ·refine nbs 37 #[] 0 fun V96 eb eeb h97 j96 => ?_
  have := nqk1 eeb h2 K3
  have ⟨K101, h100⟩ := j96.K1 K3 h2
  refine ⟨h100, ?_⟩
  refine an_o 8 <| nbs 28 #[] 0 fun V102 ea eea h103 j102 => ?_
  have := nqk2 eea h100 h97 K101
  have ⟨K109, h107, h108⟩ := j102.K2 K101 h100 h97
  refine ⟨h107, ?_⟩
  refine an_o 13 ?_
  have h110 : Row V102 28 36 (sS ea 0 0) 0 [] := row_empty2 h103 rfl (by decide)
  have hw111 : NewFrom w.heap.size (sS ea 0 0) := NewFrom.ptr (by omega) _ _
  obtain ⟨v112, V113, hr114, h115, hg116, hn117, ha118⟩ := run_append_any (P := prog) (w := V102) 32 (Oper.type (qo121_0 6 13)) 28 ia (.agg zAtt.c) 36 64 underlying32 hia0 hia1 hia2 hia3 rfl (by decide) (sS ea 0 0) 0 [] h110 va A.length (A.flatMap Att.cl) (Sl.src (hsa.keepsN K109) (fun x hx => Att.cl_len (hoa x hx)) (by decide) (fun x _ => Att.cl_one)) (by unfold maxLen; omega) (by omega)
  obtain ⟨Aa_, ca_, rfl⟩ := Row.shape h115 (Nat.zero_add _)
  have j113 : Keeps (fun j => (sS ea 0 0 : Value).ownBlock = some j) V102 V113 := Keeps.rowAdd hg116
  have hw119 : NewFrom w.heap.size (.slice Aa_ A.length ca_) := hw111.next K109.size ha118
  refine nrq (.slice Aa_ A.length ca_) (w' := V113) (exec_append (.tmp 11) (.tmp 15) 32 (by kernel_rfl) (sS ea 0 0) va (by kernel_rfl) (by kernel_rfl) hr114) ?_
  have h120 : Row V113 28 36 (.slice Aa_ A.length ca_) A.length (A.flatMap Att.cl) := (by rw [Nat.zero_add, List.nil_append] at h115; exact h115)
  have hnc_a : Nc (.slice Aa_ A.length ca_) A.length := append_nc underlying32 hia0 hia2 (Sl.src (hsa.keepsN K109) (fun x hx => Att.cl_len (hoa x hx)) (by decide) (fun x _ => Att.cl_one)) hr114
  have h121 : HP V113 q (rdC p h va vb) 113 := (j113.block q (lt_of_block h107) (fun e => Row.ne h110 h107 (by decide) e)).trans h107
  have h122 : HP V113 eb #[] 37 := (j113.block eb (lt_of_block h108) (fun e => Row.ne h110 h108 (by decide) e)).trans h108
  have K123 := K109.nr j113 hw111
  refine ⟨h121, ?_⟩
  refine an_o 19 ?_
  have h124 : Row V113 37 35 (sS eb 0 0) 0 [] := row_empty2 h122 rfl (by decide)
  have hw125 : NewFrom w.heap.size (sS eb 0 0) := NewFrom.ptr (by omega) _ _
  obtain ⟨v126, V127, hr128, h129, hg130, hn131, ha132⟩ := run_append_any (P := prog) (w := V113) 40 (Oper.type (qo121_0 6 19)) 37 ib (.agg zPro.c) 35 56 underlying40 hib0 hib1 hib2 hib3 rfl (by decide) (sS eb 0 0) 0 [] h124 vb Q.length (Q.flatMap Pro.cl) (Sl.src (hsb.keepsN K123) (fun x hx => Pro.cl_len (hob x hx)) (by decide) (fun x _ => Pro.cl_one)) (by unfold maxLen; omega) (by omega)
  obtain ⟨Ab_, cb_, rfl⟩ := Row.shape h129 (Nat.zero_add _)
  have j127 : Keeps (fun j => (sS eb 0 0 : Value).ownBlock = some j) V113 V127 := Keeps.rowAdd hg130
  have hw133 : NewFrom w.heap.size (.slice Ab_ Q.length cb_) := hw125.next K123.size ha132
  refine nrq (.slice Ab_ Q.length cb_) (w' := V127) (exec_append (.tmp 17) (.tmp 21) 40 (by kernel_rfl) (sS eb 0 0) vb (by kernel_rfl) (by kernel_rfl) hr128) ?_
  have h134 : Row V127 37 35 (.slice Ab_ Q.length cb_) Q.length (Q.flatMap Pro.cl) := (by rw [Nat.zero_add, List.nil_append] at h129; exact h129)
  have hnc_b : Nc (.slice Ab_ Q.length cb_) Q.length := append_nc underlying40 hib0 hib2 (Sl.src (hsb.keepsN K123) (fun x hx => Pro.cl_len (hob x hx)) (by decide) (fun x _ => Pro.cl_one)) hr128
  have h135 : HP V127 q (rdC p h va vb) 113 := (j127.block q (lt_of_block h121) (fun e => Row.ne h124 h121 (by decide) e)).trans h121
  have h136 : Row V127 28 36 (.slice Aa_ A.length ca_) A.length (A.flatMap Att.cl) := h120.keeps j127 (Row.apart h120 h124 (by decide))
  have K137 := K123.nr j127 hw125
  refine ⟨h135, ?_⟩
  refine kA [20] <| an_o 21 <| nbx 113 ((rdC p h (.slice Aa_ A.length ca_) (.slice Ab_ Q.length cb_))) (.agg (rdC p h (.slice Aa_ A.length ca_) (.slice Ab_ Q.length cb_))) fun V138 c ec h139 j138 => ?_
  have := nqk1 ec h135 K137
  have h142 := j138.bk h135
  have h143 := h136.rn j138
  have h144 := h134.rn j138
  have K145 := K137.nn j138
  refine ⟨h142, ?_⟩
  refine ako 22 ?_
  refine ane <| then_n <| u_ <| so_ (pT c 0) ?_
  exact ⟨c, .slice Aa_ A.length ca_, .slice Ab_ Q.length cb_, rfl, ⟨h139, h143, h144, hnc_a, hnc_b⟩, by omega, hw119, hw133, K145⟩
end
end Go.Proofs.YthmclmbeflbhhaaGreat
namespace Go.Kec
section
def frc {α : Type} (x : Nat) (k : Nat → α) : α := Nat.rec (k 0) (fun n _ => k (Nat.succ n)) x
theorem frc_eq {α : Type} (x : Nat) (k : Nat → α) : frc x k = k x := by cases x <;> rfl
def frcL {α : Type} : List Nat → (List Nat → α) → α
  | [], k => k []
  | x :: r, k => frc x fun y => frcL r fun s => k (y :: s)
theorem frcL_eq {α : Type} (l : List Nat) (k : List Nat → α) : frcL l k = k l := by
  induction l generalizing k with
  | nil => rfl
  | cons x r ih => rw [frcL, frc_eq, ih]
def roundF {α : Type} (s : List Nat) (k : Nat) (c : List Nat → α) : α := frcL (columns s) fun a => frcL (moves a) fun b => frcL (mixes b) fun d => frcL (iota k d) c
theorem roundF_eq {α : Type} (s : List Nat) (k : Nat) (c : List Nat → α) : roundF s k c = c (round s k) := by simp only [roundF, frcL_eq]; rfl
def permF : List Nat → List Nat → List Nat
  | [], s => s
  | k :: r, s => roundF s k (permF r)
theorem permF_fold (l s : List Nat) : permF l s = l.foldl round s := by
  induction l generalizing s with
  | nil => rfl
  | cons k r ih => rw [permF, roundF_eq, ih]; rfl
theorem permF_eq (s : List Nat) : permF K s = perm s := permF_fold K s
theorem dv_0_p : perm [50397441, 0, 0, 0, 25769803776, 0, 0, 0, 0, 0, 0, 0, 0, 0, 0, 0, 9223372036854775808, 0, 0, 0, 0, 0, 0, 0, 0] = [10278817104298907784, 14134970630840752888, 17363985685164303104, 18389485117995911768, 16872467568207025606, 9880550185199613785, 8702172063674108429, 13316258402160285168, 10236985223849689404, 5860379226928172647, 15829787594177647871, 6462967174338455390, 18021331280727149677, 15916898099768558152, 3679637874036185435, 12387242279299914377, 4235371239492183536, 5733416220640983090, 9353649997158515924, 3421662946199531572, 13558299609658487161, 9262926056336788377, 191223070837001956, 5369682799525405547, 5690039844963607325] := by
  rw [← permF_eq]; decide +kernel
theorem dv_0 : sum [1, 1, 1, 3, 0, 0, 0, 0, 0, 0, 0, 0, 0, 0, 0, 0, 0, 0, 0, 0, 0, 0, 0, 0, 0, 0, 0, 0, 0, 0, 0, 0, 0, 0, 0, 0] = [136, 24, 242, 100, 178, 177, 165, 142, 248, 154, 215, 1, 230, 128, 41, 196, 0, 163, 47, 121, 251, 68, 249, 240, 88, 138, 122, 124, 72, 147, 52, 255] := by
  unfold sum takes
  rw [show mixin (stateOf [1, 1, 1, 3, 0, 0, 0, 0, 0, 0, 0, 0, 0, 0, 0, 0, 0, 0, 0, 0, 0, 0, 0, 0, 0, 0, 0, 0, 0, 0, 0, 0, 0, 0, 0, 0]) (lastBlock (restOf [1, 1, 1, 3, 0, 0, 0, 0, 0, 0, 0, 0, 0, 0, 0, 0, 0, 0, 0, 0, 0, 0, 0, 0, 0, 0, 0, 0, 0, 0, 0, 0, 0, 0, 0, 0])) = [50397441, 0, 0, 0, 25769803776, 0, 0, 0, 0, 0, 0, 0, 0, 0, 0, 0, 9223372036854775808, 0, 0, 0, 0, 0, 0, 0, 0] by decide +kernel, dv_0_p]
  decide +kernel
theorem dv_9_p : perm [38705103105, 0, 0, 0, 25769803776, 0, 0, 0, 0, 0, 0, 0, 0, 0, 0, 0, 9223372036854775808, 0, 0, 0, 0, 0, 0, 0, 0] = [2154681888263928074, 3994399662339074967, 15680322908900252505, 14959504540305114199, 3939025773601331822, 4180352709838545711, 17832467667595138326, 15179124566345544200, 3780859113330340130, 1538577736398751074, 18422416699085792656, 8008731313364947278, 7180360859733228359, 6821971019552084536, 13409211901343582193, 3044510065114281961, 14906762268628027335, 17041025736636346587, 11696401803647358705, 1183525966290647333, 10462953683335550294, 2352071882287202736, 722607103555360748, 440292756518081747, 2092473023775917026] := by
  rw [← permF_eq]; decide +kernel
theorem dv_9 : sum [1, 1, 1, 3, 9, 0, 0, 0, 0, 0, 0, 0, 0, 0, 0, 0, 0, 0, 0, 0, 0, 0, 0, 0, 0, 0, 0, 0, 0, 0, 0, 0, 0, 0, 0, 0] = [10, 121, 240, 233, 194, 247, 230, 29, 151, 43, 169, 100, 84, 245, 110, 55, 89, 91, 107, 148, 155, 178, 155, 217, 87, 196, 186, 220, 30, 214, 154, 207] := by
  unfold sum takes
  rw [show mixin (stateOf [1, 1, 1, 3, 9, 0, 0, 0, 0, 0, 0, 0, 0, 0, 0, 0, 0, 0, 0, 0, 0, 0, 0, 0, 0, 0, 0, 0, 0, 0, 0, 0, 0, 0, 0, 0]) (lastBlock (restOf [1, 1, 1, 3, 9, 0, 0, 0, 0, 0, 0, 0, 0, 0, 0, 0, 0, 0, 0, 0, 0, 0, 0, 0, 0, 0, 0, 0, 0, 0, 0, 0, 0, 0, 0, 0])) = [38705103105, 0, 0, 0, 25769803776, 0, 0, 0, 0, 0, 0, 0, 0, 0, 0, 0, 9223372036854775808, 0, 0, 0, 0, 0, 0, 0, 0] by decide +kernel, dv_9_p]
  decide +kernel
theorem db_0_p : perm [721154, 0, 0, 0, 100663296, 0, 0, 0, 0, 0, 0, 0, 0, 0, 0, 0, 9223372036854775808, 0, 0, 0, 0, 0, 0, 0, 0] = [10993524779600974296, 1034957209709741975, 14069353694323440965, 12705192768685108665, 6101324150725729903, 11505569384058797601, 14457160008009147190, 2602098683795194234, 18141963390756384385, 15769384004373938561, 11751224561456478225, 17859685102316134118, 3149124103126257091, 2927153721099131781, 3454985326362135072, 9201446519026412821, 10558031673068409923, 2709494654079622972, 4095638742271209938, 4675049861332807976, 12354861536990356725, 15741266679408100489, 15854875860151414869, 9286648568191496318, 1179131903297595904] := by
  rw [← permF_eq]; decide +kernel
theorem db_0 : sum [2, 1, 11, 0, 0, 0, 0, 0, 0, 0, 0, 0, 0, 0, 0, 0, 0, 0, 0, 0, 0, 0, 0, 0, 0, 0, 0, 0, 0, 0, 0, 0, 0, 0, 0] = [216, 17, 146, 117, 138, 216, 144, 152, 151, 135, 122, 74, 25, 232, 92, 14, 69, 125, 122, 113, 164, 98, 64, 195, 185, 109, 86, 20, 130, 233, 81, 176] := by
  unfold sum takes
  rw [show mixin (stateOf [2, 1, 11, 0, 0, 0, 0, 0, 0, 0, 0, 0, 0, 0, 0, 0, 0, 0, 0, 0, 0, 0, 0, 0, 0, 0, 0, 0, 0, 0, 0, 0, 0, 0, 0]) (lastBlock (restOf [2, 1, 11, 0, 0, 0, 0, 0, 0, 0, 0, 0, 0, 0, 0, 0, 0, 0, 0, 0, 0, 0, 0, 0, 0, 0, 0, 0, 0, 0, 0, 0, 0, 0, 0])) = [721154, 0, 0, 0, 100663296, 0, 0, 0, 0, 0, 0, 0, 0, 0, 0, 0, 9223372036854775808, 0, 0, 0, 0, 0, 0, 0, 0] by decide +kernel, db_0_p]
  decide +kernel
theorem db_9_p : perm [151716098, 0, 0, 0, 100663296, 0, 0, 0, 0, 0, 0, 0, 0, 0, 0, 0, 9223372036854775808, 0, 0, 0, 0, 0, 0, 0, 0] = [12596443811411472840, 13220596910902319982, 7949676814118256441, 1381494476181026509, 14513143676414693558, 18123851096220536837, 3773439359263886008, 9320443421330652334, 4540152473003997482, 16554005909735033663, 17256579151232813542, 15753866159111689673, 201542974503508075, 5862795697931704650, 15088594515480474305, 12596656288682541634, 10471826997196004191, 17916393483742475613, 12867907750093369590, 9791003995685768363, 5500386634326529468, 7968426848996069030, 4934422938586578711, 10756744817827422090, 7547477582302672854] := by
  rw [← permF_eq]; decide +kernel
theorem db_9 : sum [2, 1, 11, 9, 0, 0, 0, 0, 0, 0, 0, 0, 0, 0, 0, 0, 0, 0, 0, 0, 0, 0, 0, 0, 0, 0, 0, 0, 0, 0, 0, 0, 0, 0, 0] = [200, 49, 89, 92, 232, 142, 207, 174, 110, 155, 245, 64, 216, 254, 120, 183, 57, 127, 173, 120, 241, 236, 82, 110, 205, 54, 239, 23, 232, 13, 44, 19] := by
  unfold sum takes
  rw [show mixin (stateOf [2, 1, 11, 9, 0, 0, 0, 0, 0, 0, 0, 0, 0, 0, 0, 0, 0, 0, 0, 0, 0, 0, 0, 0, 0, 0, 0, 0, 0, 0, 0, 0, 0, 0, 0]) (lastBlock (restOf [2, 1, 11, 9, 0, 0, 0, 0, 0, 0, 0, 0, 0, 0, 0, 0, 0, 0, 0, 0, 0, 0, 0, 0, 0, 0, 0, 0, 0, 0, 0, 0, 0, 0, 0])) = [151716098, 0, 0, 0, 100663296, 0, 0, 0, 0, 0, 0, 0, 0, 0, 0, 0, 9223372036854775808, 0, 0, 0, 0, 0, 0, 0, 0] by decide +kernel, db_9_p]
  decide +kernel
end
end Go.Kec
namespace Go.Proofs.YthmclmbeflbhhaaGreat
section
open Go Go.RowKit Go.Own Go.Shelf
def dRest (p : Par) (l : List Att) (a : Att) : Vd :=
  match l.find? (fun b => decide (b.s > a.s)) with
  | some w => if w.t < a.t then ⟨3, w, zPro, (p.first (max a.t w.t)).1⟩ else dJudge2 p l a
  | none => dJudge2 p l a
section
variable {p : Par} {l : List Att} {a w : Att} {m : List Pro} {q u : Pro}
theorem dJudge_no (hf : l.find? (fun b => decide (b.t = a.t)) = none) : dJudge p l a = dRest p l a := by unfold dJudge dRest; rw [hf]; rfl
theorem dJudge_one (hf : l.find? (fun b => decide (b.t = a.t)) = some w) (hd : (a.dg == w.dg) = true) : dJudge p l a = ⟨1, w, zPro, 0⟩ := by unfold dJudge; rw [hf]; exact if_pos hd
theorem dJudge_two (hf : l.find? (fun b => decide (b.t = a.t)) = some w) (hd : (a.dg == w.dg) = false) : dJudge p l a = ⟨2, w, zPro, (p.first (max a.t w.t)).1⟩ := by unfold dJudge; rw [hf]; exact if_neg (by rw [hd]; simp)
theorem dPro_no (hf : m.find? (fun b => decide (b.h = q.h)) = none) : dPro m q = Vd.z := by unfold dPro; rw [hf]
theorem dPro_two (hf : m.find? (fun b => decide (b.h = q.h)) = some u) (hd : doubP q u = true) : dPro m q = ⟨2, zAtt, u, q.h⟩ := by unfold dPro; rw [hf]; exact if_pos hd
end
theorem pro_yes {p : Par} {h : Int} {Q : List Pro} {q : Pro} (hE : proErr p h q = 0) {y : Vd} (hy : dPro (blocksOf p h Q q.v) q = y) : proVd p h Q q = y ∧ proNew p h Q q = if y.k = 0 then Q ++ [q] else Q := by
  unfold proNew proVd
  rw [hE, if_pos rfl, hy]; simp
theorem v1_ok {s t : Int} (b : UInt8) (hs : i64b s) (ht : i64b t) : (v1 s t b).Ok := ⟨(by decide : i64b 1), hs, ht, byteH_len b, (by decide : 0 < 2 ^ 64)⟩
theorem b1_ok {h : Int} (b : UInt8) (hh : i64b h) : (b1 h b).Ok := ⟨(by decide : i64b 1), hh, byteH_len b, (by decide : 0 < 2 ^ 64)⟩
theorem v1_vd {k f s t : Int} {b : UInt8} : VdOk ⟨k, v1 s t b, zPro, f⟩ := ⟨byteH_len b, zPro_r⟩
theorem b1_vd {k f h : Int} {b : UInt8} : VdOk ⟨k, zAtt, b1 h b, f⟩ := ⟨zAtt_r, byteH_len b⟩
theorem z_vd {k f : Int} : VdOk ⟨k, zAtt, zPro, f⟩ := ⟨zAtt_r, zPro_r⟩
theorem p23_check : (ofP 2 3).check = (0, 0) := by kernel_rfl
theorem ofP_ok {e W : Int} (he : i64ok e) (hW : i64ok W) : (ofP e W).Ok := by
  have k : ∀ x : Int, 0 ≤ x → x ≤ 1000000000 → i64ok x := fun x a b => by unfold i64ok; omega
  have u : ∀ x : Int, 0 ≤ x → x ≤ 1000000000 → u64ok x := fun x a b => by unfold u64ok; omega
  exact ⟨show i64ok 100 from k _ (by decide) (by decide), show i64ok 100 from k _ (by decide) (by decide), he, hW, show i64ok 7 from k _ (by decide) (by decide), show i64ok 8 from k _ (by decide) (by decide), show i64ok 20 from k _ (by decide) (by decide), show u64ok 50000000 from u _ (by decide) (by decide), show u64ok 3 from u _ (by decide) (by decide), show i64ok 50 from k _ (by decide) (by decide), show u64ok 100000000 from u _ (by decide) (by decide)⟩
theorem p23_ok : (ofP 2 3).Ok := ofP_ok (by unfold i64ok; omega) (by unfold i64ok; omega)
theorem dv0 : (v1 1 3 0).dig = Kec.sum [1, 1, 1, 3, 0, 0, 0, 0, 0, 0, 0, 0, 0, 0, 0, 0, 0, 0, 0, 0, 0, 0, 0, 0, 0, 0, 0, 0, 0, 0, 0, 0, 0, 0, 0, 0] := congrArg Kec.sum (show (v1 1 3 0).bare = _ by kernel_rfl)
theorem dv9 : (v1 1 3 9).dig = Kec.sum [1, 1, 1, 3, 9, 0, 0, 0, 0, 0, 0, 0, 0, 0, 0, 0, 0, 0, 0, 0, 0, 0, 0, 0, 0, 0, 0, 0, 0, 0, 0, 0, 0, 0, 0, 0] := congrArg Kec.sum (show (v1 1 3 9).bare = _ by kernel_rfl)
theorem db0 : (b1 11 0).dig = Kec.sum [2, 1, 11, 0, 0, 0, 0, 0, 0, 0, 0, 0, 0, 0, 0, 0, 0, 0, 0, 0, 0, 0, 0, 0, 0, 0, 0, 0, 0, 0, 0, 0, 0, 0, 0] := congrArg Kec.sum (show (b1 11 0).bare = _ by kernel_rfl)
theorem db9 : (b1 11 9).dig = Kec.sum [2, 1, 11, 9, 0, 0, 0, 0, 0, 0, 0, 0, 0, 0, 0, 0, 0, 0, 0, 0, 0, 0, 0, 0, 0, 0, 0, 0, 0, 0, 0, 0, 0, 0, 0] := congrArg Kec.sum (show (b1 11 9).bare = _ by kernel_rfl)
theorem dgs : ((v1 1 3 9).dg == (v1 1 3 0).dg) = false := by
  rw [show (v1 1 3 9).dg = (v1 1 3 9).dig from if_pos (by decide), show (v1 1 3 0).dg = (v1 1 3 0).dig from if_pos (by decide), dv0, dv9, Kec.dv_0, Kec.dv_9]; decide
theorem dgb : doubP (b1 11 9) (b1 11 0) = true := decide_eq_true ⟨by decide, by decide, rfl, rfl, by rw [db0, db9, Kec.db_0, Kec.db_9]; decide⟩
theorem dgs_same (a : Att) : (a.dg == a.dg) = true := by simp
theorem kE0 : attErr (ofP 2 3) 7 (v1 1 3 0) = 0 := by kernel_rfl
theorem kJ0 : dJudge (ofP 2 3) (votesOf (ofP 2 3) 7 [] (v1 1 3 0).v) (v1 1 3 0) = ⟨0, zAtt, zPro, 0⟩ := ((dJudge_no (by kernel_rfl)).trans (by kernel_rfl))
theorem kY0 : attVd (ofP 2 3) 7 [] (v1 1 3 0) = ⟨0, zAtt, zPro, 0⟩ := (att_yes kE0 kJ0).1
theorem kN0 : attNew (ofP 2 3) 7 [] (v1 1 3 0) = [v1 1 3 0] := (att_yes kE0 kJ0).2.trans rfl
theorem kE1 : attErr (ofP 2 3) 7 (v1 1 3 0) = 0 := by kernel_rfl
theorem kJ1 : dJudge (ofP 2 3) (votesOf (ofP 2 3) 7 [v1 1 3 0] (v1 1 3 0).v) (v1 1 3 0) = ⟨1, v1 1 3 0, zPro, 0⟩ := (dJudge_one (by kernel_rfl) (dgs_same _))
theorem kY1 : attVd (ofP 2 3) 7 [v1 1 3 0] (v1 1 3 0) = ⟨1, v1 1 3 0, zPro, 0⟩ := (att_yes kE1 kJ1).1
theorem kN1 : attNew (ofP 2 3) 7 [v1 1 3 0] (v1 1 3 0) = [v1 1 3 0] := (att_yes kE1 kJ1).2.trans rfl
theorem kE2 : attErr (ofP 2 3) 7 (v1 1 3 9) = 0 := by kernel_rfl
theorem kJ2 : dJudge (ofP 2 3) (votesOf (ofP 2 3) 7 [v1 1 3 0] (v1 1 3 9).v) (v1 1 3 9) = ⟨2, v1 1 3 0, zPro, 7⟩ := ((dJudge_two (by kernel_rfl) dgs).trans (by kernel_rfl))
theorem kY2 : attVd (ofP 2 3) 7 [v1 1 3 0] (v1 1 3 9) = ⟨2, v1 1 3 0, zPro, 7⟩ := (att_yes kE2 kJ2).1
theorem kN2 : attNew (ofP 2 3) 7 [v1 1 3 0] (v1 1 3 9) = [v1 1 3 0] := (att_yes kE2 kJ2).2.trans rfl
theorem kE3 : attErr (ofP 2 3) 7 (v1 2 2 0) = 0 := by kernel_rfl
theorem kJ3 : dJudge (ofP 2 3) (votesOf (ofP 2 3) 7 [v1 1 3 0] (v1 2 2 0).v) (v1 2 2 0) = ⟨4, v1 1 3 0, zPro, 7⟩ := ((dJudge_no (by kernel_rfl)).trans (by kernel_rfl))
theorem kY3 : attVd (ofP 2 3) 7 [v1 1 3 0] (v1 2 2 0) = ⟨4, v1 1 3 0, zPro, 7⟩ := (att_yes kE3 kJ3).1
theorem kN3 : attNew (ofP 2 3) 7 [v1 1 3 0] (v1 2 2 0) = [v1 1 3 0] := (att_yes kE3 kJ3).2.trans rfl
theorem kE4 : attErr (ofP 2 3) 7 (v1 1 1 0) = 0 := by kernel_rfl
theorem kJ4 : dJudge (ofP 2 3) (votesOf (ofP 2 3) 7 [v1 1 3 0] (v1 1 1 0).v) (v1 1 1 0) = ⟨0, zAtt, zPro, 0⟩ := ((dJudge_no (by kernel_rfl)).trans (by kernel_rfl))
theorem kY4 : attVd (ofP 2 3) 7 [v1 1 3 0] (v1 1 1 0) = ⟨0, zAtt, zPro, 0⟩ := (att_yes kE4 kJ4).1
theorem kN4 : attNew (ofP 2 3) 7 [v1 1 3 0] (v1 1 1 0) = [v1 1 3 0, v1 1 1 0] := (att_yes kE4 kJ4).2.trans rfl
theorem kE5 : attErr (ofP 2 3) 7 (v1 1 2 0) = 0 := by kernel_rfl
theorem kJ5 : dJudge (ofP 2 3) (votesOf (ofP 2 3) 7 [v1 1 3 0, v1 1 1 0] (v1 1 2 0).v) (v1 1 2 0) = ⟨0, zAtt, zPro, 0⟩ := ((dJudge_no (by kernel_rfl)).trans (by kernel_rfl))
theorem kY5 : attVd (ofP 2 3) 7 [v1 1 3 0, v1 1 1 0] (v1 1 2 0) = ⟨0, zAtt, zPro, 0⟩ := (att_yes kE5 kJ5).1
theorem kN5 : attNew (ofP 2 3) 7 [v1 1 3 0, v1 1 1 0] (v1 1 2 0) = [v1 1 3 0, v1 1 1 0, v1 1 2 0] := (att_yes kE5 kJ5).2.trans rfl
theorem kE6 : attErr (ofP 2 3) 11 (v1 3 5 0) = 0 := by kernel_rfl
theorem kJ6 : dJudge (ofP 2 3) (votesOf (ofP 2 3) 11 [v1 1 3 0, v1 1 1 0, v1 1 2 0] (v1 3 5 0).v) (v1 3 5 0) = ⟨0, zAtt, zPro, 0⟩ := ((dJudge_no (by kernel_rfl)).trans (by kernel_rfl))
theorem kY6 : attVd (ofP 2 3) 11 [v1 1 3 0, v1 1 1 0, v1 1 2 0] (v1 3 5 0) = ⟨0, zAtt, zPro, 0⟩ := (att_yes kE6 kJ6).1
theorem kN6 : attNew (ofP 2 3) 11 [v1 1 3 0, v1 1 1 0, v1 1 2 0] (v1 3 5 0) = [v1 1 3 0, v1 1 1 0, v1 1 2 0, v1 3 5 0] := (att_yes kE6 kJ6).2.trans rfl
theorem kE7 : attErr (ofP 2 3) 11 (v1 4 4 0) = 0 := by kernel_rfl
theorem kJ7 : dJudge (ofP 2 3) (votesOf (ofP 2 3) 11 [v1 1 3 0, v1 1 1 0, v1 1 2 0, v1 3 5 0] (v1 4 4 0).v) (v1 4 4 0) = ⟨4, v1 3 5 0, zPro, 11⟩ := ((dJudge_no (by kernel_rfl)).trans (by kernel_rfl))
theorem kY7 : attVd (ofP 2 3) 11 [v1 1 3 0, v1 1 1 0, v1 1 2 0, v1 3 5 0] (v1 4 4 0) = ⟨4, v1 3 5 0, zPro, 11⟩ := (att_yes kE7 kJ7).1
theorem kN7 : attNew (ofP 2 3) 11 [v1 1 3 0, v1 1 1 0, v1 1 2 0, v1 3 5 0] (v1 4 4 0) = [v1 1 3 0, v1 1 1 0, v1 1 2 0, v1 3 5 0] := (att_yes kE7 kJ7).2.trans rfl
theorem kE8 : attErr (ofP 2 3) 11 (v1 3 4 0) = 0 := by kernel_rfl
theorem kJ8 : dJudge (ofP 2 3) (votesOf (ofP 2 3) 11 [v1 1 3 0, v1 1 1 0, v1 1 2 0, v1 3 5 0] (v1 3 4 0).v) (v1 3 4 0) = ⟨0, zAtt, zPro, 0⟩ := ((dJudge_no (by kernel_rfl)).trans (by kernel_rfl))
theorem kY8 : attVd (ofP 2 3) 11 [v1 1 3 0, v1 1 1 0, v1 1 2 0, v1 3 5 0] (v1 3 4 0) = ⟨0, zAtt, zPro, 0⟩ := (att_yes kE8 kJ8).1
theorem kN8 : attNew (ofP 2 3) 11 [v1 1 3 0, v1 1 1 0, v1 1 2 0, v1 3 5 0] (v1 3 4 0) = [v1 1 3 0, v1 1 1 0, v1 1 2 0, v1 3 5 0, v1 3 4 0] := (att_yes kE8 kJ8).2.trans rfl
theorem pE0 : proErr (ofP 2 3) 11 (b1 11 0) = 0 := by kernel_rfl
theorem pJ0 : dPro (blocksOf (ofP 2 3) 11 [] (b1 11 0).v) (b1 11 0) = ⟨0, zAtt, zPro, 0⟩ := (dPro_no (by kernel_rfl))
theorem pY0 : proVd (ofP 2 3) 11 [] (b1 11 0) = ⟨0, zAtt, zPro, 0⟩ := (pro_yes pE0 pJ0).1
theorem pN0 : proNew (ofP 2 3) 11 [] (b1 11 0) = [b1 11 0] := (pro_yes pE0 pJ0).2.trans rfl
theorem pE1 : proErr (ofP 2 3) 11 (b1 11 9) = 0 := by kernel_rfl
theorem pJ1 : dPro (blocksOf (ofP 2 3) 11 [b1 11 0] (b1 11 9).v) (b1 11 9) = ⟨2, zAtt, b1 11 0, 11⟩ := (dPro_two (by kernel_rfl) dgb)
theorem pY1 : proVd (ofP 2 3) 11 [b1 11 0] (b1 11 9) = ⟨2, zAtt, b1 11 0, 11⟩ := (pro_yes pE1 pJ1).1
theorem pN1 : proNew (ofP 2 3) 11 [b1 11 0] (b1 11 9) = [b1 11 0] := (pro_yes pE1 pJ1).2.trans rfl
theorem lV1 : votesOf (ofP 2 3) 7 [v1 1 3 0, v1 1 1 0, v1 1 2 0] 1 = [v1 1 1 0, v1 1 2 0, v1 1 3 0] := by kernel_rfl
theorem lV2 : votesOf (ofP 2 3) 11 [v1 1 3 0, v1 1 1 0, v1 1 2 0, v1 3 5 0, v1 3 4 0] 1 = [v1 1 3 0, v1 3 4 0, v1 3 5 0] := by kernel_rfl
theorem v1_r {s t : Int} {b : UInt8} : (v1 s t b).r.length = 32 := byteH_len b
theorem b1_r {h : Int} {b : UInt8} : (b1 h b).r.length = 32 := byteH_len b
instance (x : Int) : Decidable (i64b x) := inferInstanceAs (Decidable (_ ∧ _))
theorem Sl.blockH {α : Type} {w : World} {g : Nat} {T : TypeId} {xs : List α} {c : α → List Value} {s n : Nat} (h : HP w g (xs.flatMap c).toArray T) (hc : ∀ x ∈ xs, (c x).length = s) (hn : xs.length = n) (hm : n ≤ 1000) : Sl w s c (sS g n n) xs := by
 subst hn
 exact ⟨⟨_, _, rfl, Nat.le_refl _, by unfold maxLen; omega, fun h => by cases h⟩, fun k x hx => ⟨g, 0, _, rfl, lt_of_block h, fun j u hj => by
  rw [Nat.zero_add]
  exact rc h (by rw [List.getElem?_toArray]; exact flat_get hc k x hx j u hj)⟩⟩
theorem det_new (p : Par) (hp : p.Ok) (y : Int) (hc : p.check = (0, y)) (w : World) : Calls prog 19 #[.agg p.cells] w fun e w' => ∃ d, e = .returned (.tuple #[pT d 0, iI 0]) ∧ Det1 w.heap.size w' d p 1 [] [] ∧ w.heap.size ≤ d ∧ Keeps Nob w w' := by
 refine (dNew_fine p w hp y hc).mono ?_
 rintro e w' ⟨d, rfl, hd, hw, k⟩
 refine ⟨d, rfl, ⟨⟨fun _ => none, fun _ => 0, ⟨hd, fun v x _ h => (by cases h), fun v _ _ => ⟨fun a h => (by cases h), fun a h => (by cases h)⟩, rfl, fun v x _ h => (by cases h), fun v x _ h => (by cases h)⟩, fun j hj => ?_, fun j hj => ?_⟩, ⟨⟨hp, by rw [hc], by decide, by decide⟩, fun a h => (by cases h), fun a h => (by cases h), List.Pairwise.nil, List.Pairwise.nil⟩⟩, hw, k⟩
 ·rcases hj with rfl | ⟨v, x, _, h, _⟩
  ·exact hw
  ·cases h
 ·obtain ⟨v, x, _, h, _⟩ := hj
  cases h
def qc125_1 (n : Nat) : Code := partOf f37 n
theorem ltfirst_ok (w : World) :
  Calls prog 37 #[] w (fun e w' => ∃ d, e = .returned (pT d 0) ∧ Det1 w.heap.size w' d (ofP 2 3) 7 [v1 1 3 0] [] ∧ Keeps Nob w w') := by
 have t0 := Turns.refl w.heap.size w
 have K0 := Keeps.refl ((fun j => w.heap.size ≤ j)) w
 refine sf_ (qc125_1 1) func37 <| qr_ [0] <| kk 1 <| eqr_ nl7_ <| pcs (ltof_ok 2 3 _) fun V1 j1 => ?_
 have h2 := Turns.nn t0 j1
 have ⟨K3, z4⟩ := j1.z0 K0
 refine pct ((det_new (ofP 2 3) p23_ok 0 p23_check _).mono ?_)
 rintro e V5 ⟨d, rfl, hDV5, hdwV5, j5⟩
 have hLV5 := hDV5.lower K3.size
 refine ⟨_, rfl, ?_⟩
 have h6 := Turns.nn h2 j5
 have ⟨K7, z8⟩ := j5.z0 K3
 refine kk 5 <| eqr_ [0, 1, 2] <| pcs (ltvote1_ok 1 3 0 0 (by decide) _) fun V9 j9 => ?_
 have h10 := Turns.nn h6 j9
 have kb11 := (Keeps.refl Nob V5).nn j9
 have ⟨K12, z13⟩ := j9.z0 K7
 refine pag 28 (#[iI 0, iI 0, iI 0, .int .u8 0, .int .u8 0, .int .u8 0, .int .u8 0, .int .u8 0, .int .u8 0, .int .u8 0, .int .u8 0, .int .u8 0, .int .u8 0, .int .u8 0, .int .u8 0, .int .u8 0, .int .u8 0, .int .u8 0, .int .u8 0, .int .u8 0, .int .u8 0, .int .u8 0, .int .u8 0, .int .u8 0, .int .u8 0, .int .u8 0, .int .u8 0, .int .u8 0, .int .u8 0, .int .u8 0, .int .u8 0, .int .u8 0, .int .u8 0, .int .u8 0, .int .u8 0, .int .u64 0]) fun V14 go ego h15 j14 => ?_
 have n16 := nk ego K12
 have h17 := Turns.nn h10 j14
 have kb18 := kb11.nn j14
 have ⟨K19, z20⟩ := j14.z0 K12
 refine pst 28 go ((Att.c (v1 1 3 0))) h15 (by rw [Att.c_size _ v1_r]; kernel_rfl) (by rw [Att.c_size _ v1_r]; rfl) (Att.c_one _) fun V21 h22 j21 => ?_
 have h23 : Turns w.heap.size w V21 := Turns.no h17 j21 (by omega)
 have kb24 : Keeps Nob V5 V21 := kb18.nO j21
 have ⟨K25, z26⟩ := j21.zo0 K19
 refine eq_ <| q_ <| anp 39 (fun W => (HP W go (Att.c (v1 1 3 0)) 28)) fun V27 j27 => ?_
 have h28 := Turns.nn h23 j27
 have kb29 := kb24.nn j27
 have ⟨K31, z32, h30⟩ := j27.z1 K25 h22
 refine kA [0, 1, 2, 3, 4, 5, 6, 7] <| an_o 8 ?_
 refine nct ((Det1.is_move (x := 7) (hLV5.keepsN kb29) K31.size (e0 := 0) (h' := 7) rfl rfl).mono ?_)
 rintro e V33 ⟨rfl, hDV33, MV33, hMV33, j33⟩
 refine ⟨_, rfl, ?_⟩
 have h34 : Turns w.heap.size w V33 := Turns.trans h28 ⟨MV33, hMV33, j33⟩
 have h35 : HP V33 go (Att.c (v1 1 3 0)) 28 := (j33.block go (lt_of_block h30) (fun e => hMV33.no h30 e)).trans h30
 have K36 : Keeps ((fun j => w.heap.size ≤ j)) w V33 := K31.then j33 (fun i hi hm => Nat.le_of_not_lt (fun h => hMV33.sub i h hm))
 have z37 := j33.size
 refine ⟨h35, ?_⟩
 refine kA [9, 10, 11, 12] <| aV 13 _ (fun W hS => ldz 28 go hS (Att.c_size _ v1_r)) <| kA [14] <| an_o 15 ?_
 refine ncq 28 #[pT d 0, .agg (Att.c (v1 1 3 0)), iI 0, .agg (Att.c zAtt), iI 0] func28 ((ltattests_ok _ d _ _ _ _ _ K36.size hDV33 (v1 1 3 0) (v1_ok _ (by decide) (by decide)) v1_r 0 0 zAtt zAtt_r kE0 _ z_vd kY0 rfl _ kN0).mono ?_)
 rintro e V38 ⟨rfl, hDV38, MV38, hMV38, j38⟩
 refine ⟨_, rfl, ?_⟩
 have h39 : Turns w.heap.size w V38 := Turns.trans h34 ⟨MV38, hMV38, j38⟩
 have h40 : HP V38 go (Att.c (v1 1 3 0)) 28 := (j38.block go (lt_of_block h35) (fun e => hMV38.no h35 e)).trans h35
 have K41 : Keeps ((fun j => w.heap.size ≤ j)) w V38 := K36.then j38 (fun i hi hm => Nat.le_of_not_lt (fun h => hMV38.sub i h hm))
 have z42 := j38.size
 refine ⟨h40, ?_⟩
 refine kA [16, 17, 18, 19] <| aV 20 _ (fun W hS => ldz 28 go hS (Att.c_size _ v1_r)) <| aV 21 _ (fun W hS => ldz 28 go hS (Att.c_size _ v1_r)) <| an_o 22 ?_
 refine ncq 28 #[pT d 0, .agg (Att.c (v1 1 3 0)), iI 1, .agg (Att.c (v1 1 3 0)), iI 0] func28 ((ltattests_ok _ d _ _ _ _ _ K41.size hDV38 (v1 1 3 0) (v1_ok _ (by decide) (by decide)) v1_r 1 0 (v1 1 3 0) v1_r kE1 _ v1_vd kY1 rfl _ kN1).mono ?_)
 rintro e V43 ⟨rfl, hDV43, MV43, hMV43, j43⟩
 refine ⟨_, rfl, ?_⟩
 have h44 : Turns w.heap.size w V43 := Turns.trans h39 ⟨MV43, hMV43, j43⟩
 have h45 : HP V43 go (Att.c (v1 1 3 0)) 28 := (j43.block go (lt_of_block h40) (fun e => hMV43.no h40 e)).trans h40
 have K46 : Keeps ((fun j => w.heap.size ≤ j)) w V43 := K41.then j43 (fun i hi hm => Nat.le_of_not_lt (fun h => hMV43.sub i h hm))
 have z47 := j43.size
 refine ⟨h45, ?_⟩
 refine kA [23, 24, 25, 26] <| aV 28 _ (fun W hS => ldz 28 go hS (Att.c_size _ v1_r)) <| an_o 27 <| ncs (ltvote1_ok 1 3 9 9 (by decide) _) fun V48 j48 => ?_
 have h49 := Turns.nn h44 j48
 have h50 := j48.bk h45
 have kb51 := (Keeps.refl Nob V43).nn j48
 have ⟨K52, z53⟩ := j48.z0 K46
 refine ⟨h50, ?_⟩
 refine an_o 29 ?_
 refine ncq 28 #[pT d 0, .agg (Att.c (v1 1 3 9)), iI 2, .agg (Att.c (v1 1 3 0)), iI 7] func28 ((ltattests_ok _ d _ _ _ _ _ K52.size (hDV43.keepsN kb51) (v1 1 3 9) (v1_ok _ (by decide) (by decide)) v1_r 2 7 (v1 1 3 0) v1_r kE2 _ v1_vd kY2 rfl _ kN2).mono ?_)
 rintro e V54 ⟨rfl, hDV54, MV54, hMV54, j54⟩
 refine ⟨_, rfl, ?_⟩
 have h55 : Turns w.heap.size w V54 := Turns.trans h49 ⟨MV54, hMV54, j54⟩
 have h56 : HP V54 go (Att.c (v1 1 3 0)) 28 := (j54.block go (lt_of_block h50) (fun e => hMV54.no h50 e)).trans h50
 have K57 : Keeps ((fun j => w.heap.size ≤ j)) w V54 := K52.then j54 (fun i hi hm => Nat.le_of_not_lt (fun h => hMV54.sub i h hm))
 have z58 := j54.size
 refine ⟨h56, ?_⟩
 refine kA [30, 31, 32, 33] <| aV 35 _ (fun W hS => ldz 28 go hS (Att.c_size _ v1_r)) <| an_o 34 <| ncs (ltvote1_ok 2 2 0 0 (by decide) _) fun V59 j59 => ?_
 have h60 := Turns.nn h55 j59
 have h61 := j59.bk h56
 have kb62 := (Keeps.refl Nob V54).nn j59
 have ⟨K63, z64⟩ := j59.z0 K57
 refine ⟨h61, ?_⟩
 refine an_o 36 ?_
 refine ncq 28 #[pT d 0, .agg (Att.c (v1 2 2 0)), iI 4, .agg (Att.c (v1 1 3 0)), iI 7] func28 ((ltattests_ok _ d _ _ _ _ _ K63.size (hDV54.keepsN kb62) (v1 2 2 0) (v1_ok _ (by decide) (by decide)) v1_r 4 7 (v1 1 3 0) v1_r kE3 _ v1_vd kY3 rfl _ kN3).mono ?_)
 rintro e V65 ⟨rfl, hDV65, MV65, hMV65, j65⟩
 refine ⟨_, rfl, ?_⟩
 have h66 : Turns w.heap.size w V65 := Turns.trans h60 ⟨MV65, hMV65, j65⟩
 have h67 : HP V65 go (Att.c (v1 1 3 0)) 28 := (j65.block go (lt_of_block h61) (fun e => hMV65.no h61 e)).trans h61
 have K68 : Keeps ((fun j => w.heap.size ≤ j)) w V65 := K63.then j65 (fun i hi hm => Nat.le_of_not_lt (fun h => hMV65.sub i h hm))
 have z69 := j65.size
 refine ⟨h67, ?_⟩
 refine kA [37, 38] <| ane <| then_n <| n_ <| s_ <| tqr_ [0, 1] <| kk 2 <| eu_ <| so_ (pT d 0) ?_
 exact ⟨d, rfl, hDV65, h66.keeps (Keeps.refl Nob w) (Nat.le_refl _)⟩
def qc125_0 (n : Nat) : Code := partOf f8 n
theorem ltsecond_ok (w : World) :
  Calls prog 8 #[] w (fun e w' => ∃ d, e = .returned (pT d 0) ∧ Det1 w.heap.size w' d (ofP 2 3) 11 [v1 1 3 0, v1 1 1 0, v1 1 2 0, v1 3 5 0, v1 3 4 0] [] ∧ Keeps Nob w w') := by
 have t0 := Turns.refl w.heap.size w
 obtain ⟨i0, hi0, hz0, hz1, hz2⟩ := info_parts att_info0
 obtain ⟨i1, hi1, hw0, hw1, hw2⟩ := info_parts pro_info0
 have hok := (fun (x : Att) (hx : x ∈ ([v1 1 1 0, v1 1 2 0, v1 1 3 0] : List Att)) => show x.Ok by simp only [List.mem_cons, List.not_mem_nil, or_false] at hx; rcases hx with rfl | rfl | rfl <;> exact v1_ok _ (by decide) (by decide))
 have K0 := Keeps.refl ((fun j => w.heap.size ≤ j)) w
 refine sf_ (qc125_0 1) func8 <| qr_ [0] <| kk 1 <| eqr_ [0, 1] ?_
 refine pct ((ltfirst_ok _).mono ?_)
 rintro e V1 ⟨d, rfl, hDV1, j1⟩
 have hLV1 := hDV1.lower K0.size
 refine ⟨_, rfl, ?_⟩
 have h2 := Turns.nn t0 j1
 have ⟨K3, z4⟩ := j1.z0 K0
 refine kk 1 <| eq_ <| qr_ nl31_ <| kk 4 <| pcs (ltvote1_ok 1 1 0 0 (by decide) _) fun V5 j5 => ?_
 have h6 := Turns.nn h2 j5
 have kb7 := (Keeps.refl Nob V1).nn j5
 have ⟨K8, z9⟩ := j5.z0 K3
 refine kk 1 ?_
 refine pcq 28 #[pT d 0, .agg (Att.c (v1 1 1 0)), iI 0, .agg (Att.c zAtt), iI 0] func28 ((ltattests_ok _ d _ _ _ _ _ K8.size (hLV1.keepsN kb7) (v1 1 1 0) (v1_ok _ (by decide) (by decide)) v1_r 0 0 zAtt zAtt_r kE4 _ z_vd kY4 rfl _ kN4).mono ?_)
 rintro e V10 ⟨rfl, hDV10, MV10, hMV10, j10⟩
 refine ⟨_, rfl, ?_⟩
 have h11 : Turns w.heap.size w V10 := Turns.trans h6 ⟨MV10, hMV10, j10⟩
 have K12 : Keeps ((fun j => w.heap.size ≤ j)) w V10 := K8.then j10 (fun i hi hm => Nat.le_of_not_lt (fun h => hMV10.sub i h hm))
 have z13 := j10.size
 refine kk 4 <| pcs (ltvote1_ok 1 2 0 0 (by decide) _) fun V14 j14 => ?_
 have h15 := Turns.nn h11 j14
 have kb16 := (Keeps.refl Nob V10).nn j14
 have ⟨K17, z18⟩ := j14.z0 K12
 refine kk 1 ?_
 refine pcq 28 #[pT d 0, .agg (Att.c (v1 1 2 0)), iI 0, .agg (Att.c zAtt), iI 0] func28 ((ltattests_ok _ d _ _ _ _ _ K17.size (hDV10.keepsN kb16) (v1 1 2 0) (v1_ok _ (by decide) (by decide)) v1_r 0 0 zAtt zAtt_r kE5 _ z_vd kY5 rfl _ kN5).mono ?_)
 rintro e V19 ⟨rfl, hDV19, MV19, hMV19, j19⟩
 refine ⟨_, rfl, ?_⟩
 have h20 : Turns w.heap.size w V19 := Turns.trans h15 ⟨MV19, hMV19, j19⟩
 have K21 : Keeps ((fun j => w.heap.size ≤ j)) w V19 := K17.then j19 (fun i hi hm => Nat.le_of_not_lt (fun h => hMV19.sub i h hm))
 have z22 := j19.size
 refine kk 4 ?_
 refine pct ((Det1.votes hDV19 1).mono ?_)
 rintro e V23 ⟨vaV23, rfl, hrV23, hnV23, j23⟩
 rw [lV1] at hrV23
 have hsV23 : AttsAt V23 vaV23 [v1 1 1 0, v1 1 2 0, v1 1 3 0] := Row.sl hrV23 rfl (fun x hx => Att.cl_len (hok x hx))
 refine ⟨_, rfl, ?_⟩
 have h24 := Turns.nn h20 j23
 have kb25 := (Keeps.refl Nob V19).nn j23
 have ⟨K26, z27⟩ := j23.z0 K21
 refine pcs (ltvote1_ok 1 1 0 0 (by decide) _) fun V28 j28 => ?_
 have h29 := Turns.nn h24 j28
 have kb30 := kb25.nn j28
 have h31 := hsV23.keepsN j28
 have ⟨K32, z33⟩ := j28.z0 K26
 refine pcs (ltvote1_ok 1 2 0 0 (by decide) _) fun V34 j34 => ?_
 have h35 := Turns.nn h29 j34
 have kb36 := kb30.nn j34
 have h37 := h31.keepsN j34
 have ⟨K38, z39⟩ := j34.z0 K32
 refine pcs (ltvote1_ok 1 3 0 0 (by decide) _) fun V40 j40 => ?_
 have h41 := Turns.nn h35 j40
 have kb42 := kb36.nn j40
 have h43 := h37.keepsN j40
 have ⟨K44, z45⟩ := j40.z0 K38
 obtain ⟨V46, eV46, gl, egl, h47, j46⟩ := alloc_step V40 (([.agg (Att.c (v1 1 1 0)), .agg (Att.c (v1 1 2 0)), .agg (Att.c (v1 1 3 0))] : List Value).flatMap fun v => v.cells.toList).toArray 28
 have n48 := nk egl K44
 refine prq (sS gl 3 3) (w' := V46) (by rw [← eV46, ← egl]; exact exec_buildAll 32 28 3 #[(0, .tmp 23), (1, .tmp 24), (2, .tmp 25)] (by kernel_rfl) [.agg (Att.c (v1 1 1 0)), .agg (Att.c (v1 1 2 0)), .agg (Att.c (v1 1 3 0))] (by kernel_rfl) i0 _ underlying32 hi0 hz0 36 hz1 (by decide) rfl (by decide) (by decide) (fun u hu => by simp only [List.mem_cons, List.not_mem_nil, or_false] at hu; rcases hu with rfl | rfl | rfl; exact Att.c_size _ v1_r; exact Att.c_size _ v1_r; exact Att.c_size _ v1_r)) ?_
 clear eV46
 have h49 : HP V46 gl ((List.flatMap Att.cl [v1 1 1 0, v1 1 2 0, v1 1 3 0]).toArray) 28 := h47
 have h50 := Turns.nn h41 j46
 have kb51 := kb42.nn j46
 have h52 := h43.keepsN j46
 have ⟨K53, z54⟩ := j46.z0 K44
 refine pcr 18 #[vaV23, sS gl 3 3] func18 ((show Calls prog 18 #[vaV23, sS gl 3 3] V46 _ from (decide_eq_true (rfl : ([v1 1 1 0, v1 1 2 0, v1 1 3 0] : List Att) = [v1 1 1 0, v1 1 2 0, v1 1 3 0])) ▸ ltsameVotes_ok _ _ [v1 1 1 0, v1 1 2 0, v1 1 3 0] [v1 1 1 0, v1 1 2 0, v1 1 3 0] _ h52 (Sl.blockH h49 (fun x hx => Att.cl_len (hok x hx)) rfl (by decide)) hok hok)) fun V55 j55 => ?_
 have h56 := Turns.nn h50 j55
 have kb57 := kb51.nn j55
 have ⟨K59, z60, h58⟩ := j55.z1 K53 h49
 refine kk 4 ?_
 refine pct ((Det1.is_move (x := 11) (hDV19.keepsN kb57) K59.size (e0 := 0) (h' := 11) rfl rfl).mono ?_)
 rintro e V61 ⟨rfl, hDV61, MV61, hMV61, j61⟩
 refine ⟨_, rfl, ?_⟩
 have h62 : Turns w.heap.size w V61 := Turns.trans h56 ⟨MV61, hMV61, j61⟩
 have h63 : HP V61 gl ((List.flatMap Att.cl [v1 1 1 0, v1 1 2 0, v1 1 3 0]).toArray) 28 := (j61.block gl (lt_of_block h58) (fun e => hMV61.no h58 e)).trans h58
 have K64 : Keeps ((fun j => w.heap.size ≤ j)) w V61 := K59.then j61 (fun i hi hm => Nat.le_of_not_lt (fun h => hMV61.sub i h hm))
 have z65 := j61.size
 refine kk 2 <| ps_end <| then_n <| n_ <| s_ <| tqr_ [0, 1, 2] <| pcs (ltvote1_ok 3 5 0 0 (by decide) _) fun V66 j66 => ?_
 have h67 := Turns.nn h62 j66
 have h68 := j66.bk h63
 have kb69 := (Keeps.refl Nob V61).nn j66
 have ⟨K70, z71⟩ := j66.z0 K64
 refine pag 28 (#[iI 0, iI 0, iI 0, .int .u8 0, .int .u8 0, .int .u8 0, .int .u8 0, .int .u8 0, .int .u8 0, .int .u8 0, .int .u8 0, .int .u8 0, .int .u8 0, .int .u8 0, .int .u8 0, .int .u8 0, .int .u8 0, .int .u8 0, .int .u8 0, .int .u8 0, .int .u8 0, .int .u8 0, .int .u8 0, .int .u8 0, .int .u8 0, .int .u8 0, .int .u8 0, .int .u8 0, .int .u8 0, .int .u8 0, .int .u8 0, .int .u8 0, .int .u8 0, .int .u8 0, .int .u8 0, .int .u64 0]) fun V72 go ego h73 j72 => ?_
 have := nqk1 ego h68 K70
 have h76 := Turns.nn h67 j72
 have kb78 := kb69.nn j72
 have ⟨K79, z80⟩ := j72.z0 K70
 refine pst 28 go ((Att.c (v1 3 5 0))) h73 (by rw [Att.c_size _ v1_r]; kernel_rfl) (by rw [Att.c_size _ v1_r]; rfl) (Att.c_one _) fun V81 h82 j81 => ?_
 have h83 : Turns w.heap.size w V81 := Turns.no h76 j81 (by omega)
 have kb85 : Keeps Nob V61 V81 := kb78.nO j81
 have ⟨K86, z87⟩ := j81.zo0 K79
 refine eq_ <| q_ <| anp 19 (fun W => (HP W go (Att.c (v1 3 5 0)) 28)) fun V88 j88 => ?_
 have h89 := Turns.nn h83 j88
 have kb91 := kb85.nn j88
 have ⟨K93, z94, h92⟩ := j88.z1 K86 h82
 refine kA [0] <| aV 1 _ (fun W hS => ldz 28 go hS (Att.c_size _ v1_r)) <| kA [2] <| an_o 3 ?_
 refine ncq 28 #[pT d 0, .agg (Att.c (v1 3 5 0)), iI 0, .agg (Att.c zAtt), iI 0] func28 ((ltattests_ok _ d _ _ _ _ _ K93.size (hDV61.keepsN kb91) (v1 3 5 0) (v1_ok _ (by decide) (by decide)) v1_r 0 0 zAtt zAtt_r kE6 _ z_vd kY6 rfl _ kN6).mono ?_)
 rintro e V95 ⟨rfl, hDV95, MV95, hMV95, j95⟩
 refine ⟨_, rfl, ?_⟩
 have h96 : Turns w.heap.size w V95 := Turns.trans h89 ⟨MV95, hMV95, j95⟩
 have h98 : HP V95 go (Att.c (v1 3 5 0)) 28 := (j95.block go (lt_of_block h92) (fun e => hMV95.no h92 e)).trans h92
 have K99 : Keeps ((fun j => w.heap.size ≤ j)) w V95 := K93.then j95 (fun i hi hm => Nat.le_of_not_lt (fun h => hMV95.sub i h hm))
 have z100 := j95.size
 refine ⟨h98, ?_⟩
 refine kA [4, 5, 6] <| aV 8 _ (fun W hS => ldz 28 go hS (Att.c_size _ v1_r)) <| an_o 7 <| ncs (ltvote1_ok 4 4 0 0 (by decide) _) fun V101 j101 => ?_
 have h102 := Turns.nn h96 j101
 have h104 := j101.bk h98
 have kb105 := (Keeps.refl Nob V95).nn j101
 have ⟨K106, z107⟩ := j101.z0 K99
 refine ⟨h104, ?_⟩
 refine an_o 9 ?_
 refine ncq 28 #[pT d 0, .agg (Att.c (v1 4 4 0)), iI 4, .agg (Att.c (v1 3 5 0)), iI 11] func28 ((ltattests_ok _ d _ _ _ _ _ K106.size (hDV95.keepsN kb105) (v1 4 4 0) (v1_ok _ (by decide) (by decide)) v1_r 4 11 (v1 3 5 0) v1_r kE7 _ v1_vd kY7 rfl _ kN7).mono ?_)
 rintro e V108 ⟨rfl, hDV108, MV108, hMV108, j108⟩
 refine ⟨_, rfl, ?_⟩
 have h109 : Turns w.heap.size w V108 := Turns.trans h102 ⟨MV108, hMV108, j108⟩
 have h111 : HP V108 go (Att.c (v1 3 5 0)) 28 := (j108.block go (lt_of_block h104) (fun e => hMV108.no h104 e)).trans h104
 have K112 : Keeps ((fun j => w.heap.size ≤ j)) w V108 := K106.then j108 (fun i hi hm => Nat.le_of_not_lt (fun h => hMV108.sub i h hm))
 have z113 := j108.size
 refine ⟨h111, ?_⟩
 refine kA [10, 11, 12, 13, 15] <| an_o 14 <| ncs (ltvote1_ok 3 4 0 0 (by decide) _) fun V114 j114 => ?_
 have h115 := Turns.nn h109 j114
 have h117 := j114.bk h111
 have kb118 := (Keeps.refl Nob V108).nn j114
 have ⟨K119, z120⟩ := j114.z0 K112
 refine ⟨h117, ?_⟩
 refine an_o 16 ?_
 refine ncq 28 #[pT d 0, .agg (Att.c (v1 3 4 0)), iI 0, .agg (Att.c zAtt), iI 0] func28 ((ltattests_ok _ d _ _ _ _ _ K119.size (hDV108.keepsN kb118) (v1 3 4 0) (v1_ok _ (by decide) (by decide)) v1_r 0 0 zAtt zAtt_r kE8 _ z_vd kY8 rfl _ kN8).mono ?_)
 rintro e V121 ⟨rfl, hDV121, MV121, hMV121, j121⟩
 refine ⟨_, rfl, ?_⟩
 have h122 : Turns w.heap.size w V121 := Turns.trans h115 ⟨MV121, hMV121, j121⟩
 have h124 : HP V121 go (Att.c (v1 3 5 0)) 28 := (j121.block go (lt_of_block h117) (fun e => hMV121.no h117 e)).trans h117
 have K125 : Keeps ((fun j => w.heap.size ≤ j)) w V121 := K119.then j121 (fun i hi hm => Nat.le_of_not_lt (fun h => hMV121.sub i h hm))
 have z126 := j121.size
 refine ⟨h124, ?_⟩
 refine kA [17, 18] <| ane <| then_n <| n_ <| s_ <| tqr_ [0, 1] <| kk 2 <| ps_end <| then_n <| u_ <| so_ (pT d 0) ?_
 exact ⟨d, rfl, hDV121, h122.keeps (Keeps.refl Nob w) (Nat.le_refl _)⟩
def qc125_2 (n : Nat) : Code := partOf f20 n
theorem ltawake_ok (w : World) :
  Calls prog 20 #[] w (RK w (.bool true)) := by
 have t0 := Turns.refl w.heap.size w
 obtain ⟨i0, hi0, hz0, hz1, hz2⟩ := info_parts att_info0
 obtain ⟨i1, hi1, hw0, hw1, hw2⟩ := info_parts pro_info0
 have hok := (fun (x : Att) (hx : x ∈ ([v1 1 3 0, v1 3 4 0, v1 3 5 0] : List Att)) => show x.Ok by simp only [List.mem_cons, List.not_mem_nil, or_false] at hx; rcases hx with rfl | rfl | rfl <;> exact v1_ok _ (by decide) (by decide))
 have K0 := Keeps.refl ((fun j => w.heap.size ≤ j)) w
 refine sf_ (qc125_2 1) func20 <| qr_ [0] <| kk 1 <| eqr_ [0, 1] ?_
 refine pct ((ltsecond_ok _).mono ?_)
 rintro e V1 ⟨d, rfl, hDV1, j1⟩
 have hLV1 := hDV1.lower K0.size
 refine ⟨_, rfl, ?_⟩
 have h2 := Turns.nn t0 j1
 have ⟨K3, z4⟩ := j1.z0 K0
 refine kk 1 <| eqr_ nl22_ <| kk 4 ?_
 refine pct ((Det1.votes hLV1 1).mono ?_)
 rintro e V5 ⟨vaV5, rfl, hrV5, hnV5, j5⟩
 rw [lV2] at hrV5
 have hsV5 : AttsAt V5 vaV5 [v1 1 3 0, v1 3 4 0, v1 3 5 0] := Row.sl hrV5 rfl (fun x hx => Att.cl_len (hok x hx))
 refine ⟨_, rfl, ?_⟩
 have h6 := Turns.nn h2 j5
 have kb7 := (Keeps.refl Nob V1).nn j5
 have ⟨K8, z9⟩ := j5.z0 K3
 refine pcs (ltvote1_ok 1 3 0 0 (by decide) _) fun V10 j10 => ?_
 have h11 := Turns.nn h6 j10
 have kb12 := kb7.nn j10
 have h13 := hsV5.keepsN j10
 have ⟨K14, z15⟩ := j10.z0 K8
 refine pcs (ltvote1_ok 3 4 0 0 (by decide) _) fun V16 j16 => ?_
 have h17 := Turns.nn h11 j16
 have kb18 := kb12.nn j16
 have h19 := h13.keepsN j16
 have ⟨K20, z21⟩ := j16.z0 K14
 refine pcs (ltvote1_ok 3 5 0 0 (by decide) _) fun V22 j22 => ?_
 have h23 := Turns.nn h17 j22
 have kb24 := kb18.nn j22
 have h25 := h19.keepsN j22
 have ⟨K26, z27⟩ := j22.z0 K20
 obtain ⟨V28, eV28, gl, egl, h29, j28⟩ := alloc_step V22 (([.agg (Att.c (v1 1 3 0)), .agg (Att.c (v1 3 4 0)), .agg (Att.c (v1 3 5 0))] : List Value).flatMap fun v => v.cells.toList).toArray 28
 have n30 := nk egl K26
 refine prq (sS gl 3 3) (w' := V28) (by rw [← eV28, ← egl]; exact exec_buildAll 32 28 3 #[(0, .tmp 8), (1, .tmp 9), (2, .tmp 10)] (by kernel_rfl) [.agg (Att.c (v1 1 3 0)), .agg (Att.c (v1 3 4 0)), .agg (Att.c (v1 3 5 0))] (by kernel_rfl) i0 _ underlying32 hi0 hz0 36 hz1 (by decide) rfl (by decide) (by decide) (fun u hu => by simp only [List.mem_cons, List.not_mem_nil, or_false] at hu; rcases hu with rfl | rfl | rfl; exact Att.c_size _ v1_r; exact Att.c_size _ v1_r; exact Att.c_size _ v1_r)) ?_
 clear eV28
 have h31 : HP V28 gl ((List.flatMap Att.cl [v1 1 3 0, v1 3 4 0, v1 3 5 0]).toArray) 28 := h29
 have h32 := Turns.nn h23 j28
 have kb33 := kb24.nn j28
 have h34 := h25.keepsN j28
 have ⟨K35, z36⟩ := j28.z0 K26
 refine pcr 18 #[vaV5, sS gl 3 3] func18 ((show Calls prog 18 #[vaV5, sS gl 3 3] V28 _ from (decide_eq_true (rfl : ([v1 1 3 0, v1 3 4 0, v1 3 5 0] : List Att) = [v1 1 3 0, v1 3 4 0, v1 3 5 0])) ▸ ltsameVotes_ok _ _ [v1 1 3 0, v1 3 4 0, v1 3 5 0] [v1 1 3 0, v1 3 4 0, v1 3 5 0] _ h34 (Sl.blockH h31 (fun x hx => Att.cl_len (hok x hx)) rfl (by decide)) hok hok)) fun V37 j37 => ?_
 have h38 := Turns.nn h32 j37
 have kb39 := kb33.nn j37
 have ⟨K41, z42⟩ := j37.z0 K35
 refine kk 3 <| pcs (ltblock1_ok 11 0 0 (by decide) _) fun V43 j43 => ?_
 have h44 := Turns.nn h38 j43
 have kb45 := kb39.nn j43
 have ⟨K47, z48⟩ := j43.z0 K41
 refine pcq 13 #[pT d 0, .agg (Pro.c (b1 11 0)), iI 0, iI 0, iI 0] func13 ((ltproposes_ok _ d _ _ _ _ _ K47.size (hLV1.keepsN kb45) (b1 11 0) (b1_ok _ (by decide)) b1_r 0 0 0 pE0 _ z_vd pY0 rfl rfl _ pN0).mono ?_)
 rintro e V49 ⟨rfl, hDV49, MV49, hMV49, j49⟩
 refine ⟨_, rfl, ?_⟩
 have h50 : Turns w.heap.size w V49 := Turns.trans h44 ⟨MV49, hMV49, j49⟩
 have K52 : Keeps ((fun j => w.heap.size ≤ j)) w V49 := K47.then j49 (fun i hi hm => Nat.le_of_not_lt (fun h => hMV49.sub i h hm))
 have z53 := j49.size
 refine kk 3 <| pcs (ltblock1_ok 11 9 9 (by decide) _) fun V54 j54 => ?_
 have h55 := Turns.nn h50 j54
 have kb57 := (Keeps.refl Nob V49).nn j54
 have ⟨K58, z59⟩ := j54.z0 K52
 refine pcq 13 #[pT d 0, .agg (Pro.c (b1 11 9)), iI 2, iI 11, iI 0] func13 ((ltproposes_ok _ d _ _ _ _ _ K58.size (hDV49.keepsN kb57) (b1 11 9) (b1_ok _ (by decide)) b1_r 2 11 0 pE1 _ b1_vd pY1 rfl rfl _ pN1).mono ?_)
 rintro e V60 ⟨rfl, hDV60, MV60, hMV60, j60⟩
 refine ⟨_, rfl, ?_⟩
 have h61 : Turns w.heap.size w V60 := Turns.trans h55 ⟨MV60, hMV60, j60⟩
 have K63 : Keeps ((fun j => w.heap.size ≤ j)) w V60 := K58.then j60 (fun i hi hm => Nat.le_of_not_lt (fun h => hMV60.sub i h hm))
 have z64 := j60.size
 refine kk 2 <| ps_end <| then_n <| u_ <| so_ (.bool true) ?_
 exact ⟨rfl, h61.keeps (Keeps.refl Nob w) (Nat.le_refl _)⟩
section
variable {B : Nat} {w w' : World} {d c q : Nat} {p : Par} {h h' h2 h3 : Int} {A A' A2 A3 : List Att} {Q Q' Q2 Q3 : List Pro} {P PC : Nat → Option PD} {who : Nat → Nat} {M : Nat → Prop} {va vb va' vb' : Value} {f : FuncId} {args : Array Value} {φ : Ending → Prop}
theorem who_of (c : Nat) (R : Nat → Nat → Prop) : ∃ who : Nat → Nat, who c = 0 ∧ (∀ v j, j ≠ c → R v j → (∀ u, R u j → u = v) → who j = v + 1) ∧ ∀ j, j ≠ c → (∀ v, ¬ R v j) → who j = 40 := by
  classical
  refine ⟨fun j => if j = c then 0 else if hx : ∃ v, R v j then hx.choose + 1 else 40, by simp, fun v j hj hr hu => ?_, fun j hj hn => ?_⟩
  · have hx : ∃ v, R v j := ⟨v, hr⟩
    have := hu _ hx.choose_spec
    simp only [if_neg hj, dif_pos hx, this]
  · have hx : ¬ ∃ v, R v j := fun ⟨v, e⟩ => hn v e
    simp only [if_neg hj, dif_neg hx]
theorem DetP.copied (s : DetP w d p h (fun _ => h) A Q P who) (hc : w'.heap[c]? = some (.cells (detC p h (Pq PC)) 79 (0, 0))) (i : CInv w c p h A Q P 32 PC w') (hcw : w.heap.size ≤ c) :
    ∃ who', DetP w' c p h (fun _ => h) A Q PC who' ∧ (∀ j, DF c PC j → w.heap.size ≤ j) ∧ ∀ j, DR PC j → DR P j := by
  have own_c : ∀ v y, PC v = some y → ¬ y.own c := fun v y e ho => (i.some_ v y e).2.2.2.1.1.odd (T := 79) (by decide) (by decide) (by decide) (by decide) (by decide) c _ (0, 0) ho hc
  have hdr : ∀ j, DR PC j → DR P j := fun j ⟨v, x, hv, hx, hj⟩ => by
    obtain ⟨_, _, ⟨x', hx', e⟩, _⟩ := i.some_ v x hx
    exact ⟨v, x', hv, hx', e ▸ hj⟩
  have hown : ∀ v y, PC v = some y → ∀ j, y.own j → w.heap.size ≤ j := fun v y e => (i.some_ v y e).2.2.2.2
  obtain ⟨who', w0, w1, w2⟩ := who_of c fun v j => ∃ y, PC v = some y ∧ y.own j
  refine ⟨who', ⟨hc, fun v x hv hx => (i.some_ v x hx).2.2.2.1, fun v hv hn => s.none_ v hv (i.none_ v hv hv hn), w0, fun v x hv hx j hj => ?_, fun v x hv hx j hj => ?_⟩, fun j hj => ?_, hdr⟩
  · refine w1 v j (fun e => own_c v x hx (e ▸ hj)) ⟨x, hx, hj⟩ fun u ⟨y, hy, hj2⟩ => ?_
    by_cases e : u = v
    · exact e
    · exact absurd hj (i.apart u v y x e hy hx j hj2)
  · have hl := s.ltR j (hdr j ⟨v, x, hv, hx, hj⟩)
    exact w2 j (by omega) fun u ⟨y, hy, hj2⟩ => by have := hown u y hy j hj2; omega
  · rcases hj with rfl | ⟨v, x, hv, hx, hj⟩
    · exact hcw
    · exact hown v x hx j hj
def KitOdd (w : World) (M : Nat → Prop) : Prop := ∀ U : TypeId, 79 ≠ U → 161 ≠ U → 184 ≠ U → 185 ≠ U → 192 ≠ U → 168 ≠ U → Odd w M U
theorem RV.turn (s : RV w q p h A Q va vb) (k : Keeps M w w') (o : KitOdd w M) : RV w' q p h A Q va vb :=
  ⟨k.odd (o 113 (by decide) (by decide) (by decide) (by decide) (by decide) (by decide)) s.q,
    s.a.keeps k (fun j hj hm => by obtain ⟨cs, hc⟩ := s.a.elem hj; exact o 28 (by decide) (by decide) (by decide) (by decide) (by decide) (by decide) j cs (0, 0) hm hc),
    s.b.keeps k (fun j hj hm => by obtain ⟨cs, hc⟩ := s.b.elem hj; exact o 37 (by decide) (by decide) (by decide) (by decide) (by decide) (by decide) j cs (0, 0) hm hc), s.na, s.nb⟩
theorem RV.keepsN (s : RV w q p h A Q va vb) (k : Keeps Nob w w') : RV w' q p h A Q va vb := s.turn k fun _ _ _ _ _ _ _ => Odd.nob _
def RF (q : Nat) (va vb : Value) : Nat → Prop := fun j => j = q ∨ va.ownBlock = some j ∨ vb.ownBlock = some j
theorem RV.lt (s : RV w q p h A Q va vb) : ∀ j, RF q va vb j → j < w.heap.size := fun j hj => by
  rcases hj with rfl | hj | hj
  · exact lt_of_block s.q
  · exact Row.lt s.a hj
  · exact Row.lt s.b hj
theorem RV.odd (s : RV w q p h A Q va vb) {U : TypeId} (h1 : 113 ≠ U) (h2 : 28 ≠ U) (h3 : 37 ≠ U) : Odd w (RF q va vb) U := fun j cs fr hj e => by
  rcases hj with rfl | hj | hj
  · exact Odd.one s.q h1 _ _ _ rfl e
  · obtain ⟨c2, hc⟩ := s.a.elem hj
    rw [hc] at e
    simp only [Option.some.injEq, Obj.cells.injEq] at e
    exact h2 e.2.1
  · obtain ⟨c2, hc⟩ := s.b.elem hj
    rw [hc] at e
    simp only [Option.some.injEq, Obj.cells.injEq] at e
    exact h3 e.2.1
theorem RV.strange (s : RV w q p h A Q va vb) : Strange w (RF q va vb) := ⟨s.odd (by decide) (by decide) (by decide), s.odd (by decide) (by decide) (by decide), s.odd (by decide) (by decide) (by decide), s.odd (by decide) (by decide) (by decide), s.odd (by decide) (by decide) (by decide), s.odd (by decide) (by decide) (by decide), s.odd (by decide) (by decide) (by decide), s.odd (by decide) (by decide) (by decide)⟩
structure RMine (B : Nat) (w : World) (M : Nat → Prop) : Prop where
  sub : ∀ i, i < B → ¬ M i
  odd : ∀ U : TypeId, 113 ≠ U → 28 ≠ U → 37 ≠ U → Odd w M U
theorem RMine.no (m : RMine B w M) {g : Nat} {cs : Array Value} {U : TypeId} (hg : w.heap[g]? = some (.cells cs U (0, 0))) (hm : M g) (h1 : 113 ≠ U := by decide) (h2 : 28 ≠ U := by decide) (h3 : 37 ≠ U := by decide) : False := m.odd U h1 h2 h3 g cs (0, 0) hm hg
def RTurns (B : Nat) (w w' : World) : Prop := ∃ M, RMine B w M ∧ Keeps M w w'
structure DB (B : Nat) (w : World) (d : Nat) (p : Par) (h : Int) (A : List Att) (Q : List Pro) (q : Nat) (h2 : Int) (A2 : List Att) (Q2 : List Pro) : Prop where
  ex : ∃ P who va vb, DetP w d p h (fun _ => h) A Q P who ∧ RV w q p h2 A2 Q2 va vb ∧ ((∀ j, DF d P j → B ≤ j) ∧ ∀ j, DR P j → B ≤ j) ∧ (∀ j, RF q va vb j → B ≤ j) ∧ ∀ j, DR P j → ¬ RF q va vb j
  inv : DInv p h A Q
  inv2 : DInv p h2 A2 Q2
theorem DB.keepsN (s : DB B w d p h A Q q h2 A2 Q2) (k : Keeps Nob w w') : DB B w' d p h A Q q h2 A2 Q2 := ⟨let ⟨P, who, va, vb, a, b, c⟩ := s.ex; ⟨P, who, va, vb, a.keepsN k, b.keepsN k, c⟩, s.inv, s.inv2⟩
theorem DB.fst (s : DB B w d p h A Q q h2 A2 Q2) : Det1 B w d p h A Q := ⟨let ⟨P, who, _, _, a, _, b, _⟩ := s.ex; ⟨P, who, a, b⟩, s.inv⟩
theorem DB.ref (s : DB B w d p h A Q q h2 A2 Q2) : RDet w q 0 p h2 A2 Q2 := let ⟨_, _, _, _, _, b, _⟩ := s.ex; b.det
theorem DB.act (s : DB B w d p h A Q q h2 A2 Q2) (hB : B ≤ w.heap.size) (hi : DInv p h' A' Q') (hc : ∀ P who, DetP w d p h (fun _ => h) A Q P who → Calls prog f args w fun e w' => φ e ∧ DOut w w' d P p h' A' Q' ∧ Keeps (DF d P) w w') :
    Calls prog f args w fun e w' => φ e ∧ DB B w' d p h' A' Q' q h2 A2 Q2 ∧ Turns B w w' := by
  obtain ⟨P, who, va, vb, s1, t1, ⟨s2, s3⟩, t2, u⟩ := s.ex
  refine (hc P who s1).mono ?_
  rintro e w' ⟨he, ⟨P', who', q1, q2, q3⟩, k⟩
  refine ⟨he, ⟨⟨P', who', va, vb, q1, t1.turn k fun U a0 a1 a2 a3 a4 a5 => s1.odd a0 a1 a2 a3 a4 a5, ⟨fun j hj => (q2 j hj).elim (s2 j) (fun x => by omega), fun j hj => (q3 j hj).elim (s3 j) (fun x => by omega)⟩, t2, fun j hj hr => (q3 j hj).elim (fun x => u j x hr) (fun x => by have := t1.lt j hr; omega)⟩, hi, s.inv2⟩, DF d P, mine_of s1 s2, k⟩
def ROut (w w' : World) (q : Nat) (p : Par) (h : Int) (A : List Att) (Q : List Pro) (va vb : Value) : Prop :=
  ∃ va' vb', RV w' q p h A Q va' vb' ∧ Grown w va va' ∧ Grown w vb vb' ∧ Keeps (RF q va vb) w w' ∧ Ones w w' 28 36 ∧ Ones w w' 37 35
theorem DB.step (s : DB B w d p h A Q q h2 A2 Q2) (hB : B ≤ w.heap.size) (hi : DInv p h3 A3 Q3) (hc : ∀ va vb, RV w q p h2 A2 Q2 va vb → Calls prog f args w fun e w' => φ e ∧ ROut w w' q p h3 A3 Q3 va vb) :
    Calls prog f args w fun e w' => φ e ∧ DB B w' d p h A Q q h3 A3 Q3 ∧ RTurns B w w' := by
  obtain ⟨P, who, va, vb, s1, t1, s2, t2, u⟩ := s.ex
  refine (hc va vb t1).mono ?_
  rintro e w' ⟨he, va', vb', r, g1, g2, k, o1, o2⟩
  have hg : ∀ j, RF q va' vb' j → RF q va vb j ∨ w.heap.size ≤ j := fun j hj => by
    rcases hj with hj | hj | hj
    · exact .inl (.inl hj)
    · exact (g1 j hj).imp (fun x => .inr (.inl x)) id
    · exact (g2 j hj).imp (fun x => .inr (.inr x)) id
  exact ⟨he, ⟨⟨P, who, va', vb', s1.ones k t1.strange u o1 o2, r, s2, fun j hj => (hg j hj).elim (t2 j) (fun x => by omega), fun j hj hr => (hg j hr).elim (u j hj) (fun x => by have := s1.ltR j hj; omega)⟩, s.inv, hi⟩, RF q va vb, ⟨fun i hi hm => by have := t2 i hm; omega, fun U a b c => t1.odd a b c⟩, k⟩
theorem RV.attest (s : RV w q p h A Q va vb) (i : DInv p h A Q) (hA : A.length ≤ 300) {a : Att} (ha : a.Ok) : Calls prog 64 #[.pointer (some ⟨q, 0, none⟩), .agg (Att.c a)] w fun e w' => e = .returned (.tuple #[.agg (Vd.c (attVd p h A a)), iI (attErr p h a)]) ∧ ROut w w' q p h (attNew p h A a) Q va vb :=
  (rdAttest_ok q p h A Q va vb a ha w s i hA).mono fun e w' ⟨e1, v', r, g, k, o⟩ => by
    have k2 : Keeps (RF q va vb) w w' := k.mono fun j _ hj => hj.imp id .inl
    exact ⟨e1, v', vb, r, g, Grown.refl, k2, o, fun j cs _ hj => k.odd (fun j cs fr hj e => by
      rcases hj with rfl | hj
      · exact Odd.one s.q (by decide) _ _ _ rfl e
      · obtain ⟨c2, hc⟩ := s.a.elem hj
        rw [hc] at e
        simp only [Option.some.injEq, Obj.cells.injEq] at e
        exact absurd e.2.1 (by decide)) hj⟩
theorem RV.propose (s : RV w q p h A Q va vb) (i : DInv p h A Q) (hQ : Q.length ≤ 300) {a : Pro} (ha : a.Ok) : Calls prog 65 #[.pointer (some ⟨q, 0, none⟩), .agg (Pro.c a)] w fun e w' => e = .returned (.tuple #[.agg (Vd.c (proVd p h Q a)), iI (proErr p h a)]) ∧ ROut w w' q p h A (proNew p h Q a) va vb :=
  (rdPropose_ok q p h A Q va vb a ha w s i hQ).mono fun e w' ⟨e1, v', r, g, k, o⟩ => by
    have k2 : Keeps (RF q va vb) w w' := k.mono fun j _ hj => hj.imp id .inr
    exact ⟨e1, va, v', r, Grown.refl, g, k2, fun j cs _ hj => k.odd (fun j cs fr hj e => by
      rcases hj with rfl | hj
      · exact Odd.one s.q (by decide) _ _ _ rfl e
      · obtain ⟨c2, hc⟩ := s.b.elem hj
        rw [hc] at e
        simp only [Option.some.injEq, Obj.cells.injEq] at e
        exact absurd e.2.1 (by decide)) hj, o⟩
theorem RV.move (s : RV w q p h A Q va vb) (x : Int) : Calls prog 66 #[.pointer (some ⟨q, 0, none⟩), iI x] w fun e w' => e = .returned (iI (movErr h x)) ∧ ROut w w' q p (movH h x) A Q va vb :=
  (rdMove_v q p h A Q va vb x w s).mono fun e w' ⟨e1, r, k⟩ => by
    have k2 : Keeps (RF q va vb) w w' := k.mono fun j _ hj => .inl hj
    exact ⟨e1, va, vb, r, Grown.refl, Grown.refl, k2, fun j cs _ hj => k.odd (Odd.one s.q (by decide)) hj, fun j cs _ hj => k.odd (Odd.one s.q (by decide)) hj⟩
end
section
variable {B : Nat} {w w' : World} {d c q : Nat} {p : Par} {h h' h2 h3 : Int} {A A' A2 A3 : List Att} {Q Q' Q2 Q3 : List Pro} {f : FuncId} {args : Array Value} {φ : Ending → Prop}
structure D3 (B : Nat) (w : World) (d : Nat) (p : Par) (h : Int) (A : List Att) (Q : List Pro) (c : Nat) (h2 : Int) (A2 : List Att) (Q2 : List Pro) (q : Nat) (h3 : Int) (A3 : List Att) (Q3 : List Pro) : Prop where
  ex : ∃ P who PC whoc va vb, DetP w d p h (fun _ => h) A Q P who ∧ DetP w c p h2 (fun _ => h2) A2 Q2 PC whoc ∧ RV w q p h3 A3 Q3 va vb ∧ ((∀ j, DF d P j → B ≤ j) ∧ ∀ j, DR P j → B ≤ j) ∧ ((∀ j, DF c PC j → B ≤ j) ∧ ∀ j, DR PC j → B ≤ j) ∧ (∀ j, RF q va vb j → B ≤ j) ∧ (∀ j, DF d P j → ¬ DF c PC j) ∧ (∀ j, DF d P j → ¬ DR PC j) ∧ ∀ j, DR PC j → ¬ RF q va vb j
  inv : DInv p h A Q
  inv2 : DInv p h2 A2 Q2
  inv3 : DInv p h3 A3 Q3
theorem D3.keepsN (s : D3 B w d p h A Q c h2 A2 Q2 q h3 A3 Q3) (k : Keeps Nob w w') : D3 B w' d p h A Q c h2 A2 Q2 q h3 A3 Q3 :=
  ⟨let ⟨P, who, PC, whoc, va, vb, a, b, r, x⟩ := s.ex; ⟨P, who, PC, whoc, va, vb, a.keepsN k, b.keepsN k, r.keepsN k, x⟩, s.inv, s.inv2, s.inv3⟩
theorem D3.out (s : D3 B w d p h A Q c h2 A2 Q2 q h3 A3 Q3) : DB B w c p h2 A2 Q2 q h3 A3 Q3 := ⟨let ⟨_, _, PC, whoc, va, vb, _, b, r, _, y, z, _, _, u⟩ := s.ex; ⟨PC, whoc, va, vb, b, r, y, z, u⟩, s.inv2, s.inv3⟩
theorem DetP.no_both {P : Nat → Option PD} {who : Nat → Nat} (s : DetP w d p h (fun _ => h) A Q P who) {j : Nat} (h1 : DF d P j) (h2 : DR P j) : False := by
  obtain ⟨v, x, hv, hx, hj⟩ := h2
  have e1 := s.who2 v x hv hx j hj
  rcases h1 with rfl | ⟨u, y, hu, hy, hj2⟩
  · have := s.who0; omega
  · have := s.who1 u y hu hy j hj2; omega
theorem DB.copy (s : DB B w d p h A Q q h2 A2 Q2) (hB : B ≤ w.heap.size) : Calls prog 36 #[.pointer (some ⟨d, 0, none⟩)] w fun e w' => ∃ c, e = .returned (.pointer (some ⟨c, 0, none⟩)) ∧ D3 B w' d p h A Q c h A Q q h2 A2 Q2 ∧ Keeps Nob w w' := by
  obtain ⟨P, who, va, vb, s1, t1, ⟨s2, s3⟩, t2, u⟩ := s.ex
  have h0 : ¬ h = 0 := by have := s.inv.ok.2.2; omega
  refine (dCopy_core d p h A Q P who w s1 s1.blk h0).mono ?_
  rintro e w' ⟨c, PC, e1, hc, i, hcw, k⟩
  obtain ⟨who', r1, r2, r3⟩ := s1.copied hc i hcw
  exact ⟨c, e1, ⟨⟨P, who, PC, who', va, vb, s1.keepsN k, r1, t1.keepsN k, ⟨s2, s3⟩, ⟨fun j hj => Nat.le_trans hB (r2 j hj), fun j hj => s3 j (r3 j hj)⟩, t2, fun j a b => by have := s1.lt j a; have := r2 j b; omega, fun j a b => s1.no_both a (r3 j b), fun j a => u j (r3 j a)⟩, s.inv, s.inv, s.inv2⟩, k⟩
theorem D3.rcopy (s : D3 B w d p h A Q c h2 A2 Q2 q h3 A3 Q3) (hB : B ≤ w.heap.size) (hA : A3.length ≤ 300) (hQ : Q3.length ≤ 300) : Calls prog 67 #[.pointer (some ⟨q, 0, none⟩)] w fun e w' => ∃ v, e = .returned (.pointer (some ⟨v, 0, none⟩)) ∧ D3 B w' d p h A Q c h2 A2 Q2 v h3 A3 Q3 ∧ Keeps Nob w w' := by
  obtain ⟨P, who, PC, whoc, va, vb, a, b, r, x1, x2, x3, x4, x5, x6⟩ := s.ex
  refine (rdCopy_ok q p h3 A3 Q3 va vb w r s.inv3 hA hQ).mono ?_
  rintro e w' ⟨v, va', vb', e1, r', n1, n2, n3, k⟩
  have hn : ∀ j, RF v va' vb' j → w.heap.size ≤ j := fun j hj => by
    rcases hj with rfl | hj | hj
    · exact n1
    · exact n2 j hj
    · exact n3 j hj
  exact ⟨v, e1, ⟨⟨P, who, PC, whoc, va', vb', a.keepsN k, b.keepsN k, r', x1, x2, fun j hj => Nat.le_trans hB (hn j hj), x4, x5, fun j hj hr => by have := b.ltR j hj; have := hn j hr; omega⟩, s.inv, s.inv2, s.inv3⟩, k⟩
theorem D3.act (s : D3 B w d p h A Q c h2 A2 Q2 q h3 A3 Q3) (hB : B ≤ w.heap.size) (hi : DInv p h' A' Q') (hc : ∀ P who, DetP w d p h (fun _ => h) A Q P who → Calls prog f args w fun e w' => φ e ∧ DOut w w' d P p h' A' Q' ∧ Keeps (DF d P) w w') :
    Calls prog f args w fun e w' => φ e ∧ D3 B w' d p h' A' Q' c h2 A2 Q2 q h3 A3 Q3 ∧ Turns B w w' := by
  obtain ⟨P, who, PC, whoc, va, vb, s1, b, r, ⟨s2, s3⟩, x2, x3, x4, x5, x6⟩ := s.ex
  refine (hc P who s1).mono ?_
  rintro e w' ⟨he, ⟨P', who', q1, q2, q3⟩, k⟩
  have hb : DetP w' c p h2 (fun _ => h2) A2 Q2 PC whoc := b.keeps k (fun j hj hm => x4 j hm hj) (fun j hj hm => x5 j hm hj) ⟨s1.odd (by decide) (by decide) (by decide) (by decide) (by decide) (by decide), s1.odd (by decide) (by decide) (by decide) (by decide) (by decide) (by decide), s1.odd (by decide) (by decide) (by decide) (by decide) (by decide) (by decide), s1.odd (by decide) (by decide) (by decide) (by decide) (by decide) (by decide)⟩
  exact ⟨he, ⟨⟨P', who', PC, whoc, va, vb, q1, hb, r.turn k fun U a0 a1 a2 a3 a4 a5 => s1.odd a0 a1 a2 a3 a4 a5, ⟨fun j hj => (q2 j hj).elim (s2 j) (fun x => by omega), fun j hj => (q3 j hj).elim (s3 j) (fun x => by omega)⟩, x2, x3, fun j hj hj2 => (q2 j hj).elim (fun x => x4 j x hj2) (fun x => by have := b.lt j hj2; omega), fun j hj hj2 => (q2 j hj).elim (fun x => x5 j x hj2) (fun x => by have := b.ltR j hj2; omega), x6⟩, hi, s.inv2, s.inv3⟩, DF d P, mine_of s1 s2, k⟩
theorem DB.attest (s : DB B w d p h A Q q h2 A2 Q2) (hB : B ≤ w.heap.size) {a : Att} (ha : a.Ok) : Calls prog 24 #[.pointer (some ⟨d, 0, none⟩), .agg (Att.c a)] w fun e w' => e = .returned (.tuple #[.agg (Vd.c (attVd p h A a)), iI (attErr p h a)]) ∧ DB B w' d p h (attNew p h A a) Q q h2 A2 Q2 ∧ Turns B w w' := s.act hB (s.inv.att ha) (core_attest s.inv ha)
theorem DB.propose (s : DB B w d p h A Q q h2 A2 Q2) (hB : B ≤ w.heap.size) {a : Pro} (ha : a.Ok) : Calls prog 25 #[.pointer (some ⟨d, 0, none⟩), .agg (Pro.c a)] w fun e w' => e = .returned (.tuple #[.agg (Vd.c (proVd p h Q a)), iI (proErr p h a)]) ∧ DB B w' d p h A (proNew p h Q a) q h2 A2 Q2 ∧ Turns B w w' := s.act hB (s.inv.pro ha) (core_propose s.inv ha)
theorem DB.move (s : DB B w d p h A Q q h2 A2 Q2) (hB : B ≤ w.heap.size) (x : Int) : Calls prog 17 #[.pointer (some ⟨d, 0, none⟩), iI x] w fun e w' => e = .returned (iI (movErr h x)) ∧ DB B w' d p (movH h x) A Q q h2 A2 Q2 ∧ Turns B w w' := s.act hB (s.inv.mov x) (core_move s.inv x)
theorem D3.attest (s : D3 B w d p h A Q c h2 A2 Q2 q h3 A3 Q3) (hB : B ≤ w.heap.size) {a : Att} (ha : a.Ok) : Calls prog 24 #[.pointer (some ⟨d, 0, none⟩), .agg (Att.c a)] w fun e w' => e = .returned (.tuple #[.agg (Vd.c (attVd p h A a)), iI (attErr p h a)]) ∧ D3 B w' d p h (attNew p h A a) Q c h2 A2 Q2 q h3 A3 Q3 ∧ Turns B w w' := s.act hB (s.inv.att ha) (core_attest s.inv ha)
theorem D3.propose (s : D3 B w d p h A Q c h2 A2 Q2 q h3 A3 Q3) (hB : B ≤ w.heap.size) {a : Pro} (ha : a.Ok) : Calls prog 25 #[.pointer (some ⟨d, 0, none⟩), .agg (Pro.c a)] w fun e w' => e = .returned (.tuple #[.agg (Vd.c (proVd p h Q a)), iI (proErr p h a)]) ∧ D3 B w' d p h A (proNew p h Q a) c h2 A2 Q2 q h3 A3 Q3 ∧ Turns B w w' := s.act hB (s.inv.pro ha) (core_propose s.inv ha)
theorem D3.move (s : D3 B w d p h A Q c h2 A2 Q2 q h3 A3 Q3) (hB : B ≤ w.heap.size) (x : Int) : Calls prog 17 #[.pointer (some ⟨d, 0, none⟩), iI x] w fun e w' => e = .returned (iI (movErr h x)) ∧ D3 B w' d p (movH h x) A Q c h2 A2 Q2 q h3 A3 Q3 ∧ Turns B w w' := s.act hB (s.inv.mov x) (core_move s.inv x)
theorem DB.rattest (s : DB B w d p h A Q q h2 A2 Q2) (hB : B ≤ w.heap.size) (hA : A2.length ≤ 300) {a : Att} (ha : a.Ok) : Calls prog 64 #[.pointer (some ⟨q, 0, none⟩), .agg (Att.c a)] w fun e w' => e = .returned (.tuple #[.agg (Vd.c (attVd p h2 A2 a)), iI (attErr p h2 a)]) ∧ DB B w' d p h A Q q h2 (attNew p h2 A2 a) Q2 ∧ RTurns B w w' := s.step hB (s.inv2.att ha) fun _ _ r => r.attest s.inv2 hA ha
theorem DB.rpropose (s : DB B w d p h A Q q h2 A2 Q2) (hB : B ≤ w.heap.size) (hQ : Q2.length ≤ 300) {a : Pro} (ha : a.Ok) : Calls prog 65 #[.pointer (some ⟨q, 0, none⟩), .agg (Pro.c a)] w fun e w' => e = .returned (.tuple #[.agg (Vd.c (proVd p h2 Q2 a)), iI (proErr p h2 a)]) ∧ DB B w' d p h A Q q h2 A2 (proNew p h2 Q2 a) ∧ RTurns B w w' := s.step hB (s.inv2.pro ha) fun _ _ r => r.propose s.inv2 hQ ha
theorem DB.rmove (s : DB B w d p h A Q q h2 A2 Q2) (hB : B ≤ w.heap.size) (x : Int) : Calls prog 66 #[.pointer (some ⟨q, 0, none⟩), iI x] w fun e w' => e = .returned (iI (movErr h2 x)) ∧ DB B w' d p h A Q q (movH h2 x) A2 Q2 ∧ RTurns B w w' := s.step hB (s.inv2.mov x) fun _ _ r => r.move x
theorem DB.make (s : Det1 B w d p h A Q) (k : Keeps Nob w w') {va vb : Value} (r : RV w' q p h2 A2 Q2 va vb) (hr : ∀ j, RF q va vb j → w.heap.size ≤ j) (i : DInv p h2 A2 Q2) (hB : B ≤ w.heap.size) : DB B w' d p h A Q q h2 A2 Q2 := by
  obtain ⟨P, who, s1, s2, s3⟩ := s.ex
  exact ⟨⟨P, who, va, vb, s1.keepsN k, r, ⟨s2, s3⟩, fun j hj => Nat.le_trans hB (hr j hj), fun j hj hx => by have := s1.ltR j hj; have := hr j hx; omega⟩, s.inv, i⟩
theorem attNew_len {a : Att} : (attNew p h A a).length ≤ A.length + 1 := by unfold attNew; split <;> simp
theorem proNew_len {a : Pro} : (proNew p h Q a).length ≤ Q.length + 1 := by unfold proNew; split <;> simp
end
end
section
open Go Go.RowKit Go.Own Go.ChangeShapes Go.WideShapes Go.ChangeAt Go.WideElems
theorem hash_cells {H : Type} {enc : TypeId × Value → H} {W : World} {sp : Nat → Bool} {held : Bool} {n off : Nat} {cs : List Value} {y : Option (DataW H × List MemPlace)} {z : DataW H × List MemPlace} (h : DataW.trod enc prog W 0 sp held n 25 ((cs.drop off).take (prog.cellsOf 25)) = y) (hy : y = some z) :
    ∃ l : List UInt8, l.length = 32 ∧ (cs.drop off).take 32 = B l := by
  subst hy
  have hh : prog.cellsOf 25 = 32 := by kernel_rfl
  rw [hh] at h
  generalize (cs.drop off).take 32 = c at *
  obtain ⟨xs, m, _, _, hc, hxl, hel⟩ := DataW.trod_array underlying25 h
  have hC : prog.cellsOf 5 = 1 := by kernel_rfl
  rw [hC] at hel
  obtain ⟨l, hl, hq⟩ := list_of (fun i (x : UInt8) => c[i]? = some (.int .u8 (x.toNat : Int))) 32 (fun i hlt => by
    have h1 := hel i hlt
    rw [List.getElem?_eq_getElem (show i < xs.length by omega)] at h1
    obtain ⟨q, e1, _, e3⟩ := DataW.trod_int underlying5 h1
    obtain ⟨x, rfl⟩ := u8_nat e3
    refine ⟨x, ?_⟩
    have h2 : ((c.drop (i * 1)).take 1)[0]? = some (.int .u8 (x.toNat : Int)) := by rw [e1]; rfl
    rw [List.getElem?_take_of_lt (by omega), List.getElem?_drop] at h2
    simpa using h2)
  refine ⟨l, hl, List.ext_getElem? fun i => ?_⟩
  by_cases hi : i < 32
  · obtain ⟨x, hx⟩ : ∃ x, l[i]? = some x := ⟨_, List.getElem?_eq_getElem (by omega)⟩
    rw [hq i x hx, B_get _ _ _ hx]
  · have h32 : c.length = 32 := by rw [hc, hh]
    rw [List.getElem?_eq_none (by omega), List.getElem?_eq_none (by rw [B_length]; omega)]
theorem att_cells {H : Type} {enc : TypeId × Value → H} {W : World} {sp : Nat → Bool} {held : Bool} {n : Nat} {cs : List Value} {z : DataW H × List MemPlace} (h : DataW.trod enc prog W 0 sp held n 28 cs = some z) (hl : cs.length = 36) : ∃ a : Att, cs = a.c.toList ∧ a.Ok := by
  have hi : prog.cellsOf 3 = 1 := by kernel_rfl
  have hu : prog.cellsOf 26 = 1 := by kernel_rfl
  obtain ⟨xs, n', _, _, _, hxl, hf⟩ := DataW.trod_struct underlying28 h
  obtain ⟨q0, e0, f0⟩ := field_int underlying3 hi (hf 0 _ rfl) (List.getElem?_eq_getElem (by rw [hxl]; decide))
  obtain ⟨q1, e1, f1⟩ := field_int underlying3 hi (hf 1 _ rfl) (List.getElem?_eq_getElem (by rw [hxl]; decide))
  obtain ⟨q2, e2, f2⟩ := field_int underlying3 hi (hf 2 _ rfl) (List.getElem?_eq_getElem (by rw [hxl]; decide))
  obtain ⟨r, hr, er⟩ := hash_cells (off := 3) (hf 3 _ rfl) (List.getElem?_eq_getElem (by rw [hxl]; decide))
  obtain ⟨q4, e4, f4⟩ := field_int underlying26 hu (hf 4 _ rfl) (List.getElem?_eq_getElem (by rw [hxl]; decide))
  obtain ⟨g, hg, rfl⟩ := u64_nat f4
  refine ⟨⟨q0, q1, q2, r, g⟩, ?_, ⟨bounds_i64 f0, bounds_i64 f1, bounds_i64 f2, hr, hg⟩⟩
  match cs, hl, e0, e1, e2, er, e4 with
  | a :: b :: c :: r', hl, e0, e1, e2, er, e4 =>
    have e0 : some a = some (Value.int .i64 q0) := e0
    cases e0
    have e1 : some b = some (Value.int .i64 q1) := e1
    have e2 : some c = some (Value.int .i64 q2) := e2
    cases e1; cases e2
    have e4 : r'[32]? = some (Value.int .u64 (g : Int)) := e4
    have er : r'.take 32 = B r := er
    have hl : r'.length = 33 := by simpa using hl
    simp only [Att.c, List.cons.injEq, true_and]
    rw [← er]
    conv => lhs; rw [← List.take_append_drop 32 r']
    congr 1
    rw [List.drop_eq_getElem_cons (by omega), List.drop_of_length_le (by omega)]
    rw [List.getElem?_eq_getElem (by omega)] at e4
    rw [Option.some.inj e4]
theorem pro_cells {H : Type} {enc : TypeId × Value → H} {W : World} {sp : Nat → Bool} {held : Bool} {n : Nat} {cs : List Value} {z : DataW H × List MemPlace} (h : DataW.trod enc prog W 0 sp held n 37 cs = some z) (hl : cs.length = 35) : ∃ a : Pro, cs = a.c.toList ∧ a.Ok := by
  have hi : prog.cellsOf 3 = 1 := by kernel_rfl
  have hu : prog.cellsOf 26 = 1 := by kernel_rfl
  obtain ⟨xs, n', _, _, _, hxl, hf⟩ := DataW.trod_struct underlying37 h
  obtain ⟨q0, e0, f0⟩ := field_int underlying3 hi (hf 0 _ rfl) (List.getElem?_eq_getElem (by rw [hxl]; decide))
  obtain ⟨q1, e1, f1⟩ := field_int underlying3 hi (hf 1 _ rfl) (List.getElem?_eq_getElem (by rw [hxl]; decide))
  obtain ⟨r, hr, er⟩ := hash_cells (off := 2) (hf 2 _ rfl) (List.getElem?_eq_getElem (by rw [hxl]; decide))
  obtain ⟨q4, e4, f4⟩ := field_int underlying26 hu (hf 3 _ rfl) (List.getElem?_eq_getElem (by rw [hxl]; decide))
  obtain ⟨g, hg, rfl⟩ := u64_nat f4
  refine ⟨⟨q0, q1, r, g⟩, ?_, ⟨bounds_i64 f0, bounds_i64 f1, hr, hg⟩⟩
  match cs, hl, e0, e1, er, e4 with
  | a :: b :: r', hl, e0, e1, er, e4 =>
    have e0 : some a = some (Value.int .i64 q0) := e0
    cases e0
    have e1 : some b = some (Value.int .i64 q1) := e1
    cases e1
    have e4 : r'[32]? = some (Value.int .u64 (g : Int)) := e4
    have er : r'.take 32 = B r := er
    have hl : r'.length = 33 := by simpa using hl
    simp only [Pro.c, List.cons.injEq, true_and]
    rw [← er]
    conv => lhs; rw [← List.take_append_drop 32 r']
    congr 1
    rw [List.drop_eq_getElem_cons (by omega), List.drop_of_length_le (by omega)]
    rw [List.getElem?_eq_getElem (by omega)] at e4
    rw [Option.some.inj e4]
end
section
open Go Go.RowKit Go.Own Go.Shelf Go.ChangeShapes Go.WideShapes Go.ChangeAt Go.WideElems
structure DAct where
  (k : Int) (a : Att) (q : Pro) (h : Int)
structure DAct.Ok (x : DAct) : Prop where
  k : i64b x.k
  a : x.a.Ok
  q : x.q.Ok
  h : i64b x.h
def DAct.cl (x : DAct) : List Value := iI x.k :: (x.a.cl ++ (x.q.cl ++ [iI x.h]))
def DAct.c (x : DAct) : Array Value := x.cl.toArray
section
variable {x : DAct}
theorem DAct.c_size (h : x.Ok) : x.c.size = 73 := vdC_size (Att.cl_len h.a) (Pro.cl_len h.q)
theorem DAct.cl_len (h : x.Ok) : x.cl.length = 73 := by have := DAct.c_size h; simpa [DAct.c] using this
theorem DAct.c_one : x.c.all (·.oneCell') = true := by
  have h1 := Att.c_one x.a
  have h2 := Pro.c_one x.q
  rw [← Array.all_toList] at h1 h2
  unfold DAct.c DAct.cl
  rw [List.all_toArray, List.all_cons, List.all_append, List.all_append, show x.a.cl.all (·.oneCell') = true from h1, show x.q.cl.all (·.oneCell') = true from h2]; rfl
theorem DAct.c_0 : x.c[0]? = some (iI x.k) := rfl
theorem DAct.c_h (h : x.Ok) : x.c[72]? = some (iI x.h) := vdC_first (Att.cl_len h.a) (Pro.cl_len h.q)
theorem DAct.c_a {j : Nat} {u : Value} (h : x.a.cl[j]? = some u) : x.c[1 + j]? = some u := by
  unfold DAct.c DAct.cl
  rw [List.getElem?_toArray, Nat.add_comm, List.getElem?_cons_succ, List.getElem?_append_left (List.getElem?_eq_some_iff.1 h).1]; exact h
theorem DAct.c_q (hx : x.Ok) {j : Nat} {u : Value} (h : x.q.cl[j]? = some u) : x.c[37 + j]? = some u := by
  have hl := Att.cl_len hx.a
  unfold DAct.c DAct.cl
  rw [List.getElem?_toArray, show 37 + j = (36 + j) + 1 by omega, List.getElem?_cons_succ, List.getElem?_append_right (by omega), hl, Nat.add_sub_cancel_left, List.getElem?_append_left (List.getElem?_eq_some_iff.1 h).1]; exact h
end
theorem dact_cells {H : Type} {enc : TypeId × Value → H} {W : World} {sp : Nat → Bool} {held : Bool} {n : Nat} {cs : List Value} {z : DataW H × List MemPlace} (h : DataW.trod enc prog W 0 sp held n 54 cs = some z) (hl : cs.length = 73) : ∃ x : DAct, cs = x.cl ∧ x.Ok := by
  have hi : prog.cellsOf 3 = 1 := by kernel_rfl
  have hA : prog.cellsOf 28 = 36 := by kernel_rfl
  have hP : prog.cellsOf 37 = 35 := by kernel_rfl
  obtain ⟨xs, n', _, _, _, hxl, hf⟩ := DataW.trod_struct underlying54 h
  obtain ⟨q0, e0, f0⟩ := field_int underlying3 hi (hf 0 _ rfl) (List.getElem?_eq_getElem (by rw [hxl]; decide))
  obtain ⟨q3, e3, f3⟩ := field_int underlying3 hi (hf 3 _ rfl) (List.getElem?_eq_getElem (by rw [hxl]; decide))
  have l1 : 1 < xs.length := by rw [hxl]; decide
  have l2 : 2 < xs.length := by rw [hxl]; decide
  have h1 := (hf 1 _ rfl).trans (List.getElem?_eq_getElem l1)
  have h2 := (hf 2 _ rfl).trans (List.getElem?_eq_getElem l2)
  have h1' : DataW.trod enc prog W 0 sp held n' 28 ((cs.drop 1).take 36) = some xs[1] := by have hh := h1; change DataW.trod enc prog W 0 sp held n' 28 ((cs.drop 1).take (prog.cellsOf 28)) = some xs[1] at hh; rw [hA] at hh; exact hh
  have h2' : DataW.trod enc prog W 0 sp held n' 37 ((cs.drop 37).take 35) = some xs[2] := by have hh := h2; change DataW.trod enc prog W 0 sp held n' 37 ((cs.drop 37).take (prog.cellsOf 37)) = some xs[2] at hh; rw [hP] at hh; exact hh
  obtain ⟨a, ha, hao⟩ := att_cells h1' (by rw [List.length_take, List.length_drop, hl]; rfl)
  obtain ⟨q, hq, hqo⟩ := pro_cells h2' (by rw [List.length_take, List.length_drop, hl]; rfl)
  refine ⟨⟨q0, a, q, q3⟩, ?_, ⟨bounds_i64 f0, hao, hqo, bounds_i64 f3⟩⟩
  match cs, hl, e0, e3, ha, hq with
  | c0 :: r', hl, e0, e3, ha, hq =>
    have e0 : some c0 = some (Value.int .i64 q0) := e0
    cases e0
    have ha : r'.take 36 = a.cl := ha
    have hq : (r'.drop 36).take 35 = q.cl := hq
    have hl : r'.length = 72 := by simpa using hl
    have e3 : r'[71]? = some (Value.int .i64 q3) := e3
    have e4 : (r'.drop 36).drop 35 = [Value.int .i64 q3] := by
      rw [List.drop_drop]
      apply List.ext_getElem?
      intro i
      rw [List.getElem?_drop]
      cases i with
      | zero => exact e3
      | succ i => rw [List.getElem?_eq_none (by omega), List.getElem?_eq_none (by simp)]
    simp only [DAct.cl, List.cons.injEq, true_and]
    rw [← ha, ← hq, ← e4, List.take_append_drop, List.take_append_drop]
theorem open_dacts {H : Type} {enc : TypeId × Value → H} {W : World} {sp : Nat → Bool} {held : Bool} {v : Value} {d : DataW H} {ps : List MemPlace} (h : DataW.Trod enc prog W 0 sp held 49 v d ps) (hv : ∃ a len cap, v = .slice a len cap) : ∃ l : List DAct, Sl W 73 DAct.cl v l ∧ ∀ x ∈ l, x.Ok := by
  have hC : prog.cellsOf 54 = 73 := by kernel_rfl
  obtain ⟨a, len, cap, rfl, hl, hm, hnz, hi⟩ := open_elemsN underlying49 (by rw [hC]; omega) h hv
  rw [hC] at hi
  obtain ⟨l, hll, hq⟩ := list_of (fun i (x : DAct) => x.Ok ∧ ∃ b o, a = some ⟨b, o, none⟩ ∧ ∀ (j : Nat) (u : Value), x.cl[j]? = some u → W.cell? ⟨b, o + i * 73 + j, none⟩ = some u) len (fun i hlt => by
    obtain ⟨b, o, cs, n, y, ha, hcl, hcell, ht⟩ := hi i hlt
    obtain ⟨x, rfl, hok⟩ := dact_cells ht hcl
    exact ⟨x, hok, b, o, ha, fun j u hj => (hcell j (by have := (List.getElem?_eq_some_iff.1 hj).1; omega)).trans hj⟩)
  subst hll
  refine ⟨l, ⟨⟨a, cap, rfl, hl, hm, hnz⟩, fun k x hk => ?_⟩, fun x hx => ?_⟩
  · obtain ⟨hok, b, o, rfl, hc⟩ := hq k x hk
    exact ⟨b, o, cap, rfl, World.block_lt_of_cell? W _ (hc 0 _ rfl), hc⟩
  · obtain ⟨k, hk⟩ := List.getElem?_of_mem hx
    exact (hq k x hk).1
end
section
open Go Go.RowKit Go.Own Go.Shelf
def OvAt (W : World) (T : TypeId) (z n : Nat) (A : Option Addr) : Prop := ∀ g, A = some ⟨g, 0, none⟩ → ∃ cs, HP W g cs T ∧ n * z ≤ cs.size
section
variable {W W' : World} {T : TypeId} {z n : Nat} {A : Option Addr}
theorem OvAt.nob (h : OvAt W T z n A) (k : Keeps Nob W W') : OvAt W' T z n A := fun g e => let ⟨cs, a, b⟩ := h g e; ⟨cs, k.bk a, b⟩
theorem OvAt.one {g : Nat} {c : Array Value} {U : TypeId} {fr : Nat × Nat} (h : OvAt W T z n A) (hg : W.heap[g]? = some (.cells c U fr)) (hne : U ≠ T) (k : Keeps (One g) W W') : OvAt W' T z n A := fun g e => let ⟨cs, a, b⟩ := h g e; ⟨cs, k.odd (Odd.one hg hne) a, b⟩
theorem OvAt.here {g : Nat} {cs : Array Value} (e : A = some ⟨g, 0, none⟩) (h : HP W g cs T) (hs : n * z ≤ cs.size) : OvAt W T z n A := fun g' e' => by
 rw [e] at e'
 simp only [Option.some.injEq, Addr.mk.injEq, and_true] at e'
 exact ⟨cs, e' ▸ h, hs⟩
theorem Row.ov {xs : List Value} {c B : Nat} (h : Row W T z (.slice A n c) n xs) (hn : NewFrom B (.slice A n c)) : OvAt W T z n A ∧ (0 < n → ∃ g, A = some ⟨g, 0, none⟩ ∧ B ≤ g) := by
 rcases h.2 with ⟨e, h0⟩ | ⟨g, cap, cur, e, hb, hg, h1, h2, h3, h4⟩
 ·simp only [Value.slice.injEq] at e
  obtain ⟨rfl, _⟩ := e
  exact ⟨fun g e => (by cases e), fun x => by omega⟩
 ·simp only [Value.slice.injEq] at e
  obtain ⟨rfl, _, rfl⟩ := e
  exact ⟨OvAt.here rfl hg (by rw [h3]; exact Nat.mul_le_mul_right z h1), fun _ => ⟨g, rfl, hn g rfl⟩⟩
end
theorem seg_size {cs : Array Value} {o : Nat} {vs : List Value} (h : o + vs.length ≤ cs.size) : (seg cs o vs).size = cs.size := by
 simp only [seg, List.size_toArray, List.length_append, List.length_take, List.length_drop, Array.length_toList]; omega
def oAtt : Att := ⟨-77, 0, 0, List.replicate 32 0, 0⟩
def oPro : Pro := ⟨-77, 0, List.replicate 32 0, 0⟩
theorem oAtt_ok : oAtt.Ok := ⟨by decide, by decide, by decide, rfl, by decide⟩
theorem oPro_ok : oPro.Ok := ⟨by decide, by decide, rfl, by decide⟩
theorem RDet.hgt {w : World} {q b : Nat} {p : Par} {h : Int} {A : List Att} {Q : List Pro} (s : RDet w q b p h A Q) : w.cell? ⟨q, 11, none⟩ = some (iI h) := let ⟨_, _, e, _⟩ := s; rc e rfl
theorem sameV_is (va vb : Value) (l : List Att) (w : World) (Ha : AttsAt w va l) (Hb : AttsAt w vb l) (ok : ∀ x ∈ l, x.Ok) : Calls prog 18 #[va, vb] w (RK w (.bool true)) := by
 have := ltsameVotes_ok va vb l l w Ha Hb ok ok
 rwa [decide_eq_true rfl] at this
theorem sameB_is (va vb : Value) (l : List Pro) (w : World) (Ha : ProsAt w va l) (Hb : ProsAt w vb l) (ok : ∀ x ∈ l, x.Ok) : Calls prog 15 #[va, vb] w (RK w (.bool true)) := by
 have := ltsameBlocks_ok va vb l l w Ha Hb ok ok
 rwa [decide_eq_true rfl] at this
def qc131_0 (n : Nat) : Code := partOf f35 n
theorem ltalike_ok (B d q : Nat) (p : Par) (h : Int) (A : List Att) (Q : List Pro) (v : Int) (w : World) (D0 : DB B w d p h A Q q h A Q) (hA : A.length ≤ 300) (hQ : Q.length ≤ 300) :
  Calls prog 35 #[pT d 0, pT q 0, iI v] w (RK w (.bool true)) := by
 have inv := D0.inv
 obtain ⟨l, el⟩ : ∃ l, votesOf p h A v = l := ⟨_, rfl⟩
 obtain ⟨m, em⟩ : ∃ l, blocksOf p h Q v = l := ⟨_, rfl⟩
 have okl : ∀ x ∈ l, x.Ok := fun x hx => (inv.a x (mem_votes.1 (el ▸ hx)).1).1
 have okm : ∀ x ∈ m, x.Ok := fun x hx => (inv.q x (mem_blocks.1 (em ▸ hx)).1).1
 have K0 := kz0 w
 refine sf_ (qc131_0 1) func35 <| qr_ [0] <| kk 1 <| eqr_ nl8_ <| kk 2 ?_
 refine pcq 11 #[pT d 0, iI v] func11 (((el ▸ Det1.votes (DB.fst D0) v)).mono ?_)
 rintro e V1 ⟨va, rfl, hrV1, hnV1, j1⟩
 obtain ⟨Aa, ca, rfl⟩ := Row.shape hrV1 rfl
 have hsV1 : AttsAt V1 (.slice Aa l.length ca) l := Row.sl hrV1 rfl (fun x hx => Att.cl_len (okl x hx))
 have hlV1 := hsV1.len_le
 have hzV1 := K0.size
 obtain ⟨hova, hfga⟩ := Row.ov hrV1 hnV1
 refine ⟨_, rfl, ?_⟩
 have K2 := K0.nn j1
 refine kk 2 ?_
 refine pcq 16 #[pT d 0, iI v] func16 (((em ▸ Det1.blocks (DB.fst (D0.keepsN K2)) v)).mono ?_)
 rintro e V3 ⟨vb, rfl, hrV3, hnV3, j3⟩
 obtain ⟨Ab, cb, rfl⟩ := Row.shape hrV3 rfl
 have hsV3 : ProsAt V3 (.slice Ab m.length cb) m := Row.sl hrV3 rfl (fun x hx => Pro.cl_len (okm x hx))
 have hlV3 := hsV3.len_le
 have hzV3 := K2.size
 obtain ⟨hovb, hfgb⟩ := Row.ov hrV3 hnV3
 refine ⟨_, rfl, ?_⟩
 have h4 := hsV1.keepsN j3
 have h5 : OvAt V3 28 36 l.length Aa := hova.nob j3
 have K6 := K2.nn j3
 refine kk 2 <| eq_ <| anp 22 (fun W => (W.cell? ⟨q, 11, none⟩ = some (iI h))) fun V7 j7 => ?_
 have h8 := h4.keepsN j7
 have h9 : OvAt V7 28 36 l.length Aa := h5.nob j7
 have h10 := hsV3.keepsN j7
 have h11 : OvAt V7 37 35 m.length Ab := hovb.nob j7
 have K12 := K6.nn j7
 refine ka [0, 1, 2] (RDet.hgt (DB.ref (D0.keepsN K12))) <| an_o 3 ?_
 refine ncq 68 #[pT q 0, iI v] func68 (((el ▸ rdVotes_ok q 0 p h A Q v _ (DB.ref (D0.keepsN K12)) inv hA)).mono ?_)
 rintro e V13 ⟨vc, rfl, hrV13, hnV13, j13⟩
 have hsV13 : AttsAt V13 vc l := Row.sl hrV13 rfl (fun x hx => Att.cl_len (okl x hx))
 have hlV13 := hsV13.len_le
 refine ⟨_, rfl, ?_⟩
 have h14 := h8.keepsN j13
 have h15 : OvAt V13 28 36 l.length Aa := h9.nob j13
 have h16 := h10.keepsN j13
 have h17 : OvAt V13 37 35 m.length Ab := h11.nob j13
 have K18 := K12.nn j13
 refine ⟨(RDet.hgt (DB.ref (D0.keepsN K18))), ?_⟩
 refine an_o 4 <| ncr 18 #[.slice Aa l.length ca, vc] func18 (sameV_is _ _ l _ h14 hsV13 okl) fun V19 j19 => ?_
 have h21 : OvAt V19 28 36 l.length Aa := h15.nob j19
 have h22 := h16.keepsN j19
 have h23 : OvAt V19 37 35 m.length Ab := h17.nob j19
 have K25 := K18.nn j19
 refine ⟨(RDet.hgt (DB.ref (D0.keepsN K25))), ?_⟩
 refine ka [5, 6, 7, 8] (RDet.hgt (DB.ref (D0.keepsN K25))) <| an_o 9 ?_
 refine ncq 69 #[pT q 0, iI v] func69 (((em ▸ rdBlocks_ok q 0 p h A Q v _ (DB.ref (D0.keepsN K25)) inv hQ)).mono ?_)
 rintro e V26 ⟨ve, rfl, hrV26, hnV26, j26⟩
 have hsV26 : ProsAt V26 ve m := Row.sl hrV26 rfl (fun x hx => Pro.cl_len (okm x hx))
 have hlV26 := hsV26.len_le
 refine ⟨_, rfl, ?_⟩
 have h28 : OvAt V26 28 36 l.length Aa := h21.nob j26
 have h29 := h22.keepsN j26
 have h30 : OvAt V26 37 35 m.length Ab := h23.nob j26
 have K32 := K25.nn j26
 refine ⟨(RDet.hgt (DB.ref (D0.keepsN K32))), ?_⟩
 refine an_o 10 <| ncr 15 #[.slice Ab m.length cb, ve] func15 (sameB_is _ _ m _ h29 hsV26 okm) fun V33 j33 => ?_
 have h35 : OvAt V33 28 36 l.length Aa := h28.nob j33
 have h37 : OvAt V33 37 35 m.length Ab := h30.nob j33
 have K40 := K32.nn j33
 refine ⟨(RDet.hgt (DB.ref (D0.keepsN K40))), ?_⟩
 refine ka [11, 12, 13, 15, 16, 17] (RDet.hgt (DB.ref (D0.keepsN K40))) <| avq 18 (iI h) (fun W hS => exec_load_cell 3 (.tmp 35) (by kernel_rfl) ⟨q, 11, none⟩ (by kernel_rfl) _ _ underlying3 rfl hS) (RDet.hgt (DB.ref (D0.keepsN K40))) <| an_o 14 ?_
 refine nct ((Det1.height (DB.fst (D0.keepsN K40))).mono ?_)
 rintro e w1 ⟨rfl, rfl⟩
 refine ⟨_, rfl, ?_⟩
 refine ⟨(RDet.hgt (DB.ref (D0.keepsN K40))), ?_⟩
 refine avq 19 (.bool true) (fun W hS => cbo (show ((((h) : Int) == ((h) : Int))) = true from by simp)) (RDet.hgt (DB.ref (D0.keepsN K40))) <| ka [20] (RDet.hgt (DB.ref (D0.keepsN K40))) <| ako 21 (hS := (RDet.hgt (DB.ref (D0.keepsN K40)))) ?_
 refine ane <| tq_ <| qr_ [0] <| kk 1 <| et_ <| bl_ 0 ?_
 refine sy_loop (qc131_0 244) (fun a V => ∃ (k : Nat), (Fr 78 [(0, pT d 0), (1, pT q 0), (2, iI v), (7, .slice Aa l.length ca), (8, .slice Ab m.length cb), (9, .bool true), (10, iN k)] [] a) ∧ (k ≤ l.length) ∧ (OvAt V 28 36 l.length Aa) ∧ (OvAt V 37 35 m.length Ab) ∧ (Keeps Nob w V)) (fun a _ => l.length - (intOf (a.tmps.getD 10 undef)).toNat) (by kernel_rfl) ?_ ?_
 ·exact ⟨0, fq, Nat.zero_le _, h35, h37, K40⟩
 ·rintro a V41 ⟨k, hfr, hk_, h42, h43, K44⟩
  obtain ⟨uu45, rfl⟩ := Fr.open hfr
  by_cases lt_k : k < l.length
  ·obtain ⟨ga, hAa, nba⟩ := hfga (by omega)
   refine q_ <| qr_ [0, 1, 2, 3] <| kk 2 <| pP (len_ Aa l.length ca underlying32) <| pP (dtT ((k : Int) < (l.length : Int))) <| ey_ <| s_ <| tq_ <| bl_ 1 <| r_ nl5_ <| kk 3 <| ppq (pT ga (k * 36)) (exec_cast (v := pT ga (0 + k * 36)) (by simp) (ixs ga 0 l.length ca .i64 k 36 underlying32 (by omega) (hx := Eq.trans (b := .slice Aa l.length ca) (by kernel_rfl) (by rw [hAa])))) ?_
   obtain ⟨cs, hgc, hsz⟩ := h42 ga hAa
   have hfit : k * 36 + (Att.c oAtt).size ≤ cs.size := by rw [Att.c_size _ oAtt_ok.r]; omega
   obtain ⟨V46, eV46⟩ : ∃ V, V41.setCells ga (k * 36) (Att.c oAtt).toList = V := ⟨_, rfl⟩
   have j46 : Keeps (One ga) V41 V46 := eV46 ▸ Keeps.setCells _ _ _ _
   have h47 : HP V46 ga (seg cs (k * 36) (Att.c oAtt).toList) 28 := eV46 ▸ heap_setCells ga _ _ (k * 36) _ _ hgc (by simpa using hfit)
   refine pzq (w' := V46) (by rw [← eV46]; exact exec_store_mid 28 (.tmp 48) (.tmp 47) (by kernel_rfl) ga (k * 36) (by kernel_rfl) (Att.c oAtt) (by kernel_rfl) _ _ hgc hfit (by rw [Att.c_size _ oAtt_ok.r]; kernel_rfl) (Att.c_one _)) ?_
   clear eV46
   have h48 : OvAt V46 37 35 m.length Ab := h43.one hgc (by decide) j46
   have K49 := K44.nO j46
   have hv50 : OvAt V46 28 36 l.length Aa := OvAt.here hAa h47 (by rw [seg_size (by simpa using hfit)]; exact hsz)
   refine ps_end <| blk_n <| tr_ [0, 1, 2] <| kk 1 <| pP (cwN (n := k + 1)) <| kk 1 <| et_ ?_
   refine ⟨⟨k + 1, fq, by omega, hv50, h48, K49⟩, ?_⟩
   exact ltm (l.length - (k + 1)) (l.length - k)
  ·skip
   refine q_ <| qr_ [0, 1, 2, 3] <| kk 2 <| pP (len_ Aa l.length ca underlying32) <| pP (dtF ((k : Int) < (l.length : Int))) <| en_ <| sy_exit 0 (by kernel_rfl) <| then_e <| then_e <| blk_e <| tq_ <| qr_ [0] <| kk 1 <| et_ <| bl_ 2 ?_
   refine sy_loop (qc131_0 500) (fun a V => ∃ (n : Nat), (Fr 78 [(0, pT d 0), (1, pT q 0), (2, iI v), (8, .slice Ab m.length cb), (9, .bool true), (11, iN n)] [] a) ∧ (n ≤ m.length) ∧ (OvAt V 28 36 l.length Aa) ∧ (OvAt V 37 35 m.length Ab) ∧ (Keeps Nob w V)) (fun a _ => m.length - (intOf (a.tmps.getD 11 undef)).toNat) (by kernel_rfl) ?_ ?_
   ·exact ⟨0, fq, Nat.zero_le _, h42, h43, K44⟩
   ·rintro a V51 ⟨n, hfr, hn_, h52, h53, K54⟩
    obtain ⟨uu55, rfl⟩ := Fr.open hfr
    by_cases lt_n : n < m.length
    ·obtain ⟨gb, hAb, nbb⟩ := hfgb (by omega)
     refine q_ <| qr_ [0, 1, 2, 3] <| kk 2 <| pP (len_ Ab m.length cb underlying40) <| pP (dtT ((n : Int) < (m.length : Int))) <| ey_ <| s_ <| tq_ <| bl_ 3 <| r_ nl5_ <| kk 3 <| ppq (pT gb (n * 35)) (exec_cast (v := pT gb (0 + n * 35)) (by simp) (ixs gb 0 m.length cb .i64 n 35 underlying40 (by omega) (hx := Eq.trans (b := .slice Ab m.length cb) (by kernel_rfl) (by rw [hAb])))) ?_
     obtain ⟨cs, hgc, hsz⟩ := h53 gb hAb
     have hfit : n * 35 + (Pro.c oPro).size ≤ cs.size := by rw [Pro.c_size _ oPro_ok.r]; omega
     obtain ⟨V56, eV56⟩ : ∃ V, V51.setCells gb (n * 35) (Pro.c oPro).toList = V := ⟨_, rfl⟩
     have j56 : Keeps (One gb) V51 V56 := eV56 ▸ Keeps.setCells _ _ _ _
     have h57 : HP V56 gb (seg cs (n * 35) (Pro.c oPro).toList) 37 := eV56 ▸ heap_setCells gb _ _ (n * 35) _ _ hgc (by simpa using hfit)
     refine pzq (w' := V56) (by rw [← eV56]; exact exec_store_mid 37 (.tmp 58) (.tmp 57) (by kernel_rfl) gb (n * 35) (by kernel_rfl) (Pro.c oPro) (by kernel_rfl) _ _ hgc hfit (by rw [Pro.c_size _ oPro_ok.r]; kernel_rfl) (Pro.c_one _)) ?_
     clear eV56
     have h58 : OvAt V56 28 36 l.length Aa := h52.one hgc (by decide) j56
     have K59 := K54.nO j56
     have hv60 : OvAt V56 37 35 m.length Ab := OvAt.here hAb h57 (by rw [seg_size (by simpa using hfit)]; exact hsz)
     refine ps_end <| blk_n <| tr_ [0, 1, 2] <| kk 1 <| pP (cwN (n := n + 1)) <| kk 1 <| et_ ?_
     refine ⟨⟨n + 1, fq, by omega, h58, hv60, K59⟩, ?_⟩
     exact ltm (m.length - (n + 1)) (m.length - n)
    ·skip
     refine q_ <| qr_ [0, 1, 2, 3] <| kk 2 <| pP (len_ Ab m.length cb underlying40) <| pP (dtF ((n : Int) < (m.length : Int))) <| en_ <| sy_exit 2 (by kernel_rfl) <| then_e <| then_e <| blk_e <| tqr_ nl20_ <| kk 2 <| kk 2 ?_
     refine pcq 11 #[pT d 0, iI v] func11 (((el ▸ Det1.votes (DB.fst (D0.keepsN K54)) v)).mono ?_)
     rintro e V61 ⟨vf, rfl, hrV61, hnV61, j61⟩
     have hsV61 : AttsAt V61 vf l := Row.sl hrV61 rfl (fun x hx => Att.cl_len (okl x hx))
     have hlV61 := hsV61.len_le
     refine ⟨_, rfl, ?_⟩
     have h62 : OvAt V61 28 36 l.length Aa := h52.nob j61
     have h63 : OvAt V61 37 35 m.length Ab := h53.nob j61
     have K64 := K54.nn j61
     refine kk 2 ?_
     refine pcq 68 #[pT q 0, iI v] func68 (((el ▸ rdVotes_ok q 0 p h A Q v _ (DB.ref (D0.keepsN K64)) inv hA)).mono ?_)
     rintro e V65 ⟨vg, rfl, hrV65, hnV65, j65⟩
     have hsV65 : AttsAt V65 vg l := Row.sl hrV65 rfl (fun x hx => Att.cl_len (okl x hx))
     have hlV65 := hsV65.len_le
     refine ⟨_, rfl, ?_⟩
     have h66 : OvAt V65 28 36 l.length Aa := h62.nob j65
     have h67 : OvAt V65 37 35 m.length Ab := h63.nob j65
     have h68 := hsV61.keepsN j65
     have K69 := K64.nn j65
     refine pcr 18 #[vf, vg] func18 (sameV_is _ _ l _ h68 hsV65 okl) fun V70 j70 => ?_
     have h71 : OvAt V70 28 36 l.length Aa := h66.nob j70
     have h72 : OvAt V70 37 35 m.length Ab := h67.nob j70
     have K75 := K69.nn j70
     refine kk 4 ?_
     refine pcq 16 #[pT d 0, iI v] func16 (((em ▸ Det1.blocks (DB.fst (D0.keepsN K75)) v)).mono ?_)
     rintro e V76 ⟨vi, rfl, hrV76, hnV76, j76⟩
     have hsV76 : ProsAt V76 vi m := Row.sl hrV76 rfl (fun x hx => Pro.cl_len (okm x hx))
     have hlV76 := hsV76.len_le
     refine ⟨_, rfl, ?_⟩
     have h77 : OvAt V76 28 36 l.length Aa := h71.nob j76
     have h78 : OvAt V76 37 35 m.length Ab := h72.nob j76
     have K81 := K75.nn j76
     refine kk 2 ?_
     refine pcq 69 #[pT q 0, iI v] func69 (((em ▸ rdBlocks_ok q 0 p h A Q v _ (DB.ref (D0.keepsN K81)) inv hQ)).mono ?_)
     rintro e V82 ⟨vj, rfl, hrV82, hnV82, j82⟩
     have hsV82 : ProsAt V82 vj m := Row.sl hrV82 rfl (fun x hx => Pro.cl_len (okm x hx))
     have hlV82 := hsV82.len_le
     refine ⟨_, rfl, ?_⟩
     have h83 : OvAt V82 28 36 l.length Aa := h77.nob j82
     have h84 : OvAt V82 37 35 m.length Ab := h78.nob j82
     have h87 := hsV76.keepsN j82
     have K88 := K81.nn j82
     refine pcr 15 #[vi, vj] func15 (sameB_is _ _ m _ h87 hsV82 okm) fun V89 j89 => ?_
     have h90 : OvAt V89 28 36 l.length Aa := h83.nob j89
     have h91 : OvAt V89 37 35 m.length Ab := h84.nob j89
     have K96 := K88.nn j89
     refine kk 2 <| eu_ <| so_ (.bool true) ?_
     exact ⟨rfl, K96⟩
def qc131_1 (n : Nat) : Code := partOf f34 n
theorem ltdoes_ok (B d q : Nat) (p : Par) (h : Int) (A : List Att) (Q : List Pro) (x : DAct) (hx1 : x.Ok) (w : World) (hB : B ≤ w.heap.size) (D0 : DB B w d p h A Q q h A Q) (hA : A.length ≤ 300) (hQ : Q.length ≤ 300) :
  Calls prog 34 #[pT d 0, pT q 0, .agg (DAct.c x)] w (fun e w' => ∃ (d' q' : Nat) (h' : Int) (A' : List Att) (Q' : List Pro), e = .returned (.tuple #[pT d' 0, pT q' 0, .bool true]) ∧ DB B w' d' p h' A' Q' q' h' A' Q' ∧ A'.length ≤ A.length + 1 ∧ Q'.length ≤ Q.length + 1 ∧ Keeps (fun j => B ≤ j) w w') := by
 have inv := D0.inv
 have K0 := Keeps.refl ((fun j => B ≤ j)) w
 refine sf_ (qc131_1 1) func34 <| qr_ [0, 1, 2, 3] <| pbg 54 (DAct.c x) fun V1 gy egy h2 j1 => ?_
 have n3 := nk egy K0
 have kb4 := (Keeps.refl Nob w).nn j1
 have K5 := K0.nn j1
 refine kk 3 <| eq_ <| qr_ [0, 1] <| kk 1 <| pP (lc h2 (DAct.c_0)) <| et_ <| bl_ 0 <| q_ ?_
 rcases (show x.k = 0 ∨ x.k = 1 ∨ x.k = 2 ∨ x.k = 3 ∨ (¬ x.k = 0 ∧ ¬ x.k = 1 ∧ ¬ x.k = 2 ∧ ¬ x.k = 3) by omega) with hk | hk | hk | hk | hk
 ·skip
  refine r_ [0, 1] <| ppq (.bool true) (cbo (show ((((x.k) : Int) == ((0) : Int))) = true from by rw [hk]; rfl)) <| kk 1 <| ey_ <| qr_ nl10_ <| kk 2 <| ppq (.agg (Att.c x.a)) (exec_load_seg 28 (.tmp 25) (by kernel_rfl) gy 1 (by kernel_rfl) (Att.cl x.a) _ _ _ h2 (fun j u h => DAct.c_a h) underlying28 rfl (by rw [Att.cl_len hx1.a]; kernel_rfl)) ?_
  refine pct ((DB.attest (D0.keepsN kb4) (Nat.le_trans hB K5.size) hx1.a).mono ?_)
  rintro e V6 ⟨rfl, hDV6, MV6, hMV6, j6⟩
  refine ⟨_, rfl, ?_⟩
  have h7 : HP V6 gy (DAct.c x) 54 := (j6.block gy (lt_of_block h2) (fun e => hMV6.no h2 e)).trans h2
  have K8 : Keeps ((fun j => B ≤ j)) w V6 := K5.then j6 (fun i hi hm => Nat.le_of_not_lt (fun h => hMV6.sub i h hm))
  refine kk 3 <| pag 57 (vdC 0 attZ proZ 0) fun V9 g1 eg1 h10 j9 => ?_
  have := nqk1 eg1 h7 K8
  have h13 := j9.bk h7
  have kb14 := (Keeps.refl Nob V6).nn j9
  have K15 := K8.nn j9
  refine pst 57 g1 (Vd.c (attVd p h A x.a)) h10 (by rw [Vd.c_size (attVd_ok inv)]; kernel_rfl) (vd_sizes (Vd.c_size (attVd_ok inv)) (by kernel_rfl)) Vd.c_one fun V16 h17 j16 => ?_
  have h18 := j16.bO h13
  have kb19 : Keeps Nob V6 V16 := kb14.nO j16
  have K20 := K15.nO j16
  refine kk 1 <| eqr_ nl10_ <| kk 2 <| ppq (.agg (Att.c x.a)) (exec_load_seg 28 (.tmp 32) (by kernel_rfl) gy 1 (by kernel_rfl) (Att.cl x.a) _ _ _ h18 (fun j u h => DAct.c_a h) underlying28 rfl (by rw [Att.cl_len hx1.a]; kernel_rfl)) ?_
  refine pct ((DB.rattest (hDV6.keepsN kb19) (Nat.le_trans hB K20.size) hA hx1.a).mono ?_)
  rintro e V21 ⟨rfl, hDV21, MV21, hMV21, j21⟩
  refine ⟨_, rfl, ?_⟩
  have h22 : HP V21 gy (DAct.c x) 54 := (j21.block gy (lt_of_block h18) (fun e => hMV21.no h18 e)).trans h18
  have h23 : HP V21 g1 (Vd.c (attVd p h A x.a)) 57 := (j21.block g1 (lt_of_block h17) (fun e => hMV21.no h17 e)).trans h17
  have K24 : Keeps ((fun j => B ≤ j)) w V21 := K20.then j21 (fun i hi hm => Nat.le_of_not_lt (fun h => hMV21.sub i h hm))
  refine kk 3 <| pag 57 (vdC 0 attZ proZ 0) fun V25 g2 eg2 h26 j25 => ?_
  have := nqk2 eg2 h22 h23 K24
  have h31 := j25.bk h23
  have kb32 := (Keeps.refl Nob V21).nn j25
  have K33 := K24.nn j25
  refine pst 57 g2 (Vd.c (attVd p h A x.a)) h26 (by rw [Vd.c_size (attVd_ok inv)]; kernel_rfl) (vd_sizes (Vd.c_size (attVd_ok inv)) (by kernel_rfl)) Vd.c_one fun V34 h35 j34 => ?_
  have h37 := j34.bO h31
  have kb38 : Keeps Nob V21 V34 := kb32.nO j34
  have K39 := K33.nO j34
  refine kk 1 <| eqr_ nl13_ <| kk 2 <| pP (ldz 57 g1 h37 (Vd.c_size (attVd_ok inv))) <| pP (ldz 57 g2 h35 (Vd.c_size (attVd_ok inv))) <| ppq (.bool true) (exec_cast (congrArg Value.bool (decide_eq_true (show ((attVd p h A x.a) : Vd) = (attVd p h A x.a) from rfl))) (exec_binop .eql 57 57 (.tmp 39) (.tmp 40) (by kernel_rfl) (.agg (Vd.c ((attVd p h A x.a)))) (.agg (Vd.c ((attVd p h A x.a)))) _ (by kernel_rfl) (by kernel_rfl) (run_eqGuard_agg _ _ _ _ _ _ _ vd_guard) (vd_eq _ _ (attVd_ok inv) (attVd_ok inv) _))) <| kk 3 <| ppq (.bool true) (cbo (show ((((attErr p h x.a) : Int) == ((attErr p h x.a) : Int))) = true from by simp)) <| kk 3 <| kk 1 <| eu_ <| blk_r <| then_r <| so_ (.tuple #[pT d 0, pT q 0, .bool true]) ?_
  exact ⟨d, q, h, (attNew p h A x.a), Q, rfl, (hDV21.keepsN kb38), attNew_len, (Nat.le_succ _), K39⟩
 ·skip
  refine r_ [0, 1] <| ppq (.bool false) (cbo (show ((((x.k) : Int) == ((0) : Int))) = false from by rw [hk]; rfl)) <| kk 1 <| en_ <| qr_ [0, 1] <| ppq (.bool true) (cbo (show ((((x.k) : Int) == ((1) : Int))) = true from by rw [hk]; rfl)) <| kk 1 <| ey_ <| qr_ nl10_ <| kk 2 <| ppq (.agg (Pro.c x.q)) (exec_load_seg 37 (.tmp 51) (by kernel_rfl) gy 37 (by kernel_rfl) (Pro.cl x.q) _ _ _ h2 (fun j u h => DAct.c_q hx1 h) underlying37 rfl (by rw [Pro.cl_len hx1.q]; kernel_rfl)) ?_
  refine pct ((DB.propose (D0.keepsN kb4) (Nat.le_trans hB K5.size) hx1.q).mono ?_)
  rintro e V40 ⟨rfl, hDV40, MV40, hMV40, j40⟩
  refine ⟨_, rfl, ?_⟩
  have h41 : HP V40 gy (DAct.c x) 54 := (j40.block gy (lt_of_block h2) (fun e => hMV40.no h2 e)).trans h2
  have K42 : Keeps ((fun j => B ≤ j)) w V40 := K5.then j40 (fun i hi hm => Nat.le_of_not_lt (fun h => hMV40.sub i h hm))
  refine kk 3 <| pag 57 (vdC 0 attZ proZ 0) fun V43 g3 eg3 h44 j43 => ?_
  have := nqk1 eg3 h41 K42
  have h47 := j43.bk h41
  have kb48 := (Keeps.refl Nob V40).nn j43
  have K49 := K42.nn j43
  refine pst 57 g3 (Vd.c (proVd p h Q x.q)) h44 (by rw [Vd.c_size (proVd_ok inv)]; kernel_rfl) (vd_sizes (Vd.c_size (proVd_ok inv)) (by kernel_rfl)) Vd.c_one fun V50 h51 j50 => ?_
  have h52 := j50.bO h47
  have kb53 : Keeps Nob V40 V50 := kb48.nO j50
  have K54 := K49.nO j50
  refine kk 1 <| eqr_ nl10_ <| kk 2 <| ppq (.agg (Pro.c x.q)) (exec_load_seg 37 (.tmp 58) (by kernel_rfl) gy 37 (by kernel_rfl) (Pro.cl x.q) _ _ _ h52 (fun j u h => DAct.c_q hx1 h) underlying37 rfl (by rw [Pro.cl_len hx1.q]; kernel_rfl)) ?_
  refine pct ((DB.rpropose (hDV40.keepsN kb53) (Nat.le_trans hB K54.size) hQ hx1.q).mono ?_)
  rintro e V55 ⟨rfl, hDV55, MV55, hMV55, j55⟩
  refine ⟨_, rfl, ?_⟩
  have h56 : HP V55 gy (DAct.c x) 54 := (j55.block gy (lt_of_block h52) (fun e => hMV55.no h52 e)).trans h52
  have h57 : HP V55 g3 (Vd.c (proVd p h Q x.q)) 57 := (j55.block g3 (lt_of_block h51) (fun e => hMV55.no h51 e)).trans h51
  have K58 : Keeps ((fun j => B ≤ j)) w V55 := K54.then j55 (fun i hi hm => Nat.le_of_not_lt (fun h => hMV55.sub i h hm))
  refine kk 3 <| pag 57 (vdC 0 attZ proZ 0) fun V59 g4 eg4 h60 j59 => ?_
  have := nqk2 eg4 h56 h57 K58
  have h65 := j59.bk h57
  have kb66 := (Keeps.refl Nob V55).nn j59
  have K67 := K58.nn j59
  refine pst 57 g4 (Vd.c (proVd p h Q x.q)) h60 (by rw [Vd.c_size (proVd_ok inv)]; kernel_rfl) (vd_sizes (Vd.c_size (proVd_ok inv)) (by kernel_rfl)) Vd.c_one fun V68 h69 j68 => ?_
  have h71 := j68.bO h65
  have kb72 : Keeps Nob V55 V68 := kb66.nO j68
  have K73 := K67.nO j68
  refine kk 1 <| eqr_ nl13_ <| kk 2 <| pP (ldz 57 g3 h71 (Vd.c_size (proVd_ok inv))) <| pP (ldz 57 g4 h69 (Vd.c_size (proVd_ok inv))) <| ppq (.bool true) (exec_cast (congrArg Value.bool (decide_eq_true (show ((proVd p h Q x.q) : Vd) = (proVd p h Q x.q) from rfl))) (exec_binop .eql 57 57 (.tmp 65) (.tmp 66) (by kernel_rfl) (.agg (Vd.c ((proVd p h Q x.q)))) (.agg (Vd.c ((proVd p h Q x.q)))) _ (by kernel_rfl) (by kernel_rfl) (run_eqGuard_agg _ _ _ _ _ _ _ vd_guard) (vd_eq _ _ (proVd_ok inv) (proVd_ok inv) _))) <| kk 3 <| ppq (.bool true) (cbo (show ((((proErr p h x.q) : Int) == ((proErr p h x.q) : Int))) = true from by simp)) <| kk 3 <| kk 1 <| eu_ <| blk_r <| then_r <| so_ (.tuple #[pT d 0, pT q 0, .bool true]) ?_
  exact ⟨d, q, h, A, (proNew p h Q x.q), rfl, (hDV55.keepsN kb72), (Nat.le_succ _), proNew_len, K73⟩
 ·skip
  refine r_ [0, 1] <| ppq (.bool false) (cbo (show ((((x.k) : Int) == ((0) : Int))) = false from by rw [hk]; rfl)) <| kk 1 <| en_ <| qr_ [0, 1] <| ppq (.bool false) (cbo (show ((((x.k) : Int) == ((1) : Int))) = false from by rw [hk]; rfl)) <| kk 1 <| en_ <| qr_ [0, 1] <| ppq (.bool true) (cbo (show ((((x.k) : Int) == ((2) : Int))) = true from by rw [hk]; rfl)) <| kk 1 <| ey_ <| q_ <| sy_np <| sy_reg <| anb 14 (fun W => (HP W gy (DAct.c x) 54)) #[false, false, false, false, false, false, false, false, false, false, false, false, false, false] ?_
  obtain ⟨V74, eV74, j74⟩ := drew_step V1
  rw [eV74]
  clear eV74
  have kb75 := kb4.nn j74
  have ⟨K77, h76⟩ := j74.K1 K5 h2
  refine kA [0, 1, 2, 3] <| aV 4 _ (fun W hS => lc hS (DAct.c_h hx1)) <| kA [6, 7] <| aV 8 _ (fun W hS => lc hS (DAct.c_h hx1)) <| an_o 5 ?_
  refine nct ((DB.move (D0.keepsN kb75) (Nat.le_trans hB K77.size) x.h).mono ?_)
  rintro e V78 ⟨rfl, hDV78, MV78, hMV78, j78⟩
  refine ⟨_, rfl, ?_⟩
  have h79 : HP V78 gy (DAct.c x) 54 := (j78.block gy (lt_of_block h76) (fun e => hMV78.no h76 e)).trans h76
  have K80 : Keeps ((fun j => B ≤ j)) w V78 := K77.then j78 (fun i hi hm => Nat.le_of_not_lt (fun h => hMV78.sub i h hm))
  refine ⟨h79, ?_⟩
  refine an_o 9 ?_
  refine nct ((DB.rmove hDV78 (Nat.le_trans hB K80.size) x.h).mono ?_)
  rintro e V81 ⟨rfl, hDV81, MV81, hMV81, j81⟩
  refine ⟨_, rfl, ?_⟩
  have h82 : HP V81 gy (DAct.c x) 54 := (j81.block gy (lt_of_block h79) (fun e => hMV81.no h79 e)).trans h79
  have K83 : Keeps ((fun j => B ≤ j)) w V81 := K80.then j81 (fun i hi hm => Nat.le_of_not_lt (fun h => hMV81.sub i h hm))
  refine ⟨h82, ?_⟩
  refine aV 10 (.bool true) (fun W hS => cbo (show ((((movErr h x.h) : Int) == ((movErr h x.h) : Int))) = true from by simp)) <| ako 11 ?_
  refine ako 12 ?_
  refine ako 13 ?_
  refine ane <| then_n <| u_ <| blk_r <| then_r <| so_ (.tuple #[pT d 0, pT q 0, .bool true]) ?_
  exact ⟨d, q, (movH h x.h), A, Q, rfl, hDV81, (Nat.le_succ _), (Nat.le_succ _), K83⟩
 ·skip
  refine r_ [0, 1] <| ppq (.bool false) (cbo (show ((((x.k) : Int) == ((0) : Int))) = false from by rw [hk]; rfl)) <| kk 1 <| en_ <| qr_ [0, 1] <| ppq (.bool false) (cbo (show ((((x.k) : Int) == ((1) : Int))) = false from by rw [hk]; rfl)) <| kk 1 <| en_ <| qr_ [0, 1] <| ppq (.bool false) (cbo (show ((((x.k) : Int) == ((2) : Int))) = false from by rw [hk]; rfl)) <| kk 1 <| en_ <| qr_ [0, 1] <| ppq (.bool true) (cbo (show ((((x.k) : Int) == ((3) : Int))) = true from by rw [hk]; rfl)) <| kk 1 <| ey_ <| qr_ nl6_ <| kk 1 ?_
  refine pct ((DB.copy (D0.keepsN kb4) (Nat.le_trans hB K5.size)).mono ?_)
  rintro e V84 ⟨cc, rfl, hDV84, j84⟩
  refine ⟨_, rfl, ?_⟩
  have ⟨K86, h85⟩ := j84.K1 K5 h2
  refine kk 1 ?_
  refine pct ((D3.rcopy hDV84 (Nat.le_trans hB K86.size) hA hQ).mono ?_)
  rintro e V87 ⟨vv, rfl, hDV87, j87⟩
  refine ⟨_, rfl, ?_⟩
  have ⟨K89, h88⟩ := j87.K1 K86 h85
  refine kk 2 <| eqr_ [0, 1, 2, 3] <| kk 2 <| ppq (.agg (Att.c x.a)) (exec_load_seg 28 (.tmp 93) (by kernel_rfl) gy 1 (by kernel_rfl) (Att.cl x.a) _ _ _ h88 (fun j u h => DAct.c_a h) underlying28 rfl (by rw [Att.cl_len hx1.a]; kernel_rfl)) ?_
  refine pct ((D3.attest hDV87 (Nat.le_trans hB K89.size) hx1.a).mono ?_)
  rintro e V90 ⟨rfl, hDV90, MV90, hMV90, j90⟩
  refine ⟨_, rfl, ?_⟩
  have h91 : HP V90 gy (DAct.c x) 54 := (j90.block gy (lt_of_block h88) (fun e => hMV90.no h88 e)).trans h88
  have K92 : Keeps ((fun j => B ≤ j)) w V90 := K89.then j90 (fun i hi hm => Nat.le_of_not_lt (fun h => hMV90.sub i h hm))
  refine eqr_ [0, 1, 2, 3] <| kk 2 <| ppq (.agg (Pro.c x.q)) (exec_load_seg 37 (.tmp 97) (by kernel_rfl) gy 37 (by kernel_rfl) (Pro.cl x.q) _ _ _ h91 (fun j u h => DAct.c_q hx1 h) underlying37 rfl (by rw [Pro.cl_len hx1.q]; kernel_rfl)) ?_
  refine pct ((D3.propose hDV90 (Nat.le_trans hB K92.size) hx1.q).mono ?_)
  rintro e V93 ⟨rfl, hDV93, MV93, hMV93, j93⟩
  refine ⟨_, rfl, ?_⟩
  have h94 : HP V93 gy (DAct.c x) 54 := (j93.block gy (lt_of_block h91) (fun e => hMV93.no h91 e)).trans h91
  have K95 : Keeps ((fun j => B ≤ j)) w V93 := K92.then j93 (fun i hi hm => Nat.le_of_not_lt (fun h => hMV93.sub i h hm))
  refine eqr_ [0, 1, 2, 3] <| kk 2 <| pP (lc h94 (DAct.c_h hx1)) ?_
  refine pct ((D3.move hDV93 (Nat.le_trans hB K95.size) x.h).mono ?_)
  rintro e V96 ⟨rfl, hDV96, MV96, hMV96, j96⟩
  refine ⟨_, rfl, ?_⟩
  have K98 : Keeps ((fun j => B ≤ j)) w V96 := K95.then j96 (fun i hi hm => Nat.le_of_not_lt (fun h => hMV96.sub i h hm))
  refine eqr_ nl5_ <| kk 5 <| eu_ <| blk_r <| then_r <| so_ (.tuple #[pT cc 0, pT vv 0, .bool true]) ?_
  exact ⟨cc, vv, h, A, Q, rfl, (D3.out hDV96), (Nat.le_succ _), (Nat.le_succ _), K98⟩
 ·skip
  refine r_ [0, 1] <| ppq (.bool false) (cbo (show ((((x.k) : Int) == ((0) : Int))) = false from by simpa using hk.1)) <| kk 1 <| en_ <| qr_ [0, 1] <| ppq (.bool false) (cbo (show ((((x.k) : Int) == ((1) : Int))) = false from by simpa using hk.2.1)) <| kk 1 <| en_ <| qr_ [0, 1] <| ppq (.bool false) (cbo (show ((((x.k) : Int) == ((2) : Int))) = false from by simpa using hk.2.2.1)) <| kk 1 <| en_ <| qr_ [0, 1] <| ppq (.bool false) (cbo (show ((((x.k) : Int) == ((3) : Int))) = false from by simpa using hk.2.2.2)) <| kk 1 <| en_ <| s_ <| blk_n <| tqr_ nl5_ <| kk 5 <| eu_ <| so_ (.tuple #[pT d 0, pT q 0, .bool true]) ?_
  exact ⟨d, q, h, A, Q, rfl, (D0.keepsN kb4), (Nat.le_succ _), (Nat.le_succ _), K5⟩
theorem Nc.nil {n : Nat} : Nc (.slice none 0 0) n := fun _ _ e => by cases e
theorem DAct.cl_a0 {x : DAct} : x.cl[1]? = some (iI x.a.v) := by have := DAct.c_a (x := x) (j := 0) Att.cl_0; simpa [DAct.c] using this
theorem DAct.cl_q0 {x : DAct} (h : x.Ok) : x.cl[37]? = some (iI x.q.v) := by have := DAct.c_q h (j := 0) Pro.cl_0; simpa [DAct.c] using this
def qc132_1 (n : Nat) : Code := partOf f33 n
theorem rdNew_bad (p : Par) (hp : p.Ok) (e0 y0 : Int) (hc : p.check = (e0, y0)) (w : World) (h0 : ¬ e0 = 0) :
  Calls prog 33 #[.agg p.cells] w (RK w (.tuple #[.pointer none, iI e0])) := by
 have K0 := kz0 w
 refine sf_ (qc132_1 1) func33 <| qr_ [0, 1, 2] <| pbg 47 p.cells fun V1 bp ebp h2 j1 => ?_
 have n3 := nk ebp K0
 have K4 := K0.nn j1
 refine kk 2 <| eq_ <| qr_ nl7_ <| ppq (.agg p.cells) (exec_load_row 47 (.tmp 1) (by kernel_rfl) bp (by kernel_rfl) 47 (Par.cells p) (0, 0) _ h2 underlying47 rfl (by kernel_rfl)) <| pcs (r7_is hp hc _) fun V5 j5 => ?_
 have K7 := K4.nn j5
 refine kk 5 <| eqr_ [0, 1] <| kk 1 <| ppq (.bool true) (cbo (show ((((e0) : Int) != ((0) : Int))) = true from by simpa using h0)) <| ey_ <| qr_ [0, 1, 2] <| kk 3 <| eu_ <| then_r <| so_ (.tuple #[.pointer none, iI e0]) ?_
 exact ⟨rfl, K7⟩
theorem rdNew_fine (p : Par) (hp : p.Ok) (e0 y0 : Int) (hc : p.check = (e0, y0)) (w : World) (h0 : e0 = 0) :
  Calls prog 33 #[.agg p.cells] w (fun e w' => ∃ q, e = .returned (.tuple #[pT q 0, iI 0]) ∧ RV w' q p 1 [] [] (.slice none 0 0) (.slice none 0 0) ∧ w.heap.size ≤ q ∧ Keeps Nob w w') := by
 have K0 := kz0 w
 refine sf_ (qc132_1 1) func33 <| qr_ [0, 1, 2] <| pbg 47 p.cells fun V8 bp ebp h9 j8 => ?_
 have n10 := nk ebp K0
 have K11 := K0.nn j8
 refine kk 2 <| eq_ <| qr_ nl7_ <| ppq (.agg p.cells) (exec_load_row 47 (.tmp 1) (by kernel_rfl) bp (by kernel_rfl) 47 (Par.cells p) (0, 0) _ h9 underlying47 rfl (by kernel_rfl)) <| pcs (r7_is hp hc _) fun V12 j12 => ?_
 have ⟨K14, h13⟩ := j12.K1 K11 h9
 refine kk 5 <| eqr_ [0, 1] <| kk 1 <| ppq (.bool false) (cbo (show ((((e0) : Int) != ((0) : Int))) = false from by simpa using h0)) <| en_ <| s_ <| tqr_ nl5_ <| ppq (.agg p.cells) (exec_load_row 47 (.tmp 1) (by kernel_rfl) bp (by kernel_rfl) 47 (Par.cells p) (0, 0) _ h13 underlying47 rfl (by kernel_rfl)) <| kk 1 <| pbg 113 (rdC p 1 (.slice none 0 0) (.slice none 0 0)) fun V15 q eq h16 j15 => ?_
 have := nqk1 eq h13 K14
 have K20 := K14.nn j15
 refine kk 2 <| eu_ <| so_ (.tuple #[pT q 0, iI 0]) ?_
 exact ⟨q, rfl, ⟨h16, ⟨rfl, .inl ⟨rfl, rfl⟩⟩, ⟨rfl, .inl ⟨rfl, rfl⟩⟩, Nc.nil, Nc.nil⟩, by omega, K20⟩
def qc132_0 (n : Nat) : Code := partOf f6 n
theorem acts_bad (p : Par) (hp : p.Ok) (lv : Value) (l : List DAct) (w : World) (hl : Sl w 73 DAct.cl lv l ∧ ∀ x ∈ l, x.Ok) (e0 y0 : Int) (hc : p.check = (e0, y0)) (h0 : ¬ e0 = 0) :
  Calls prog 6 #[.agg p.cells, lv] w (RK w (.bool true)) := by
 obtain ⟨hs, hok⟩ := hl
 have hll := hs.len_le
 have K0 := Keeps.refl ((fun j => w.heap.size ≤ j)) w
 refine sf_ (qc132_0 1) func6 <| qr_ [0, 1] <| pbg 47 p.cells fun V1 bp ebp h2 j1 => ?_
 have n3 := nk ebp K0
 have K4 := K0.nn j1
 refine kk 1 <| eq_ <| q_ ?_
 by_cases h40 : l.length > 40
 ·refine r_ [0, 1, 2] <| kk 1 <| ppq (iN l.length) (lsl (hs.keeps K4 (fun j _ hl hm => by omega)) underlying49) <| pP (dtT ((l.length : Int) > ((40) : Int))) <| ey_ <| qr_ [0, 1] <| pcs (ltawake_ok _) fun V5 j5 => ?_
  have K7 := K4.nn j5
  refine kk 1 <| eu_ <| then_r <| so_ (.bool true) ?_
  exact ⟨rfl, (Keeps.refl Nob w).then K7 (fun i hi hm => absurd hi (Nat.not_lt.2 hm))⟩
 ·refine r_ [0, 1, 2] <| kk 1 <| ppq (iN l.length) (lsl (hs.keeps K4 (fun j _ hl hm => by omega)) underlying49) <| pP (dtF ((l.length : Int) > ((40) : Int))) <| en_ <| s_ <| tqr_ nl7_ <| ppq (.agg p.cells) (exec_load_row 47 (.tmp 2) (by kernel_rfl) bp (by kernel_rfl) 47 (Par.cells p) (0, 0) _ h2 underlying47 rfl (by kernel_rfl)) <| pcs (dNew_bad p _ hp e0 y0 hc h0) fun V8 j8 => ?_
  have ⟨K10, h9⟩ := j8.K1 K4 h2
  refine kk 5 <| eqr_ nl7_ <| ppq (.agg p.cells) (exec_load_row 47 (.tmp 2) (by kernel_rfl) bp (by kernel_rfl) 47 (Par.cells p) (0, 0) _ h9 underlying47 rfl (by kernel_rfl)) <| pcs (rdNew_bad p hp e0 y0 hc _ h0) fun V11 j11 => ?_
  have K13 := K10.nn j11
  refine kk 5 <| eq_ <| qr_ nl10_ <| kk 2 <| ppq (.bool false) (cbo (show ((((e0) : Int) != ((e0) : Int))) = false from by simp)) <| kk 4 <| kk 3 <| en_ <| s_ <| tq_ <| qr_ [0] <| kk 1 <| et_ <| bl_ 0 <| sy_rounds 1 (qc132_0 1012) (by kernel_rfl) <| rd_step <| q_ <| qr_ nl8_ <| kk 8 <| en_ <| sy_exit 0 (by kernel_rfl) <| then_e <| then_e <| blk_e <| tqr_ [0, 1] <| pcs (ltawake_ok _) fun V14 j14 => ?_
  have K16 := K13.nn j14
  refine kk 1 <| eu_ <| so_ (.bool true) ?_
  exact ⟨rfl, (Keeps.refl Nob w).then K16 (fun i hi hm => absurd hi (Nat.not_lt.2 hm))⟩
theorem acts_good (p : Par) (hp : p.Ok) (lv : Value) (l : List DAct) (w : World) (hl : Sl w 73 DAct.cl lv l ∧ ∀ x ∈ l, x.Ok) (y0 : Int) (hc : p.check = (0, y0)) :
  Calls prog 6 #[.agg p.cells, lv] w (RK w (.bool true)) := by
 obtain ⟨hs, hok⟩ := hl
 have hll := hs.len_le
 have K0 := Keeps.refl ((fun j => w.heap.size ≤ j)) w
 refine sf_ (qc132_0 1) func6 <| qr_ [0, 1] <| pbg 47 p.cells fun V1 bp ebp h2 j1 => ?_
 have n3 := nk ebp K0
 have K4 := K0.nn j1
 refine kk 1 <| eq_ <| q_ ?_
 by_cases h40 : l.length > 40
 ·refine r_ [0, 1, 2] <| kk 1 <| ppq (iN l.length) (lsl (hs.keeps K4 (fun j _ hl hm => by omega)) underlying49) <| pP (dtT ((l.length : Int) > ((40) : Int))) <| ey_ <| qr_ [0, 1] <| pcs (ltawake_ok _) fun V5 j5 => ?_
  have K7 := K4.nn j5
  refine kk 1 <| eu_ <| then_r <| so_ (.bool true) ?_
  exact ⟨rfl, (Keeps.refl Nob w).then K7 (fun i hi hm => absurd hi (Nat.not_lt.2 hm))⟩
 ·refine r_ [0, 1, 2] <| kk 1 <| ppq (iN l.length) (lsl (hs.keeps K4 (fun j _ hl hm => by omega)) underlying49) <| pP (dtF ((l.length : Int) > ((40) : Int))) <| en_ <| s_ <| tqr_ nl7_ <| ppq (.agg p.cells) (exec_load_row 47 (.tmp 2) (by kernel_rfl) bp (by kernel_rfl) 47 (Par.cells p) (0, 0) _ h2 underlying47 rfl (by kernel_rfl)) ?_
  refine pct ((det_new p hp y0 hc _).mono ?_)
  rintro e V8 ⟨d, rfl, hDV8, hdwV8, j8⟩
  have hLV8 := hDV8.lower K4.size
  refine ⟨_, rfl, ?_⟩
  have ⟨K10, h9⟩ := j8.K1 K4 h2
  refine kk 5 <| eqr_ nl7_ <| ppq (.agg p.cells) (exec_load_row 47 (.tmp 2) (by kernel_rfl) bp (by kernel_rfl) 47 (Par.cells p) (0, 0) _ h9 underlying47 rfl (by kernel_rfl)) ?_
  refine pct ((rdNew_fine p hp 0 y0 hc _ rfl).mono ?_)
  rintro e V11 ⟨q, rfl, hRV11, hqwV11, j11⟩
  have hEV11 := DB.make hLV8 j11 hRV11 (fun j hj => by rcases hj with rfl | hj | hj; exact hqwV11; cases hj; cases hj) (hLV8).inv K10.size
  refine ⟨_, rfl, ?_⟩
  have K13 := K10.nn j11
  refine kk 5 <| eq_ <| qr_ nl10_ <| kk 7 <| kk 3 <| en_ <| s_ <| tq_ <| qr_ [0] <| kk 1 <| et_ <| bl_ 0 ?_
  refine sy_loop (qc132_0 1012) (fun a V => ∃ (i : Nat) (dd : Nat) (qq : Nat) (h : Int) (A : List Att) (Q : List Pro), (Fr 87 [(1, lv), (5, pT dd 0), (7, pT qq 0), (9, iN i)] [] a) ∧ (i ≤ l.length) ∧ (A.length ≤ i) ∧ (Q.length ≤ i) ∧ (DB w.heap.size V dd p h A Q qq h A Q) ∧ (Keeps ((fun j => w.heap.size ≤ j)) w V)) (fun a _ => l.length - (intOf (a.tmps.getD 9 undef)).toNat) (by kernel_rfl) ?_ ?_
  ·exact ⟨0, d, q, 1, [], [], fq, Nat.zero_le _, Nat.le_refl _, Nat.le_refl _, hEV11, K13⟩
  ·rintro a V14 ⟨i, dd, qq, h, A, Q, hfr, hi, hiA, hiQ, h15, K16⟩
   obtain ⟨uu17, rfl⟩ := Fr.open hfr
   by_cases lt_i : i < l.length
   ·obtain ⟨x0, hx⟩ : ∃ x, l[i]? = some x := ⟨_, List.getElem?_eq_getElem lt_i⟩
    have hxo := hok x0 (List.mem_of_getElem? hx)
    obtain ⟨b_x, o_x, c_x, hv_x, hb_x, _⟩ := ((hs.keeps K16 (fun j _ hl hm => by omega))).at_ i _ hx
    refine q_ <| qr_ nl8_ <| kk 5 <| ppq (iN l.length) (lsl (hs.keeps K16 (fun j _ hl hm => by omega)) underlying49) <| pP (dtT ((i : Int) < (l.length : Int))) <| kk 1 <| ey_ <| s_ <| tq_ <| bl_ 1 <| qr_ [0] <| kk 1 <| eqr_ nl14_ <| kk 4 <| pP (ixh hv_x i 73 underlying49) <| ppq (.agg (DAct.c x0)) (exec_load_mid 54 (.tmp 50) (by kernel_rfl) b_x (o_x + i * 73) (by kernel_rfl) (DAct.cl x0) _ (Sl.range (hs.keeps K16 (fun j _ hl hm => by omega)) hx hv_x) underlying54 rfl (by rw [DAct.cl_len hxo]; kernel_rfl)) ?_
    refine pcq 34 #[pT dd 0, pT qq 0, .agg (DAct.c x0)] func34 ((ltdoes_ok _ _ _ _ _ _ _ x0 hxo _ K16.size h15 (by omega) (by omega)).mono ?_)
    rintro e V18 ⟨d2, q2, h2_, A2, Q2, rfl, hDV18, hla, hlq, j18⟩
    refine ⟨_, rfl, ?_⟩
    have K19 : Keeps ((fun j => w.heap.size ≤ j)) w V18 := K16.then j18 (fun i hi hm => hm)
    refine kk 7 <| eqr_ nl30_ <| kk 6 <| kk 5 <| pP (ixh hv_x i 73 underlying49) <| kk 2 <| ppq (iI x0.a.v) (ldc 3 b_x (o_x + i * 73 + 1) (Sl.cell (hs.keeps K19 (fun j _ hl hm => by omega)) hx hv_x DAct.cl_a0)) <| pcr 35 #[pT d2 0, pT q2 0, iI x0.a.v] func35 (ltalike_ok _ _ _ _ _ _ _ _ _ hDV18 (by omega) (by omega)) fun V20 j20 => ?_
    have kb21 := (Keeps.refl Nob V18).nn j20
    have K22 := K19.nn j20
    refine kk 7 <| pP (ixh hv_x i 73 underlying49) <| kk 2 <| ppq (iI x0.q.v) (ldc 3 b_x (o_x + i * 73 + 37) (Sl.cell (hs.keeps K22 (fun j _ hl hm => by omega)) hx hv_x (DAct.cl_q0 hxo))) <| pcr 35 #[pT d2 0, pT q2 0, iI x0.q.v] func35 (ltalike_ok _ _ _ _ _ _ _ _ _ (hDV18.keepsN kb21) (by omega) (by omega)) fun V23 j23 => ?_
    have kb24 := kb21.nn j23
    have K25 := K22.nn j23
    refine kk 2 <| en_ <| s_ <| blk_n <| tr_ [0, 1, 2] <| kk 1 <| pP (cwN (n := i + 1)) <| kk 1 <| et_ ?_
    refine ⟨⟨i + 1, d2, q2, h2_, A2, Q2, fq, by omega, by omega, by omega, (hDV18.keepsN kb24), K25⟩, ?_⟩
    exact ltm (l.length - (i + 1)) (l.length - i)
   ·skip
    refine q_ <| qr_ nl8_ <| kk 5 <| ppq (iN l.length) (lsl (hs.keeps K16 (fun j _ hl hm => by omega)) underlying49) <| pP (dtF ((i : Int) < (l.length : Int))) <| kk 1 <| en_ <| sy_exit 0 (by kernel_rfl) <| then_e <| then_e <| blk_e <| tqr_ [0, 1] <| pcs (ltawake_ok _) fun V26 j26 => ?_
    have kb27 := (Keeps.refl Nob V14).nn j26
    have K28 := K16.nn j26
    refine kk 1 <| eu_ <| so_ (.bool true) ?_
    exact ⟨rfl, (Keeps.refl Nob w).then K28 (fun i hi hm => absurd hi (Nat.not_lt.2 hm))⟩
theorem acts_all (p : Par) (hp : p.Ok) (lv : Value) (l : List DAct) (w : World) (hl : Sl w 73 DAct.cl lv l ∧ ∀ x ∈ l, x.Ok) : Calls prog 6 #[.agg p.cells, lv] w (RK w (.bool true)) := by
 cases hc : p.check with
 | mk e0 y0 =>
  by_cases h0 : e0 = 0
  ·subst h0; exact acts_good p hp lv l w hl y0 hc
  ·exact acts_bad p hp lv l w hl e0 y0 hc h0
end
section
open Go Go.RowKit Go.Own Go.ChangeShapes Go.WideShapes Go.ChangeAt Go.WideElems
theorem open_params {H : Type} {enc : TypeId × Value → H} {W : World} {sp : Nat → Bool} {held : Bool} {v : Value} {d : DataW H} {ps : List MemPlace} {R : Reach} {base : Nat} (h : DataW.Trod enc prog W 0 sp held 47 v d ps) (hv : Value.okWide prog W R base 47 v) :
    ∃ p : Par, v = p.v ∧ p.Ok := by
  obtain ⟨cs, rfl, hsz⟩ := okWide_struct underlying47 hv
  have hC : prog.cellsOf 47 = 11 := by kernel_rfl
  have hi : prog.cellsOf 3 = 1 := by kernel_rfl
  have hu : prog.cellsOf 26 = 1 := by kernel_rfl
  rw [hC] at hsz
  obtain ⟨fuel, ht⟩ := h
  have ht : DataW.trod enc prog W 0 sp held fuel 47 cs.toList = some (d, ps) := ht
  obtain ⟨xs, n', _, _, _, hxl, hf⟩ := DataW.trod_struct underlying47 ht
  obtain ⟨q0, e0, f0⟩ := field_int underlying3 hi (hf 0 _ rfl) (List.getElem?_eq_getElem (by rw [hxl]; decide))
  obtain ⟨q1, e1, f1⟩ := field_int underlying3 hi (hf 1 _ rfl) (List.getElem?_eq_getElem (by rw [hxl]; decide))
  obtain ⟨q2, e2, f2⟩ := field_int underlying3 hi (hf 2 _ rfl) (List.getElem?_eq_getElem (by rw [hxl]; decide))
  obtain ⟨q3, e3, f3⟩ := field_int underlying3 hi (hf 3 _ rfl) (List.getElem?_eq_getElem (by rw [hxl]; decide))
  obtain ⟨q4, e4, f4⟩ := field_int underlying3 hi (hf 4 _ rfl) (List.getElem?_eq_getElem (by rw [hxl]; decide))
  obtain ⟨q5, e5, f5⟩ := field_int underlying3 hi (hf 5 _ rfl) (List.getElem?_eq_getElem (by rw [hxl]; decide))
  obtain ⟨q6, e6, f6⟩ := field_int underlying3 hi (hf 6 _ rfl) (List.getElem?_eq_getElem (by rw [hxl]; decide))
  obtain ⟨q7, e7, f7⟩ := field_int underlying26 hu (hf 7 _ rfl) (List.getElem?_eq_getElem (by rw [hxl]; decide))
  obtain ⟨q8, e8, f8⟩ := field_int underlying26 hu (hf 8 _ rfl) (List.getElem?_eq_getElem (by rw [hxl]; decide))
  obtain ⟨q9, e9, f9⟩ := field_int underlying3 hi (hf 9 _ rfl) (List.getElem?_eq_getElem (by rw [hxl]; decide))
  obtain ⟨q10, e10, f10⟩ := field_int underlying26 hu (hf 10 _ rfl) (List.getElem?_eq_getElem (by rw [hxl]; decide))
  have ui : ∀ {a : Int}, (Lit.int .i64 a).wf = true → i64ok a := fun h => bounds_i64 h
  have uu : ∀ {a : Int}, (Lit.int .u64 a).wf = true → u64ok a := fun h => by
    obtain ⟨n, h1, rfl⟩ := u64_nat h
    unfold u64ok; omega
  refine ⟨⟨q0, q1, q2, q3, q4, q5, q6, q7, q8, q9, q10⟩, ?_, ⟨ui f0, ui f1, ui f2, ui f3, ui f4, ui f5, ui f6, uu f7, uu f8, ui f9, uu f10⟩⟩
  have : cs = #[iI q0, iI q1, iI q2, iI q3, iI q4, iI q5, iI q6, .int .u64 q7, .int .u64 q8, iI q9, .int .u64 q10] := by
    apply Array.ext_getElem?
    intro i
    by_cases hlt : i < 11
    · have h' : i = 0 ∨ i = 1 ∨ i = 2 ∨ i = 3 ∨ i = 4 ∨ i = 5 ∨ i = 6 ∨ i = 7 ∨ i = 8 ∨ i = 9 ∨ i = 10 := by omega
      have tl : ∀ j : Nat, cs[j]? = cs.toList[j]? := fun j => by simp
      rw [tl]
      rcases h' with rfl | rfl | rfl | rfl | rfl | rfl | rfl | rfl | rfl | rfl | rfl <;> assumption
    · rw [Array.getElem?_eq_none (by omega), Array.getElem?_eq_none (by simp; omega)]
  rw [this]; rfl
end
end Go.Proofs.YthmclmbeflbhhaaGreat
end
namespace Go.Proofs.YthmclmbeflbhhaaGreat.detectActs
open Go.ChangeShapes Go.WideShapes Go.ChangeAt Go.RowKit Go.Own
open Go.ChangeMaps (open_string shut_string)
theorem own : ownKnob Tryz.prog.godebug = none := by kernel_rfl
theorem laid : laidOutB Tryz.prog = true := by kernel_rfl
set_option maxRecDepth 100000 in
theorem lifted (os : Os) (started : os.Started) (H : Type) (enc : TypeId × Value → H) :
    ReturnsInHanded {} Tryz.checked os 6 .any (Rows.detectActsSpec.pre6 enc Tryz.prog Tryz.f6 Rows.detectActsRow.domain false) (Rows.detectActsSpec.post enc Tryz.prog Tryz.f6 false true false false) := by
  refine returnsInHanded_of_change (C := Tryz.checked) own started (by kernel_rfl) Tryz.func6
    (ChangeSpec.witness6 (enc := enc) (C := Tryz.checked) false ⟨#[], #[.agg #[.int .i64 0, .int .i64 0, .int .i64 0, .int .i64 0, .int .i64 0, .int .i64 0, .int .i64 0, .int .u64 0, .int .u64 0, .int .i64 0, .int .u64 0], .slice none 0 0], []⟩ 8 (by kernel_rfl) (by kernel_rfl) (by kernel_rfl) (by kernel_rfl)) ?_
  intro W base args ds gs before hval0 hW hcnd _
  have hval : ∀ (j : Nat) t v, Tryz.f6.params[j]? = some t → args[j]? = some v → Value.okWide Tryz.prog W .any base t v := hval0
  have hW' := hW
  obtain ⟨p, q, hA0, hV, rfl, hfz, hnd⟩ := hW
  have hA : DataW.TrodAll enc Tryz.prog W 0 (fun _ => true) true Tryz.f6.params.toList args.toList ds p := hA0
  rw [Tryz.params6] at hA hval
  obtain ⟨v0, vs0, d0, ds0, p0, q0, hargs, rfl, rfl, h0, r0⟩ := trodAll_cons hA
  obtain ⟨v1, vs1, d1, ds1, p1, q1, rfl, rfl, rfl, h1, r1⟩ := trodAll_cons r0
  obtain ⟨rfl, rfl, rfl⟩ := trodAll_nil r1
  obtain rfl : args = #[v0, v1] := by cases args; simp_all
  obtain ⟨rfl, rfl⟩ := trodVars_none hV
  obtain ⟨p0, rfl, hp0⟩ := open_params h0 (hval 0 47 v0 rfl rfl)
  obtain ⟨l1, hl1⟩ := open_dacts h1 (okWide_slice Tryz.underlying49 (hval 1 49 v1 rfl rfl))
  clear hA0 hval0
  refine (acts_all p0 hp0 v1 l1 W hl1).mono fun e W' ⟨he, hg⟩ => ?_
  subst he
  exact ⟨_, rfl, law_post laid (by kernel_rfl) rfl Tryz.underlying4 rfl rfl hW' (hg.below (Nat.le_refl _) (fun _ _ x => x))⟩
theorem proved : Rows.DetectActsSaid :=
  OpenClaim.holds_of_wide 6 Tryz.f6 rfl rfl rfl rfl rfl rfl rfl ⟨rfl, rfl, rfl, rfl, rfl⟩ rfl rfl rfl rfl rfl (by kernel_rfl) Tryz.func6 (by kernel_rfl)
    (of_decide_eq_true (by kernel_rfl)) (by unfold Func.isWrapper; first | (rw [if_pos (by decide +kernel)]; kernel_rfl) | (rw [if_neg (by decide +kernel)]; exact ⟨rfl, rfl⟩))
    (fun os started H enc _ => lifted os started H enc)
end Go.Proofs.YthmclmbeflbhhaaGreat.detectActs
