import Derived.Test.YthmclmbeflbhhaaGreatDetectActsP5
set_option maxRecDepth 100000
set_option maxHeartbeats 4000000
noncomputable section
open Go.Proofs.Tryz
namespace Go.Proofs.YthmclmbeflbhhaaGreat
section
open Go Go.RowKit Go.Own Go.Shelf
def proErr (p : Par) (h : Int) (q : Pro) : Int := if q.err ≠ 0 then q.err else if q.h > h then 17 else if q.h < dfl p h then 16 else 0
def dPro (l : List Pro) (q : Pro) : Vd :=
  match l.find? (fun b => decide (b.h = q.h)) with
  | some w => if doubP q w = true then ⟨2, zAtt, w, q.h⟩ else ⟨1, zAtt, w, 0⟩
  | none => Vd.z
def proVd (p : Par) (h : Int) (Q : List Pro) (q : Pro) : Vd := if proErr p h q = 0 then dPro (blocksOf p h Q q.v) q else Vd.z
def proNew (p : Par) (h : Int) (Q : List Pro) (q : Pro) : List Pro := if proErr p h q = 0 ∧ (proVd p h Q q).k = 0 then Q ++ [q] else Q
structure ComesP (p : Par) (h : Int) (q : Pro) : Prop where
  fine : q.fine
  hi : q.h ≤ h
  lo : dfl p h ≤ q.h
section
variable {p : Par} {h : Int} {A : List Att} {Q : List Pro} {q : Pro}
theorem proErr_1 (h1 : ¬ q.err = 0) : proErr p h q = q.err := by unfold proErr; rw [if_pos h1]
theorem proErr_2 (h1 : q.err = 0) (h2 : q.h > h) : proErr p h q = 17 := by unfold proErr; rw [if_neg (by simpa using h1), if_pos h2]
theorem proErr_3 (h1 : q.err = 0) (h2 : ¬ q.h > h) (h3 : q.h < dfl p h) : proErr p h q = 16 := by unfold proErr; rw [if_neg (by simpa using h1), if_neg h2, if_pos h3]
theorem proErr_4 (h1 : q.err = 0) (h2 : ¬ q.h > h) (h3 : ¬ q.h < dfl p h) : proErr p h q = 0 := by unfold proErr; rw [if_neg (by simpa using h1), if_neg h2, if_neg h3]
theorem ComesP.err (c : ComesP p h q) : proErr p h q = 0 := proErr_4 (Pro.err_fine.2 c.fine) (by have := c.hi; omega) (by have := c.lo; omega)
theorem proErr_0 (e : proErr p h q = 0) : ComesP p h q := by
  by_cases h1 : q.err = 0
  · by_cases h2 : q.h > h
    · rw [proErr_2 h1 h2] at e; cases e
    · by_cases h3 : q.h < dfl p h
      · rw [proErr_3 h1 h2 h3] at e; cases e
      · exact ⟨Pro.err_fine.1 h1, by omega, by omega⟩
  · rw [proErr_1 h1] at e; exact absurd e h1
theorem pro_no {e : Int} (hE : proErr p h q = e) (h0 : ¬ e = 0) : proVd p h Q q = Vd.z ∧ proNew p h Q q = Q := by
  unfold proNew proVd
  rw [hE, if_neg h0, if_neg (fun x => h0 x.1)]; exact ⟨rfl, rfl⟩
theorem blocks_find (i : DInv p h A Q) : (blocksOf p h Q q.v).find? (fun b => decide (b.h = q.h)) = vbOf Q q.v (dfl p h) q.h := by
  cases hv : vbOf Q q.v (dfl p h) q.h with
  | none =>
    rw [List.find?_eq_none]
    intro b hb
    obtain ⟨b1, b2, b3⟩ := mem_blocks.1 hb
    simp only [decide_eq_true_eq]
    intro hh
    rw [(vb_some i).2 ⟨⟨b1, b2, b3⟩, hh⟩] at hv; cases hv
  | some w =>
    obtain ⟨⟨g1, g2, g3⟩, g4⟩ := (vb_some i).1 hv
    cases hf : (blocksOf p h Q q.v).find? (fun b => decide (b.h = q.h)) with
    | none => exact absurd (by simpa using g4) ((List.find?_eq_none.1 hf) w (mem_blocks.2 ⟨g1, g2, g3⟩))
    | some u =>
      obtain ⟨b1, b2, b3⟩ := mem_blocks.1 (List.mem_of_find?_eq_some hf)
      have b4 := List.find?_some hf
      simp only [decide_eq_true_eq] at b4
      rw [pros_uniq i.uq b1 g1 (by rw [b2, g2]) (by rw [b4, g4])]
theorem pro_new (i : DInv p h A Q) (hE : proErr p h q = 0) (hV : vbOf Q q.v (dfl p h) q.h = none) : proVd p h Q q = Vd.z ∧ proNew p h Q q = Q ++ [q] := by
  have h1 : proVd p h Q q = Vd.z := by unfold proVd dPro; rw [if_pos hE, blocks_find i, hV]
  refine ⟨h1, ?_⟩
  unfold proNew
  rw [h1, if_pos ⟨hE, rfl⟩]
theorem pro_two (i : DInv p h A Q) (hE : proErr p h q = 0) {b : Pro} (hV : vbOf Q q.v (dfl p h) q.h = some b) (hd : doubP q b = true) : proVd p h Q q = ⟨2, zAtt, b, q.h⟩ ∧ proNew p h Q q = Q := by
  have h1 : proVd p h Q q = ⟨2, zAtt, b, q.h⟩ := by
    unfold proVd dPro
    rw [if_pos hE, blocks_find i, hV]
    exact if_pos hd
  refine ⟨h1, ?_⟩
  unfold proNew
  rw [h1, if_neg (fun x => by cases x.2)]
theorem pro_one (i : DInv p h A Q) (hE : proErr p h q = 0) {b : Pro} (hV : vbOf Q q.v (dfl p h) q.h = some b) (hd : doubP q b = false) : proVd p h Q q = ⟨1, zAtt, b, 0⟩ ∧ proNew p h Q q = Q := by
  have h1 : proVd p h Q q = ⟨1, zAtt, b, 0⟩ := by
    unfold proVd dPro
    rw [if_pos hE, blocks_find i, hV]
    exact if_neg (by rw [hd]; simp)
  refine ⟨h1, ?_⟩
  unfold proNew
  rw [h1, if_neg (fun x => by cases x.2)]
end
theorem zPro_r : zPro.r.length = 32 := by kernel_rfl
section
variable {B : Nat} {w w' : World} {d : Nat} {p : Par} {h : Int} {A : List Att} {Q : List Pro} {F R : Nat → Prop} {v : Nat} {x : PD} {q b : Pro}
theorem qblock_T (s : DetT B w d p h A Q F R (HasP v x)) (hv : v < 32) (hqv : q.v = (v : Int)) (hV : vbOf Q q.v (dfl p h) q.h = some b) :
    Calls prog 52 #[.pointer (some ⟨x.r, 0, none⟩), iI q.h] w (RK w (.tuple #[.agg (Pro.c b), .bool true])) := by
  obtain ⟨q1, _, _, _, q2⟩ := s.part hv
  have c := qBlock_ok x.r v x.A x.B q.h w q1.rec_
  rw [q2, ← hqv, hV] at c; exact c
theorem qblock_Z (s : DetT B w d p h A Q F R (HasP v x)) (hv : v < 32) (hqv : q.v = (v : Int)) (hV : vbOf Q q.v (dfl p h) q.h = none) (hb : b = zPro) :
    Calls prog 52 #[.pointer (some ⟨x.r, 0, none⟩), iI q.h] w (RK w (.tuple #[.agg (Pro.c b), .bool false])) := by
  subst hb
  obtain ⟨q1, _, _, _, q2⟩ := s.part hv
  have c := qBlock_ok x.r v x.A x.B q.h w q1.rec_
  rw [q2, ← hqv, hV] at c; exact c
theorem DetT.krB (s : DetT B w d p h A Q F R (HasP v x)) (hv : v < 32) : ∀ i, i < B → One x.B.s i → F i := fun i hi (hm : i = x.B.s) => by
  rcases s.own hv i (.inr (.inr (.inr (.inr hm)))) with e | e
  · exact e
  · omega
theorem rputB_T (s : DetT B w d p h A Q F R (HasP v x)) (hv : v < 32) (hqv : q.v = (v : Int)) (hq : q.Ok) (c : ComesP p h q) (hn : vbOf Q q.v (dfl p h) q.h = none) :
    Calls prog 54 #[.pointer (some ⟨x.r, 0, none⟩), .agg (Pro.c q)] w fun e w' => e = .returned (iI 0) ∧ DetT B w' d p h A (Q ++ [q]) F R AnyP ∧ Keeps (One x.B.s) w w' := by
  obtain ⟨q1, a1, b1, b2, b3⟩ := s.part hv
  have hE : qPutBlockErr (v : Int) x.B q = 0 := by
    unfold qPutBlockErr whoErr gputBErr
    have hf := Pro.err_fine.2 c.fine
    have := c.hi
    have := c.lo
    have hwin : h < dfl p h + p.win * p.elen := by unfold dfl; omega
    rw [if_neg (by rw [if_neg (by simpa using hf), if_neg (by simpa using hqv)]; simp), if_neg (by omega), if_neg (by omega), b3, ← hqv, hn]; rfl
  refine (qPutBlock_ok x.r v x.A x.B q w q1.rec_ hq).mono ?_
  rintro e w' ⟨rfl, _, hg, k2⟩
  obtain ⟨S', hR⟩ := hg hE
  have k : Keeps x.own w w' := k2.mono fun j _ (hj : j = x.B.s) => .inr (.inr (.inr (.inr hj)))
  obtain ⟨P, who, s1, s2, s3, s4⟩ := s
  have hsp : Sp.SpanView w' x.FP x.sp p.win (dep p h) (Sp.viewOf (prs A v)) := by
    refine q1.span.of_keeps k2 (fun (e : x.sp = x.B.s) => ?_) (fun j hj (e : j = x.B.s) => ?_) (fun _ h => h) q1.span.nb (fun j hj => Nat.lt_of_lt_of_le (q1.span.fp j hj) k2.size)
    · obtain ⟨cs, hc⟩ := SpanView.blk q1.span
      exact rec_neB q1.rec_ hc (by decide) e
    · exact (s1.self hv s2).1 j hj (e ▸ .inr (.inr (.inr (.inr rfl))))
  have hq' : w'.heap[x.q]? = some (.cells #[.pointer (some ⟨x.sp, 0, none⟩), .pointer (some ⟨x.r, 0, none⟩)] 85 (0, 0)) := k.odd q1.still.1 q1.blk
  obtain ⟨who', g⟩ := s1.turn hv s2 k (x' := { x with B := { x.B with V := upV x.B.V q.h q, S := S' } }) rfl (fun _ h => h) (fun j hj => .inl hj) (g' := fun _ => h) (fun _ _ => rfl) (A' := A) (Q' := Q ++ [q])
    (fun u hu => by
      have hne : q.v ≠ (u : Int) := by omega
      exact ⟨rfl, fun _ => rfl, fun lo => vbOf_other hne, id, fun hn x hx => by
        rcases List.mem_append.1 hx with hx | hx
        · exact hn x hx
        · simp only [List.mem_singleton] at hx; subst hx; exact hne⟩)
    ⟨⟨hq', hsp, hR⟩, a1, b1, b2, by rw [← hqv]; rw [← vbOf_put c.lo hn, hqv]; exact congrArg (fun V => upV V q.h q) b3⟩
  refine ⟨by rw [hE], ⟨_, who', g, trivial, fun j hj => ?_, fun j hj => ?_⟩, k2⟩
  · rcases hj with rfl | ⟨u, y, hu, hy, hj⟩
    · exact s3 j (.inl rfl)
    · by_cases hne : u = v
      · simp only [if_pos hne, Option.some.injEq] at hy
        subst hy; exact s3 j (.inr ⟨v, x, hv, s2, hj⟩)
      · simp only [if_neg hne] at hy
        exact s3 j (.inr ⟨u, y, hu, hy, hj⟩)
  · obtain ⟨u, y, hu, hy, hj⟩ := hj
    by_cases hne : u = v
    · simp only [if_pos hne, Option.some.injEq] at hy
      subst hy
      exact s4 j ⟨v, x, hv, s2, hj⟩
    · simp only [if_neg hne] at hy
      exact s4 j ⟨u, y, hu, hy, hj⟩
end
theorem doub_is (a b : Pro) {r : Bool} (w : World) (ha : a.Ok) (hb : b.Ok) (h : doubP a b = r) : Calls prog 55 #[.agg (Pro.c a), .agg (Pro.c b)] w (RK w (.bool r)) := by
 subst h; exact vDoublesBlock_ok a b w ha hb
def qc106_0 (n : Nat) : Code := partOf f25 n
abbrev qo106_0 (n k : Nat) : Oper := (opsAt (qc106_0 n)).getD k default
theorem dPropose_core (d : Nat) (q : Pro) (p : Par) (h : Int) (A : List Att) (Q : List Pro) (F R : Nat → Prop) (hqo : q.Ok) (hr_q : q.r.length = 32) (inv : DInv p h A Q) (w : World) (s : DetT w.heap.size w d p h A Q F R AnyP) :
  Calls prog 25 #[pT d 0, .agg (Pro.c q)] w (fun e w' => e = .returned (.tuple #[.agg (Vd.c (proVd p h Q q)), iI (proErr p h q)]) ∧ DetT w.heap.size w' d p h A (proNew p h Q q) F R AnyP ∧ Keeps F w w') := by
 obtain ⟨PP, hPP⟩ := s.blk
 have nd := lt_of_block hPP
 have hk := inv.ok
 have hh0 : ¬ h = 0 := by have := hk.2.2; omega
 have K0 : Keeps F w w := Keeps.refl _ _
 refine sf_ (qc106_0 1) func25 <| qr_ [0, 1, 2] <| pbg 37 (Pro.c q) fun V1 gq egq h2 j1 => ?_
 have := nqk1 egq hPP K0
 have h5 := s.keepsN j1
 have ⟨K7, z8, h6⟩ := j1.z1 K0 hPP
 refine pag 57 (vdC 0 attZ proZ 0) fun V9 res eres h10 j9 => ?_
 have := nqk2 eres h6 h2 K7
 have h14 := h5.keepsN j9
 have ⟨K17, z18, h15, h16⟩ := j9.z2 K7 h6 h2
 refine kk 1 <| eq_ <| qr_ [0, 1] <| kk 1 ?_
 refine pct ((dnone_no d p h PP _ h15 hh0).mono ?_)
 rintro e w1 ⟨rfl, rfl⟩
 refine ⟨_, rfl, ?_⟩
 refine en_ <| s_ <| tqr_ nl9_ <| kk 1 <| pcr 45 #[pT d 0] func45 (dwindow_ok d p h PP _ h15 hk _ _ _ rfl rfl rfl) fun V19 j19 => ?_
 have h20 := h14.keepsN j19
 have ⟨K24, z25, h21, h22, h23⟩ := j19.z3 K17 h15 h16 h10
 refine kk 7 <| eqr_ [0, 1, 2] <| pP (ldz 37 gq h22 (Pro.c_size _ hr_q)) <| pcs (vCheckBlock_ok q _ hr_q) fun V26 j26 => ?_
 have h27 := h20.keepsN j26
 have ⟨K31, z32, h28, h29, h30⟩ := j26.z3 K24 h21 h22 h23
 refine kk 1 <| eq_ <| bl_ 0 <| q_ ?_
 by_cases g1 : q.err = 0
 ·refine r_ [0, 1, 2] <| kk 1 <| pP (nqF ((q.err) : Int) ((0) : Int)) <| kk 1 <| en_ <| q_ ?_
  by_cases g2 : q.h > h
  ·skip
   have hE : proErr p h q = (17 : Int) := proErr_2 g1 g2
   have hz : ¬ (17 : Int) = 0 := by omega
   refine rgp 7 (zo7_ (qo106_0 998)) [qo106_0 998 7] fun V34 j34 => ?_
   have h35 := h27.keepsN j34
   have ⟨K39, z40, h36, h37, h38⟩ := j34.z3 K31 h28 h29 h30
   refine ks 1 <| spq _ (lc h37 (Pro.c_1 _)) <| ks 3 <| spq _ (lc h36 (detC_h _ _ _)) <| spq _ (dtT (((q.h) : Int) > ((h) : Int))) <| st_end <| ls_run (qo106_0 998 7) (.bool true) (w' := V34) (by kernel_rfl) (by kernel_rfl) <| ls_end <| then_n <| y_ <| qr_ [0, 1, 2] <| kk 1 <| pst 57 res (vdC 0 attZ proZ 0) h38 (by kernel_rfl) (vd_sizes (by kernel_rfl) (by kernel_rfl)) (by kernel_rfl) fun V41 h42 j41 => ?_
   have h43 : DetT w.heap.size V41 d p h A Q F R AnyP := DetT.one h35 h38 (by omega) j41
   have ⟨K46, z47⟩ := j41.zo0 K39
   refine kk 1 <| eu_ <| blk_r <| then_r <| sy_out (.tuple #[.agg (vdC 0 attZ proZ 0), iI 17]) rfl (rrt 57 res h42 underlying57 (by kernel_rfl)) ?_
   exact ⟨by rw [(pro_no hE hz).1, hE]; kernel_rfl, by rw [(pro_no hE hz).2]; exact h43, K46⟩
  ·refine rgp 7 (zo7_ (qo106_0 998)) [qo106_0 998 7] fun V49 j49 => ?_
   have h50 := h27.keepsN j49
   have ⟨K54, z55, h51, h52, h53⟩ := j49.z3 K31 h28 h29 h30
   refine ks 1 <| spq _ (lc h52 (Pro.c_1 _)) <| ks 3 <| spq _ (lc h51 (detC_h _ _ _)) <| spq _ (dtF (((q.h) : Int) > ((h) : Int))) <| st_end <| ls_run (qo106_0 998 7) (.bool false) (w' := V49) (by kernel_rfl) (by kernel_rfl) <| ls_end <| then_n <| n_ <| q_ ?_
   by_cases g3 : q.h < dfl p h
   ·skip
    have hE : proErr p h q = (16 : Int) := proErr_3 g1 g2 g3
    have hz : ¬ (16 : Int) = 0 := by omega
    refine r_ nl5_ <| kk 1 <| pP (lc h52 (Pro.c_1 _)) <| kk 1 <| pP (dtT (((q.h) : Int) < ((dfl p h) : Int))) <| kk 1 <| ey_ <| qr_ [0, 1, 2] <| kk 1 <| pst 57 res (vdC 0 attZ proZ 0) h53 (by kernel_rfl) (vd_sizes (by kernel_rfl) (by kernel_rfl)) (by kernel_rfl) fun V56 h57 j56 => ?_
    have h58 : DetT w.heap.size V56 d p h A Q F R AnyP := DetT.one h50 h53 (by omega) j56
    have ⟨K61, z62⟩ := j56.zo0 K54
    refine kk 1 <| eu_ <| blk_r <| then_r <| sy_out (.tuple #[.agg (vdC 0 attZ proZ 0), iI 16]) rfl (rrt 57 res h57 underlying57 (by kernel_rfl)) ?_
    exact ⟨by rw [(pro_no hE hz).1, hE]; kernel_rfl, by rw [(pro_no hE hz).2]; exact h58, K61⟩
   ·have hE : proErr p h q = 0 := proErr_4 g1 g2 g3
    have com := proErr_0 hE
    obtain ⟨v, hvv⟩ : ∃ v : Nat, q.v = (v : Int) := ⟨q.v.toNat, by have := com.fine.1; omega⟩
    have hv2 : v < 32 := by have := com.fine.2.1; omega
    refine r_ nl5_ <| kk 1 <| pP (lc h52 (Pro.c_1 _)) <| kk 1 <| pP (dtF (((q.h) : Int) < ((dfl p h) : Int))) <| kk 1 <| en_ <| s_ <| blk_n <| tqr_ nl8_ <| kk 2 <| pP (lc h52 (Pro.c_0 _)) ?_
    refine pct ((dof_T h50 K54.size hk hv2 hvv).mono ?_)
    rintro e V63 ⟨x, rfl, hJV63, j63⟩
    have hqV63 := (DetT.part hJV63 hv2).1.blk
    refine ⟨_, rfl, ?_⟩
    have ⟨h64, h65⟩ := j63.ko2 h52 h53
    have K66 : Keeps F w V63 := K54.then j63 (DetT.kd h50)
    have z67 := j63.size
    refine kk 2 <| pP (lk (hqV63)) <| kk 1 <| eq_ ?_
    rcases hV : vbOf Q q.v (dfl p h) q.h with _ | b
    ·skip
     skip
     obtain ⟨b, hb0⟩ : ∃ b, b = zPro := ⟨_, rfl⟩
     have hr_b : b.r.length = 32 := hb0 ▸ zPro_r
     refine r_ nl10_ <| kk 2 <| pP (lc h64 (Pro.c_1 _)) ?_
     refine pct ((qblock_Z hJV63 hv2 hvv hV hb0).mono ?_)
     rintro e V68 ⟨rfl, j68⟩
     have hJV68 := hJV63.keepsN j68
     refine ⟨_, rfl, ?_⟩
     have ⟨h69, h70⟩ := j68.k2 h64 h65
     have h71 : HP V68 x.q (#[pT x.sp 0, pT x.r 0]) 85 := j68.bk hqV63
     have ⟨K72, z73⟩ := j68.z0 K66
     refine kk 3 <| pag 37 (zl3_) fun V74 gw egw h75 j74 => ?_
     have := nq3 egw h69 h70 h71
     have n79 := nk egw K72
     have ⟨h80, h81⟩ := j74.k2 h69 h70
     have h82 : HP V74 x.q (#[pT x.sp 0, pT x.r 0]) 85 := j74.bk h71
     have kb83 := (Keeps.refl Nob V68).nn j74
     have ⟨K84, z85⟩ := j74.z0 K72
     refine pst 37 gw ((Pro.c b)) h75 (by rw [Pro.c_size _ hr_b]; kernel_rfl) (by rw [Pro.c_size _ hr_b]; rfl) (Pro.c_one _) fun V86 h87 j86 => ?_
     have ⟨h88, h89⟩ := j86.ko2 h80 h81
     have h90 : HP V86 x.q (#[pT x.sp 0, pT x.r 0]) 85 := j86.odd (Odd.one h75 (by decide)) h82
     have kb91 : Keeps Nob V68 V86 := kb83.nO j86
     have ⟨K92, z93⟩ := j86.zo0 K84
     refine kk 1 <| eqr_ [0, 1] <| kk 2 <| ps_end <| tq_ <| bl_ 1 <| qr_ [0, 1, 2] <| kk 3 <| ey_ <| qr_ [0, 1, 2] <| kk 1 <| pP (ldz 37 gq h88 (Pro.c_size _ hr_q)) ?_
     have n95 := rec_neB (DetT.part (hJV68.keepsN kb91) hv2).1.rec_ h88 (by decide)
     have n96 := rec_neB (DetT.part (hJV68.keepsN kb91) hv2).1.rec_ h89 (by decide)
     have n97 := rec_neB (DetT.part (hJV68.keepsN kb91) hv2).1.rec_ h90 (by decide)
     have n98 := rec_neB (DetT.part (hJV68.keepsN kb91) hv2).1.rec_ h87 (by decide)
     refine pct ((rputB_T (hJV68.keepsN kb91) hv2 hvv hqo com hV).mono ?_)
     rintro e V94 ⟨rfl, hJV94, j94⟩
     refine ⟨_, rfl, ?_⟩
     have h100 := j94.bO h89
     have K103 : Keeps F w V94 := K92.then j94 (DetT.krB (hJV68.keepsN kb91) hv2)
     have z104 := j94.size
     refine eqr_ [0, 1, 2] <| kk 1 <| pst 57 res (vdC 0 attZ proZ 0) h100 (by kernel_rfl) (vd_sizes (by kernel_rfl) (by kernel_rfl)) (by kernel_rfl) fun V105 h106 j105 => ?_
     have h110 : DetT w.heap.size V105 d p h A (Q ++ [q]) F R AnyP := DetT.one hJV94 h100 (by omega) j105
     have ⟨K111, z112⟩ := j105.zo0 K103
     refine kk 1 <| eu_ <| blk_r <| then_r <| sy_out (.tuple #[.agg (vdC 0 attZ proZ 0), iI 0]) rfl (rrt 57 res h106 underlying57 (by kernel_rfl)) ?_
     exact ⟨by rw [(pro_new inv hE hV).1, hE]; kernel_rfl, by rw [(pro_new inv hE hV).2]; exact h110.any, K111⟩
    ·skip
     have hbo : b.Ok := (inv.q b ((vb_some inv).1 hV).1.1).1
     have hr_b := hbo.r
     refine r_ nl10_ <| kk 2 <| pP (lc h64 (Pro.c_1 _)) ?_
     refine pct ((qblock_T hJV63 hv2 hvv hV).mono ?_)
     rintro e V113 ⟨rfl, j113⟩
     have hJV113 := hJV63.keepsN j113
     refine ⟨_, rfl, ?_⟩
     have ⟨h114, h115⟩ := j113.k2 h64 h65
     have h116 : HP V113 x.q (#[pT x.sp 0, pT x.r 0]) 85 := j113.bk hqV63
     have ⟨K117, z118⟩ := j113.z0 K66
     refine kk 3 <| pag 37 (zl3_) fun V119 gw egw h120 j119 => ?_
     have := nq3 egw h114 h115 h116
     have n124 := nk egw K117
     have ⟨h125, h126⟩ := j119.k2 h114 h115
     have h127 : HP V119 x.q (#[pT x.sp 0, pT x.r 0]) 85 := j119.bk h116
     have kb128 := (Keeps.refl Nob V113).nn j119
     have ⟨K129, z130⟩ := j119.z0 K117
     refine pst 37 gw ((Pro.c b)) h120 (by rw [Pro.c_size _ hr_b]; kernel_rfl) (by rw [Pro.c_size _ hr_b]; rfl) (Pro.c_one _) fun V131 h132 j131 => ?_
     have ⟨h133, h134⟩ := j131.ko2 h125 h126
     have h135 : HP V131 x.q (#[pT x.sp 0, pT x.r 0]) 85 := j131.odd (Odd.one h120 (by decide)) h127
     have kb136 : Keeps Nob V113 V131 := kb128.nO j131
     have ⟨K137, z138⟩ := j131.zo0 K129
     refine kk 1 <| eqr_ [0, 1] <| kk 2 <| ps_end <| tq_ <| bl_ 1 <| qr_ [0, 1, 2] <| kk 3 <| en_ <| q_ ?_
     cases hd : doubP q b
     ·skip
      skip
      refine r_ [0, 1, 2, 3] <| pP (ldz 37 gq h133 (Pro.c_size _ hr_q)) <| pP (ldz 37 gw h132 (Pro.c_size _ hr_b)) ?_
      refine pct ((doub_is q b _ hqo hbo hd).mono ?_)
      rintro e V139 ⟨rfl, j139⟩
      have hJV139 := (hJV113.keepsN kb136).keepsN j139
      refine ⟨_, rfl, ?_⟩
      have ⟨h140, h141⟩ := j139.k2 h133 h134
      have h142 : HP V139 x.q (#[pT x.sp 0, pT x.r 0]) 85 := j139.bk h135
      have ⟨K144, z145, h143⟩ := j139.z1 K137 h132
      refine kk 1 <| en_ <| s_ <| blk_n <| tqr_ nl5_ <| kk 1 <| pbs 144 (#[.func (.func 53) #[] #[pT gw 0]]) 1 fun V146 go1 ego1 h147 j146 => ?_
      have := nq3 ego1 h140 h141 h142
      have := nqk1 ego1 h143 K144
      have ⟨h154, h156⟩ := j146.k2 h141 h143
      have h157 := hJV139.keepsN j146
      have ⟨K158, z159⟩ := j146.z0 K144
      refine pcs (dverdict_one 1 53 (pT gw 0) attZ b.cl 0 attZ_len (Pro.tl hr_b) (Vd.c_one (x := ⟨1, zAtt, b, 0⟩)) go1 _ h147 (enters_of func53 (by kernel_rfl) rfl) (fun bv W hbv k hb => dPropose1_ok bv gw 1 0 attZ proZ attZ_len proZ_len b hr_b (by have := lt_of_block h156; omega) W (k.bk h156) hb)) fun V160 j160 => ?_
      have h162 := j160.bk h154
      have h165 := h157.keepsN j160
      have ⟨K167, z168⟩ := j160.z0 K158
      refine pst 57 res (Vd.c (⟨1, zAtt, b, 0⟩)) h162 (by rw [Vd.c_size ⟨zAtt_r, hr_b⟩]; kernel_rfl) (vd_sizes (Vd.c_size ⟨zAtt_r, hr_b⟩) (by kernel_rfl)) Vd.c_one fun V169 h170 j169 => ?_
      have h174 : DetT w.heap.size V169 d p h A Q F R (HasP v x) := DetT.one h165 h162 (by omega) j169
      have ⟨K176, z177⟩ := j169.zo0 K167
      refine kk 1 <| eu_ <| sy_out (.tuple #[.agg (Vd.c (⟨1, zAtt, b, 0⟩)), iI 0]) rfl (rrt 57 res h170 underlying57 (by rw [Vd.c_size ⟨zAtt_r, hr_b⟩]; kernel_rfl)) ?_
      exact ⟨by rw [(pro_one inv hE hV hd).1, hE], by rw [(pro_one inv hE hV hd).2]; exact h174.any, K176⟩
     ·skip
      skip
      refine r_ [0, 1, 2, 3] <| pP (ldz 37 gq h133 (Pro.c_size _ hr_q)) <| pP (ldz 37 gw h132 (Pro.c_size _ hr_b)) ?_
      refine pct ((doub_is q b _ hqo hbo hd).mono ?_)
      rintro e V178 ⟨rfl, j178⟩
      have hJV178 := (hJV113.keepsN kb136).keepsN j178
      refine ⟨_, rfl, ?_⟩
      have ⟨h179, h180⟩ := j178.k2 h133 h134
      have h181 : HP V178 x.q (#[pT x.sp 0, pT x.r 0]) 85 := j178.bk h135
      have ⟨K183, z184, h182⟩ := j178.z1 K137 h132
      refine kk 1 <| ey_ <| qr_ nl6_ <| kk 2 <| pbs 144 (#[.func (.func 53) #[] #[pT gw 0], .func (.func 57) #[] #[pT gq 0]]) 2 fun V185 go2 ego2 h186 j185 => ?_
      have := nq3 ego2 h179 h180 h181
      have := nqk1 ego2 h182 K183
      have ⟨h192, h193, h195⟩ := j185.k3 h179 h180 h182
      have h196 := hJV178.keepsN j185
      have ⟨K197, z198⟩ := j185.z0 K183
      refine pcs (dverdict_twin 2 53 (pT gw 0) attZ b.cl 0 attZ_len (Pro.tl hr_b) 57 (pT gq 0) attZ b.cl q.h attZ_len (Pro.tl hr_b) (Vd.c_one (x := ⟨2, zAtt, b, q.h⟩)) go2 _ h186 (enters_of func53 (by kernel_rfl) rfl) (fun bv W hbv k hb => dPropose1_ok bv gw 2 0 attZ proZ attZ_len proZ_len b hr_b (by have := lt_of_block h195; omega) W (k.bk h195) hb) (enters_of func57 (by kernel_rfl) rfl) (fun bv W hbv k hb => dPropose2_ok bv gq 2 0 attZ b.cl attZ_len (Pro.tl hr_b) q hr_q (by have := lt_of_block h192; omega) W (k.bk h192) hb)) fun V199 j199 => ?_
      have h201 := j199.bk h193
      have h204 := h196.keepsN j199
      have ⟨K206, z207⟩ := j199.z0 K197
      refine pst 57 res (Vd.c (⟨2, zAtt, b, q.h⟩)) h201 (by rw [Vd.c_size ⟨zAtt_r, hr_b⟩]; kernel_rfl) (vd_sizes (Vd.c_size ⟨zAtt_r, hr_b⟩) (by kernel_rfl)) Vd.c_one fun V208 h209 j208 => ?_
      have h213 : DetT w.heap.size V208 d p h A Q F R (HasP v x) := DetT.one h204 h201 (by omega) j208
      have ⟨K215, z216⟩ := j208.zo0 K206
      refine kk 1 <| eu_ <| blk_r <| then_r <| sy_out (.tuple #[.agg (Vd.c (⟨2, zAtt, b, q.h⟩)), iI 0]) rfl (rrt 57 res h209 underlying57 (by rw [Vd.c_size ⟨zAtt_r, hr_b⟩]; kernel_rfl)) ?_
      exact ⟨by rw [(pro_two inv hE hV hd).1, hE], by rw [(pro_two inv hE hV hd).2]; exact h213.any, K215⟩
 ·skip
  have hE : proErr p h q = q.err := proErr_1 g1
  have hz : ¬ q.err = 0 := by omega
  refine r_ [0, 1, 2] <| kk 1 <| pP (nqT ((q.err) : Int) ((0) : Int)) <| kk 1 <| ey_ <| qr_ [0, 1, 2, 3] <| kk 2 <| pst 57 res (vdC 0 attZ proZ 0) h30 (by kernel_rfl) (vd_sizes (by kernel_rfl) (by kernel_rfl)) (by kernel_rfl) fun V217 h218 j217 => ?_
  have h219 : DetT w.heap.size V217 d p h A Q F R AnyP := DetT.one h27 h30 (by omega) j217
  have ⟨K222, z223⟩ := j217.zo0 K31
  refine kk 1 <| ps_end <| then_n <| u_ <| blk_r <| then_r <| sy_out (.tuple #[.agg (vdC 0 attZ proZ 0), iI q.err]) rfl (rrt 57 res h218 underlying57 (by kernel_rfl)) ?_
  exact ⟨by rw [(pro_no hE hz).1, hE]; kernel_rfl, by rw [(pro_no hE hz).2]; exact h219, K222⟩
theorem Row.none_ (w : World) (t : TypeId) (sz : Nat) : Row w t sz (.slice none 0 0) 0 [] := ⟨by simp, .inl ⟨rfl, rfl⟩⟩
def qc107_1 (n : Nat) : Code := partOf f11 n
theorem dVotes_low (d : Nat) (p : Par) (h : Int) (P : Nat → Option Nat) (w : World) (hd : HP w d (detC p h P) 79) (hh0 : ¬ h = 0) (x : Int) (hx : x < 0) :
  Calls prog 11 #[pT d 0, iI x] w (fun e w' => e = .returned (.slice none 0 0) ∧ w = w') := by
 have K0 := kz0 w
 refine sf_ (qc107_1 1) func11 <| qr_ [0] <| kk 1 <| eq_ <| qr_ nl19_ <| kk 1 ?_
 refine pct ((dnone_no d p h P _ hd hh0).mono ?_)
 rintro e w1 ⟨rfl, rfl⟩
 refine ⟨_, rfl, ?_⟩
 refine kk 2 <| pP (dtT (((x) : Int) < ((0) : Int))) <| kk 11 <| kk 3 <| ey_ <| qr_ [0] <| kk 1 <| eu_ <| then_r <| so_ (.slice none 0 0) ?_
 exact ⟨rfl, rfl⟩
theorem dVotes_high (d : Nat) (p : Par) (h : Int) (P : Nat → Option Nat) (w : World) (hd : HP w d (detC p h P) 79) (hh0 : ¬ h = 0) (x : Int) (hx0 : ¬ x < 0) (hx : 32 ≤ x) :
  Calls prog 11 #[pT d 0, iI x] w (fun e w' => e = .returned (.slice none 0 0) ∧ w = w') := by
 have K0 := kz0 w
 refine sf_ (qc107_1 1) func11 <| qr_ [0] <| kk 1 <| eq_ <| qr_ nl19_ <| kk 1 ?_
 refine pct ((dnone_no d p h P _ hd hh0).mono ?_)
 rintro e w1 ⟨rfl, rfl⟩
 refine ⟨_, rfl, ?_⟩
 refine kk 2 <| pP (dtF (((x) : Int) < ((0) : Int))) <| kk 3 <| pP (dtT (((x) : Int) ≥ ((32) : Int))) <| kk 7 <| kk 3 <| ey_ <| qr_ [0] <| kk 1 <| eu_ <| then_r <| so_ (.slice none 0 0) ?_
 exact ⟨rfl, rfl⟩
theorem dVotes_no (d : Nat) (p : Par) (h : Int) (P : Nat → Option Nat) (w : World) (hd : HP w d (detC p h P) 79) (hh0 : ¬ h = 0) (v : Nat) (hv : v < 32) (hPv : P v = none) :
  Calls prog 11 #[pT d 0, iI (v : Int)] w (fun e w' => e = .returned (.slice none 0 0) ∧ w = w') := by
 have K0 := kz0 w
 refine sf_ (qc107_1 1) func11 <| qr_ [0] <| kk 1 <| eq_ <| qr_ nl19_ <| kk 1 ?_
 refine pct ((dnone_no d p h P _ hd hh0).mono ?_)
 rintro e w1 ⟨rfl, rfl⟩
 refine ⟨_, rfl, ?_⟩
 refine kk 2 <| pP (dtF ((v : Int) < ((0) : Int))) <| kk 3 <| pP (dtF ((v : Int) ≥ ((32) : Int))) <| kk 6 <| ppq (pT d (12 + v)) (exec_cast (v := pT d (12 + v * 1)) (by simp) (ixa d 12 .i64 v 1 underlying77 (by omega))) <| ppq (.pointer none) (lc (hd) ((detC_at _ _ _ (by omega)).trans (congrArg (fun o => some (ptrV o)) hPv)) (k := 12 + v)) <| kk 2 <| ey_ <| qr_ [0] <| kk 1 <| eu_ <| then_r <| so_ (.slice none 0 0) ?_
 exact ⟨rfl, rfl⟩
theorem dVotes_yes (d : Nat) (p : Par) (h : Int) (P : Nat → Option Nat) (w : World) (hd : HP w d (detC p h P) 79) (hh0 : ¬ h = 0) (v : Nat) (hv : v < 32) (q r sp : Nat) (A : RD Att) (B : RD Pro) (hPv : P v = some q) (hq : HP w q #[pT sp 0, pT r 0] 85) (hR : RecAt w r (v : Int) A B) :
  Calls prog 11 #[pT d 0, iI (v : Int)] w (fun e w' => ∃ va, e = .returned va ∧ Row w' 28 36 va (items A.V A.low A.n).length ((items A.V A.low A.n).flatMap Att.cl) ∧ NewFrom w.heap.size va ∧ Keeps Nob w w') := by
 have K0 := kz0 w
 refine sf_ (qc107_1 1) func11 <| qr_ [0] <| kk 1 <| eq_ <| qr_ nl19_ <| kk 1 ?_
 refine pct ((dnone_no d p h P _ hd hh0).mono ?_)
 rintro e w1 ⟨rfl, rfl⟩
 refine ⟨_, rfl, ?_⟩
 refine kk 2 <| pP (dtF ((v : Int) < ((0) : Int))) <| kk 3 <| pP (dtF ((v : Int) ≥ ((32) : Int))) <| kk 6 <| ppq (pT d (12 + v)) (exec_cast (v := pT d (12 + v * 1)) (by simp) (ixa d 12 .i64 v 1 underlying77 (by omega))) <| ppq (pT q 0) (lc (hd) ((detC_at _ _ _ (by omega)).trans (congrArg (fun o => some (ptrV o)) hPv)) (k := 12 + v)) <| kk 2 <| en_ <| s_ <| tqr_ nl11_ <| kk 4 <| ppq (pT d (12 + v)) (exec_cast (v := pT d (12 + v * 1)) (by simp) (ixa d 12 .i64 v 1 underlying77 (by omega))) <| ppq (pT q 0) (lc (hd) ((detC_at _ _ _ (by omega)).trans (congrArg (fun o => some (ptrV o)) hPv)) (k := 12 + v)) <| kk 2 <| pP (lk hq) ?_
 refine pcq 39 #[pT r 0] func39 ((qAll_ok r _ A B _ hR).mono ?_)
 rintro e V1 ⟨va, rfl, hrV1, hnV1, j1⟩
 have hrv := hrV1
 have hnv := hnV1
 refine ⟨_, rfl, ?_⟩
 have ⟨K4, z5⟩ := j1.z0 K0
 refine kk 1 <| ps_end <| then_n <| u_ <| so_ va ?_
 exact ⟨va, rfl, hrv, hnv, K4⟩
def qc107_0 (n : Nat) : Code := partOf f16 n
theorem dBlocks_low (d : Nat) (p : Par) (h : Int) (P : Nat → Option Nat) (w : World) (hd : HP w d (detC p h P) 79) (hh0 : ¬ h = 0) (x : Int) (hx : x < 0) :
  Calls prog 16 #[pT d 0, iI x] w (fun e w' => e = .returned (.slice none 0 0) ∧ w = w') := by
 have K0 := kz0 w
 refine sf_ (qc107_0 1) func16 <| qr_ [0] <| kk 1 <| eq_ <| qr_ nl19_ <| kk 1 ?_
 refine pct ((dnone_no d p h P _ hd hh0).mono ?_)
 rintro e w1 ⟨rfl, rfl⟩
 refine ⟨_, rfl, ?_⟩
 refine kk 2 <| pP (dtT (((x) : Int) < ((0) : Int))) <| kk 11 <| kk 3 <| ey_ <| qr_ [0] <| kk 1 <| eu_ <| then_r <| so_ (.slice none 0 0) ?_
 exact ⟨rfl, rfl⟩
theorem dBlocks_high (d : Nat) (p : Par) (h : Int) (P : Nat → Option Nat) (w : World) (hd : HP w d (detC p h P) 79) (hh0 : ¬ h = 0) (x : Int) (hx0 : ¬ x < 0) (hx : 32 ≤ x) :
  Calls prog 16 #[pT d 0, iI x] w (fun e w' => e = .returned (.slice none 0 0) ∧ w = w') := by
 have K0 := kz0 w
 refine sf_ (qc107_0 1) func16 <| qr_ [0] <| kk 1 <| eq_ <| qr_ nl19_ <| kk 1 ?_
 refine pct ((dnone_no d p h P _ hd hh0).mono ?_)
 rintro e w1 ⟨rfl, rfl⟩
 refine ⟨_, rfl, ?_⟩
 refine kk 2 <| pP (dtF (((x) : Int) < ((0) : Int))) <| kk 3 <| pP (dtT (((x) : Int) ≥ ((32) : Int))) <| kk 7 <| kk 3 <| ey_ <| qr_ [0] <| kk 1 <| eu_ <| then_r <| so_ (.slice none 0 0) ?_
 exact ⟨rfl, rfl⟩
theorem dBlocks_no (d : Nat) (p : Par) (h : Int) (P : Nat → Option Nat) (w : World) (hd : HP w d (detC p h P) 79) (hh0 : ¬ h = 0) (v : Nat) (hv : v < 32) (hPv : P v = none) :
  Calls prog 16 #[pT d 0, iI (v : Int)] w (fun e w' => e = .returned (.slice none 0 0) ∧ w = w') := by
 have K0 := kz0 w
 refine sf_ (qc107_0 1) func16 <| qr_ [0] <| kk 1 <| eq_ <| qr_ nl19_ <| kk 1 ?_
 refine pct ((dnone_no d p h P _ hd hh0).mono ?_)
 rintro e w1 ⟨rfl, rfl⟩
 refine ⟨_, rfl, ?_⟩
 refine kk 2 <| pP (dtF ((v : Int) < ((0) : Int))) <| kk 3 <| pP (dtF ((v : Int) ≥ ((32) : Int))) <| kk 6 <| ppq (pT d (12 + v)) (exec_cast (v := pT d (12 + v * 1)) (by simp) (ixa d 12 .i64 v 1 underlying77 (by omega))) <| ppq (.pointer none) (lc (hd) ((detC_at _ _ _ (by omega)).trans (congrArg (fun o => some (ptrV o)) hPv)) (k := 12 + v)) <| kk 2 <| ey_ <| qr_ [0] <| kk 1 <| eu_ <| then_r <| so_ (.slice none 0 0) ?_
 exact ⟨rfl, rfl⟩
theorem dBlocks_yes (d : Nat) (p : Par) (h : Int) (P : Nat → Option Nat) (w : World) (hd : HP w d (detC p h P) 79) (hh0 : ¬ h = 0) (v : Nat) (hv : v < 32) (q r sp : Nat) (A : RD Att) (B : RD Pro) (hPv : P v = some q) (hq : HP w q #[pT sp 0, pT r 0] 85) (hR : RecAt w r (v : Int) A B) :
  Calls prog 16 #[pT d 0, iI (v : Int)] w (fun e w' => ∃ va, e = .returned va ∧ Row w' 37 35 va (items B.V B.low B.n).length ((items B.V B.low B.n).flatMap Pro.cl) ∧ NewFrom w.heap.size va ∧ Keeps Nob w w') := by
 have K0 := kz0 w
 refine sf_ (qc107_0 1) func16 <| qr_ [0] <| kk 1 <| eq_ <| qr_ nl19_ <| kk 1 ?_
 refine pct ((dnone_no d p h P _ hd hh0).mono ?_)
 rintro e w1 ⟨rfl, rfl⟩
 refine ⟨_, rfl, ?_⟩
 refine kk 2 <| pP (dtF ((v : Int) < ((0) : Int))) <| kk 3 <| pP (dtF ((v : Int) ≥ ((32) : Int))) <| kk 6 <| ppq (pT d (12 + v)) (exec_cast (v := pT d (12 + v * 1)) (by simp) (ixa d 12 .i64 v 1 underlying77 (by omega))) <| ppq (pT q 0) (lc (hd) ((detC_at _ _ _ (by omega)).trans (congrArg (fun o => some (ptrV o)) hPv)) (k := 12 + v)) <| kk 2 <| en_ <| s_ <| tqr_ nl11_ <| kk 4 <| ppq (pT d (12 + v)) (exec_cast (v := pT d (12 + v * 1)) (by simp) (ixa d 12 .i64 v 1 underlying77 (by omega))) <| ppq (pT q 0) (lc (hd) ((detC_at _ _ _ (by omega)).trans (congrArg (fun o => some (ptrV o)) hPv)) (k := 12 + v)) <| kk 2 <| pP (lk hq) ?_
 refine pcq 40 #[pT r 0] func40 ((qBlocks_ok r _ A B _ hR).mono ?_)
 rintro e V1 ⟨va, rfl, hrV1, hnV1, j1⟩
 have hrv := hrV1
 have hnv := hnV1
 refine ⟨_, rfl, ?_⟩
 have ⟨K4, z5⟩ := j1.z0 K0
 refine kk 1 <| ps_end <| then_n <| u_ <| so_ va ?_
 exact ⟨va, rfl, hrv, hnv, K4⟩
section
variable {w : World} {d : Nat} {p : Par} {h : Int} {A : List Att} {Q : List Pro} {P : Nat → Option PD} {who : Nat → Nat} {v : Int}
theorem votes_nil (hn : ∀ a ∈ A, a.v ≠ v) : votesOf p h A v = [] := by
 rw [List.eq_nil_iff_forall_not_mem]
 intro b hb
 obtain ⟨h1, h2, _⟩ := mem_votes.1 hb
 exact hn b h1 h2
theorem blocks_nil (hn : ∀ a ∈ Q, a.v ≠ v) : blocksOf p h Q v = [] := by
 rw [List.eq_nil_iff_forall_not_mem]
 intro b hb
 obtain ⟨h1, h2, _⟩ := mem_blocks.1 hb
 exact hn b h1 h2
theorem dVotes_ok (s : DetP w d p h (fun _ => h) A Q P who) (inv : DInv p h A Q) :
  Calls prog 11 #[pT d 0, iI v] w fun e w' => ∃ va, e = .returned va ∧ Row w' 28 36 va (votesOf p h A v).length ((votesOf p h A v).flatMap Att.cl) ∧ NewFrom w.heap.size va ∧ Keeps Nob w w' := by
 have hh0 : ¬ h = 0 := by have := inv.ok.2.2; omega
 have nil : (votesOf p h A v) = [] → ∃ va, Ending.returned (.slice none 0 0) = .returned va ∧ Row w 28 36 va (votesOf p h A v).length ((votesOf p h A v).flatMap Att.cl) ∧ NewFrom w.heap.size va ∧ Keeps Nob w w := fun e => by
  rw [e]; exact ⟨_, rfl, Row.none_ _ _ _, NewFrom.nil _, Keeps.refl _ _⟩
 by_cases h1 : v < 0
 ·refine (dVotes_low d p h (Pq P) w s.blk hh0 v h1).mono ?_
  rintro e w' ⟨rfl, rfl⟩
  exact nil (votes_nil fun a ha e => by have := (inv.a a ha).2.1.1; omega)
 by_cases h2 : 32 ≤ v
 ·refine (dVotes_high d p h (Pq P) w s.blk hh0 v h1 h2).mono ?_
  rintro e w' ⟨rfl, rfl⟩
  exact nil (votes_nil fun a ha e => by have := (inv.a a ha).2.1.2.1; omega)
 obtain ⟨v, rfl⟩ : ∃ n : Nat, v = (n : Int) := ⟨v.toNat, by omega⟩
 have hv : v < 32 := by omega
 cases hP : P v with
 | none =>
  refine (dVotes_no d p h (Pq P) w s.blk hh0 v hv (by unfold Pq; rw [hP]; rfl)).mono ?_
  rintro e w' ⟨rfl, rfl⟩
  exact nil (votes_nil (s.none_ v hv hP).1)
 | some x =>
  obtain ⟨q1, ⟨a1, a2, a3⟩, b1, b2, b3⟩ := s.part v x hv hP
  have c := dVotes_yes d p h (Pq P) w s.blk hh0 v hv x.q x.r x.sp x.A x.B (by unfold Pq; rw [hP]; rfl) q1.blk q1.rec_
  have e : items x.A.V x.A.low x.A.n = votesOf p h A v := by
   rw [a3, ← votes_is inv]
   congr 1 <;> omega
  rw [e] at c; exact c
theorem dBlocks_ok (s : DetP w d p h (fun _ => h) A Q P who) (inv : DInv p h A Q) :
  Calls prog 16 #[pT d 0, iI v] w fun e w' => ∃ va, e = .returned va ∧ Row w' 37 35 va (blocksOf p h Q v).length ((blocksOf p h Q v).flatMap Pro.cl) ∧ NewFrom w.heap.size va ∧ Keeps Nob w w' := by
 have hh0 : ¬ h = 0 := by have := inv.ok.2.2; omega
 have nil : (blocksOf p h Q v) = [] → ∃ va, Ending.returned (.slice none 0 0) = .returned va ∧ Row w 37 35 va (blocksOf p h Q v).length ((blocksOf p h Q v).flatMap Pro.cl) ∧ NewFrom w.heap.size va ∧ Keeps Nob w w := fun e => by
  rw [e]; exact ⟨_, rfl, Row.none_ _ _ _, NewFrom.nil _, Keeps.refl _ _⟩
 by_cases h1 : v < 0
 ·refine (dBlocks_low d p h (Pq P) w s.blk hh0 v h1).mono ?_
  rintro e w' ⟨rfl, rfl⟩
  exact nil (blocks_nil fun a ha e => by have := (inv.q a ha).2.1.1; omega)
 by_cases h2 : 32 ≤ v
 ·refine (dBlocks_high d p h (Pq P) w s.blk hh0 v h1 h2).mono ?_
  rintro e w' ⟨rfl, rfl⟩
  exact nil (blocks_nil fun a ha e => by have := (inv.q a ha).2.1.2.1; omega)
 obtain ⟨v, rfl⟩ : ∃ n : Nat, v = (n : Int) := ⟨v.toNat, by omega⟩
 have hv : v < 32 := by omega
 cases hP : P v with
 | none =>
  refine (dBlocks_no d p h (Pq P) w s.blk hh0 v hv (by unfold Pq; rw [hP]; rfl)).mono ?_
  rintro e w' ⟨rfl, rfl⟩
  exact nil (blocks_nil (s.none_ v hv hP).2)
 | some x =>
  obtain ⟨q1, ⟨a1, a2, a3⟩, b1, b2, b3⟩ := s.part v x hv hP
  have c := dBlocks_yes d p h (Pq P) w s.blk hh0 v hv x.q x.r x.sp x.A x.B (by unfold Pq; rw [hP]; rfl) q1.blk q1.rec_
  have e : items x.B.V x.B.low x.B.n = blocksOf p h Q v := by
   rw [b3, ← blocks_is inv]
   congr 1 <;> omega
  rw [e] at c; exact c
end
theorem threeP (P : Nat → Option PD) (k : Nat) : 32 ≤ k ∨ (k < 32 ∧ P k = none) ∨ (k < 32 ∧ ∃ x, P k = some x) := by
 by_cases h : k < 32
 ·cases hP : P k with
  | none => exact .inr (.inl ⟨h, rfl⟩)
  | some q => exact .inr (.inr ⟨h, q, rfl⟩)
 ·exact .inl (by omega)
theorem pq_none {P : Nat → Option PD} {k : Nat} (h : P k = none) : Pq P k = none := by unfold Pq; rw [h]; rfl
theorem pq_some {P : Nat → Option PD} {k : Nat} {x : PD} (h : P k = some x) : Pq P k = some x.q := by unfold Pq; rw [h]; rfl
theorem pq_up (P : Nat → Option PD) (k : Nat) (y : PD) : upP (Pq P) k (some y.q) = Pq (fun u => if u = k then some y else P u) := by
 funext u
 show (if u = k then some y.q else Pq P u) = Option.map PD.q (if u = k then some y else P u)
 by_cases e : u = k
 ·rw [if_pos e, if_pos e]; rfl
 ·rw [if_neg e, if_neg e]; rfl
theorem scopy_is {w : World} {FP : Nat → Prop} {b : Nat} {W E : Int} {view : Int → Option Int × Option Int} (h : Sp.SpanView w FP b W E view) : Calls prog 70 #[pT b 0] w fun v w' => ∃ s2, v = .returned (pT s2 0) ∧ Sp.SpanView w' FP s2 W E view ∧ w.heap.size ≤ s2 ∧ Keeps Nob w w' :=
 (Sp.span_copy b W E w FP view h).mono fun v w' ⟨a, b, _, k, _⟩ => ⟨_, a, b, Nat.le_refl _, k⟩
theorem span_typ {w w' : World} {FP : Nat → Prop} {b g : Nat} {W E : Int} {view : Int → Option Int × Option Int} {cs : Array Value} {T : TypeId} (h : Sp.SpanView w FP b W E view) (hg : HP w g cs T) (hT : 161 ≠ T) (hf : ∀ j, FP j → j < g) (k : Keeps (One g) w w') : Sp.SpanView w' FP b W E view :=
 h.of_keeps k (fun (e : b = g) => span_ne h hg hT e.symm) (fun j hj (e : j = g) => by have := hf j hj; omega) (fun _ h => h) h.nb (fun j hj => Nat.lt_of_lt_of_le (h.fp j hj) k.size)
structure CInv (w0 : World) (c : Nat) (p : Par) (h : Int) (A : List Att) (Q : List Pro) (P : Nat → Option PD) (k : Nat) (PC : Nat → Option PD) (W : World) : Prop where
 some_ : ∀ v y, PC v = some y → v < k ∧ v < 32 ∧ (∃ x, P v = some x ∧ y.FP = x.FP) ∧ (PartAt W y (v : Int) p.win (dep p h) (Sp.viewOf (prs A v)) ∧ ((y.A.low : Int) = dlo p h ∧ (y.A.n : Int) = p.win ∧ y.A.V = vaOf A v (dlo p h)) ∧ ((y.B.low : Int) = dfl p h ∧ (y.B.n : Int) = p.win * p.elen ∧ y.B.V = vbOf Q v (dfl p h))) ∧ ∀ j, y.own j → w0.heap.size ≤ j
 none_ : ∀ v, v < k → v < 32 → PC v = none → P v = none
 apart : ∀ u v y z, u ≠ v → PC u = some y → PC v = some z → ∀ j, y.own j → ¬ z.own j
section
variable {w V W : World} {c : Nat} {p : Par} {h : Int} {A : List Att} {Q : List Pro} {P : Nat → Option PD} {k : Nat} {PC : Nat → Option PD}
theorem CInv.init (w : World) (c : Nat) (p : Par) (h : Int) (A : List Att) (Q : List Pro) (P : Nat → Option PD) (V : World) : CInv w c p h A Q P 0 (fun _ => none) V :=
 ⟨fun v y e => (by cases e), fun v e => absurd e (Nat.not_lt_zero _), fun u v y z _ e => by cases e⟩
theorem CInv.free (s : CInv w c p h A Q P k PC V) : PC k = none := by
 cases e : PC k with
 | none => rfl
 | some y => have := (s.some_ k y e).1; omega
theorem CInv.skip (s : CInv w c p h A Q P k PC V) (hP : P k = none) : CInv w c p h A Q P (k + 1) PC V :=
 ⟨fun v y e => by obtain ⟨a, b⟩ := s.some_ v y e; exact ⟨by omega, b⟩, fun v hv h32 e => by
  by_cases hk : v = k
  ·subst hk; exact hP
  ·exact s.none_ v (by omega) h32 e, s.apart⟩
theorem CInv.step (s : CInv w c p h A Q P k PC V) (hk : k < 32) {x y : PD} (hx : P k = some x) {cs : Array Value} (hc : HP V c cs 79) (hw : w.heap.size ≤ V.heap.size) (hcw : w.heap.size ≤ c) (hr : ∀ j, DR P j → j < w.heap.size) (kk : Keeps (One c) V W) (hf : y.FP = x.FP)
  (hp : PartAt W y (k : Int) p.win (dep p h) (Sp.viewOf (prs A k)) ∧ ((y.A.low : Int) = dlo p h ∧ (y.A.n : Int) = p.win ∧ y.A.V = vaOf A k (dlo p h)) ∧ ((y.B.low : Int) = dfl p h ∧ (y.B.n : Int) = p.win * p.elen ∧ y.B.V = vbOf Q k (dfl p h))) (ho : ∀ j, y.own j → V.heap.size ≤ j) :
  CInv w c p h A Q P (k + 1) (fun u => if u = k then some y else PC u) W := by
 have hst : Still V (One c) := ⟨Odd.one hc (by decide), Odd.one hc (by decide), Odd.one hc (by decide), Odd.one hc (by decide)⟩
 have hold : ∀ v z, PC v = some z → (∀ j, z.own j → ¬ One c j) ∧ ∀ j, z.FP j → ¬ One c j := fun v z e => by
  obtain ⟨_, h32, ⟨x', hx', hf'⟩, ⟨q, _⟩, _⟩ := s.some_ v z e
  refine ⟨fun j hj (e : j = c) => ?_, fun j hj (e : j = c) => ?_⟩
  ·subst e; exact q.odd (T := 79) (by decide) (by decide) (by decide) (by decide) (by decide) _ _ _ hj hc
  ·have := hr j ⟨v, x', h32, hx', hf' ▸ hj⟩; omega
 refine ⟨fun v z e => ?_, fun v hv h32 e => ?_, fun u v z z' hne e e' j hj hj' => ?_⟩
 ·by_cases hv : v = k
  ·subst hv
   rw [if_pos rfl, Option.some.injEq] at e
   subst e
   exact ⟨by omega, hk, ⟨x, hx, hf⟩, hp, fun j hj => Nat.le_trans hw (ho j hj)⟩
  ·rw [if_neg hv] at e
   obtain ⟨a1, a2, a3, ⟨a4, a5⟩, a6⟩ := s.some_ v z e
   obtain ⟨b1, b2⟩ := hold v z e
   exact ⟨by omega, a2, a3, ⟨a4.keeps kk b1 b2 hst, a5⟩, a6⟩
 ·by_cases hk2 : v = k
  ·rw [if_pos hk2] at e; cases e
  ·rw [if_neg hk2] at e; exact s.none_ v (by omega) h32 e
 ·have hlt : ∀ v z, PC v = some z → z.own j → j < V.heap.size := fun v z e hj => (s.some_ v z e).2.2.2.1.1.lt j hj
  by_cases hu : u = k
  ·rw [if_pos hu, Option.some.injEq] at e
   subst e
   rw [if_neg (by omega)] at e'
   have := hlt v z' e' hj'; have := ho j hj; omega
  ·rw [if_neg hu] at e
   by_cases hv : v = k
   ·rw [if_pos hv, Option.some.injEq] at e'
    subst e'
    have := hlt u z e hj; have := ho j hj'; omega
   ·rw [if_neg hv] at e'
    exact s.apart u v z z' hne e e' j hj hj'
end
def qc108_0 (n : Nat) : Code := partOf f36 n
abbrev qo108_0 (n k : Nat) : Oper := (opsAt (qc108_0 n)).getD k default
theorem dCopy_core (d : Nat) (p : Par) (h : Int) (A : List Att) (Q : List Pro) (P : Nat → Option PD) (who : Nat → Nat) (w : World) (s : DetP w d p h (fun _ => h) A Q P who) (hd : HP w d (detC p h (Pq P)) 79) (hh0 : ¬ h = 0) :
  Calls prog 36 #[pT d 0] w (fun e w' => ∃ c PC, e = .returned (pT c 0) ∧ HP w' c (detC p h (Pq PC)) 79 ∧ CInv w c p h A Q P 32 PC w' ∧ w.heap.size ≤ c ∧ Keeps Nob w w') := by
 have hr := s.ltR
 have K0 := kz0 w
 refine sf_ (qc108_0 1) func36 <| qr_ [0] <| kk 1 <| eq_ <| qr_ [0, 1] <| kk 1 ?_
 refine pct ((dnone_no d p h (Pq P) _ hd hh0).mono ?_)
 rintro e w1 ⟨rfl, rfl⟩
 refine ⟨_, rfl, ?_⟩
 refine en_ <| s_ <| tq_ <| rgp 9 (zo9_ (qo108_0 14)) [qo108_0 14 9, qo108_0 14 10] fun V2 j2 => ?_
 have ⟨K4, z5, h3⟩ := j2.z1 K0 hd
 refine ks 3 <| spq (.agg p.cells) (exec_cast (v := .agg p.cells.toList.toArray) rfl (exec_load_seg 47 (.tmp 12) (by kernel_rfl) d 0 (by kernel_rfl) p.cells.toList _ _ _ h3 (detC_pseg _ _ _) underlying47 rfl (by kernel_rfl))) <| ks 3 <| spq _ (lc h3 (detC_h _ _ _)) <| ks 1 <| st_end ?_
 obtain ⟨V6, eV6, c, ec, h7, j6⟩ := alloc_step V2 ((detC p h fun _ => none)) 79
 have := nqk1 ec h3 K4
 refine ls_run (qo108_0 14 9) (pT c 0) (w' := V6) (by kernel_rfl) (by rw [← eV6, ← ec]; exact exec_box 79 (.tmp 18) (by kernel_rfl) (.agg (detC p h fun _ => none)) (by kernel_rfl)) ?_
 clear eV6
 have ⟨K11, z12, h10⟩ := j6.z1 K4 h3
 refine ls_run (qo108_0 14 10) (pT c 0) (w' := V6) (by kernel_rfl) (by kernel_rfl) <| ls_end <| tq_ <| qr_ nl5_ <| kk 3 <| ppq (.agg (prt (Pq P)).toArray) (exec_cast (v := .agg (prt (Pq P)).toArray) rfl (exec_load_seg 77 (.tmp 22) (by kernel_rfl) d 12 (by kernel_rfl) (prt (Pq P)) _ _ _ h10 (detC_seg _ _ _) underlying77 rfl (by kernel_rfl))) <| kk 1 <| et_ <| bl_ 0 ?_
 have hcw : w.heap.size ≤ c := by omega
 refine sy_loop (qc108_0 244) (fun a V => ∃ (k : Nat) (PC : Nat → Option PD), (Fr 49 [(3, pT c 0), (23, .agg (prt (Pq P)).toArray), (24, iN k)] [] a) ∧ (k ≤ 32) ∧ (HP V c (detC p h (Pq PC)) 79) ∧ (Keeps Nob w V) ∧ (CInv w c p h A Q P k PC V)) (fun a _ => 32 - (intOf (a.tmps.getD 24 undef)).toNat) (by kernel_rfl) ?_ ?_
 ·exact ⟨0, (fun _ => none), fq, by omega, h7, K11, CInv.init w c p h A Q P V6⟩
 ·rintro a V13 ⟨k, PC, hfr, hk_, h14, K15, hI⟩
  obtain ⟨uu16, rfl⟩ := Fr.open hfr
  rcases threeP P k with ge_k | ⟨lt_k, hPk⟩ | ⟨lt_k, x, hPk⟩
  ·have eq_k : k = 32 := by omega
   refine qr_ [0] <| pP (dtF ((k : Int) < ((32) : Int))) <| eq_ <| n_ <| sy_exit 0 (by kernel_rfl) <| then_e <| then_e <| blk_e <| tqr_ [0, 1] <| kk 2 <| eu_ <| so_ (pT c 0) ?_
   exact ⟨c, PC, rfl, h14, eq_k ▸ hI, hcw, K15⟩
  ·show _
   refine qr_ [0] <| pP (dtT ((k : Int) < ((32) : Int))) <| eq_ <| y_ <| s_ <| tq_ <| bl_ 1 <| qr_ [0, 1, 2, 3] <| kk 1 <| ppq (.pointer none) (exec_index_ptr 77 (.tmp 23) (.tmp 24) (by kernel_rfl) (prt (Pq P)).toArray (by kernel_rfl) .i64 k (by kernel_rfl) 32 76 underlying77 ⟨_, underlying76⟩ (by kernel_rfl) (by omega) _ (prt_get (Pq P) lt_k (pq_none hPk))) <| kk 2 <| eqr_ [0, 1] <| kk 1 <| kk 1 <| en_ <| s_ <| blk_n <| tr_ [0, 1] <| pP (cwN (n := k + 1)) <| kk 1 <| et_ ?_
   refine ⟨⟨k + 1, PC, fq, by omega, h14, K15, hI.skip hPk⟩, ?_⟩
   exact ltm (32 - (k + 1)) (32 - k)
  ·obtain ⟨hprt, hlp⟩ := (s.keepsN K15).part k x lt_k hPk
   refine qr_ [0] <| pP (dtT ((k : Int) < ((32) : Int))) <| eq_ <| y_ <| s_ <| tq_ <| bl_ 1 <| qr_ [0, 1, 2, 3] <| kk 1 <| ppq (pT x.q 0) (exec_index_ptr 77 (.tmp 23) (.tmp 24) (by kernel_rfl) (prt (Pq P)).toArray (by kernel_rfl) .i64 k (by kernel_rfl) 32 76 underlying77 ⟨_, underlying76⟩ (by kernel_rfl) (by omega) _ (prt_get (Pq P) lt_k (pq_some hPk))) <| kk 2 <| eqr_ [0, 1] <| kk 1 <| kk 1 <| ey_ <| anp 18 (fun W => (HP W x.q (#[pT x.sp 0, pT x.r 0]) 85)) fun V17 j17 => ?_
   have h18 := j17.bk h14
   have h19 : HP V17 x.q (#[pT x.sp 0, pT x.r 0]) 85 := j17.bk hprt.blk
   have h20 : Keeps (One c) V13 V17 := (Keeps.refl (One c) V13).nn j17
   have ⟨K21, z22⟩ := j17.z0 K15
   refine kA [0, 1, 2, 3, 4] <| aV 5 _ (fun W hS => lk hS) <| kA [7, 8, 9] <| aV 10 _ (fun W hS => lk hS) <| kA [14, 15] <| an_o 6 ?_
   refine nct ((scopy_is ((s.keepsN K21).part k x lt_k hPk).1.span).mono ?_)
   rintro e V23 ⟨s2, rfl, hSV23, nsV23, j23⟩
   refine ⟨_, rfl, ?_⟩
   have h24 := j23.bk h18
   have h25 : HP V23 x.q (#[pT x.sp 0, pT x.r 0]) 85 := j23.bk h19
   have h26 : Keeps (One c) V13 V23 := h20.nn j23
   have ⟨K27, z28⟩ := j23.z0 K21
   refine ⟨h25, ?_⟩
   refine an_o 11 ?_
   refine nct ((qCopy_ok x.r (k : Int) x.A x.B _ ((s.keepsN K27).part k x lt_k hPk).1.rec_).mono ?_)
   rintro e V29 ⟨r2, A2, B2, rfl, hRV29, ea, eb, ec, ed, ee, ef, hnV29, nrV29, j29⟩
   have hnr := hnV29
   refine ⟨_, rfl, ?_⟩
   have h30 := j29.bk h24
   have h31 : HP V29 x.q (#[pT x.sp 0, pT x.r 0]) 85 := j29.bk h25
   have h32 : Keeps (One c) V13 V29 := h26.nn j29
   have h33 : Sp.SpanView V29 x.FP s2 p.win (dep p h) (Sp.viewOf (prs A (k : Int))) := span_nob hSV23 j29
   have ⟨K34, z35⟩ := j29.z0 K27
   refine ⟨h31, ?_⟩
   refine kA [12] <| an_o 13 <| nbx 85 (#[pT s2 0, pT r2 0]) (.agg #[pT s2 0, pT r2 0]) fun V36 g eg h37 j36 => ?_
   have := nqk2 eg h30 h31 K34
   have h41 := j36.bk h30
   have h42 : HP V36 x.q (#[pT x.sp 0, pT x.r 0]) 85 := j36.bk h31
   have h43 : Keeps (One c) V13 V36 := h32.nn j36
   have h44 : Sp.SpanView V36 x.FP s2 p.win (dep p h) (Sp.viewOf (prs A (k : Int))) := span_nob h33 j36
   have h45 := hRV29.keepsN j36
   have ⟨K46, z47⟩ := j36.z0 K34
   refine ⟨h42, ?_⟩
   refine aV 16 (pT c (12 + k)) (fun W hS => exec_cast (v := pT c (12 + k * 1)) (by simp) (ixa c 12 .i64 k 1 underlying77 (by omega))) <| an_o 17 <| nce 76 c (12 + k) (pT g 0) (detC p h ((upP (Pq PC) k (some g)))) h41 (rc h41 ((detC_at _ _ _ lt_k).trans (congrArg (fun o => some (ptrV o)) (pq_none hI.free)))) (detC_setp _ _ _ (some g) (by omega)) fun V48 h49 j48 => ?_
   have h50 : HP V48 x.q (#[pT x.sp 0, pT x.r 0]) 85 := j48.odd (Odd.one h41 (by decide)) h42
   have h51 : Keeps (One c) V13 V48 := h43.then j48 (fun i _ hm => hm)
   have h52 : Sp.SpanView V48 x.FP s2 p.win (dep p h) (Sp.viewOf (prs A (k : Int))) := span_typ h44 h41 (by decide) (fun j hj => by have := hr j ⟨k, x, lt_k, hPk, hj⟩; omega) j48
   have h53 : RecAt V48 r2 (k : Int) A2 B2 := rec_typ h45 h41 j48
   have ⟨K55, z56, h54⟩ := j48.zo1 K46 h37
   refine ⟨h50, ?_⟩
   refine ane <| blk_n <| tr_ [0, 1] <| pP (cwN (n := k + 1)) <| kk 1 <| et_ ?_
   refine ⟨⟨k + 1, (fun u => if u = k then some ⟨g, s2, r2, A2, B2, x.FP⟩ else PC u), fq, by omega, (pq_up PC k ⟨g, s2, r2, A2, B2, x.FP⟩ ▸ h49), K55, hI.step lt_k hPk h14 K15.size hcw hr h51 rfl ⟨⟨h54, h52, h53⟩, ⟨by rw [ea]; exact hlp.1.1, by rw [eb]; exact hlp.1.2.1, by rw [ec]; exact hlp.1.2.2⟩, by rw [ed]; exact hlp.2.1, by rw [ee]; exact hlp.2.2.1, by rw [ef]; exact hlp.2.2.2⟩ (fun j hj => hj.elim (fun e => by have e2 : j = s2 := e; omega) (fun e => by have := hnr j e; omega))⟩, ?_⟩
   exact ltm (32 - (k + 1)) (32 - k)
section
variable {w w' : World} {d : Nat} {p : Par} {h h' : Int} {A A' : List Att} {Q Q' : List Pro} {P : Nat → Option PD} {who : Nat → Nat} {a : Att} {q : Pro}
theorem attNew_mem {x : Att} (hx : x ∈ attNew p h A a) : x ∈ A ∨ x = a ∧ Comes p h a ∧ ∀ y ∈ votesOf p h A a.v, y.t ≠ a.t := by
  unfold attNew at hx
  split at hx
  · rename_i hc
    rcases List.mem_append.1 hx with hx | hx
    · exact .inl hx
    · simp only [List.mem_singleton] at hx
      have hk := hc.2
      unfold attVd at hk
      rw [if_pos hc.1] at hk
      exact .inr ⟨hx, attErr_0 hc.1, judge_k0 hk⟩
  · exact .inl hx
theorem DInv.att (i : DInv p h A Q) (ha : a.Ok) : DInv p h (attNew p h A a) Q := by
  refine ⟨i.ok, fun x hx => ?_, i.q, ?_, i.uq⟩
  · rcases attNew_mem hx with hx | ⟨rfl, c, _⟩
    · exact i.a x hx
    · exact ⟨ha, c.fine, c.st, c.hi⟩
  · unfold attNew
    split
    · rename_i hc
      have hm : a ∈ attNew p h A a := by unfold attNew; rw [if_pos hc]; simp
      refine List.pairwise_append.2 ⟨i.ua, by simp, fun x hx y hy => ?_⟩
      simp only [List.mem_singleton] at hy
      subst hy
      rintro ⟨e1, e2⟩
      have hk := hc.2
      unfold attVd at hk
      rw [if_pos hc.1] at hk
      have c := attErr_0 hc.1
      exact judge_k0 hk x (mem_votes.2 ⟨hx, e1, by have := c.lo; have := c.st; omega, (i.a x hx).2.2.2⟩) e2
    · exact i.ua
theorem DInv.pro (i : DInv p h A Q) (hq : q.Ok) : DInv p h A (proNew p h Q q) := by
  unfold proNew
  split
  · rename_i hc
    have c := proErr_0 hc.1
    refine ⟨i.ok, i.a, fun x hx => ?_, i.ua, ?_⟩
    · rcases List.mem_append.1 hx with hx | hx
      · exact i.q x hx
      · simp only [List.mem_singleton] at hx
        subst hx; exact ⟨hq, c.fine, c.hi⟩
    · refine List.pairwise_append.2 ⟨i.uq, by simp, fun x hx y hy => ?_⟩
      simp only [List.mem_singleton] at hy
      subst hy
      rintro ⟨e1, e2⟩
      have hk := hc.2
      unfold proVd at hk
      rw [if_pos hc.1] at hk
      unfold dPro at hk
      have hb : x ∈ blocksOf p h Q y.v := mem_blocks.2 ⟨hx, e1, by have := c.lo; omega⟩
      cases hf : (blocksOf p h Q y.v).find? (fun b => decide (b.h = y.h)) with
      | none => exact absurd (by simpa using e2) ((List.find?_eq_none.1 hf) x hb)
      | some u =>
        rw [hf] at hk
        dsimp only at hk
        split at hk <;> cases hk
  · exact i
theorem dJudge_ok {l : List Att} (hl : ∀ x ∈ l, x.Ok) : VdOk (dJudge p l a) := by
  have hz : ∀ k x f, x ∈ l → VdOk ⟨k, x, zPro, f⟩ := fun k x f hx => ⟨(hl x hx).r, zPro_r⟩
  have h2 : VdOk (dJudge2 p l a) := by
    unfold dJudge2
    split
    · rename_i w hw; exact hz _ _ _ (List.mem_reverse.1 (List.mem_of_find?_eq_some hw))
    · exact Vd.z_ok
  unfold dJudge
  split
  · rename_i w hw
    have := List.mem_of_find?_eq_some hw
    split <;> exact hz _ _ _ this
  · split
    · rename_i w hw
      split
      · exact hz _ _ _ (List.mem_of_find?_eq_some hw)
      · exact h2
    · exact h2
theorem attVd_ok (i : DInv p h A Q) : VdOk (attVd p h A a) := by
  unfold attVd
  split
  · exact dJudge_ok fun x hx => (i.a x (mem_votes.1 hx).1).1
  · exact Vd.z_ok
theorem proVd_ok (i : DInv p h A Q) : VdOk (proVd p h Q q) := by
  unfold proVd
  split
  · unfold dPro
    split
    · rename_i w hw
      have := (i.q w (mem_blocks.1 (List.mem_of_find?_eq_some hw)).1).1.r
      split <;> exact ⟨zAtt_r, this⟩
    · exact Vd.z_ok
  · exact Vd.z_ok
def DOut (w w' : World) (d : Nat) (P : Nat → Option PD) (p : Par) (h : Int) (A : List Att) (Q : List Pro) : Prop :=
  ∃ P' who', DetP w' d p h (fun _ => h) A Q P' who' ∧ (∀ j, DF d P' j → DF d P j ∨ w.heap.size ≤ j) ∧ ∀ j, DR P' j → DR P j ∨ w.heap.size ≤ j
theorem core_attest (i : DInv p h A Q) (ha : a.Ok) (P : Nat → Option PD) (who : Nat → Nat) (s : DetP w d p h (fun _ => h) A Q P who) : Calls prog 24 #[.pointer (some ⟨d, 0, none⟩), .agg (Att.c a)] w fun e w' => e = .returned (.tuple #[.agg (Vd.c (attVd p h A a)), iI (attErr p h a)]) ∧ DOut w w' d P p h (attNew p h A a) Q ∧ Keeps (DF d P) w w' :=
  (dAttest_core d a p h A Q (DF d P) (DR P) ha ha.r i w ⟨P, who, s, trivial, fun j hj => .inl hj, fun j hj => ⟨hj, s.ltR j hj⟩⟩).mono fun _ _ ⟨e, ⟨P', who', q1, q2, q3⟩, k⟩ => ⟨e, ⟨P', who', q1, q2, fun j hj => (q3 j hj).elim (fun x => .inl x.1) .inr⟩, k⟩
theorem core_propose (i : DInv p h A Q) (hq : q.Ok) (P : Nat → Option PD) (who : Nat → Nat) (s : DetP w d p h (fun _ => h) A Q P who) : Calls prog 25 #[.pointer (some ⟨d, 0, none⟩), .agg (Pro.c q)] w fun e w' => e = .returned (.tuple #[.agg (Vd.c (proVd p h Q q)), iI (proErr p h q)]) ∧ DOut w w' d P p h A (proNew p h Q q) ∧ Keeps (DF d P) w w' :=
  (dPropose_core d q p h A Q (DF d P) (DR P) hq hq.r i w ⟨P, who, s, trivial, fun j hj => .inl hj, fun j hj => ⟨hj, s.ltR j hj⟩⟩).mono fun _ _ ⟨e, ⟨P', who', q1, _, q2, q3⟩, k⟩ => ⟨e, ⟨P', who', q1, q2, fun j hj => .inl (q3 j hj).1⟩, k⟩
def movErr (h x : Int) : Int := if x < 1 ∨ x > 4294967296 then 3 else if x < h then 9 else 0
def movH (h x : Int) : Int := if movErr h x = 0 then x else h
theorem core_move (i : DInv p h A Q) (x : Int) (P : Nat → Option PD) (who : Nat → Nat) (s : DetP w d p h (fun _ => h) A Q P who) : Calls prog 17 #[.pointer (some ⟨d, 0, none⟩), iI x] w fun e w' => e = .returned (iI (movErr h x)) ∧ DOut w w' d P p (movH h x) A Q ∧ Keeps (DF d P) w w' := by
  have h0 : ¬ h = 0 := by have := i.ok.2.2; omega
  have stay : ∀ e, movErr h x = e → e ≠ 0 → Calls prog 17 #[.pointer (some ⟨d, 0, none⟩), iI x] w (fun r w' => r = .returned (iI e) ∧ w = w') → Calls prog 17 #[.pointer (some ⟨d, 0, none⟩), iI x] w fun e w' => e = .returned (iI (movErr h x)) ∧ DOut w w' d P p (movH h x) A Q ∧ Keeps (DF d P) w w' := fun e he hz c => c.mono fun r w' ⟨e1, e2⟩ => by
    subst e2
    unfold movH
    rw [he, if_neg hz]
    exact ⟨e1, ⟨P, who, s, fun j hj => .inl hj, fun j hj => .inl hj⟩, Keeps.refl _ _⟩
  by_cases q1 : x < 1
  · exact stay 3 (by unfold movErr; rw [if_pos (.inl q1)]) (by decide) (dMove_low d p h (Pq P) w s.blk x h0 q1)
  by_cases q2 : x > 4294967296
  · exact stay 3 (by unfold movErr; rw [if_pos (.inr q2)]) (by decide) (dMove_high d p h (Pq P) w s.blk x h0 (by omega) q2)
  by_cases q3 : x < h
  · exact stay 9 (by unfold movErr; rw [if_neg (by omega), if_pos q3]) (by decide) (dMove_back d p h (Pq P) w s.blk x h0 (by omega) (by omega) q3)
  have he : movErr h x = 0 := by unfold movErr; rw [if_neg (by omega), if_neg q3]
  unfold movH
  rw [he, if_pos rfl]
  exact (dMove_on s i.ok i (by omega) (by omega)).mono fun r w' ⟨e1, ⟨P', who', q4, q5, q6⟩, k⟩ => ⟨e1, ⟨P', who', q6, fun j hj => .inl (q4 j hj), fun j hj => .inl (q5 j hj)⟩, k⟩
theorem DInv.mov (i : DInv p h A Q) (x : Int) : DInv p (movH h x) A Q := by
  unfold movH
  split
  · rename_i e
    unfold movErr at e
    split at e
    · cases e
    · split at e
      · cases e
      · exact i.mono (by omega) (by omega)
  · exact i
theorem mine_of (s : DetP w d p h (fun _ => h) A Q P who) {B : Nat} (hF : ∀ j, DF d P j → B ≤ j) : Mine B w (fun _ => False) (DF d P) := ⟨fun i hi hm => by have := hF i hm; omega, fun U h5 h0 h1 h2 h3 h4 => s.odd h5 h0 h1 h2 h3 h4⟩
end
structure Det1 (B : Nat) (w : World) (d : Nat) (p : Par) (h : Int) (A : List Att) (Q : List Pro) : Prop where
  ex : ∃ P who, DetP w d p h (fun _ => h) A Q P who ∧ (∀ j, DF d P j → B ≤ j) ∧ ∀ j, DR P j → B ≤ j
  inv : DInv p h A Q
def Turns (B : Nat) (w w' : World) : Prop := ∃ M, Mine B w (fun _ => False) M ∧ Keeps M w w'
section
variable {B : Nat} {w w' : World} {d c : Nat} {p p2 : Par} {h h2 h' : Int} {A A2 A' : List Att} {Q Q2 Q' : List Pro} {f : FuncId} {args : Array Value} {φ : Ending → Prop}
theorem Det1.keepsN (s : Det1 B w d p h A Q) (k : Keeps Nob w w') : Det1 B w' d p h A Q := ⟨let ⟨P, who, a, b⟩ := s.ex; ⟨P, who, a.keepsN k, b⟩, s.inv⟩
theorem Det1.act (s : Det1 B w d p h A Q) (hB : B ≤ w.heap.size) (hi : DInv p h' A' Q') (hc : ∀ P who, DetP w d p h (fun _ => h) A Q P who → Calls prog f args w fun e w' => φ e ∧ DOut w w' d P p h' A' Q' ∧ Keeps (DF d P) w w') :
    Calls prog f args w fun e w' => φ e ∧ Det1 B w' d p h' A' Q' ∧ Turns B w w' := by
  obtain ⟨P, who, s1, s2, s3⟩ := s.ex
  refine (hc P who s1).mono ?_
  rintro e w' ⟨he, ⟨P', who', q1, q2, q3⟩, k⟩
  exact ⟨he, ⟨⟨P', who', q1, fun j hj => (q2 j hj).elim (s2 j) (fun x => by omega), fun j hj => (q3 j hj).elim (s3 j) (fun x => by omega)⟩, hi⟩, DF d P, mine_of s1 s2, k⟩
theorem Turns.blk (t : Turns B w w') {g : Nat} {cs : Array Value} {U : TypeId} (hg : w.heap[g]? = some (.cells cs U (0, 0)))
    (h5 : 79 ≠ U := by decide) (h0 : 161 ≠ U := by decide) (h1 : 184 ≠ U := by decide) (h2 : 185 ≠ U := by decide) (h3 : 192 ≠ U := by decide) (h4 : 168 ≠ U := by decide) : w'.heap[g]? = some (.cells cs U (0, 0)) :=
  let ⟨_, m, k⟩ := t; (k.block g (lt_of_block hg) (fun e => m.no hg e h5 h0 h1 h2 h3 h4)).trans hg
theorem Turns.size (t : Turns B w w') : w.heap.size ≤ w'.heap.size := let ⟨_, _, k⟩ := t; k.size
theorem Turns.keeps {w0 : World} (t : Turns B w w') (k : Keeps Nob w0 w) (hB : w0.heap.size ≤ B) : Keeps Nob w0 w' := let ⟨_, m, k2⟩ := t; k.then k2 (fun i hi hm => (m.sub i (by omega) hm).elim)
theorem Turns.row (t : Turns B w w') {e : TypeId} {size n : Nat} {v : Value} {xs : List Value} (h : Row w e size v n xs)
    (h5 : 79 ≠ e := by decide) (h0 : 161 ≠ e := by decide) (h1 : 184 ≠ e := by decide) (h2 : 185 ≠ e := by decide) (h3 : 192 ≠ e := by decide) (h4 : 168 ≠ e := by decide) : Row w' e size v n xs :=
  let ⟨_, m, k⟩ := t; h.keeps k (fun j hj hm => by
    obtain ⟨cs, hc⟩ := h.elem hj
    exact m.no hc hm h5 h0 h1 h2 h3 h4)
theorem Det1.attest (s : Det1 B w d p h A Q) (hB : B ≤ w.heap.size) {a : Att} (ha : a.Ok) : Calls prog 24 #[.pointer (some ⟨d, 0, none⟩), .agg (Att.c a)] w fun e w' => e = .returned (.tuple #[.agg (Vd.c (attVd p h A a)), iI (attErr p h a)]) ∧ Det1 B w' d p h (attNew p h A a) Q ∧ Turns B w w' := s.act hB (s.inv.att ha) (core_attest s.inv ha)
theorem Det1.propose (s : Det1 B w d p h A Q) (hB : B ≤ w.heap.size) {q : Pro} (hq : q.Ok) : Calls prog 25 #[.pointer (some ⟨d, 0, none⟩), .agg (Pro.c q)] w fun e w' => e = .returned (.tuple #[.agg (Vd.c (proVd p h Q q)), iI (proErr p h q)]) ∧ Det1 B w' d p h A (proNew p h Q q) ∧ Turns B w w' := s.act hB (s.inv.pro hq) (core_propose s.inv hq)
theorem Det1.move (s : Det1 B w d p h A Q) (hB : B ≤ w.heap.size) (x : Int) : Calls prog 17 #[.pointer (some ⟨d, 0, none⟩), iI x] w fun e w' => e = .returned (iI (movErr h x)) ∧ Det1 B w' d p (movH h x) A Q ∧ Turns B w w' := s.act hB (s.inv.mov x) (core_move s.inv x)
theorem Det1.votes (s : Det1 B w d p h A Q) (v : Int) : Calls prog 11 #[.pointer (some ⟨d, 0, none⟩), iI v] w fun e w' => ∃ va, e = .returned va ∧ Row w' 28 36 va (votesOf p h A v).length ((votesOf p h A v).flatMap Att.cl) ∧ NewFrom w.heap.size va ∧ Keeps Nob w w' := let ⟨_, _, a, _⟩ := s.ex; dVotes_ok a s.inv
theorem Det1.blocks (s : Det1 B w d p h A Q) (v : Int) : Calls prog 16 #[.pointer (some ⟨d, 0, none⟩), iI v] w fun e w' => ∃ va, e = .returned va ∧ Row w' 37 35 va (blocksOf p h Q v).length ((blocksOf p h Q v).flatMap Pro.cl) ∧ NewFrom w.heap.size va ∧ Keeps Nob w w' := let ⟨_, _, a, _⟩ := s.ex; dBlocks_ok a s.inv
theorem Det1.height (s : Det1 B w d p h A Q) : Calls prog 12 #[.pointer (some ⟨d, 0, none⟩)] w fun e w' => e = .returned (iI h) ∧ w = w' := let ⟨_, _, a, _⟩ := s.ex; dHeight_ok d p h _ w a.blk (by have := s.inv.ok.2.2; omega)
theorem Det1.blk (s : Det1 B w d p h A Q) : ∃ P, w.heap[d]? = some (.cells (detC p h P) 79 (0, 0)) := let ⟨_, _, a, _⟩ := s.ex; ⟨_, a.blk⟩
theorem Det1.lower {B0 : Nat} (s : Det1 B w d p h A Q) (hB : B0 ≤ B) : Det1 B0 w d p h A Q := ⟨let ⟨P, who, a, b, c⟩ := s.ex; ⟨P, who, a, fun j hj => Nat.le_trans hB (b j hj), fun j hj => Nat.le_trans hB (c j hj)⟩, s.inv⟩
theorem Turns.lower {B0 : Nat} (t : Turns B w w') (hB : B0 ≤ B) : Turns B0 w w' := let ⟨M, m, k⟩ := t; ⟨M, ⟨fun i hi => m.sub i (by omega), m.odd⟩, k⟩
theorem Turns.nob (k : Keeps Nob w w') : Turns B w w' := ⟨Nob, ⟨fun _ _ e => e, fun _ _ _ _ _ _ _ => Odd.nob _⟩, k⟩
end
theorem att_equal_d (d : Nat) (a b : Att) (ha : a.r.length = 32) (hb : b.r.length = 32) (w : World) : (Op.equalIn (d + 3) 28 (.agg a.c) (.agg b.c)).run prog w = .ok (decide (a = b)) w := by
  rw [run_equalIn_struct w (d + 2) 28 _ _ (by kernel_rfl) (by kernel_rfl)]
  simp only [Program.fieldsOf, underlying28]
  rw [eqF_int (d := d + 1) (k := .i64) (a := a.v) (b := b.v) w (by decide) underlying3 (by kernel_rfl) (Att.c_0 a) (Att.c_0 b), eqF_int (d := d + 1) (k := .i64) (a := a.s) (b := b.s) w (by decide) underlying3 (by kernel_rfl) (Att.c_1 a) (Att.c_1 b),
    eqF_int (d := d + 1) (k := .i64) (a := a.t) (b := b.t) w (by decide) underlying3 (by kernel_rfl) (Att.c_2 a) (Att.c_2 b), eqF_hash (d := d) (l := a.r) (m := b.r) w (by decide) rfl (Att.c_ext a ha) (Att.c_ext b hb) ha hb,
    eqF_int (d := d + 1) (k := .u64) (a := ((a.g : Nat) : Int)) (b := ((b.g : Nat) : Int)) w (by decide) underlying26 (by kernel_rfl) (Att.c_tag a ha) (Att.c_tag b hb)]
  simp only [Op.eqFields, Sem.run_pure]
  obtain ⟨v, s, t, r, g⟩ := a
  obtain ⟨v', s', t', r', g'⟩ := b
  simp only [Att.mk.injEq]
  by_cases h1 : v = v' <;> by_cases h2 : s = s' <;> by_cases h3 : t = t' <;> by_cases h4 : r = r' <;> by_cases h5 : g = g' <;> simp [h1, h2, h3, h4, h5] <;> omega
theorem pro_equal_d (d : Nat) (a b : Pro) (ha : a.r.length = 32) (hb : b.r.length = 32) (w : World) : (Op.equalIn (d + 3) 37 (.agg a.c) (.agg b.c)).run prog w = .ok (decide (a = b)) w := by
  rw [run_equalIn_struct w (d + 2) 37 _ _ (by kernel_rfl) (by kernel_rfl)]
  simp only [Program.fieldsOf, underlying37]
  rw [eqF_int (d := d + 1) (k := .i64) (a := a.v) (b := b.v) w (by decide) underlying3 (by kernel_rfl) (Pro.c_0 a) (Pro.c_0 b), eqF_int (d := d + 1) (k := .i64) (a := a.h) (b := b.h) w (by decide) underlying3 (by kernel_rfl) (Pro.c_1 a) (Pro.c_1 b),
    eqF_hash (d := d) (l := a.r) (m := b.r) w (by decide) rfl (Pro.c_ext a ha) (Pro.c_ext b hb) ha hb,
    eqF_int (d := d + 1) (k := .u64) (a := ((a.g : Nat) : Int)) (b := ((b.g : Nat) : Int)) w (by decide) underlying26 (by kernel_rfl) (Pro.c_tag a ha) (Pro.c_tag b hb)]
  simp only [Op.eqFields, Sem.run_pure]
  obtain ⟨v, s, r, g⟩ := a
  obtain ⟨v', s', r', g'⟩ := b
  simp only [Pro.mk.injEq]
  by_cases h1 : v = v' <;> by_cases h2 : s = s' <;> by_cases h4 : r = r' <;> by_cases h5 : g = g' <;> simp [h1, h2, h4, h5] <;> omega
theorem part_att (xs : Array Value) (off : Nat) (w : World) : (part 28 xs off).run prog w = .ok (.agg (xs.extract off (off + 36))) w := by
  have h : (sizeOf 28).run prog w = .ok 36 w := by kernel_rfl
  simp [part, isAgg, run_underlying underlying28, h]
theorem part_pro (xs : Array Value) (off : Nat) (w : World) : (part 37 xs off).run prog w = .ok (.agg (xs.extract off (off + 35))) w := by
  have h : (sizeOf 37).run prog w = .ok 35 w := by kernel_rfl
  simp [part, isAgg, run_underlying underlying37, h]
theorem eqF_att {d : Nat} {f : Field} {fs : List Field} {xs ys : Array Value} {l m : Att} (w : World) (hf : f.name ≠ "_") (ht : f.type = 28) (hx : xs.extract f.offset (f.offset + 36) = l.c) (hy : ys.extract f.offset (f.offset + 36) = m.c) (hl : l.r.length = 32) (hm : m.r.length = 32) :
    (Op.eqFields (d + 3) xs ys (f :: fs)).run prog w = if l = m then (Op.eqFields (d + 3) xs ys fs).run prog w else .ok false w := by
  conv => lhs; unfold Op.eqFields
  rw [if_pos hf]
  simp only [ht, Sem.run_bind, part_att, Result.andThen_ok, hx, hy, att_equal_d d l m hl hm]
  by_cases h : l = m <;> simp [h]
theorem eqF_pro {d : Nat} {f : Field} {fs : List Field} {xs ys : Array Value} {l m : Pro} (w : World) (hf : f.name ≠ "_") (ht : f.type = 37) (hx : xs.extract f.offset (f.offset + 35) = l.c) (hy : ys.extract f.offset (f.offset + 35) = m.c) (hl : l.r.length = 32) (hm : m.r.length = 32) :
    (Op.eqFields (d + 3) xs ys (f :: fs)).run prog w = if l = m then (Op.eqFields (d + 3) xs ys fs).run prog w else .ok false w := by
  conv => lhs; unfold Op.eqFields
  rw [if_pos hf]
  simp only [ht, Sem.run_bind, part_pro, Result.andThen_ok, hx, hy, pro_equal_d d l m hl hm]
  by_cases h : l = m <;> simp [h]
theorem Vd.ext_a {x : Vd} (h : VdOk x) : x.c.extract 1 37 = x.a.c := by
  apply Array.toList_inj.1
  rw [Array.toList_extract]
  unfold Vd.c vdC
  simp only [List.extract_eq_take_drop, List.drop_succ_cons, List.drop_zero, Nat.reduceSub]
  rw [List.take_append_of_le_length (by have := Att.tl h.a; omega), List.take_of_length_le (by have := Att.tl h.a; omega)]; rfl
theorem Vd.ext_b {x : Vd} (h : VdOk x) : x.c.extract 37 72 = x.b.c := by
  apply Array.toList_inj.1
  rw [Array.toList_extract]
  unfold Vd.c vdC
  simp only [List.extract_eq_take_drop, Nat.reduceSub, show (37 : Nat) = 36 + 1 from rfl, List.drop_succ_cons]
  rw [List.drop_append, Att.tl h.a, List.drop_of_length_le (by have := Att.tl h.a; omega), List.nil_append, Nat.sub_self, List.drop_zero, List.take_append_of_le_length (by have := Pro.tl h.b; omega), List.take_of_length_le (by have := Pro.tl h.b; omega)]; rfl
theorem vd_equal (x y : Vd) (hx : VdOk x) (hy : VdOk y) (w : World) : (Op.equalIn 10000 57 (.agg x.c) (.agg y.c)).run prog w = .ok (decide (x = y)) w := by
  rw [run_equalIn_struct w 9999 57 _ _ (by kernel_rfl) (by kernel_rfl)]
  simp only [Program.fieldsOf, underlying57]
  rw [eqF_int (d := 9998) (k := .i64) (a := x.k) (b := y.k) w (by decide) underlying3 (by kernel_rfl) rfl rfl, eqF_att (d := 9996) (l := x.a) (m := y.a) w (by decide) rfl (Vd.ext_a hx) (Vd.ext_a hy) hx.a hy.a,
    eqF_pro (d := 9996) (l := x.b) (m := y.b) w (by decide) rfl (Vd.ext_b hx) (Vd.ext_b hy) hx.b hy.b,
    eqF_int (d := 9998) (k := .i64) (a := x.f) (b := y.f) w (by decide) underlying3 (by kernel_rfl) (vdC_first (Att.tl hx.a) (Pro.tl hx.b)) (vdC_first (Att.tl hy.a) (Pro.tl hy.b))]
  simp only [Op.eqFields, Sem.run_pure]
  obtain ⟨k, a, b, f⟩ := x
  obtain ⟨k', a', b', f'⟩ := y
  simp only [Vd.mk.injEq]
  by_cases h1 : k = k' <;> by_cases h2 : a = a' <;> by_cases h4 : b = b' <;> by_cases h5 : f = f' <;> simp [h1, h2, h4, h5]
theorem vd_eq (x y : Vd) (hx : VdOk x) (hy : VdOk y) (w : World) : (binOp .eql 57 (.agg x.c) (.agg y.c)).run prog w = .ok (.bool (decide (x = y))) w := by rw [run_eql_struct, vd_equal x y hx hy]; rfl
end
end Go.Proofs.YthmclmbeflbhhaaGreat
namespace Go.Own
section
open Go Go.RowKit Go.Shelf
theorem fold_seg (off : Nat) (vs : List Value) (cs : Array Value) (h : off + vs.length ≤ cs.size) : (vs.zipIdx 0).foldl (fun cs (x : Value × Nat) => cs.setIfInBounds (off + x.2) x.1) cs = seg cs off vs := by
  obtain ⟨h1, h2⟩ := Great.foldl_set off vs 0 cs
  apply Array.ext_getElem?
  intro k
  rw [h2 k]
  simp only [seg, List.getElem?_toArray, Nat.add_zero]
  by_cases ha : k < off
  · rw [if_neg (by omega), List.append_assoc, List.getElem?_append_left (by simp; omega), List.getElem?_take_of_lt ha]; simp
  · by_cases hb : k < off + vs.length
    · rw [if_pos (by omega), List.append_assoc, List.getElem?_append_right (by simp; omega), List.length_take, Nat.min_eq_left (by simp; omega), List.getElem?_append_left (by omega)]
    · rw [if_neg (by omega), List.getElem?_append_right (by simp; omega), List.getElem?_drop, List.length_append, List.length_take, Nat.min_eq_left (by simp; omega), show off + vs.length + (k - (off + vs.length)) = k by omega]; simp
theorem fill_seg {place : Nat → Option (Nat × Nat)} {cs ds r : Array Value} {i off n : Nat} {v : Value} {rest : List (Nat × Value)} (hp : place i = some (off, n)) (hv : v.cells.size = n) (hn : off + n ≤ cs.size) (hs : seg cs off v.cells.toList = ds) (h : Instr.fill place ds rest = some r) : Instr.fill place cs ((i, v) :: rest) = some r := by
  unfold Instr.fill
  simp only [hp, hv]
  rw [if_neg (by simp; omega), ← Array.foldl_toList, Array.toList_zipIdx, fold_seg off v.cells.toList cs (by simpa [hv] using hn), hs]
  exact h
section
variable {P : Program} {o : Oper} {ρ : Operand → Value} {w : World}
theorem exec_build_fill (t : TypeId) (ps : Array (Nat × Operand)) (ho : o.op = .build t ps) (qs : List (Nat × Value)) (hq : (ps.map fun (i, x) => (i, ρ x)).toList = qs) (fs : Array Field) (hu : P.underlying t = some (.struct fs)) (zv : Value) (hz : ∀ w, (zeroValue t).run P w = .ok zv w)
    (places : Array (Nat × Nat)) (hp : ∀ w, (fs.mapM fun f => do pure (f.offset, ← sizeOf f.type) : Sem (Array (Nat × Nat))).run P w = .ok places w) (cells : Array Value) (hf : Instr.fill (places[·]?) zv.cells qs = some cells) : (execOp ρ o).run P w = .ok (.value (.agg cells)) w := by
  subst hq
  refine exec_build t ps ho _ rfl ?_
  unfold Instr.build
  simp only [Sem.run_bind, hz, Result.andThen_ok, run_underlying hu, hp]
  rw [hf]
  rfl
theorem exec_buildAll (t e : TypeId) (n : Nat) (ps : Array (Nat × Operand)) (ho : o.op = .buildSlice t n ps) (vs : List Value) (hq : (ps.map fun (i, x) => (i, ρ x)).toList = ((vs.zipIdx 0).map fun x => (x.2, x.1))) (ie : TypeInfo) (z : Value) (hu : P.underlying t = some (.slice e)) (hie : P.info? e = some ie) (hz : ie.zero = some z)
    (s : Nat) (hs : ie.size = s) (hs0 : 0 < s) (hn : vs.length = n) (hn0 : 0 < n) (hs1 : n * s ≤ 16777216) (hv : ∀ v ∈ vs, v.cells.size = s) : (execOp ρ o).run P w = .ok (.value (sS w.heap.size n n)) (w.alloc (.cells (vs.flatMap fun v => v.cells.toList).toArray e)) := by
  have hf : Instr.fill (fun i => some (i * ie.size, ie.size)) ((Array.range (n * ie.size)).map (z.cells[· % z.cells.size]!)) (ps.map fun (i, x) => (i, ρ x)).toList = some (vs.flatMap fun v => v.cells.toList).toArray := by
    rw [hq]
    exact Great.fill_whole (s := ie.size) (by omega) vs _ (fun u hu => by rw [hv u hu, hs]) (by simp [hn])
  have hp : ¬ n * ie.size = 0 := by rw [hs]; exact Nat.ne_of_gt (Nat.mul_pos hn0 hs0)
  unfold execOp
  simp only [ho, Sem.run_bind, run_buildSlice w t e n _ _ ie z hu hie hz (by rw [hs]; omega) hp hf, Result.andThen_ok, Sem.run_pure]
end
end
end Go.Own
namespace Go.Proofs.YthmclmbeflbhhaaGreat
section
open Go Go.RowKit Go.Own Go.Shelf
theorem vd_guard : prog.eqGuardType prog.depth 57 = false := by kernel_rfl
def PlV : Array (Nat × Nat) := #[(0, 1), (1, 36), (37, 35), (72, 1)]
section
variable {k f : Int} {a b : List Value} (la : a.length = 36) (lb : b.length = 35)
include la lb
theorem vdC_segf (x : Int) : seg (vdC k a b f) 72 [iI x] = vdC k a b x := by
  unfold vdC seg
  simp only [List.length_singleton]
  have h1 : (Value.int .i64 k :: (a ++ (b ++ [Value.int .i64 f]))).take 72 = iI k :: (a ++ b) := by
    rw [show (72 : Nat) = 71 + 1 from rfl, List.take_succ_cons, ← List.append_assoc, List.take_left' (by simp; omega)]
  have h2 : (Value.int .i64 k :: (a ++ (b ++ [Value.int .i64 f]))).drop (72 + 1) = [] := List.drop_of_length_le (by simp; omega)
  rw [h1, h2]; simp
end
theorem vdC_segk (k x f : Int) (a b : List Value) : seg (vdC k a b f) 0 [iI x] = vdC x a b f := by
  unfold vdC seg; simp
theorem fill_vda (k f : Int) (a : Att) (ha : a.r.length = 32) : Instr.fill (PlV[·]?) (vdC 0 attZ proZ 0) [(0, iI k), (1, .agg a.c), (3, iI f)] = some (Vd.c ⟨k, a, zPro, f⟩) := by
  refine fill_seg (ds := vdC k attZ proZ 0) rfl rfl (by rw [vdC_size attZ_len proZ_len]; decide) (vdC_segk _ _ _ _ _) <| fill_seg (ds := vdC k a.cl proZ 0) (off := 1) (n := 36) rfl (Att.c_size a ha) (by rw [vdC_size attZ_len proZ_len]; decide) (vdC_seta attZ_len proZ_len (Att.tl ha)) ?_
  exact fill_seg (ds := vdC k a.cl proZ f) (off := 72) (n := 1) rfl rfl (by rw [vdC_size (Att.tl ha) proZ_len]; decide) (vdC_segf (Att.tl ha) proZ_len f) rfl
theorem fill_vdr (k : Int) (a : Att) (ha : a.r.length = 32) : Instr.fill (PlV[·]?) (vdC 0 attZ proZ 0) [(0, iI k), (1, .agg a.c)] = some (Vd.c ⟨k, a, zPro, 0⟩) := by
  refine fill_seg (ds := vdC k attZ proZ 0) rfl rfl (by rw [vdC_size attZ_len proZ_len]; decide) (vdC_segk _ _ _ _ _) ?_
  exact fill_seg (ds := vdC k a.cl proZ 0) (off := 1) (n := 36) rfl (Att.c_size a ha) (by rw [vdC_size attZ_len proZ_len]; decide) (vdC_seta attZ_len proZ_len (Att.tl ha)) rfl
theorem fill_vdb (k f : Int) (b : Pro) (hb : b.r.length = 32) : Instr.fill (PlV[·]?) (vdC 0 attZ proZ 0) [(0, iI k), (2, .agg b.c), (3, iI f)] = some (Vd.c ⟨k, zAtt, b, f⟩) := by
  refine fill_seg (ds := vdC k attZ proZ 0) rfl rfl (by rw [vdC_size attZ_len proZ_len]; decide) (vdC_segk _ _ _ _ _) <| fill_seg (ds := vdC k attZ b.cl 0) (off := 37) (n := 35) rfl (Pro.c_size b hb) (by rw [vdC_size attZ_len proZ_len]; decide) (vdC_setb attZ_len proZ_len (Pro.tl hb)) ?_
  exact fill_seg (ds := vdC k attZ b.cl f) (off := 72) (n := 1) rfl rfl (by rw [vdC_size attZ_len (Pro.tl hb)]; decide) (vdC_segf attZ_len (Pro.tl hb) f) rfl
theorem fill_vds (k : Int) (b : Pro) (hb : b.r.length = 32) : Instr.fill (PlV[·]?) (vdC 0 attZ proZ 0) [(0, iI k), (2, .agg b.c)] = some (Vd.c ⟨k, zAtt, b, 0⟩) := by
  refine fill_seg (ds := vdC k attZ proZ 0) rfl rfl (by rw [vdC_size attZ_len proZ_len]; decide) (vdC_segk _ _ _ _ _) ?_
  exact fill_seg (ds := vdC k attZ b.cl 0) (off := 37) (n := 35) rfl (Pro.c_size b hb) (by rw [vdC_size attZ_len proZ_len]; decide) (vdC_setb attZ_len proZ_len (Pro.tl hb)) rfl
def ofP (e W : Int) : Par := ⟨100, 100, e, W, 7, 8, 20, 50000000, 3, 50, 100000000⟩
section
variable {B : Nat} {w w' w'' : World}
def Six (U : TypeId) : Prop := U = 79 ∨ U = 161 ∨ U = 184 ∨ U = 185 ∨ U = 192 ∨ U = 168
theorem Turns.trans (s : Turns B w w') (t : Turns B w' w'') : Turns B w w'' := by
  obtain ⟨M, m, k⟩ := s
  obtain ⟨M2, m2, k2⟩ := t
  refine ⟨fun j => M j ∨ (M2 j ∧ ∀ cs U fr, w.heap[j]? = some (.cells cs U fr) → Six U), ⟨fun i hi hm => ?_, fun U h5 h0 h1 h2 h3 h4 j cs fr hj e => ?_⟩, ?_⟩
  · rcases hm with hm | hm
    · exact m.sub i hi hm
    · exact m2.sub i hi hm.1
  · rcases hj with hj | hj
    · exact m.odd U h5 h0 h1 h2 h3 h4 j cs fr hj e
    · rcases hj.2 cs U fr e with e | e | e | e | e | e
      · exact h5 e.symm
      · exact h0 e.symm
      · exact h1 e.symm
      · exact h2 e.symm
      · exact h3 e.symm
      · exact h4 e.symm
  · refine (k.mono fun _ _ h => .inl h).then k2 fun i hi hm => ?_
    by_cases hM : M i
    · exact .inl hM
    · refine .inr ⟨hm, fun cs U fr e => ?_⟩
      have e' := (k.block i hi hM).trans e
      by_cases h5 : 79 = U
      · exact .inl h5.symm
      by_cases h0 : 161 = U
      · exact .inr (.inl h0.symm)
      by_cases h1 : 184 = U
      · exact .inr (.inr (.inl h1.symm))
      by_cases h2 : 185 = U
      · exact .inr (.inr (.inr (.inl h2.symm)))
      by_cases h3 : 192 = U
      · exact .inr (.inr (.inr (.inr (.inl h3.symm))))
      by_cases h4 : 168 = U
      · exact .inr (.inr (.inr (.inr (.inr h4.symm))))
      · exact absurd e' (m2.odd U h5 h0 h1 h2 h3 h4 i cs fr hm)
theorem Turns.nn (s : Turns B w w') (k : Keeps Nob w' w'') : Turns B w w'' := let ⟨M, m, k1⟩ := s; ⟨M, m, k1.nn k⟩
theorem Turns.no (s : Turns B w w') {g : Nat} (k : Keeps (One g) w' w'') (hg : w.heap.size ≤ g) : Turns B w w'' := let ⟨M, m, k1⟩ := s; ⟨M, m, k1.no k hg⟩
theorem Turns.refl (B : Nat) (w : World) : Turns B w w := Turns.nob (Keeps.refl _ _)
theorem Turns.above (t : Turns B w w') : Keeps (fun j => B ≤ j) w w' := let ⟨_, m, k⟩ := t; k.mono fun i _ hm => Nat.le_of_not_lt fun h => m.sub i h hm
theorem Det1.is_attest {d : Nat} {p : Par} {h : Int} {A A' : List Att} {Q : List Pro} {a : Att} {y : Vd} {e0 : Int} (s : Det1 B w d p h A Q) (hB : B ≤ w.heap.size) (ha : a.Ok) (hE : attErr p h a = e0) (hV : attVd p h A a = y) (hN : attNew p h A a = A') : Calls prog 24 #[.pointer (some ⟨d, 0, none⟩), .agg (Att.c a)] w fun e w' => e = .returned (.tuple #[.agg (Vd.c y), iI e0]) ∧ Det1 B w' d p h A' Q ∧ Turns B w w' := by
  subst hE; subst hV; subst hN; exact s.attest hB ha
theorem Det1.is_propose {d : Nat} {p : Par} {h : Int} {A : List Att} {Q Q' : List Pro} {q : Pro} {y : Vd} {e0 : Int} (s : Det1 B w d p h A Q) (hB : B ≤ w.heap.size) (hq : q.Ok) (hE : proErr p h q = e0) (hV : proVd p h Q q = y) (hN : proNew p h Q q = Q') : Calls prog 25 #[.pointer (some ⟨d, 0, none⟩), .agg (Pro.c q)] w fun e w' => e = .returned (.tuple #[.agg (Vd.c y), iI e0]) ∧ Det1 B w' d p h A Q' ∧ Turns B w w' := by
  subst hE; subst hV; subst hN; exact s.propose hB hq
theorem Det1.is_move {d : Nat} {p : Par} {h h' x e0 : Int} {A : List Att} {Q : List Pro} (s : Det1 B w d p h A Q) (hB : B ≤ w.heap.size) (hE : movErr h x = e0) (hH : movH h x = h') : Calls prog 17 #[.pointer (some ⟨d, 0, none⟩), iI x] w fun e w' => e = .returned (iI e0) ∧ Det1 B w' d p h' A Q ∧ Turns B w w' := by
  subst hE; subst hH; exact s.move hB x
end
def byteH (b : UInt8) : List UInt8 := b :: List.replicate 31 0
theorem byteH_len (b : UInt8) : (byteH b).length = 32 := by simp [byteH]
def v1 (s t : Int) (b : UInt8) : Att := ⟨1, s, t, byteH b, 0⟩
def b1 (h : Int) (b : UInt8) : Pro := ⟨1, h, byteH b, 0⟩
def qc113_4 (n : Nat) : Code := partOf f43 n
theorem kdefault_ok (w : World) :
  Calls prog 43 #[] w (RK w (.agg #[iI 100, iI 100, iI 10, iI 8, iI 7, iI 8, iI 20, .int .u64 50000000, .int .u64 3, iI 50, .int .u64 100000000])) := by
 have K0 := kz0 w
 refine sf_ (qc113_4 1) func43 <| qr_ [0] <| pag 47 (#[iI 0, iI 0, iI 0, iI 0, iI 0, iI 0, iI 0, .int .u64 0, .int .u64 0, iI 0, .int .u64 0]) fun V1 g2 eg2 h3 j1 => ?_
 have n4 := nk eg2 K0
 have ⟨K5, z6⟩ := j1.z0 K0
 refine eqr_ [0, 1] <| kk 1 <| pst 47 g2 (#[iI 100, iI 100, iI 10, iI 8, iI 7, iI 8, iI 20, .int .u64 50000000, .int .u64 3, iI 50, .int .u64 100000000]) h3 (by kernel_rfl) rfl (by kernel_rfl) fun V7 h8 j7 => ?_
 have ⟨K9, z10⟩ := j7.zo0 K5
 refine eu_ <| sor 47 g2 h8 underlying47 (by kernel_rfl) ?_
 exact ⟨rfl, K9⟩
def qc113_6 (n : Nat) : Code := partOf f21 n
theorem ltof_ok (el wn : Int) (w : World) :
  Calls prog 21 #[iI el, iI wn] w (RK w (.agg (ofP el wn).cells)) := by
 have K0 := kz0 w
 refine sf_ (qc113_6 1) func21 <| qr_ [0] <| pag 47 (#[iI 0, iI 0, iI 0, iI 0, iI 0, iI 0, iI 0, .int .u64 0, .int .u64 0, iI 0, .int .u64 0]) fun V1 res eres h2 j1 => ?_
 have n3 := nk eres K0
 have ⟨K4, z5⟩ := j1.z0 K0
 refine eqr_ [0, 1, 2] <| pcs (kdefault_ok _) fun V6 j6 => ?_
 have ⟨K8, z9, h7⟩ := j6.z1 K4 h2
 refine pag 47 (#[iI 0, iI 0, iI 0, iI 0, iI 0, iI 0, iI 0, .int .u64 0, .int .u64 0, iI 0, .int .u64 0]) fun V10 pp epp h11 j10 => ?_
 have := nqk1 epp h7 K8
 have ⟨K15, z16, h14⟩ := j10.z1 K8 h7
 refine pst 47 pp (#[iI 100, iI 100, iI 10, iI 8, iI 7, iI 8, iI 20, .int .u64 50000000, .int .u64 3, iI 50, .int .u64 100000000]) h11 (by kernel_rfl) rfl (by kernel_rfl) fun V17 h18 j17 => ?_
 have ⟨K20, z21, h19⟩ := j17.zo1 K15 h14
 refine eqr_ [0, 1, 2] <| kk 2 <| pce 3 pp 2 (iI el) (#[iI 100, iI 100, iI el, iI 8, iI 7, iI 8, iI 20, .int .u64 50000000, .int .u64 3, iI 50, .int .u64 100000000]) h18 (rc h18 (by kernel_rfl)) (by kernel_rfl) (u := iI 10) fun V22 h23 j22 => ?_
 have ⟨K25, z26, h24⟩ := j22.zo1 K20 h19
 refine eqr_ [0, 1, 2] <| kk 2 <| pce 3 pp 3 (iI wn) (#[iI 100, iI 100, iI el, iI wn, iI 7, iI 8, iI 20, .int .u64 50000000, .int .u64 3, iI 50, .int .u64 100000000]) h23 (rc h23 (by kernel_rfl)) (by kernel_rfl) (u := iI 8) fun V27 h28 j27 => ?_
 have ⟨K30, z31, h29⟩ := j27.zo1 K25 h24
 refine eqr_ [0, 1] <| pP (ldr 47 pp h28 (by kernel_rfl)) <| pst 47 res (#[iI 100, iI 100, iI el, iI wn, iI 7, iI 8, iI 20, .int .u64 50000000, .int .u64 3, iI 50, .int .u64 100000000]) h29 (by kernel_rfl) rfl (by kernel_rfl) fun V32 h33 j32 => ?_
 have ⟨K35, z36⟩ := j32.zo0 K30
 refine eu_ <| sor 47 res h33 underlying47 (by kernel_rfl) ?_
 exact ⟨by kernel_rfl, K35⟩
def qc113_5 (n : Nat) : Code := partOf f9 n
theorem ltvote1_ok (s t : Int) (b : UInt8) (n : Int) (hn : n = (b.toNat : Int)) (w : World) :
  Calls prog 9 #[iI s, iI t, .int .u8 n] w (RK w (.agg (Att.c (v1 s t b)))) := by
 have K0 := kz0 w
 refine sf_ (qc113_5 1) func9 <| qr_ [0] <| pag 28 (#[iI 0, iI 0, iI 0, .int .u8 0, .int .u8 0, .int .u8 0, .int .u8 0, .int .u8 0, .int .u8 0, .int .u8 0, .int .u8 0, .int .u8 0, .int .u8 0, .int .u8 0, .int .u8 0, .int .u8 0, .int .u8 0, .int .u8 0, .int .u8 0, .int .u8 0, .int .u8 0, .int .u8 0, .int .u8 0, .int .u8 0, .int .u8 0, .int .u8 0, .int .u8 0, .int .u8 0, .int .u8 0, .int .u8 0, .int .u8 0, .int .u8 0, .int .u8 0, .int .u8 0, .int .u8 0, .int .u64 0]) fun V1 g2 eg2 h3 j1 => ?_
 have n4 := nk eg2 K0
 have ⟨K5, z6⟩ := j1.z0 K0
 refine eqr_ nl6_ <| kk 5 <| psk 28 g2 (#[iI 1, iI s, iI t, .int .u8 n, .int .u8 0, .int .u8 0, .int .u8 0, .int .u8 0, .int .u8 0, .int .u8 0, .int .u8 0, .int .u8 0, .int .u8 0, .int .u8 0, .int .u8 0, .int .u8 0, .int .u8 0, .int .u8 0, .int .u8 0, .int .u8 0, .int .u8 0, .int .u8 0, .int .u8 0, .int .u8 0, .int .u8 0, .int .u8 0, .int .u8 0, .int .u8 0, .int .u8 0, .int .u8 0, .int .u8 0, .int .u8 0, .int .u8 0, .int .u8 0, .int .u8 0, .int .u64 0]) h3 fun V7 h8 j7 => ?_
 have ⟨K9, z10⟩ := j7.zo0 K5
 refine eu_ <| sor 28 g2 h8 underlying28 (by kernel_rfl) ?_
 exact ⟨by subst hn; kernel_rfl, K9⟩
def qc113_3 (n : Nat) : Code := partOf f14 n
theorem ltblock1_ok (h : Int) (b : UInt8) (n : Int) (hn : n = (b.toNat : Int)) (w : World) :
  Calls prog 14 #[iI h, .int .u8 n] w (RK w (.agg (Pro.c (b1 h b)))) := by
 have K0 := kz0 w
 refine sf_ (qc113_3 1) func14 <| qr_ [0] <| pag 37 (#[iI 0, iI 0, .int .u8 0, .int .u8 0, .int .u8 0, .int .u8 0, .int .u8 0, .int .u8 0, .int .u8 0, .int .u8 0, .int .u8 0, .int .u8 0, .int .u8 0, .int .u8 0, .int .u8 0, .int .u8 0, .int .u8 0, .int .u8 0, .int .u8 0, .int .u8 0, .int .u8 0, .int .u8 0, .int .u8 0, .int .u8 0, .int .u8 0, .int .u8 0, .int .u8 0, .int .u8 0, .int .u8 0, .int .u8 0, .int .u8 0, .int .u8 0, .int .u8 0, .int .u8 0, .int .u64 0]) fun V1 g2 eg2 h3 j1 => ?_
 have n4 := nk eg2 K0
 have ⟨K5, z6⟩ := j1.z0 K0
 refine eqr_ nl5_ <| kk 4 <| psk 37 g2 (#[iI 1, iI h, .int .u8 n, .int .u8 0, .int .u8 0, .int .u8 0, .int .u8 0, .int .u8 0, .int .u8 0, .int .u8 0, .int .u8 0, .int .u8 0, .int .u8 0, .int .u8 0, .int .u8 0, .int .u8 0, .int .u8 0, .int .u8 0, .int .u8 0, .int .u8 0, .int .u8 0, .int .u8 0, .int .u8 0, .int .u8 0, .int .u8 0, .int .u8 0, .int .u8 0, .int .u8 0, .int .u8 0, .int .u8 0, .int .u8 0, .int .u8 0, .int .u8 0, .int .u8 0, .int .u64 0]) h3 fun V7 h8 j7 => ?_
 have ⟨K9, z10⟩ := j7.zo0 K5
 refine eu_ <| sor 37 g2 h8 underlying37 (by kernel_rfl) ?_
 exact ⟨by subst hn; kernel_rfl, K9⟩
structure GSt (S : World → Prop) (w : World) : Prop where
 s : S w
 k : ∀ w w', Keeps Nob w w' → S w → S w'
theorem GSt.keepsN {S : World → Prop} {w w' : World} (g : GSt S w) (k : Keeps Nob w w') : GSt S w' := ⟨g.k _ _ k g.s, g.k⟩
theorem GSt.of {B d : Nat} {p : Par} {h : Int} {A : List Att} {Q : List Pro} {w : World} (s : Det1 B w d p h A Q) : GSt (fun w => Det1 B w d p h A Q) w := ⟨s, fun _ _ k s => s.keepsN k⟩
def qc113_1 (n : Nat) : Code := partOf f28 n
theorem ltattests_g (B d : Nat) (S S' : World → Prop) (w : World) (hB : B ≤ w.heap.size) (D0 : GSt S w) (a : Att) (hr_a : a.r.length = 32) (k f : Int) (x : Att) (hr_x : x.r.length = 32) (y : Vd) (hyo : VdOk y) (hyv : y = ⟨k, x, zPro, f⟩) (hc : ∀ V, B ≤ V.heap.size → GSt S V → Calls prog 24 #[pT d 0, .agg (Att.c a)] V fun e W => e = .returned (.tuple #[.agg (Vd.c y), iI 0]) ∧ GSt S' W ∧ Turns B V W) :
  Calls prog 28 #[pT d 0, .agg (Att.c a), iI k, .agg (Att.c x), iI f] w (fun e w' => e = .returned (.bool true) ∧ GSt S' w' ∧ Turns B w w') := by
 have t0 := Turns.refl B w
 have K0 := Keeps.refl ((fun j => B ≤ j)) w
 refine sf_ (qc113_1 1) func28 <| qr_ [0, 1, 2] <| pbg 28 (Att.c a) fun V1 ga ega h2 j1 => ?_
 have n3 := nk ega K0
 have kb4 := (Keeps.refl Nob w).nn j1
 have h5 := Turns.nn t0 j1
 have ⟨K6, z7⟩ := j1.z0 K0
 refine pbg 28 (Att.c x) fun V8 gw egw h9 j8 => ?_
 have := nqk1 egw h2 K6
 have kb12 := kb4.nn j8
 have h13 := Turns.nn h5 j8
 have ⟨K15, z16, h14⟩ := j8.z1 K6 h2
 refine kk 1 <| eqr_ nl9_ <| kk 1 <| pP (ldz 28 ga h14 (Att.c_size _ hr_a)) ?_
 refine pct ((hc _ (Nat.le_trans hB K15.size) (D0.keepsN kb12)).mono ?_)
 rintro e V17 ⟨rfl, hDV17, MV17, hMV17, j17⟩
 refine ⟨_, rfl, ?_⟩
 have h18 : Turns B w V17 := Turns.trans h13 ⟨MV17, hMV17, j17⟩
 have h19 : HP V17 ga (Att.c a) 28 := (j17.block ga (lt_of_block h14) (fun e => hMV17.no h14 e)).trans h14
 have h20 : HP V17 gw (Att.c x) 28 := (j17.block gw (lt_of_block h9) (fun e => hMV17.no h9 e)).trans h9
 have K21 : Keeps ((fun j => B ≤ j)) w V17 := K15.then j17 (fun i hi hm => Nat.le_of_not_lt (fun h => hMV17.sub i h hm))
 have z22 := j17.size
 refine kk 3 <| pag 57 (vdC 0 attZ proZ 0) fun V23 gv egv h24 j23 => ?_
 have := nqk2 egv h19 h20 K21
 have h28 := Turns.nn h18 j23
 have h30 := j23.bk h20
 have kb31 := (Keeps.refl Nob V17).nn j23
 have ⟨K32, z33⟩ := j23.z0 K21
 refine pst 57 gv (Vd.c y) h24 (by rw [Vd.c_size hyo]; kernel_rfl) (vd_sizes (Vd.c_size hyo) (by kernel_rfl)) Vd.c_one fun V34 h35 j34 => ?_
 have h36 : Turns B w V34 := Turns.no h28 j34 (by omega)
 have h38 := j34.bO h30
 have kb39 : Keeps Nob V17 V34 := kb31.nO j34
 have ⟨K40, z41⟩ := j34.zo0 K32
 refine kk 1 <| eqr_ nl11_ <| kk 3 <| pP (ldz 57 gv h35 (Vd.c_size hyo)) <| kk 1 <| pP (ldz 28 gw h38 (Att.c_size _ hr_x)) <| kk 1 <| ppq (.agg (Vd.c (⟨k, x, zPro, f⟩))) (exec_build_fill 57 #[(0, .tmp 23), (1, .tmp 24), (3, .tmp 25)] (by kernel_rfl) [(0, iI k), (1, .agg (Att.c x)), (3, iI f)] (by kernel_rfl) _ underlying57 (.agg (vdC 0 attZ proZ 0)) (fun _ => by kernel_rfl) PlV (fun _ => by kernel_rfl) _ (fill_vda k f x hr_x)) <| ppq (.bool true) (exec_cast (congrArg Value.bool (decide_eq_true (show (y : Vd) = ⟨k, x, zPro, f⟩ from hyv))) (exec_binop .eql 57 57 (.tmp 22) (.tmp 26) (by kernel_rfl) (.agg (Vd.c y)) (.agg (Vd.c (⟨k, x, zPro, f⟩))) _ (by kernel_rfl) (by kernel_rfl) (run_eqGuard_agg _ _ _ _ _ _ _ vd_guard) (vd_eq _ _ hyo ⟨hr_x, zPro_r⟩ _))) <| kk 2 <| eu_ <| so_ (.bool true) ?_
 exact ⟨rfl, (hDV17.keepsN kb39), h36⟩
theorem ltattests_ok (B d : Nat) (p : Par) (h : Int) (A : List Att) (Q : List Pro) (w : World) (hB : B ≤ w.heap.size) (D0 : Det1 B w d p h A Q) (a : Att) (ha : a.Ok) (hr_a : a.r.length = 32) (k f : Int) (x : Att) (hr_x : x.r.length = 32) (hE : attErr p h a = 0) (y : Vd) (hyo : VdOk y) (hy : attVd p h A a = y) (hyv : y = ⟨k, x, zPro, f⟩) (A' : List Att) (hN : attNew p h A a = A') :
  Calls prog 28 #[pT d 0, .agg (Att.c a), iI k, .agg (Att.c x), iI f] w fun e w' => e = .returned (.bool true) ∧ Det1 B w' d p h A' Q ∧ Turns B w w' :=
 (ltattests_g B d _ (fun w => Det1 B w d p h A' Q) w hB (.of D0) a hr_a k f x hr_x y hyo hyv fun V hV s => (Det1.is_attest s.s hV ha hE hy hN).mono fun _ _ ⟨e, s, t⟩ => ⟨e, .of s, t⟩).mono fun _ _ ⟨e, s, t⟩ => ⟨e, s.s, t⟩
def qc113_0 (n : Nat) : Code := partOf f13 n
theorem ltproposes_g (B d : Nat) (S S' : World → Prop) (w : World) (hB : B ≤ w.heap.size) (D0 : GSt S w) (q : Pro) (hr_q : q.r.length = 32) (k f e0 : Int) (y : Vd) (hyo : VdOk y) (hk : y.k = k) (hf : y.f = f) (hc : ∀ V, B ≤ V.heap.size → GSt S V → Calls prog 25 #[pT d 0, .agg (Pro.c q)] V fun e W => e = .returned (.tuple #[.agg (Vd.c y), iI e0]) ∧ GSt S' W ∧ Turns B V W) :
  Calls prog 13 #[pT d 0, .agg (Pro.c q), iI k, iI f, iI e0] w (fun e w' => e = .returned (.bool true) ∧ GSt S' w' ∧ Turns B w w') := by
 have t0 := Turns.refl B w
 have K0 := Keeps.refl ((fun j => B ≤ j)) w
 refine sf_ (qc113_0 1) func13 <| qr_ [0, 1] <| pbg 37 (Pro.c q) fun V1 gq egq h2 j1 => ?_
 have n3 := nk egq K0
 have kb4 := (Keeps.refl Nob w).nn j1
 have h5 := Turns.nn t0 j1
 have ⟨K6, z7⟩ := j1.z0 K0
 refine kk 1 <| eqr_ nl9_ <| kk 1 <| pP (ldz 37 gq h2 (Pro.c_size _ hr_q)) ?_
 refine pct ((hc _ (Nat.le_trans hB K6.size) (D0.keepsN kb4)).mono ?_)
 rintro e V8 ⟨rfl, hDV8, MV8, hMV8, j8⟩
 refine ⟨_, rfl, ?_⟩
 have h9 : Turns B w V8 := Turns.trans h5 ⟨MV8, hMV8, j8⟩
 have h10 : HP V8 gq (Pro.c q) 37 := (j8.block gq (lt_of_block h2) (fun e => hMV8.no h2 e)).trans h2
 have K11 : Keeps ((fun j => B ≤ j)) w V8 := K6.then j8 (fun i hi hm => Nat.le_of_not_lt (fun h => hMV8.sub i h hm))
 have z12 := j8.size
 refine kk 3 <| pag 57 (vdC 0 attZ proZ 0) fun V13 gv egv h14 j13 => ?_
 have := nqk1 egv h10 K11
 have h17 := Turns.nn h9 j13
 have kb19 := (Keeps.refl Nob V8).nn j13
 have ⟨K20, z21⟩ := j13.z0 K11
 refine pst 57 gv (Vd.c y) h14 (by rw [Vd.c_size hyo]; kernel_rfl) (vd_sizes (Vd.c_size hyo) (by kernel_rfl)) Vd.c_one fun V22 h23 j22 => ?_
 have h24 : Turns B w V22 := Turns.no h17 j22 (by omega)
 have kb26 : Keeps Nob V8 V22 := kb19.nO j22
 have ⟨K27, z28⟩ := j22.zo0 K20
 refine kk 1 <| eqr_ nl16_ <| kk 2 <| ppq (.bool true) (cbo (show ((((e0) : Int) == ((e0) : Int))) = true from by simp)) <| kk 2 <| ppq (iI y.k) (lc h23 (rfl) (k := 0)) <| kk 1 <| ppq (.bool true) (cbo (show ((((y.k) : Int) == ((k) : Int))) = true from by rw [hk]; simp)) <| kk 3 <| pP (lc h23 (vdC_first (Att.tl hyo.a) (Pro.tl hyo.b))) <| kk 1 <| ppq (.bool true) (cbo (show ((((y.f) : Int) == ((f) : Int))) = true from by rw [hf]; simp)) <| kk 2 <| ps_end <| then_n <| u_ <| so_ (.bool true) ?_
 exact ⟨rfl, (hDV8.keepsN kb26), h24⟩
theorem ltproposes_ok (B d : Nat) (p : Par) (h : Int) (A : List Att) (Q : List Pro) (w : World) (hB : B ≤ w.heap.size) (D0 : Det1 B w d p h A Q) (q : Pro) (hq : q.Ok) (hr_q : q.r.length = 32) (k f e0 : Int) (hE : proErr p h q = e0) (y : Vd) (hyo : VdOk y) (hy : proVd p h Q q = y) (hk : y.k = k) (hf : y.f = f) (Q' : List Pro) (hN : proNew p h Q q = Q') :
  Calls prog 13 #[pT d 0, .agg (Pro.c q), iI k, iI f, iI e0] w fun e w' => e = .returned (.bool true) ∧ Det1 B w' d p h A Q' ∧ Turns B w w' :=
 (ltproposes_g B d _ (fun w => Det1 B w d p h A Q') w hB (.of D0) q hr_q k f e0 y hyo hk hf fun V hV s => (Det1.is_propose s.s hV hq hE hy hN).mono fun _ _ ⟨e, s, t⟩ => ⟨e, .of s, t⟩).mono fun _ _ ⟨e, s, t⟩ => ⟨e, s.s, t⟩
theorem lallsame_step {α : Type} [DecidableEq α] {l m : List α} (hl : l.length = m.length) {k : Nat} {x y : α} (hx : l[k]? = some x) (hy : m[k]? = some y) (h : l.take k = m.take k) : (l.take (k + 1) = m.take (k + 1)) ↔ x = y := by
 rw [List.take_add_one, List.take_add_one, hx, hy, h]
 constructor
 ·intro h2; have := List.append_cancel_left h2; simpa using this
 ·intro h2; rw [h2]
def qc114_1 (n : Nat) : Code := partOf f18 n
abbrev qo114_1 (n k : Nat) : Oper := (opsAt (qc114_1 n)).getD k default
theorem ltsameVotes_len (va vb : Value) (l m : List Att) (w : World) (Ha : AttsAt w va l) (Hb : AttsAt w vb m) (oka : ∀ x ∈ l, x.Ok) (okb : ∀ x ∈ m, x.Ok) (hne : l.length ≠ m.length) :
  Calls prog 18 #[va, vb] w (RK w (.bool (false))) := by
 have hll := Ha.len_le
 have hml := Hb.len_le
 have K0 := kz0 w
 refine sf_ (qc114_1 1) func18 <| qr_ [0] <| kk 1 <| eqr_ nl6_ <| kk 1 <| ppq (iN l.length) (lsl Ha underlying32) <| kk 1 <| ppq (iN m.length) (lsl Hb underlying32) <| pP (eqF (l.length : Int) (m.length : Int)) <| kk 1 <| eq_ <| qr_ [0] <| kk 1 <| et_ <| bl_ 0 <| sy_rounds 1 (qc114_1 116) (by kernel_rfl) <| rd_step <| q_ <| qr_ nl7_ <| kk 7 <| en_ <| sy_exit 0 (by kernel_rfl) ?_
 refine then_e <| then_e <| blk_e <| tqr_ [0, 1] <| kk 2 <| eu_ <| so_ (.bool false) ?_
 exact ⟨rfl, K0⟩
theorem lsame_cases (l m : List Att) (k : Nat) (bb : Bool) (hlen : l.length = m.length) (hk : k ≤ l.length) (hb : bb = decide (l.take k = m.take k)) :
  (bb = true ∧ k < l.length ∧ ∀ x y, l[k]? = some x → m[k]? = some y → x = y) ∨ (bb = true ∧ k < l.length ∧ ∀ x y, l[k]? = some x → m[k]? = some y → x ≠ y) ∨ (bb = true ∧ k = l.length ∧ l = m) ∨ (bb = false ∧ l ≠ m) := by
 cases bb with
 | false => exact .inr (.inr (.inr ⟨rfl, fun e => by subst e; simp at hb⟩))
 | true =>
  have ht : l.take k = m.take k := of_decide_eq_true hb.symm
  by_cases hlt : k < l.length
  ·by_cases h : l[k]? = m[k]?
   ·exact .inl ⟨rfl, hlt, fun x y hx hy => by rw [hx, hy] at h; exact Option.some.inj h⟩
   ·exact .inr (.inl ⟨rfl, hlt, fun x y hx hy e => h (by rw [hx, hy, e])⟩)
  ·have hk2 : k = l.length := by omega
   refine .inr (.inr (.inl ⟨rfl, hk2, ?_⟩))
   rwa [List.take_of_length_le (by omega), List.take_of_length_le (by omega)] at ht
theorem ltsameVotes_eq (va vb : Value) (l m : List Att) (w : World) (Ha : AttsAt w va l) (Hb : AttsAt w vb m) (oka : ∀ x ∈ l, x.Ok) (okb : ∀ x ∈ m, x.Ok) (hlen : l.length = m.length) :
  Calls prog 18 #[va, vb] w (RK w (.bool (decide (l = m)))) := by
 have hll := Ha.len_le
 have hml := Hb.len_le
 have K0 := kz0 w
 refine sf_ (qc114_1 1) func18 <| qr_ [0] <| kk 1 <| eqr_ nl6_ <| kk 1 <| ppq (iN l.length) (lsl Ha underlying32) <| kk 1 <| ppq (iN m.length) (lsl Hb underlying32) <| pP (eqT (l.length : Int) (m.length : Int)) <| kk 1 <| eq_ <| qr_ [0] <| kk 1 <| et_ <| bl_ 0 ?_
 refine sy_loop (qc114_1 116) (fun a V => ∃ (k : Nat) (bb : Bool), (Fr 31 [(0, va), (1, vb), (5, .bool bb), (6, iN k)] [] a) ∧ (k ≤ l.length) ∧ (bb = decide (l.take k = m.take k)) ∧ (AttsAt V va l) ∧ (AttsAt V vb m) ∧ (Keeps Nob w V)) (fun a _ => l.length - (intOf (a.tmps.getD 6 undef)).toNat) (by kernel_rfl) ?_ ?_
 ·exact ⟨0, true, fq, Nat.zero_le _, rfl, Ha, Hb, K0⟩
 ·rintro a V1 ⟨k, bb, hfr, hk, hb, h2, h3, K4⟩
  obtain ⟨uu5, rfl⟩ := Fr.open hfr
  rcases lsame_cases l m k bb hlen hk hb with ⟨rfl, hlt, hx0⟩ | ⟨rfl, hlt, hx0⟩ | ⟨rfl, heq, ht⟩ | ⟨rfl, hf⟩
  ·obtain ⟨x, hx⟩ : ∃ x, l[k]? = some x := ⟨_, List.getElem?_eq_getElem hlt⟩
   obtain ⟨y, hy⟩ : ∃ y, m[k]? = some y := ⟨_, List.getElem?_eq_getElem (by omega)⟩
   obtain ⟨b_a, o_a, c_a, hv_a, hb_a, _⟩ := (h2).at_ k _ hx
   obtain ⟨b_b, o_b, c_b, hv_b, hb_b, _⟩ := (h3).at_ k _ hy
   skip
   have hxy := hx0 x y hx hy
   refine q_ <| qr_ nl7_ <| kk 4 <| ppq (iN l.length) (lsl h2 underlying32) <| pP (dtT ((k : Int) < (l.length : Int))) <| kk 1 <| ey_ <| s_ <| tq_ <| bl_ 1 <| sy_reg <| rgs 9 (zo9_ (qo114_1 932)) [qo114_1 932 9] ?_
   obtain ⟨V7, eV7, j7⟩ := drew_step V1
   rw [eV7]
   clear eV7
   have h8 := h2.keepsN j7
   have h9 := h3.keepsN j7
   have K10 := K4.nn j7
   refine ks 2 <| spq _ (ixh hv_a k 36 underlying32) <| spq (.agg (Att.c x)) (ldm (Sl.range h8 hx hv_a) underlying28 (Att.cl_len (oka x (List.mem_of_getElem? hx)))) <| ks 2 <| spq _ (ixh hv_b k 36 underlying32) <| spq (.agg (Att.c y)) (ldm (Sl.range h9 hy hv_b) underlying28 (Att.cl_len (okb y (List.mem_of_getElem? hy)))) <| spq (.bool true) (exec_cast (congrArg Value.bool (decide_eq_true hxy)) (exec_binop .eql 28 28 (.tmp 24) (.tmp 28) (by kernel_rfl) (.agg (Att.c x)) (.agg (Att.c y)) _ (by kernel_rfl) (by kernel_rfl) (run_eqGuard_agg _ _ _ _ _ _ _ att_guard) (att_eq _ _ (oka x (List.mem_of_getElem? hx)).r (okb y (List.mem_of_getElem? hy)).r _))) <| st_end <| ls_run (qo114_1 932 9) (.bool true) (w' := V7) (by kernel_rfl) (by kernel_rfl) <| ls_end <| blk_n <| tr_ [0, 1, 2] <| kk 1 <| pP (cwN (n := k + 1)) <| kk 1 <| et_ ?_
   refine ⟨⟨k + 1, true, fq, by omega, (by first | exact (decide_eq_true ((lallsame_step hlen hx hy (of_decide_eq_true hb.symm)).2 hxy)).symm | exact (decide_eq_false (fun h => hxy ((lallsame_step hlen hx hy (of_decide_eq_true hb.symm)).1 h))).symm), h8, h9, K10⟩, ?_⟩
   exact ltm (l.length - (k + 1)) (l.length - k)
  ·obtain ⟨x, hx⟩ : ∃ x, l[k]? = some x := ⟨_, List.getElem?_eq_getElem hlt⟩
   obtain ⟨y, hy⟩ : ∃ y, m[k]? = some y := ⟨_, List.getElem?_eq_getElem (by omega)⟩
   obtain ⟨b_a, o_a, c_a, hv_a, hb_a, _⟩ := (h2).at_ k _ hx
   obtain ⟨b_b, o_b, c_b, hv_b, hb_b, _⟩ := (h3).at_ k _ hy
   skip
   have hxy := hx0 x y hx hy
   refine q_ <| qr_ nl7_ <| kk 4 <| ppq (iN l.length) (lsl h2 underlying32) <| pP (dtT ((k : Int) < (l.length : Int))) <| kk 1 <| ey_ <| s_ <| tq_ <| bl_ 1 <| sy_reg <| rgs 9 (zo9_ (qo114_1 932)) [qo114_1 932 9] ?_
   obtain ⟨V12, eV12, j12⟩ := drew_step V1
   rw [eV12]
   clear eV12
   have h13 := h2.keepsN j12
   have h14 := h3.keepsN j12
   have K15 := K4.nn j12
   refine ks 2 <| spq _ (ixh hv_a k 36 underlying32) <| spq (.agg (Att.c x)) (ldm (Sl.range h13 hx hv_a) underlying28 (Att.cl_len (oka x (List.mem_of_getElem? hx)))) <| ks 2 <| spq _ (ixh hv_b k 36 underlying32) <| spq (.agg (Att.c y)) (ldm (Sl.range h14 hy hv_b) underlying28 (Att.cl_len (okb y (List.mem_of_getElem? hy)))) <| spq (.bool false) (exec_cast (congrArg Value.bool (decide_eq_false hxy)) (exec_binop .eql 28 28 (.tmp 24) (.tmp 28) (by kernel_rfl) (.agg (Att.c x)) (.agg (Att.c y)) _ (by kernel_rfl) (by kernel_rfl) (run_eqGuard_agg _ _ _ _ _ _ _ att_guard) (att_eq _ _ (oka x (List.mem_of_getElem? hx)).r (okb y (List.mem_of_getElem? hy)).r _))) <| st_end <| ls_run (qo114_1 932 9) (.bool false) (w' := V12) (by kernel_rfl) (by kernel_rfl) <| ls_end <| blk_n <| tr_ [0, 1, 2] <| kk 1 <| pP (cwN (n := k + 1)) <| kk 1 <| et_ ?_
   refine ⟨⟨k + 1, false, fq, by omega, (by first | exact (decide_eq_true ((lallsame_step hlen hx hy (of_decide_eq_true hb.symm)).2 hxy)).symm | exact (decide_eq_false (fun h => hxy ((lallsame_step hlen hx hy (of_decide_eq_true hb.symm)).1 h))).symm), h13, h14, K15⟩, ?_⟩
   exact ltm (l.length - (k + 1)) (l.length - k)
  ·skip
   refine q_ <| qr_ nl7_ <| kk 4 <| ppq (iN l.length) (lsl h2 underlying32) <| pP (dtF ((k : Int) < (l.length : Int))) <| kk 1 <| en_ <| sy_exit 0 (by kernel_rfl) <| then_e <| then_e <| blk_e <| tqr_ [0, 1] <| kk 2 <| eu_ <| so_ (.bool true) ?_
   exact ⟨by first | (rw [decide_eq_true (by first | exact ht | exact hf)]) | (rw [decide_eq_false (by first | exact ht | exact hf)]), K4⟩
  ·skip
   refine q_ <| qr_ nl7_ <| kk 7 <| en_ <| sy_exit 0 (by kernel_rfl) <| then_e <| then_e <| blk_e <| tqr_ [0, 1] <| kk 2 <| eu_ <| so_ (.bool false) ?_
   exact ⟨by first | (rw [decide_eq_true (by first | exact ht | exact hf)]) | (rw [decide_eq_false (by first | exact ht | exact hf)]), K4⟩
theorem ltsameVotes_ok (va vb : Value) (l m : List Att) (w : World) (Ha : AttsAt w va l) (Hb : AttsAt w vb m) (oka : ∀ x ∈ l, x.Ok) (okb : ∀ x ∈ m, x.Ok) : Calls prog 18 #[va, vb] w (RK w (.bool (decide (l = m)))) := by
 by_cases h : l.length = m.length
 ·exact ltsameVotes_eq va vb l m w Ha Hb oka okb h
 ·rw [decide_eq_false (fun e => h (by rw [e]))]; exact ltsameVotes_len va vb l m w Ha Hb oka okb h
def qc114_0 (n : Nat) : Code := partOf f15 n
abbrev qo114_0 (n k : Nat) : Oper := (opsAt (qc114_0 n)).getD k default
theorem ltsameBlocks_len (va vb : Value) (l m : List Pro) (w : World) (Ha : ProsAt w va l) (Hb : ProsAt w vb m) (oka : ∀ x ∈ l, x.Ok) (okb : ∀ x ∈ m, x.Ok) (hne : l.length ≠ m.length) :
  Calls prog 15 #[va, vb] w (RK w (.bool (false))) := by
 have hll := Ha.len_le
 have hml := Hb.len_le
 have K0 := kz0 w
 refine sf_ (qc114_0 1) func15 <| qr_ [0] <| kk 1 <| eqr_ nl6_ <| kk 1 <| ppq (iN l.length) (lsl Ha underlying40) <| kk 1 <| ppq (iN m.length) (lsl Hb underlying40) <| pP (eqF (l.length : Int) (m.length : Int)) <| kk 1 <| eq_ <| qr_ [0] <| kk 1 <| et_ <| bl_ 0 <| sy_rounds 1 (qc114_0 116) (by kernel_rfl) <| rd_step <| q_ <| qr_ nl7_ <| kk 7 <| en_ <| sy_exit 0 (by kernel_rfl) ?_
 refine then_e <| then_e <| blk_e <| tqr_ [0, 1] <| kk 2 <| eu_ <| so_ (.bool false) ?_
 exact ⟨rfl, K0⟩
theorem lsame_casesB (l m : List Pro) (k : Nat) (bb : Bool) (hlen : l.length = m.length) (hk : k ≤ l.length) (hb : bb = decide (l.take k = m.take k)) :
  (bb = true ∧ k < l.length ∧ ∀ x y, l[k]? = some x → m[k]? = some y → x = y) ∨ (bb = true ∧ k < l.length ∧ ∀ x y, l[k]? = some x → m[k]? = some y → x ≠ y) ∨ (bb = true ∧ k = l.length ∧ l = m) ∨ (bb = false ∧ l ≠ m) := by
 cases bb with
 | false => exact .inr (.inr (.inr ⟨rfl, fun e => by subst e; simp at hb⟩))
 | true =>
  have ht : l.take k = m.take k := of_decide_eq_true hb.symm
  by_cases hlt : k < l.length
  ·by_cases h : l[k]? = m[k]?
   ·exact .inl ⟨rfl, hlt, fun x y hx hy => by rw [hx, hy] at h; exact Option.some.inj h⟩
   ·exact .inr (.inl ⟨rfl, hlt, fun x y hx hy e => h (by rw [hx, hy, e])⟩)
  ·have hk2 : k = l.length := by omega
   refine .inr (.inr (.inl ⟨rfl, hk2, ?_⟩))
   rwa [List.take_of_length_le (by omega), List.take_of_length_le (by omega)] at ht
theorem ltsameBlocks_eq (va vb : Value) (l m : List Pro) (w : World) (Ha : ProsAt w va l) (Hb : ProsAt w vb m) (oka : ∀ x ∈ l, x.Ok) (okb : ∀ x ∈ m, x.Ok) (hlen : l.length = m.length) :
  Calls prog 15 #[va, vb] w (RK w (.bool (decide (l = m)))) := by
 have hll := Ha.len_le
 have hml := Hb.len_le
 have K0 := kz0 w
 refine sf_ (qc114_0 1) func15 <| qr_ [0] <| kk 1 <| eqr_ nl6_ <| kk 1 <| ppq (iN l.length) (lsl Ha underlying40) <| kk 1 <| ppq (iN m.length) (lsl Hb underlying40) <| pP (eqT (l.length : Int) (m.length : Int)) <| kk 1 <| eq_ <| qr_ [0] <| kk 1 <| et_ <| bl_ 0 ?_
 refine sy_loop (qc114_0 116) (fun a V => ∃ (k : Nat) (bb : Bool), (Fr 31 [(0, va), (1, vb), (5, .bool bb), (6, iN k)] [] a) ∧ (k ≤ l.length) ∧ (bb = decide (l.take k = m.take k)) ∧ (ProsAt V va l) ∧ (ProsAt V vb m) ∧ (Keeps Nob w V)) (fun a _ => l.length - (intOf (a.tmps.getD 6 undef)).toNat) (by kernel_rfl) ?_ ?_
 ·exact ⟨0, true, fq, Nat.zero_le _, rfl, Ha, Hb, K0⟩
 ·rintro a V1 ⟨k, bb, hfr, hk, hb, h2, h3, K4⟩
  obtain ⟨uu5, rfl⟩ := Fr.open hfr
  rcases lsame_casesB l m k bb hlen hk hb with ⟨rfl, hlt, hx0⟩ | ⟨rfl, hlt, hx0⟩ | ⟨rfl, heq, ht⟩ | ⟨rfl, hf⟩
  ·obtain ⟨x, hx⟩ : ∃ x, l[k]? = some x := ⟨_, List.getElem?_eq_getElem hlt⟩
   obtain ⟨y, hy⟩ : ∃ y, m[k]? = some y := ⟨_, List.getElem?_eq_getElem (by omega)⟩
   obtain ⟨b_a, o_a, c_a, hv_a, hb_a, _⟩ := (h2).at_ k _ hx
   obtain ⟨b_b, o_b, c_b, hv_b, hb_b, _⟩ := (h3).at_ k _ hy
   skip
   have hxy := hx0 x y hx hy
   refine q_ <| qr_ nl7_ <| kk 4 <| ppq (iN l.length) (lsl h2 underlying40) <| pP (dtT ((k : Int) < (l.length : Int))) <| kk 1 <| ey_ <| s_ <| tq_ <| bl_ 1 <| sy_reg <| rgs 9 (zo9_ (qo114_0 932)) [qo114_0 932 9] ?_
   obtain ⟨V7, eV7, j7⟩ := drew_step V1
   rw [eV7]
   clear eV7
   have h8 := h2.keepsN j7
   have h9 := h3.keepsN j7
   have K10 := K4.nn j7
   refine ks 2 <| spq _ (ixh hv_a k 35 underlying40) <| spq (.agg (Pro.c x)) (ldm (Sl.range h8 hx hv_a) underlying37 (Pro.cl_len (oka x (List.mem_of_getElem? hx)))) <| ks 2 <| spq _ (ixh hv_b k 35 underlying40) <| spq (.agg (Pro.c y)) (ldm (Sl.range h9 hy hv_b) underlying37 (Pro.cl_len (okb y (List.mem_of_getElem? hy)))) <| spq (.bool true) (exec_cast (congrArg Value.bool (decide_eq_true hxy)) (exec_binop .eql 37 37 (.tmp 24) (.tmp 28) (by kernel_rfl) (.agg (Pro.c x)) (.agg (Pro.c y)) _ (by kernel_rfl) (by kernel_rfl) (run_eqGuard_agg _ _ _ _ _ _ _ pro_guard) (pro_eq _ _ (oka x (List.mem_of_getElem? hx)).r (okb y (List.mem_of_getElem? hy)).r _))) <| st_end <| ls_run (qo114_0 932 9) (.bool true) (w' := V7) (by kernel_rfl) (by kernel_rfl) <| ls_end <| blk_n <| tr_ [0, 1, 2] <| kk 1 <| pP (cwN (n := k + 1)) <| kk 1 <| et_ ?_
   refine ⟨⟨k + 1, true, fq, by omega, (by first | exact (decide_eq_true ((lallsame_step hlen hx hy (of_decide_eq_true hb.symm)).2 hxy)).symm | exact (decide_eq_false (fun h => hxy ((lallsame_step hlen hx hy (of_decide_eq_true hb.symm)).1 h))).symm), h8, h9, K10⟩, ?_⟩
   exact ltm (l.length - (k + 1)) (l.length - k)
  ·obtain ⟨x, hx⟩ : ∃ x, l[k]? = some x := ⟨_, List.getElem?_eq_getElem hlt⟩
   obtain ⟨y, hy⟩ : ∃ y, m[k]? = some y := ⟨_, List.getElem?_eq_getElem (by omega)⟩
   obtain ⟨b_a, o_a, c_a, hv_a, hb_a, _⟩ := (h2).at_ k _ hx
   obtain ⟨b_b, o_b, c_b, hv_b, hb_b, _⟩ := (h3).at_ k _ hy
   skip
   have hxy := hx0 x y hx hy
   refine q_ <| qr_ nl7_ <| kk 4 <| ppq (iN l.length) (lsl h2 underlying40) <| pP (dtT ((k : Int) < (l.length : Int))) <| kk 1 <| ey_ <| s_ <| tq_ <| bl_ 1 <| sy_reg <| rgs 9 (zo9_ (qo114_0 932)) [qo114_0 932 9] ?_
   obtain ⟨V12, eV12, j12⟩ := drew_step V1
   rw [eV12]
   clear eV12
   have h13 := h2.keepsN j12
   have h14 := h3.keepsN j12
   have K15 := K4.nn j12
   refine ks 2 <| spq _ (ixh hv_a k 35 underlying40) <| spq (.agg (Pro.c x)) (ldm (Sl.range h13 hx hv_a) underlying37 (Pro.cl_len (oka x (List.mem_of_getElem? hx)))) <| ks 2 <| spq _ (ixh hv_b k 35 underlying40) <| spq (.agg (Pro.c y)) (ldm (Sl.range h14 hy hv_b) underlying37 (Pro.cl_len (okb y (List.mem_of_getElem? hy)))) <| spq (.bool false) (exec_cast (congrArg Value.bool (decide_eq_false hxy)) (exec_binop .eql 37 37 (.tmp 24) (.tmp 28) (by kernel_rfl) (.agg (Pro.c x)) (.agg (Pro.c y)) _ (by kernel_rfl) (by kernel_rfl) (run_eqGuard_agg _ _ _ _ _ _ _ pro_guard) (pro_eq _ _ (oka x (List.mem_of_getElem? hx)).r (okb y (List.mem_of_getElem? hy)).r _))) <| st_end <| ls_run (qo114_0 932 9) (.bool false) (w' := V12) (by kernel_rfl) (by kernel_rfl) <| ls_end <| blk_n <| tr_ [0, 1, 2] <| kk 1 <| pP (cwN (n := k + 1)) <| kk 1 <| et_ ?_
   refine ⟨⟨k + 1, false, fq, by omega, (by first | exact (decide_eq_true ((lallsame_step hlen hx hy (of_decide_eq_true hb.symm)).2 hxy)).symm | exact (decide_eq_false (fun h => hxy ((lallsame_step hlen hx hy (of_decide_eq_true hb.symm)).1 h))).symm), h13, h14, K15⟩, ?_⟩
   exact ltm (l.length - (k + 1)) (l.length - k)
  ·skip
   refine q_ <| qr_ nl7_ <| kk 4 <| ppq (iN l.length) (lsl h2 underlying40) <| pP (dtF ((k : Int) < (l.length : Int))) <| kk 1 <| en_ <| sy_exit 0 (by kernel_rfl) <| then_e <| then_e <| blk_e <| tqr_ [0, 1] <| kk 2 <| eu_ <| so_ (.bool true) ?_
   exact ⟨by first | (rw [decide_eq_true (by first | exact ht | exact hf)]) | (rw [decide_eq_false (by first | exact ht | exact hf)]), K4⟩
  ·skip
   refine q_ <| qr_ nl7_ <| kk 7 <| en_ <| sy_exit 0 (by kernel_rfl) <| then_e <| then_e <| blk_e <| tqr_ [0, 1] <| kk 2 <| eu_ <| so_ (.bool false) ?_
   exact ⟨by first | (rw [decide_eq_true (by first | exact ht | exact hf)]) | (rw [decide_eq_false (by first | exact ht | exact hf)]), K4⟩
theorem ltsameBlocks_ok (va vb : Value) (l m : List Pro) (w : World) (Ha : ProsAt w va l) (Hb : ProsAt w vb m) (oka : ∀ x ∈ l, x.Ok) (okb : ∀ x ∈ m, x.Ok) : Calls prog 15 #[va, vb] w (RK w (.bool (decide (l = m)))) := by
 by_cases h : l.length = m.length
 ·exact ltsameBlocks_eq va vb l m w Ha Hb oka okb h
 ·rw [decide_eq_false (fun e => h (by rw [e]))]; exact ltsameBlocks_len va vb l m w Ha Hb oka okb h
def rdC (p : Par) (h : Int) (va vb : Value) : Array Value := #[iI p.unb, iI p.mage, iI p.elen, iI p.win, iI p.ent, iI p.act, iI p.jail, .int .u64 p.base, .int .u64 p.mult, iI p.corr, .int .u64 p.rew, iI h, va, vb]
theorem rdC_seg (p : Par) (h : Int) (va vb : Value) (j : Nat) (u : Value) (e : p.cells.toList[j]? = some u) : (rdC p h va vb)[0 + j]? = some u := by
 rw [show rdC p h va vb = (p.cells.toList ++ [iI h, va, vb]).toArray from rfl, Nat.zero_add, List.getElem?_toArray, List.getElem?_append_left (List.getElem?_eq_some_iff.1 e).1]; exact e
def RDet (w : World) (q base : Nat) (p : Par) (h : Int) (A : List Att) (Q : List Pro) : Prop :=
 ∃ va vb, HP w q (rdC p h va vb) 113 ∧ Row w 28 36 va A.length (A.flatMap Att.cl) ∧ NewFrom base va ∧ Row w 37 35 vb Q.length (Q.flatMap Pro.cl) ∧ NewFrom base vb
section
variable {w w' : World} {q base : Nat} {p : Par} {h x : Int} {A : List Att} {Q : List Pro}
theorem RDet.keeps {M : Nat → Prop} (s : RDet w q base p h A Q) (k : Keeps M w w') (hq : ¬ M q) (hM : ∀ j, M j → j < base) : RDet w' q base p h A Q := by
 obtain ⟨va, vb, h1, h2, h3, h4, h5⟩ := s
 exact ⟨va, vb, (k.block q (lt_of_block h1) hq).trans h1, h2.keeps k (fun j hj hm => by have := h3 j hj; have := hM j hm; omega), h3, h4.keeps k (fun j hj hm => by have := h5 j hj; have := hM j hm; omega), h5⟩
theorem RDet.keepsN (s : RDet w q base p h A Q) (k : Keeps Nob w w') : RDet w' q base p h A Q := by
 obtain ⟨va, vb, h1, h2, h3, h4, h5⟩ := s
 exact ⟨va, vb, k.bk h1, h2.keeps k (fun _ _ x => x), h3, h4.keeps k (fun _ _ x => x), h5⟩
theorem RDet.lt (s : RDet w q base p h A Q) : q < w.heap.size := let ⟨_, _, h1, _⟩ := s; lt_of_block h1
theorem rdLow_is (q : DOk p h) (hx : dlo p h = x) (w : World) : Calls prog 135 #[.agg p.cells, iI h] w (RK w (.tuple #[iI x, iI 0])) := by
 have hc := rLow_ok p q.1 h (by have := q.2.2; unfold i64ok; omega) w
 rw [q.low_is.1] at hc; exact hx ▸ hc
theorem rdEpoch_is (q : DOk p h) (hx : dep p h = x) (w : World) : Calls prog 136 #[.agg p.cells, iI h] w (RK w (.tuple #[iI x, iI 0])) := by
 have hc := rEpoch_ok p q.1 h (by have := q.2.2; unfold i64ok; omega) w
 rw [q.low_is.2.1] at hc; exact hx ▸ hc
theorem rdFloor_is (q : DOk p h) (hx : dfl p h = x) (w : World) : Calls prog 137 #[.agg p.cells, iI h] w (RK w (.tuple #[iI x, iI 0])) := by
 have hc := rFloor_ok p q.1 h (by have := q.2.2; unfold i64ok; omega) w
 rw [q.low_is.2.2] at hc; exact hx ▸ hc
theorem r7_is (hp : p.Ok) {e0 y : Int} (hc : p.check = (e0, y)) (w : World) : Calls prog 63 #[.agg p.cells] w (RK w (.tuple #[iI e0, iI y])) := by
 have := r7Check_ok p hp w
 rw [hc] at this; exact this
end
def qc115_0 (n : Nat) : Code := partOf f105 n
theorem rdwindow_ok (q : Nat) (p : Par) (h : Int) (va vb : Value) (w : World) (hq : HP w q (rdC p h va vb) 113) (q0 : DOk p h) (lo ee ff : Int) (hlo : dlo p h = lo) (hee : dep p h = ee) (hff : dfl p h = ff) :
  Calls prog 105 #[pT q 0] w (RK w (.tuple #[iI lo, iI ee, iI ff])) := by
 have K0 := kz0 w
 refine sf_ (qc115_0 1) func105 <| qr_ [0, 1, 2] <| kk 3 <| eq_ <| anp 14 (fun W => (HP W q (rdC p h va vb) 113)) fun V1 j1 => ?_
 have ⟨K3, h2⟩ := j1.K1 K0 hq
 refine kA [0, 1, 2] <| aV 3 (.agg p.cells) (fun W hS => exec_cast (v := .agg p.cells.toList.toArray) rfl (exec_load_seg 47 (.tmp 14) (by kernel_rfl) q 0 (by kernel_rfl) p.cells.toList _ _ _ hS (rdC_seg p h va vb) underlying47 rfl (by kernel_rfl))) <| kA [4, 5, 6] <| aV 7 (iI h) (fun W hS => lc hS (rfl) (k := 11)) <| an_o 8 <| ncs (rdLow_is q0 hlo _) fun V4 j4 => ?_
 have ⟨K6, h5⟩ := j4.K1 K3 h2
 refine ⟨h5, ?_⟩
 refine kA [9, 10, 11] <| ako 12 ?_
 refine ako 13 ?_
 refine ane <| tq_ <| anp 14 (fun W => (HP W q (rdC p h va vb) 113)) fun V7 j7 => ?_
 have ⟨K9, h8⟩ := j7.K1 K6 h5
 refine kA [0, 1, 2] <| aV 3 (.agg p.cells) (fun W hS => exec_cast (v := .agg p.cells.toList.toArray) rfl (exec_load_seg 47 (.tmp 26) (by kernel_rfl) q 0 (by kernel_rfl) p.cells.toList _ _ _ hS (rdC_seg p h va vb) underlying47 rfl (by kernel_rfl))) <| kA [4, 5, 6] <| aV 7 (iI h) (fun W hS => lc hS (rfl) (k := 11)) <| an_o 8 <| ncs (rdEpoch_is q0 hee _) fun V10 j10 => ?_
 have ⟨K12, h11⟩ := j10.K1 K9 h8
 refine ⟨h11, ?_⟩
 refine kA [9, 10, 11] <| ako 12 ?_
 refine ako 13 ?_
 refine ane <| tq_ <| anp 14 (fun W => (HP W q (rdC p h va vb) 113)) fun V13 j13 => ?_
 have ⟨K15, h14⟩ := j13.K1 K12 h11
 refine kA [0, 1, 2] <| aV 3 (.agg p.cells) (fun W hS => exec_cast (v := .agg p.cells.toList.toArray) rfl (exec_load_seg 47 (.tmp 38) (by kernel_rfl) q 0 (by kernel_rfl) p.cells.toList _ _ _ hS (rdC_seg p h va vb) underlying47 rfl (by kernel_rfl))) <| kA [4, 5, 6] <| aV 7 (iI h) (fun W hS => lc hS (rfl) (k := 11)) <| an_o 8 <| ncs (rdFloor_is q0 hff _) fun V16 j16 => ?_
 have ⟨K18, h17⟩ := j16.K1 K15 h14
 refine ⟨h17, ?_⟩
 refine kA [9, 10, 11] <| ako 12 ?_
 refine ako 13 ?_
 refine ane <| tqr_ nl6_ <| kk 6 <| eu_ <| so_ (.tuple #[iI lo, iI ee, iI ff]) ?_
 exact ⟨rfl, K18⟩
def atV (v t : Int) (a : Att) : Bool := decide (a.v = v ∧ a.t = t)
def vsq (A : List Att) (v lo : Int) (k i : Nat) : List Att := ((List.range k).flatMap fun (j : Nat) => A.filter (atV v (lo + (j : Int)))) ++ (A.take i).filter (atV v (lo + (k : Int)))
section
variable {A : List Att} {v lo : Int} {k i : Nat} {x : Att}
theorem vsq_yes (hx : A[i]? = some x) (hp : x.v = v ∧ x.t = lo + (k : Int)) : vsq A v lo k (i + 1) = vsq A v lo k i ++ [x] := by
 unfold vsq
 rw [List.take_add_one, hx, List.filter_append, ← List.append_assoc]
 simp [atV, hp]
theorem vsq_no (hx : A[i]? = some x) (hp : ¬ (x.v = v ∧ x.t = lo + (k : Int))) : vsq A v lo k (i + 1) = vsq A v lo k i := by
 unfold vsq
 rw [List.take_add_one, hx, List.filter_append]
 simp [atV, hp]
theorem vsq_next : vsq A v lo k A.length = vsq A v lo (k + 1) 0 := by
 unfold vsq
 rw [List.take_of_length_le (Nat.le_refl _), List.range_succ, List.flatMap_append]
 simp
theorem vsq_len (hA : A.length ≤ 300) (hk : k ≤ 4294967296) : (vsq A v lo k i).length ≤ 1288490189100 := by
 have h1 : ∀ n : Nat, ((List.range n).flatMap fun (j : Nat) => A.filter (atV v (lo + (j : Int)))).length ≤ n * 300 := by
  intro n
  induction n with
  | zero => simp
  | succ n ih =>
   rw [List.range_succ, List.flatMap_append, List.length_append]
   have : ([n].flatMap fun (j : Nat) => A.filter (atV v (lo + (j : Int)))).length ≤ 300 := by
    simp only [List.flatMap_cons, List.flatMap_nil, List.append_nil]
    exact Nat.le_trans (List.length_filter_le _ _) hA
   omega
 have h2 := h1 k
 have h3 : ((A.take i).filter (atV v (lo + (k : Int)))).length ≤ 300 := Nat.le_trans (List.length_filter_le _ _) (by rw [List.length_take]; omega)
 unfold vsq
 rw [List.length_append]; omega
theorem vsq_all {p : Par} {h ee : Int} (hlo : dlo p h = lo) (hee : dep p h = ee) (hk : k = (ee + 1 - lo).toNat) : vsq A v lo k 0 = votesOf p h A v := by
 unfold vsq votesOf Sp.epochs
 rw [hlo, hee, ← hk, List.flatMap_map]
 simp only [List.take_zero, List.filter_nil, List.append_nil]
 rfl
theorem vsq_cases (i : Nat) (t : Int) (hi : i ≤ A.length) : (∃ x, i < A.length ∧ A[i]? = some x ∧ x.v = v ∧ x.t = t) ∨ (∃ x, i < A.length ∧ A[i]? = some x ∧ x.v = v ∧ ¬ x.t = t) ∨ (∃ x, i < A.length ∧ A[i]? = some x ∧ ¬ x.v = v) ∨ i = A.length := by
 by_cases h : i < A.length
 ·by_cases e : A[i].v = v
  ·by_cases e2 : A[i].t = t
   ·exact .inl ⟨_, h, List.getElem?_eq_getElem h, e, e2⟩
   ·exact .inr (.inl ⟨_, h, List.getElem?_eq_getElem h, e, e2⟩)
  ·exact .inr (.inr (.inl ⟨_, h, List.getElem?_eq_getElem h, e⟩))
 ·exact .inr (.inr (.inr (by omega)))
end
def qc116_0 (n : Nat) : Code := partOf f68 n
abbrev qo116_0 (n k : Nat) : Oper := (opsAt (qc116_0 n)).getD k default
theorem rdVotes_ok (q base : Nat) (p : Par) (h : Int) (A : List Att) (Q : List Pro) (v : Int) (w : World) (H : RDet w q base p h A Q) (inv : DInv p h A Q) (hA : A.length ≤ 300) :
  Calls prog 68 #[pT q 0, iI v] w (fun e w' => ∃ va, e = .returned va ∧ Row w' 28 36 va (votesOf p h A v).length ((votesOf p h A v).flatMap Att.cl) ∧ NewFrom w.heap.size va ∧ Keeps Nob w w') := by
 have H0 := H
 obtain ⟨va, vb, hq, hra, hna, hrb, hnb⟩ := H
 have hoa : ∀ x ∈ A, x.Ok := fun x hx => (inv.a x hx).1
 have hob : ∀ x ∈ Q, x.Ok := fun x hx => (inv.q x hx).1
 have hsa : AttsAt w va A := Row.sl hra rfl (fun x hx => Att.cl_len (hoa x hx))
 have hsb : ProsAt w vb Q := Row.sl hrb rfl (fun x hx => Pro.cl_len (hob x hx))
 have hal := hsa.len_le
 have hbl := hsb.len_le
 have ltq := lt_of_block hq
 obtain ⟨lo, hlo⟩ : ∃ y, dlo p h = y := ⟨_, rfl⟩
 obtain ⟨ee, hee⟩ : ∃ y, dep p h = y := ⟨_, rfl⟩
 obtain ⟨ff, hff⟩ : ∃ y, dfl p h = y := ⟨_, rfl⟩
 have blo := inv.ok.lo
 have bep := inv.ok.ep
 rw [hlo, hee] at blo
 rw [hee] at bep
 obtain ⟨ia, hia0, hia1, hia2, hia3⟩ := info_parts att_info0
 have hr0 : Row w 28 36 (.slice none 0 0) (vsq A v lo 0 0).length ((vsq A v lo 0 0).flatMap Att.cl) := World.ownsRow_nil _ _ _ _
 have hn0 : NewFrom w.heap.size (.slice none 0 0) := NewFrom.nil _
 have K0 := kz0 w
 refine sf_ (qc116_0 1) func68 <| qr_ [0] <| kk 1 <| eqr_ nl9_ <| kk 1 <| pcs (rdwindow_ok q p h va vb _ hq inv.ok lo ee ff hlo hee hff) fun V1 j1 => ?_
 have h2 := j1.bk hq
 have h3 : Row V1 28 36 (.slice none 0 0) ((vsq A v lo 0 0).length) ((vsq A v lo 0 0).flatMap Att.cl) := hr0.keeps j1 (fun j hj _ => by cases hj)
 have K4 := K0.nn j1
 refine kk 7 <| eqr_ [0] <| kk 1 <| eq_ <| qr_ [0, 1] <| ppq (iI (lo + ((0 : Nat) : Int))) (exec_cast (congrArg (Value.int .i64) (show lo = lo + ((0 : Nat) : Int) by omega)) (by kernel_rfl)) <| kk 1 <| et_ <| bl_ 0 ?_
 refine sy_loop (qc116_0 244) (fun a V => ∃ (k : Nat) (vv : Value), (Fr 65 [(0, pT q 0), (1, iI v), (6, iI ee), (8, vv), (9, iI (lo + (k : Int)))] [] a) ∧ (lo + (k : Int) ≤ ee + 1) ∧ (HP V q (rdC p h va vb) 113) ∧ (Row V 28 36 vv ((vsq A v lo k 0).length) ((vsq A v lo k 0).flatMap Att.cl)) ∧ (Keeps Nob w V) ∧ (NewFrom w.heap.size vv)) (fun a _ => (ee + 1 - intOf (a.tmps.getD 9 undef)).toNat) (by kernel_rfl) ?_ ?_
 ·exact ⟨0, .slice none 0 0, fq, by omega, h2, h3, K4, NewFrom.nil _⟩
 ·rintro a V5 ⟨k, vv, hfr, hk, h6, h7, K8, hnwa⟩
  obtain ⟨uu9, rfl⟩ := Fr.open hfr
  by_cases lt_k : lo + (k : Int) ≤ ee
  ·show _
   refine q_ <| qr_ [0, 1, 2] <| kk 2 <| pP (dtT ((((lo + (k : Int))) : Int) ≤ ((ee) : Int))) <| ey_ <| s_ <| tq_ <| bl_ 1 <| qr_ [0] <| kk 1 <| et_ <| bl_ 2 ?_
   refine sy_loop (qc116_0 15652) (fun a V => ∃ (i : Nat) (ww : Value), (Fr 65 [(0, pT q 0), (1, iI v), (6, iI ee), (8, ww), (9, iI (lo + (k : Int))), (10, iN i)] [] a) ∧ (i ≤ A.length) ∧ (HP V q (rdC p h va vb) 113) ∧ (Row V 28 36 ww ((vsq A v lo k i).length) ((vsq A v lo k i).flatMap Att.cl)) ∧ (Keeps Nob w V) ∧ (NewFrom w.heap.size ww)) (fun a _ => A.length - (intOf (a.tmps.getD 10 undef)).toNat) (by kernel_rfl) ?_ ?_
   ·exact ⟨0, vv, fq, Nat.zero_le _, h6, h7, K8, hnwa⟩
   ·rintro a V10 ⟨i, ww, hfr, hi, h11, h12, K13, hnwb⟩
    obtain ⟨uu14, rfl⟩ := Fr.open hfr
    rcases vsq_cases (v := v) i (lo + (k : Int)) hi with ⟨x, hlt, hx, hv, ht⟩ | ⟨x, hlt, hx, hv, ht⟩ | ⟨x, hlt, hx, hv⟩ | ei
    ·have hxo := hoa x (List.mem_of_getElem? hx)
     obtain ⟨b_xa, o_xa, c_xa, hv_xa, hb_xa, _⟩ := ((hsa.keepsN K13)).at_ i _ hx
     have hfl := vsq_len (i := i) (v := v) (lo := lo) hA (show k ≤ 4294967296 by omega)
     refine q_ <| qr_ nl7_ <| kk 4 <| ppq va (lc h11 (rfl) (k := 12)) <| ppq (iN A.length) (lsl (hsa.keepsN K13) underlying32) <| pP (dtT ((i : Int) < (A.length : Int))) <| ey_ <| s_ <| tq_ <| bl_ 3 <| qr_ nl22_ <| kk 3 <| ppq va (lc h11 (rfl) (k := 12)) <| kk 1 <| pP (ixh hv_xa i 36 underlying32) <| kk 1 <| ppq (iI x.v) (ldc 3 b_xa (o_xa + i * 36 + 0) (Sl.cell (hsa.keepsN K13) hx hv_xa Att.cl_0)) <| kk 1 <| pP (eqT ((x.v) : Int) ((v) : Int)) <| kk 4 ?_
     refine ppq va (lc h11 (rfl) (k := 12)) <| kk 1 <| pP (ixh hv_xa i 36 underlying32) <| kk 1 <| ppq (iI x.t) (ldc 3 b_xa (o_xa + i * 36 + 2) (Sl.cell (hsa.keepsN K13) hx hv_xa Att.cl_2)) <| kk 1 <| pP (eqT ((x.t) : Int) (((lo + (k : Int))) : Int)) <| kk 1 <| ey_ <| r_ nl11_ <| kk 4 <| ppq va (lc h11 (rfl) (k := 12)) <| kk 1 <| pP (ixh hv_xa i 36 underlying32) <| ppq (.agg (Att.c x)) (exec_load_mid 28 (.tmp 60) (by kernel_rfl) b_xa (o_xa + i * 36) (by kernel_rfl) (Att.cl x) _ (Sl.range (hsa.keepsN K13) hx hv_xa) underlying28 rfl (by rw [Att.cl_len hxo]; kernel_rfl)) ?_
     obtain ⟨V15, eV15, lit, elit, h16, j15⟩ := alloc_step V10 (Att.c x) 28
     refine prq (sS lit 1 1) (w' := V15) (by rw [← eV15, ← elit]; exact exec_build1 32 28 (.tmp 61) (by kernel_rfl) (.agg (Att.c x)) (by kernel_rfl) ia _ underlying32 hia0 hia1 36 hia2 (by decide) (by decide) (Att.c_size x hxo.r)) ?_
     clear eV15
     have h17 := j15.bk h11
     have h18 := h12.rn j15
     have K19 := K13.nn j15
     obtain ⟨v20, V21, hr22, h23, hg24, hn25, ha26⟩ := run_append_any (P := prog) (w := V15) 32 (Oper.type (qo116_0 500882 9)) 28 ia (.agg zAtt.c) 36 64 underlying32 hia0 hia1 hia2 hia3 rfl (by decide) ww ((vsq A v lo k i).length) ((vsq A v lo k i).flatMap Att.cl) h18 (sS lit 1 1) 1 (Att.cl x) (src_att hxo h16) (by unfold maxLen; omega) (by omega)
     have j21 : Keeps (fun j => (ww : Value).ownBlock = some j) V15 V21 := Keeps.rowAdd hg24
     have hw27 : NewFrom w.heap.size v20 := hnwb.next K19.size ha26
     refine prq v20 (w' := V21) (exec_append (.tmp 54) (.tmp 62) 32 (by kernel_rfl) ww (sS lit 1 1) (by kernel_rfl) (by kernel_rfl) hr22) ?_
     have h28 : Row V21 28 36 v20 ((vsq A v lo k (i + 1)).length) ((vsq A v lo k (i + 1)).flatMap Att.cl) := (by rw [vsq_yes hx ⟨hv, ht⟩, List.flatMap_append, List.length_append]; simpa using h23)
     have h29 : HP V21 q (rdC p h va vb) 113 := (j21.block q (lt_of_block h17) (fun e => by have := hnwb _ e; omega)).trans h17
     have K30 := K19.nr j21 hnwb
     refine kk 1 <| ps_end <| blk_n <| tr_ [0, 1, 2] <| kk 1 <| pP (cwN (n := i + 1)) <| kk 1 <| et_ ?_
     refine ⟨⟨i + 1, v20, fq, by omega, h29, h28, K30, hw27⟩, ?_⟩
     exact ltm (A.length - (i + 1)) (A.length - i)
    ·have hxo := hoa x (List.mem_of_getElem? hx)
     obtain ⟨b_xa, o_xa, c_xa, hv_xa, hb_xa, _⟩ := ((hsa.keepsN K13)).at_ i _ hx
     have hfl := vsq_len (i := i) (v := v) (lo := lo) hA (show k ≤ 4294967296 by omega)
     refine q_ <| qr_ nl7_ <| kk 4 <| ppq va (lc h11 (rfl) (k := 12)) <| ppq (iN A.length) (lsl (hsa.keepsN K13) underlying32) <| pP (dtT ((i : Int) < (A.length : Int))) <| ey_ <| s_ <| tq_ <| bl_ 3 <| qr_ nl22_ <| kk 3 <| ppq va (lc h11 (rfl) (k := 12)) <| kk 1 <| pP (ixh hv_xa i 36 underlying32) <| kk 1 <| ppq (iI x.v) (ldc 3 b_xa (o_xa + i * 36 + 0) (Sl.cell (hsa.keepsN K13) hx hv_xa Att.cl_0)) <| kk 1 <| pP (eqT ((x.v) : Int) ((v) : Int)) <| kk 4 ?_
     refine ppq va (lc h11 (rfl) (k := 12)) <| kk 1 <| pP (ixh hv_xa i 36 underlying32) <| kk 1 <| ppq (iI x.t) (ldc 3 b_xa (o_xa + i * 36 + 2) (Sl.cell (hsa.keepsN K13) hx hv_xa Att.cl_2)) <| kk 1 <| pP (eqF ((x.t) : Int) (((lo + (k : Int))) : Int)) <| kk 1 <| en_ <| s_ <| blk_n <| tr_ [0, 1, 2] <| kk 1 <| pP (cwN (n := i + 1)) <| kk 1 <| et_ ?_
     refine ⟨⟨i + 1, ww, fq, by omega, h11, (by rw [vsq_no hx (fun e => ht e.2)]; exact h12), K13, hnwb⟩, ?_⟩
     exact ltm (A.length - (i + 1)) (A.length - i)
    ·have hxo := hoa x (List.mem_of_getElem? hx)
     obtain ⟨b_xa, o_xa, c_xa, hv_xa, hb_xa, _⟩ := ((hsa.keepsN K13)).at_ i _ hx
     have hfl := vsq_len (i := i) (v := v) (lo := lo) hA (show k ≤ 4294967296 by omega)
     refine q_ <| qr_ nl7_ <| kk 4 <| ppq va (lc h11 (rfl) (k := 12)) <| ppq (iN A.length) (lsl (hsa.keepsN K13) underlying32) <| pP (dtT ((i : Int) < (A.length : Int))) <| ey_ <| s_ <| tq_ <| bl_ 3 <| qr_ nl22_ <| kk 3 <| ppq va (lc h11 (rfl) (k := 12)) <| kk 1 <| pP (ixh hv_xa i 36 underlying32) <| kk 1 <| ppq (iI x.v) (ldc 3 b_xa (o_xa + i * 36 + 0) (Sl.cell (hsa.keepsN K13) hx hv_xa Att.cl_0)) <| kk 1 <| pP (eqF ((x.v) : Int) ((v) : Int)) <| kk 4 <| kk 8 <| en_ <| s_ <| blk_n <| tr_ [0, 1, 2] <| kk 1 <| pP (cwN (n := i + 1)) ?_
     refine kk 1 <| et_ ?_
     refine ⟨⟨i + 1, ww, fq, by omega, h11, (by rw [vsq_no hx (fun e => hv e.1)]; exact h12), K13, hnwb⟩, ?_⟩
     exact ltm (A.length - (i + 1)) (A.length - i)
    ·show _
     refine q_ <| qr_ nl7_ <| kk 4 <| ppq va (lc h11 (rfl) (k := 12)) <| ppq (iN A.length) (lsl (hsa.keepsN K13) underlying32) <| pP (dtF ((i : Int) < (A.length : Int))) <| en_ <| sy_exit 2 (by kernel_rfl) <| then_e <| then_e <| blk_e <| blk_n <| tr_ [0, 1, 2] <| kk 1 <| ppq (iI (lo + ((k + 1 : Nat) : Int))) (exec_cast (congrArg (Value.int .i64) (wrapI (lo + (k : Int) + 1) (lo + ((k + 1 : Nat) : Int)) (by omega) (by omega) (by omega))) (by kernel_rfl)) <| kk 1 <| et_ ?_
     refine ⟨⟨k + 1, ww, fq, by omega, h11, (by have hh := h12; rw [ei, vsq_next] at hh; exact hh), K13, hnwb⟩, ?_⟩
     exact ltm ((ee + 1 - (lo + ((k + 1 : Nat) : Int))).toNat) ((ee + 1 - (lo + (k : Int))).toNat)
  ·have ek : k = (ee + 1 - lo).toNat := by omega
   refine q_ <| qr_ [0, 1, 2] <| kk 2 <| pP (dtF ((((lo + (k : Int))) : Int) ≤ ((ee) : Int))) <| en_ <| sy_exit 0 (by kernel_rfl) <| then_e <| then_e <| blk_e <| tqr_ [0, 1] <| kk 2 <| eu_ <| so_ (vv) ?_
   exact ⟨vv, rfl, (by have hh := h7; rw [vsq_all hlo hee ek] at hh; exact hh), hnwa, K8⟩
theorem _root_.Go.Own.Row.pre {α : Type} {w : World} {e : TypeId} {s n k cap : Nat} {A : Option Addr} {f : α → List Value} {l : List α} (h : Row w e s (.slice A n cap) n (l.flatMap f)) (hk : k ≤ n) (hn : n = l.length) (hf : ∀ x ∈ l, (f x).length = s) : Row w e s (.slice A k cap) k ((l.take k).flatMap f) := by
 subst hn
 have hl : ((l.take k).flatMap f).length = k * s := by rw [flat_len (fun x hx => hf x (List.take_subset _ _ hx)), List.length_take, Nat.min_eq_left hk]
 refine ⟨hl, ?_⟩
 rcases h.2 with ⟨e1, h0⟩ | ⟨g, c, cur, e1, hb, hg, h1, h2, h3, h4⟩
 ·simp only [Value.slice.injEq] at e1
  exact .inl ⟨by rw [e1.1, e1.2.2, show k = 0 by omega], by omega⟩
 ·simp only [Value.slice.injEq] at e1
  obtain ⟨rfl, _, rfl⟩ := e1
  refine .inr ⟨g, cap, cur, rfl, hb, hg, by omega, h2, h3, ?_⟩
  have h5 : l.flatMap f = (l.take k).flatMap f ++ (l.drop k).flatMap f := by rw [← List.flatMap_append, List.take_append_drop]
  have h6 := congrArg (List.take (k * s)) h4
  rw [List.take_take, Nat.min_eq_left (Nat.mul_le_mul_right s hk), h5, List.take_left' hl] at h6
  exact h6
theorem row_one {w : World} {g : Nat} {x : Pro} {T : TypeId} (hx : x.r.length = 32) (h : HP w g (Pro.c x) T) (_ : (0 : Nat) = 0) (hm : 1 ≤ maxLen) : Row w T 35 (sS g 1 1) 1 (Pro.cl x) :=
 ⟨by rw [Pro.cl, Array.length_toList, Pro.c_size x hx], .inr ⟨g, 1, Pro.c x, rfl, Nat.zero_le _, h, Nat.le_refl _, hm, by rw [Pro.c_size x hx], by rw [Pro.cl]; exact List.take_of_length_le (by rw [Array.length_toList, Pro.c_size x hx]; omega)⟩⟩
theorem ones_ins {x : Pro} {l : List Pro} (u : Value) (hu : u ∈ Pro.cl x ++ l.flatMap Pro.cl) : u.oneCell' = true := by
 rcases List.mem_append.1 hu with hu | hu
 ·exact Pro.cl_one u hu
 ·obtain ⟨y, _, hu⟩ := mem_flat hu; exact Pro.cl_one u hu
section
variable {p : Par} {h : Int} {A : List Att} {Q : List Pro} {v : Int} {i k : Nat} {x : Pro}
theorem DInv.take (s : DInv p h A Q) (i : Nat) : DInv p h A (Q.take i) := ⟨s.ok, s.a, fun q hq => s.q q (List.take_subset _ _ hq), s.ua, s.uq.sublist (List.take_sublist _ _)⟩
theorem blocks_up (s : DInv p h A Q) : (blocksOf p h Q v).Pairwise fun x y => x.h < y.h := by
 rw [← blocks_is s]
 unfold items
 rw [List.pairwise_filterMap]
 refine List.pairwise_lt_range.imp fun {k j} hkj x hx y hy => ?_
 have h1 := ((vb_some s).1 hx).2
 have h2 := ((vb_some s).1 hy).2
 omega
theorem blq_yes (hx : Q[i]? = some x) (hv : x.v = v) (hf : dfl p h ≤ x.h) : blocksOf p h (Q.take (i + 1)) v = insK (·.h) (blocksOf p h (Q.take i) v) x := by
 unfold blocksOf
 rw [List.take_add_one, hx, List.foldl_append]
 simp [hv, hf]
theorem blq_no (hx : Q[i]? = some x) (hn : ¬ (x.v = v ∧ dfl p h ≤ x.h)) : blocksOf p h (Q.take (i + 1)) v = blocksOf p h (Q.take i) v := by
 unfold blocksOf
 rw [List.take_add_one, hx, List.foldl_append]
 simp [hn]
theorem blq_len : (blocksOf p h Q v).length ≤ Q.length := by
 have : ∀ (l m : List Pro), (m.foldl (fun l q => if q.v = v ∧ dfl p h ≤ q.h then insK (·.h) l q else l) l).length ≤ l.length + m.length := by
  intro l m
  induction m generalizing l with
  | nil => simp
  | cons q r ih =>
   rw [List.foldl_cons, List.length_cons]
   refine Nat.le_trans (ih _) ?_
   split
   ·rw [insK_len]; omega
   ·omega
 have := this [] Q
 simpa [blocksOf] using this
theorem blq_cases (i : Nat) (hi : i ≤ Q.length) : (∃ x, i < Q.length ∧ Q[i]? = some x ∧ x.v = v ∧ dfl p h ≤ x.h) ∨ (∃ x, i < Q.length ∧ Q[i]? = some x ∧ x.v = v ∧ ¬ dfl p h ≤ x.h) ∨ (∃ x, i < Q.length ∧ Q[i]? = some x ∧ ¬ x.v = v) ∨ i = Q.length := by
 by_cases hl : i < Q.length
 ·by_cases e : Q[i].v = v
  ·by_cases e2 : dfl p h ≤ Q[i].h
   ·exact .inl ⟨_, hl, List.getElem?_eq_getElem hl, e, e2⟩
   ·exact .inr (.inl ⟨_, hl, List.getElem?_eq_getElem hl, e, e2⟩)
  ·exact .inr (.inr (.inl ⟨_, hl, List.getElem?_eq_getElem hl, e⟩))
 ·exact .inr (.inr (.inr (by omega)))
theorem blk_cases (l : List Pro) (t : Int) (k : Nat) (hk : k ≤ l.length) : (∃ y, 0 < k ∧ l[k - 1]? = some y ∧ y.h > t) ∨ (∃ y, 0 < k ∧ l[k - 1]? = some y ∧ ¬ y.h > t) ∨ k = 0 := by
 by_cases h0 : 0 < k
 ·have hl : k - 1 < l.length := by omega
  by_cases e : l[k - 1].h > t
  ·exact .inl ⟨_, h0, List.getElem?_eq_getElem hl, e⟩
  ·exact .inr (.inl ⟨_, h0, List.getElem?_eq_getElem hl, e⟩)
 ·exact .inr (.inr (by omega))
theorem blq_ins (s : DInv p h A Q) (hx : Q[i]? = some x) (hv : x.v = v) (hk : k ≤ (blocksOf p h (Q.take i) v).length) (hle : k = 0 ∨ ∃ y, (blocksOf p h (Q.take i) v)[k - 1]? = some y ∧ ¬ y.h > x.h) (hgt : ∀ (j : Nat) (y : Pro), k ≤ j → (blocksOf p h (Q.take i) v)[j]? = some y → x.h < y.h) :
  (blocksOf p h (Q.take i) v).take k ++ x :: (blocksOf p h (Q.take i) v).drop k = insK (·.h) (blocksOf p h (Q.take i) v) x := by
 have hs := blocks_up (s.take i) (v := v)
 have hn : ∀ y ∈ blocksOf p h (Q.take i) v, y.h ≠ x.h := fun y hy e => by
  obtain ⟨m1, m2, _⟩ := mem_blocks.1 hy
  have hu := s.uq.sublist (List.take_sublist (i + 1) Q)
  rw [List.take_add_one, hx, List.pairwise_append] at hu
  exact hu.2.2 y m1 x (by simp) ⟨by rw [m2, hv], e⟩
 refine insK_at hk (fun j b hj hb => ?_) ?_
 ·rcases hle with hle | ⟨y, hy, hyx⟩
  ·omega
  ·have hb' := List.mem_of_getElem? hb
   have h1 := hn b hb'
   by_cases e : j = k - 1
   ·subst e; rw [hy] at hb; cases hb; omega
   ·obtain ⟨q1, q2⟩ := List.getElem?_eq_some_iff.1 hb
    obtain ⟨q3, q4⟩ := List.getElem?_eq_some_iff.1 hy
    have := List.pairwise_iff_getElem.1 hs j (k - 1) q1 q3 (by omega)
    rw [q2, q4] at this; omega
 ·by_cases e : k = (blocksOf p h (Q.take i) v).length
  ·exact .inl e
  ·refine .inr ⟨_, List.getElem?_eq_getElem (show k < (blocksOf p h (Q.take i) v).length by omega), ?_⟩
   have := hgt k _ (Nat.le_refl _) (List.getElem?_eq_getElem (show k < (blocksOf p h (Q.take i) v).length by omega))
   omega
theorem blq_row {w : World} {vv : Value} {T : TypeId} (hx : Q[i]? = some x) (hv : x.v = v) (hf : dfl p h ≤ x.h) (hk : k ≤ (blocksOf p h (Q.take i) v).length) (hi : (blocksOf p h (Q.take i) v).take k ++ x :: (blocksOf p h (Q.take i) v).drop k = insK (·.h) (blocksOf p h (Q.take i) v) x)
  (hr : Row w T 35 vv (k + (1 + ((blocksOf p h (Q.take i) v).drop k).length)) (((blocksOf p h (Q.take i) v).take k).flatMap Pro.cl ++ (Pro.cl x ++ ((blocksOf p h (Q.take i) v).drop k).flatMap Pro.cl))) : Row w T 35 vv (blocksOf p h (Q.take (i + 1)) v).length ((blocksOf p h (Q.take (i + 1)) v).flatMap Pro.cl) := by
 rw [blq_yes hx hv hf, ← hi]
 rw [List.length_append, List.length_cons, List.length_take, Nat.min_eq_left hk, List.flatMap_append, List.flatMap_cons, Nat.add_comm _ 1]; exact hr
end
def qc117_0 (n : Nat) : Code := partOf f69 n
abbrev qo117_0 (n k : Nat) : Oper := (opsAt (qc117_0 n)).getD k default
theorem rdBlocks_ok (q base : Nat) (p : Par) (h : Int) (A : List Att) (Q : List Pro) (v : Int) (w : World) (H : RDet w q base p h A Q) (inv : DInv p h A Q) (hQ : Q.length ≤ 300) :
  Calls prog 69 #[pT q 0, iI v] w (fun e w' => ∃ va, e = .returned va ∧ Row w' 37 35 va (blocksOf p h Q v).length ((blocksOf p h Q v).flatMap Pro.cl) ∧ NewFrom w.heap.size va ∧ Keeps Nob w w') := by
 have H0 := H
 obtain ⟨va, vb, hq, hra, hna, hrb, hnb⟩ := H
 have hoa : ∀ x ∈ A, x.Ok := fun x hx => (inv.a x hx).1
 have hob : ∀ x ∈ Q, x.Ok := fun x hx => (inv.q x hx).1
 have hsa : AttsAt w va A := Row.sl hra rfl (fun x hx => Att.cl_len (hoa x hx))
 have hsb : ProsAt w vb Q := Row.sl hrb rfl (fun x hx => Pro.cl_len (hob x hx))
 have hal := hsa.len_le
 have hbl := hsb.len_le
 have ltq := lt_of_block hq
 obtain ⟨lo, hlo⟩ : ∃ y, dlo p h = y := ⟨_, rfl⟩
 obtain ⟨ee, hee⟩ : ∃ y, dep p h = y := ⟨_, rfl⟩
 obtain ⟨ff, hff⟩ : ∃ y, dfl p h = y := ⟨_, rfl⟩
 obtain ⟨ib, hib0, hib1, hib2, hib3⟩ := info_parts pro_info0
 have hr0 : Row w 37 35 (.slice none 0 0) (blocksOf p h (Q.take 0) v).length ((blocksOf p h (Q.take 0) v).flatMap Pro.cl) := World.ownsRow_nil _ _ _ _
 have hn0 : NewFrom w.heap.size (.slice none 0 0) := NewFrom.nil _
 have K0 := kz0 w
 refine sf_ (qc117_0 1) func69 <| qr_ [0] <| kk 1 <| eqr_ nl9_ <| kk 1 <| pcs (rdwindow_ok q p h va vb _ hq inv.ok lo ee ff hlo hee hff) fun V1 j1 => ?_
 have h2 := j1.bk hq
 have h3 : Row V1 37 35 (.slice none 0 0) ((blocksOf p h (Q.take 0) v).length) ((blocksOf p h (Q.take 0) v).flatMap Pro.cl) := hr0.keeps j1 (fun j hj _ => by cases hj)
 have K4 := K0.nn j1
 refine kk 7 <| eqr_ [0] <| kk 1 <| eq_ <| qr_ [0] <| kk 1 <| et_ <| bl_ 0 ?_
 refine sy_loop (qc117_0 244) (fun a V => ∃ (i : Nat) (ww : Value), (Fr 88 [(0, pT q 0), (1, iI v), (7, iI ff), (8, ww), (9, iN i)] [] a) ∧ (i ≤ Q.length) ∧ (HP V q (rdC p h va vb) 113) ∧ (Row V 37 35 ww ((blocksOf p h (Q.take i) v).length) ((blocksOf p h (Q.take i) v).flatMap Pro.cl)) ∧ (Keeps Nob w V) ∧ (NewFrom w.heap.size ww)) (fun a _ => Q.length - (intOf (a.tmps.getD 9 undef)).toNat) (by kernel_rfl) ?_ ?_
 ·exact ⟨0, .slice none 0 0, fq, Nat.zero_le _, h2, h3, K4, NewFrom.nil _⟩
 ·rintro a V5 ⟨i, ww, hfr, hi, h6, h7, K8, hnw⟩
  obtain ⟨uu9, rfl⟩ := Fr.open hfr
  rcases blq_cases (p := p) (h := h) (v := v) i hi with ⟨x, hlt, hx, hv, hf⟩ | ⟨x, hlt, hx, hv, hf⟩ | ⟨x, hlt, hx, hv⟩ | ei
  ·have hxo := hob x (List.mem_of_getElem? hx)
   obtain ⟨b_xb, o_xb, c_xb, hv_xb, hb_xb, _⟩ := ((hsb.keepsN K8)).at_ i _ hx
   have hbo : ∀ y ∈ (blocksOf p h (Q.take i) v), y.Ok := fun y hy => hob y (List.take_subset _ _ (mem_blocks.1 hy).1)
   have hso : ProsAt V5 ww (blocksOf p h (Q.take i) v) := Row.sl h7 rfl (fun y hy => Pro.cl_len (hbo y hy))
   obtain ⟨A_, c_, hA_, hc1, hc2, hc3⟩ := hso.form
   subst hA_
   have hll := blq_len (p := p) (h := h) (Q := Q.take i) (v := v)
   have hlt2 : (Q.take i).length ≤ 300 := by rw [List.length_take]; omega
   skip
   refine q_ <| qr_ nl7_ <| kk 4 <| ppq vb (lc h6 (rfl) (k := 13)) <| ppq (iN Q.length) (lsl (hsb.keepsN K8) underlying40) <| pP (dtT ((i : Int) < (Q.length : Int))) <| ey_ <| s_ <| tq_ <| bl_ 1 <| qr_ nl22_ <| kk 3 <| ppq vb (lc h6 (rfl) (k := 13)) <| kk 1 <| pP (ixh hv_xb i 35 underlying40) <| kk 1 <| ppq (iI x.v) (ldc 3 b_xb (o_xb + i * 35 + 0) (Sl.cell (hsb.keepsN K8) hx hv_xb Pro.cl_0)) <| kk 1 <| pP (eqT ((x.v) : Int) ((v) : Int)) <| kk 4 ?_
   refine ppq vb (lc h6 (rfl) (k := 13)) <| kk 1 <| pP (ixh hv_xb i 35 underlying40) <| kk 1 <| ppq (iI x.h) (ldc 3 b_xb (o_xb + i * 35 + 1) (Sl.cell (hsb.keepsN K8) hx hv_xb Pro.cl_1)) <| kk 1 <| pP (dtT (((x.h) : Int) ≥ ((ff) : Int))) <| kk 1 <| ey_ <| qr_ [0, 1, 2] <| kk 1 <| ppq (iN (((blocksOf p h (Q.take i) v)).length)) (lsl hso underlying40) <| kk 1 <| eq_ <| bl_ 2 ?_
   refine sy_loop (qc117_0 125224) (fun a V => ∃ (k : Nat), (Fr 88 [(0, pT q 0), (1, iI v), (7, iI ff), (8, .slice A_ (blocksOf p h (Q.take i) v).length c_), (9, iN i), (10, iN k)] [] a) ∧ (k ≤ (blocksOf p h (Q.take i) v).length) ∧ (∀ (j : Nat) (y : Pro), k ≤ j → (blocksOf p h (Q.take i) v)[j]? = some y → x.h < y.h) ∧ (HP V q (rdC p h va vb) 113) ∧ (Row V 37 35 (.slice A_ (blocksOf p h (Q.take i) v).length c_) ((blocksOf p h (Q.take i) v).length) ((blocksOf p h (Q.take i) v).flatMap Pro.cl)) ∧ (ProsAt V (.slice A_ (blocksOf p h (Q.take i) v).length c_) ((blocksOf p h (Q.take i) v))) ∧ (Keeps Nob w V)) (fun a _ => (intOf (a.tmps.getD 10 undef)).toNat) (by kernel_rfl) ?_ ?_
   ·exact ⟨(blocksOf p h (Q.take i) v).length, fq, Nat.le_refl _, (fun j y hj hy => by have := (List.getElem?_eq_some_iff.1 hy).1; omega), h6, h7, hso, K8⟩
   ·rintro a V10 ⟨k, hfr, hk, hgt, h11, h12, h13, K14⟩
    obtain ⟨uu15, rfl⟩ := Fr.open hfr
    rcases blk_cases (blocksOf p h (Q.take i) v) x.h k hk with ⟨y, hk0, hy, hyx⟩ | ⟨y, hk0, hy, hyx⟩ | hk0
    ·obtain ⟨b_xo, o_xo, c_xo, hv_xo, hb_xo, _⟩ := (h13).at_ (k - 1) _ hy
     refine q_ <| q_ <| anp 19 (fun W => (HP W q (rdC p h va vb) 113) ∧ (ProsAt W vb Q) ∧ (ProsAt W (.slice A_ (blocksOf p h (Q.take i) v).length c_) ((blocksOf p h (Q.take i) v)))) fun V16 j16 => ?_
     have h17 := j16.bk h11
     have h18 := h12.rn j16
     have h19 := h13.keepsN j16
     have K20 := K14.nn j16
     refine ka [0] ⟨h17, (hsb.keepsN K20), h19⟩ <| avq 1 _ (fun W hS => dtT ((k : Int) > ((0) : Int))) ⟨h17, (hsb.keepsN K20), h19⟩ <| ka [2, 3, 4] ⟨h17, (hsb.keepsN K20), h19⟩ <| avq 5 (iN (k - 1)) (fun W hS => exec_cast (congrArg (Value.int .i64) (wrapI ((k : Int) - ((1 : Nat) : Int)) _ (by omega) (by omega) (by omega))) (by kernel_rfl)) ⟨h17, (hsb.keepsN K20), h19⟩ <| avq 6 _ (fun W hS => ixs b_xo o_xo ((blocksOf p h (Q.take i) v)).length c_xo .i64 (k - 1) 35 underlying40 (by omega) (hx := Eq.trans (b := (.slice A_ (blocksOf p h (Q.take i) v).length c_)) (by kernel_rfl) hv_xo)) ⟨h17, (hsb.keepsN K20), h19⟩ <| ka [7] ⟨h17, (hsb.keepsN K20), h19⟩ <| avq 8 (iI y.h) (fun W hS => exec_ld 3 (.tmp 57) b_xo (o_xo + (k - 1) * 35 + 1) underlying3 (Sl.cell hS.2.2 hy hv_xo Pro.cl_1)) ⟨h17, (hsb.keepsN K20), h19⟩ <| ka [9, 10, 11] ⟨h17, (hsb.keepsN K20), h19⟩ <| avq 12 vb (fun W hS => lc hS.1 (rfl) (k := 13)) ⟨h17, (hsb.keepsN K20), h19⟩ <| ka [13] ⟨h17, (hsb.keepsN K20), h19⟩ <| avq 14 _ (fun W hS => ixh hv_xb i 35 underlying40) ⟨h17, (hsb.keepsN K20), h19⟩ <| ka [15] ⟨h17, (hsb.keepsN K20), h19⟩ <| avq 16 (iI x.h) (fun W hS => ldc 3 b_xb (o_xb + i * 35 + 1) (Sl.cell hS.2.1 hx hv_xb Pro.cl_1)) ⟨h17, (hsb.keepsN K20), h19⟩ <| avq 17 _ (fun W hS => dtT (((y.h) : Int) > ((x.h) : Int))) ⟨h17, (hsb.keepsN K20), h19⟩ <| ka [18] ⟨h17, (hsb.keepsN K20), h19⟩ <| ane <| then_n <| y_ <| s_ <| then_n <| bl_ 3 <| r_ [0, 1, 2] <| kk 1 <| ppq (iN (k - 1)) (exec_cast (congrArg (Value.int .i64) (wrapI ((k : Int) - ((1 : Nat) : Int)) _ (by omega) (by omega) (by omega))) (by kernel_rfl)) ?_
     refine kk 1 <| ps_end <| blk_n <| then_n ?_
     refine ⟨⟨k - 1, fq, by omega, (fun j u hj hu => by by_cases e : j = k - 1; subst e; rw [hy] at hu; cases hu; exact hyx; exact hgt j u (by omega) hu), h17, h18, h19, K20⟩, ?_⟩
     exact ltm (k - 1) (k)
    ·obtain ⟨b_xo, o_xo, c_xo, hv_xo, hb_xo, _⟩ := (h13).at_ (k - 1) _ hy
     have hins := blq_ins inv hx hv hk (.inr ⟨y, hy, hyx⟩) hgt
     have hdl : ((blocksOf p h (Q.take i) v).drop k).length ≤ (blocksOf p h (Q.take i) v).length := by rw [List.length_drop]; omega
     refine q_ <| q_ <| anp 19 (fun W => (HP W q (rdC p h va vb) 113) ∧ (ProsAt W vb Q) ∧ (ProsAt W (.slice A_ (blocksOf p h (Q.take i) v).length c_) ((blocksOf p h (Q.take i) v)))) fun V21 j21 => ?_
     have h22 := j21.bk h11
     have h23 := h12.rn j21
     have h24 := h13.keepsN j21
     have K25 := K14.nn j21
     refine ka [0] ⟨h22, (hsb.keepsN K25), h24⟩ <| avq 1 _ (fun W hS => dtT ((k : Int) > ((0) : Int))) ⟨h22, (hsb.keepsN K25), h24⟩ <| ka [2, 3, 4] ⟨h22, (hsb.keepsN K25), h24⟩ <| avq 5 (iN (k - 1)) (fun W hS => exec_cast (congrArg (Value.int .i64) (wrapI ((k : Int) - ((1 : Nat) : Int)) _ (by omega) (by omega) (by omega))) (by kernel_rfl)) ⟨h22, (hsb.keepsN K25), h24⟩ <| avq 6 _ (fun W hS => ixs b_xo o_xo ((blocksOf p h (Q.take i) v)).length c_xo .i64 (k - 1) 35 underlying40 (by omega) (hx := Eq.trans (b := (.slice A_ (blocksOf p h (Q.take i) v).length c_)) (by kernel_rfl) hv_xo)) ⟨h22, (hsb.keepsN K25), h24⟩ <| ka [7] ⟨h22, (hsb.keepsN K25), h24⟩ <| avq 8 (iI y.h) (fun W hS => exec_ld 3 (.tmp 57) b_xo (o_xo + (k - 1) * 35 + 1) underlying3 (Sl.cell hS.2.2 hy hv_xo Pro.cl_1)) ⟨h22, (hsb.keepsN K25), h24⟩ <| ka [9, 10, 11] ⟨h22, (hsb.keepsN K25), h24⟩ <| avq 12 vb (fun W hS => lc hS.1 (rfl) (k := 13)) ⟨h22, (hsb.keepsN K25), h24⟩ <| ka [13] ⟨h22, (hsb.keepsN K25), h24⟩ <| avq 14 _ (fun W hS => ixh hv_xb i 35 underlying40) ⟨h22, (hsb.keepsN K25), h24⟩ <| ka [15] ⟨h22, (hsb.keepsN K25), h24⟩ <| avq 16 (iI x.h) (fun W hS => ldc 3 b_xb (o_xb + i * 35 + 1) (Sl.cell hS.2.1 hx hv_xb Pro.cl_1)) ⟨h22, (hsb.keepsN K25), h24⟩ <| avq 17 _ (fun W hS => dtF (((y.h) : Int) > ((x.h) : Int))) ⟨h22, (hsb.keepsN K25), h24⟩ <| ka [18] ⟨h22, (hsb.keepsN K25), h24⟩ <| ane <| then_n <| n_ <| sy_exit 2 (by kernel_rfl) <| then_e <| then_e <| blk_e <| then_n <| sy_np <| sy_reg <| anb 17 (fun W => (HP W q (rdC p h va vb) 113) ∧ (ProsAt W vb Q)) #[false, false, false, false, false, false, false, false, false, false, false, false, false, false, false, false, false] ?_
     obtain ⟨V26, eV26, j26⟩ := drew_step V21
     rw [eV26]
     clear eV26
     have h27 := j26.bk h22
     have h28 := h23.rn j26
     have K30 := K25.nn j26
     refine ka [0, 1] ⟨h27, (hsb.keepsN K30)⟩ <| avq 2 (.slice A_ k c_) (fun W hS => exec_slice_toW 40 (.tmp 71) (.tmp 72) (by kernel_rfl) A_ (blocksOf p h (Q.take i) v).length c_ (by kernel_rfl) .i64 k (by kernel_rfl) 37 underlying40 35 (by kernel_rfl) (by omega)) ⟨h27, (hsb.keepsN K30)⟩ <| ka [3, 4, 5] ⟨h27, (hsb.keepsN K30)⟩ <| avq 6 vb (fun W hS => lc hS.1 (rfl) (k := 13)) ⟨h27, (hsb.keepsN K30)⟩ <| ka [7] ⟨h27, (hsb.keepsN K30)⟩ <| avq 8 _ (fun W hS => ixh hv_xb i 35 underlying40) ⟨h27, (hsb.keepsN K30)⟩ <| avq 9 (.agg (Pro.c x)) (fun W hS => ldm (Sl.range hS.2 hx hv_xb) underlying37 (Pro.cl_len hxo)) ⟨h27, (hsb.keepsN K30)⟩ <| ka [11, 12] ⟨h27, (hsb.keepsN K30)⟩ <| avq 13 (cutW A_ (blocksOf p h (Q.take i) v).length c_ 35 k) (fun W hS => exec_slice_fromW 40 (.tmp 82) (.tmp 83) (by kernel_rfl) A_ (blocksOf p h (Q.take i) v).length c_ (by kernel_rfl) .i64 k (by kernel_rfl) 37 underlying40 35 (by kernel_rfl) (by omega)) ⟨h27, (hsb.keepsN K30)⟩ <| an_o 10 ?_
     obtain ⟨V31, eV31, lit, elit, h32, j31⟩ := alloc_step V26 (Pro.c x) 37
     have hol : ∀ j, (.slice A_ (blocksOf p h (Q.take i) v).length c_ : Value).ownBlock = some j → j < lit := fun j hj => elit ▸ Row.lt h28 hj
     have nlit : w.heap.size ≤ lit := elit ▸ K30.size
     refine nrq (sS lit 1 1) (w' := V31) (by rw [← eV31, ← elit]; exact exec_build1 40 37 (.tmp 80) (by kernel_rfl) (.agg (Pro.c x)) (by kernel_rfl) ib _ underlying40 hib0 hib1 35 hib2 (by decide) (by decide) (Pro.c_size x hxo.r)) ?_
     clear eV31
     have h33 := j31.bk h27
     have h34 := h28.rn j31
     have K36 := K30.nn j31
     refine ⟨⟨h33, (hsb.keepsN K36)⟩, ?_⟩
     refine an_o 14 ?_
     have h37 : Row V31 37 35 (sS lit 1 1) 1 (Pro.cl x) := row_one hxo.r h32 rfl (by decide)
     have hw38 : NewFrom lit (sS lit 1 1) := NewFrom.ptr (by omega) _ _
     obtain ⟨v39, V40, hr41, h42, hg43, hn44, ha45⟩ := run_append_any (P := prog) (w := V31) 40 (Oper.type (qo117_0 31307 14)) 37 ib (.agg zPro.c) 35 56 underlying40 hib0 hib1 hib2 hib3 rfl (by decide) (sS lit 1 1) 1 (Pro.cl x) h37 (cutW A_ (blocksOf p h (Q.take i) v).length c_ 35 k) (((blocksOf p h (Q.take i) v).drop k).length) (((blocksOf p h (Q.take i) v).drop k).flatMap Pro.cl) (Sl.src (Sl.drop (Row.sl h34 rfl (fun y hy => Pro.cl_len (hbo y hy))) k (by omega) _ _ _ rfl) (fun x hx => Pro.cl_len (hbo x (List.drop_subset _ _ hx))) (by decide) (fun x _ => Pro.cl_one)) (by unfold maxLen; omega) (by omega)
     have j40 : Keeps (fun j => (sS lit 1 1 : Value).ownBlock = some j) V31 V40 := Keeps.rowAdd hg43
     have hw46 : NewFrom lit v39 := hw38.next (Nat.le_of_lt (Row.lt h37 rfl)) ha45
     refine nrq v39 (w' := V40) (exec_append (.tmp 81) (.tmp 84) 40 (by kernel_rfl) (sS lit 1 1) (cutW A_ (blocksOf p h (Q.take i) v).length c_ 35 k) (by kernel_rfl) (by kernel_rfl) hr41) ?_
     have h47 : Row V40 37 35 v39 (1 + (((blocksOf p h (Q.take i) v).drop k).length)) ((Pro.cl x) ++ (((blocksOf p h (Q.take i) v).drop k).flatMap Pro.cl)) := h42
     have h48 : HP V40 q (rdC p h va vb) 113 := (j40.block q (lt_of_block h33) (fun e => by have := hw38 _ e; omega)).trans h33
     have h49 : Row V40 37 35 (.slice A_ (blocksOf p h (Q.take i) v).length c_) ((blocksOf p h (Q.take i) v).length) ((blocksOf p h (Q.take i) v).flatMap Pro.cl) := h34.keeps j40 (fun j hj e => by have := hol j hj; have := hw38 j e; omega)
     have K50 := K36.nr j40 hw38
     refine ⟨⟨h48, (hsb.keepsN K50)⟩, ?_⟩
     refine an_o 15 ?_
     have h51 : Row V40 37 35 (.slice A_ k c_) k (((blocksOf p h (Q.take i) v).take k).flatMap Pro.cl) := Row.pre h49 hk rfl (fun y hy => Pro.cl_len (hbo y hy))
     have hw52 : NewFrom w.heap.size (.slice A_ k c_) := fun j hj => hnw j (by cases A_ <;> exact hj)
     obtain ⟨v53, V54, hr55, h56, hg57, hn58, ha59⟩ := run_append_any (P := prog) (w := V40) 40 (Oper.type (qo117_0 31307 15)) 37 ib (.agg zPro.c) 35 56 underlying40 hib0 hib1 hib2 hib3 rfl (by decide) (.slice A_ k c_) k (((blocksOf p h (Q.take i) v).take k).flatMap Pro.cl) h51 v39 (1 + ((blocksOf p h (Q.take i) v).drop k).length) ((Pro.cl x) ++ (((blocksOf p h (Q.take i) v).drop k).flatMap Pro.cl)) (Row.src h47 ones_ins) (by unfold maxLen; omega) (by omega)
     have j54 : Keeps (fun j => (.slice A_ k c_ : Value).ownBlock = some j) V40 V54 := Keeps.rowAdd hg57
     have hw60 : NewFrom w.heap.size v53 := hw52.next K50.size ha59
     refine nrq v53 (w' := V54) (exec_append (.tmp 73) (.tmp 85) 40 (by kernel_rfl) (.slice A_ k c_) v39 (by kernel_rfl) (by kernel_rfl) hr55) ?_
     have h61 : Row V54 37 35 v53 ((blocksOf p h (Q.take (i + 1)) v).length) ((blocksOf p h (Q.take (i + 1)) v).flatMap Pro.cl) := blq_row hx hv hf hk hins h56
     have h62 : HP V54 q (rdC p h va vb) 113 := (j54.block q (lt_of_block h48) (fun e => by have := hw52 _ e; omega)).trans h48
     have K63 := K50.nr j54 hw52
     refine ⟨⟨h62, (hsb.keepsN K63)⟩, ?_⟩
     refine ako 16 (hS := ⟨h62, (hsb.keepsN K63)⟩) ?_
     refine ane <| blk_n <| tr_ [0, 1, 2] <| kk 1 <| pP (cwN (n := i + 1)) <| kk 1 <| et_ ?_
     refine ⟨⟨i + 1, v53, fq, by omega, h62, h61, K63, hw60⟩, ?_⟩
     exact ltm (Q.length - (i + 1)) (Q.length - i)
    ·have hins := blq_ins inv hx hv hk (.inl hk0) hgt
     have hdl : ((blocksOf p h (Q.take i) v).drop k).length ≤ (blocksOf p h (Q.take i) v).length := by rw [List.length_drop]; omega
     refine q_ <| q_ <| anp 19 (fun W => (HP W q (rdC p h va vb) 113) ∧ (ProsAt W vb Q) ∧ (ProsAt W (.slice A_ (blocksOf p h (Q.take i) v).length c_) ((blocksOf p h (Q.take i) v)))) fun V64 j64 => ?_
     have h65 := j64.bk h11
     have h66 := h12.rn j64
     have h67 := h13.keepsN j64
     have K68 := K14.nn j64
     refine ka [0] ⟨h65, (hsb.keepsN K68), h67⟩ <| avq 1 _ (fun W hS => dtF ((k : Int) > ((0) : Int))) ⟨h65, (hsb.keepsN K68), h67⟩ <| ka [2, 3, 4, 5, 6, 7, 8, 9, 10, 11, 12, 13] ⟨h65, (hsb.keepsN K68), h67⟩ <| ka [14, 15, 16, 17, 18] ⟨h65, (hsb.keepsN K68), h67⟩ <| ane <| then_n <| n_ <| sy_exit 2 (by kernel_rfl) <| then_e <| then_e <| blk_e <| then_n <| sy_np <| sy_reg <| anb 17 (fun W => (HP W q (rdC p h va vb) 113) ∧ (ProsAt W vb Q)) #[false, false, false, false, false, false, false, false, false, false, false, false, false, false, false, false, false] ?_
     obtain ⟨V69, eV69, j69⟩ := drew_step V64
     rw [eV69]
     clear eV69
     have h70 := j69.bk h65
     have h71 := h66.rn j69
     have K73 := K68.nn j69
     refine ka [0, 1] ⟨h70, (hsb.keepsN K73)⟩ <| avq 2 (.slice A_ k c_) (fun W hS => exec_slice_toW 40 (.tmp 71) (.tmp 72) (by kernel_rfl) A_ (blocksOf p h (Q.take i) v).length c_ (by kernel_rfl) .i64 k (by kernel_rfl) 37 underlying40 35 (by kernel_rfl) (by omega)) ⟨h70, (hsb.keepsN K73)⟩ <| ka [3, 4, 5] ⟨h70, (hsb.keepsN K73)⟩ <| avq 6 vb (fun W hS => lc hS.1 (rfl) (k := 13)) ⟨h70, (hsb.keepsN K73)⟩ <| ka [7] ⟨h70, (hsb.keepsN K73)⟩ <| avq 8 _ (fun W hS => ixh hv_xb i 35 underlying40) ⟨h70, (hsb.keepsN K73)⟩ <| avq 9 (.agg (Pro.c x)) (fun W hS => ldm (Sl.range hS.2 hx hv_xb) underlying37 (Pro.cl_len hxo)) ⟨h70, (hsb.keepsN K73)⟩ <| ka [11, 12] ⟨h70, (hsb.keepsN K73)⟩ <| avq 13 (cutW A_ (blocksOf p h (Q.take i) v).length c_ 35 k) (fun W hS => exec_slice_fromW 40 (.tmp 82) (.tmp 83) (by kernel_rfl) A_ (blocksOf p h (Q.take i) v).length c_ (by kernel_rfl) .i64 k (by kernel_rfl) 37 underlying40 35 (by kernel_rfl) (by omega)) ⟨h70, (hsb.keepsN K73)⟩ <| an_o 10 ?_
     obtain ⟨V74, eV74, lit, elit, h75, j74⟩ := alloc_step V69 (Pro.c x) 37
     have hol : ∀ j, (.slice A_ (blocksOf p h (Q.take i) v).length c_ : Value).ownBlock = some j → j < lit := fun j hj => elit ▸ Row.lt h71 hj
     have nlit : w.heap.size ≤ lit := elit ▸ K73.size
     refine nrq (sS lit 1 1) (w' := V74) (by rw [← eV74, ← elit]; exact exec_build1 40 37 (.tmp 80) (by kernel_rfl) (.agg (Pro.c x)) (by kernel_rfl) ib _ underlying40 hib0 hib1 35 hib2 (by decide) (by decide) (Pro.c_size x hxo.r)) ?_
     clear eV74
     have h76 := j74.bk h70
     have h77 := h71.rn j74
     have K79 := K73.nn j74
     refine ⟨⟨h76, (hsb.keepsN K79)⟩, ?_⟩
     refine an_o 14 ?_
     have h80 : Row V74 37 35 (sS lit 1 1) 1 (Pro.cl x) := row_one hxo.r h75 rfl (by decide)
     have hw81 : NewFrom lit (sS lit 1 1) := NewFrom.ptr (by omega) _ _
     obtain ⟨v82, V83, hr84, h85, hg86, hn87, ha88⟩ := run_append_any (P := prog) (w := V74) 40 (Oper.type (qo117_0 31307 14)) 37 ib (.agg zPro.c) 35 56 underlying40 hib0 hib1 hib2 hib3 rfl (by decide) (sS lit 1 1) 1 (Pro.cl x) h80 (cutW A_ (blocksOf p h (Q.take i) v).length c_ 35 k) (((blocksOf p h (Q.take i) v).drop k).length) (((blocksOf p h (Q.take i) v).drop k).flatMap Pro.cl) (Sl.src (Sl.drop (Row.sl h77 rfl (fun y hy => Pro.cl_len (hbo y hy))) k (by omega) _ _ _ rfl) (fun x hx => Pro.cl_len (hbo x (List.drop_subset _ _ hx))) (by decide) (fun x _ => Pro.cl_one)) (by unfold maxLen; omega) (by omega)
     have j83 : Keeps (fun j => (sS lit 1 1 : Value).ownBlock = some j) V74 V83 := Keeps.rowAdd hg86
     have hw89 : NewFrom lit v82 := hw81.next (Nat.le_of_lt (Row.lt h80 rfl)) ha88
     refine nrq v82 (w' := V83) (exec_append (.tmp 81) (.tmp 84) 40 (by kernel_rfl) (sS lit 1 1) (cutW A_ (blocksOf p h (Q.take i) v).length c_ 35 k) (by kernel_rfl) (by kernel_rfl) hr84) ?_
     have h90 : Row V83 37 35 v82 (1 + (((blocksOf p h (Q.take i) v).drop k).length)) ((Pro.cl x) ++ (((blocksOf p h (Q.take i) v).drop k).flatMap Pro.cl)) := h85
     have h91 : HP V83 q (rdC p h va vb) 113 := (j83.block q (lt_of_block h76) (fun e => by have := hw81 _ e; omega)).trans h76
     have h92 : Row V83 37 35 (.slice A_ (blocksOf p h (Q.take i) v).length c_) ((blocksOf p h (Q.take i) v).length) ((blocksOf p h (Q.take i) v).flatMap Pro.cl) := h77.keeps j83 (fun j hj e => by have := hol j hj; have := hw81 j e; omega)
     have K93 := K79.nr j83 hw81
     refine ⟨⟨h91, (hsb.keepsN K93)⟩, ?_⟩
     refine an_o 15 ?_
     have h94 : Row V83 37 35 (.slice A_ k c_) k (((blocksOf p h (Q.take i) v).take k).flatMap Pro.cl) := Row.pre h92 hk rfl (fun y hy => Pro.cl_len (hbo y hy))
     have hw95 : NewFrom w.heap.size (.slice A_ k c_) := fun j hj => hnw j (by cases A_ <;> exact hj)
     obtain ⟨v96, V97, hr98, h99, hg100, hn101, ha102⟩ := run_append_any (P := prog) (w := V83) 40 (Oper.type (qo117_0 31307 15)) 37 ib (.agg zPro.c) 35 56 underlying40 hib0 hib1 hib2 hib3 rfl (by decide) (.slice A_ k c_) k (((blocksOf p h (Q.take i) v).take k).flatMap Pro.cl) h94 v82 (1 + ((blocksOf p h (Q.take i) v).drop k).length) ((Pro.cl x) ++ (((blocksOf p h (Q.take i) v).drop k).flatMap Pro.cl)) (Row.src h90 ones_ins) (by unfold maxLen; omega) (by omega)
     have j97 : Keeps (fun j => (.slice A_ k c_ : Value).ownBlock = some j) V83 V97 := Keeps.rowAdd hg100
     have hw103 : NewFrom w.heap.size v96 := hw95.next K93.size ha102
     refine nrq v96 (w' := V97) (exec_append (.tmp 73) (.tmp 85) 40 (by kernel_rfl) (.slice A_ k c_) v82 (by kernel_rfl) (by kernel_rfl) hr98) ?_
     have h104 : Row V97 37 35 v96 ((blocksOf p h (Q.take (i + 1)) v).length) ((blocksOf p h (Q.take (i + 1)) v).flatMap Pro.cl) := blq_row hx hv hf hk hins h99
     have h105 : HP V97 q (rdC p h va vb) 113 := (j97.block q (lt_of_block h91) (fun e => by have := hw95 _ e; omega)).trans h91
     have K106 := K93.nr j97 hw95
     refine ⟨⟨h105, (hsb.keepsN K106)⟩, ?_⟩
     refine ako 16 (hS := ⟨h105, (hsb.keepsN K106)⟩) ?_
     refine ane <| blk_n <| tr_ [0, 1, 2] <| kk 1 <| pP (cwN (n := i + 1)) <| kk 1 <| et_ ?_
     refine ⟨⟨i + 1, v96, fq, by omega, h105, h104, K106, hw103⟩, ?_⟩
     exact ltm (Q.length - (i + 1)) (Q.length - i)
  ·have hxo := hob x (List.mem_of_getElem? hx)
   obtain ⟨b_xb, o_xb, c_xb, hv_xb, hb_xb, _⟩ := ((hsb.keepsN K8)).at_ i _ hx
   refine q_ <| qr_ nl7_ <| kk 4 <| ppq vb (lc h6 (rfl) (k := 13)) <| ppq (iN Q.length) (lsl (hsb.keepsN K8) underlying40) <| pP (dtT ((i : Int) < (Q.length : Int))) <| ey_ <| s_ <| tq_ <| bl_ 1 <| qr_ nl22_ <| kk 3 <| ppq vb (lc h6 (rfl) (k := 13)) <| kk 1 <| pP (ixh hv_xb i 35 underlying40) <| kk 1 <| ppq (iI x.v) (ldc 3 b_xb (o_xb + i * 35 + 0) (Sl.cell (hsb.keepsN K8) hx hv_xb Pro.cl_0)) <| kk 1 <| pP (eqT ((x.v) : Int) ((v) : Int)) <| kk 4 ?_
   refine ppq vb (lc h6 (rfl) (k := 13)) <| kk 1 <| pP (ixh hv_xb i 35 underlying40) <| kk 1 <| ppq (iI x.h) (ldc 3 b_xb (o_xb + i * 35 + 1) (Sl.cell (hsb.keepsN K8) hx hv_xb Pro.cl_1)) <| kk 1 <| pP (dtF (((x.h) : Int) ≥ ((ff) : Int))) <| kk 1 <| en_ <| s_ <| blk_n <| tr_ [0, 1, 2] <| kk 1 <| pP (cwN (n := i + 1)) <| kk 1 <| et_ ?_
   refine ⟨⟨i + 1, ww, fq, by omega, h6, (by rw [blq_no hx (fun e => hf e.2)]; exact h7), K8, hnw⟩, ?_⟩
   exact ltm (Q.length - (i + 1)) (Q.length - i)
  ·have hxo := hob x (List.mem_of_getElem? hx)
   obtain ⟨b_xb, o_xb, c_xb, hv_xb, hb_xb, _⟩ := ((hsb.keepsN K8)).at_ i _ hx
   refine q_ <| qr_ nl7_ <| kk 4 <| ppq vb (lc h6 (rfl) (k := 13)) <| ppq (iN Q.length) (lsl (hsb.keepsN K8) underlying40) <| pP (dtT ((i : Int) < (Q.length : Int))) <| ey_ <| s_ <| tq_ <| bl_ 1 <| qr_ nl22_ <| kk 3 <| ppq vb (lc h6 (rfl) (k := 13)) <| kk 1 <| pP (ixh hv_xb i 35 underlying40) <| kk 1 <| ppq (iI x.v) (ldc 3 b_xb (o_xb + i * 35 + 0) (Sl.cell (hsb.keepsN K8) hx hv_xb Pro.cl_0)) <| kk 1 <| pP (eqF ((x.v) : Int) ((v) : Int)) <| kk 4 <| kk 8 <| en_ <| s_ <| blk_n <| tr_ [0, 1, 2] <| kk 1 <| pP (cwN (n := i + 1)) ?_
   refine kk 1 <| et_ ?_
   refine ⟨⟨i + 1, ww, fq, by omega, h6, (by rw [blq_no hx (fun e => hv e.1)]; exact h7), K8, hnw⟩, ?_⟩
   exact ltm (Q.length - (i + 1)) (Q.length - i)
  ·show _
   refine q_ <| qr_ nl7_ <| kk 4 <| ppq vb (lc h6 (rfl) (k := 13)) <| ppq (iN Q.length) (lsl (hsb.keepsN K8) underlying40) <| pP (dtF ((i : Int) < (Q.length : Int))) <| en_ <| sy_exit 0 (by kernel_rfl) <| then_e <| then_e <| blk_e <| tqr_ [0, 1] <| kk 2 <| eu_ <| so_ (ww) ?_
   exact ⟨ww, rfl, (by have hh := h7; rw [ei, List.take_of_length_le (Nat.le_refl _)] at hh; exact hh), hnw, K8⟩
def qc118_2 (n : Nat) : Code := partOf f139 n
theorem rdsame_is (a b : Att) (r : Bool) (w : World) (ha : a.Ok) (hb : b.Ok) (hr : (a.dg == b.dg) = r) :
  Calls prog 139 #[.agg (Att.c a), .agg (Att.c b)] w (RK w (.bool r)) := by
 have hr_a := ha.r
 have hr_b := hb.r
 have K0 := kz0 w
 refine sf_ (qc118_2 1) func139 <| qr_ [0, 1, 2] <| pbg 28 (Att.c a) fun V1 ga ega h2 j1 => ?_
 have n3 := nk ega K0
 have K4 := K0.nn j1
 refine pbg 28 (Att.c b) fun V5 gb egb h6 j5 => ?_
 have := nqk1 egb h2 K4
 have ⟨K10, h9⟩ := j5.K1 K4 h2
 refine kk 1 <| eqr_ nl8_ <| pP (ldz 28 ga h9 (Att.c_size _ hr_a)) <| pcs (rvDigest_any a _ ha) fun V11 j11 => ?_
 have ⟨K14, h12, h13⟩ := j11.K2 K10 h9 h6
 refine kk 3 <| pag 25 (zr_u8_32) fun V15 gx egx h16 j15 => ?_
 have := nqk2 egx h12 h13 K14
 have ⟨K22, h20, h21⟩ := j15.K2 K14 h12 h13
 refine pst 25 gx ((B a.dg).toArray) h16 (by rw [Bz_size, Att.dg_len]; kernel_rfl) (by rw [Bz_size, Att.dg_len]; rfl) (by rw [List.all_toArray]; exact List.all_eq_true.2 (B_one _)) fun V23 h24 j23 => ?_
 have ⟨K27, h25, h26⟩ := j23.Ko2 K22 h20 h21
 refine kk 1 <| eqr_ nl8_ <| pP (ldz 28 gb h26 (Att.c_size _ hr_b)) <| pcs (rvDigest_any b _ hb) fun V28 j28 => ?_
 have ⟨K32, h29, h30, h31⟩ := j28.K3 K27 h25 h26 h24
 refine kk 3 <| pag 25 (zr_u8_32) fun V33 gy egy h34 j33 => ?_
 have := nq3 egy h29 h30 h31
 have n38 := nk egy K32
 have ⟨K42, h41⟩ := j33.K1 K32 h31
 refine pst 25 gy ((B b.dg).toArray) h34 (by rw [Bz_size, Att.dg_len]; kernel_rfl) (by rw [Bz_size, Att.dg_len]; rfl) (by rw [List.all_toArray]; exact List.all_eq_true.2 (B_one _)) fun V43 h44 j43 => ?_
 have ⟨K48, h47⟩ := j43.Ko1 K42 h41
 refine kk 1 <| eqr_ [0, 1, 2, 3] <| pP (ldr 25 gx h47 (by rw [Bz_size, (Att.dg_len a)]; kernel_rfl)) <| pP (ldr 25 gy h44 (by rw [Bz_size, (Att.dg_len b)]; kernel_rfl)) <| ppq (.bool r) (exec_cast (congrArg Value.bool hr) (exec_binop .eql 25 25 (.tmp 19) (.tmp 20) (by kernel_rfl) (.agg (B a.dg).toArray) (.agg (B b.dg).toArray) _ (by kernel_rfl) (by kernel_rfl) (run_eqGuard_agg _ _ _ _ _ _ _ hash_guard) (hash_eq _ _ (Att.dg_len a) (Att.dg_len b) _))) <| kk 1 <| eu_ <| so_ (.bool r) ?_
 exact ⟨rfl, K48⟩
def qc118_0 (n : Nat) : Code := partOf f140 n
theorem rdoffence_ok (q : Nat) (p : Par) (hp : p.Ok) (h : Int) (va vb : Value) (k : Int) (a x : Att) (y : Vd) (hy : (⟨k, x, zPro, (p.first (max a.t x.t)).1⟩ : Vd) = y) (w : World) (hq : HP w q (rdC p h va vb) 113) (ha : a.Ok) (hx : x.Ok) :
  Calls prog 140 #[pT q 0, iI k, .agg (Att.c a), .agg (Att.c x)] w (RK w (.agg (Vd.c y))) := by
 have hr_a := ha.r
 have hr_x := hx.r
 have hyo : VdOk y := hy ▸ ⟨hr_x, zPro_r⟩
 have hmx : i64ok (max a.t x.t) := by have := ha.t; have := hx.t; unfold i64b at *; unfold i64ok; omega
 have K0 := kz0 w
 refine sf_ (qc118_0 1) func140 <| qr_ [0, 1, 2] <| pbg 28 (Att.c a) fun V1 ga ega h2 j1 => ?_
 have := nqk1 ega hq K0
 have ⟨K6, h5⟩ := j1.K1 K0 hq
 refine pbg 28 (Att.c x) fun V7 gx egx h8 j7 => ?_
 have := nqk2 egx h5 h2 K6
 have ⟨K14, h12, h13⟩ := j7.K2 K6 h5 h2
 refine pag 57 (vdC 0 attZ proZ 0) fun V15 res eres h16 j15 => ?_
 have := nq3 eres h12 h13 h8
 have n20 := nk eres K14
 have ⟨K24, h21, h22, h23⟩ := j15.K3 K14 h12 h13 h8
 refine eq_ <| anp 15 (fun W => (HP W q (rdC p h va vb) 113) ∧ (HP W ga (Att.c a) 28) ∧ (HP W gx (Att.c x) 28)) fun V25 j25 => ?_
 have ⟨K30, h26, h27, h28, h29⟩ := j25.K4 K24 h21 h22 h23 h16
 refine kA [0, 1, 2] <| aV 3 (.agg p.cells) (fun W hS => exec_cast (v := .agg p.cells.toList.toArray) rfl (exec_load_seg 47 (.tmp 14) (by kernel_rfl) q 0 (by kernel_rfl) p.cells.toList _ _ _ hS.1 (rdC_seg p h va vb) underlying47 rfl (by kernel_rfl))) <| kA [4] <| aV 5 _ (fun W hS => lc hS.2.1 (Att.c_2 _)) <| kA [6] <| aV 7 _ (fun W hS => lc hS.2.2 (Att.c_2 _)) <| aV 8 (iI (max a.t x.t)) (fun W hS => exec_max (.tmp 17) (.tmp 19) #[3, 3] (by kernel_rfl) .i64 a.t x.t (by kernel_rfl) (by kernel_rfl)) <| an_o 9 <| ncr 157 #[.agg p.cells, iI (max a.t x.t)] func157 (rFirst_ok p hp _ hmx _) fun V31 j31 => ?_
 have ⟨K36, h32, h33, h34, h35⟩ := j31.K4 K30 h26 h27 h28 h29
 refine ⟨⟨h32, h33, h34⟩, ?_⟩
 refine kA [10, 11, 12] <| ako 13 ?_
 refine ako 14 ?_
 refine ane <| tqr_ nl5_ <| kk 1 <| pP (ldz 28 gx h34 (Att.c_size _ hr_x)) <| kk 1 <| ppq (.agg (Vd.c y)) (exec_build_fill 57 #[(0, .tmp 24), (1, .tmp 25), (3, .tmp 26)] (by kernel_rfl) [(0, iI k), (1, .agg (Att.c x)), (3, iI (p.first (max a.t x.t)).1)] (by kernel_rfl) _ underlying57 (.agg (vdC 0 attZ proZ 0)) (fun _ => by kernel_rfl) PlV (fun _ => by kernel_rfl) _ (hy ▸ fill_vda k (p.first (max a.t x.t)).1 x hr_x)) <| pst 57 res (Vd.c y) h35 (by rw [Vd.c_size hyo]; kernel_rfl) (vd_sizes (Vd.c_size hyo) (by kernel_rfl)) Vd.c_one fun V37 h38 j37 => ?_
 have K42 := K36.nO j37
 refine eu_ <| sor 57 res h38 underlying57 (by rw [Vd.c_size hyo]; kernel_rfl) ?_
 exact ⟨rfl, K42⟩
theorem find_at {α : Type} {P : α → Bool} {l : List α} {i : Nat} {x : α} (hx : l[i]? = some x) (hp : P x = true) (hn : ∀ (j : Nat) (b : α), j < i → l[j]? = some b → P b = false) : l.find? P = some x := by
 obtain ⟨hi, rfl⟩ := List.getElem?_eq_some_iff.1 hx
 exact List.find?_eq_some_iff_getElem.2 ⟨hp, i, hi, rfl, fun j hj => by rw [hn j _ hj (List.getElem?_eq_getElem (by omega))]; rfl⟩
theorem find_not {α : Type} {P : α → Bool} {l : List α} (hn : ∀ (j : Nat) (b : α), l[j]? = some b → P b = false) : l.find? P = none :=
 List.find?_eq_none.2 fun b hb => by obtain ⟨j, hj⟩ := List.getElem?_of_mem hb; rw [hn j b hj]; decide
theorem find_last {α : Type} {P : α → Bool} {l : List α} {m : Nat} {x : α} (hx : l[m]? = some x) (hp : P x = true) (hn : ∀ (j : Nat) (b : α), m < j → l[j]? = some b → P b = false) : l.reverse.find? P = some x := by
 have hm := (List.getElem?_eq_some_iff.1 hx).1
 refine find_at (i := l.length - 1 - m) (by rw [List.getElem?_reverse (by omega), show l.length - 1 - (l.length - 1 - m) = m by omega]; exact hx) hp fun j b hj hb => ?_
 have hl := (List.getElem?_eq_some_iff.1 hb).1
 rw [List.length_reverse] at hl
 rw [List.getElem?_reverse hl] at hb
 exact hn _ b (by omega) hb
section
variable {p : Par} {l : List Att} {a x : Att} {i : Nat}
theorem jd_one (hx : l[i]? = some x) (ht : x.t = a.t) (hn : ∀ (j : Nat) (b : Att), j < i → l[j]? = some b → ¬ b.t = a.t) (hd : (a.dg == x.dg) = true) : dJudge p l a = ⟨1, x, zPro, 0⟩ := by
 unfold dJudge
 rw [find_at (P := fun b : Att => decide (b.t = a.t)) hx (decide_eq_true ht) fun j b hj hb => decide_eq_false (hn j b hj hb)]
 dsimp only
 rw [hd, if_pos rfl]
theorem jd_two (hx : l[i]? = some x) (ht : x.t = a.t) (hn : ∀ (j : Nat) (b : Att), j < i → l[j]? = some b → ¬ b.t = a.t) (hd : (a.dg == x.dg) = false) : dJudge p l a = ⟨2, x, zPro, (p.first (max a.t x.t)).1⟩ := by
 unfold dJudge
 rw [find_at (P := fun b : Att => decide (b.t = a.t)) hx (decide_eq_true ht) fun j b hj hb => decide_eq_false (hn j b hj hb)]
 dsimp only
 rw [hd, if_neg Bool.false_ne_true]
theorem jd_three (hn : ∀ (j : Nat) (b : Att), l[j]? = some b → ¬ b.t = a.t) (hx : l[i]? = some x) (hs : x.s > a.s) (hm : ∀ (j : Nat) (b : Att), j < i → l[j]? = some b → ¬ b.s > a.s) (ht : x.t < a.t) : dJudge p l a = ⟨3, x, zPro, (p.first (max a.t x.t)).1⟩ := by
 unfold dJudge
 rw [find_not (P := fun b : Att => decide (b.t = a.t)) fun j b hb => decide_eq_false (hn j b hb)]
 dsimp only
 rw [find_at (P := fun b : Att => decide (b.s > a.s)) hx (decide_eq_true hs) fun j b hj hb => decide_eq_false (hm j b hj hb)]
 dsimp only
 rw [if_pos ht]
theorem jd_rest (hn : ∀ (j : Nat) (b : Att), l[j]? = some b → ¬ b.t = a.t) (hx : l[i]? = some x) (hs : x.s > a.s) (hm : ∀ (j : Nat) (b : Att), j < i → l[j]? = some b → ¬ b.s > a.s) (ht : ¬ x.t < a.t) : dJudge p l a = dJudge2 p l a := by
 unfold dJudge
 rw [find_not (P := fun b : Att => decide (b.t = a.t)) fun j b hb => decide_eq_false (hn j b hb)]
 dsimp only
 rw [find_at (P := fun b : Att => decide (b.s > a.s)) hx (decide_eq_true hs) fun j b hj hb => decide_eq_false (hm j b hj hb)]
 dsimp only
 rw [if_neg ht]
theorem jd_rest2 (hn : ∀ (j : Nat) (b : Att), l[j]? = some b → ¬ b.t = a.t) (hm : ∀ (j : Nat) (b : Att), l[j]? = some b → ¬ b.s > a.s) : dJudge p l a = dJudge2 p l a := by
 unfold dJudge
 rw [find_not (P := fun b : Att => decide (b.t = a.t)) fun j b hb => decide_eq_false (hn j b hb)]
 dsimp only
 rw [find_not (P := fun b : Att => decide (b.s > a.s)) fun j b hb => decide_eq_false (hm j b hb)]
theorem jd_four (hJ : dJudge p l a = dJudge2 p l a) (hx : l[i]? = some x) (hs : surr x a = true) (hm : ∀ (j : Nat) (b : Att), i < j → l[j]? = some b → surr b a = false) : dJudge p l a = ⟨4, x, zPro, (p.first (max a.t x.t)).1⟩ := by
 rw [hJ]; unfold dJudge2
 rw [find_last (P := fun b : Att => surr b a) hx hs hm]
theorem jd_none (hJ : dJudge p l a = dJudge2 p l a) (hm : ∀ (j : Nat) (b : Att), l[j]? = some b → surr b a = false) : dJudge p l a = Vd.z := by
 rw [hJ]; unfold dJudge2
 rw [find_not (P := fun b : Att => surr b a) (l := l.reverse) fun j b hb => by obtain ⟨j2, hj2⟩ := List.getElem?_of_mem (List.mem_reverse.1 (List.mem_of_getElem? hb)); exact hm j2 b hj2]
theorem jd_cases (i : Nat) (hi : i ≤ l.length) : (∃ x, i < l.length ∧ l[i]? = some x ∧ x.t = a.t ∧ (a.dg == x.dg) = true) ∨ (∃ x, i < l.length ∧ l[i]? = some x ∧ x.t = a.t ∧ (a.dg == x.dg) = false) ∨ (∃ x, i < l.length ∧ l[i]? = some x ∧ ¬ x.t = a.t) ∨ i = l.length := by
 by_cases h : i < l.length
 ·by_cases e : l[i].t = a.t
  ·cases d : a.dg == l[i].dg
   ·exact .inr (.inl ⟨_, h, List.getElem?_eq_getElem h, e, d⟩)
   ·exact .inl ⟨_, h, List.getElem?_eq_getElem h, e, d⟩
  ·exact .inr (.inr (.inl ⟨_, h, List.getElem?_eq_getElem h, e⟩))
 ·exact .inr (.inr (.inr (by omega)))
theorem js_cases (i : Nat) (hi : i ≤ l.length) : (∃ x, i < l.length ∧ l[i]? = some x ∧ x.s > a.s ∧ x.t < a.t) ∨ (∃ x, i < l.length ∧ l[i]? = some x ∧ x.s > a.s ∧ ¬ x.t < a.t) ∨ (∃ x, i < l.length ∧ l[i]? = some x ∧ ¬ x.s > a.s) ∨ i = l.length := by
 by_cases h : i < l.length
 ·by_cases e : l[i].s > a.s
  ·by_cases d : l[i].t < a.t
   ·exact .inl ⟨_, h, List.getElem?_eq_getElem h, e, d⟩
   ·exact .inr (.inl ⟨_, h, List.getElem?_eq_getElem h, e, d⟩)
  ·exact .inr (.inr (.inl ⟨_, h, List.getElem?_eq_getElem h, e⟩))
 ·exact .inr (.inr (.inr (by omega)))
theorem jb_cases (n : Nat) (hn : n ≤ l.length) : (∃ m x, n = m + 1 ∧ l[m]? = some x ∧ surr x a = true) ∨ (∃ m x, n = m + 1 ∧ l[m]? = some x ∧ surr x a = false) ∨ n = 0 := by
 cases n with
 | zero => exact .inr (.inr rfl)
 | succ m =>
  cases d : surr l[m] a
  ·exact .inr (.inl ⟨m, _, rfl, List.getElem?_eq_getElem (by omega), d⟩)
  ·exact .inl ⟨m, _, rfl, List.getElem?_eq_getElem (by omega), d⟩
theorem rsur_is (x a : Att) (r : Bool) (w : World) (hx : x.Ok) (ha : a.Ok) (hr : surr x a = r) : Calls prog 141 #[.agg (Att.c x), .agg (Att.c a)] w (RK w (.bool r)) := by
 subst hr; exact (rvSurrounds_ok x a w hx ha).mono fun _ _ h => h
end
def qc118_1 (n : Nat) : Code := partOf f107 n
theorem rdjudge_ok (q base : Nat) (p : Par) (h : Int) (A : List Att) (Q : List Pro) (z : Att) (hz : z.Ok) (w : World) (H : RDet w q base p h A Q) (inv : DInv p h A Q) (hA : A.length ≤ 300) :
  Calls prog 107 #[pT q 0, .agg (Att.c z)] w (RK w (.agg (Vd.c (dJudge p (votesOf p h A z.v) z)))) := by
 have H0 := H
 obtain ⟨va, vb, hq, hra, hna, hrb, hnb⟩ := H
 have ltq := lt_of_block hq
 obtain ⟨l, hl⟩ : ∃ l, votesOf p h A z.v = l := ⟨_, rfl⟩
 have okl : ∀ x ∈ l, x.Ok := fun x hx => (inv.a x (mem_votes.1 (hl ▸ hx)).1).1
 have hr_z := hz.r
 have K0 := kz0 w
 refine sf_ (qc118_1 1) func107 <| qr_ [0, 1] <| pbg 28 (Att.c z) fun V1 ga ega h2 j1 => ?_
 have := nqk1 ega hq K0
 have ⟨K6, h5⟩ := j1.K1 K0 hq
 refine pag 57 (vdC 0 attZ proZ 0) fun V7 res eres h8 j7 => ?_
 have := nqk2 eres h5 h2 K6
 have ⟨K14, h12, h13⟩ := j7.K2 K6 h5 h2
 refine eqr_ nl5_ <| kk 2 <| pP (lc h13 (Att.c_0 _)) ?_
 refine pcq 68 #[pT q 0, iI z.v] func68 (((hl ▸ rdVotes_ok q base p h A Q z.v _ (H0.keepsN K14) inv hA)).mono ?_)
 rintro e V15 ⟨vl, rfl, hrV15, hnV15, j15⟩
 have hsV15 : AttsAt V15 vl l := Row.sl hrV15 rfl (fun x hx => Att.cl_len (okl x hx))
 have hll := hsV15.len_le
 have hrs := lt_of_block h8
 refine ⟨_, rfl, ?_⟩
 have ⟨K19, h16, h17, h18⟩ := j15.K3 K14 h12 h13 h8
 refine kk 1 <| eq_ <| qr_ [0] <| kk 1 <| et_ <| bl_ 0 ?_
 refine sy_loop (qc118_1 116) (fun a V => ∃ (i : Nat), (Fr 95 [(0, pT q 0), (3, pT ga 0), (4, pT res 0), (5, vl), (6, iN i)] [] a) ∧ (i ≤ l.length) ∧ (∀ (j : Nat) (b : Att), j < i → l[j]? = some b → ¬ b.t = z.t) ∧ (HP V q (rdC p h va vb) 113) ∧ (HP V ga (Att.c z) 28) ∧ (HP V res (vdC 0 attZ proZ 0) 57) ∧ (AttsAt V vl l) ∧ (Keeps Nob w V)) (fun a _ => l.length - (intOf (a.tmps.getD 6 undef)).toNat) (by kernel_rfl) ?_ ?_
 ·exact ⟨0, fq, Nat.zero_le _, (fun _ _ h => by omega), h16, h17, h18, hsV15, K19⟩
 ·rintro a V20 ⟨i, hfr, hi, hn0, h21, h22, h23, h24, K25⟩
  obtain ⟨uu26, rfl⟩ := Fr.open hfr
  rcases jd_cases (a := z) i hi with ⟨x, hlt, hx, ht, hd⟩ | ⟨x, hlt, hx, ht, hd⟩ | ⟨x, hlt, hx, ht⟩ | ei
  ·have hxo := okl x (List.mem_of_getElem? hx)
   obtain ⟨b_x, o_x, c_x, hv_x, hb_x, _⟩ := (h24).at_ i _ hx
   skip
   have hfin := jd_one (p := p) hx ht hn0 hd
   obtain ⟨y, hy⟩ : ∃ y, (⟨1, x, zPro, 0⟩ : Vd) = y := ⟨_, rfl⟩
   rw [hy] at hfin
   have hyo : VdOk y := hy ▸ ⟨hxo.r, zPro_r⟩
   refine q_ <| qr_ [0, 1, 2, 3] <| kk 2 <| ppq (iN l.length) (lsl h24 underlying32) <| pP (dtT ((i : Int) < (l.length : Int))) <| ey_ <| s_ <| tq_ <| bl_ 1 <| q_ <| anp 8 (fun W => (AttsAt W vl l) ∧ (HP W ga (Att.c z) 28)) fun V27 j27 => ?_
   have ⟨h29, h30⟩ := j27.k2 h22 h23
   have h31 := h24.keepsN j27
   have K32 := K25.nn j27
   refine kA [0, 1] <| aV 2 _ (fun W hS => ixh hv_x i 36 underlying32) <| kA [3] <| aV 4 (iI x.t) (fun W hS => ldc 3 b_x (o_x + i * 36 + 2) (Sl.cell hS.1 hx hv_x Att.cl_2)) <| kA [5] <| aV 6 _ (fun W hS => lc hS.2 (Att.c_2 _)) <| aV 7 _ (fun W hS => eqT ((x.t) : Int) ((z.t) : Int)) <| ane <| then_n <| y_ <| q_ <| q_ <| sy_np <| sy_reg <| anb 6 (fun W => (AttsAt W vl l) ∧ (HP W ga (Att.c z) 28)) #[false, false, false, false, false, false] ?_
   obtain ⟨V33, eV33, j33⟩ := drew_step V27
   rw [eV33]
   clear eV33
   have ⟨h35, h36⟩ := j33.k2 h29 h30
   have h37 := h31.keepsN j33
   have K38 := K32.nn j33
   refine aV 0 _ (fun W hS => ldz 28 ga hS.2 (Att.c_size _ hr_z)) <| kA [1, 2] <| aV 3 _ (fun W hS => ixh hv_x i 36 underlying32) <| aV 4 (.agg (Att.c x)) (fun W hS => ldm (Sl.range hS.1 hx hv_x) underlying28 (Att.cl_len hxo)) <| an_o 5 <| ncs (rdsame_is z x true _ hz hxo hd) fun V39 j39 => ?_
   have ⟨h41, h42⟩ := j39.k2 h35 h36
   have h43 := h37.keepsN j39
   have K44 := K38.nn j39
   refine ⟨⟨h43, h41⟩, ?_⟩
   refine ane <| then_n <| y_ <| qr_ nl6_ <| kk 2 <| pP (ixh hv_x i 36 underlying32) <| ppq (.agg (Att.c x)) (ldm (Sl.range h43 hx hv_x) underlying28 (Att.cl_len hxo)) <| ppq (.agg (Vd.c y)) (exec_build_fill 57 #[(0, .const (iI 1)), (1, .tmp 36)] (by kernel_rfl) [(0, iI 1), (1, .agg (Att.c x))] (by kernel_rfl) _ underlying57 (.agg (vdC 0 attZ proZ 0)) (fun _ => by kernel_rfl) PlV (fun _ => by kernel_rfl) _ (hy ▸ fill_vdr 1 x hxo.r)) <| pst 57 res (Vd.c y) h42 (by rw [Vd.c_size hyo]; kernel_rfl) (vd_sizes (Vd.c_size hyo) (by kernel_rfl)) Vd.c_one fun V45 h46 j45 => ?_
   have K50 := K44.nO j45
   refine eu_ <| then_r <| blk_r <| then_r <| then_r <| blk_r <| then_r <| sor 57 res h46 underlying57 (by rw [Vd.c_size hyo]; kernel_rfl) ?_
   exact ⟨by rw [hl, hfin], K50⟩
  ·have hxo := okl x (List.mem_of_getElem? hx)
   obtain ⟨b_x, o_x, c_x, hv_x, hb_x, _⟩ := (h24).at_ i _ hx
   skip
   have hfin := jd_two (p := p) hx ht hn0 hd
   obtain ⟨y, hy⟩ : ∃ y, (⟨2, x, zPro, (p.first (max z.t x.t)).1⟩ : Vd) = y := ⟨_, rfl⟩
   rw [hy] at hfin
   have hyo : VdOk y := hy ▸ ⟨hxo.r, zPro_r⟩
   refine q_ <| qr_ [0, 1, 2, 3] <| kk 2 <| ppq (iN l.length) (lsl h24 underlying32) <| pP (dtT ((i : Int) < (l.length : Int))) <| ey_ <| s_ <| tq_ <| bl_ 1 <| q_ <| anp 8 (fun W => (AttsAt W vl l) ∧ (HP W ga (Att.c z) 28)) fun V51 j51 => ?_
   have ⟨h52, h53, h54⟩ := j51.k3 h21 h22 h23
   have h55 := h24.keepsN j51
   have K56 := K25.nn j51
   refine kA [0, 1] <| aV 2 _ (fun W hS => ixh hv_x i 36 underlying32) <| kA [3] <| aV 4 (iI x.t) (fun W hS => ldc 3 b_x (o_x + i * 36 + 2) (Sl.cell hS.1 hx hv_x Att.cl_2)) <| kA [5] <| aV 6 _ (fun W hS => lc hS.2 (Att.c_2 _)) <| aV 7 _ (fun W hS => eqT ((x.t) : Int) ((z.t) : Int)) <| ane <| then_n <| y_ <| q_ <| q_ <| sy_np <| sy_reg <| anb 6 (fun W => (AttsAt W vl l) ∧ (HP W ga (Att.c z) 28)) #[false, false, false, false, false, false] ?_
   obtain ⟨V57, eV57, j57⟩ := drew_step V51
   rw [eV57]
   clear eV57
   have ⟨h58, h59, h60⟩ := j57.k3 h52 h53 h54
   have h61 := h55.keepsN j57
   have K62 := K56.nn j57
   refine aV 0 _ (fun W hS => ldz 28 ga hS.2 (Att.c_size _ hr_z)) <| kA [1, 2] <| aV 3 _ (fun W hS => ixh hv_x i 36 underlying32) <| aV 4 (.agg (Att.c x)) (fun W hS => ldm (Sl.range hS.1 hx hv_x) underlying28 (Att.cl_len hxo)) <| an_o 5 <| ncs (rdsame_is z x false _ hz hxo hd) fun V63 j63 => ?_
   have ⟨h64, h65, h66⟩ := j63.k3 h58 h59 h60
   have h67 := h61.keepsN j63
   have K68 := K62.nn j63
   refine ⟨⟨h67, h65⟩, ?_⟩
   refine ane <| then_n <| n_ <| s_ <| tq_ <| anp 8 (fun W => (AttsAt W vl l) ∧ (HP W ga (Att.c z) 28)) fun V69 j69 => ?_
   have ⟨h70, h71, h72⟩ := j69.k3 h64 h65 h66
   have h73 := h67.keepsN j69
   have K74 := K68.nn j69
   refine kA [0] <| aV 1 _ (fun W hS => ldz 28 ga hS.2 (Att.c_size _ hr_z)) <| kA [2, 3] <| aV 4 _ (fun W hS => ixh hv_x i 36 underlying32) <| aV 5 (.agg (Att.c x)) (fun W hS => ldm (Sl.range hS.1 hx hv_x) underlying28 (Att.cl_len hxo)) <| an_o 6 <| ncr 140 #[pT q 0, iI 2, .agg (Att.c z), .agg (Att.c x)] func140 (rdoffence_ok q p inv.ok.1 h va vb _ z x y hy _ h70 hz hxo) fun V75 j75 => ?_
   have ⟨h77, h78⟩ := j75.k2 h71 h72
   have h79 := h73.keepsN j75
   have K80 := K74.nn j75
   refine ⟨⟨h79, h77⟩, ?_⟩
   refine an_o 7 <| nst 57 res (Vd.c y) h78 (by rw [Vd.c_size hyo]; kernel_rfl) (vd_sizes (Vd.c_size hyo) (by kernel_rfl)) Vd.c_one fun V81 h82 j81 => ?_
   have h84 := j81.bO h77
   have h85 : AttsAt V81 vl l := Sl.keeps h79 j81 (fun j hj _ e => by have q1 := hnV15 j hj; have q2 : j = res := e; omega)
   have K86 := K80.nO j81
   refine ⟨⟨h85, h84⟩, ?_⟩
   refine ane <| then_n <| u_ <| blk_r <| then_r <| then_r <| blk_r <| then_r <| sor 57 res h82 underlying57 (by rw [Vd.c_size hyo]; kernel_rfl) ?_
   exact ⟨by rw [hl, hfin], K86⟩
  ·have hxo := okl x (List.mem_of_getElem? hx)
   obtain ⟨b_x, o_x, c_x, hv_x, hb_x, _⟩ := (h24).at_ i _ hx
   refine q_ <| qr_ [0, 1, 2, 3] <| kk 2 <| ppq (iN l.length) (lsl h24 underlying32) <| pP (dtT ((i : Int) < (l.length : Int))) <| ey_ <| s_ <| tq_ <| bl_ 1 <| q_ <| anp 8 (fun W => (AttsAt W vl l) ∧ (HP W ga (Att.c z) 28)) fun V87 j87 => ?_
   have ⟨h88, h89, h90⟩ := j87.k3 h21 h22 h23
   have h91 := h24.keepsN j87
   have K92 := K25.nn j87
   refine kA [0, 1] <| aV 2 _ (fun W hS => ixh hv_x i 36 underlying32) <| kA [3] <| aV 4 (iI x.t) (fun W hS => ldc 3 b_x (o_x + i * 36 + 2) (Sl.cell hS.1 hx hv_x Att.cl_2)) <| kA [5] <| aV 6 _ (fun W hS => lc hS.2 (Att.c_2 _)) <| aV 7 _ (fun W hS => eqF ((x.t) : Int) ((z.t) : Int)) <| ane <| then_n <| n_ <| s_ <| blk_n <| tr_ [0, 1, 2] <| kk 1 <| pP (cwN (n := i + 1)) <| kk 1 <| et_ ?_
   refine ⟨⟨i + 1, fq, by omega, (fun j b hj hb => by by_cases e : j = i; subst e; rw [hx] at hb; cases hb; exact ht; exact hn0 j b (by omega) hb), h88, h89, h90, h91, K92⟩, ?_⟩
   exact ltm (l.length - (i + 1)) (l.length - i)
  ·have hn1 : ∀ (j : Nat) (b : Att), l[j]? = some b → ¬ b.t = z.t := fun j b hb => hn0 j b (by have := (List.getElem?_eq_some_iff.1 hb).1; omega) hb
   refine q_ <| qr_ [0, 1, 2, 3] <| kk 2 <| ppq (iN l.length) (lsl h24 underlying32) <| pP (dtF ((i : Int) < (l.length : Int))) <| en_ <| sy_exit 0 (by kernel_rfl) <| then_e <| then_e <| blk_e <| tq_ <| qr_ [0] <| kk 1 <| et_ <| bl_ 2 ?_
   refine sy_loop (qc118_1 244) (fun a V => ∃ (k : Nat), (Fr 95 [(0, pT q 0), (3, pT ga 0), (4, pT res 0), (5, vl), (7, iN k)] [] a) ∧ (k ≤ l.length) ∧ (∀ (j : Nat) (b : Att), j < k → l[j]? = some b → ¬ b.s > z.s) ∧ (HP V q (rdC p h va vb) 113) ∧ (HP V ga (Att.c z) 28) ∧ (HP V res (vdC 0 attZ proZ 0) 57) ∧ (AttsAt V vl l) ∧ (Keeps Nob w V)) (fun a _ => l.length - (intOf (a.tmps.getD 7 undef)).toNat) (by kernel_rfl) ?_ ?_
   ·exact ⟨0, fq, Nat.zero_le _, (fun _ _ h => by omega), h21, h22, h23, h24, K25⟩
   ·rintro a V93 ⟨k, hfr, hi2, hm0, h94, h95, h96, h97, K98⟩
    obtain ⟨uu99, rfl⟩ := Fr.open hfr
    rcases js_cases (a := z) k hi2 with ⟨x, hlt, hx, hs, ht⟩ | ⟨x, hlt, hx, hs, ht⟩ | ⟨x, hlt, hx, hs⟩ | ek
    ·have hxo := okl x (List.mem_of_getElem? hx)
     obtain ⟨b_x, o_x, c_x, hv_x, hb_x, _⟩ := (h97).at_ k _ hx
     have hfin := jd_three (p := p) hn1 hx hs hm0 ht
     obtain ⟨y, hy⟩ : ∃ y, (⟨3, x, zPro, (p.first (max z.t x.t)).1⟩ : Vd) = y := ⟨_, rfl⟩
     rw [hy] at hfin
     have hyo : VdOk y := hy ▸ ⟨hxo.r, zPro_r⟩
     refine q_ <| qr_ [0, 1, 2, 3] <| kk 2 <| ppq (iN l.length) (lsl h97 underlying32) <| pP (dtT ((k : Int) < (l.length : Int))) <| ey_ <| s_ <| tq_ <| bl_ 3 <| q_ <| anp 8 (fun W => (AttsAt W vl l) ∧ (HP W ga (Att.c z) 28)) fun V100 j100 => ?_
     have ⟨h101, h102, h103⟩ := j100.k3 h94 h95 h96
     have h104 := h97.keepsN j100
     have K105 := K98.nn j100
     refine kA [0, 1] <| aV 2 _ (fun W hS => ixh hv_x k 36 underlying32) <| kA [3] <| aV 4 (iI x.s) (fun W hS => ldc 3 b_x (o_x + k * 36 + 1) (Sl.cell hS.1 hx hv_x Att.cl_1)) <| kA [5] <| aV 6 _ (fun W hS => lc hS.2 (Att.c_1 _)) <| aV 7 _ (fun W hS => dtT (((x.s) : Int) > ((z.s) : Int))) <| ane <| then_n <| y_ <| q_ <| q_ <| sy_np <| sy_reg <| anb 8 (fun W => (AttsAt W vl l) ∧ (HP W ga (Att.c z) 28)) #[false, false, false, false, false, false, false, false] ?_
     obtain ⟨V106, eV106, j106⟩ := drew_step V100
     rw [eV106]
     clear eV106
     have ⟨h107, h108, h109⟩ := j106.k3 h101 h102 h103
     have h110 := h104.keepsN j106
     have K111 := K105.nn j106
     refine kA [0, 1] <| aV 2 _ (fun W hS => ixh hv_x k 36 underlying32) <| kA [3] <| aV 4 (iI x.t) (fun W hS => ldc 3 b_x (o_x + k * 36 + 2) (Sl.cell hS.1 hx hv_x Att.cl_2)) <| kA [5] <| aV 6 _ (fun W hS => lc hS.2 (Att.c_2 _)) <| aV 7 _ (fun W hS => dtT (((x.t) : Int) < ((z.t) : Int))) <| ane <| then_n <| y_ <| q_ <| sy_np <| sy_reg <| anb 8 (fun W => (AttsAt W vl l) ∧ (HP W ga (Att.c z) 28)) #[false, false, false, false, false, false, false, false] ?_
     obtain ⟨V112, eV112, j112⟩ := drew_step V106
     rw [eV112]
     clear eV112
     have ⟨h113, h114, h115⟩ := j112.k3 h107 h108 h109
     have h116 := h110.keepsN j112
     have K117 := K111.nn j112
     refine kA [0] <| aV 1 _ (fun W hS => ldz 28 ga hS.2 (Att.c_size _ hr_z)) <| kA [2, 3] <| aV 4 _ (fun W hS => ixh hv_x k 36 underlying32) <| aV 5 (.agg (Att.c x)) (fun W hS => ldm (Sl.range hS.1 hx hv_x) underlying28 (Att.cl_len hxo)) <| an_o 6 <| ncr 140 #[pT q 0, iI 3, .agg (Att.c z), .agg (Att.c x)] func140 (rdoffence_ok q p inv.ok.1 h va vb _ z x y hy _ h113 hz hxo) fun V118 j118 => ?_
     have ⟨h120, h121⟩ := j118.k2 h114 h115
     have h122 := h116.keepsN j118
     have K123 := K117.nn j118
     refine ⟨⟨h122, h120⟩, ?_⟩
     refine an_o 7 <| nst 57 res (Vd.c y) h121 (by rw [Vd.c_size hyo]; kernel_rfl) (vd_sizes (Vd.c_size hyo) (by kernel_rfl)) Vd.c_one fun V124 h125 j124 => ?_
     have h127 := j124.bO h120
     have h128 : AttsAt V124 vl l := Sl.keeps h122 j124 (fun j hj _ e => by have q1 := hnV15 j hj; have q2 : j = res := e; omega)
     have K129 := K123.nO j124
     refine ⟨⟨h128, h127⟩, ?_⟩
     refine ane <| then_n <| u_ <| then_r <| blk_r <| then_r <| then_r <| blk_r <| then_r <| sor 57 res h125 underlying57 (by rw [Vd.c_size hyo]; kernel_rfl) ?_
     exact ⟨by rw [hl, hfin], K129⟩
    ·have hxo := okl x (List.mem_of_getElem? hx)
     obtain ⟨b_x, o_x, c_x, hv_x, hb_x, _⟩ := (h97).at_ k _ hx
     have hJ := jd_rest (p := p) hn1 hx hs hm0 ht
     refine q_ <| qr_ [0, 1, 2, 3] <| kk 2 <| ppq (iN l.length) (lsl h97 underlying32) <| pP (dtT ((k : Int) < (l.length : Int))) <| ey_ <| s_ <| tq_ <| bl_ 3 <| q_ <| anp 8 (fun W => (AttsAt W vl l) ∧ (HP W ga (Att.c z) 28)) fun V130 j130 => ?_
     have ⟨h131, h132, h133⟩ := j130.k3 h94 h95 h96
     have h134 := h97.keepsN j130
     have K135 := K98.nn j130
     refine kA [0, 1] <| aV 2 _ (fun W hS => ixh hv_x k 36 underlying32) <| kA [3] <| aV 4 (iI x.s) (fun W hS => ldc 3 b_x (o_x + k * 36 + 1) (Sl.cell hS.1 hx hv_x Att.cl_1)) <| kA [5] <| aV 6 _ (fun W hS => lc hS.2 (Att.c_1 _)) <| aV 7 _ (fun W hS => dtT (((x.s) : Int) > ((z.s) : Int))) <| ane <| then_n <| y_ <| q_ <| q_ <| sy_np <| sy_reg <| anb 8 (fun W => (AttsAt W vl l) ∧ (HP W ga (Att.c z) 28)) #[false, false, false, false, false, false, false, false] ?_
     obtain ⟨V136, eV136, j136⟩ := drew_step V130
     rw [eV136]
     clear eV136
     have ⟨h137, h138, h139⟩ := j136.k3 h131 h132 h133
     have h140 := h134.keepsN j136
     have K141 := K135.nn j136
     refine kA [0, 1] <| aV 2 _ (fun W hS => ixh hv_x k 36 underlying32) <| kA [3] <| aV 4 (iI x.t) (fun W hS => ldc 3 b_x (o_x + k * 36 + 2) (Sl.cell hS.1 hx hv_x Att.cl_2)) <| kA [5] <| aV 6 _ (fun W hS => lc hS.2 (Att.c_2 _)) <| aV 7 _ (fun W hS => dtF (((x.t) : Int) < ((z.t) : Int))) <| ane <| then_n <| n_ <| s_ <| then_n <| sy_exit 2 (by kernel_rfl) <| blk_p (by decide) <| then_e <| then_e <| blk_e <| tq_ <| qr_ [0, 1, 2, 3] <| kk 1 <| ppq (iN l.length) (lsl h140 underlying32) <| pP (cwI (x := (l.length : Int) - 1)) <| kk 1 <| et_ <| bl_ 4 ?_
     refine sy_loop (qc118_1 500) (fun a V => ∃ (n : Nat), (Fr 95 [(0, pT q 0), (3, pT ga 0), (4, pT res 0), (5, vl), (8, iI ((n : Int) - 1))] [] a) ∧ (n ≤ l.length) ∧ (∀ (j : Nat) (b : Att), n ≤ j → l[j]? = some b → surr b z = false) ∧ (HP V q (rdC p h va vb) 113) ∧ (HP V ga (Att.c z) 28) ∧ (HP V res (vdC 0 attZ proZ 0) 57) ∧ (AttsAt V vl l) ∧ (Keeps Nob w V)) (fun a _ => (intOf (a.tmps.getD 8 undef) + 1).toNat) (by kernel_rfl) ?_ ?_
     ·exact ⟨l.length, fq, Nat.le_refl _, (fun j b hj hb => by have := (List.getElem?_eq_some_iff.1 hb).1; omega), h137, h138, h139, h140, K141⟩
     ·rintro a V142 ⟨n, hfr, hn, hs0, h143, h144, h145, h146, K147⟩
      obtain ⟨uu148, rfl⟩ := Fr.open hfr
      rcases jb_cases (a := z) n hn with ⟨m, x, hm, hx, hsu⟩ | ⟨m, x, hm, hx, hsu⟩ | hz0
      ·skip
       have hxo := okl x (List.mem_of_getElem? hx)
       obtain ⟨b_x, o_x, c_x, hv_x, hb_x, _⟩ := (h146).at_ m _ hx
       have hfin := jd_four hJ hx hsu (fun j b hj hb => hs0 j b (by omega) hb)
       obtain ⟨y, hy⟩ : ∃ y, (⟨4, x, zPro, (p.first (max z.t x.t)).1⟩ : Vd) = y := ⟨_, rfl⟩
       rw [hy] at hfin
       have hyo : VdOk y := hy ▸ ⟨hxo.r, zPro_r⟩
       refine q_ <| qr_ [0, 1] <| kk 1 <| pP (dtT (((((n : Int) - 1)) : Int) ≥ ((0) : Int))) <| ey_ <| s_ <| tq_ <| bl_ 5 <| q_ <| anp 6 (fun W => (AttsAt W vl l) ∧ (HP W ga (Att.c z) 28)) fun V149 j149 => ?_
       have ⟨h150, h151, h152⟩ := j149.k3 h143 h144 h145
       have h153 := h146.keepsN j149
       have K154 := K147.nn j149
       refine kA [0] <| aV 1 (iN m) (fun W hS => exec_cast (congrArg (Value.int .i64) (show (n : Int) - 1 = (m : Int) by omega)) (by kernel_rfl)) <| aV 2 _ (fun W hS => ixh hv_x m 36 underlying32) <| aV 3 (.agg (Att.c x)) (fun W hS => ldm (Sl.range hS.1 hx hv_x) underlying28 (Att.cl_len hxo)) <| aV 4 _ (fun W hS => ldz 28 ga hS.2 (Att.c_size _ hr_z)) <| an_o 5 <| ncs (rsur_is x z true _ hxo hz hsu) fun V155 j155 => ?_
       have ⟨h156, h157, h158⟩ := j155.k3 h150 h151 h152
       have h159 := h153.keepsN j155
       have K160 := K154.nn j155
       refine ⟨⟨h159, h157⟩, ?_⟩
       refine ane <| then_n <| y_ <| q_ <| anp 8 (fun W => (AttsAt W vl l) ∧ (HP W ga (Att.c z) 28)) fun V161 j161 => ?_
       have ⟨h162, h163, h164⟩ := j161.k3 h156 h157 h158
       have h165 := h159.keepsN j161
       have K166 := K160.nn j161
       refine kA [0] <| aV 1 _ (fun W hS => ldz 28 ga hS.2 (Att.c_size _ hr_z)) <| kA [2] <| aV 3 (iN m) (fun W hS => exec_cast (congrArg (Value.int .i64) (show (n : Int) - 1 = (m : Int) by omega)) (by kernel_rfl)) <| aV 4 _ (fun W hS => ixh hv_x m 36 underlying32) <| aV 5 (.agg (Att.c x)) (fun W hS => ldm (Sl.range hS.1 hx hv_x) underlying28 (Att.cl_len hxo)) <| an_o 6 <| ncr 140 #[pT q 0, iI 4, .agg (Att.c z), .agg (Att.c x)] func140 (rdoffence_ok q p inv.ok.1 h va vb _ z x y hy _ h162 hz hxo) fun V167 j167 => ?_
       have ⟨h169, h170⟩ := j167.k2 h163 h164
       have h171 := h165.keepsN j167
       have K172 := K166.nn j167
       refine ⟨⟨h171, h169⟩, ?_⟩
       refine an_o 7 <| nst 57 res (Vd.c y) h170 (by rw [Vd.c_size hyo]; kernel_rfl) (vd_sizes (Vd.c_size hyo) (by kernel_rfl)) Vd.c_one fun V173 h174 j173 => ?_
       have h176 := j173.bO h169
       have h177 : AttsAt V173 vl l := Sl.keeps h171 j173 (fun j hj _ e => by have q1 := hnV15 j hj; have q2 : j = res := e; omega)
       have K178 := K172.nO j173
       refine ⟨⟨h177, h176⟩, ?_⟩
       refine ane <| then_n <| u_ <| blk_r <| then_r <| then_r <| blk_r <| then_r <| sor 57 res h174 underlying57 (by rw [Vd.c_size hyo]; kernel_rfl) ?_
       exact ⟨by rw [hl, hfin], K178⟩
      ·skip
       have hxo := okl x (List.mem_of_getElem? hx)
       obtain ⟨b_x, o_x, c_x, hv_x, hb_x, _⟩ := (h146).at_ m _ hx
       refine q_ <| qr_ [0, 1] <| kk 1 <| pP (dtT (((((n : Int) - 1)) : Int) ≥ ((0) : Int))) <| ey_ <| s_ <| tq_ <| bl_ 5 <| q_ <| anp 6 (fun W => (AttsAt W vl l) ∧ (HP W ga (Att.c z) 28)) fun V179 j179 => ?_
       have ⟨h180, h181, h182⟩ := j179.k3 h143 h144 h145
       have h183 := h146.keepsN j179
       have K184 := K147.nn j179
       refine kA [0] <| aV 1 (iN m) (fun W hS => exec_cast (congrArg (Value.int .i64) (show (n : Int) - 1 = (m : Int) by omega)) (by kernel_rfl)) <| aV 2 _ (fun W hS => ixh hv_x m 36 underlying32) <| aV 3 (.agg (Att.c x)) (fun W hS => ldm (Sl.range hS.1 hx hv_x) underlying28 (Att.cl_len hxo)) <| aV 4 _ (fun W hS => ldz 28 ga hS.2 (Att.c_size _ hr_z)) <| an_o 5 <| ncs (rsur_is x z false _ hxo hz hsu) fun V185 j185 => ?_
       have ⟨h186, h187, h188⟩ := j185.k3 h180 h181 h182
       have h189 := h183.keepsN j185
       have K190 := K184.nn j185
       refine ⟨⟨h189, h187⟩, ?_⟩
       refine ane <| then_n <| n_ <| s_ <| blk_n <| tr_ [0, 1, 2] <| kk 1 <| ppq (iI ((m : Int) - 1)) (exec_cast (congrArg (Value.int .i64) (wrapI ((n : Int) - 1 - 1) ((m : Int) - 1) (by omega) (by omega) (by omega))) (by kernel_rfl)) <| kk 1 <| et_ ?_
       refine ⟨⟨m, fq, by omega, (fun j b hj hb => by by_cases e : j = m; subst e; rw [hx] at hb; cases hb; exact hsu; exact hs0 j b (by omega) hb), h186, h187, h188, h189, K190⟩, ?_⟩
       exact ltm (((m : Int) - 1 + 1).toNat) (((n : Int) - 1 + 1).toNat)
      ·have hfin := jd_none hJ (fun j b hb => hs0 j b (by omega) hb)
       refine q_ <| qr_ [0, 1] <| kk 1 <| pP (dtF (((((n : Int) - 1)) : Int) ≥ ((0) : Int))) <| en_ <| sy_exit 4 (by kernel_rfl) <| then_e <| then_e <| blk_e <| tqr_ [0, 1] <| kk 1 <| pst 57 res (vdC 0 attZ proZ 0) h145 (by kernel_rfl) (vd_sizes (by kernel_rfl) (by kernel_rfl)) (by kernel_rfl) fun V191 h192 j191 => ?_
       have K196 := K147.nO j191
       refine eu_ <| sor 57 res h192 underlying57 (by kernel_rfl) ?_
       exact ⟨by rw [hl, hfin] <;> kernel_rfl, K196⟩
    ·have hxo := okl x (List.mem_of_getElem? hx)
     obtain ⟨b_x, o_x, c_x, hv_x, hb_x, _⟩ := (h97).at_ k _ hx
     refine q_ <| qr_ [0, 1, 2, 3] <| kk 2 <| ppq (iN l.length) (lsl h97 underlying32) <| pP (dtT ((k : Int) < (l.length : Int))) <| ey_ <| s_ <| tq_ <| bl_ 3 <| q_ <| anp 8 (fun W => (AttsAt W vl l) ∧ (HP W ga (Att.c z) 28)) fun V197 j197 => ?_
     have ⟨h198, h199, h200⟩ := j197.k3 h94 h95 h96
     have h201 := h97.keepsN j197
     have K202 := K98.nn j197
     refine kA [0, 1] <| aV 2 _ (fun W hS => ixh hv_x k 36 underlying32) <| kA [3] <| aV 4 (iI x.s) (fun W hS => ldc 3 b_x (o_x + k * 36 + 1) (Sl.cell hS.1 hx hv_x Att.cl_1)) <| kA [5] <| aV 6 _ (fun W hS => lc hS.2 (Att.c_1 _)) <| aV 7 _ (fun W hS => dtF (((x.s) : Int) > ((z.s) : Int))) <| ane <| then_n <| n_ <| s_ <| blk_n <| tr_ [0, 1, 2] <| kk 1 <| pP (cwN (n := k + 1)) <| kk 1 <| et_ ?_
     refine ⟨⟨k + 1, fq, by omega, (fun j b hj hb => by by_cases e : j = k; subst e; rw [hx] at hb; cases hb; exact hs; exact hm0 j b (by omega) hb), h198, h199, h200, h201, K202⟩, ?_⟩
     exact ltm (l.length - (k + 1)) (l.length - k)
    ·have hm1 : ∀ (j : Nat) (b : Att), l[j]? = some b → ¬ b.s > z.s := fun j b hb => hm0 j b (by have := (List.getElem?_eq_some_iff.1 hb).1; omega) hb
     have hJ := jd_rest2 (p := p) hn1 hm1
     refine q_ <| qr_ [0, 1, 2, 3] <| kk 2 <| ppq (iN l.length) (lsl h97 underlying32) <| pP (dtF ((k : Int) < (l.length : Int))) <| en_ <| sy_exit 2 (by kernel_rfl) <| then_e <| then_e <| blk_e <| tq_ <| qr_ [0, 1, 2, 3] <| kk 1 <| ppq (iN l.length) (lsl h97 underlying32) <| pP (cwI (x := (l.length : Int) - 1)) <| kk 1 <| et_ <| bl_ 4 ?_
     refine sy_loop (qc118_1 500) (fun a V => ∃ (n : Nat), (Fr 95 [(0, pT q 0), (3, pT ga 0), (4, pT res 0), (5, vl), (8, iI ((n : Int) - 1))] [] a) ∧ (n ≤ l.length) ∧ (∀ (j : Nat) (b : Att), n ≤ j → l[j]? = some b → surr b z = false) ∧ (HP V q (rdC p h va vb) 113) ∧ (HP V ga (Att.c z) 28) ∧ (HP V res (vdC 0 attZ proZ 0) 57) ∧ (AttsAt V vl l) ∧ (Keeps Nob w V)) (fun a _ => (intOf (a.tmps.getD 8 undef) + 1).toNat) (by kernel_rfl) ?_ ?_
     ·exact ⟨l.length, fq, Nat.le_refl _, (fun j b hj hb => by have := (List.getElem?_eq_some_iff.1 hb).1; omega), h94, h95, h96, h97, K98⟩
     ·rintro a V203 ⟨n, hfr, hn, hs0, h204, h205, h206, h207, K208⟩
      obtain ⟨uu209, rfl⟩ := Fr.open hfr
      rcases jb_cases (a := z) n hn with ⟨m, x, hm, hx, hsu⟩ | ⟨m, x, hm, hx, hsu⟩ | hz0
      ·skip
       have hxo := okl x (List.mem_of_getElem? hx)
       obtain ⟨b_x, o_x, c_x, hv_x, hb_x, _⟩ := (h207).at_ m _ hx
       have hfin := jd_four hJ hx hsu (fun j b hj hb => hs0 j b (by omega) hb)
       obtain ⟨y, hy⟩ : ∃ y, (⟨4, x, zPro, (p.first (max z.t x.t)).1⟩ : Vd) = y := ⟨_, rfl⟩
       rw [hy] at hfin
       have hyo : VdOk y := hy ▸ ⟨hxo.r, zPro_r⟩
       refine q_ <| qr_ [0, 1] <| kk 1 <| pP (dtT (((((n : Int) - 1)) : Int) ≥ ((0) : Int))) <| ey_ <| s_ <| tq_ <| bl_ 5 <| q_ <| anp 6 (fun W => (AttsAt W vl l) ∧ (HP W ga (Att.c z) 28)) fun V210 j210 => ?_
       have ⟨h211, h212, h213⟩ := j210.k3 h204 h205 h206
       have h214 := h207.keepsN j210
       have K215 := K208.nn j210
       refine kA [0] <| aV 1 (iN m) (fun W hS => exec_cast (congrArg (Value.int .i64) (show (n : Int) - 1 = (m : Int) by omega)) (by kernel_rfl)) <| aV 2 _ (fun W hS => ixh hv_x m 36 underlying32) <| aV 3 (.agg (Att.c x)) (fun W hS => ldm (Sl.range hS.1 hx hv_x) underlying28 (Att.cl_len hxo)) <| aV 4 _ (fun W hS => ldz 28 ga hS.2 (Att.c_size _ hr_z)) <| an_o 5 <| ncs (rsur_is x z true _ hxo hz hsu) fun V216 j216 => ?_
       have ⟨h217, h218, h219⟩ := j216.k3 h211 h212 h213
       have h220 := h214.keepsN j216
       have K221 := K215.nn j216
       refine ⟨⟨h220, h218⟩, ?_⟩
       refine ane <| then_n <| y_ <| q_ <| anp 8 (fun W => (AttsAt W vl l) ∧ (HP W ga (Att.c z) 28)) fun V222 j222 => ?_
       have ⟨h223, h224, h225⟩ := j222.k3 h217 h218 h219
       have h226 := h220.keepsN j222
       have K227 := K221.nn j222
       refine kA [0] <| aV 1 _ (fun W hS => ldz 28 ga hS.2 (Att.c_size _ hr_z)) <| kA [2] <| aV 3 (iN m) (fun W hS => exec_cast (congrArg (Value.int .i64) (show (n : Int) - 1 = (m : Int) by omega)) (by kernel_rfl)) <| aV 4 _ (fun W hS => ixh hv_x m 36 underlying32) <| aV 5 (.agg (Att.c x)) (fun W hS => ldm (Sl.range hS.1 hx hv_x) underlying28 (Att.cl_len hxo)) <| an_o 6 <| ncr 140 #[pT q 0, iI 4, .agg (Att.c z), .agg (Att.c x)] func140 (rdoffence_ok q p inv.ok.1 h va vb _ z x y hy _ h223 hz hxo) fun V228 j228 => ?_
       have ⟨h230, h231⟩ := j228.k2 h224 h225
       have h232 := h226.keepsN j228
       have K233 := K227.nn j228
       refine ⟨⟨h232, h230⟩, ?_⟩
       refine an_o 7 <| nst 57 res (Vd.c y) h231 (by rw [Vd.c_size hyo]; kernel_rfl) (vd_sizes (Vd.c_size hyo) (by kernel_rfl)) Vd.c_one fun V234 h235 j234 => ?_
       have h237 := j234.bO h230
       have h238 : AttsAt V234 vl l := Sl.keeps h232 j234 (fun j hj _ e => by have q1 := hnV15 j hj; have q2 : j = res := e; omega)
       have K239 := K233.nO j234
       refine ⟨⟨h238, h237⟩, ?_⟩
       refine ane <| then_n <| u_ <| blk_r <| then_r <| then_r <| blk_r <| then_r <| sor 57 res h235 underlying57 (by rw [Vd.c_size hyo]; kernel_rfl) ?_
       exact ⟨by rw [hl, hfin], K239⟩
      ·skip
       have hxo := okl x (List.mem_of_getElem? hx)
       obtain ⟨b_x, o_x, c_x, hv_x, hb_x, _⟩ := (h207).at_ m _ hx
       refine q_ <| qr_ [0, 1] <| kk 1 <| pP (dtT (((((n : Int) - 1)) : Int) ≥ ((0) : Int))) <| ey_ <| s_ <| tq_ <| bl_ 5 <| q_ <| anp 6 (fun W => (AttsAt W vl l) ∧ (HP W ga (Att.c z) 28)) fun V240 j240 => ?_
       have ⟨h241, h242, h243⟩ := j240.k3 h204 h205 h206
       have h244 := h207.keepsN j240
       have K245 := K208.nn j240
       refine kA [0] <| aV 1 (iN m) (fun W hS => exec_cast (congrArg (Value.int .i64) (show (n : Int) - 1 = (m : Int) by omega)) (by kernel_rfl)) <| aV 2 _ (fun W hS => ixh hv_x m 36 underlying32) <| aV 3 (.agg (Att.c x)) (fun W hS => ldm (Sl.range hS.1 hx hv_x) underlying28 (Att.cl_len hxo)) <| aV 4 _ (fun W hS => ldz 28 ga hS.2 (Att.c_size _ hr_z)) <| an_o 5 <| ncs (rsur_is x z false _ hxo hz hsu) fun V246 j246 => ?_
       have ⟨h247, h248, h249⟩ := j246.k3 h241 h242 h243
       have h250 := h244.keepsN j246
       have K251 := K245.nn j246
       refine ⟨⟨h250, h248⟩, ?_⟩
       refine ane <| then_n <| n_ <| s_ <| blk_n <| tr_ [0, 1, 2] <| kk 1 <| ppq (iI ((m : Int) - 1)) (exec_cast (congrArg (Value.int .i64) (wrapI ((n : Int) - 1 - 1) ((m : Int) - 1) (by omega) (by omega) (by omega))) (by kernel_rfl)) <| kk 1 <| et_ ?_
       refine ⟨⟨m, fq, by omega, (fun j b hj hb => by by_cases e : j = m; subst e; rw [hx] at hb; cases hb; exact hsu; exact hs0 j b (by omega) hb), h247, h248, h249, h250, K251⟩, ?_⟩
       exact ltm (((m : Int) - 1 + 1).toNat) (((n : Int) - 1 + 1).toNat)
      ·have hfin := jd_none hJ (fun j b hb => hs0 j b (by omega) hb)
       refine q_ <| qr_ [0, 1] <| kk 1 <| pP (dtF (((((n : Int) - 1)) : Int) ≥ ((0) : Int))) <| en_ <| sy_exit 4 (by kernel_rfl) <| then_e <| then_e <| blk_e <| tqr_ [0, 1] <| kk 1 <| pst 57 res (vdC 0 attZ proZ 0) h206 (by kernel_rfl) (vd_sizes (by kernel_rfl) (by kernel_rfl)) (by kernel_rfl) fun V252 h253 j252 => ?_
       have K257 := K208.nO j252
       refine eu_ <| sor 57 res h253 underlying57 (by kernel_rfl) ?_
       exact ⟨by rw [hl, hfin] <;> kernel_rfl, K257⟩
def Nc (v : Value) (n : Nat) : Prop := ∀ g cap, v = sS g n cap → 0 < n ∨ cap = 0
theorem Nc.pos {v : Value} {n : Nat} (h : 0 < n) : Nc v n := fun _ _ _ => .inl h
def Ones (w w' : World) (T : TypeId) (n : Nat) : Prop := ∀ (j : Nat) (cs : Array Value), cs.size = n → w.heap[j]? = some (.cells cs T (0, 0)) → w'.heap[j]? = some (.cells cs T (0, 0))
section
variable {w W W' : World} {T : TypeId} {n : Nat}
theorem Ones.refl : Ones w w T n := fun _ _ _ h => h
theorem Ones.nn (h : Ones w W T n) (k : Keeps Nob W W') : Ones w W' T n := fun j cs hs hj => k.bk (h j cs hs hj)
theorem Ones.one {g : Nat} {c : Array Value} {U : TypeId} {fr : Nat × Nat} (h : Ones w W T n) (hg : W.heap[g]? = some (.cells c U fr)) (hne : U ≠ T) (k : Keeps (One g) W W') : Ones w W' T n := fun j cs hs hj => k.odd (Odd.one hg hne) (h j cs hs hj)
theorem Ones.then (h : Ones w W T n) (h' : Ones W W' T n) : Ones w W' T n := fun j cs hs hj => h' j cs hs (h j cs hs hj)
end
theorem append_ones2 {P : Program} {w w' : World} (t ty e : TypeId) (i : TypeInfo) (z : Value) (size bytes : Nat) (ht : P.underlying t = some (.slice e)) (hi : P.info? e = some i) (hz : i.zero = some z)
    (hsize : i.size = size) (hby : i.bytes = bytes) (hzs : z.cells.size = size) (hsz : 0 < size)
    (v : Value) (n : Nat) (xs : List Value) (hown : Row w e size v n xs) (x : Value) (m : Nat) (news : List Value) (hsrc : Go.Own.SrcO w size x m news) (hm : 0 < m)
    (h63 : n + m ≤ maxLen) (hbytes : (n + m) * bytes ≤ 140737488355328) (hn : Nc v n) {v' : Value} (hr : (Builtin.append_ #[t, t] ty #[v, x]).run P w = .ok v' w') (hg : w.grownBy w' v.ownBlock) : Ones w w' e size := by
  intro j cs hcs hj
  subst hsize; subst hby
  by_cases hjv : v.ownBlock = some j
  · obtain ⟨hl, h1, ⟨_, h0⟩ | ⟨ad, c, rfl, hc⟩⟩ := hsrc
    · omega
    · rcases hown.2 with ⟨rfl, _⟩ | ⟨g, cap, cur, rfl, hbg, hgc, hnc, hcm, hcs2, htake⟩
      · cases hjv
      · have hjg : j = g := by simpa [Value.ownBlock] using hjv.symm
        subst hjg
        rw [hgc] at hj
        simp only [Option.some.injEq, Obj.cells.injEq, and_true] at hj
        subst hj
        have hcap : cap = 1 := Nat.eq_of_mul_eq_mul_right hsz (by rw [← hcs2, hcs, Nat.one_mul])
        have hn1 : 0 < n := (hn _ _ rfl).elim id fun e => by omega
        have holds : ∀ k u, xs[k]? = some u → w.cell? ((⟨j, 0, none⟩ : Addr).add k) = some u := World.ownsRow.cells hown (g := j) rfl
        have hr2 := run_append_grow (P := P) w t ty e i z ht hi hz ⟨j, 0, none⟩ n cap xs hown.1 holds ad m c news hl hc (by omega) (by simp only [maxLen] at h63; omega) (growslice_fits (by omega) hbytes)
        have e1 := hr.symm.trans hr2
        simp only [Result.ok.injEq] at e1
        rw [e1.2]
        exact (Below.heap_alloc w _ j (lt_of_block hgc)).trans hgc
  · exact (hg.block j (lt_of_block hj) (fun e => hjv e.symm)).trans hj
theorem append_nc {P : Program} {w w' : World} {t ty e : TypeId} {i : TypeInfo} {size g : Nat} (ht : P.underlying t = some (.slice e)) (hi : P.info? e = some i) (hsize : i.size = size) {x : Value} {m : Nat} {news : List Value} (hsrc : Go.Own.SrcO w size x m news)
    {v' : Value} (hr : (Builtin.append_ #[t, t] ty #[sS g 0 0, x]).run P w = .ok v' w') : Nc v' m := by
  intro g' cap e'
  by_cases h0 : 0 < m
  · exact .inl h0
  · obtain rfl : m = 0 := by omega
    refine .inr ?_
    obtain ⟨hl, h1, hc⟩ := hsrc
    have hn : news = [] := List.eq_nil_of_length_eq_zero (by simpa using hl)
    subst hn
    have hx : (Builtin.append_ #[t, t] ty #[sS g 0 0, x]).run P w = .ok (sS g 0 0) w := by
      rcases hc with ⟨rfl, _⟩ | ⟨ad, c, rfl, _⟩
      · exact run_append_nothing w t t ty e i ht hi _ 0 0 (Nat.le_refl _) _ (Go.Src.ofNil w ht 0)
      · exact run_append_nothing w t t ty e i ht hi _ 0 0 (Nat.le_refl _) _ (Go.Src.ofSlice w ht ad 0 c [] (by simp) (fun _ _ h => by simp at h) (fun _ h => by cases h))
    have e1 := hr.symm.trans hx
    simp only [Result.ok.injEq] at e1
    rw [e1.1] at e'
    simp only [Value.slice.injEq] at e'
    exact e'.2.2.symm
section
variable {w w' : World} {M : Nat → Prop}
theorem RecAt.ones {r : Nat} {v : Int} {A : RD Att} {B : RD Pro} (h : RecAt w r v A B) (k : Keeps M w w') (h1 : Odd w M 122) (h2 : Odd w M 184) (h3 : Odd w M 185) (h5 : Odd w M 192) (h6 : Odd w M 168) (ha : Ones w w' 28 36) (hb : Ones w w' 37 35) : RecAt w' r v A B := by
  have sa : ∀ p a, (∀ x, a = some x → x.Ok) → SlotOk w 28 Att.c p a → SlotOk w' 28 Att.c p a := fun p a hx hs => by
    cases p <;> cases a <;> first | exact hs | exact ha _ _ (Att.c_size _ (hx _ rfl).r) hs
  have sb : ∀ p a, (∀ x, a = some x → x.Ok) → SlotOk w 37 Pro.c p a → SlotOk w' 37 Pro.c p a := fun p a hx hs => by
    cases p <;> cases a <;> first | exact hs | exact hb _ _ (Pro.c_size _ (hx _ rfl).r) hs
  exact ⟨k.odd h1 h.rec_, ⟨k.odd h2 h.a.ring, k.odd h3 h.a.slots, h.a.n1, h.a.n2, h.a.l2, h.a.out, fun i q1 q2 => sa _ _ (fun x hx => (h.a.out i x hx).2.2.2) (h.a.at_ i q1 q2)⟩,
    ⟨k.odd h5 h.b.ring, k.odd h6 h.b.slots, h.b.n1, h.b.n2, h.b.l2, h.b.out, fun i q1 q2 => sb _ _ (fun x hx => (h.b.out i x hx).2.2.2) (h.b.at_ i q1 q2)⟩⟩
structure Strange (w : World) (M : Nat → Prop) : Prop where
  d : Odd w M 79
  p : Odd w M 85
  s : Odd w M 161
  r : Odd w M 122
  a : Odd w M 184
  b : Odd w M 185
  c : Odd w M 192
  e : Odd w M 168
theorem PartAt.ones {x : PD} {v W E : Int} {view : Int → Option Int × Option Int} (h : PartAt w x v W E view) (k : Keeps M w w') (o : Strange w M) (h2 : ∀ j, x.FP j → ¬ M j) (ha : Ones w w' 28 36) (hb : Ones w w' 37 35) : PartAt w' x v W E view :=
  ⟨k.odd o.p h.blk, h.span.of_keeps k (fun e => by obtain ⟨cs, hc⟩ := SpanView.blk h.span; exact o.s _ _ _ e hc) h2 (fun _ h => h) h.span.nb (fun j hj => Nat.lt_of_lt_of_le (h.span.fp j hj) k.size), RecAt.ones h.rec_ k o.r o.a o.b o.c o.e ha hb⟩
theorem DetP.ones {d : Nat} {p : Par} {h : Int} {g : Nat → Int} {A : List Att} {Q : List Pro} {P : Nat → Option PD} {who : Nat → Nat} (s : DetP w d p h g A Q P who) (k : Keeps M w w') (o : Strange w M) (h2 : ∀ j, DR P j → ¬ M j) (ha : Ones w w' 28 36) (hb : Ones w w' 37 35) : DetP w' d p h g A Q P who :=
  ⟨k.odd o.d s.blk, fun v x hv hx => by
    obtain ⟨a, b, c⟩ := s.part v x hv hx
    exact ⟨PartAt.ones a k o (fun j hj => h2 j ⟨v, x, hv, hx, hj⟩) ha hb, b, c⟩, s.none_, s.who0, s.who1, s.who2⟩
end
end
end Go.Proofs.YthmclmbeflbhhaaGreat
end
