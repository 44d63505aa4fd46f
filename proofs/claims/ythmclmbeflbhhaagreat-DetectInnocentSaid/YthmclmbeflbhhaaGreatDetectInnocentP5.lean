import Derived.Test.YthmclmbeflbhhaaGreatDetectInnocentP4
set_option maxRecDepth 100000
set_option maxHeartbeats 4000000
namespace Go.Proofs.YthmclmbeflbhhaaGreat
section
open Go Go.RowKit Go.Own Go.Shelf
noncomputable def qc96_0 (n : Nat) : Code := partOf Tryz.f85 n
theorem dsame_ok (a b : Att) (w : World) (ha : a.Ok) (hb : b.Ok) :
  Calls Tryz.prog 85 #[.agg (Att.c a), .agg (Att.c b)] w (fun e w' => e = .returned (.bool (a.dg == b.dg)) ∧ Keeps Nob w w') := by
 have hr_a := ha.r
 have hr_b := hb.r
 have K0 : Keeps Nob w w := Keeps.refl _ _
 refine se_ (qc96_0 1) ⟨fr [.agg (Att.c a), .agg (Att.c b)] 20, []⟩ Tryz.func85 <| qr_ [0, 1, 2] <| pbx 28 ((Att.c a)) (.agg (Att.c a)) fun V1 ga ega h2 kV1 => ?_
 have n3 := nk ega K0
 have K4 := K0.nn kV1
 have z5 := kV1.size
 refine pbx 28 ((Att.c b)) (.agg (Att.c b)) fun V6 gb egb h7 kV6 => ?_
 have n8 := nl egb h2
 have n9 := nk egb K4
 have ⟨K11, z12, h10⟩ := kV6.z1 K4 h2
 refine kk 1 <| eqr_ nl8_ <| ppq _ (ldr 28 ga (h10) (by rw [Att.c_size _ hr_a]; kernel_rfl)) ?_
 refine pcr 102 #[.agg (Att.c a)] Tryz.func102 (vDigest_any a _ ha) fun V13 kV13 => ?_
 have ⟨K16, z17, h14, h15⟩ := kV13.z2 K11 h10 h7
 refine kk 3 <| pal 25 (zr_u8_32) (.agg (zr_u8_32)) fun V18 gx egx h19 kV18 => ?_
 have n20 := nl egx h14
 have n21 := nl egx h15
 have n22 := nk egx K16
 have ⟨K25, z26, h23, h24⟩ := kV18.z2 K16 h14 h15
 refine pst 25 gx ((B a.dg).toArray) h19 (by rw [Bz_size, Att.dg_len]; kernel_rfl) (by rw [Bz_size, Att.dg_len]; rfl) (by rw [List.all_toArray]; exact List.all_eq_true.2 (B_one _)) fun V27 h28 kV27 => ?_
 have ⟨K31, z32, h29, h30⟩ := kV27.zo2 K25 h23 h24
 refine kk 1 <| eqr_ nl8_ <| ppq _ (ldr 28 gb (h30) (by rw [Att.c_size _ hr_b]; kernel_rfl)) ?_
 refine pcr 102 #[.agg (Att.c b)] Tryz.func102 (vDigest_any b _ hb) fun V33 kV33 => ?_
 have ⟨K37, z38, h34, h35, h36⟩ := kV33.z3 K31 h29 h30 h28
 refine kk 3 <| pal 25 (zr_u8_32) (.agg (zr_u8_32)) fun V39 gy egy h40 kV39 => ?_
 have n41 := nl egy h34
 have n42 := nl egy h35
 have n43 := nl egy h36
 have n44 := nk egy K37
 have ⟨K48, z49, h47⟩ := kV39.z1 K37 h36
 refine pst 25 gy ((B b.dg).toArray) h40 (by rw [Bz_size, Att.dg_len]; kernel_rfl) (by rw [Bz_size, Att.dg_len]; rfl) (by rw [List.all_toArray]; exact List.all_eq_true.2 (B_one _)) fun V50 h51 kV50 => ?_
 have ⟨K55, z56, h54⟩ := kV50.zo1 K48 h47
 refine kk 1 <| eqr_ [0, 1, 2, 3] <| ppq _ (ldr 25 gx (h54) (by rw [Bz_size, (Att.dg_len a)]; kernel_rfl)) <| ppq _ (ldr 25 gy (h51) (by rw [Bz_size, (Att.dg_len b)]; kernel_rfl)) <| ppq (.bool (a.dg == b.dg)) (exec_binop .eql 25 25 (.tmp 19) (.tmp 20) (by kernel_rfl) (.agg (B a.dg).toArray) (.agg (B b.dg).toArray) _ (by kernel_rfl) (by kernel_rfl) (run_eqGuard_agg _ _ _ _ _ _ _ hash_guard) (hash_eq _ _ (Att.dg_len a) (Att.dg_len b) _)) <| kk 1 <| eu_ <| so_ (.bool (a.dg == b.dg)) ?_
 exact ⟨rfl, K55⟩
end
section
open Go Go.RowKit Go.Own Go.Shelf
theorem qAt_is {r : Nat} {v i : Int} {A : RD Att} {B : RD Pro} {w : World} (H : RecAt w r v A B) {o : Option Att} (ho : A.V i = o) : Calls Tryz.prog 84 #[pT r 0, .int .i64 i] w fun e w' => e = .returned (.tuple #[.agg (Att.c (o.getD zAtt)), .bool o.isSome]) ∧ Keeps Nob w w' := ho ▸ qAt_ok r v A B i w H
theorem zAtt_r : zAtt.r.length = 32 := by kernel_rfl
noncomputable def qc97_0 (n : Nat) : Code := partOf Tryz.f83 n
theorem djudge1_no (gp ga gd d q sp r : Nat) (a : Att) (hr_a : a.r.length = 32) (p : Par) (hp : p.Ok) (h : Int) (P : Nat → Option Nat) (v : Int) (A : RD Att) (B : RD Pro) (w : World) (hgp : HP w gp #[pT q 0] 76) (hq : HP w q #[pT sp 0, pT r 0] 85) (hga : HP w ga (Att.c a) 28) (hgd : HP w gd #[pT d 0] 22) (hd : HP w d (detC p h P) 79) (hR : RecAt w r v A B) (hV : A.V a.t = none) :
  Calls Tryz.prog 83 #[pT gp 0, pT ga 0, pT gd 0] w (fun e w' => e = .returned (.tuple #[.agg (vdC 0 attZ proZ 0), .bool false]) ∧ Keeps Nob w w') := by
 have K0 : Keeps Nob w w := Keeps.refl _ _
 refine se_ (qc97_0 1) ⟨fr [pT gp 0, pT ga 0, pT gd 0] 35, []⟩ Tryz.func83 <| qr_ [0, 1] <| pal 57 (zl0_) (.agg (zl0_)) fun V1 res eres h2 kV1 => ?_
 have n3 := nl eres hgp
 have n4 := nl eres hq
 have n5 := nl eres hga
 have n6 := nl eres hgd
 have n7 := nl eres hd
 have n8 := nk eres K0
 have ⟨K14, z15, h9, h10, h11, h12, h13⟩ := kV1.z5 K0 hgp hq hga hgd hd
 refine kk 1 <| eq_ <| sy_np <| sy_reg <| anb 13 (fun W => (HP W gp (#[pT q 0]) 76) ∧ (HP W q (#[pT sp 0, pT r 0]) 85) ∧ (HP W ga (Att.c a) 28)) zl5_ ?_
 obtain ⟨V16, eV16, kV16⟩ := drew_step V1
 rw [eV16]
 clear eV16
 have ⟨K23, z24, h17, h18, h19, h20, h21, h22⟩ := kV16.z6 K14 h9 h10 h11 h12 h13 h2
 refine avq 0 _ (fun W hS => lk (hS.1)) ⟨h17, h18, h19⟩ <| ka [1, 2] ⟨h17, h18, h19⟩ <| avq 3 _ (fun W hS => lk (hS.2.1)) ⟨h17, h18, h19⟩ <| ka [4] ⟨h17, h18, h19⟩ <| avq 5 _ (fun W hS => lc (hS.2.2) (Att.c_2 _)) ⟨h17, h18, h19⟩ ?_
 refine an_two 6 10 (by kernel_rfl) ?_ ?_
 ·refine ncr 84 #[pT r 0, .int .i64 a.t] Tryz.func84 (qAt_is (hR.keepsN K23) hV) fun V25 kV25 => ?_
  have ⟨K32, z33, h26, h27, h28, h29, h30, h31⟩ := kV25.z6 K23 h17 h18 h19 h20 h21 h22
  refine ⟨⟨h26, h27, h28⟩, ?_⟩
  refine ka [7, 8, 9] ⟨h26, h27, h28⟩ <| an_o 10 <| nal 28 (zl1_) (.agg (zl1_)) fun V34 gb egb h35 kV34 => ?_
  have n36 := nl egb h26
  have n37 := nl egb h27
  have n38 := nl egb h28
  have n39 := nl egb h29
  have n40 := nl egb h30
  have n41 := nl egb h31
  have n42 := nk egb K32
  have ⟨K49, z50, h43, h44, h45, h48⟩ := kV34.z4 K32 h26 h27 h28 h31
  refine ⟨⟨h43, h44, h45⟩, ?_⟩
  refine an_o 11 ?_
  obtain ⟨V51, eV51, kV51⟩ := rowset_step V34 gb ((Att.c zAtt))
  refine nzq (w' := V51) (by rw [← eV51]; exact exec_store_row 28 (.tmp 5) (.tmp 15) (by kernel_rfl) gb ((Att.c zAtt)) (by kernel_rfl) (by kernel_rfl) 28 (zl1_) h35 (by rw [Att.c_size _ zAtt_r]; kernel_rfl) (by rw [Att.c_size _ zAtt_r]; rfl) (Att.c_one _)) ?_
  clear eV51
  have ⟨K59, z60, h53, h54, h55, h58⟩ := kV51.zo4 K49 h43 h44 h45 h48
  refine ⟨⟨h53, h54, h55⟩, ?_⟩
  refine an_o 12 <| nrq (.bool false) (w' := V51) (by kernel_rfl) ?_
  refine ⟨⟨h53, h54, h55⟩, ?_⟩
  refine ane <| tq_ <| bl_ 0 <| qr_ [0, 1, 2] <| kk 3 <| ey_ <| qr_ [0, 1, 2] <| kk 1 <| pst 57 res (zl0_) h58 (by kernel_rfl) rfl (by kernel_rfl) fun V61 h62 kV61 => ?_
  have K69 := K59.nO kV61
  have z70 := kV61.size
  refine kk 1 <| eu_ <| blk_r <| then_r <| sy_out (.tuple #[.agg (zl0_), .bool false]) rfl (rrt 57 res h62 Tryz.underlying57 (by kernel_rfl)) ?_
  exact ⟨by kernel_rfl, K69⟩
 ·refine nal 28 (zl1_) (.agg (zl1_)) fun V71 gb egb h72 kV71 => ?_
  have n73 := nl egb h17
  have n74 := nl egb h18
  have n75 := nl egb h19
  have n76 := nl egb h20
  have n77 := nl egb h21
  have n78 := nl egb h22
  have n79 := nk egb K23
  have ⟨K86, z87, h80, h81, h82, h85⟩ := kV71.z4 K23 h17 h18 h19 h22
  refine ⟨⟨h80, h81, h82⟩, ?_⟩
  refine an_o 6 ?_
  refine ncr 84 #[pT r 0, .int .i64 a.t] Tryz.func84 (qAt_is (hR.keepsN K86) hV) fun V88 kV88 => ?_
  have ⟨K96, z97, h89, h90, h91, h94, h95⟩ := kV88.z5 K86 h80 h81 h82 h85 h72
  refine ⟨⟨h89, h90, h91⟩, ?_⟩
  refine ka [7, 8, 9] ⟨h89, h90, h91⟩ <| an_o 11 ?_
  obtain ⟨V98, eV98, kV98⟩ := rowset_step V88 gb ((Att.c zAtt))
  refine nzq (w' := V98) (by rw [← eV98]; exact exec_store_row 28 (.tmp 5) (.tmp 15) (by kernel_rfl) gb ((Att.c zAtt)) (by kernel_rfl) (by kernel_rfl) 28 (zl1_) h95 (by rw [Att.c_size _ zAtt_r]; kernel_rfl) (by rw [Att.c_size _ zAtt_r]; rfl) (Att.c_one _)) ?_
  clear eV98
  have ⟨K106, z107, h100, h101, h102, h105⟩ := kV98.zo4 K96 h89 h90 h91 h94
  refine ⟨⟨h100, h101, h102⟩, ?_⟩
  refine an_o 12 <| nrq (.bool false) (w' := V98) (by kernel_rfl) ?_
  refine ⟨⟨h100, h101, h102⟩, ?_⟩
  refine ane <| tq_ <| bl_ 0 <| qr_ [0, 1, 2] <| kk 3 <| ey_ <| qr_ [0, 1, 2] <| kk 1 <| pst 57 res (zl0_) h105 (by kernel_rfl) rfl (by kernel_rfl) fun V108 h109 kV108 => ?_
  have K116 := K106.nO kV108
  have z117 := kV108.size
  refine kk 1 <| eu_ <| blk_r <| then_r <| sy_out (.tuple #[.agg (zl0_), .bool false]) rfl (rrt 57 res h109 Tryz.underlying57 (by kernel_rfl)) ?_
  exact ⟨by kernel_rfl, K116⟩
theorem dsame_is (a b : Att) {r : Bool} (w : World) (ha : a.Ok) (hb : b.Ok) (h : (a.dg == b.dg) = r) : Calls Tryz.prog 85 #[.agg (Att.c a), .agg (Att.c b)] w fun e w' => e = .returned (.bool r) ∧ Keeps Nob w w' := by
 subst h; exact dsame_ok a b w ha hb
theorem vdC_one {k f : Int} (b : Att) : (vdC k b.cl proZ f).all (·.oneCell') = true := by
 have h := Att.c_one b
 unfold vdC
 rw [List.all_toArray, List.all_cons, List.all_append, List.all_append]
 have h2 : b.cl.all (·.oneCell') = true := by rw [← Array.all_toList] at h; exact h
 rw [h2]; rfl
theorem djudge1_same (gp ga gd d q sp r : Nat) (a : Att) (hr_a : a.r.length = 32) (p : Par) (hp : p.Ok) (h : Int) (P : Nat → Option Nat) (v : Int) (A : RD Att) (B : RD Pro) (w : World) (hgp : HP w gp #[pT q 0] 76) (hq : HP w q #[pT sp 0, pT r 0] 85) (hga : HP w ga (Att.c a) 28) (hgd : HP w gd #[pT d 0] 22) (hd : HP w d (detC p h P) 79) (hR : RecAt w r v A B) (b : Att) (hV : A.V a.t = some b) (ha : a.Ok) (hb : b.Ok) (hr_b : b.r.length = 32) (hs : (a.dg == b.dg) = true) :
  Calls Tryz.prog 83 #[pT gp 0, pT ga 0, pT gd 0] w (fun e w' => e = .returned (.tuple #[.agg (vdC 1 b.cl proZ 0), .bool true]) ∧ Keeps Nob w w') := by
 have K0 : Keeps Nob w w := Keeps.refl _ _
 refine se_ (qc97_0 1) ⟨fr [pT gp 0, pT ga 0, pT gd 0] 35, []⟩ Tryz.func83 <| qr_ [0, 1] <| pal 57 (zl0_) (.agg (zl0_)) fun V1 res eres h2 kV1 => ?_
 have n3 := nl eres hgp
 have n4 := nl eres hq
 have n5 := nl eres hga
 have n6 := nl eres hgd
 have n7 := nl eres hd
 have n8 := nk eres K0
 have ⟨K14, z15, h9, h10, h11, h12, h13⟩ := kV1.z5 K0 hgp hq hga hgd hd
 refine kk 1 <| eq_ <| sy_np <| sy_reg <| anb 13 (fun W => (HP W gp (#[pT q 0]) 76) ∧ (HP W q (#[pT sp 0, pT r 0]) 85) ∧ (HP W ga (Att.c a) 28)) zl5_ ?_
 obtain ⟨V16, eV16, kV16⟩ := drew_step V1
 rw [eV16]
 clear eV16
 have ⟨K23, z24, h17, h18, h19, h20, h21, h22⟩ := kV16.z6 K14 h9 h10 h11 h12 h13 h2
 refine avq 0 _ (fun W hS => lk (hS.1)) ⟨h17, h18, h19⟩ <| ka [1, 2] ⟨h17, h18, h19⟩ <| avq 3 _ (fun W hS => lk (hS.2.1)) ⟨h17, h18, h19⟩ <| ka [4] ⟨h17, h18, h19⟩ <| avq 5 _ (fun W hS => lc (hS.2.2) (Att.c_2 _)) ⟨h17, h18, h19⟩ ?_
 refine an_two 6 10 (by kernel_rfl) ?_ ?_
 ·refine ncr 84 #[pT r 0, .int .i64 a.t] Tryz.func84 (qAt_is (hR.keepsN K23) hV) fun V25 kV25 => ?_
  have ⟨K32, z33, h26, h27, h28, h29, h30, h31⟩ := kV25.z6 K23 h17 h18 h19 h20 h21 h22
  refine ⟨⟨h26, h27, h28⟩, ?_⟩
  refine ka [7, 8, 9] ⟨h26, h27, h28⟩ <| an_o 10 <| nal 28 (zl1_) (.agg (zl1_)) fun V34 gb egb h35 kV34 => ?_
  have n36 := nl egb h26
  have n37 := nl egb h27
  have n38 := nl egb h28
  have n39 := nl egb h29
  have n40 := nl egb h30
  have n41 := nl egb h31
  have n42 := nk egb K32
  have ⟨K49, z50, h43, h44, h45, h46, h47, h48⟩ := kV34.z6 K32 h26 h27 h28 h29 h30 h31
  refine ⟨⟨h43, h44, h45⟩, ?_⟩
  refine an_o 11 <| nst 28 gb ((Att.c b)) h35 (by rw [Att.c_size _ hr_b]; kernel_rfl) (by rw [Att.c_size _ hr_b]; rfl) (Att.c_one _) fun V51 h52 kV51 => ?_
  have ⟨K59, z60, h53, h54, h55, h56, h57, h58⟩ := kV51.zo6 K49 h43 h44 h45 h46 h47 h48
  refine ⟨⟨h53, h54, h55⟩, ?_⟩
  refine an_o 12 <| nrq (.bool true) (w' := V51) (by kernel_rfl) ?_
  refine ⟨⟨h53, h54, h55⟩, ?_⟩
  refine ane <| tq_ <| bl_ 0 <| qr_ [0, 1, 2] <| kk 3 <| en_ <| qr_ [0, 1, 2, 3] <| ppq _ (ldr 28 ga (h55) (by rw [Att.c_size _ hr_a]; kernel_rfl)) <| ppq _ (ldr 28 gb (h52) (by rw [Att.c_size _ hr_b]; kernel_rfl)) ?_
  refine pcr 85 #[.agg (Att.c a), .agg (Att.c b)] Tryz.func85 (dsame_is a b _ ha hb hs) fun V61 kV61 => ?_
  have ⟨K69, z70, h62, h63, h64, h65, h66, h67, h68⟩ := kV61.z7 K59 h53 h54 h55 h56 h57 h58 h52
  refine kk 1 <| ey_ <| qr_ nl6_ <| ppq _ (ldr 28 gb (h68) (by rw [Att.c_size _ hr_b]; kernel_rfl)) ?_
  refine pcq 86 #[.agg (Att.c b)] Tryz.func86 ((dby_ok b _).mono ?_)
  rintro e V71 ⟨gy, rfl, hgyV71, nyV71, kV71⟩
  refine ⟨_, rfl, ?_⟩
  have ⟨K79, z80, h72, h73, h74, h75, h76, h77, h78⟩ := kV71.z7 K69 h62 h63 h64 h65 h66 h67 h68
  obtain ⟨V81, eV81, go1, ego1, h82, kV81⟩ := alloc_step V71 (#[.func (.func 120) #[] #[pT gy 0]]) 144
  have n83 := nl ego1 h72
  have n84 := nl ego1 h73
  have n85 := nl ego1 h74
  have n86 := nl ego1 h75
  have n87 := nl ego1 h76
  have n88 := nl ego1 h77
  have n89 := nl ego1 h78
  have n90 := nl ego1 hgyV71
  have n91 := nk ego1 K79
  refine prq (.slice (some ⟨go1, 0, none⟩) 1 1) (w' := V81) (by rw [← eV81, ← ego1]; kernel_rfl) ?_
  have ⟨K100, z101, h97, h99⟩ := kV81.z2 K79 h77 hgyV71
  refine pcr 56 #[.int .i64 1, .slice (some ⟨go1, 0, none⟩) 1 1] Tryz.func56 (dverdict_one 1 120 (pT gy 0) b.cl proZ 0 (Att.tl hr_b) proZ_len (vdC_one b) go1 _ h82 (enters_of Tryz.func120 (by kernel_rfl) rfl) (fun bv W hbv k hb => dby1_ok bv gy 1 0 attZ proZ attZ_len proZ_len b hr_b (by have := lt_of_block h99; omega) W (k.bk h99) hb)) fun V102 kV102 => ?_
  have ⟨K112, z113, h108⟩ := kV102.z1 K100 h97
  refine pst 57 res ((vdC 1 b.cl proZ 0)) h108 (by rw [vdC_size (Att.tl hr_b) proZ_len]; kernel_rfl) (by rw [vdC_size (Att.tl hr_b) proZ_len]; rfl) (vdC_one b) fun V114 h115 kV114 => ?_
  have K124 := K112.nO kV114
  have z125 := kV114.size
  refine kk 1 <| ps_end <| then_n <| u_ <| blk_r <| then_r <| sy_out (.tuple #[.agg (vdC 1 b.cl proZ 0), .bool true]) rfl (rrt 57 res h115 Tryz.underlying57 (by rw [vdC_size (Att.tl hr_b) proZ_len]; kernel_rfl)) ?_
  exact ⟨rfl, K124⟩
 ·refine nal 28 (zl1_) (.agg (zl1_)) fun V126 gb egb h127 kV126 => ?_
  have n128 := nl egb h17
  have n129 := nl egb h18
  have n130 := nl egb h19
  have n131 := nl egb h20
  have n132 := nl egb h21
  have n133 := nl egb h22
  have n134 := nk egb K23
  have ⟨K141, z142, h135, h136, h137, h138, h139, h140⟩ := kV126.z6 K23 h17 h18 h19 h20 h21 h22
  refine ⟨⟨h135, h136, h137⟩, ?_⟩
  refine an_o 6 ?_
  refine ncr 84 #[pT r 0, .int .i64 a.t] Tryz.func84 (qAt_is (hR.keepsN K141) hV) fun V143 kV143 => ?_
  have ⟨K151, z152, h144, h145, h146, h147, h148, h149, h150⟩ := kV143.z7 K141 h135 h136 h137 h138 h139 h140 h127
  refine ⟨⟨h144, h145, h146⟩, ?_⟩
  refine ka [7, 8, 9] ⟨h144, h145, h146⟩ <| an_o 11 <| nst 28 gb ((Att.c b)) h150 (by rw [Att.c_size _ hr_b]; kernel_rfl) (by rw [Att.c_size _ hr_b]; rfl) (Att.c_one _) fun V153 h154 kV153 => ?_
  have ⟨K161, z162, h155, h156, h157, h158, h159, h160⟩ := kV153.zo6 K151 h144 h145 h146 h147 h148 h149
  refine ⟨⟨h155, h156, h157⟩, ?_⟩
  refine an_o 12 <| nrq (.bool true) (w' := V153) (by kernel_rfl) ?_
  refine ⟨⟨h155, h156, h157⟩, ?_⟩
  refine ane <| tq_ <| bl_ 0 <| qr_ [0, 1, 2] <| kk 3 <| en_ <| qr_ [0, 1, 2, 3] <| ppq _ (ldr 28 ga (h157) (by rw [Att.c_size _ hr_a]; kernel_rfl)) <| ppq _ (ldr 28 gb (h154) (by rw [Att.c_size _ hr_b]; kernel_rfl)) ?_
  refine pcr 85 #[.agg (Att.c a), .agg (Att.c b)] Tryz.func85 (dsame_is a b _ ha hb hs) fun V163 kV163 => ?_
  have ⟨K171, z172, h164, h165, h166, h167, h168, h169, h170⟩ := kV163.z7 K161 h155 h156 h157 h158 h159 h160 h154
  refine kk 1 <| ey_ <| qr_ nl6_ <| ppq _ (ldr 28 gb (h170) (by rw [Att.c_size _ hr_b]; kernel_rfl)) ?_
  refine pcq 86 #[.agg (Att.c b)] Tryz.func86 ((dby_ok b _).mono ?_)
  rintro e V173 ⟨gy, rfl, hgyV173, nyV173, kV173⟩
  refine ⟨_, rfl, ?_⟩
  have ⟨K181, z182, h174, h175, h176, h177, h178, h179, h180⟩ := kV173.z7 K171 h164 h165 h166 h167 h168 h169 h170
  obtain ⟨V183, eV183, go1, ego1, h184, kV183⟩ := alloc_step V173 (#[.func (.func 120) #[] #[pT gy 0]]) 144
  have n185 := nl ego1 h174
  have n186 := nl ego1 h175
  have n187 := nl ego1 h176
  have n188 := nl ego1 h177
  have n189 := nl ego1 h178
  have n190 := nl ego1 h179
  have n191 := nl ego1 h180
  have n192 := nl ego1 hgyV173
  have n193 := nk ego1 K181
  refine prq (.slice (some ⟨go1, 0, none⟩) 1 1) (w' := V183) (by rw [← eV183, ← ego1]; kernel_rfl) ?_
  have ⟨K202, z203, h199, h201⟩ := kV183.z2 K181 h179 hgyV173
  refine pcr 56 #[.int .i64 1, .slice (some ⟨go1, 0, none⟩) 1 1] Tryz.func56 (dverdict_one 1 120 (pT gy 0) b.cl proZ 0 (Att.tl hr_b) proZ_len (vdC_one b) go1 _ h184 (enters_of Tryz.func120 (by kernel_rfl) rfl) (fun bv W hbv k hb => dby1_ok bv gy 1 0 attZ proZ attZ_len proZ_len b hr_b (by have := lt_of_block h201; omega) W (k.bk h201) hb)) fun V204 kV204 => ?_
  have ⟨K214, z215, h210⟩ := kV204.z1 K202 h199
  refine pst 57 res ((vdC 1 b.cl proZ 0)) h210 (by rw [vdC_size (Att.tl hr_b) proZ_len]; kernel_rfl) (by rw [vdC_size (Att.tl hr_b) proZ_len]; rfl) (vdC_one b) fun V216 h217 kV216 => ?_
  have K226 := K214.nO kV216
  have z227 := kV216.size
  refine kk 1 <| ps_end <| then_n <| u_ <| blk_r <| then_r <| sy_out (.tuple #[.agg (vdC 1 b.cl proZ 0), .bool true]) rfl (rrt 57 res h217 Tryz.underlying57 (by rw [vdC_size (Att.tl hr_b) proZ_len]; kernel_rfl)) ?_
  exact ⟨rfl, K226⟩
theorem djudge1_other (gp ga gd d q sp r : Nat) (a : Att) (hr_a : a.r.length = 32) (p : Par) (hp : p.Ok) (h : Int) (P : Nat → Option Nat) (v : Int) (A : RD Att) (B : RD Pro) (w : World) (hgp : HP w gp #[pT q 0] 76) (hq : HP w q #[pT sp 0, pT r 0] 85) (hga : HP w ga (Att.c a) 28) (hgd : HP w gd #[pT d 0] 22) (hd : HP w d (detC p h P) 79) (hR : RecAt w r v A B) (b : Att) (hV : A.V a.t = some b) (ha : a.Ok) (hb : b.Ok) (hr_b : b.r.length = 32) (hs : (a.dg == b.dg) = false) (hmx : i64ok (max 0 a.t)) :
  Calls Tryz.prog 83 #[pT gp 0, pT ga 0, pT gd 0] w (fun e w' => e = .returned (.tuple #[.agg (vdC 2 b.cl proZ (p.first (max 0 a.t)).1), .bool true]) ∧ Keeps Nob w w') := by
 have K0 : Keeps Nob w w := Keeps.refl _ _
 refine se_ (qc97_0 1) ⟨fr [pT gp 0, pT ga 0, pT gd 0] 35, []⟩ Tryz.func83 <| qr_ [0, 1] <| pal 57 (zl0_) (.agg (zl0_)) fun V1 res eres h2 kV1 => ?_
 have n3 := nl eres hgp
 have n4 := nl eres hq
 have n5 := nl eres hga
 have n6 := nl eres hgd
 have n7 := nl eres hd
 have n8 := nk eres K0
 have ⟨K14, z15, h9, h10, h11, h12, h13⟩ := kV1.z5 K0 hgp hq hga hgd hd
 refine kk 1 <| eq_ <| sy_np <| sy_reg <| anb 13 (fun W => (HP W gp (#[pT q 0]) 76) ∧ (HP W q (#[pT sp 0, pT r 0]) 85) ∧ (HP W ga (Att.c a) 28)) zl5_ ?_
 obtain ⟨V16, eV16, kV16⟩ := drew_step V1
 rw [eV16]
 clear eV16
 have ⟨K23, z24, h17, h18, h19, h20, h21, h22⟩ := kV16.z6 K14 h9 h10 h11 h12 h13 h2
 refine avq 0 _ (fun W hS => lk (hS.1)) ⟨h17, h18, h19⟩ <| ka [1, 2] ⟨h17, h18, h19⟩ <| avq 3 _ (fun W hS => lk (hS.2.1)) ⟨h17, h18, h19⟩ <| ka [4] ⟨h17, h18, h19⟩ <| avq 5 _ (fun W hS => lc (hS.2.2) (Att.c_2 _)) ⟨h17, h18, h19⟩ ?_
 refine an_two 6 10 (by kernel_rfl) ?_ ?_
 ·refine ncr 84 #[pT r 0, .int .i64 a.t] Tryz.func84 (qAt_is (hR.keepsN K23) hV) fun V25 kV25 => ?_
  have ⟨K32, z33, h26, h27, h28, h29, h30, h31⟩ := kV25.z6 K23 h17 h18 h19 h20 h21 h22
  refine ⟨⟨h26, h27, h28⟩, ?_⟩
  refine ka [7, 8, 9] ⟨h26, h27, h28⟩ <| an_o 10 <| nal 28 (zl1_) (.agg (zl1_)) fun V34 gb egb h35 kV34 => ?_
  have n36 := nl egb h26
  have n37 := nl egb h27
  have n38 := nl egb h28
  have n39 := nl egb h29
  have n40 := nl egb h30
  have n41 := nl egb h31
  have n42 := nk egb K32
  have ⟨K49, z50, h43, h44, h45, h46, h47, h48⟩ := kV34.z6 K32 h26 h27 h28 h29 h30 h31
  refine ⟨⟨h43, h44, h45⟩, ?_⟩
  refine an_o 11 <| nst 28 gb ((Att.c b)) h35 (by rw [Att.c_size _ hr_b]; kernel_rfl) (by rw [Att.c_size _ hr_b]; rfl) (Att.c_one _) fun V51 h52 kV51 => ?_
  have ⟨K59, z60, h53, h54, h55, h56, h57, h58⟩ := kV51.zo6 K49 h43 h44 h45 h46 h47 h48
  refine ⟨⟨h53, h54, h55⟩, ?_⟩
  refine an_o 12 <| nrq (.bool true) (w' := V51) (by kernel_rfl) ?_
  refine ⟨⟨h53, h54, h55⟩, ?_⟩
  refine ane <| tq_ <| bl_ 0 <| qr_ [0, 1, 2] <| kk 3 <| en_ <| qr_ [0, 1, 2, 3] <| ppq _ (ldr 28 ga (h55) (by rw [Att.c_size _ hr_a]; kernel_rfl)) <| ppq _ (ldr 28 gb (h52) (by rw [Att.c_size _ hr_b]; kernel_rfl)) ?_
  refine pcr 85 #[.agg (Att.c a), .agg (Att.c b)] Tryz.func85 (dsame_is a b _ ha hb hs) fun V61 kV61 => ?_
  have ⟨K69, z70, h62, h63, h64, h65, h66, h67, h68⟩ := kV61.z7 K59 h53 h54 h55 h56 h57 h58 h52
  refine kk 1 <| en_ <| s_ <| blk_n <| tq_ <| sy_np <| sy_reg <| anb 11 (fun W => (HP W gb (Att.c b) 28) ∧ (HP W gd (#[pT d 0]) 22) ∧ (HP W ga (Att.c a) 28)) zl9_ ?_
  obtain ⟨V71, eV71, kV71⟩ := drew_step V61
  rw [eV71]
  clear eV71
  have ⟨K79, z80, h72, h73, h74, h75, h76, h77, h78⟩ := kV71.z7 K69 h62 h63 h64 h65 h66 h67 h68
  refine avq 0 _ (fun W hS => ldr 28 gb (hS.1) (by rw [Att.c_size _ hr_b]; kernel_rfl)) ⟨h78, h75, h74⟩ <| avq 2 _ (fun W hS => lk (hS.2.1)) ⟨h78, h75, h74⟩ <| ka [3] ⟨h78, h75, h74⟩ <| avq 4 _ (fun W hS => lc (hS.2.2) (Att.c_2 _)) ⟨h78, h75, h74⟩ ?_
  refine an_two 1 5 (by kernel_rfl) ?_ ?_
  ·refine ncq 86 #[.agg (Att.c b)] Tryz.func86 ((dby_ok b _).mono ?_)
   rintro e V81 ⟨gy, rfl, hgyV81, nyV81, kV81⟩
   refine ⟨_, rfl, ?_⟩
   have ⟨K89, z90, h82, h83, h84, h85, h86, h87, h88⟩ := kV81.z7 K79 h72 h73 h74 h75 h76 h77 h78
   refine ⟨⟨h88, h85, h84⟩, ?_⟩
   refine an_o 5 ?_
   obtain ⟨V91, eV91, gl, egl, h92, kV91⟩ := alloc_step V81 (#[.int .i64 a.t]) 3
   have n93 := nl egl h82
   have n94 := nl egl h83
   have n95 := nl egl h84
   have n96 := nl egl h85
   have n97 := nl egl h86
   have n98 := nl egl h87
   have n99 := nl egl h88
   have n100 := nl egl hgyV81
   have n101 := nk egl K89
   refine nrq (.slice (some ⟨gl, 0, none⟩) 1 1) (w' := V91) (by rw [← eV91, ← egl]; kernel_rfl) ?_
   have ⟨K110, z111, h102, h103, h104, h105, h106, h107, h108, h109⟩ := kV91.z8 K89 h82 h83 h84 h85 h86 h87 h88 hgyV81
   refine ⟨⟨h108, h105, h104⟩, ?_⟩
   refine an_o 6 ?_
   refine ncq 87 #[pT d 0, .slice (some ⟨gl, 0, none⟩) 1 1] Tryz.func87 ((dat_ok d gl 1 _).mono ?_)
   rintro e V112 ⟨gs, ge, rfl, hgsV112, hgeV112, nsV112, neV112, kV112⟩
   refine ⟨_, rfl, ?_⟩
   have ⟨K122, z123, h113, h114, h115, h116, h117, h118, h119, h120⟩ := kV112.z8 K110 h102 h103 h104 h105 h106 h107 h108 h109
   have h121 := kV112.bk h92
   refine ⟨⟨h119, h116, h115⟩, ?_⟩
   refine an_o 7 ?_
   obtain ⟨V124, eV124, go1, ego1, h125, kV124⟩ := alloc_step V112 (#[.func (.func 120) #[] #[pT gy 0], .func (.func 121) #[] #[pT gs 0, pT ge 0]]) 144
   have n126 := nl ego1 h113
   have n127 := nl ego1 h114
   have n128 := nl ego1 h115
   have n129 := nl ego1 h116
   have n130 := nl ego1 h117
   have n131 := nl ego1 h118
   have n132 := nl ego1 h119
   have n133 := nl ego1 h120
   have n134 := nl ego1 h121
   have n135 := nl ego1 hgsV112
   have n136 := nl ego1 hgeV112
   have n137 := nk ego1 K122
   refine nrq (.slice (some ⟨go1, 0, none⟩) 2 2) (w' := V124) (by rw [← eV124, ← ego1]; kernel_rfl) ?_
   have ⟨K149, z150, h140, h141, h142, h143, h144, h145, h146, h147⟩ := kV124.z8 K122 h115 h116 h117 h118 h119 h120 h121 hgsV112
   have h148 := kV124.bk hgeV112
   refine ⟨⟨h144, h141, h140⟩, ?_⟩
   refine an_o 8 ?_
   refine ncr 56 #[.int .i64 2, .slice (some ⟨go1, 0, none⟩) 2 2] Tryz.func56 (dverdict_two 2 120 (pT gy 0) b.cl proZ 0 (Att.tl hr_b) proZ_len 121 (pT gs 0) (pT ge 0) b.cl proZ (p.first (max 0 a.t)).1 (Att.tl hr_b) proZ_len (vdC_one b) go1 _ h125 (enters_of Tryz.func120 (by kernel_rfl) rfl) (fun bv W hbv k hb => dby1_ok bv gy 2 0 attZ proZ attZ_len proZ_len b hr_b (by have := lt_of_block h145; omega) W (k.bk h145) hb) (enters_of Tryz.func121 (by kernel_rfl) rfl) (fun bv W hbv k hb => dat1_1 bv gs ge gl d a.t 2 0 b.cl proZ (Att.tl hr_b) proZ_len p hp h P W hmx hb (k.bk h147) (k.bk h148) (k.bk h146) (k.bk h142))) fun V151 kV151 => ?_
   have ⟨K164, z165, h154, h155, h157, h158⟩ := kV151.z4 K149 h140 h141 h143 h144
   refine ⟨⟨h158, h155, h154⟩, ?_⟩
   refine an_o 9 <| nst 57 res ((vdC 2 b.cl proZ (p.first (max 0 a.t)).1)) h157 (by rw [vdC_size (Att.tl hr_b) proZ_len]; kernel_rfl) (by rw [vdC_size (Att.tl hr_b) proZ_len]; rfl) (vdC_one b) fun V166 h167 kV166 => ?_
   have ⟨K179, z180, h170, h171, h173⟩ := kV166.zo3 K164 h154 h155 h158
   refine ⟨⟨h173, h171, h170⟩, ?_⟩
   refine an_o 10 <| nrq (.bool true) (w' := V166) (by kernel_rfl) ?_
   refine ⟨⟨h173, h171, h170⟩, ?_⟩
   refine ane <| then_n <| u_ <| sy_out (.tuple #[.agg (vdC 2 b.cl proZ ((p.first (max 0 a.t)).1)), .bool true]) rfl (rrt 57 res h167 Tryz.underlying57 (by rw [vdC_size (Att.tl hr_b) proZ_len]; kernel_rfl)) ?_
   exact ⟨rfl, K179⟩
  ·obtain ⟨V181, eV181, gl, egl, h182, kV181⟩ := alloc_step V71 (#[.int .i64 a.t]) 3
   have n183 := nl egl h72
   have n184 := nl egl h73
   have n185 := nl egl h74
   have n186 := nl egl h75
   have n187 := nl egl h76
   have n188 := nl egl h77
   have n189 := nl egl h78
   have n190 := nk egl K79
   refine nrq (.slice (some ⟨gl, 0, none⟩) 1 1) (w' := V181) (by rw [← eV181, ← egl]; kernel_rfl) ?_
   have ⟨K198, z199, h191, h192, h193, h194, h195, h196, h197⟩ := kV181.z7 K79 h72 h73 h74 h75 h76 h77 h78
   refine ⟨⟨h197, h194, h193⟩, ?_⟩
   refine an_o 1 ?_
   refine ncq 86 #[.agg (Att.c b)] Tryz.func86 ((dby_ok b _).mono ?_)
   rintro e V200 ⟨gy, rfl, hgyV200, nyV200, kV200⟩
   refine ⟨_, rfl, ?_⟩
   have ⟨K209, z210, h201, h202, h203, h204, h205, h206, h207, h208⟩ := kV200.z8 K198 h191 h192 h193 h194 h195 h196 h197 h182
   refine ⟨⟨h207, h204, h203⟩, ?_⟩
   refine an_o 6 ?_
   refine ncq 87 #[pT d 0, .slice (some ⟨gl, 0, none⟩) 1 1] Tryz.func87 ((dat_ok d gl 1 _).mono ?_)
   rintro e V211 ⟨gs, ge, rfl, hgsV211, hgeV211, nsV211, neV211, kV211⟩
   refine ⟨_, rfl, ?_⟩
   have ⟨K221, z222, h212, h213, h214, h215, h216, h217, h218, h219⟩ := kV211.z8 K209 h201 h202 h203 h204 h205 h206 h207 h208
   have h220 := kV211.bk hgyV200
   refine ⟨⟨h218, h215, h214⟩, ?_⟩
   refine an_o 7 ?_
   obtain ⟨V223, eV223, go1, ego1, h224, kV223⟩ := alloc_step V211 (#[.func (.func 120) #[] #[pT gy 0], .func (.func 121) #[] #[pT gs 0, pT ge 0]]) 144
   have n225 := nl ego1 h212
   have n226 := nl ego1 h213
   have n227 := nl ego1 h214
   have n228 := nl ego1 h215
   have n229 := nl ego1 h216
   have n230 := nl ego1 h217
   have n231 := nl ego1 h218
   have n232 := nl ego1 h219
   have n233 := nl ego1 h220
   have n234 := nl ego1 hgsV211
   have n235 := nl ego1 hgeV211
   have n236 := nk ego1 K221
   refine nrq (.slice (some ⟨go1, 0, none⟩) 2 2) (w' := V223) (by rw [← eV223, ← ego1]; kernel_rfl) ?_
   have ⟨K248, z249, h239, h240, h241, h242, h243, h244, h245, h246⟩ := kV223.z8 K221 h214 h215 h216 h217 h218 h219 h220 hgsV211
   have h247 := kV223.bk hgeV211
   refine ⟨⟨h243, h240, h239⟩, ?_⟩
   refine an_o 8 ?_
   refine ncr 56 #[.int .i64 2, .slice (some ⟨go1, 0, none⟩) 2 2] Tryz.func56 (dverdict_two 2 120 (pT gy 0) b.cl proZ 0 (Att.tl hr_b) proZ_len 121 (pT gs 0) (pT ge 0) b.cl proZ (p.first (max 0 a.t)).1 (Att.tl hr_b) proZ_len (vdC_one b) go1 _ h224 (enters_of Tryz.func120 (by kernel_rfl) rfl) (fun bv W hbv k hb => dby1_ok bv gy 2 0 attZ proZ attZ_len proZ_len b hr_b (by have := lt_of_block h245; omega) W (k.bk h245) hb) (enters_of Tryz.func121 (by kernel_rfl) rfl) (fun bv W hbv k hb => dat1_1 bv gs ge gl d a.t 2 0 b.cl proZ (Att.tl hr_b) proZ_len p hp h P W hmx hb (k.bk h246) (k.bk h247) (k.bk h244) (k.bk h241))) fun V250 kV250 => ?_
   have ⟨K263, z264, h253, h254, h256, h257⟩ := kV250.z4 K248 h239 h240 h242 h243
   refine ⟨⟨h257, h254, h253⟩, ?_⟩
   refine an_o 9 <| nst 57 res ((vdC 2 b.cl proZ (p.first (max 0 a.t)).1)) h256 (by rw [vdC_size (Att.tl hr_b) proZ_len]; kernel_rfl) (by rw [vdC_size (Att.tl hr_b) proZ_len]; rfl) (vdC_one b) fun V265 h266 kV265 => ?_
   have ⟨K278, z279, h269, h270, h272⟩ := kV265.zo3 K263 h253 h254 h257
   refine ⟨⟨h272, h270, h269⟩, ?_⟩
   refine an_o 10 <| nrq (.bool true) (w' := V265) (by kernel_rfl) ?_
   refine ⟨⟨h272, h270, h269⟩, ?_⟩
   refine ane <| then_n <| u_ <| sy_out (.tuple #[.agg (vdC 2 b.cl proZ ((p.first (max 0 a.t)).1)), .bool true]) rfl (rrt 57 res h266 Tryz.underlying57 (by rw [vdC_size (Att.tl hr_b) proZ_len]; kernel_rfl)) ?_
   exact ⟨rfl, K278⟩
 ·refine nal 28 (zl1_) (.agg (zl1_)) fun V280 gb egb h281 kV280 => ?_
  have n282 := nl egb h17
  have n283 := nl egb h18
  have n284 := nl egb h19
  have n285 := nl egb h20
  have n286 := nl egb h21
  have n287 := nl egb h22
  have n288 := nk egb K23
  have ⟨K295, z296, h289, h290, h291, h292, h293, h294⟩ := kV280.z6 K23 h17 h18 h19 h20 h21 h22
  refine ⟨⟨h289, h290, h291⟩, ?_⟩
  refine an_o 6 ?_
  refine ncr 84 #[pT r 0, .int .i64 a.t] Tryz.func84 (qAt_is (hR.keepsN K295) hV) fun V297 kV297 => ?_
  have ⟨K305, z306, h298, h299, h300, h301, h302, h303, h304⟩ := kV297.z7 K295 h289 h290 h291 h292 h293 h294 h281
  refine ⟨⟨h298, h299, h300⟩, ?_⟩
  refine ka [7, 8, 9] ⟨h298, h299, h300⟩ <| an_o 11 <| nst 28 gb ((Att.c b)) h304 (by rw [Att.c_size _ hr_b]; kernel_rfl) (by rw [Att.c_size _ hr_b]; rfl) (Att.c_one _) fun V307 h308 kV307 => ?_
  have ⟨K315, z316, h309, h310, h311, h312, h313, h314⟩ := kV307.zo6 K305 h298 h299 h300 h301 h302 h303
  refine ⟨⟨h309, h310, h311⟩, ?_⟩
  refine an_o 12 <| nrq (.bool true) (w' := V307) (by kernel_rfl) ?_
  refine ⟨⟨h309, h310, h311⟩, ?_⟩
  refine ane <| tq_ <| bl_ 0 <| qr_ [0, 1, 2] <| kk 3 <| en_ <| qr_ [0, 1, 2, 3] <| ppq _ (ldr 28 ga (h311) (by rw [Att.c_size _ hr_a]; kernel_rfl)) <| ppq _ (ldr 28 gb (h308) (by rw [Att.c_size _ hr_b]; kernel_rfl)) ?_
  refine pcr 85 #[.agg (Att.c a), .agg (Att.c b)] Tryz.func85 (dsame_is a b _ ha hb hs) fun V317 kV317 => ?_
  have ⟨K325, z326, h318, h319, h320, h321, h322, h323, h324⟩ := kV317.z7 K315 h309 h310 h311 h312 h313 h314 h308
  refine kk 1 <| en_ <| s_ <| blk_n <| tq_ <| sy_np <| sy_reg <| anb 11 (fun W => (HP W gb (Att.c b) 28) ∧ (HP W gd (#[pT d 0]) 22) ∧ (HP W ga (Att.c a) 28)) zl9_ ?_
  obtain ⟨V327, eV327, kV327⟩ := drew_step V317
  rw [eV327]
  clear eV327
  have ⟨K335, z336, h328, h329, h330, h331, h332, h333, h334⟩ := kV327.z7 K325 h318 h319 h320 h321 h322 h323 h324
  refine avq 0 _ (fun W hS => ldr 28 gb (hS.1) (by rw [Att.c_size _ hr_b]; kernel_rfl)) ⟨h334, h331, h330⟩ <| avq 2 _ (fun W hS => lk (hS.2.1)) ⟨h334, h331, h330⟩ <| ka [3] ⟨h334, h331, h330⟩ <| avq 4 _ (fun W hS => lc (hS.2.2) (Att.c_2 _)) ⟨h334, h331, h330⟩ ?_
  refine an_two 1 5 (by kernel_rfl) ?_ ?_
  ·refine ncq 86 #[.agg (Att.c b)] Tryz.func86 ((dby_ok b _).mono ?_)
   rintro e V337 ⟨gy, rfl, hgyV337, nyV337, kV337⟩
   refine ⟨_, rfl, ?_⟩
   have ⟨K345, z346, h338, h339, h340, h341, h342, h343, h344⟩ := kV337.z7 K335 h328 h329 h330 h331 h332 h333 h334
   refine ⟨⟨h344, h341, h340⟩, ?_⟩
   refine an_o 5 ?_
   obtain ⟨V347, eV347, gl, egl, h348, kV347⟩ := alloc_step V337 (#[.int .i64 a.t]) 3
   have n349 := nl egl h338
   have n350 := nl egl h339
   have n351 := nl egl h340
   have n352 := nl egl h341
   have n353 := nl egl h342
   have n354 := nl egl h343
   have n355 := nl egl h344
   have n356 := nl egl hgyV337
   have n357 := nk egl K345
   refine nrq (.slice (some ⟨gl, 0, none⟩) 1 1) (w' := V347) (by rw [← eV347, ← egl]; kernel_rfl) ?_
   have ⟨K366, z367, h358, h359, h360, h361, h362, h363, h364, h365⟩ := kV347.z8 K345 h338 h339 h340 h341 h342 h343 h344 hgyV337
   refine ⟨⟨h364, h361, h360⟩, ?_⟩
   refine an_o 6 ?_
   refine ncq 87 #[pT d 0, .slice (some ⟨gl, 0, none⟩) 1 1] Tryz.func87 ((dat_ok d gl 1 _).mono ?_)
   rintro e V368 ⟨gs, ge, rfl, hgsV368, hgeV368, nsV368, neV368, kV368⟩
   refine ⟨_, rfl, ?_⟩
   have ⟨K378, z379, h369, h370, h371, h372, h373, h374, h375, h376⟩ := kV368.z8 K366 h358 h359 h360 h361 h362 h363 h364 h365
   have h377 := kV368.bk h348
   refine ⟨⟨h375, h372, h371⟩, ?_⟩
   refine an_o 7 ?_
   obtain ⟨V380, eV380, go1, ego1, h381, kV380⟩ := alloc_step V368 (#[.func (.func 120) #[] #[pT gy 0], .func (.func 121) #[] #[pT gs 0, pT ge 0]]) 144
   have n382 := nl ego1 h369
   have n383 := nl ego1 h370
   have n384 := nl ego1 h371
   have n385 := nl ego1 h372
   have n386 := nl ego1 h373
   have n387 := nl ego1 h374
   have n388 := nl ego1 h375
   have n389 := nl ego1 h376
   have n390 := nl ego1 h377
   have n391 := nl ego1 hgsV368
   have n392 := nl ego1 hgeV368
   have n393 := nk ego1 K378
   refine nrq (.slice (some ⟨go1, 0, none⟩) 2 2) (w' := V380) (by rw [← eV380, ← ego1]; kernel_rfl) ?_
   have ⟨K405, z406, h396, h397, h398, h399, h400, h401, h402, h403⟩ := kV380.z8 K378 h371 h372 h373 h374 h375 h376 h377 hgsV368
   have h404 := kV380.bk hgeV368
   refine ⟨⟨h400, h397, h396⟩, ?_⟩
   refine an_o 8 ?_
   refine ncr 56 #[.int .i64 2, .slice (some ⟨go1, 0, none⟩) 2 2] Tryz.func56 (dverdict_two 2 120 (pT gy 0) b.cl proZ 0 (Att.tl hr_b) proZ_len 121 (pT gs 0) (pT ge 0) b.cl proZ (p.first (max 0 a.t)).1 (Att.tl hr_b) proZ_len (vdC_one b) go1 _ h381 (enters_of Tryz.func120 (by kernel_rfl) rfl) (fun bv W hbv k hb => dby1_ok bv gy 2 0 attZ proZ attZ_len proZ_len b hr_b (by have := lt_of_block h401; omega) W (k.bk h401) hb) (enters_of Tryz.func121 (by kernel_rfl) rfl) (fun bv W hbv k hb => dat1_1 bv gs ge gl d a.t 2 0 b.cl proZ (Att.tl hr_b) proZ_len p hp h P W hmx hb (k.bk h403) (k.bk h404) (k.bk h402) (k.bk h398))) fun V407 kV407 => ?_
   have ⟨K420, z421, h410, h411, h413, h414⟩ := kV407.z4 K405 h396 h397 h399 h400
   refine ⟨⟨h414, h411, h410⟩, ?_⟩
   refine an_o 9 <| nst 57 res ((vdC 2 b.cl proZ (p.first (max 0 a.t)).1)) h413 (by rw [vdC_size (Att.tl hr_b) proZ_len]; kernel_rfl) (by rw [vdC_size (Att.tl hr_b) proZ_len]; rfl) (vdC_one b) fun V422 h423 kV422 => ?_
   have ⟨K435, z436, h426, h427, h429⟩ := kV422.zo3 K420 h410 h411 h414
   refine ⟨⟨h429, h427, h426⟩, ?_⟩
   refine an_o 10 <| nrq (.bool true) (w' := V422) (by kernel_rfl) ?_
   refine ⟨⟨h429, h427, h426⟩, ?_⟩
   refine ane <| then_n <| u_ <| sy_out (.tuple #[.agg (vdC 2 b.cl proZ ((p.first (max 0 a.t)).1)), .bool true]) rfl (rrt 57 res h423 Tryz.underlying57 (by rw [vdC_size (Att.tl hr_b) proZ_len]; kernel_rfl)) ?_
   exact ⟨rfl, K435⟩
  ·obtain ⟨V437, eV437, gl, egl, h438, kV437⟩ := alloc_step V327 (#[.int .i64 a.t]) 3
   have n439 := nl egl h328
   have n440 := nl egl h329
   have n441 := nl egl h330
   have n442 := nl egl h331
   have n443 := nl egl h332
   have n444 := nl egl h333
   have n445 := nl egl h334
   have n446 := nk egl K335
   refine nrq (.slice (some ⟨gl, 0, none⟩) 1 1) (w' := V437) (by rw [← eV437, ← egl]; kernel_rfl) ?_
   have ⟨K454, z455, h447, h448, h449, h450, h451, h452, h453⟩ := kV437.z7 K335 h328 h329 h330 h331 h332 h333 h334
   refine ⟨⟨h453, h450, h449⟩, ?_⟩
   refine an_o 1 ?_
   refine ncq 86 #[.agg (Att.c b)] Tryz.func86 ((dby_ok b _).mono ?_)
   rintro e V456 ⟨gy, rfl, hgyV456, nyV456, kV456⟩
   refine ⟨_, rfl, ?_⟩
   have ⟨K465, z466, h457, h458, h459, h460, h461, h462, h463, h464⟩ := kV456.z8 K454 h447 h448 h449 h450 h451 h452 h453 h438
   refine ⟨⟨h463, h460, h459⟩, ?_⟩
   refine an_o 6 ?_
   refine ncq 87 #[pT d 0, .slice (some ⟨gl, 0, none⟩) 1 1] Tryz.func87 ((dat_ok d gl 1 _).mono ?_)
   rintro e V467 ⟨gs, ge, rfl, hgsV467, hgeV467, nsV467, neV467, kV467⟩
   refine ⟨_, rfl, ?_⟩
   have ⟨K477, z478, h468, h469, h470, h471, h472, h473, h474, h475⟩ := kV467.z8 K465 h457 h458 h459 h460 h461 h462 h463 h464
   have h476 := kV467.bk hgyV456
   refine ⟨⟨h474, h471, h470⟩, ?_⟩
   refine an_o 7 ?_
   obtain ⟨V479, eV479, go1, ego1, h480, kV479⟩ := alloc_step V467 (#[.func (.func 120) #[] #[pT gy 0], .func (.func 121) #[] #[pT gs 0, pT ge 0]]) 144
   have n481 := nl ego1 h468
   have n482 := nl ego1 h469
   have n483 := nl ego1 h470
   have n484 := nl ego1 h471
   have n485 := nl ego1 h472
   have n486 := nl ego1 h473
   have n487 := nl ego1 h474
   have n488 := nl ego1 h475
   have n489 := nl ego1 h476
   have n490 := nl ego1 hgsV467
   have n491 := nl ego1 hgeV467
   have n492 := nk ego1 K477
   refine nrq (.slice (some ⟨go1, 0, none⟩) 2 2) (w' := V479) (by rw [← eV479, ← ego1]; kernel_rfl) ?_
   have ⟨K504, z505, h495, h496, h497, h498, h499, h500, h501, h502⟩ := kV479.z8 K477 h470 h471 h472 h473 h474 h475 h476 hgsV467
   have h503 := kV479.bk hgeV467
   refine ⟨⟨h499, h496, h495⟩, ?_⟩
   refine an_o 8 ?_
   refine ncr 56 #[.int .i64 2, .slice (some ⟨go1, 0, none⟩) 2 2] Tryz.func56 (dverdict_two 2 120 (pT gy 0) b.cl proZ 0 (Att.tl hr_b) proZ_len 121 (pT gs 0) (pT ge 0) b.cl proZ (p.first (max 0 a.t)).1 (Att.tl hr_b) proZ_len (vdC_one b) go1 _ h480 (enters_of Tryz.func120 (by kernel_rfl) rfl) (fun bv W hbv k hb => dby1_ok bv gy 2 0 attZ proZ attZ_len proZ_len b hr_b (by have := lt_of_block h501; omega) W (k.bk h501) hb) (enters_of Tryz.func121 (by kernel_rfl) rfl) (fun bv W hbv k hb => dat1_1 bv gs ge gl d a.t 2 0 b.cl proZ (Att.tl hr_b) proZ_len p hp h P W hmx hb (k.bk h502) (k.bk h503) (k.bk h500) (k.bk h497))) fun V506 kV506 => ?_
   have ⟨K519, z520, h509, h510, h512, h513⟩ := kV506.z4 K504 h495 h496 h498 h499
   refine ⟨⟨h513, h510, h509⟩, ?_⟩
   refine an_o 9 <| nst 57 res ((vdC 2 b.cl proZ (p.first (max 0 a.t)).1)) h512 (by rw [vdC_size (Att.tl hr_b) proZ_len]; kernel_rfl) (by rw [vdC_size (Att.tl hr_b) proZ_len]; rfl) (vdC_one b) fun V521 h522 kV521 => ?_
   have ⟨K534, z535, h525, h526, h528⟩ := kV521.zo3 K519 h509 h510 h513
   refine ⟨⟨h528, h526, h525⟩, ?_⟩
   refine an_o 10 <| nrq (.bool true) (w' := V521) (by kernel_rfl) ?_
   refine ⟨⟨h528, h526, h525⟩, ?_⟩
   refine ane <| then_n <| u_ <| sy_out (.tuple #[.agg (vdC 2 b.cl proZ ((p.first (max 0 a.t)).1)), .bool true]) rfl (rrt 57 res h522 Tryz.underlying57 (by rw [vdC_size (Att.tl hr_b) proZ_len]; kernel_rfl)) ?_
   exact ⟨rfl, K534⟩
end
section
open Go Go.RowKit Go.Own Go.Shelf
theorem span_ne {w : World} {FP : Nat → Prop} {b q : Nat} {W E : Int} {view : Int → Option Int × Option Int} {cs : Array Value} {T : TypeId} (hs : Sp.SpanView w FP b W E view) (h : HP w q cs T) (hT : 161 ≠ T) : q ≠ b := fun e => by
 obtain ⟨cs', hc⟩ := SpanView.blk hs
 exact Odd.one hc hT q cs (0, 0) e h
theorem rec_typ {w w' : World} {r d : Nat} {v : Int} {A : RD Att} {B : RD Pro} {cs : Array Value} {T : TypeId} (h : RecAt w r v A B) (hd : HP w d cs T) (k : Keeps (One d) w w') (n1 : 184 ≠ T := by decide) (n2 : 185 ≠ T := by decide) (n3 : 192 ≠ T := by decide) (n4 : 168 ≠ T := by decide) (n5 : T ≠ 28 := by decide) (n6 : T ≠ 37 := by decide) (n7 : T ≠ 122 := by decide) : RecAt w' r v A B := h.mono fun j cs' U hj e => by
 rcases hj with hj | rfl | rfl | rfl
 ·exact (k.block j (lt_of_block e) (fun e2 => h.odd (T := T) n1 n2 n3 n4 j cs (0, 0) hj (e2 ▸ hd))).trans e
 ·exact k.odd (Odd.one hd n5) e
 ·exact k.odd (Odd.one hd n6) e
 ·exact k.odd (Odd.one hd n7) e
theorem clash_is {w : World} {FP : Nat → Prop} {b : Nat} {W E s t ck ct : Int} {view : Int → Option Int × Option Int} (h : Sp.SpanView w FP b W E view) (hc : Sp.clashOf W E s t view = (ck, ct)) : Calls Tryz.prog 89 #[pT b 0, .int .i64 s, .int .i64 t] w fun v w' => v = .returned (.tuple #[.int .i64 ck, .int .i64 ct]) ∧ Sp.SpanView w' FP b W E view ∧ Keeps (One b) w w' := by
 have x := Sp.span_clash b W E s t w FP view h
 rw [hc] at x; exact x
theorem qAt_z {r : Nat} {v i : Int} {A : RD Att} {B : RD Pro} {w : World} {b : Att} (H : RecAt w r v A B) (ho : A.V i = none) (hb : b = zAtt) : Calls Tryz.prog 84 #[pT r 0, .int .i64 i] w fun e w' => e = .returned (.tuple #[.agg (Att.c b), .bool false]) ∧ Keeps Nob w w' := hb ▸ qAt_is H ho
theorem qAt_any {r : Nat} {v i : Int} {A : RD Att} {B : RD Pro} {w : World} {b : Att} {sm : Bool} (H : RecAt w r v A B) (hV : (sm = true ∧ A.V i = some b) ∨ (sm = false ∧ A.V i = none ∧ b = zAtt)) : Calls Tryz.prog 84 #[pT r 0, .int .i64 i] w fun e w' => e = .returned (.tuple #[.agg (Att.c b), .bool sm]) ∧ Keeps Nob w w' := by
 rcases hV with ⟨rfl, h⟩ | ⟨rfl, h, hb⟩
 ·exact qAt_is H h
 ·exact qAt_z H h hb
noncomputable def qc98_0 (n : Nat) : Code := partOf Tryz.f88 n
theorem djudge2_ok (gp ga gd d q sp r : Nat) (a : Att) (hr_a : a.r.length = 32) (p : Par) (hp : p.Ok) (h : Int) (P : Nat → Option Nat) (v : Int) (A : RD Att) (B : RD Pro) (FP : Nat → Prop) (WW EE : Int) (view : Int → Option Int × Option Int) (w : World) (hgp : HP w gp #[pT q 0] 76) (hq : HP w q #[pT sp 0, pT r 0] 85) (hga : HP w ga (Att.c a) 28) (hgd : HP w gd #[pT d 0] 22) (hd : HP w d (detC p h P) 79) (hS : Sp.SpanView w FP sp WW EE view) (hR : RecAt w r v A B) (ck ct : Int) (hck : Sp.clashOf WW EE a.s a.t view = (ck, ct)) (hmx : i64ok (max (max 0 a.t) ct)) (b : Att) (sm rb : Bool) (hV : (sm = true ∧ A.V ct = some b) ∨ (sm = false ∧ A.V ct = none ∧ b = zAtt)) (hr_b : b.r.length = 32) (hrb : rb = (sm && decide (¬ ck = 0))) :
  Calls Tryz.prog 88 #[pT gp 0, pT ga 0, pT gd 0] w (fun e w' => e = .returned (.tuple #[.agg (vdC ck b.cl proZ (p.first (max (max 0 a.t) ct)).1), .bool rb]) ∧ Sp.SpanView w' FP sp WW EE view ∧ RecAt w' r v A B ∧ Keeps (One sp) w w') := by
 have n0 := span_ne hS hgp (by decide)
 have n1 := span_ne hS hq (by decide)
 have n2 := span_ne hS hga (by decide)
 have n3 := span_ne hS hgd (by decide)
 have n4 := span_ne hS hd (by decide)
 obtain ⟨css, hcss⟩ := SpanView.blk hS
 have nsp := lt_of_block hcss
 have K0 : Keeps (One sp) w w := Keeps.refl _ _
 refine se_ (qc98_0 1) ⟨fr [pT gp 0, pT ga 0, pT gd 0] 43, []⟩ Tryz.func88 <| qr_ [0, 1] <| pal 57 (zl0_) (.agg (zl0_)) fun V1 res eres h2 kV1 => ?_
 have n3 := nl eres hgp
 have n4 := nl eres hq
 have n5 := nl eres hga
 have n6 := nl eres hgd
 have n7 := nl eres hd
 have n8 := nk eres K0
 have ⟨h9, h10, h11, h12, h13⟩ := kV1.k5 hgp hq hga hgd hd
 have h14 : Sp.SpanView V1 FP sp WW EE view := span_nob hS kV1
 have h15 : RecAt V1 r v A B := hR.keepsN kV1
 have K16 := K0.nn kV1
 have z17 := kV1.size
 refine kk 1 <| eq_ <| sy_np <| sy_reg <| anb 14 (fun W => (HP W gp (#[pT q 0]) 76) ∧ (HP W q (#[pT sp 0, pT r 0]) 85) ∧ (HP W ga (Att.c a) 28)) #[false, false, false, false, false, false, false, false, false, false, false, false, false, false] ?_
 obtain ⟨V18, eV18, kV18⟩ := drew_step V1
 rw [eV18]
 clear eV18
 have ⟨h19, h20, h21, h22, h23⟩ := kV18.k5 h9 h10 h11 h12 h13
 have h24 : Sp.SpanView V18 FP sp WW EE view := span_nob h14 kV18
 have h25 : RecAt V18 r v A B := h15.keepsN kV18
 have ⟨K27, z28, h26⟩ := kV18.z1 K16 h2
 refine avq 0 _ (fun W hS => lk (hS.1)) ⟨h19, h20, h21⟩ <| ka [1, 2] ⟨h19, h20, h21⟩ <| avq 3 _ (fun W hS => lk (hS.2.1)) ⟨h19, h20, h21⟩ <| ka [4] ⟨h19, h20, h21⟩ <| avq 5 _ (fun W hS => lc (hS.2.2) (Att.c_1 _)) ⟨h19, h20, h21⟩ <| ka [6] ⟨h19, h20, h21⟩ <| avq 7 _ (fun W hS => lc (hS.2.2) (Att.c_2 _)) ⟨h19, h20, h21⟩ <| an_o 8 ?_
 refine ncq 89 #[pT sp 0, .int .i64 a.s, .int .i64 a.t] Tryz.func89 ((clash_is h24 hck).mono ?_)
 rintro e V29 ⟨rfl, hSV29, kV29⟩
 have hRV29 := rec_one h25 h24 kV29
 have hresV29 := kV29.bO h26
 refine ⟨_, rfl, ?_⟩
 have ⟨h30, h31, h32, h33, h34, h35⟩ := kV29.ko6 h19 h20 h21 h22 h23 h26
 have K36 : Keeps (One sp) w V29 := K27.then kV29 (fun i hi hm => hm)
 have z37 := kV29.size
 refine ⟨⟨h30, h31, h32⟩, ?_⟩
 refine ka [9, 10, 11] ⟨h30, h31, h32⟩ <| an_o 12 <| nrq (.int .i64 ck) (w' := V29) (by kernel_rfl) ?_
 refine ⟨⟨h30, h31, h32⟩, ?_⟩
 refine an_o 13 <| nrq (.int .i64 ct) (w' := V29) (by kernel_rfl) ?_
 refine ⟨⟨h30, h31, h32⟩, ?_⟩
 refine ane <| tqr_ nl12_ <| ppq _ (lk h30) <| kk 2 <| ppq _ (lk h31) <| kk 1 ?_
 refine pcr 84 #[pT r 0, .int .i64 ct] Tryz.func84 (qAt_any (rec_typ hRV29 hresV29 (Keeps.refl (One res) V29)) hV) fun V38 kV38 => ?_
 have ⟨h39, h40, h41, h42, h43, h44⟩ := kV38.k6 h30 h31 h32 h33 h34 h35
 have h45 : Keeps (One res) V29 V38 := (Keeps.refl (One res) V29).nn kV38
 have K46 := K36.nn kV38
 have z47 := kV38.size
 refine kk 3 <| pal 28 (zl1_) (.agg (zl1_)) fun V48 gb egb h49 kV48 => ?_
 have n50 := nl egb h39
 have n51 := nl egb h40
 have n52 := nl egb h41
 have n53 := nl egb h42
 have n54 := nl egb h43
 have n55 := nl egb h44
 have n56 := nk egb K46
 have ⟨h57, h58, h59, h60, h61, h62⟩ := kV48.k6 h39 h40 h41 h42 h43 h44
 have h63 : Keeps (One res) V29 V48 := h45.nn kV48
 have K64 := K46.nn kV48
 have z65 := kV48.size
 refine pst 28 gb ((Att.c b)) h49 (by rw [Att.c_size _ hr_b]; kernel_rfl) (by rw [Att.c_size _ hr_b]; rfl) (Att.c_one _) fun V66 h67 kV66 => ?_
 have ⟨h68, h69, h70, h71, h72, h73⟩ := kV66.ko6 h57 h58 h59 h60 h61 h62
 have h74 : Keeps (One res) V29 V66 := h63.nO kV66
 have K75 := K64.nO kV66
 have z76 := kV66.size
 refine kk 1 <| ps_end <| tq_ <| sy_np <| sy_reg <| anb 18 (fun W => (HP W gb (Att.c b) 28) ∧ (HP W gd (#[pT d 0]) 22) ∧ (HP W ga (Att.c a) 28)) #[false, false, false, false, false, false, false, false, false, false, false, false, false, false, false, false, false, false] ?_
 obtain ⟨V77, eV77, kV77⟩ := drew_step V66
 rw [eV77]
 clear eV77
 have ⟨h78, h79, h80, h81, h82, h83⟩ := kV77.k6 h68 h69 h70 h71 h72 h73
 have h84 : Keeps (One res) V29 V77 := h74.nn kV77
 have ⟨K86, z87, h85⟩ := kV77.z1 K75 h67
 refine ka [0] ⟨h85, h81, h80⟩ <| avq 1 _ (fun W hS => ldr 28 gb (hS.1) (by rw [Att.c_size _ hr_b]; kernel_rfl)) ⟨h85, h81, h80⟩ <| avq 3 _ (fun W hS => lk (hS.2.1)) ⟨h85, h81, h80⟩ <| ka [4] ⟨h85, h81, h80⟩ <| avq 5 _ (fun W hS => lc (hS.2.2) (Att.c_2 _)) ⟨h85, h81, h80⟩ <| ka [6, 11] ⟨h85, h81, h80⟩ ?_
 refine an_two 2 7 (by kernel_rfl) ?_ ?_
 ·refine ncq 86 #[.agg (Att.c b)] Tryz.func86 ((dby_ok b _).mono ?_)
  rintro e V88 ⟨gy, rfl, hgyV88, nyV88, kV88⟩
  refine ⟨_, rfl, ?_⟩
  have ⟨h89, h90, h91, h92, h93, h94⟩ := kV88.k6 h78 h79 h80 h81 h82 h83
  have h95 : Keeps (One res) V29 V88 := h84.nn kV88
  have ⟨K97, z98, h96⟩ := kV88.z1 K86 h85
  refine ⟨⟨h96, h92, h91⟩, ?_⟩
  refine an_o 7 ?_
  obtain ⟨V99, eV99, gl, egl, h100, kV99⟩ := alloc_step V88 (#[.int .i64 a.t, .int .i64 ct]) 3
  have n101 := nl egl h89
  have n102 := nl egl h90
  have n103 := nl egl h91
  have n104 := nl egl h92
  have n105 := nl egl h93
  have n106 := nl egl h94
  have n107 := nl egl h96
  have n108 := nl egl hgyV88
  have n109 := nk egl K97
  refine nrq (.slice (some ⟨gl, 0, none⟩) 2 2) (w' := V99) (by rw [← eV99, ← egl]; kernel_rfl) ?_
  have ⟨h110, h111, h112, h113, h114, h115⟩ := kV99.k6 h89 h90 h91 h92 h93 h94
  have h116 : Keeps (One res) V29 V99 := h95.nn kV99
  have ⟨K119, z120, h117, h118⟩ := kV99.z2 K97 h96 hgyV88
  refine ⟨⟨h117, h113, h112⟩, ?_⟩
  refine an_o 8 ?_
  refine ncq 87 #[pT d 0, .slice (some ⟨gl, 0, none⟩) 2 2] Tryz.func87 ((dat_ok d gl 2 _).mono ?_)
  rintro e V121 ⟨gs, ge, rfl, hgsV121, hgeV121, nsV121, neV121, kV121⟩
  refine ⟨_, rfl, ?_⟩
  have ⟨h122, h123, h124, h125, h126, h127⟩ := kV121.k6 h110 h111 h112 h113 h114 h115
  have h128 : Keeps (One res) V29 V121 := h116.nn kV121
  have ⟨K132, z133, h129, h130, h131⟩ := kV121.z3 K119 h117 h118 h100
  refine ⟨⟨h129, h125, h124⟩, ?_⟩
  refine an_o 9 ?_
  obtain ⟨V134, eV134, go1, ego1, h135, kV134⟩ := alloc_step V121 (#[.func (.func 120) #[] #[pT gy 0], .func (.func 121) #[] #[pT gs 0, pT ge 0]]) 144
  have n136 := nl ego1 h122
  have n137 := nl ego1 h123
  have n138 := nl ego1 h124
  have n139 := nl ego1 h125
  have n140 := nl ego1 h126
  have n141 := nl ego1 h127
  have n142 := nl ego1 h129
  have n143 := nl ego1 h130
  have n144 := nl ego1 h131
  have n145 := nl ego1 hgsV121
  have n146 := nl ego1 hgeV121
  have n147 := nk ego1 K132
  refine nrq (.slice (some ⟨go1, 0, none⟩) 2 2) (w' := V134) (by rw [← eV134, ← ego1]; kernel_rfl) ?_
  have ⟨h150, h151, h152, h153⟩ := kV134.k4 h124 h125 h126 h127
  have h154 : Keeps (One res) V29 V134 := h128.nn kV134
  have ⟨K160, z161, h155, h156, h157, h158, h159⟩ := kV134.z5 K132 h129 h130 h131 hgsV121 hgeV121
  refine ⟨⟨h155, h151, h150⟩, ?_⟩
  refine an_o 10 ?_
  refine ncr 56 #[.int .i64 ck, .slice (some ⟨go1, 0, none⟩) 2 2] Tryz.func56 (dverdict_two ck 120 (pT gy 0) b.cl proZ 0 (Att.tl hr_b) proZ_len 121 (pT gs 0) (pT ge 0) b.cl proZ (p.first (max (max 0 a.t) ct)).1 (Att.tl hr_b) proZ_len (vdC_one b) go1 _ h135 (enters_of Tryz.func120 (by kernel_rfl) rfl) (fun bv W hbv k hb => dby1_ok bv gy ck 0 attZ proZ attZ_len proZ_len b hr_b (by have := lt_of_block h156; omega) W (k.bk h156) hb) (enters_of Tryz.func121 (by kernel_rfl) rfl) (fun bv W hbv k hb => dat1_2 bv gs ge gl d a.t ct ck 0 b.cl proZ (Att.tl hr_b) proZ_len p hp h P W hmx hb (k.bk h158) (k.bk h159) (k.bk h157) (k.bk h152))) fun V162 kV162 => ?_
  have ⟨h165, h166, h168⟩ := kV162.k3 h150 h151 h153
  have h169 : Keeps (One res) V29 V162 := h154.nn kV162
  have ⟨K176, z177, h170⟩ := kV162.z1 K160 h155
  refine ⟨⟨h170, h166, h165⟩, ?_⟩
  rcases (show (sm = true ∧ ck = 0) ∨ (sm = true ∧ ¬ ck = 0) ∨ sm = false by cases sm <;> simp; omega) with ⟨rfl, hk0⟩ | ⟨rfl, hk0⟩ | rfl
  ·obtain rfl : rb = false := by rw [hrb]; simp [hk0]
   refine ka [12, 13] ⟨h170, h166, h165⟩ <| avq 14 _ (fun W hS => nqf ((ck) : Int) ((0) : Int) (by omega)) ⟨h170, h166, h165⟩ <| ka [15] ⟨h170, h166, h165⟩ <| an_o 16 <| nst 57 res ((vdC ck b.cl proZ (p.first (max (max 0 a.t) ct)).1)) h168 (by rw [vdC_size (Att.tl hr_b) proZ_len]; kernel_rfl) (by rw [vdC_size (Att.tl hr_b) proZ_len]; rfl) (vdC_one b) fun V178 h179 kV178 => ?_
   have ⟨h182, h183⟩ := kV178.ko2 h165 h166
   have h185 : Keeps (One res) V29 V178 := h169.then kV178 (fun i _ hm => hm)
   have ⟨K192, z193, h186⟩ := kV178.zo1 K176 h170
   refine ⟨⟨h186, h183, h182⟩, ?_⟩
   refine an_o 17 <| nrq (.bool false) (w' := V178) (by kernel_rfl) ?_
   refine ⟨⟨h186, h183, h182⟩, ?_⟩
   refine ane <| then_n <| u_ <| sy_out (.tuple #[.agg (vdC ck b.cl proZ ((p.first (max (max 0 a.t) ct)).1)), .bool false]) rfl (rrt 57 res h179 Tryz.underlying57 (by rw [vdC_size (Att.tl hr_b) proZ_len]; kernel_rfl)) ?_
   exact ⟨rfl, hSV29.of_keeps h185 (fun e => by unfold Own.One at e; omega) (fun j hj e => by have := hS.fp j hj; unfold Own.One at e; omega) (fun _ h => h) hSV29.nb (fun j hj => Nat.lt_of_lt_of_le (hSV29.fp j hj) h185.size), rec_typ hRV29 hresV29 h185, K192⟩
  ·obtain rfl : rb = true := by rw [hrb]; simp [hk0]
   refine ka [12, 13] ⟨h170, h166, h165⟩ <| avq 14 _ (fun W hS => nqt ((ck) : Int) ((0) : Int) (by omega)) ⟨h170, h166, h165⟩ <| ka [15] ⟨h170, h166, h165⟩ <| an_o 16 <| nst 57 res ((vdC ck b.cl proZ (p.first (max (max 0 a.t) ct)).1)) h168 (by rw [vdC_size (Att.tl hr_b) proZ_len]; kernel_rfl) (by rw [vdC_size (Att.tl hr_b) proZ_len]; rfl) (vdC_one b) fun V194 h195 kV194 => ?_
   have ⟨h198, h199⟩ := kV194.ko2 h165 h166
   have h201 : Keeps (One res) V29 V194 := h169.then kV194 (fun i _ hm => hm)
   have ⟨K208, z209, h202⟩ := kV194.zo1 K176 h170
   refine ⟨⟨h202, h199, h198⟩, ?_⟩
   refine an_o 17 <| nrq (.bool true) (w' := V194) (by kernel_rfl) ?_
   refine ⟨⟨h202, h199, h198⟩, ?_⟩
   refine ane <| then_n <| u_ <| sy_out (.tuple #[.agg (vdC ck b.cl proZ ((p.first (max (max 0 a.t) ct)).1)), .bool true]) rfl (rrt 57 res h195 Tryz.underlying57 (by rw [vdC_size (Att.tl hr_b) proZ_len]; kernel_rfl)) ?_
   exact ⟨rfl, hSV29.of_keeps h201 (fun e => by unfold Own.One at e; omega) (fun j hj e => by have := hS.fp j hj; unfold Own.One at e; omega) (fun _ h => h) hSV29.nb (fun j hj => Nat.lt_of_lt_of_le (hSV29.fp j hj) h201.size), rec_typ hRV29 hresV29 h201, K208⟩
  ·obtain rfl : rb = false := hrb
   refine ka [12, 13, 14, 15] ⟨h170, h166, h165⟩ <| an_o 16 <| nst 57 res ((vdC ck b.cl proZ (p.first (max (max 0 a.t) ct)).1)) h168 (by rw [vdC_size (Att.tl hr_b) proZ_len]; kernel_rfl) (by rw [vdC_size (Att.tl hr_b) proZ_len]; rfl) (vdC_one b) fun V210 h211 kV210 => ?_
   have ⟨h214, h215⟩ := kV210.ko2 h165 h166
   have h217 : Keeps (One res) V29 V210 := h169.then kV210 (fun i _ hm => hm)
   have ⟨K224, z225, h218⟩ := kV210.zo1 K176 h170
   refine ⟨⟨h218, h215, h214⟩, ?_⟩
   refine an_o 17 <| nrq (.bool false) (w' := V210) (by kernel_rfl) ?_
   refine ⟨⟨h218, h215, h214⟩, ?_⟩
   refine ane <| then_n <| u_ <| sy_out (.tuple #[.agg (vdC ck b.cl proZ ((p.first (max (max 0 a.t) ct)).1)), .bool false]) rfl (rrt 57 res h211 Tryz.underlying57 (by rw [vdC_size (Att.tl hr_b) proZ_len]; kernel_rfl)) ?_
   exact ⟨rfl, hSV29.of_keeps h217 (fun e => by unfold Own.One at e; omega) (fun j hj e => by have := hS.fp j hj; unfold Own.One at e; omega) (fun _ h => h) hSV29.nb (fun j hj => Nat.lt_of_lt_of_le (hSV29.fp j hj) h217.size), rec_typ hRV29 hresV29 h217, K224⟩
 ·obtain ⟨V226, eV226, gl, egl, h227, kV226⟩ := alloc_step V77 (#[.int .i64 a.t, .int .i64 ct]) 3
  have n228 := nl egl h78
  have n229 := nl egl h79
  have n230 := nl egl h80
  have n231 := nl egl h81
  have n232 := nl egl h82
  have n233 := nl egl h83
  have n234 := nl egl h85
  have n235 := nk egl K86
  refine nrq (.slice (some ⟨gl, 0, none⟩) 2 2) (w' := V226) (by rw [← eV226, ← egl]; kernel_rfl) ?_
  have ⟨h236, h237, h238, h239, h240, h241⟩ := kV226.k6 h78 h79 h80 h81 h82 h83
  have h242 : Keeps (One res) V29 V226 := h84.nn kV226
  have ⟨K244, z245, h243⟩ := kV226.z1 K86 h85
  refine ⟨⟨h243, h239, h238⟩, ?_⟩
  refine an_o 2 ?_
  refine ncq 86 #[.agg (Att.c b)] Tryz.func86 ((dby_ok b _).mono ?_)
  rintro e V246 ⟨gy, rfl, hgyV246, nyV246, kV246⟩
  refine ⟨_, rfl, ?_⟩
  have ⟨h247, h248, h249, h250, h251, h252⟩ := kV246.k6 h236 h237 h238 h239 h240 h241
  have h253 : Keeps (One res) V29 V246 := h242.nn kV246
  have ⟨K256, z257, h254, h255⟩ := kV246.z2 K244 h243 h227
  refine ⟨⟨h254, h250, h249⟩, ?_⟩
  refine an_o 8 ?_
  refine ncq 87 #[pT d 0, .slice (some ⟨gl, 0, none⟩) 2 2] Tryz.func87 ((dat_ok d gl 2 _).mono ?_)
  rintro e V258 ⟨gs, ge, rfl, hgsV258, hgeV258, nsV258, neV258, kV258⟩
  refine ⟨_, rfl, ?_⟩
  have ⟨h259, h260, h261, h262, h263, h264⟩ := kV258.k6 h247 h248 h249 h250 h251 h252
  have h265 : Keeps (One res) V29 V258 := h253.nn kV258
  have ⟨K269, z270, h266, h267, h268⟩ := kV258.z3 K256 h254 h255 hgyV246
  refine ⟨⟨h266, h262, h261⟩, ?_⟩
  refine an_o 9 ?_
  obtain ⟨V271, eV271, go1, ego1, h272, kV271⟩ := alloc_step V258 (#[.func (.func 120) #[] #[pT gy 0], .func (.func 121) #[] #[pT gs 0, pT ge 0]]) 144
  have n273 := nl ego1 h259
  have n274 := nl ego1 h260
  have n275 := nl ego1 h261
  have n276 := nl ego1 h262
  have n277 := nl ego1 h263
  have n278 := nl ego1 h264
  have n279 := nl ego1 h266
  have n280 := nl ego1 h267
  have n281 := nl ego1 h268
  have n282 := nl ego1 hgsV258
  have n283 := nl ego1 hgeV258
  have n284 := nk ego1 K269
  refine nrq (.slice (some ⟨go1, 0, none⟩) 2 2) (w' := V271) (by rw [← eV271, ← ego1]; kernel_rfl) ?_
  have ⟨h287, h288, h289, h290⟩ := kV271.k4 h261 h262 h263 h264
  have h291 : Keeps (One res) V29 V271 := h265.nn kV271
  have ⟨K297, z298, h292, h293, h294, h295, h296⟩ := kV271.z5 K269 h266 h267 h268 hgsV258 hgeV258
  refine ⟨⟨h292, h288, h287⟩, ?_⟩
  refine an_o 10 ?_
  refine ncr 56 #[.int .i64 ck, .slice (some ⟨go1, 0, none⟩) 2 2] Tryz.func56 (dverdict_two ck 120 (pT gy 0) b.cl proZ 0 (Att.tl hr_b) proZ_len 121 (pT gs 0) (pT ge 0) b.cl proZ (p.first (max (max 0 a.t) ct)).1 (Att.tl hr_b) proZ_len (vdC_one b) go1 _ h272 (enters_of Tryz.func120 (by kernel_rfl) rfl) (fun bv W hbv k hb => dby1_ok bv gy ck 0 attZ proZ attZ_len proZ_len b hr_b (by have := lt_of_block h294; omega) W (k.bk h294) hb) (enters_of Tryz.func121 (by kernel_rfl) rfl) (fun bv W hbv k hb => dat1_2 bv gs ge gl d a.t ct ck 0 b.cl proZ (Att.tl hr_b) proZ_len p hp h P W hmx hb (k.bk h295) (k.bk h296) (k.bk h293) (k.bk h289))) fun V299 kV299 => ?_
  have ⟨h302, h303, h305⟩ := kV299.k3 h287 h288 h290
  have h306 : Keeps (One res) V29 V299 := h291.nn kV299
  have ⟨K313, z314, h307⟩ := kV299.z1 K297 h292
  refine ⟨⟨h307, h303, h302⟩, ?_⟩
  rcases (show (sm = true ∧ ck = 0) ∨ (sm = true ∧ ¬ ck = 0) ∨ sm = false by cases sm <;> simp; omega) with ⟨rfl, hk0⟩ | ⟨rfl, hk0⟩ | rfl
  ·obtain rfl : rb = false := by rw [hrb]; simp [hk0]
   refine ka [12, 13] ⟨h307, h303, h302⟩ <| avq 14 _ (fun W hS => nqf ((ck) : Int) ((0) : Int) (by omega)) ⟨h307, h303, h302⟩ <| ka [15] ⟨h307, h303, h302⟩ <| an_o 16 <| nst 57 res ((vdC ck b.cl proZ (p.first (max (max 0 a.t) ct)).1)) h305 (by rw [vdC_size (Att.tl hr_b) proZ_len]; kernel_rfl) (by rw [vdC_size (Att.tl hr_b) proZ_len]; rfl) (vdC_one b) fun V315 h316 kV315 => ?_
   have ⟨h319, h320⟩ := kV315.ko2 h302 h303
   have h322 : Keeps (One res) V29 V315 := h306.then kV315 (fun i _ hm => hm)
   have ⟨K329, z330, h323⟩ := kV315.zo1 K313 h307
   refine ⟨⟨h323, h320, h319⟩, ?_⟩
   refine an_o 17 <| nrq (.bool false) (w' := V315) (by kernel_rfl) ?_
   refine ⟨⟨h323, h320, h319⟩, ?_⟩
   refine ane <| then_n <| u_ <| sy_out (.tuple #[.agg (vdC ck b.cl proZ ((p.first (max (max 0 a.t) ct)).1)), .bool false]) rfl (rrt 57 res h316 Tryz.underlying57 (by rw [vdC_size (Att.tl hr_b) proZ_len]; kernel_rfl)) ?_
   exact ⟨rfl, hSV29.of_keeps h322 (fun e => by unfold Own.One at e; omega) (fun j hj e => by have := hS.fp j hj; unfold Own.One at e; omega) (fun _ h => h) hSV29.nb (fun j hj => Nat.lt_of_lt_of_le (hSV29.fp j hj) h322.size), rec_typ hRV29 hresV29 h322, K329⟩
  ·obtain rfl : rb = true := by rw [hrb]; simp [hk0]
   refine ka [12, 13] ⟨h307, h303, h302⟩ <| avq 14 _ (fun W hS => nqt ((ck) : Int) ((0) : Int) (by omega)) ⟨h307, h303, h302⟩ <| ka [15] ⟨h307, h303, h302⟩ <| an_o 16 <| nst 57 res ((vdC ck b.cl proZ (p.first (max (max 0 a.t) ct)).1)) h305 (by rw [vdC_size (Att.tl hr_b) proZ_len]; kernel_rfl) (by rw [vdC_size (Att.tl hr_b) proZ_len]; rfl) (vdC_one b) fun V331 h332 kV331 => ?_
   have ⟨h335, h336⟩ := kV331.ko2 h302 h303
   have h338 : Keeps (One res) V29 V331 := h306.then kV331 (fun i _ hm => hm)
   have ⟨K345, z346, h339⟩ := kV331.zo1 K313 h307
   refine ⟨⟨h339, h336, h335⟩, ?_⟩
   refine an_o 17 <| nrq (.bool true) (w' := V331) (by kernel_rfl) ?_
   refine ⟨⟨h339, h336, h335⟩, ?_⟩
   refine ane <| then_n <| u_ <| sy_out (.tuple #[.agg (vdC ck b.cl proZ ((p.first (max (max 0 a.t) ct)).1)), .bool true]) rfl (rrt 57 res h332 Tryz.underlying57 (by rw [vdC_size (Att.tl hr_b) proZ_len]; kernel_rfl)) ?_
   exact ⟨rfl, hSV29.of_keeps h338 (fun e => by unfold Own.One at e; omega) (fun j hj e => by have := hS.fp j hj; unfold Own.One at e; omega) (fun _ h => h) hSV29.nb (fun j hj => Nat.lt_of_lt_of_le (hSV29.fp j hj) h338.size), rec_typ hRV29 hresV29 h338, K345⟩
  ·obtain rfl : rb = false := hrb
   refine ka [12, 13, 14, 15] ⟨h307, h303, h302⟩ <| an_o 16 <| nst 57 res ((vdC ck b.cl proZ (p.first (max (max 0 a.t) ct)).1)) h305 (by rw [vdC_size (Att.tl hr_b) proZ_len]; kernel_rfl) (by rw [vdC_size (Att.tl hr_b) proZ_len]; rfl) (vdC_one b) fun V347 h348 kV347 => ?_
   have ⟨h351, h352⟩ := kV347.ko2 h302 h303
   have h354 : Keeps (One res) V29 V347 := h306.then kV347 (fun i _ hm => hm)
   have ⟨K361, z362, h355⟩ := kV347.zo1 K313 h307
   refine ⟨⟨h355, h352, h351⟩, ?_⟩
   refine an_o 17 <| nrq (.bool false) (w' := V347) (by kernel_rfl) ?_
   refine ⟨⟨h355, h352, h351⟩, ?_⟩
   refine ane <| then_n <| u_ <| sy_out (.tuple #[.agg (vdC ck b.cl proZ ((p.first (max (max 0 a.t) ct)).1)), .bool false]) rfl (rrt 57 res h348 Tryz.underlying57 (by rw [vdC_size (Att.tl hr_b) proZ_len]; kernel_rfl)) ?_
   exact ⟨rfl, hSV29.of_keeps h354 (fun e => by unfold Own.One at e; omega) (fun j hj e => by have := hS.fp j hj; unfold Own.One at e; omega) (fun _ h => h) hSV29.nb (fun j hj => Nat.lt_of_lt_of_le (hSV29.fp j hj) h354.size), rec_typ hRV29 hresV29 h354, K361⟩
end
section
open Go Go.RowKit Go.Own Go.Shelf
def surr (a b : Att) : Bool := decide (a.fine ∧ b.fine ∧ a.v = b.v ∧ a.s < b.s ∧ a.t > b.t)
end
section
open Go Go.RowKit Go.Own Go.Shelf
theorem pair_any {α : Type} {R : α → α → Prop} {l : List α} (h : l.Pairwise R) {a b : α} (ha : a ∈ l) (hb : b ∈ l) : a = b ∨ R a b ∨ R b a := by
  induction l with
  | nil => cases ha
  | cons x r ih =>
    rw [List.pairwise_cons] at h
    rcases List.mem_cons.1 ha with e1 | e1
    · rcases List.mem_cons.1 hb with e2 | e2
      · exact .inl (e1.trans e2.symm)
      · rw [e1]; exact .inr (.inl (h.1 b e2))
    · rcases List.mem_cons.1 hb with e2 | e2
      · rw [e2]; exact .inr (.inr (h.1 a e1))
      · exact ih h.2 e1 e2
theorem find_by {α : Type} {R : α → α → Prop} {l : List α} (hs : l.Pairwise R) {P : α → Bool} {w : α} (h : l.find? P = some w) : w ∈ l ∧ P w = true ∧ ∀ b ∈ l, P b = true → b = w ∨ R w b := by
  induction l with
  | nil => cases h
  | cons x r ih =>
    rw [List.find?_cons] at h
    rw [List.pairwise_cons] at hs
    cases hx : P x with
    | true =>
      rw [hx] at h
      simp only [Option.some.injEq] at h
      subst h
      exact ⟨by simp, hx, fun b hb _ => by
        rcases List.mem_cons.1 hb with rfl | hb
        · exact .inl rfl
        · exact .inr (hs.1 b hb)⟩
    | false =>
      rw [hx] at h
      obtain ⟨a, b, c⟩ := ih hs.2 h
      exact ⟨by simp [a], b, fun y hy hp => by
        rcases List.mem_cons.1 hy with rfl | hy
        · rw [hx] at hp; cases hp
        · exact c y hy hp⟩
theorem mem_epochs {lo E t : Int} : t ∈ Sp.epochs lo E ↔ lo ≤ t ∧ t ≤ E := by
  unfold Sp.epochs
  simp only [List.mem_map, List.mem_range]
  constructor
  · rintro ⟨j, hj, rfl⟩; omega
  · rintro ⟨h1, h2⟩; exact ⟨(t - lo).toNat, by omega, by omega⟩
theorem epochs_sorted (lo E : Int) : (Sp.epochs lo E).Pairwise (· < ·) := by
  unfold Sp.epochs
  rw [List.pairwise_map]
  exact List.pairwise_lt_range.imp (fun h => by omega)
theorem sorted_eq {α : Type} (key : α → Int) : ∀ {l m : List α}, l.Pairwise (fun a b => key a < key b) → m.Pairwise (fun a b => key a < key b) → (∀ b, b ∈ l ↔ b ∈ m) → l = m
  | [], m, _, _, h => by
    cases m with
    | nil => rfl
    | cons y s => exact absurd ((h y).2 (by simp)) (by simp)
  | x :: r, m, hl, hm, h => by
    rw [List.pairwise_cons] at hl
    cases m with
    | nil => exact absurd ((h x).1 (by simp)) (by simp)
    | cons y s =>
      rw [List.pairwise_cons] at hm
      have e : x = y := by
        rcases List.mem_cons.1 ((h x).1 (by simp)) with e | e
        · exact e
        · rcases List.mem_cons.1 ((h y).2 (by simp)) with e' | e'
          · exact e'.symm
          · have := hm.1 x e; have := hl.1 y e'; omega
      subst e
      rw [sorted_eq key hl.2 hm.2 fun b => ?_]
      constructor
      · intro hb
        rcases List.mem_cons.1 ((h b).1 (by simp [hb])) with e | e
        · subst e; exact absurd (hl.1 b hb) (Int.lt_irrefl _)
        · exact e
      · intro hb
        rcases List.mem_cons.1 ((h b).2 (by simp [hb])) with e | e
        · subst e; exact absurd (hm.1 b hb) (Int.lt_irrefl _)
        · exact e
theorem items_nil {α : Type} (low n : Nat) : items (fun _ => (none : Option α)) low n = [] := by
  induction n with
  | zero => rfl
  | succ n ih => rw [items_succ, ih]; rfl
def votesOf (p : Par) (h : Int) (A : List Att) (v : Int) : List Att := (Sp.epochs (dlo p h) (dep p h)).flatMap fun t => A.filter fun a => decide (a.v = v ∧ a.t = t)
def blocksOf (p : Par) (h : Int) (Q : List Pro) (v : Int) : List Pro := Q.foldl (fun l q => if q.v = v ∧ dfl p h ≤ q.h then insK (·.h) l q else l) []
section
variable {p : Par} {h : Int} {A : List Att} {Q : List Pro} {v : Int}
theorem mem_votes {b : Att} : b ∈ votesOf p h A v ↔ b ∈ A ∧ b.v = v ∧ dlo p h ≤ b.t ∧ b.t ≤ dep p h := by
  unfold votesOf
  simp only [List.mem_flatMap, List.mem_filter, decide_eq_true_eq, mem_epochs]
  constructor
  · rintro ⟨t, ⟨h1, h2⟩, h3, h4, rfl⟩; exact ⟨h3, h4, h1, h2⟩
  · rintro ⟨h1, h2, h3, h4⟩; exact ⟨b.t, ⟨h3, h4⟩, h1, h2, rfl⟩
theorem votes_sorted (ua : A.Pairwise fun a b => ¬ (a.v = b.v ∧ a.t = b.t)) : (votesOf p h A v).Pairwise fun a b => a.t < b.t := by
  unfold votesOf
  rw [List.pairwise_flatMap]
  refine ⟨fun t _ => ?_, (epochs_sorted _ _).imp fun {t u} htu x hx y hy => ?_⟩
  · refine List.Pairwise.imp_of_mem ?_ (ua.filter (fun a => decide (a.v = v ∧ a.t = t)))
    intro a b ha hb hn
    have a1 := (List.mem_filter.1 ha).2
    have b1 := (List.mem_filter.1 hb).2
    simp only [decide_eq_true_eq] at a1 b1
    exact absurd ⟨by rw [a1.1, b1.1], by rw [a1.2, b1.2]⟩ hn
  · have a1 := (List.mem_filter.1 hx).2
    have b1 := (List.mem_filter.1 hy).2
    simp only [decide_eq_true_eq] at a1 b1
    rw [a1.2, b1.2]; exact htu
theorem votes_uniq (ua : A.Pairwise fun a b => ¬ (a.v = b.v ∧ a.t = b.t)) {a b : Att} (ha : a ∈ A) (hb : b ∈ A) (hv : a.v = b.v) (ht : a.t = b.t) : a = b := by
  rcases pair_any ua ha hb with e | e | e
  · exact e
  · exact absurd ⟨hv, ht⟩ e
  · exact absurd ⟨hv.symm, ht.symm⟩ e
theorem pros_uniq (ua : Q.Pairwise fun a b => ¬ (a.v = b.v ∧ a.h = b.h)) {a b : Pro} (ha : a ∈ Q) (hb : b ∈ Q) (hv : a.v = b.v) (ht : a.h = b.h) : a = b := by
  rcases pair_any ua ha hb with e | e | e
  · exact e
  · exact absurd ⟨hv, ht⟩ e
  · exact absurd ⟨hv.symm, ht.symm⟩ e
theorem va_some (q : DInv p h A Q) {t : Int} {w : Att} : vaOf A v (dlo p h) t = some w ↔ w ∈ votesOf p h A v ∧ w.t = t := by
  rw [mem_votes]
  unfold vaOf
  constructor
  · intro e
    split at e
    · cases e
    · have h1 := List.mem_of_find?_eq_some e
      have h2 := List.find?_some e
      simp only [decide_eq_true_eq] at h2
      have h3 := (q.a w h1).2.2.2
      exact ⟨⟨h1, h2.1, by omega, h3⟩, h2.2⟩
  · rintro ⟨⟨h1, h2, h3, h4⟩, h5⟩
    rw [if_neg (by omega)]
    cases hf : A.find? fun a => decide (a.v = v ∧ a.t = t) with
    | none =>
      have := (List.find?_eq_none.1 hf) w h1
      simp [h2, h5] at this
    | some u =>
      have g1 := List.mem_of_find?_eq_some hf
      have g2 := List.find?_some hf
      simp only [decide_eq_true_eq] at g2
      rw [votes_uniq q.ua g1 h1 (by rw [g2.1, h2]) (by rw [g2.2, h5])]
theorem va_none (q : DInv p h A Q) {t : Int} : vaOf A v (dlo p h) t = none ↔ ∀ w ∈ votesOf p h A v, w.t ≠ t := by
  constructor
  · intro e w hw ht
    have := (va_some q).2 ⟨hw, ht⟩
    rw [e] at this; cases this
  · intro hn
    cases hf : vaOf A v (dlo p h) t with
    | none => rfl
    | some w => have := (va_some q).1 hf; exact absurd this.2 (hn w this.1)
theorem vb_some (q : DInv p h A Q) {t : Int} {w : Pro} : vbOf Q v (dfl p h) t = some w ↔ (w ∈ Q ∧ w.v = v ∧ dfl p h ≤ w.h) ∧ w.h = t := by
  unfold vbOf
  constructor
  · intro e
    split at e
    · cases e
    · have h1 := List.mem_of_find?_eq_some e
      have h2 := List.find?_some e
      simp only [decide_eq_true_eq] at h2
      exact ⟨⟨h1, h2.1, by omega⟩, h2.2⟩
  · rintro ⟨⟨h1, h2, h3⟩, h5⟩
    rw [if_neg (by omega)]
    cases hf : Q.find? fun a => decide (a.v = v ∧ a.h = t) with
    | none =>
      have := (List.find?_eq_none.1 hf) w h1
      simp [h2, h5] at this
    | some u =>
      have g1 := List.mem_of_find?_eq_some hf
      have g2 := List.find?_some hf
      simp only [decide_eq_true_eq] at g2
      rw [pros_uniq q.uq g1 h1 (by rw [g2.1, h2]) (by rw [g2.2, h5])]
end
structure Vd where
  (k : Int) (a : Att) (b : Pro) (f : Int)
  deriving DecidableEq
def Vd.z : Vd := ⟨0, zAtt, zPro, 0⟩
def dJudge2 (p : Par) (l : List Att) (a : Att) : Vd :=
  match l.reverse.find? (fun b => surr b a) with
  | some w => ⟨4, w, zPro, (p.first (max a.t w.t)).1⟩
  | none => Vd.z
def dJudge (p : Par) (l : List Att) (a : Att) : Vd :=
  match l.find? (fun b => decide (b.t = a.t)) with
  | some w => if a.dg == w.dg then ⟨1, w, zPro, 0⟩ else ⟨2, w, zPro, (p.first (max a.t w.t)).1⟩
  | none =>
    match l.find? (fun b => decide (b.s > a.s)) with
    | some w => if w.t < a.t then ⟨3, w, zPro, (p.first (max a.t w.t)).1⟩ else dJudge2 p l a
    | none => dJudge2 p l a
def pJudge2 (p : Par) (h : Int) (A : List Att) (a : Att) (c : Int × Int) : Vd :=
  match vaOf A a.v (dlo p h) c.2 with
  | some w => if c.1 = 0 then Vd.z else ⟨c.1, w, zPro, (p.first (max (max 0 a.t) c.2)).1⟩
  | none => Vd.z
def pJudge (p : Par) (h : Int) (A : List Att) (a : Att) : Vd :=
  match vaOf A a.v (dlo p h) a.t with
  | some w => if a.dg == w.dg then ⟨1, w, zPro, 0⟩ else ⟨2, w, zPro, (p.first (max 0 a.t)).1⟩
  | none => pJudge2 p h A a (Sp.clashOf p.win (dep p h) a.s a.t (Sp.viewOf (prs A a.v)))
structure Comes (p : Par) (h : Int) (a : Att) : Prop where
  fine : a.fine
  st : a.s ≤ a.t
  hi : a.t ≤ dep p h
  lo : dlo p h ≤ a.s
section
variable {p : Par} {h : Int} {A : List Att} {Q : List Pro} {a : Att}
theorem mem_prs {v s t : Int} : (s, t) ∈ prs A v ↔ ∃ u ∈ A, u.v = v ∧ u.s = s ∧ u.t = t := by
  unfold prs
  simp only [List.mem_map, List.mem_filter, decide_eq_true_eq, Prod.mk.injEq]
  constructor
  · rintro ⟨u, ⟨h1, h2⟩, h3, h4⟩; exact ⟨u, h1, h2, h3, h4⟩
  · rintro ⟨u, h1, h2, h3, h4⟩; exact ⟨u, ⟨h1, h2⟩, h3, h4⟩
theorem view_is (A : List Att) (v e : Int) : Sp.MinOf (Sp.viewOf (prs A v) e).1 (fun t => ∃ u ∈ A, u.v = v ∧ e < u.s ∧ u.t = t) ∧ Sp.MaxOf (Sp.viewOf (prs A v) e).2 (fun t => ∃ u ∈ A, u.v = v ∧ u.s < e ∧ e < u.t ∧ u.t = t) := by
  obtain ⟨h1, h2⟩ := Sp.view_fold e (prs A v) (none, none) (fun _ => False) (fun _ => False) (fun _ h => h) (fun _ h => h)
  refine ⟨h1.to fun t => ?_, h2.to fun t => ?_⟩
  · constructor
    · rintro (x | ⟨⟨s, t'⟩, hu, h3, rfl⟩)
      · exact x.elim
      · obtain ⟨u, g1, g2, rfl, rfl⟩ := mem_prs.1 hu
        exact ⟨u, g1, g2, h3, rfl⟩
    · rintro ⟨u, g1, g2, h3, rfl⟩
      exact .inr ⟨(u.s, u.t), mem_prs.2 ⟨u, g1, g2, rfl, rfl⟩, h3, rfl⟩
  · constructor
    · rintro (x | ⟨⟨s, t'⟩, hu, h3, h4, rfl⟩)
      · exact x.elim
      · obtain ⟨u, g1, g2, rfl, rfl⟩ := mem_prs.1 hu
        exact ⟨u, g1, g2, h3, h4, rfl⟩
    · rintro ⟨u, g1, g2, h3, h4, rfl⟩
      exact .inr ⟨(u.s, u.t), mem_prs.2 ⟨u, g1, g2, rfl, rfl⟩, h3, h4, rfl⟩
theorem judge_back (q : DInv p h A Q) (c : Comes p h a) : pJudge2 p h A a (if (Sp.tellOf p.win (dep p h) a.s (Sp.viewOf (prs A a.v) a.s).2).2 = true ∧ a.t < (Sp.tellOf p.win (dep p h) a.s (Sp.viewOf (prs A a.v) a.s).2).1 then (4, (Sp.tellOf p.win (dep p h) a.s (Sp.viewOf (prs A a.v) a.s).2).1) else (0, 0)) = dJudge2 p (votesOf p h A a.v) a := by
  have hso := votes_sorted (p := p) (h := h) (v := a.v) q.ua
  have hr : (votesOf p h A a.v).reverse.Pairwise fun a b => b.t < a.t := List.pairwise_reverse.2 hso
  have ht : Sp.tellOf p.win (dep p h) a.s (Sp.viewOf (prs A a.v) a.s).2 = ((Sp.viewOf (prs A a.v) a.s).2.getD 0, (Sp.viewOf (prs A a.v) a.s).2.isSome) := by
    unfold Sp.tellOf; rw [dlow_is, if_pos ⟨c.lo, by have := c.st; have := c.hi; omega⟩]
  rw [ht]
  have h0 : ∀ x, pJudge2 p h A a (0, x) = Vd.z := fun x => by unfold pJudge2; split <;> rfl
  have hz : (∀ b ∈ votesOf p h A a.v, ¬ (b.s < a.s ∧ a.t < b.t)) → dJudge2 p (votesOf p h A a.v) a = Vd.z := fun hn => by
    have hf : (votesOf p h A a.v).reverse.find? (fun b => surr b a) = none := by
      rw [List.find?_eq_none]
      intro b hb hs
      simp only [surr, decide_eq_true_eq] at hs
      exact hn b (List.mem_reverse.1 hb) ⟨hs.2.2.2.1, hs.2.2.2.2⟩
    unfold dJudge2; rw [hf]
  have hM := (view_is A a.v a.s).2
  have hin : ∀ b ∈ votesOf p h A a.v, b.s < a.s → a.t < b.t → ∃ u ∈ A, u.v = a.v ∧ u.s < a.s ∧ a.s < u.t ∧ u.t = b.t := fun b hb h1 h2 => by
    obtain ⟨g1, g2, _, _⟩ := mem_votes.1 hb
    exact ⟨b, g1, g2, h1, by have := c.st; omega, rfl⟩
  cases hv : (Sp.viewOf (prs A a.v) a.s).2 with
  | none =>
    rw [hv] at hM
    simp only [Option.isSome_none, Bool.false_eq_true, false_and, if_false]
    rw [h0, hz fun b hb ⟨h1, h2⟩ => hM b.t (hin b hb h1 h2)]
  | some m =>
    rw [hv] at hM
    obtain ⟨⟨u, g1, g2, g3, g4, g5⟩, hmax⟩ := hM
    simp only [Option.getD_some, Option.isSome_some, true_and]
    by_cases hm : a.t < m
    · rw [if_pos hm]
      have hu : u ∈ votesOf p h A a.v := mem_votes.2 ⟨g1, g2, by have := c.lo; have := c.st; omega, (q.a u g1).2.2.2⟩
      have hsu : surr u a = true := by
        simp only [surr, decide_eq_true_eq]
        exact ⟨(q.a u g1).2.1, c.fine, g2, g3, by omega⟩
      unfold pJudge2
      rw [show vaOf A a.v (dlo p h) m = some u from (va_some q).2 ⟨hu, g5⟩]
      unfold dJudge2
      cases hf : (votesOf p h A a.v).reverse.find? (fun b => surr b a) with
      | none => exact absurd hsu ((List.find?_eq_none.1 hf) u (List.mem_reverse.2 hu))
      | some w =>
        obtain ⟨k1, k2, k3⟩ := find_by hr hf
        have k1 := List.mem_reverse.1 k1
        simp only [surr, decide_eq_true_eq] at k2
        have e : u = w := by
          rcases k3 u (List.mem_reverse.2 hu) hsu with e | e
          · exact e
          · have := hmax w.t (hin w k1 k2.2.2.2.1 k2.2.2.2.2); omega
        subst e
        simp only [if_neg (show ¬ (4 : Int) = 0 by decide)]
        rw [show max (max 0 a.t) m = max a.t u.t by have := c.fine.2.2.2.2.1; rw [g5, Int.max_eq_right this]]
    · rw [if_neg hm, h0, hz fun b hb ⟨h1, h2⟩ => by have := hmax b.t (hin b hb h1 h2); omega]
theorem judge_is (q : DInv p h A Q) (c : Comes p h a) : pJudge p h A a = dJudge p (votesOf p h A a.v) a := by
  have hso := votes_sorted (p := p) (h := h) (v := a.v) q.ua
  unfold pJudge dJudge
  have h0 := c.fine.2.2.2.2.1
  cases hv : vaOf A a.v (dlo p h) a.t with
  | some w =>
    obtain ⟨g1, g2⟩ := (va_some q).1 hv
    cases hf : (votesOf p h A a.v).find? (fun b => decide (b.t = a.t)) with
    | none => exact absurd (by simpa using g2) ((List.find?_eq_none.1 hf) w g1)
    | some u =>
      obtain ⟨k1, k2, _⟩ := find_by hso hf
      simp only [decide_eq_true_eq] at k2
      have e : u = w := by
        obtain ⟨a1, a2, _⟩ := mem_votes.1 g1
        obtain ⟨b1, b2, _⟩ := mem_votes.1 k1
        exact votes_uniq q.ua b1 a1 (by rw [a2, b2]) (by rw [k2, g2])
      subst e
      simp only []
      rw [show max 0 a.t = max a.t u.t by rw [k2]; omega]
  | none =>
    have hn := (va_none q).1 hv
    have hf : (votesOf p h A a.v).find? (fun b => decide (b.t = a.t)) = none := List.find?_eq_none.2 fun b hb => by simpa using hn b hb
    rw [hf]
    have hb := judge_back q c
    have ht : Sp.tellOf p.win (dep p h) a.s (Sp.viewOf (prs A a.v) a.s).1 = ((Sp.viewOf (prs A a.v) a.s).1.getD 0, (Sp.viewOf (prs A a.v) a.s).1.isSome) := by
      unfold Sp.tellOf; rw [dlow_is, if_pos ⟨c.lo, by have := c.st; have := c.hi; omega⟩]
    have hM := (view_is A a.v a.s).1
    simp only []
    unfold Sp.clashOf
    rw [ht]
    cases hw : (Sp.viewOf (prs A a.v) a.s).1 with
    | none =>
      rw [hw] at hM
      simp only [Option.isSome_none, Bool.false_eq_true, false_and, if_false]
      rw [hb]
      have hg : (votesOf p h A a.v).find? (fun b => decide (b.s > a.s)) = none := List.find?_eq_none.2 fun b hb => by
        obtain ⟨b1, b2, _⟩ := mem_votes.1 hb
        simp only [decide_eq_true_eq]
        exact fun hc => hM b.t ⟨b, b1, b2, hc, rfl⟩
      rw [hg]
    | some m =>
      rw [hw] at hM
      obtain ⟨⟨u, g1, g2, g3, g4⟩, hmin⟩ := hM
      simp only [Option.getD_some, Option.isSome_some, true_and]
      have hu : u ∈ votesOf p h A a.v := mem_votes.2 ⟨g1, g2, by have := c.lo; have := (q.a u g1).2.2.1; omega, (q.a u g1).2.2.2⟩
      cases hg : (votesOf p h A a.v).find? (fun b => decide (b.s > a.s)) with
      | none => exact absurd (by simpa using g3) ((List.find?_eq_none.1 hg) u hu)
      | some w =>
        obtain ⟨k1, k2, k3⟩ := find_by hso hg
        simp only [decide_eq_true_eq] at k2
        have e : u = w := by
          rcases k3 u hu (by simpa using g3) with e | e
          · exact e
          · obtain ⟨b1, b2, _⟩ := mem_votes.1 k1
            have := hmin w.t ⟨w, b1, b2, k2, rfl⟩; omega
        subst e
        simp only []
        by_cases hm : m < a.t
        · rw [if_pos hm, if_pos (by omega)]
          unfold pJudge2
          rw [show vaOf A a.v (dlo p h) m = some u from (va_some q).2 ⟨hu, g4⟩]
          simp only [if_neg (show ¬ (3 : Int) = 0 by decide)]
          rw [show max (max 0 a.t) m = max a.t u.t by rw [g4, Int.max_eq_right h0]]
        · rw [if_neg hm, if_neg (show ¬ u.t < a.t by omega)]; exact hb
end
section
variable {p : Par} {h : Int} {A : List Att} {Q : List Pro} {v : Int}
theorem mem_insK' {α : Type} {key : α → Int} {l : List α} {a b : α} : b ∈ insK key l a ↔ b = a ∨ b ∈ l := by
  refine ⟨mem_insK, fun h => ?_⟩
  unfold insK
  rcases h with rfl | h
  · simp
  · rw [← List.takeWhile_append_dropWhile (p := fun b => decide (key b < key a)) (l := l)] at h
    rcases List.mem_append.1 h with h | h
    · exact List.mem_append.2 (.inl h)
    · exact List.mem_append.2 (.inr (by simp [h]))
theorem blocks_snoc (q : Pro) : blocksOf p h (Q ++ [q]) v = if q.v = v ∧ dfl p h ≤ q.h then insK (·.h) (blocksOf p h Q v) q else blocksOf p h Q v := by
  unfold blocksOf; rw [List.foldl_append]; rfl
theorem mem_blocks {b : Pro} : b ∈ blocksOf p h Q v ↔ b ∈ Q ∧ b.v = v ∧ dfl p h ≤ b.h := by
  suffices ∀ (R : List Pro), (b ∈ R.reverse.foldl (fun l q => if q.v = v ∧ dfl p h ≤ q.h then insK (·.h) l q else l) [] ↔ b ∈ R ∧ b.v = v ∧ dfl p h ≤ b.h) by
    have := this Q.reverse
    rw [List.reverse_reverse, List.mem_reverse] at this; exact this
  intro R
  induction R with
  | nil => simp
  | cons q R ih =>
    rw [List.reverse_cons, List.foldl_append]
    simp only [List.foldl_cons, List.foldl_nil]
    by_cases hq : q.v = v ∧ dfl p h ≤ q.h
    · rw [if_pos hq, mem_insK', ih, List.mem_cons]
      constructor
      · rintro (rfl | ⟨h1, h2⟩)
        · exact ⟨.inl rfl, hq⟩
        · exact ⟨.inr h1, h2⟩
      · rintro ⟨rfl | h1, h2⟩
        · exact .inl rfl
        · exact .inr ⟨h1, h2⟩
    · rw [if_neg hq, ih, List.mem_cons]
      constructor
      · rintro ⟨h1, h2⟩; exact ⟨.inr h1, h2⟩
      · rintro ⟨rfl | h1, h2⟩
        · exact absurd h2 hq
        · exact ⟨h1, h2⟩
theorem held_vb (q : DInv p h A Q) : Held (·.h) (vbOf Q v (dfl p h)) (dfl p h).toNat (p.win * p.elen).toNat := fun i b hb => by
  obtain ⟨⟨g1, g2, g3⟩, g4⟩ := (vb_some q).1 hb
  have := q.ok.fl
  have := q.ok.mulb
  have := (q.q b g1).2.2
  exact ⟨by omega, by omega, g4⟩
theorem held_va (q : DInv p h A Q) : Held (·.t) (vaOf A v (dlo p h)) (dlo p h).toNat p.win.toNat := fun i b hb => by
  obtain ⟨g1, g2⟩ := (va_some q).1 hb
  obtain ⟨_, _, g3, g4⟩ := mem_votes.1 g1
  have := q.ok.lo
  have := q.ok.bnd
  have : dep p h < dlo p h + p.win := by unfold dlo; omega
  exact ⟨by omega, by omega, g2⟩
theorem DInv.less {q : Pro} (i : DInv p h A (Q ++ [q])) : DInv p h A Q := ⟨i.ok, i.a, fun x hx => i.q x (by simp [hx]), i.ua, (List.pairwise_append.1 i.uq).1⟩
theorem blocks_is (q : DInv p h A Q) : items (vbOf Q v (dfl p h)) (dfl p h).toNat (p.win * p.elen).toNat = blocksOf p h Q v := by
  suffices ∀ (R : List Pro), DInv p h A R.reverse → items (vbOf R.reverse v (dfl p h)) (dfl p h).toNat (p.win * p.elen).toNat = blocksOf p h R.reverse v by
    have := this Q.reverse
    rw [List.reverse_reverse] at this; exact this q
  intro R
  induction R with
  | nil =>
    intro _
    rw [List.reverse_nil, vbOf_none (fun a ha => by cases ha)]
    exact items_nil _ _
  | cons b R ih =>
    intro i
    rw [List.reverse_cons] at i ⊢
    have il := i.less
    have e := ih il
    rw [blocks_snoc]
    by_cases hb : b.v = v ∧ dfl p h ≤ b.h
    · obtain ⟨rfl, hb⟩ := hb
      rw [if_pos ⟨rfl, hb⟩, ← e]
      have hn : vbOf R.reverse b.v (dfl p h) b.h = none := by
        cases hx : vbOf R.reverse b.v (dfl p h) b.h with
        | none => rfl
        | some u =>
          obtain ⟨⟨g1, g2, _⟩, g4⟩ := (vb_some il).1 hx
          exact absurd ⟨g2, g4⟩ ((List.pairwise_append.1 i.uq).2.2 u g1 b (by simp))
      rw [← vbOf_put hb hn]
      have := il.ok.fl
      have hbh := (i.q b (by simp)).2.2
      obtain ⟨t, ht⟩ : ∃ t : Nat, b.h = (t : Int) := ⟨b.h.toNat, by omega⟩
      have := items_put (held_vb (v := b.v) il) (t := t) (a := b) (by omega) (by omega) ht (by rw [← ht]; exact hn)
      rw [← ht] at this; exact this
    · rw [if_neg hb, ← e]
      congr 1
      funext t
      unfold vbOf
      split
      · rfl
      · rw [List.find?_append]
        have hne : ¬ (b.v = v ∧ b.h = t) := fun ⟨x, y⟩ => hb ⟨x, by omega⟩
        simp [hne]
theorem votes_is (q : DInv p h A Q) : items (vaOf A v (dlo p h)) (dlo p h).toNat p.win.toNat = votesOf p h A v := by
  have hs : (items (vaOf A v (dlo p h)) (dlo p h).toNat p.win.toNat).Pairwise fun a b => a.t < b.t := by
    unfold items
    rw [List.pairwise_filterMap]
    refine List.pairwise_lt_range.imp fun {k j} hkj x hx y hy => ?_
    have h1 := ((va_some q).1 hx).2
    have h2 := ((va_some q).1 hy).2
    omega
  refine sorted_eq (fun a : Att => a.t) hs (votes_sorted q.ua) fun b => ?_
  rw [mem_items]
  constructor
  · rintro ⟨k, _, hk⟩; exact ((va_some q).1 hk).1
  · intro hb
    have hv := (va_some q).2 ⟨hb, rfl⟩
    obtain ⟨h1, h2, _⟩ := held_va q _ _ hv
    exact ⟨(b.t - ((dlo p h).toNat : Int)).toNat, by omega, by rw [show (((dlo p h).toNat + (b.t - ((dlo p h).toNat : Int)).toNat : Nat) : Int) = b.t by omega]; exact hv⟩
end
end
section
open Go Go.RowKit Go.Own Go.Shelf
def Vd.c (x : Vd) : Array Value := vdC x.k x.a.cl x.b.cl x.f
structure VdOk (x : Vd) : Prop where
  a : x.a.r.length = 32
  b : x.b.r.length = 32
theorem Vd.c_size {x : Vd} (h : VdOk x) : x.c.size = 73 := vdC_size (Att.tl h.a) (Pro.tl h.b)
theorem Vd.c_one {x : Vd} : x.c.all (·.oneCell') = true := by
  have h1 := Att.c_one x.a
  have h2 := Pro.c_one x.b
  rw [← Array.all_toList] at h1 h2
  unfold Vd.c vdC
  rw [List.all_toArray, List.all_cons, List.all_append, List.all_append, show x.a.cl.all (·.oneCell') = true from h1, show x.b.cl.all (·.oneCell') = true from h2]; rfl
theorem Vd.z_ok : VdOk Vd.z := ⟨by kernel_rfl, by kernel_rfl⟩
def J1 (V : Int → Option Att) (p : Par) (a : Att) : Vd × Bool :=
  match V a.t with
  | none => (Vd.z, false)
  | some b => (if a.dg == b.dg then ⟨1, b, zPro, 0⟩ else ⟨2, b, zPro, (p.first (max 0 a.t)).1⟩, true)
def J2 (V : Int → Option Att) (p : Par) (a : Att) (c : Int × Int) : Vd × Bool :=
  match V c.2 with
  | none => (⟨c.1, zAtt, zPro, (p.first (max (max 0 a.t) c.2)).1⟩, false)
  | some b => (⟨c.1, b, zPro, (p.first (max (max 0 a.t) c.2)).1⟩, decide (c.1 ≠ 0))
theorem pJudge_is (p : Par) (h : Int) (A : List Att) (a : Att) : pJudge p h A a = if (J1 (vaOf A a.v (dlo p h)) p a).2 = true then (J1 (vaOf A a.v (dlo p h)) p a).1 else if (J2 (vaOf A a.v (dlo p h)) p a (Sp.clashOf p.win (dep p h) a.s a.t (Sp.viewOf (prs A a.v)))).2 = true then (J2 (vaOf A a.v (dlo p h)) p a (Sp.clashOf p.win (dep p h) a.s a.t (Sp.viewOf (prs A a.v)))).1 else Vd.z := by
  unfold pJudge J1
  cases vaOf A a.v (dlo p h) a.t with
  | some w => simp
  | none =>
    simp only [Bool.false_eq_true, if_false]
    unfold pJudge2 J2
    cases vaOf A a.v (dlo p h) (Sp.clashOf p.win (dep p h) a.s a.t (Sp.viewOf (prs A a.v))).2 with
    | none => simp
    | some w =>
      by_cases hc : (Sp.clashOf p.win (dep p h) a.s a.t (Sp.viewOf (prs A a.v))).1 = 0
      · simp [hc]
      · simp [hc]
section
variable {gp ga gd d q sp r : Nat} {a : Att} {p : Par} {h : Int} {P : Nat → Option Nat} {v : Int} {A : RD Att} {B : RD Pro} {FP : Nat → Prop} {WW EE : Int} {view : Int → Option Int × Option Int} {w : World}
theorem djudge1_all (ha : a.Ok) (hp : p.Ok) (h0 : 0 ≤ a.t) (hgp : w.heap[gp]? = some (.cells #[.pointer (some ⟨q, 0, none⟩)] 76 (0, 0))) (hq : w.heap[q]? = some (.cells #[.pointer (some ⟨sp, 0, none⟩), .pointer (some ⟨r, 0, none⟩)] 85 (0, 0))) (hga : w.heap[ga]? = some (.cells (Att.c a) 28 (0, 0))) (hgd : w.heap[gd]? = some (.cells #[.pointer (some ⟨d, 0, none⟩)] 22 (0, 0))) (hd : w.heap[d]? = some (.cells (detC p h P) 79 (0, 0))) (hR : RecAt w r v A B) :
    Calls Tryz.prog 83 #[.pointer (some ⟨gp, 0, none⟩), .pointer (some ⟨ga, 0, none⟩), .pointer (some ⟨gd, 0, none⟩)] w fun e w' => e = .returned (.tuple #[.agg (J1 A.V p a).1.c, .bool (J1 A.V p a).2]) ∧ Keeps Nob w w' := by
  unfold J1
  cases hV : A.V a.t with
  | none => exact djudge1_no gp ga gd d q sp r a ha.r p hp h P v A B w hgp hq hga hgd hd hR hV
  | some b =>
    have hb : b.Ok := (hR.a.out _ _ hV).2.2.2
    by_cases hs : (a.dg == b.dg) = true
    · simp only [hs, if_true]
      exact djudge1_same gp ga gd d q sp r a ha.r p hp h P v A B w hgp hq hga hgd hd hR b hV ha hb hb.r hs
    · simp only [hs]
      exact djudge1_other gp ga gd d q sp r a ha.r p hp h P v A B w hgp hq hga hgd hd hR b hV ha hb hb.r (by simpa using hs) (by have := ha.t; constructor <;> omega)
theorem djudge2_all (ha : a.Ok) (hp : p.Ok) (h0 : 0 ≤ a.t) (hgp : w.heap[gp]? = some (.cells #[.pointer (some ⟨q, 0, none⟩)] 76 (0, 0))) (hq : w.heap[q]? = some (.cells #[.pointer (some ⟨sp, 0, none⟩), .pointer (some ⟨r, 0, none⟩)] 85 (0, 0))) (hga : w.heap[ga]? = some (.cells (Att.c a) 28 (0, 0))) (hgd : w.heap[gd]? = some (.cells #[.pointer (some ⟨d, 0, none⟩)] 22 (0, 0))) (hd : w.heap[d]? = some (.cells (detC p h P) 79 (0, 0))) (hS : Sp.SpanView w FP sp WW EE view) (hR : RecAt w r v A B) (hmx : i64ok (max (max 0 a.t) (Sp.clashOf WW EE a.s a.t view).2)) :
    Calls Tryz.prog 88 #[.pointer (some ⟨gp, 0, none⟩), .pointer (some ⟨ga, 0, none⟩), .pointer (some ⟨gd, 0, none⟩)] w fun e w' => e = .returned (.tuple #[.agg (J2 A.V p a (Sp.clashOf WW EE a.s a.t view)).1.c, .bool (J2 A.V p a (Sp.clashOf WW EE a.s a.t view)).2]) ∧ Sp.SpanView w' FP sp WW EE view ∧ RecAt w' r v A B ∧ Keeps (One sp) w w' := by
  unfold J2
  rcases hc : Sp.clashOf WW EE a.s a.t view with ⟨ck, ct⟩
  rw [hc] at hmx
  simp only [] at hmx ⊢
  cases hV : A.V ct with
  | none => exact djudge2_ok gp ga gd d q sp r a ha.r p hp h P v A B FP WW EE view w hgp hq hga hgd hd hS hR ck ct hc hmx zAtt false _ (.inr ⟨rfl, hV, rfl⟩) zAtt_r rfl
  | some b =>
    have hb : b.Ok := (hR.a.out _ _ hV).2.2.2
    by_cases hk : ck = 0
    · simp only [hk, ne_eq, not_true, decide_false]
      subst hk
      exact djudge2_ok gp ga gd d q sp r a ha.r p hp h P v A B FP WW EE view w hgp hq hga hgd hd hS hR 0 ct hc hmx b true _ (.inl ⟨rfl, hV⟩) hb.r rfl
    · simp only [ne_eq, hk, not_false_eq_true, decide_true]
      exact djudge2_ok gp ga gd d q sp r a ha.r p hp h P v A B FP WW EE view w hgp hq hga hgd hd hS hR ck ct hc hmx b true _ (.inl ⟨rfl, hV⟩) hb.r (by simp [hk])
end
def DetT (B : Nat) (w : World) (d : Nat) (p : Par) (h : Int) (A : List Att) (Q : List Pro) (F R : Nat → Prop) (T : (Nat → Option PD) → Prop) : Prop :=
  ∃ P who, DetP w d p h (fun _ => h) A Q P who ∧ T P ∧ (∀ j, DF d P j → F j ∨ B ≤ j) ∧ ∀ j, DR P j → R j ∧ j < B
def AnyP : (Nat → Option PD) → Prop := fun _ => True
def HasP (v : Nat) (x : PD) : (Nat → Option PD) → Prop := fun P => P v = some x
section
variable {B : Nat} {w w' : World} {d : Nat} {p : Par} {h : Int} {A : List Att} {Q : List Pro} {F R : Nat → Prop} {T : (Nat → Option PD) → Prop}
theorem DetT.keepsN (s : DetT B w d p h A Q F R T) (k : Keeps Nob w w') : DetT B w' d p h A Q F R T := let ⟨P, who, a, b⟩ := s; ⟨P, who, a.keepsN k, b⟩
theorem DetT.any (s : DetT B w d p h A Q F R T) : DetT B w d p h A Q F R AnyP := let ⟨P, who, a, _, b⟩ := s; ⟨P, who, a, trivial, b⟩
theorem DetT.one (s : DetT B w d p h A Q F R T) {g : Nat} {cs : Array Value} {U : TypeId} (hg : w.heap[g]? = some (.cells cs U (0, 0))) (hB : B ≤ g) (k : Keeps (One g) w w')
    (h5 : 79 ≠ U := by decide) (h0 : 161 ≠ U := by decide) (h1 : 184 ≠ U := by decide) (h2 : 185 ≠ U := by decide) (h3 : 192 ≠ U := by decide) (h4 : 168 ≠ U := by decide)
    (u1 : U ≠ 85 := by decide) (u2 : U ≠ 122 := by decide) (u3 : U ≠ 28 := by decide) (u4 : U ≠ 37 := by decide) : DetT B w' d p h A Q F R T := by
  obtain ⟨P, who, a, b, c, e⟩ := s
  refine ⟨P, who, a.keeps k (fun j hj (hm : j = g) => ?_) (fun j hj (hm : j = g) => ?_) ⟨Odd.one hg u1, Odd.one hg u2, Odd.one hg u3, Odd.one hg u4⟩, b, c, e⟩
  · subst hm; exact a.odd h5 h0 h1 h2 h3 h4 _ _ _ hj hg
  · subst hm; have := (e j hj).2; omega
theorem DetT.f_of (s : DetT B w d p h A Q F R T) : F d ∨ B ≤ d := let ⟨_, _, _, _, c, _⟩ := s; c d (.inl rfl)
theorem DetT.kd (s : DetT B w d p h A Q F R T) : ∀ i, i < B → One d i → F i := fun i hi (hm : i = d) => by
  subst hm
  rcases s.f_of with e | e
  · exact e
  · omega
theorem DetT.blk (s : DetT B w d p h A Q F R T) : ∃ P, w.heap[d]? = some (.cells (detC p h P) 79 (0, 0)) := let ⟨_, _, a, _⟩ := s; ⟨_, a.blk⟩
theorem DetT.f (s : DetT B w d p h A Q F R T) : F d ∨ B ≤ d := let ⟨_, _, _, _, c, _⟩ := s; c d (.inl rfl)
theorem DetT.sp {v : Nat} {x : PD} (s : DetT B w d p h A Q F R (HasP v x)) (hv : v < 32) : F x.sp ∨ B ≤ x.sp := let ⟨_, _, _, b, c, _⟩ := s; c x.sp (.inr ⟨v, x, hv, b, .inl rfl⟩)
theorem DetT.ks {v : Nat} {x : PD} (s : DetT B w d p h A Q F R (HasP v x)) (hv : v < 32) : ∀ i, i < B → One x.sp i → F i := fun i hi (hm : i = x.sp) => by
  subst hm
  rcases s.sp hv with e | e
  · exact e
  · omega
theorem DetT.own {v : Nat} {x : PD} (s : DetT B w d p h A Q F R (HasP v x)) (hv : v < 32) : ∀ j, x.own j → F j ∨ B ≤ j := let ⟨_, _, _, b, c, _⟩ := s; fun j hj => c j (.inr ⟨v, x, hv, b, hj⟩)
theorem DetT.part {v : Nat} {x : PD} (s : DetT B w d p h A Q F R (HasP v x)) (hv : v < 32) : PartAt w x (v : Int) p.win (dep p h) (Sp.viewOf (prs A v)) ∧ ((x.A.low : Int) = dlo p h ∧ (x.A.n : Int) = p.win ∧ x.A.V = vaOf A v (dlo p h)) ∧ ((x.B.low : Int) = dfl p h ∧ (x.B.n : Int) = p.win * p.elen ∧ x.B.V = vbOf Q v (dfl p h)) :=
  let ⟨_, _, a, b, _⟩ := s; a.part v x hv b
theorem dof_T (s : DetT B w d p h A Q F R T) (hB : B ≤ w.heap.size) (hk : DOk p h) {v : Nat} (hv : v < 32) {vi : Int} (hvi : vi = (v : Int)) :
    Calls Tryz.prog 48 #[.pointer (some ⟨d, 0, none⟩), .int .i64 vi] w fun e w' => ∃ x, e = .returned (.pointer (some ⟨x.q, 0, none⟩)) ∧ DetT B w' d p h A Q F R (HasP v x) ∧ Keeps (One d) w w' := by
  subst hvi
  obtain ⟨P, who, a, _, c, e⟩ := s
  refine (dof_ok a hk hv).mono ?_
  rintro _ w' ⟨x, P', who', rfl, h1, h2, h3, h4, k⟩
  refine ⟨x, rfl, ⟨P', who', h4, h1, fun j hj => ?_, fun j hj => ?_⟩, k⟩
  · rcases hj with rfl | ⟨u, y, hu, hy, hj⟩
    · exact c j (.inl rfl)
    · by_cases hne : u = v
      · subst hne
        rw [h1] at hy
        simp only [Option.some.injEq] at hy
        subst hy
        rcases h3 with h3 | ⟨_, h3, _⟩
        · exact c j (.inr ⟨u, x, hu, h3, hj⟩)
        · exact .inr (Nat.le_trans hB (h3 j hj))
      · exact c j (.inr ⟨u, y, hu, (h2 u hne) ▸ hy, hj⟩)
  · obtain ⟨u, y, hu, hy, hj⟩ := hj
    by_cases hne : u = v
    · subst hne
      rw [h1] at hy
      simp only [Option.some.injEq] at hy
      subst hy
      rcases h3 with h3 | ⟨_, _, h3⟩
      · exact e j ⟨u, x, hu, h3, hj⟩
      · rw [h3] at hj; exact hj.elim
    · exact e j ⟨u, y, hu, (h2 u hne) ▸ hy, hj⟩
theorem J1_ok {V : Int → Option Att} {p : Par} {a : Att} (hV : ∀ i b, V i = some b → b.Ok) : VdOk (J1 V p a).1 := by
  unfold J1
  cases h : V a.t with
  | none => exact Vd.z_ok
  | some b => dsimp only; split <;> exact ⟨(hV _ _ h).r, by kernel_rfl⟩
theorem J2_ok {V : Int → Option Att} {p : Par} {a : Att} {c : Int × Int} (hV : ∀ i b, V i = some b → b.Ok) : VdOk (J2 V p a c).1 := by
  unfold J2
  cases h : V c.2 with
  | none => exact ⟨by kernel_rfl, by kernel_rfl⟩
  | some b => exact ⟨(hV _ _ h).r, by kernel_rfl⟩
theorem djudge1_T {v : Nat} {x : PD} {a : Att} {gp ga gd : Nat} (s : DetT B w d p h A Q F R (HasP v x)) (hv : v < 32) (hp : p.Ok) (ha : a.Ok) (h0 : 0 ≤ a.t) (hvv : a.v = (v : Int)) {j1 : Vd × Bool} (hj : J1 (vaOf A a.v (dlo p h)) p a = j1) (hgp : w.heap[gp]? = some (.cells #[.pointer (some ⟨x.q, 0, none⟩)] 76 (0, 0))) (hga : w.heap[ga]? = some (.cells (Att.c a) 28 (0, 0))) (hgd : w.heap[gd]? = some (.cells #[.pointer (some ⟨d, 0, none⟩)] 22 (0, 0))) :
    Calls Tryz.prog 83 #[.pointer (some ⟨gp, 0, none⟩), .pointer (some ⟨ga, 0, none⟩), .pointer (some ⟨gd, 0, none⟩)] w fun e w' => e = .returned (.tuple #[.agg j1.1.c, .bool j1.2]) ∧ Keeps Nob w w' := by
  obtain ⟨P, hd⟩ := s.blk
  obtain ⟨q1, ⟨_, _, q2⟩, _⟩ := s.part hv
  have c := djudge1_all ha hp h0 hgp q1.blk hga hgd hd q1.rec_
  rw [q2, ← hvv, hj] at c; exact c
theorem djudge2_T {v : Nat} {x : PD} {a : Att} {gp ga gd : Nat} (s : DetT B w d p h A Q F R (HasP v x)) (hv : v < 32) (hp : p.Ok) (ha : a.Ok) (h0 : 0 ≤ a.t) (hvv : a.v = (v : Int)) {j2 : Vd × Bool} (hj : J2 (vaOf A a.v (dlo p h)) p a (Sp.clashOf p.win (dep p h) a.s a.t (Sp.viewOf (prs A a.v))) = j2) (hct : i64ok (Sp.clashOf p.win (dep p h) a.s a.t (Sp.viewOf (prs A a.v))).2) (hgp : w.heap[gp]? = some (.cells #[.pointer (some ⟨x.q, 0, none⟩)] 76 (0, 0))) (hga : w.heap[ga]? = some (.cells (Att.c a) 28 (0, 0))) (hgd : w.heap[gd]? = some (.cells #[.pointer (some ⟨d, 0, none⟩)] 22 (0, 0))) :
    Calls Tryz.prog 88 #[.pointer (some ⟨gp, 0, none⟩), .pointer (some ⟨ga, 0, none⟩), .pointer (some ⟨gd, 0, none⟩)] w fun e w' => e = .returned (.tuple #[.agg j2.1.c, .bool j2.2]) ∧ DetT B w' d p h A Q F R (HasP v x) ∧ Keeps (One x.sp) w w' := by
  obtain ⟨P0, hd⟩ := s.blk
  obtain ⟨q1, ⟨q3, q4, q2⟩, q5⟩ := s.part hv
  have c := djudge2_all ha hp h0 hgp q1.blk hga hgd hd q1.span q1.rec_ (by rw [← hvv]; have := ha.t; unfold i64ok at hct ⊢; omega)
  rw [q2, ← hvv, hj] at c
  refine c.mono ?_
  rintro e w' ⟨rfl, hS, hR, k⟩
  obtain ⟨P, who, a1, b1, c1, d1⟩ := s
  have k2 : Keeps x.own w w' := k.mono fun j _ (hj : j = x.sp) => .inl hj
  have hq : w'.heap[x.q]? = some (.cells #[.pointer (some ⟨x.sp, 0, none⟩), .pointer (some ⟨x.r, 0, none⟩)] 85 (0, 0)) := k2.odd q1.still.1 q1.blk
  obtain ⟨who', g⟩ := a1.turn hv b1 k2 (x' := x) rfl (fun _ h => h) (fun _ h => .inl h) (g' := fun _ => h) (fun _ _ => rfl) (A' := A) (Q' := Q) (fun u _ => ⟨rfl, fun _ => rfl, fun _ => rfl, id, id⟩) ⟨⟨hq, by rw [← hvv]; exact hS, hvv ▸ hR⟩, ⟨q3, q4, q2⟩, q5⟩
  have e : (fun u => if u = v then some x else P u) = P := by
    funext u
    by_cases hu : u = v
    · subst hu; rw [if_pos rfl]; exact b1.symm
    · rw [if_neg hu]
  rw [e] at g
  exact ⟨rfl, ⟨P, who', g, b1, c1, d1⟩, k⟩
end
end
section
open Go Go.RowKit Go.Own Go.Shelf
theorem vd_sizes {x y : Array Value} (hn : x.size = 73) (ho : y.size = 73) : y.size = x.size := ho.trans hn.symm
noncomputable def qc102_0 (n : Nat) : Code := partOf Tryz.f47 n
theorem djudge_one (d : Nat) (a : Att) (p : Par) (hp : p.Ok) (h : Int) (A : List Att) (Q : List Pro) (F R : Nat → Prop) (v : Nat) (hv : v < 32) (ha : a.Ok) (hr_a : a.r.length = 32) (hvv : a.v = (v : Int)) (h0 : 0 ≤ a.t) (hk : DOk p h) (w : World) (s : DetT w.heap.size w d p h A Q F R AnyP) (x1 : Vd) (hx1 : VdOk x1) (hj1 : J1 (vaOf A a.v (dlo p h)) p a = (x1, true)) :
  Calls Tryz.prog 47 #[pT d 0, .agg (Att.c a)] w (fun e w' => e = .returned (.agg (Vd.c x1)) ∧ DetT w.heap.size w' d p h A Q F R AnyP ∧ Keeps F w w') := by
 obtain ⟨PP, hPP⟩ := s.blk
 have nd := lt_of_block hPP
 have K0 : Keeps F w w := Keeps.refl _ _
 refine se_ (qc102_0 1) ⟨fr [pT d 0, .agg (Att.c a)] 29, []⟩ Tryz.func47 <| qr_ [0, 1, 2] <| pbx 22 (#[pT d 0]) (pT d 0) fun V1 gd egd h2 kV1 => ?_
 have n3 := nk egd K0
 have h4 : DetT w.heap.size V1 d p h A Q F R AnyP := s.keepsN kV1
 have K5 := K0.nn kV1
 have z6 := kV1.size
 refine pbx 28 ((Att.c a)) (.agg (Att.c a)) fun V7 ga ega h8 kV7 => ?_
 have n9 := nl ega h2
 have n10 := nk ega K5
 have h11 : DetT w.heap.size V7 d p h A Q F R AnyP := h4.keepsN kV7
 have ⟨K13, z14, h12⟩ := kV7.z1 K5 h2
 refine pal 57 (vdC 0 attZ proZ 0) (.agg (vdC 0 attZ proZ 0)) fun V15 res eres h16 kV15 => ?_
 have n17 := nl eres h12
 have n18 := nl eres h8
 have n19 := nk eres K13
 have h20 : DetT w.heap.size V15 d p h A Q F R AnyP := h11.keepsN kV15
 have ⟨K23, z24, h21, h22⟩ := kV15.z2 K13 h12 h8
 refine eqr_ nl6_ <| ppq _ (lk h21) <| kk 1 <| ppq _ (lc (h22) (Att.c_0 _)) ?_
 refine pcq 48 #[pT d 0, .int .i64 a.v] Tryz.func48 ((dof_T h20 K23.size hk hv hvv).mono ?_)
 rintro e V25 ⟨x, rfl, hJV25, kV25⟩
 refine ⟨_, rfl, ?_⟩
 have ⟨h26, h27, h28⟩ := kV25.ko3 h21 h22 h16
 have K29 : Keeps F w V25 := K23.then kV25 (DetT.kd h20)
 have z30 := kV25.size
 refine pal 76 (#[.pointer none]) (.pointer none) fun V31 gp egp h32 kV31 => ?_
 have n33 := nl egp h26
 have n34 := nl egp h27
 have n35 := nl egp h28
 have n36 := nk egp K29
 have ⟨h37, h38, h39⟩ := kV31.k3 h26 h27 h28
 have h40 : DetT w.heap.size V31 d p h A Q F R (HasP v x) := hJV25.keepsN kV31
 have K41 := K29.nn kV31
 have z42 := kV31.size
 refine pce 76 gp 0 (pT x.q 0) (#[pT x.q 0]) h32 (rc (h32) (by kernel_rfl)) (by kernel_rfl) (u := .pointer none) fun V43 h44 kV43 => ?_
 have ⟨h45, h46, h47⟩ := kV43.ko3 h37 h38 h39
 have h48 : DetT w.heap.size V43 d p h A Q F R (HasP v x) := DetT.one h40 h32 (by omega) kV43
 have K49 := K41.nO kV43
 have z50 := kV43.size
 refine eq_ <| qr_ nl5_ <| kk 2 ?_
 obtain ⟨V51, eV51, gf, egf, h52, kV51⟩ := alloc_step V43 (#[.func (.func 83) #[] #[pT gp 0, pT ga 0, pT gd 0], .func (.func 88) #[] #[pT gp 0, pT ga 0, pT gd 0]]) 147
 have n53 := nl egf h45
 have n54 := nl egf h46
 have n55 := nl egf h47
 have n56 := nl egf h44
 have n57 := nk egf K49
 refine prq (.slice (some ⟨gf, 0, none⟩) 2 2) (w' := V51) (by rw [← eV51, ← egf]; kernel_rfl) ?_
 have ⟨h58, h59, h60⟩ := kV51.k3 h45 h46 h47
 have h61 : DetT w.heap.size V51 d p h A Q F R (HasP v x) := h48.keepsN kV51
 have ⟨K63, z64, h62⟩ := kV51.z1 K49 h44
 refine ppq _ (len_ (some ⟨gf, 0, none⟩) 2 2 Tryz.underlying150) <| kk 1 <| et_ <| bl_ 0 <| sy_rounds 3 (qc102_0 116) (by kernel_rfl) <| rd_step <| qr_ [0] <| kk 1 <| eq_ <| y_ <| s_ <| tq_ <| bl_ 1 <| qr_ [0, 1, 2] ?_
 refine ppq (pT gf 0) (exec_cast (v := pT gf (0 + 0 * 1)) (by simp) (ixs gf 0 2 2 .i64 0 1 Tryz.underlying150 (by omega))) <| ppq _ (lk h52) <| kk 1 <| eqr_ nl8_ <| kk 1 ?_
 refine pcv 83 #[] #[pT gp 0, pT ga 0, pT gd 0] #[pT gp 0, pT ga 0, pT gd 0] (enters_of Tryz.func83 (by kernel_rfl) rfl) ((djudge1_T h61 hv hp ha h0 hvv hj1 h62 h59 h58).mono ?_)
 rintro e V65 ⟨rfl, kV65⟩
 refine ⟨_, rfl, ?_⟩
 have ⟨h66, h67, h68⟩ := kV65.k3 h58 h59 h60
 have h69 : DetT w.heap.size V65 d p h A Q F R (HasP v x) := h61.keepsN kV65
 have ⟨K72, z73, h70, h71⟩ := kV65.z2 K63 h62 h52
 refine kk 3 <| pal 57 (vdC 0 attZ proZ 0) (.agg (vdC 0 attZ proZ 0)) fun V74 g75 eg75 h76 kV74 => ?_
 have n77 := nl eg75 h66
 have n78 := nl eg75 h67
 have n79 := nl eg75 h68
 have n80 := nl eg75 h70
 have n81 := nl eg75 h71
 have n82 := nk eg75 K72
 have h85 := kV74.bk h68
 have h86 : DetT w.heap.size V74 d p h A Q F R (HasP v x) := h69.keepsN kV74
 have K89 := K72.nn kV74
 have z90 := kV74.size
 refine pst 57 g75 (Vd.c x1) h76 (by rw [Vd.c_size hx1]; kernel_rfl) (vd_sizes (Vd.c_size hx1) (by kernel_rfl)) Vd.c_one fun V91 h92 kV91 => ?_
 have h95 := kV91.bO h85
 have h96 : DetT w.heap.size V91 d p h A Q F R (HasP v x) := DetT.one h86 h76 (by omega) kV91
 have K99 := K89.nO kV91
 have z100 := kV91.size
 refine kk 1 <| ps_end <| tqr_ [0] <| kk 1 <| ey_ <| qr_ [0, 1] <| ppq _ (ldr 57 g75 (h92) (by rw [Vd.c_size hx1]; kernel_rfl)) <| pst 57 res (Vd.c x1) h95 (by rw [Vd.c_size hx1]; kernel_rfl) (vd_sizes (Vd.c_size hx1) (by kernel_rfl)) Vd.c_one fun V101 h102 kV101 => ?_
 have h105 : DetT w.heap.size V101 d p h A Q F R (HasP v x) := DetT.one h96 h95 (by omega) kV101
 have K109 := K99.nO kV101
 have z110 := kV101.size
 refine eu_ <| blk_r <| then_r <| then_r <| blk_r <| then_r <| sy_out (.agg (Vd.c x1)) rfl (rcr 57 res h102 Tryz.underlying57 (by rw [Vd.c_size hx1]; kernel_rfl)) ?_
 exact ⟨rfl, h105.any, K109⟩
theorem djudge_two (d : Nat) (a : Att) (p : Par) (hp : p.Ok) (h : Int) (A : List Att) (Q : List Pro) (F R : Nat → Prop) (v : Nat) (hv : v < 32) (ha : a.Ok) (hr_a : a.r.length = 32) (hvv : a.v = (v : Int)) (h0 : 0 ≤ a.t) (hk : DOk p h) (w : World) (s : DetT w.heap.size w d p h A Q F R AnyP) (x1 : Vd) (hx1 : VdOk x1) (hj1 : J1 (vaOf A a.v (dlo p h)) p a = (x1, false)) (x2 : Vd) (hx2 : VdOk x2) (hj2 : J2 (vaOf A a.v (dlo p h)) p a (Sp.clashOf p.win (dep p h) a.s a.t (Sp.viewOf (prs A a.v))) = (x2, true)) (hct : i64ok (Sp.clashOf p.win (dep p h) a.s a.t (Sp.viewOf (prs A a.v))).2) :
  Calls Tryz.prog 47 #[pT d 0, .agg (Att.c a)] w (fun e w' => e = .returned (.agg (Vd.c x2)) ∧ DetT w.heap.size w' d p h A Q F R AnyP ∧ Keeps F w w') := by
 obtain ⟨PP, hPP⟩ := s.blk
 have nd := lt_of_block hPP
 have K0 : Keeps F w w := Keeps.refl _ _
 refine se_ (qc102_0 1) ⟨fr [pT d 0, .agg (Att.c a)] 29, []⟩ Tryz.func47 <| qr_ [0, 1, 2] <| pbx 22 (#[pT d 0]) (pT d 0) fun V1 gd egd h2 kV1 => ?_
 have n3 := nk egd K0
 have h4 : DetT w.heap.size V1 d p h A Q F R AnyP := s.keepsN kV1
 have K5 := K0.nn kV1
 have z6 := kV1.size
 refine pbx 28 ((Att.c a)) (.agg (Att.c a)) fun V7 ga ega h8 kV7 => ?_
 have n9 := nl ega h2
 have n10 := nk ega K5
 have h11 : DetT w.heap.size V7 d p h A Q F R AnyP := h4.keepsN kV7
 have ⟨K13, z14, h12⟩ := kV7.z1 K5 h2
 refine pal 57 (vdC 0 attZ proZ 0) (.agg (vdC 0 attZ proZ 0)) fun V15 res eres h16 kV15 => ?_
 have n17 := nl eres h12
 have n18 := nl eres h8
 have n19 := nk eres K13
 have h20 : DetT w.heap.size V15 d p h A Q F R AnyP := h11.keepsN kV15
 have ⟨K23, z24, h21, h22⟩ := kV15.z2 K13 h12 h8
 refine eqr_ nl6_ <| ppq _ (lk h21) <| kk 1 <| ppq _ (lc (h22) (Att.c_0 _)) ?_
 refine pcq 48 #[pT d 0, .int .i64 a.v] Tryz.func48 ((dof_T h20 K23.size hk hv hvv).mono ?_)
 rintro e V25 ⟨x, rfl, hJV25, kV25⟩
 refine ⟨_, rfl, ?_⟩
 have ⟨h26, h27, h28⟩ := kV25.ko3 h21 h22 h16
 have K29 : Keeps F w V25 := K23.then kV25 (DetT.kd h20)
 have z30 := kV25.size
 refine pal 76 (#[.pointer none]) (.pointer none) fun V31 gp egp h32 kV31 => ?_
 have n33 := nl egp h26
 have n34 := nl egp h27
 have n35 := nl egp h28
 have n36 := nk egp K29
 have ⟨h37, h38, h39⟩ := kV31.k3 h26 h27 h28
 have h40 : DetT w.heap.size V31 d p h A Q F R (HasP v x) := hJV25.keepsN kV31
 have K41 := K29.nn kV31
 have z42 := kV31.size
 refine pce 76 gp 0 (pT x.q 0) (#[pT x.q 0]) h32 (rc (h32) (by kernel_rfl)) (by kernel_rfl) (u := .pointer none) fun V43 h44 kV43 => ?_
 have ⟨h45, h46, h47⟩ := kV43.ko3 h37 h38 h39
 have h48 : DetT w.heap.size V43 d p h A Q F R (HasP v x) := DetT.one h40 h32 (by omega) kV43
 have K49 := K41.nO kV43
 have z50 := kV43.size
 refine eq_ <| qr_ nl5_ <| kk 2 ?_
 obtain ⟨V51, eV51, gf, egf, h52, kV51⟩ := alloc_step V43 (#[.func (.func 83) #[] #[pT gp 0, pT ga 0, pT gd 0], .func (.func 88) #[] #[pT gp 0, pT ga 0, pT gd 0]]) 147
 have n53 := nl egf h45
 have n54 := nl egf h46
 have n55 := nl egf h47
 have n56 := nl egf h44
 have n57 := nk egf K49
 refine prq (.slice (some ⟨gf, 0, none⟩) 2 2) (w' := V51) (by rw [← eV51, ← egf]; kernel_rfl) ?_
 have ⟨h58, h59, h60⟩ := kV51.k3 h45 h46 h47
 have h61 : DetT w.heap.size V51 d p h A Q F R (HasP v x) := h48.keepsN kV51
 have ⟨K63, z64, h62⟩ := kV51.z1 K49 h44
 refine ppq _ (len_ (some ⟨gf, 0, none⟩) 2 2 Tryz.underlying150) <| kk 1 <| et_ <| bl_ 0 <| sy_rounds 3 (qc102_0 116) (by kernel_rfl) <| rd_step <| qr_ [0] <| kk 1 <| eq_ <| y_ <| s_ <| tq_ <| bl_ 1 <| qr_ [0, 1, 2] ?_
 refine ppq (pT gf 0) (exec_cast (v := pT gf (0 + 0 * 1)) (by simp) (ixs gf 0 2 2 .i64 0 1 Tryz.underlying150 (by omega))) <| ppq _ (lk h52) <| kk 1 <| eqr_ nl8_ <| kk 1 ?_
 refine pcv 83 #[] #[pT gp 0, pT ga 0, pT gd 0] #[pT gp 0, pT ga 0, pT gd 0] (enters_of Tryz.func83 (by kernel_rfl) rfl) ((djudge1_T h61 hv hp ha h0 hvv hj1 h62 h59 h58).mono ?_)
 rintro e V65 ⟨rfl, kV65⟩
 refine ⟨_, rfl, ?_⟩
 have ⟨h66, h67, h68⟩ := kV65.k3 h58 h59 h60
 have h69 : DetT w.heap.size V65 d p h A Q F R (HasP v x) := h61.keepsN kV65
 have ⟨K72, z73, h70, h71⟩ := kV65.z2 K63 h62 h52
 refine kk 3 <| pal 57 (vdC 0 attZ proZ 0) (.agg (vdC 0 attZ proZ 0)) fun V74 g75 eg75 h76 kV74 => ?_
 have n77 := nl eg75 h66
 have n78 := nl eg75 h67
 have n79 := nl eg75 h68
 have n80 := nl eg75 h70
 have n81 := nl eg75 h71
 have n82 := nk eg75 K72
 have ⟨h83, h84, h85⟩ := kV74.k3 h66 h67 h68
 have h86 : DetT w.heap.size V74 d p h A Q F R (HasP v x) := h69.keepsN kV74
 have ⟨K89, z90, h87, h88⟩ := kV74.z2 K72 h70 h71
 refine pst 57 g75 (Vd.c x1) h76 (by rw [Vd.c_size hx1]; kernel_rfl) (vd_sizes (Vd.c_size hx1) (by kernel_rfl)) Vd.c_one fun V91 h92 kV91 => ?_
 have ⟨h93, h94, h95⟩ := kV91.ko3 h83 h84 h85
 have h96 : DetT w.heap.size V91 d p h A Q F R (HasP v x) := DetT.one h86 h76 (by omega) kV91
 have ⟨K99, z100, h97, h98⟩ := kV91.zo2 K89 h87 h88
 refine kk 1 <| ps_end <| tqr_ [0] <| kk 1 <| en_ <| s_ <| blk_n <| tr_ [0, 1] <| kk 2 <| et_ <| rd_step <| qr_ [0] ?_
 refine kk 1 <| eq_ <| y_ <| s_ <| tq_ <| bl_ 1 <| qr_ [0, 1, 2] <| ppq (pT gf 1) (exec_cast (v := pT gf (0 + 1 * 1)) (by simp) (ixs gf 0 2 2 .i64 1 1 Tryz.underlying150 (by omega))) <| ppq _ (lk h98) <| kk 1 <| eqr_ nl8_ <| kk 1 ?_
 have n102 := span_ne (DetT.part h96 hv).1.span h93 (by decide)
 have n103 := span_ne (DetT.part h96 hv).1.span h94 (by decide)
 have n104 := span_ne (DetT.part h96 hv).1.span h95 (by decide)
 have n105 := span_ne (DetT.part h96 hv).1.span h97 (by decide)
 have n106 := span_ne (DetT.part h96 hv).1.span h98 (by decide)
 have n107 := span_ne (DetT.part h96 hv).1.span h92 (by decide)
 refine pcv 88 #[] #[pT gp 0, pT ga 0, pT gd 0] #[pT gp 0, pT ga 0, pT gd 0] (enters_of Tryz.func88 (by kernel_rfl) rfl) ((djudge2_T h96 hv hp ha h0 hvv hj2 hct h97 h94 h93).mono ?_)
 rintro e V101 ⟨rfl, hJV101, kV101⟩
 refine ⟨_, rfl, ?_⟩
 have ⟨h108, h109, h110, h111, h112, h113⟩ := kV101.ko6 h93 h94 h95 h97 h98 h92
 have K114 : Keeps F w V101 := K99.then kV101 (DetT.ks h96 hv)
 have z115 := kV101.size
 refine kk 3 <| pal 57 (vdC 0 attZ proZ 0) (.agg (vdC 0 attZ proZ 0)) fun V116 g117 eg117 h118 kV116 => ?_
 have n119 := nl eg117 h108
 have n120 := nl eg117 h109
 have n121 := nl eg117 h110
 have n122 := nl eg117 h111
 have n123 := nl eg117 h112
 have n124 := nl eg117 h113
 have n125 := nk eg117 K114
 have h128 := kV116.bk h110
 have h132 : DetT w.heap.size V116 d p h A Q F R (HasP v x) := hJV101.keepsN kV116
 have K133 := K114.nn kV116
 have z134 := kV116.size
 refine pst 57 g117 (Vd.c x2) h118 (by rw [Vd.c_size hx2]; kernel_rfl) (vd_sizes (Vd.c_size hx2) (by kernel_rfl)) Vd.c_one fun V135 h136 kV135 => ?_
 have h139 := kV135.bO h128
 have h143 : DetT w.heap.size V135 d p h A Q F R (HasP v x) := DetT.one h132 h118 (by omega) kV135
 have K144 := K133.nO kV135
 have z145 := kV135.size
 refine kk 1 <| eqr_ [0] <| kk 1 <| ey_ <| qr_ [0, 1] <| ppq _ (ldr 57 g117 (h136) (by rw [Vd.c_size hx2]; kernel_rfl)) <| pst 57 res (Vd.c x2) h139 (by rw [Vd.c_size hx2]; kernel_rfl) (vd_sizes (Vd.c_size hx2) (by kernel_rfl)) Vd.c_one fun V146 h147 kV146 => ?_
 have h153 : DetT w.heap.size V146 d p h A Q F R (HasP v x) := DetT.one h143 h139 (by omega) kV146
 have K155 := K144.nO kV146
 have z156 := kV146.size
 refine eu_ <| blk_r <| then_r <| then_r <| blk_r <| then_r <| sy_out (.agg (Vd.c x2)) rfl (rcr 57 res h147 Tryz.underlying57 (by rw [Vd.c_size hx2]; kernel_rfl)) ?_
 exact ⟨rfl, h153.any, K155⟩
theorem djudge_none (d : Nat) (a : Att) (p : Par) (hp : p.Ok) (h : Int) (A : List Att) (Q : List Pro) (F R : Nat → Prop) (v : Nat) (hv : v < 32) (ha : a.Ok) (hr_a : a.r.length = 32) (hvv : a.v = (v : Int)) (h0 : 0 ≤ a.t) (hk : DOk p h) (w : World) (s : DetT w.heap.size w d p h A Q F R AnyP) (x1 : Vd) (hx1 : VdOk x1) (hj1 : J1 (vaOf A a.v (dlo p h)) p a = (x1, false)) (x2 : Vd) (hx2 : VdOk x2) (hj2 : J2 (vaOf A a.v (dlo p h)) p a (Sp.clashOf p.win (dep p h) a.s a.t (Sp.viewOf (prs A a.v))) = (x2, false)) (hct : i64ok (Sp.clashOf p.win (dep p h) a.s a.t (Sp.viewOf (prs A a.v))).2) :
  Calls Tryz.prog 47 #[pT d 0, .agg (Att.c a)] w (fun e w' => e = .returned (.agg (Vd.c Vd.z)) ∧ DetT w.heap.size w' d p h A Q F R AnyP ∧ Keeps F w w') := by
 obtain ⟨PP, hPP⟩ := s.blk
 have nd := lt_of_block hPP
 have K0 : Keeps F w w := Keeps.refl _ _
 refine se_ (qc102_0 1) ⟨fr [pT d 0, .agg (Att.c a)] 29, []⟩ Tryz.func47 <| qr_ [0, 1, 2] <| pbx 22 (#[pT d 0]) (pT d 0) fun V1 gd egd h2 kV1 => ?_
 have n3 := nk egd K0
 have h4 : DetT w.heap.size V1 d p h A Q F R AnyP := s.keepsN kV1
 have K5 := K0.nn kV1
 have z6 := kV1.size
 refine pbx 28 ((Att.c a)) (.agg (Att.c a)) fun V7 ga ega h8 kV7 => ?_
 have n9 := nl ega h2
 have n10 := nk ega K5
 have h11 : DetT w.heap.size V7 d p h A Q F R AnyP := h4.keepsN kV7
 have ⟨K13, z14, h12⟩ := kV7.z1 K5 h2
 refine pal 57 (vdC 0 attZ proZ 0) (.agg (vdC 0 attZ proZ 0)) fun V15 res eres h16 kV15 => ?_
 have n17 := nl eres h12
 have n18 := nl eres h8
 have n19 := nk eres K13
 have h20 : DetT w.heap.size V15 d p h A Q F R AnyP := h11.keepsN kV15
 have ⟨K23, z24, h21, h22⟩ := kV15.z2 K13 h12 h8
 refine eqr_ nl6_ <| ppq _ (lk h21) <| kk 1 <| ppq _ (lc (h22) (Att.c_0 _)) ?_
 refine pcq 48 #[pT d 0, .int .i64 a.v] Tryz.func48 ((dof_T h20 K23.size hk hv hvv).mono ?_)
 rintro e V25 ⟨x, rfl, hJV25, kV25⟩
 refine ⟨_, rfl, ?_⟩
 have ⟨h26, h27, h28⟩ := kV25.ko3 h21 h22 h16
 have K29 : Keeps F w V25 := K23.then kV25 (DetT.kd h20)
 have z30 := kV25.size
 refine pal 76 (#[.pointer none]) (.pointer none) fun V31 gp egp h32 kV31 => ?_
 have n33 := nl egp h26
 have n34 := nl egp h27
 have n35 := nl egp h28
 have n36 := nk egp K29
 have ⟨h37, h38, h39⟩ := kV31.k3 h26 h27 h28
 have h40 : DetT w.heap.size V31 d p h A Q F R (HasP v x) := hJV25.keepsN kV31
 have K41 := K29.nn kV31
 have z42 := kV31.size
 refine pce 76 gp 0 (pT x.q 0) (#[pT x.q 0]) h32 (rc (h32) (by kernel_rfl)) (by kernel_rfl) (u := .pointer none) fun V43 h44 kV43 => ?_
 have ⟨h45, h46, h47⟩ := kV43.ko3 h37 h38 h39
 have h48 : DetT w.heap.size V43 d p h A Q F R (HasP v x) := DetT.one h40 h32 (by omega) kV43
 have K49 := K41.nO kV43
 have z50 := kV43.size
 refine eq_ <| qr_ nl5_ <| kk 2 ?_
 obtain ⟨V51, eV51, gf, egf, h52, kV51⟩ := alloc_step V43 (#[.func (.func 83) #[] #[pT gp 0, pT ga 0, pT gd 0], .func (.func 88) #[] #[pT gp 0, pT ga 0, pT gd 0]]) 147
 have n53 := nl egf h45
 have n54 := nl egf h46
 have n55 := nl egf h47
 have n56 := nl egf h44
 have n57 := nk egf K49
 refine prq (.slice (some ⟨gf, 0, none⟩) 2 2) (w' := V51) (by rw [← eV51, ← egf]; kernel_rfl) ?_
 have ⟨h58, h59, h60⟩ := kV51.k3 h45 h46 h47
 have h61 : DetT w.heap.size V51 d p h A Q F R (HasP v x) := h48.keepsN kV51
 have ⟨K63, z64, h62⟩ := kV51.z1 K49 h44
 refine ppq _ (len_ (some ⟨gf, 0, none⟩) 2 2 Tryz.underlying150) <| kk 1 <| et_ <| bl_ 0 <| sy_rounds 3 (qc102_0 116) (by kernel_rfl) <| rd_step <| qr_ [0] <| kk 1 <| eq_ <| y_ <| s_ <| tq_ <| bl_ 1 <| qr_ [0, 1, 2] ?_
 refine ppq (pT gf 0) (exec_cast (v := pT gf (0 + 0 * 1)) (by simp) (ixs gf 0 2 2 .i64 0 1 Tryz.underlying150 (by omega))) <| ppq _ (lk h52) <| kk 1 <| eqr_ nl8_ <| kk 1 ?_
 refine pcv 83 #[] #[pT gp 0, pT ga 0, pT gd 0] #[pT gp 0, pT ga 0, pT gd 0] (enters_of Tryz.func83 (by kernel_rfl) rfl) ((djudge1_T h61 hv hp ha h0 hvv hj1 h62 h59 h58).mono ?_)
 rintro e V65 ⟨rfl, kV65⟩
 refine ⟨_, rfl, ?_⟩
 have ⟨h66, h67, h68⟩ := kV65.k3 h58 h59 h60
 have h69 : DetT w.heap.size V65 d p h A Q F R (HasP v x) := h61.keepsN kV65
 have ⟨K72, z73, h70, h71⟩ := kV65.z2 K63 h62 h52
 refine kk 3 <| pal 57 (vdC 0 attZ proZ 0) (.agg (vdC 0 attZ proZ 0)) fun V74 g75 eg75 h76 kV74 => ?_
 have n77 := nl eg75 h66
 have n78 := nl eg75 h67
 have n79 := nl eg75 h68
 have n80 := nl eg75 h70
 have n81 := nl eg75 h71
 have n82 := nk eg75 K72
 have ⟨h83, h84, h85⟩ := kV74.k3 h66 h67 h68
 have h86 : DetT w.heap.size V74 d p h A Q F R (HasP v x) := h69.keepsN kV74
 have ⟨K89, z90, h87, h88⟩ := kV74.z2 K72 h70 h71
 refine pst 57 g75 (Vd.c x1) h76 (by rw [Vd.c_size hx1]; kernel_rfl) (vd_sizes (Vd.c_size hx1) (by kernel_rfl)) Vd.c_one fun V91 h92 kV91 => ?_
 have ⟨h93, h94, h95⟩ := kV91.ko3 h83 h84 h85
 have h96 : DetT w.heap.size V91 d p h A Q F R (HasP v x) := DetT.one h86 h76 (by omega) kV91
 have ⟨K99, z100, h97, h98⟩ := kV91.zo2 K89 h87 h88
 refine kk 1 <| ps_end <| tqr_ [0] <| kk 1 <| en_ <| s_ <| blk_n <| tr_ [0, 1] <| kk 2 <| et_ <| rd_step <| qr_ [0] ?_
 refine kk 1 <| eq_ <| y_ <| s_ <| tq_ <| bl_ 1 <| qr_ [0, 1, 2] <| ppq (pT gf 1) (exec_cast (v := pT gf (0 + 1 * 1)) (by simp) (ixs gf 0 2 2 .i64 1 1 Tryz.underlying150 (by omega))) <| ppq _ (lk h98) <| kk 1 <| eqr_ nl8_ <| kk 1 ?_
 have n102 := span_ne (DetT.part h96 hv).1.span h93 (by decide)
 have n103 := span_ne (DetT.part h96 hv).1.span h94 (by decide)
 have n104 := span_ne (DetT.part h96 hv).1.span h95 (by decide)
 have n105 := span_ne (DetT.part h96 hv).1.span h97 (by decide)
 have n106 := span_ne (DetT.part h96 hv).1.span h98 (by decide)
 have n107 := span_ne (DetT.part h96 hv).1.span h92 (by decide)
 refine pcv 88 #[] #[pT gp 0, pT ga 0, pT gd 0] #[pT gp 0, pT ga 0, pT gd 0] (enters_of Tryz.func88 (by kernel_rfl) rfl) ((djudge2_T h96 hv hp ha h0 hvv hj2 hct h97 h94 h93).mono ?_)
 rintro e V101 ⟨rfl, hJV101, kV101⟩
 refine ⟨_, rfl, ?_⟩
 have ⟨h108, h109, h110, h111, h112, h113⟩ := kV101.ko6 h93 h94 h95 h97 h98 h92
 have K114 : Keeps F w V101 := K99.then kV101 (DetT.ks h96 hv)
 have z115 := kV101.size
 refine kk 3 <| pal 57 (vdC 0 attZ proZ 0) (.agg (vdC 0 attZ proZ 0)) fun V116 g117 eg117 h118 kV116 => ?_
 have n119 := nl eg117 h108
 have n120 := nl eg117 h109
 have n121 := nl eg117 h110
 have n122 := nl eg117 h111
 have n123 := nl eg117 h112
 have n124 := nl eg117 h113
 have n125 := nk eg117 K114
 have h128 := kV116.bk h110
 have h132 : DetT w.heap.size V116 d p h A Q F R (HasP v x) := hJV101.keepsN kV116
 have K133 := K114.nn kV116
 have z134 := kV116.size
 obtain ⟨V135, eV135, kV135⟩ := rowset_step V116 g117 (Vd.c x2)
 refine pzq (w' := V135) (by rw [← eV135]; exact exec_store_row 57 (.tmp 8) (.tmp 25) (by kernel_rfl) g117 (Vd.c x2) (by kernel_rfl) (by kernel_rfl) 57 (vdC 0 attZ proZ 0) h118 (by rw [Vd.c_size hx2]; kernel_rfl) (vd_sizes (Vd.c_size hx2) (by kernel_rfl)) Vd.c_one) ?_
 clear eV135
 have h139 := kV135.bO h128
 have h143 : DetT w.heap.size V135 d p h A Q F R (HasP v x) := DetT.one h132 h118 (by omega) kV135
 have K144 := K133.nO kV135
 have z145 := kV135.size
 refine kk 1 <| eqr_ [0] <| kk 1 <| en_ <| s_ <| blk_n <| tr_ [0, 1] <| kk 2 <| et_ <| rd_step <| qr_ [0] <| kk 1 <| eq_ ?_
 refine n_ <| sy_exit 0 (by kernel_rfl) <| then_e <| then_e <| blk_e <| tqr_ [0, 1] <| kk 1 <| pst 57 res (vdC 0 attZ proZ 0) h139 (by kernel_rfl) (vd_sizes (by kernel_rfl) (by kernel_rfl)) (by kernel_rfl) fun V146 h147 kV146 => ?_
 have h153 : DetT w.heap.size V146 d p h A Q F R (HasP v x) := DetT.one h143 h139 (by omega) kV146
 have K155 := K144.nO kV146
 have z156 := kV146.size
 refine eu_ <| sy_out (.agg (vdC 0 attZ proZ 0)) rfl (rcr 57 res h147 Tryz.underlying57 (by kernel_rfl)) ?_
 exact ⟨by kernel_rfl, h153.any, K155⟩
end
section
open Go Go.RowKit Go.Own Go.Shelf
def attErr (p : Par) (h : Int) (a : Att) : Int := if a.err ≠ 0 then a.err else if a.s > a.t then 9 else if a.t > dep p h then 17 else if a.s < dlo p h then 16 else 0
def attVd (p : Par) (h : Int) (A : List Att) (a : Att) : Vd := if attErr p h a = 0 then dJudge p (votesOf p h A a.v) a else Vd.z
def attNew (p : Par) (h : Int) (A : List Att) (a : Att) : List Att := if attErr p h a = 0 ∧ (attVd p h A a).k = 0 then A ++ [a] else A
theorem Att.err_fine {a : Att} : a.err = 0 ↔ a.fine := by
  unfold Att.err
  constructor
  · intro h
    by_cases f : a.fine
    · exact f
    · rw [if_neg f] at h; cases h
  · intro f; rw [if_pos f]
theorem Pro.err_fine {a : Pro} : a.err = 0 ↔ a.fine := by
  unfold Pro.err
  constructor
  · intro h
    by_cases f : a.fine
    · exact f
    · rw [if_neg f] at h; cases h
  · intro f; rw [if_pos f]
theorem attErr_0 {p : Par} {h : Int} {a : Att} (e : attErr p h a = 0) : Comes p h a := by
  unfold attErr at e
  by_cases h1 : a.err = 0
  · rw [if_neg (by simpa using h1)] at e
    by_cases h2 : a.s > a.t
    · rw [if_pos h2] at e; cases e
    · rw [if_neg h2] at e
      by_cases h3 : a.t > dep p h
      · rw [if_pos h3] at e; cases e
      · rw [if_neg h3] at e
        by_cases h4 : a.s < dlo p h
        · rw [if_pos h4] at e; cases e
        · exact ⟨Att.err_fine.1 h1, by omega, by omega, by omega⟩
  · rw [if_pos h1] at e; exact absurd e h1
theorem Comes.err {p : Par} {h : Int} {a : Att} (c : Comes p h a) : attErr p h a = 0 := by
  unfold attErr
  have := c.st
  have := c.hi
  have := c.lo
  rw [if_neg (by simpa using Att.err_fine.2 c.fine), if_neg (by omega), if_neg (by omega), if_neg (by omega)]
section
variable {p : Par} {h : Int} {A : List Att} {Q : List Pro} {a : Att}
theorem judge_k0 {l : List Att} (e : (dJudge p l a).k = 0) : ∀ w ∈ l, w.t ≠ a.t := by
  unfold dJudge at e
  cases hf : l.find? (fun b => decide (b.t = a.t)) with
  | some w =>
    rw [hf] at e
    dsimp only at e
    split at e <;> cases e
  | none => intro w hw; have := (List.find?_eq_none.1 hf) w hw; simpa using this
theorem clash_bnd (q : DInv p h A Q) (v W E s t : Int) : i64ok (Sp.clashOf W E s t (Sp.viewOf (prs A v))).2 := by
  have hb : ∀ u ∈ A, i64ok u.t := fun u hu => (q.a u hu).1.t
  have h0 : i64ok 0 := ⟨by omega, by omega⟩
  have h1 : i64ok (Sp.tellOf W E s (Sp.viewOf (prs A v) s).1).1 := by
    unfold Sp.tellOf
    split
    · have hM := (view_is A v s).1
      cases hw : (Sp.viewOf (prs A v) s).1 with
      | none => exact h0
      | some m => rw [hw] at hM; obtain ⟨⟨u, g1, _, _, g4⟩, _⟩ := hM; rw [← g4]; exact hb u g1
    · exact h0
  have h2 : i64ok (Sp.tellOf W E s (Sp.viewOf (prs A v) s).2).1 := by
    unfold Sp.tellOf
    split
    · have hM := (view_is A v s).2
      cases hw : (Sp.viewOf (prs A v) s).2 with
      | none => exact h0
      | some m => rw [hw] at hM; obtain ⟨⟨u, g1, _, _, _, g4⟩, _⟩ := hM; rw [← g4]; exact hb u g1
    · exact h0
  unfold Sp.clashOf
  split
  · exact h1
  · split
    · exact h2
    · exact h0
end
def DetN (B C : Nat) (w : World) (d : Nat) (p : Par) (h : Int) (A : List Att) (Q : List Pro) (F R : Nat → Prop) : Prop :=
  ∃ P who, DetP w d p h (fun _ => h) A Q P who ∧ (∀ j, DF d P j → F j ∨ B ≤ j) ∧ ∀ j, DR P j → (R j ∧ j < B) ∨ C ≤ j
def DetMid (B C : Nat) (w : World) (d : Nat) (p : Par) (h : Int) (A : List Att) (Q : List Pro) (F R : Nat → Prop) (v : Nat) (x : PD) (a : Att) : Prop :=
  ∃ V, DetT B V d p h A Q F R (HasP v x) ∧ V.heap.size = C ∧ Keeps (One x.sp) V w ∧ Sp.SpanView w (fun j => x.FP j ∨ j = C + 1 + 1) x.sp p.win (dep p h) (Sp.viewOf (prs (A ++ [a]) a.v))
section
variable {B C : Nat} {w w' : World} {d : Nat} {p : Par} {h : Int} {A : List Att} {Q : List Pro} {F R : Nat → Prop} {T : (Nat → Option PD) → Prop} {v : Nat} {x : PD} {a : Att}
theorem DetT.toN (s : DetT B w d p h A Q F R T) (C : Nat) : DetN B C w d p h A Q F R := let ⟨P, who, a, _, b, c⟩ := s; ⟨P, who, a, b, fun j hj => .inl (c j hj)⟩
theorem DetN.weak (s : DetN B C w d p h A Q F R) (hc : B ≤ C) : DetN B B w d p h A Q F R := let ⟨P, who, a, b, c⟩ := s; ⟨P, who, a, b, fun j hj => (c j hj).elim .inl fun e => .inr (Nat.le_trans hc e)⟩
theorem DetN.keepsN (s : DetN B C w d p h A Q F R) (k : Keeps Nob w w') : DetN B C w' d p h A Q F R := let ⟨P, who, a, b⟩ := s; ⟨P, who, a.keepsN k, b⟩
theorem DetN.one (s : DetN B C w d p h A Q F R) {g : Nat} {cs : Array Value} {U : TypeId} (hg : w.heap[g]? = some (.cells cs U (0, 0))) (hB : B ≤ g ∧ g < C) (k : Keeps (One g) w w')
    (h5 : 79 ≠ U := by decide) (h0 : 161 ≠ U := by decide) (h1 : 184 ≠ U := by decide) (h2 : 185 ≠ U := by decide) (h3 : 192 ≠ U := by decide) (h4 : 168 ≠ U := by decide)
    (u1 : U ≠ 85 := by decide) (u2 : U ≠ 122 := by decide) (u3 : U ≠ 28 := by decide) (u4 : U ≠ 37 := by decide) : DetN B C w' d p h A Q F R := by
  obtain ⟨P, who, a, c, e⟩ := s
  refine ⟨P, who, a.keeps k (fun j hj (hm : j = g) => ?_) (fun j hj (hm : j = g) => ?_) ⟨Odd.one hg u1, Odd.one hg u2, Odd.one hg u3, Odd.one hg u4⟩, c, e⟩
  · subst hm; exact a.odd h5 h0 h1 h2 h3 h4 _ _ _ hj hg
  · subst hm; have := e j hj; omega
theorem DetMid.keepsN (s : DetMid B C w d p h A Q F R v x a) (k : Keeps Nob w w') : DetMid B C w' d p h A Q F R v x a := let ⟨V, q1, q2, q3, q4⟩ := s; ⟨V, q1, q2, q3.nn k, span_nob q4 k⟩
theorem DetMid.rec_ (s : DetMid B C w d p h A Q F R v x a) (hv : v < 32) : RecAt w x.r (v : Int) x.A x.B := let ⟨_, q1, _, q3, _⟩ := s; rec_one (q1.part hv).1.rec_ (q1.part hv).1.span q3
theorem DetMid.kr (s : DetMid B C w d p h A Q F R v x a) (hv : v < 32) : ∀ i, i < B → One x.A.s i → F i := fun i hi (hm : i = x.A.s) => by
  obtain ⟨V, q1, _⟩ := s
  rcases q1.own hv i (.inr (.inr (.inl hm))) with e | e
  · exact e
  · omega
theorem rec_ne {w : World} {r g : Nat} {v : Int} {A : RD Att} {B : RD Pro} {cs : Array Value} {U : TypeId} (H : RecAt w r v A B) (hg : w.heap[g]? = some (.cells cs U (0, 0))) (hU : 185 ≠ U) : g ≠ A.s := fun e => Odd.one H.a.slots hU g cs (0, 0) e hg
theorem rec_neB {w : World} {r g : Nat} {v : Int} {A : RD Att} {B : RD Pro} {cs : Array Value} {U : TypeId} (H : RecAt w r v A B) (hg : w.heap[g]? = some (.cells cs U (0, 0))) (hU : 168 ≠ U) : g ≠ B.s := fun e => Odd.one H.b.slots hU g cs (0, 0) e hg
theorem djudge_T (s : DetT w.heap.size w d p h A Q F R AnyP) (i : DInv p h A Q) (c : Comes p h a) (ha : a.Ok) {y : Vd} (hy : dJudge p (votesOf p h A a.v) a = y) :
    Calls Tryz.prog 47 #[.pointer (some ⟨d, 0, none⟩), .agg (Att.c a)] w fun e w' => e = .returned (.agg (Vd.c y)) ∧ VdOk y ∧ DetT w.heap.size w' d p h A Q F R AnyP ∧ Keeps F w w' := by
  obtain ⟨v, hv⟩ : ∃ v : Nat, a.v = (v : Int) := ⟨a.v.toNat, by have := c.fine.1; omega⟩
  have hv2 : v < 32 := by have := c.fine.2.1; omega
  have h0 := c.fine.2.2.2.2.1
  have hV : ∀ t b, vaOf A a.v (dlo p h) t = some b → b.Ok := fun t b hb => (i.a b (mem_votes.1 ((va_some i).1 hb).1).1).1
  rw [← judge_is i c, pJudge_is] at hy
  rcases hj : J1 (vaOf A a.v (dlo p h)) p a with ⟨x1, b1⟩
  have hx1 : VdOk x1 := by have := J1_ok (p := p) (a := a) hV; rw [hj] at this; exact this
  rw [hj] at hy
  cases b1 with
  | true =>
    rw [if_pos rfl] at hy
    subst hy
    exact (djudge_one d a p i.ok.1 h A Q F R v hv2 ha ha.r hv h0 i.ok w s x1 hx1 hj).mono fun e w' ⟨e1, e2, e3⟩ => ⟨e1, hx1, e2, e3⟩
  | false =>
    rw [if_neg (by simp)] at hy
    rcases hj2 : J2 (vaOf A a.v (dlo p h)) p a (Sp.clashOf p.win (dep p h) a.s a.t (Sp.viewOf (prs A a.v))) with ⟨x2, b2⟩
    have hx2 : VdOk x2 := by have := J2_ok (p := p) (a := a) (c := Sp.clashOf p.win (dep p h) a.s a.t (Sp.viewOf (prs A a.v))) hV; rw [hj2] at this; exact this
    have hct := clash_bnd i a.v p.win (dep p h) a.s a.t
    rw [hj2] at hy
    cases b2 with
    | true =>
      rw [if_pos rfl] at hy
      subst hy
      exact (djudge_two d a p i.ok.1 h A Q F R v hv2 ha ha.r hv h0 i.ok w s x1 hx1 hj x2 hx2 hj2 hct).mono fun e w' ⟨e1, e2, e3⟩ => ⟨e1, hx2, e2, e3⟩
    | false =>
      rw [if_neg (by simp)] at hy
      subst hy
      exact (djudge_none d a p i.ok.1 h A Q F R v hv2 ha ha.r hv h0 i.ok w s x1 hx1 hj x2 hx2 hj2 hct).mono fun e w' ⟨e1, e2, e3⟩ => ⟨e1, Vd.z_ok, e2, e3⟩
theorem sput_T (s : DetT B w d p h A Q F R (HasP v x)) (hv : v < 32) (hvv : a.v = (v : Int)) (c : Comes p h a) :
    Calls Tryz.prog 49 #[.pointer (some ⟨x.sp, 0, none⟩), .int .i64 a.s, .int .i64 a.t] w fun e w' => e = .returned (.int .i64 0) ∧ DetMid B w.heap.size w' d p h A Q F R v x a ∧ Keeps (One x.sp) w w' := by
  obtain ⟨q1, _⟩ := s.part hv
  refine (Sp.span_put_ok x.sp _ _ a.s a.t w x.FP _ q1.span (by have := c.fine.2.2.1; omega) (by have := c.st; omega) (by rw [dlow_is]; have := c.lo; have := c.st; omega) (by have := c.hi; omega)).mono ?_
  rintro e w' ⟨rfl, hS, k⟩
  refine ⟨rfl, ⟨w, s, rfl, k, ?_⟩, k⟩
  rw [← hvv] at hS
  rw [← view_put]; exact hS
theorem rput_T (m : DetMid B C w d p h A Q F R v x a) (hB : B ≤ C) (hv : v < 32) (hvv : a.v = (v : Int)) (ha : a.Ok) (c : Comes p h a) (hn : vaOf A a.v (dlo p h) a.t = none) :
    Calls Tryz.prog 50 #[.pointer (some ⟨x.r, 0, none⟩), .agg (Att.c a)] w fun e w' => e = .returned (.int .i64 0) ∧ DetN B C w' d p h (A ++ [a]) Q F R ∧ Keeps (One x.A.s) w w' := by
  have hr := m.rec_ hv
  obtain ⟨V, s, rfl, k1, hS⟩ := m
  obtain ⟨q1, ⟨a1, a2, a3⟩, b1, b2, b3⟩ := s.part hv
  have hE : qPutErr (v : Int) x.A a = 0 := by
    unfold qPutErr whoErr gputErr
    have hf := Att.err_fine.2 c.fine
    have hw := c.hi
    have hl := c.lo
    have hst := c.st
    have hwin : dep p h < dlo p h + p.win := by unfold dlo; omega
    rw [if_neg (by rw [if_neg (by simpa using hf), if_neg (by simpa using hvv)]; simp), if_neg (by omega), if_neg (by omega), a3, ← hvv, hn]; rfl
  refine (qPut_ok x.r v x.A x.B a w hr ha).mono ?_
  rintro e w' ⟨rfl, _, hg, k2⟩
  obtain ⟨S', hR⟩ := hg hE
  have k : Keeps x.own V w' := (k1.mono fun j _ (hj : j = x.sp) => .inl hj).then k2 fun j _ (hj : j = x.A.s) => .inr (.inr (.inl hj))
  obtain ⟨P, who, s1, s2, s3, s4⟩ := s
  have hsp : Sp.SpanView w' (fun j => x.FP j ∨ j = V.heap.size + 1 + 1) x.sp p.win (dep p h) (Sp.viewOf (prs (A ++ [a]) a.v)) := by
    refine hS.of_keeps k2 (fun (e : x.sp = x.A.s) => ?_) (fun j hj (e : j = x.A.s) => ?_) (fun _ h => h) hS.nb (fun j hj => Nat.lt_of_lt_of_le (hS.fp j hj) k2.size)
    · obtain ⟨cs, hc⟩ := SpanView.blk hS
      exact rec_ne hr hc (by decide) e
    · have ho : x.own x.A.s := .inr (.inr (.inl rfl))
      rcases hj with hj | hj
      · exact (s1.self hv s2).1 j hj (e ▸ ho)
      · have := q1.lt _ ho; omega
  have hq : w'.heap[x.q]? = some (.cells #[.pointer (some ⟨x.sp, 0, none⟩), .pointer (some ⟨x.r, 0, none⟩)] 85 (0, 0)) := k.odd q1.still.1 q1.blk
  obtain ⟨who', g⟩ := s1.turn hv s2 k (x' := { x with A := { x.A with V := upV x.A.V a.t a, S := S' }, FP := fun j => x.FP j ∨ j = V.heap.size + 1 + 1 }) rfl (fun _ h => h) (fun j hj => hj.elim .inl fun e => .inr (by omega)) (g' := fun _ => h) (fun _ _ => rfl) (A' := A ++ [a]) (Q' := Q)
    (fun u hu => by
      have hne : a.v ≠ (u : Int) := by omega
      exact ⟨prs_other hne, fun lo => vaOf_other hne, fun _ => rfl, fun hn x hx => by
        rcases List.mem_append.1 hx with hx | hx
        · exact hn x hx
        · simp only [List.mem_singleton] at hx; subst hx; exact hne, id⟩)
    ⟨⟨hq, hvv ▸ hsp, hR⟩, ⟨a1, a2, by rw [← hvv]; rw [← vaOf_put (by have := c.lo; have := c.st; omega) hn, hvv]; exact congrArg (fun V => upV V a.t a) a3⟩, b1, b2, b3⟩
  refine ⟨by rw [hE], ⟨_, who', g, fun j hj => ?_, fun j hj => ?_⟩, k2⟩
  · rcases hj with rfl | ⟨u, y, hu, hy, hj⟩
    · exact s3 j (.inl rfl)
    · by_cases hne : u = v
      · simp only [if_pos hne, Option.some.injEq] at hy
        subst hy; exact s3 j (.inr ⟨v, x, hv, s2, hj⟩)
      · simp only [if_neg hne] at hy
        exact s3 j (.inr ⟨u, y, hu, hy, hj⟩)
  · obtain ⟨u, y, hu, hy, hj⟩ := hj
    by_cases hne : u = v
    · simp only [if_pos hne, Option.some.injEq] at hy
      subst hy
      rcases hj with hj | hj
      · exact .inl (s4 j ⟨v, x, hv, s2, hj⟩)
      · exact .inr (by omega)
    · simp only [if_neg hne] at hy
      exact .inl (s4 j ⟨u, y, hu, hy, hj⟩)
end
structure Mine (B : Nat) (w : World) (F M : Nat → Prop) : Prop where
  sub : ∀ i, i < B → M i → F i
  odd : ∀ U : TypeId, 79 ≠ U → 161 ≠ U → 184 ≠ U → 185 ≠ U → 192 ≠ U → 168 ≠ U → Odd w M U
theorem Mine.no {B : Nat} {w : World} {F M : Nat → Prop} (m : Mine B w F M) {g : Nat} {cs : Array Value} {U : TypeId} (hg : w.heap[g]? = some (.cells cs U (0, 0))) (hm : M g)
    (h5 : 79 ≠ U := by decide) (h0 : 161 ≠ U := by decide) (h1 : 184 ≠ U := by decide) (h2 : 185 ≠ U := by decide) (h3 : 192 ≠ U := by decide) (h4 : 168 ≠ U := by decide) : False :=
  m.odd U h5 h0 h1 h2 h3 h4 g cs (0, 0) hm hg
section
variable {B C : Nat} {w w' : World} {d : Nat} {p : Par} {h : Int} {A : List Att} {Q : List Pro} {F R : Nat → Prop} {a : Att}
theorem djudge_B (s : DetT B w d p h A Q F R AnyP) (hB : B ≤ w.heap.size) (i : DInv p h A Q) (c : Comes p h a) (ha : a.Ok) {y : Vd} (hy : dJudge p (votesOf p h A a.v) a = y) :
    Calls Tryz.prog 47 #[.pointer (some ⟨d, 0, none⟩), .agg (Att.c a)] w fun e w' => e = .returned (.agg (Vd.c y)) ∧ VdOk y ∧ DetT B w' d p h A Q F R AnyP ∧ ∃ M, Mine B w F M ∧ Keeps M w w' := by
  obtain ⟨P, who, sP, _, hF, hR⟩ := s
  have s2 : DetT w.heap.size w d p h A Q (DF d P) (DR P) AnyP := ⟨P, who, sP, trivial, fun j hj => .inl hj, fun j hj => ⟨hj, sP.ltR j hj⟩⟩
  refine (djudge_T s2 i c ha hy).mono ?_
  rintro e w' ⟨e1, e2, ⟨P', who', a1, a2, a3, a4⟩, k⟩
  exact ⟨e1, e2, ⟨P', who', a1, a2, fun j hj => (a3 j hj).elim (hF j) (fun h => .inr (by omega)), fun j hj => hR j (a4 j hj).1⟩, DF d P, ⟨fun i hi hm => (hF i hm).elim id (fun h => by omega), fun U h5 h0 h1 h2 h3 h4 => sP.odd h5 h0 h1 h2 h3 h4⟩, k⟩
theorem att_no {e : Int} (hE : attErr p h a = e) (h0 : ¬ e = 0) : attVd p h A a = Vd.z ∧ attNew p h A a = A := by
  unfold attNew attVd
  rw [hE, if_neg h0, if_neg (fun x => h0 x.1)]; exact ⟨rfl, rfl⟩
theorem att_yes (hE : attErr p h a = 0) {y : Vd} (hy : dJudge p (votesOf p h A a.v) a = y) : attVd p h A a = y ∧ attNew p h A a = if y.k = 0 then A ++ [a] else A := by
  unfold attNew attVd
  rw [hE, if_pos rfl, hy]; simp
theorem attErr_1 (h1 : ¬ a.err = 0) : attErr p h a = a.err := by unfold attErr; rw [if_pos h1]
theorem attErr_2 (h1 : a.err = 0) (h2 : a.s > a.t) : attErr p h a = 9 := by unfold attErr; rw [if_neg (by simpa using h1), if_pos h2]
theorem attErr_3 (h1 : a.err = 0) (h2 : ¬ a.s > a.t) (h3 : a.t > dep p h) : attErr p h a = 17 := by unfold attErr; rw [if_neg (by simpa using h1), if_neg h2, if_pos h3]
theorem attErr_4 (h1 : a.err = 0) (h2 : ¬ a.s > a.t) (h3 : ¬ a.t > dep p h) (h4 : a.s < dlo p h) : attErr p h a = 16 := by unfold attErr; rw [if_neg (by simpa using h1), if_neg h2, if_neg h3, if_pos h4]
theorem attErr_5 (h1 : a.err = 0) (h2 : ¬ a.s > a.t) (h3 : ¬ a.t > dep p h) (h4 : ¬ a.s < dlo p h) : attErr p h a = 0 := by unfold attErr; rw [if_neg (by simpa using h1), if_neg h2, if_neg h3, if_neg h4]
end
end
section
open Go Go.RowKit Go.Own Go.Shelf
noncomputable def qc104_0 (n : Nat) : Code := partOf Tryz.f24 n
theorem dAttest_core (d : Nat) (a : Att) (p : Par) (h : Int) (A : List Att) (Q : List Pro) (F R : Nat → Prop) (ha : a.Ok) (hr_a : a.r.length = 32) (inv : DInv p h A Q) (w : World) (s : DetT w.heap.size w d p h A Q F R AnyP) :
  Calls Tryz.prog 24 #[pT d 0, .agg (Att.c a)] w (fun e w' => e = .returned (.tuple #[.agg (Vd.c (attVd p h A a)), .int .i64 (attErr p h a)]) ∧ DetN w.heap.size w.heap.size w' d p h (attNew p h A a) Q F R ∧ Keeps F w w') := by
 obtain ⟨PP, hPP⟩ := s.blk
 have nd := lt_of_block hPP
 have hk := inv.ok
 have hh0 : ¬ h = 0 := by have := hk.2.2; omega
 have K0 : Keeps F w w := Keeps.refl _ _
 refine se_ (qc104_0 1) ⟨fr [pT d 0, .agg (Att.c a)] 71, []⟩ Tryz.func24 <| qr_ [0, 1, 2] <| pbx 28 ((Att.c a)) (.agg (Att.c a)) fun V1 ga ega h2 kV1 => ?_
 have n3 := nl ega hPP
 have n4 := nk ega K0
 have h5 : DetT w.heap.size V1 d p h A Q F R AnyP := s.keepsN kV1
 have ⟨K7, z8, h6⟩ := kV1.z1 K0 hPP
 refine pal 57 (vdC 0 attZ proZ 0) (.agg (vdC 0 attZ proZ 0)) fun V9 res eres h10 kV9 => ?_
 have n11 := nl eres h6
 have n12 := nl eres h2
 have n13 := nk eres K7
 have h14 : DetT w.heap.size V9 d p h A Q F R AnyP := h5.keepsN kV9
 have ⟨K17, z18, h15, h16⟩ := kV9.z2 K7 h6 h2
 refine kk 1 <| eq_ <| qr_ [0, 1] <| kk 1 ?_
 refine pcq 38 #[pT d 0] Tryz.func38 ((dnone_no d p h PP _ h15 hh0).mono ?_)
 rintro e w1 ⟨rfl, rfl⟩
 refine ⟨_, rfl, ?_⟩
 refine en_ <| s_ <| tqr_ nl9_ <| kk 1 ?_
 refine pcr 45 #[pT d 0] Tryz.func45 (dwindow_ok d p h PP _ h15 hk _ _ _ rfl rfl rfl) fun V19 kV19 => ?_
 have h20 : DetT w.heap.size V19 d p h A Q F R AnyP := h14.keepsN kV19
 have ⟨K24, z25, h22, h23⟩ := kV19.z2 K17 h16 h10
 refine kk 7 <| eqr_ [0, 1, 2] <| ppq _ (ldr 28 ga (h22) (by rw [Att.c_size _ hr_a]; kernel_rfl)) ?_
 refine pcr 46 #[.agg (Att.c a)] Tryz.func46 (vCheck_ok a _ hr_a) fun V26 kV26 => ?_
 have h27 : DetT w.heap.size V26 d p h A Q F R AnyP := h20.keepsN kV26
 have ⟨K31, z32, h29, h30⟩ := kV26.z2 K24 h22 h23
 refine kk 1 <| eq_ <| bl_ 0 <| q_ ?_
 by_cases g1 : a.err = 0
 ·refine r_ [0, 1, 2] <| kk 1 <| ppq _ (nqf ((a.err) : Int) ((0) : Int) (by omega)) <| kk 1 <| en_ <| q_ ?_
  by_cases g2 : a.s > a.t
  ·skip
   have hE : attErr p h a = (9 : Int) := attErr_2 g1 g2
   have hz : ¬ (9 : Int) = 0 := by omega
   refine r_ nl6_ <| kk 1 <| ppq _ (lc (h29) (Att.c_1 _)) <| kk 1 <| ppq _ (lc (h29) (Att.c_2 _)) <| ppq _ (dct (((a.s) : Int) > ((a.t) : Int)) (by omega)) <| kk 1 <| ps_end <| then_n <| y_ <| qr_ [0, 1, 2] <| kk 1 <| pst 57 res (vdC 0 attZ proZ 0) h30 (by kernel_rfl) (vd_sizes (by kernel_rfl) (by kernel_rfl)) (by kernel_rfl) fun V33 h34 kV33 => ?_
   have h35 : DetT w.heap.size V33 d p h A Q F R AnyP := DetT.one h27 h30 (by omega) kV33
   have K38 := K31.nO kV33
   have z39 := kV33.size
   refine kk 1 <| eu_ <| blk_r <| then_r <| sy_out (.tuple #[.agg (vdC 0 attZ proZ 0), .int .i64 9]) rfl (rrt 57 res h34 Tryz.underlying57 (by kernel_rfl)) ?_
   exact ⟨by rw [(att_no hE hz).1, hE]; kernel_rfl, by rw [(att_no hE hz).2]; exact h35.toN _, K38⟩
  ·refine r_ nl6_ <| kk 1 <| ppq _ (lc (h29) (Att.c_1 _)) <| kk 1 <| ppq _ (lc (h29) (Att.c_2 _)) <| ppq _ (dcf (((a.s) : Int) > ((a.t) : Int)) (by omega)) <| kk 1 <| ps_end <| then_n <| n_ <| q_ ?_
   by_cases g3 : a.t > dep p h
   ·skip
    have hE : attErr p h a = (17 : Int) := attErr_3 g1 g2 g3
    have hz : ¬ (17 : Int) = 0 := by omega
    refine r_ nl5_ <| kk 1 <| ppq _ (lc (h29) (Att.c_2 _)) <| kk 1 <| ppq _ (dct (((a.t) : Int) > ((dep p h) : Int)) (by omega)) <| kk 1 <| ey_ <| qr_ [0, 1, 2] <| kk 1 <| pst 57 res (vdC 0 attZ proZ 0) h30 (by kernel_rfl) (vd_sizes (by kernel_rfl) (by kernel_rfl)) (by kernel_rfl) fun V40 h41 kV40 => ?_
    have h42 : DetT w.heap.size V40 d p h A Q F R AnyP := DetT.one h27 h30 (by omega) kV40
    have K45 := K31.nO kV40
    have z46 := kV40.size
    refine kk 1 <| eu_ <| blk_r <| then_r <| sy_out (.tuple #[.agg (vdC 0 attZ proZ 0), .int .i64 17]) rfl (rrt 57 res h41 Tryz.underlying57 (by kernel_rfl)) ?_
    exact ⟨by rw [(att_no hE hz).1, hE]; kernel_rfl, by rw [(att_no hE hz).2]; exact h42.toN _, K45⟩
   ·refine r_ nl5_ <| kk 1 <| ppq _ (lc (h29) (Att.c_2 _)) <| kk 1 <| ppq _ (dcf (((a.t) : Int) > ((dep p h) : Int)) (by omega)) <| kk 1 <| en_ <| q_ ?_
    by_cases g4 : a.s < dlo p h
    ·skip
     have hE : attErr p h a = (16 : Int) := attErr_4 g1 g2 g3 g4
     have hz : ¬ (16 : Int) = 0 := by omega
     refine r_ nl5_ <| kk 1 <| ppq _ (lc (h29) (Att.c_1 _)) <| kk 1 <| ppq _ (dct (((a.s) : Int) < ((dlo p h) : Int)) (by omega)) <| kk 1 <| ey_ <| qr_ [0, 1, 2] <| kk 1 <| pst 57 res (vdC 0 attZ proZ 0) h30 (by kernel_rfl) (vd_sizes (by kernel_rfl) (by kernel_rfl)) (by kernel_rfl) fun V47 h48 kV47 => ?_
     have h49 : DetT w.heap.size V47 d p h A Q F R AnyP := DetT.one h27 h30 (by omega) kV47
     have K52 := K31.nO kV47
     have z53 := kV47.size
     refine kk 1 <| eu_ <| blk_r <| then_r <| sy_out (.tuple #[.agg (vdC 0 attZ proZ 0), .int .i64 16]) rfl (rrt 57 res h48 Tryz.underlying57 (by kernel_rfl)) ?_
     exact ⟨by rw [(att_no hE hz).1, hE]; kernel_rfl, by rw [(att_no hE hz).2]; exact h49.toN _, K52⟩
    ·have hE : attErr p h a = 0 := attErr_5 g1 g2 g3 g4
     have com := attErr_0 hE
     obtain ⟨y, hy⟩ : ∃ y, dJudge p (votesOf p h A a.v) a = y := ⟨_, rfl⟩
     obtain ⟨v, hvv⟩ : ∃ v : Nat, a.v = (v : Int) := ⟨a.v.toNat, by have := com.fine.1; omega⟩
     have hv2 : v < 32 := by have := com.fine.2.1; omega
     refine r_ nl5_ <| kk 1 <| ppq _ (lc (h29) (Att.c_1 _)) <| kk 1 <| ppq _ (dcf (((a.s) : Int) < ((dlo p h) : Int)) (by omega)) <| kk 1 <| en_ <| s_ <| blk_n <| tqr_ nl5_ <| kk 1 <| ppq _ (ldr 28 ga (h29) (by rw [Att.c_size _ hr_a]; kernel_rfl)) ?_
     refine pcq 47 #[pT d 0, .agg (Att.c a)] Tryz.func47 ((djudge_B h27 K31.size inv com ha hy).mono ?_)
     rintro e V54 ⟨rfl, hyo, hJV54, MV54, hMV54, kV54⟩
     refine ⟨_, rfl, ?_⟩
     have h55 : HP V54 ga (Att.c a) 28 := (kV54.block ga (lt_of_block h29) (fun e => hMV54.no h29 e)).trans h29
     have h56 : HP V54 res (vdC 0 attZ proZ 0) 57 := (kV54.block res (lt_of_block h30) (fun e => hMV54.no h30 e)).trans h30
     have K57 : Keeps F w V54 := K31.then kV54 hMV54.sub
     have z58 := kV54.size
     refine pal 57 (vdC 0 attZ proZ 0) (.agg (vdC 0 attZ proZ 0)) fun V59 gv egv h60 kV59 => ?_
     have n61 := nl egv h55
     have n62 := nl egv h56
     have n63 := nk egv K57
     have ⟨h64, h65⟩ := kV59.k2 h55 h56
     have h66 : DetT w.heap.size V59 d p h A Q F R AnyP := hJV54.keepsN kV59
     have K67 := K57.nn kV59
     have z68 := kV59.size
     refine pst 57 gv (Vd.c y) h60 (by rw [Vd.c_size hyo]; kernel_rfl) (vd_sizes (Vd.c_size hyo) (by kernel_rfl)) Vd.c_one fun V69 h70 kV69 => ?_
     have ⟨h71, h72⟩ := kV69.ko2 h64 h65
     have h73 : DetT w.heap.size V69 d p h A Q F R AnyP := DetT.one h66 h60 (by omega) kV69
     have K74 := K67.nO kV69
     have z75 := kV69.size
     refine eq_ <| q_ ?_
     by_cases hk0 : y.k = 0
     ·refine r_ [0, 1, 2] <| kk 1 <| ppq (.int .i64 y.k) (lc (h70) (rfl) (k := 0)) <| ppq _ (eqt ((y.k) : Int) ((0) : Int) (by omega)) <| ey_ <| qr_ nl5_ <| kk 2 <| ppq _ (lc (h71) (Att.c_0 _)) ?_
      refine pcq 48 #[pT d 0, .int .i64 a.v] Tryz.func48 ((dof_T h73 K74.size hk hv2 hvv).mono ?_)
      rintro e V76 ⟨x, rfl, hJV76, kV76⟩
      have hqV76 := (DetT.part hJV76 hv2).1.blk
      refine ⟨_, rfl, ?_⟩
      have ⟨h77, h78, h79⟩ := kV76.ko3 h71 h72 h70
      have K80 : Keeps F w V76 := K74.then kV76 (DetT.kd h73)
      have z81 := kV76.size
      refine kk 1 <| eq_ <| sy_np <| sy_reg <| anb 9 (fun W => (HP W x.q (#[pT x.sp 0, pT x.r 0]) 85) ∧ (HP W ga (Att.c a) 28)) #[false, false, false, false, false, false, false, false, false] ?_
      obtain ⟨V82, eV82, kV82⟩ := drew_step V76
      rw [eV82]
      clear eV82
      have ⟨h83, h84, h85⟩ := kV82.k3 h77 h78 h79
      have h86 : DetT w.heap.size V82 d p h A Q F R (HasP v x) := hJV76.keepsN kV82
      have h87 : HP V82 x.q (#[pT x.sp 0, pT x.r 0]) 85 := kV82.bk hqV76
      have K88 := K80.nn kV82
      have z89 := kV82.size
      refine ka [0, 1, 2] ⟨h87, h83⟩ <| avq 3 _ (fun W hS => lk (hS.1)) ⟨h87, h83⟩ <| ka [4] ⟨h87, h83⟩ <| avq 5 _ (fun W hS => lc (hS.2) (Att.c_1 _)) ⟨h87, h83⟩ <| ka [6] ⟨h87, h83⟩ <| avq 7 _ (fun W hS => lc (hS.2) (Att.c_2 _)) ⟨h87, h83⟩ <| an_o 8 ?_
      have n91 := span_ne (DetT.part h86 hv2).1.span h83 (by decide)
      have n92 := span_ne (DetT.part h86 hv2).1.span h84 (by decide)
      have n93 := span_ne (DetT.part h86 hv2).1.span h85 (by decide)
      have n94 := span_ne (DetT.part h86 hv2).1.span h87 (by decide)
      have n95 := lt_of_block h84
      refine ncq 49 #[pT x.sp 0, .int .i64 a.s, .int .i64 a.t] Tryz.func49 ((sput_T h86 hv2 hvv com).mono ?_)
      rintro e V90 ⟨rfl, hDV90, kV90⟩
      refine ⟨_, rfl, ?_⟩
      have ⟨h96, h97, h98⟩ := kV90.ko3 h83 h84 h85
      have h99 : HP V90 x.q (#[pT x.sp 0, pT x.r 0]) 85 := kV90.bO h87
      have K100 : Keeps F w V90 := K88.then kV90 (DetT.ks h86 hv2)
      have z101 := kV90.size
      refine ⟨⟨h99, h96⟩, ?_⟩
      refine ane <| then_n <| sy_np <| sy_reg <| anb 6 (fun W => (HP W x.q (#[pT x.sp 0, pT x.r 0]) 85) ∧ (HP W ga (Att.c a) 28)) #[false, false, false, false, false, false] ?_
      obtain ⟨V102, eV102, kV102⟩ := drew_step V90
      rw [eV102]
      clear eV102
      have ⟨h103, h104, h105⟩ := kV102.k3 h96 h97 h98
      have h106 : HP V102 x.q (#[pT x.sp 0, pT x.r 0]) 85 := kV102.bk h99
      have h107 : DetMid w.heap.size V82.heap.size V102 d p h A Q F R v x a := hDV90.keepsN kV102
      have K108 := K100.nn kV102
      have z109 := kV102.size
      refine ka [0, 1, 2] ⟨h106, h103⟩ <| avq 3 _ (fun W hS => lk (hS.1)) ⟨h106, h103⟩ <| avq 4 _ (fun W hS => ldr 28 ga (hS.2) (by rw [Att.c_size _ hr_a]; kernel_rfl)) ⟨h106, h103⟩ <| an_o 5 ?_
      have n111 := rec_ne (DetMid.rec_ h107 hv2) h103 (by decide)
      have n112 := rec_ne (DetMid.rec_ h107 hv2) h104 (by decide)
      have n113 := rec_ne (DetMid.rec_ h107 hv2) h105 (by decide)
      have n114 := rec_ne (DetMid.rec_ h107 hv2) h106 (by decide)
      refine ncq 50 #[pT x.r 0, .agg (Att.c a)] Tryz.func50 ((rput_T h107 K88.size hv2 hvv ha com ((va_none inv).2 (judge_k0 (by rw [hy]; exact hk0)))).mono ?_)
      rintro e V110 ⟨rfl, hNV110, kV110⟩
      refine ⟨_, rfl, ?_⟩
      have ⟨h115, h116, h117⟩ := kV110.ko3 h103 h104 h105
      have h118 : HP V110 x.q (#[pT x.sp 0, pT x.r 0]) 85 := kV110.bO h106
      have K119 : Keeps F w V110 := K108.then kV110 (DetMid.kr h107 hv2)
      have z120 := kV110.size
      refine ⟨⟨h118, h115⟩, ?_⟩
      refine ane <| tqr_ [0, 1, 2] <| ppq _ (ldr 57 gv (h117) (by rw [Vd.c_size hyo]; kernel_rfl)) <| pst 57 res (Vd.c y) h116 (by rw [Vd.c_size hyo]; kernel_rfl) (vd_sizes (Vd.c_size hyo) (by kernel_rfl)) Vd.c_one fun V121 h122 kV121 => ?_
      have h126 : DetN w.heap.size V82.heap.size V121 d p h (A ++ [a]) Q F R := DetN.one hNV110 h116 ⟨by omega, by omega⟩ kV121
      have K127 := K119.nO kV121
      have z128 := kV121.size
      refine kk 1 <| eu_ <| sy_out (.tuple #[.agg (Vd.c y), .int .i64 0]) rfl (rrt 57 res h122 Tryz.underlying57 (by rw [Vd.c_size hyo]; kernel_rfl)) ?_
      exact ⟨by rw [(att_yes hE hy).1, hE], by rw [(att_yes hE hy).2, if_pos hk0]; exact h126.weak K88.size, K127⟩
     ·skip
      refine r_ [0, 1, 2] <| kk 1 <| ppq (.int .i64 y.k) (lc (h70) (rfl) (k := 0)) <| ppq _ (eqf ((y.k) : Int) ((0) : Int) (by omega)) <| en_ <| s_ <| tqr_ [0, 1, 2] <| ppq _ (ldr 57 gv (h70) (by rw [Vd.c_size hyo]; kernel_rfl)) <| pst 57 res (Vd.c y) h72 (by rw [Vd.c_size hyo]; kernel_rfl) (vd_sizes (Vd.c_size hyo) (by kernel_rfl)) Vd.c_one fun V129 h130 kV129 => ?_
      have h132 : DetT w.heap.size V129 d p h A Q F R AnyP := DetT.one h73 h72 (by omega) kV129
      have K134 := K74.nO kV129
      have z135 := kV129.size
      refine kk 1 <| eu_ <| sy_out (.tuple #[.agg (Vd.c y), .int .i64 0]) rfl (rrt 57 res h130 Tryz.underlying57 (by rw [Vd.c_size hyo]; kernel_rfl)) ?_
      exact ⟨by rw [(att_yes hE hy).1, hE], by rw [(att_yes hE hy).2, if_neg hk0]; exact h132.toN _, K134⟩
 ·skip
  have hE : attErr p h a = a.err := attErr_1 g1
  have hz : ¬ a.err = 0 := by omega
  refine r_ [0, 1, 2] <| kk 1 <| ppq _ (nqt ((a.err) : Int) ((0) : Int) (by omega)) <| kk 1 <| ey_ <| qr_ [0, 1, 2, 3] <| kk 2 <| pst 57 res (vdC 0 attZ proZ 0) h30 (by kernel_rfl) (vd_sizes (by kernel_rfl) (by kernel_rfl)) (by kernel_rfl) fun V136 h137 kV136 => ?_
  have h138 : DetT w.heap.size V136 d p h A Q F R AnyP := DetT.one h27 h30 (by omega) kV136
  have K141 := K31.nO kV136
  have z142 := kV136.size
  refine kk 1 <| ps_end <| then_n <| u_ <| blk_r <| then_r <| sy_out (.tuple #[.agg (vdC 0 attZ proZ 0), .int .i64 a.err]) rfl (rrt 57 res h137 Tryz.underlying57 (by kernel_rfl)) ?_
  exact ⟨by rw [(att_no hE hz).1, hE]; kernel_rfl, by rw [(att_no hE hz).2]; exact h138.toN _, K141⟩
end
section
open Go Go.RowKit Go.Own Go.Shelf
def proErr (p : Par) (h : Int) (q : Pro) : Int := if q.err ≠ 0 then q.err else if q.h > h then 17 else if q.h < dfl p h then 16 else 0
def dPro (l : List Pro) (q : Pro) : Vd :=
  match l.find? (fun b => decide (b.h = q.h)) with
  | some w => if doubP q w = true then ⟨2, zAtt, w, q.h⟩ else ⟨1, zAtt, w, 0⟩
  | none => Vd.z
def proVd (p : Par) (h : Int) (Q : List Pro) (q : Pro) : Vd := if proErr p h q = 0 then dPro (blocksOf p h Q q.v) q else Vd.z
def proNew (p : Par) (h : Int) (Q : List Pro) (q : Pro) : List Pro := if proErr p h q = 0 ∧ (proVd p h Q q).k = 0 then Q ++ [q] else Q
structure ComesP (p : Par) (h : Int) (q : Pro) : Prop where
  fine : q.fine
  hi : q.h ≤ h
  lo : dfl p h ≤ q.h
section
variable {p : Par} {h : Int} {A : List Att} {Q : List Pro} {q : Pro}
theorem proErr_1 (h1 : ¬ q.err = 0) : proErr p h q = q.err := by unfold proErr; rw [if_pos h1]
theorem proErr_2 (h1 : q.err = 0) (h2 : q.h > h) : proErr p h q = 17 := by unfold proErr; rw [if_neg (by simpa using h1), if_pos h2]
theorem proErr_3 (h1 : q.err = 0) (h2 : ¬ q.h > h) (h3 : q.h < dfl p h) : proErr p h q = 16 := by unfold proErr; rw [if_neg (by simpa using h1), if_neg h2, if_pos h3]
theorem proErr_4 (h1 : q.err = 0) (h2 : ¬ q.h > h) (h3 : ¬ q.h < dfl p h) : proErr p h q = 0 := by unfold proErr; rw [if_neg (by simpa using h1), if_neg h2, if_neg h3]
theorem ComesP.err (c : ComesP p h q) : proErr p h q = 0 := proErr_4 (Pro.err_fine.2 c.fine) (by have := c.hi; omega) (by have := c.lo; omega)
theorem proErr_0 (e : proErr p h q = 0) : ComesP p h q := by
  by_cases h1 : q.err = 0
  · by_cases h2 : q.h > h
    · rw [proErr_2 h1 h2] at e; cases e
    · by_cases h3 : q.h < dfl p h
      · rw [proErr_3 h1 h2 h3] at e; cases e
      · exact ⟨Pro.err_fine.1 h1, by omega, by omega⟩
  · rw [proErr_1 h1] at e; exact absurd e h1
theorem pro_no {e : Int} (hE : proErr p h q = e) (h0 : ¬ e = 0) : proVd p h Q q = Vd.z ∧ proNew p h Q q = Q := by
  unfold proNew proVd
  rw [hE, if_neg h0, if_neg (fun x => h0 x.1)]; exact ⟨rfl, rfl⟩
theorem blocks_find (i : DInv p h A Q) : (blocksOf p h Q q.v).find? (fun b => decide (b.h = q.h)) = vbOf Q q.v (dfl p h) q.h := by
  cases hv : vbOf Q q.v (dfl p h) q.h with
  | none =>
    rw [List.find?_eq_none]
    intro b hb
    obtain ⟨b1, b2, b3⟩ := mem_blocks.1 hb
    simp only [decide_eq_true_eq]
    intro hh
    rw [(vb_some i).2 ⟨⟨b1, b2, b3⟩, hh⟩] at hv; cases hv
  | some w =>
    obtain ⟨⟨g1, g2, g3⟩, g4⟩ := (vb_some i).1 hv
    cases hf : (blocksOf p h Q q.v).find? (fun b => decide (b.h = q.h)) with
    | none => exact absurd (by simpa using g4) ((List.find?_eq_none.1 hf) w (mem_blocks.2 ⟨g1, g2, g3⟩))
    | some u =>
      obtain ⟨b1, b2, b3⟩ := mem_blocks.1 (List.mem_of_find?_eq_some hf)
      have b4 := List.find?_some hf
      simp only [decide_eq_true_eq] at b4
      rw [pros_uniq i.uq b1 g1 (by rw [b2, g2]) (by rw [b4, g4])]
theorem pro_new (i : DInv p h A Q) (hE : proErr p h q = 0) (hV : vbOf Q q.v (dfl p h) q.h = none) : proVd p h Q q = Vd.z ∧ proNew p h Q q = Q ++ [q] := by
  have h1 : proVd p h Q q = Vd.z := by unfold proVd dPro; rw [if_pos hE, blocks_find i, hV]
  refine ⟨h1, ?_⟩
  unfold proNew
  rw [h1, if_pos ⟨hE, rfl⟩]
theorem pro_two (i : DInv p h A Q) (hE : proErr p h q = 0) {b : Pro} (hV : vbOf Q q.v (dfl p h) q.h = some b) (hd : doubP q b = true) : proVd p h Q q = ⟨2, zAtt, b, q.h⟩ ∧ proNew p h Q q = Q := by
  have h1 : proVd p h Q q = ⟨2, zAtt, b, q.h⟩ := by
    unfold proVd dPro
    rw [if_pos hE, blocks_find i, hV]
    exact if_pos hd
  refine ⟨h1, ?_⟩
  unfold proNew
  rw [h1, if_neg (fun x => by cases x.2)]
theorem pro_one (i : DInv p h A Q) (hE : proErr p h q = 0) {b : Pro} (hV : vbOf Q q.v (dfl p h) q.h = some b) (hd : doubP q b = false) : proVd p h Q q = ⟨1, zAtt, b, 0⟩ ∧ proNew p h Q q = Q := by
  have h1 : proVd p h Q q = ⟨1, zAtt, b, 0⟩ := by
    unfold proVd dPro
    rw [if_pos hE, blocks_find i, hV]
    exact if_neg (by rw [hd]; simp)
  refine ⟨h1, ?_⟩
  unfold proNew
  rw [h1, if_neg (fun x => by cases x.2)]
end
theorem zPro_r : zPro.r.length = 32 := by kernel_rfl
section
variable {B : Nat} {w w' : World} {d : Nat} {p : Par} {h : Int} {A : List Att} {Q : List Pro} {F R : Nat → Prop} {v : Nat} {x : PD} {q b : Pro}
theorem qblock_T (s : DetT B w d p h A Q F R (HasP v x)) (hv : v < 32) (hqv : q.v = (v : Int)) (hV : vbOf Q q.v (dfl p h) q.h = some b) :
    Calls Tryz.prog 52 #[.pointer (some ⟨x.r, 0, none⟩), .int .i64 q.h] w fun e w' => e = .returned (.tuple #[.agg (Pro.c b), .bool true]) ∧ Keeps Nob w w' := by
  obtain ⟨q1, _, _, _, q2⟩ := s.part hv
  have c := qBlock_ok x.r v x.A x.B q.h w q1.rec_
  rw [q2, ← hqv, hV] at c; exact c
theorem qblock_Z (s : DetT B w d p h A Q F R (HasP v x)) (hv : v < 32) (hqv : q.v = (v : Int)) (hV : vbOf Q q.v (dfl p h) q.h = none) (hb : b = zPro) :
    Calls Tryz.prog 52 #[.pointer (some ⟨x.r, 0, none⟩), .int .i64 q.h] w fun e w' => e = .returned (.tuple #[.agg (Pro.c b), .bool false]) ∧ Keeps Nob w w' := by
  subst hb
  obtain ⟨q1, _, _, _, q2⟩ := s.part hv
  have c := qBlock_ok x.r v x.A x.B q.h w q1.rec_
  rw [q2, ← hqv, hV] at c; exact c
theorem DetT.krB (s : DetT B w d p h A Q F R (HasP v x)) (hv : v < 32) : ∀ i, i < B → One x.B.s i → F i := fun i hi (hm : i = x.B.s) => by
  rcases s.own hv i (.inr (.inr (.inr (.inr hm)))) with e | e
  · exact e
  · omega
theorem rputB_T (s : DetT B w d p h A Q F R (HasP v x)) (hv : v < 32) (hqv : q.v = (v : Int)) (hq : q.Ok) (c : ComesP p h q) (hn : vbOf Q q.v (dfl p h) q.h = none) :
    Calls Tryz.prog 54 #[.pointer (some ⟨x.r, 0, none⟩), .agg (Pro.c q)] w fun e w' => e = .returned (.int .i64 0) ∧ DetT B w' d p h A (Q ++ [q]) F R AnyP ∧ Keeps (One x.B.s) w w' := by
  obtain ⟨q1, a1, b1, b2, b3⟩ := s.part hv
  have hE : qPutBlockErr (v : Int) x.B q = 0 := by
    unfold qPutBlockErr whoErr gputBErr
    have hf := Pro.err_fine.2 c.fine
    have := c.hi
    have := c.lo
    have hwin : h < dfl p h + p.win * p.elen := by unfold dfl; omega
    rw [if_neg (by rw [if_neg (by simpa using hf), if_neg (by simpa using hqv)]; simp), if_neg (by omega), if_neg (by omega), b3, ← hqv, hn]; rfl
  refine (qPutBlock_ok x.r v x.A x.B q w q1.rec_ hq).mono ?_
  rintro e w' ⟨rfl, _, hg, k2⟩
  obtain ⟨S', hR⟩ := hg hE
  have k : Keeps x.own w w' := k2.mono fun j _ (hj : j = x.B.s) => .inr (.inr (.inr (.inr hj)))
  obtain ⟨P, who, s1, s2, s3, s4⟩ := s
  have hsp : Sp.SpanView w' x.FP x.sp p.win (dep p h) (Sp.viewOf (prs A v)) := by
    refine q1.span.of_keeps k2 (fun (e : x.sp = x.B.s) => ?_) (fun j hj (e : j = x.B.s) => ?_) (fun _ h => h) q1.span.nb (fun j hj => Nat.lt_of_lt_of_le (q1.span.fp j hj) k2.size)
    · obtain ⟨cs, hc⟩ := SpanView.blk q1.span
      exact rec_neB q1.rec_ hc (by decide) e
    · exact (s1.self hv s2).1 j hj (e ▸ .inr (.inr (.inr (.inr rfl))))
  have hq' : w'.heap[x.q]? = some (.cells #[.pointer (some ⟨x.sp, 0, none⟩), .pointer (some ⟨x.r, 0, none⟩)] 85 (0, 0)) := k.odd q1.still.1 q1.blk
  obtain ⟨who', g⟩ := s1.turn hv s2 k (x' := { x with B := { x.B with V := upV x.B.V q.h q, S := S' } }) rfl (fun _ h => h) (fun j hj => .inl hj) (g' := fun _ => h) (fun _ _ => rfl) (A' := A) (Q' := Q ++ [q])
    (fun u hu => by
      have hne : q.v ≠ (u : Int) := by omega
      exact ⟨rfl, fun _ => rfl, fun lo => vbOf_other hne, id, fun hn x hx => by
        rcases List.mem_append.1 hx with hx | hx
        · exact hn x hx
        · simp only [List.mem_singleton] at hx; subst hx; exact hne⟩)
    ⟨⟨hq', hsp, hR⟩, a1, b1, b2, by rw [← hqv]; rw [← vbOf_put c.lo hn, hqv]; exact congrArg (fun V => upV V q.h q) b3⟩
  refine ⟨by rw [hE], ⟨_, who', g, trivial, fun j hj => ?_, fun j hj => ?_⟩, k2⟩
  · rcases hj with rfl | ⟨u, y, hu, hy, hj⟩
    · exact s3 j (.inl rfl)
    · by_cases hne : u = v
      · simp only [if_pos hne, Option.some.injEq] at hy
        subst hy; exact s3 j (.inr ⟨v, x, hv, s2, hj⟩)
      · simp only [if_neg hne] at hy
        exact s3 j (.inr ⟨u, y, hu, hy, hj⟩)
  · obtain ⟨u, y, hu, hy, hj⟩ := hj
    by_cases hne : u = v
    · simp only [if_pos hne, Option.some.injEq] at hy
      subst hy
      exact s4 j ⟨v, x, hv, s2, hj⟩
    · simp only [if_neg hne] at hy
      exact s4 j ⟨u, y, hu, hy, hj⟩
end
end
section
open Go Go.RowKit Go.Own Go.Shelf
theorem doub_is (a b : Pro) {r : Bool} (w : World) (ha : a.Ok) (hb : b.Ok) (h : doubP a b = r) : Calls Tryz.prog 55 #[.agg (Pro.c a), .agg (Pro.c b)] w fun e w' => e = .returned (.bool r) ∧ Keeps Nob w w' := by
 subst h; exact vDoublesBlock_ok a b w ha hb
noncomputable def qc106_0 (n : Nat) : Code := partOf Tryz.f25 n
noncomputable abbrev qo106_0 (n k : Nat) : Oper := (opsAt (qc106_0 n)).getD k default
theorem dPropose_core (d : Nat) (q : Pro) (p : Par) (h : Int) (A : List Att) (Q : List Pro) (F R : Nat → Prop) (hqo : q.Ok) (hr_q : q.r.length = 32) (inv : DInv p h A Q) (w : World) (s : DetT w.heap.size w d p h A Q F R AnyP) :
  Calls Tryz.prog 25 #[pT d 0, .agg (Pro.c q)] w (fun e w' => e = .returned (.tuple #[.agg (Vd.c (proVd p h Q q)), .int .i64 (proErr p h q)]) ∧ DetT w.heap.size w' d p h A (proNew p h Q q) F R AnyP ∧ Keeps F w w') := by
 obtain ⟨PP, hPP⟩ := s.blk
 have nd := lt_of_block hPP
 have hk := inv.ok
 have hh0 : ¬ h = 0 := by have := hk.2.2; omega
 have K0 : Keeps F w w := Keeps.refl _ _
 refine se_ (qc106_0 1) ⟨fr [pT d 0, .agg (Pro.c q)] 76, []⟩ Tryz.func25 <| qr_ [0, 1, 2] <| pbx 37 ((Pro.c q)) (.agg (Pro.c q)) fun V1 gq egq h2 kV1 => ?_
 have n3 := nl egq hPP
 have n4 := nk egq K0
 have h5 : DetT w.heap.size V1 d p h A Q F R AnyP := s.keepsN kV1
 have ⟨K7, z8, h6⟩ := kV1.z1 K0 hPP
 refine pal 57 (vdC 0 attZ proZ 0) (.agg (vdC 0 attZ proZ 0)) fun V9 res eres h10 kV9 => ?_
 have n11 := nl eres h6
 have n12 := nl eres h2
 have n13 := nk eres K7
 have h14 : DetT w.heap.size V9 d p h A Q F R AnyP := h5.keepsN kV9
 have ⟨K17, z18, h15, h16⟩ := kV9.z2 K7 h6 h2
 refine kk 1 <| eq_ <| qr_ [0, 1] <| kk 1 ?_
 refine pcq 38 #[pT d 0] Tryz.func38 ((dnone_no d p h PP _ h15 hh0).mono ?_)
 rintro e w1 ⟨rfl, rfl⟩
 refine ⟨_, rfl, ?_⟩
 refine en_ <| s_ <| tqr_ nl9_ <| kk 1 ?_
 refine pcr 45 #[pT d 0] Tryz.func45 (dwindow_ok d p h PP _ h15 hk _ _ _ rfl rfl rfl) fun V19 kV19 => ?_
 have h20 : DetT w.heap.size V19 d p h A Q F R AnyP := h14.keepsN kV19
 have ⟨K24, z25, h21, h22, h23⟩ := kV19.z3 K17 h15 h16 h10
 refine kk 7 <| eqr_ [0, 1, 2] <| ppq _ (ldr 37 gq (h22) (by rw [Pro.c_size _ hr_q]; kernel_rfl)) ?_
 refine pcr 51 #[.agg (Pro.c q)] Tryz.func51 (vCheckBlock_ok q _ hr_q) fun V26 kV26 => ?_
 have h27 : DetT w.heap.size V26 d p h A Q F R AnyP := h20.keepsN kV26
 have ⟨K31, z32, h28, h29, h30⟩ := kV26.z3 K24 h21 h22 h23
 refine kk 1 <| eq_ <| bl_ 0 <| q_ ?_
 by_cases g1 : q.err = 0
 ·refine r_ [0, 1, 2] <| kk 1 <| ppq _ (nqf ((q.err) : Int) ((0) : Int) (by omega)) <| kk 1 <| en_ <| q_ ?_
  by_cases g2 : q.h > h
  ·skip
   have hE : proErr p h q = (17 : Int) := proErr_2 g1 g2
   have hz : ¬ (17 : Int) = 0 := by omega
   refine sy_reg <| rgs 7 (zo7_ (qo106_0 998)) [qo106_0 998 7] ?_
   obtain ⟨V34, eV34, kV34⟩ := drew_step V26
   rw [eV34]
   clear eV34
   have h35 : DetT w.heap.size V34 d p h A Q F R AnyP := h27.keepsN kV34
   have ⟨K39, z40, h36, h37, h38⟩ := kV34.z3 K31 h28 h29 h30
   refine ks 1 <| spq _ (lc (h37) (Pro.c_1 _)) <| ks 3 <| spq _ (lc (h36) (detC_h _ _ _)) <| spq _ (dct (((q.h) : Int) > ((h) : Int)) (by omega)) <| st_end <| ls_run (qo106_0 998 7) (.bool true) (w' := V34) (by kernel_rfl) (by kernel_rfl) <| ls_end <| then_n <| y_ <| qr_ [0, 1, 2] ?_
   refine kk 1 <| pst 57 res (vdC 0 attZ proZ 0) h38 (by kernel_rfl) (vd_sizes (by kernel_rfl) (by kernel_rfl)) (by kernel_rfl) fun V41 h42 kV41 => ?_
   have h43 : DetT w.heap.size V41 d p h A Q F R AnyP := DetT.one h35 h38 (by omega) kV41
   have K46 := K39.nO kV41
   have z47 := kV41.size
   refine kk 1 <| eu_ <| blk_r <| then_r <| sy_out (.tuple #[.agg (vdC 0 attZ proZ 0), .int .i64 17]) rfl (rrt 57 res h42 Tryz.underlying57 (by kernel_rfl)) ?_
   exact ⟨by rw [(pro_no hE hz).1, hE]; kernel_rfl, by rw [(pro_no hE hz).2]; exact h43, K46⟩
  ·refine sy_reg <| rgs 7 (zo7_ (qo106_0 998)) [qo106_0 998 7] ?_
   obtain ⟨V49, eV49, kV49⟩ := drew_step V26
   rw [eV49]
   clear eV49
   have h50 : DetT w.heap.size V49 d p h A Q F R AnyP := h27.keepsN kV49
   have ⟨K54, z55, h51, h52, h53⟩ := kV49.z3 K31 h28 h29 h30
   refine ks 1 <| spq _ (lc (h52) (Pro.c_1 _)) <| ks 3 <| spq _ (lc (h51) (detC_h _ _ _)) <| spq _ (dcf (((q.h) : Int) > ((h) : Int)) (by omega)) <| st_end <| ls_run (qo106_0 998 7) (.bool false) (w' := V49) (by kernel_rfl) (by kernel_rfl) <| ls_end <| then_n <| n_ <| q_ ?_
   by_cases g3 : q.h < dfl p h
   ·skip
    have hE : proErr p h q = (16 : Int) := proErr_3 g1 g2 g3
    have hz : ¬ (16 : Int) = 0 := by omega
    refine r_ nl5_ <| kk 1 <| ppq _ (lc (h52) (Pro.c_1 _)) <| kk 1 <| ppq _ (dct (((q.h) : Int) < ((dfl p h) : Int)) (by omega)) <| kk 1 <| ey_ <| qr_ [0, 1, 2] <| kk 1 <| pst 57 res (vdC 0 attZ proZ 0) h53 (by kernel_rfl) (vd_sizes (by kernel_rfl) (by kernel_rfl)) (by kernel_rfl) fun V56 h57 kV56 => ?_
    have h58 : DetT w.heap.size V56 d p h A Q F R AnyP := DetT.one h50 h53 (by omega) kV56
    have K61 := K54.nO kV56
    have z62 := kV56.size
    refine kk 1 <| eu_ <| blk_r <| then_r <| sy_out (.tuple #[.agg (vdC 0 attZ proZ 0), .int .i64 16]) rfl (rrt 57 res h57 Tryz.underlying57 (by kernel_rfl)) ?_
    exact ⟨by rw [(pro_no hE hz).1, hE]; kernel_rfl, by rw [(pro_no hE hz).2]; exact h58, K61⟩
   ·have hE : proErr p h q = 0 := proErr_4 g1 g2 g3
    have com := proErr_0 hE
    obtain ⟨v, hvv⟩ : ∃ v : Nat, q.v = (v : Int) := ⟨q.v.toNat, by have := com.fine.1; omega⟩
    have hv2 : v < 32 := by have := com.fine.2.1; omega
    refine r_ nl5_ <| kk 1 <| ppq _ (lc (h52) (Pro.c_1 _)) <| kk 1 <| ppq _ (dcf (((q.h) : Int) < ((dfl p h) : Int)) (by omega)) <| kk 1 <| en_ <| s_ <| blk_n <| tqr_ nl8_ <| kk 2 <| ppq _ (lc (h52) (Pro.c_0 _)) ?_
    refine pcq 48 #[pT d 0, .int .i64 q.v] Tryz.func48 ((dof_T h50 K54.size hk hv2 hvv).mono ?_)
    rintro e V63 ⟨x, rfl, hJV63, kV63⟩
    have hqV63 := (DetT.part hJV63 hv2).1.blk
    refine ⟨_, rfl, ?_⟩
    have ⟨h64, h65⟩ := kV63.ko2 h52 h53
    have K66 : Keeps F w V63 := K54.then kV63 (DetT.kd h50)
    have z67 := kV63.size
    refine kk 2 <| ppq _ (lk (hqV63)) <| kk 1 <| eq_ ?_
    rcases hV : vbOf Q q.v (dfl p h) q.h with _ | b
    ·skip
     skip
     obtain ⟨b, hb0⟩ : ∃ b, b = zPro := ⟨_, rfl⟩
     have hr_b : b.r.length = 32 := hb0 ▸ zPro_r
     refine r_ nl10_ <| kk 2 <| ppq _ (lc (h64) (Pro.c_1 _)) ?_
     refine pcq 52 #[pT x.r 0, .int .i64 q.h] Tryz.func52 ((qblock_Z hJV63 hv2 hvv hV hb0).mono ?_)
     rintro e V68 ⟨rfl, kV68⟩
     have hJV68 := hJV63.keepsN kV68
     refine ⟨_, rfl, ?_⟩
     have ⟨h69, h70⟩ := kV68.k2 h64 h65
     have h71 : HP V68 x.q (#[pT x.sp 0, pT x.r 0]) 85 := kV68.bk hqV63
     have K72 := K66.nn kV68
     have z73 := kV68.size
     refine kk 3 <| pal 37 (zl3_) (.agg (zl3_)) fun V74 gw egw h75 kV74 => ?_
     have n76 := nl egw h69
     have n77 := nl egw h70
     have n78 := nl egw h71
     have n79 := nk egw K72
     have ⟨h80, h81⟩ := kV74.k2 h69 h70
     have h82 : HP V74 x.q (#[pT x.sp 0, pT x.r 0]) 85 := kV74.bk h71
     have kb83 := (Keeps.refl Nob V68).nn kV74
     have K84 := K72.nn kV74
     have z85 := kV74.size
     refine pst 37 gw ((Pro.c b)) h75 (by rw [Pro.c_size _ hr_b]; kernel_rfl) (by rw [Pro.c_size _ hr_b]; rfl) (Pro.c_one _) fun V86 h87 kV86 => ?_
     have ⟨h88, h89⟩ := kV86.ko2 h80 h81
     have h90 : HP V86 x.q (#[pT x.sp 0, pT x.r 0]) 85 := kV86.odd (Odd.one h75 (by decide)) h82
     have kb91 : Keeps Nob V68 V86 := kb83.nO kV86
     have K92 := K84.nO kV86
     have z93 := kV86.size
     refine kk 1 <| eqr_ [0, 1] <| kk 2 <| ps_end <| tq_ <| bl_ 1 <| qr_ [0, 1, 2] <| kk 3 <| ey_ <| qr_ [0, 1, 2] ?_
     refine kk 1 <| ppq _ (ldr 37 gq (h88) (by rw [Pro.c_size _ hr_q]; kernel_rfl)) ?_
     have n95 := rec_neB (DetT.part (hJV68.keepsN kb91) hv2).1.rec_ h88 (by decide)
     have n96 := rec_neB (DetT.part (hJV68.keepsN kb91) hv2).1.rec_ h89 (by decide)
     have n97 := rec_neB (DetT.part (hJV68.keepsN kb91) hv2).1.rec_ h90 (by decide)
     have n98 := rec_neB (DetT.part (hJV68.keepsN kb91) hv2).1.rec_ h87 (by decide)
     refine pcq 54 #[pT x.r 0, .agg (Pro.c q)] Tryz.func54 ((rputB_T (hJV68.keepsN kb91) hv2 hvv hqo com hV).mono ?_)
     rintro e V94 ⟨rfl, hJV94, kV94⟩
     refine ⟨_, rfl, ?_⟩
     have h100 := kV94.bO h89
     have K103 : Keeps F w V94 := K92.then kV94 (DetT.krB (hJV68.keepsN kb91) hv2)
     have z104 := kV94.size
     refine eqr_ [0, 1, 2] <| kk 1 <| pst 57 res (vdC 0 attZ proZ 0) h100 (by kernel_rfl) (vd_sizes (by kernel_rfl) (by kernel_rfl)) (by kernel_rfl) fun V105 h106 kV105 => ?_
     have h110 : DetT w.heap.size V105 d p h A (Q ++ [q]) F R AnyP := DetT.one hJV94 h100 (by omega) kV105
     have K111 := K103.nO kV105
     have z112 := kV105.size
     refine kk 1 <| eu_ <| blk_r <| then_r <| sy_out (.tuple #[.agg (vdC 0 attZ proZ 0), .int .i64 0]) rfl (rrt 57 res h106 Tryz.underlying57 (by kernel_rfl)) ?_
     exact ⟨by rw [(pro_new inv hE hV).1, hE]; kernel_rfl, by rw [(pro_new inv hE hV).2]; exact h110.any, K111⟩
    ·skip
     have hbo : b.Ok := (inv.q b ((vb_some inv).1 hV).1.1).1
     have hr_b := hbo.r
     refine r_ nl10_ <| kk 2 <| ppq _ (lc (h64) (Pro.c_1 _)) ?_
     refine pcq 52 #[pT x.r 0, .int .i64 q.h] Tryz.func52 ((qblock_T hJV63 hv2 hvv hV).mono ?_)
     rintro e V113 ⟨rfl, kV113⟩
     have hJV113 := hJV63.keepsN kV113
     refine ⟨_, rfl, ?_⟩
     have ⟨h114, h115⟩ := kV113.k2 h64 h65
     have h116 : HP V113 x.q (#[pT x.sp 0, pT x.r 0]) 85 := kV113.bk hqV63
     have K117 := K66.nn kV113
     have z118 := kV113.size
     refine kk 3 <| pal 37 (zl3_) (.agg (zl3_)) fun V119 gw egw h120 kV119 => ?_
     have n121 := nl egw h114
     have n122 := nl egw h115
     have n123 := nl egw h116
     have n124 := nk egw K117
     have ⟨h125, h126⟩ := kV119.k2 h114 h115
     have h127 : HP V119 x.q (#[pT x.sp 0, pT x.r 0]) 85 := kV119.bk h116
     have kb128 := (Keeps.refl Nob V113).nn kV119
     have K129 := K117.nn kV119
     have z130 := kV119.size
     refine pst 37 gw ((Pro.c b)) h120 (by rw [Pro.c_size _ hr_b]; kernel_rfl) (by rw [Pro.c_size _ hr_b]; rfl) (Pro.c_one _) fun V131 h132 kV131 => ?_
     have ⟨h133, h134⟩ := kV131.ko2 h125 h126
     have h135 : HP V131 x.q (#[pT x.sp 0, pT x.r 0]) 85 := kV131.odd (Odd.one h120 (by decide)) h127
     have kb136 : Keeps Nob V113 V131 := kb128.nO kV131
     have K137 := K129.nO kV131
     have z138 := kV131.size
     refine kk 1 <| eqr_ [0, 1] <| kk 2 <| ps_end <| tq_ <| bl_ 1 <| qr_ [0, 1, 2] <| kk 3 <| en_ <| q_ ?_
     cases hd : doubP q b
     ·skip
      skip
      refine r_ [0, 1, 2, 3] <| ppq _ (ldr 37 gq (h133) (by rw [Pro.c_size _ hr_q]; kernel_rfl)) <| ppq _ (ldr 37 gw (h132) (by rw [Pro.c_size _ hr_b]; kernel_rfl)) ?_
      refine pcq 55 #[.agg (Pro.c q), .agg (Pro.c b)] Tryz.func55 ((doub_is q b _ hqo hbo hd).mono ?_)
      rintro e V139 ⟨rfl, kV139⟩
      have hJV139 := (hJV113.keepsN kb136).keepsN kV139
      refine ⟨_, rfl, ?_⟩
      have ⟨h140, h141⟩ := kV139.k2 h133 h134
      have h142 : HP V139 x.q (#[pT x.sp 0, pT x.r 0]) 85 := kV139.bk h135
      have ⟨K144, z145, h143⟩ := kV139.z1 K137 h132
      refine kk 1 <| en_ <| s_ <| blk_n <| tqr_ nl5_ <| kk 1 ?_
      obtain ⟨V146, eV146, go1, ego1, h147, kV146⟩ := alloc_step V139 (#[.func (.func 53) #[] #[pT gw 0]]) 144
      have n148 := nl ego1 h140
      have n149 := nl ego1 h141
      have n150 := nl ego1 h142
      have n151 := nl ego1 h143
      have n152 := nk ego1 K144
      refine prq (.slice (some ⟨go1, 0, none⟩) 1 1) (w' := V146) (by rw [← eV146, ← ego1]; kernel_rfl) ?_
      have ⟨h154, h156⟩ := kV146.k2 h141 h143
      have h157 : DetT w.heap.size V146 d p h A Q F R (HasP v x) := hJV139.keepsN kV146
      have K158 := K144.nn kV146
      have z159 := kV146.size
      refine pcr 56 #[.int .i64 1, .slice (some ⟨go1, 0, none⟩) 1 1] Tryz.func56 (dverdict_one 1 53 (pT gw 0) attZ b.cl 0 attZ_len (Pro.tl hr_b) (Vd.c_one (x := ⟨1, zAtt, b, 0⟩)) go1 _ h147 (enters_of Tryz.func53 (by kernel_rfl) rfl) (fun bv W hbv k hb => dPropose1_ok bv gw 1 0 attZ proZ attZ_len proZ_len b hr_b (by have := lt_of_block h156; omega) W (k.bk h156) hb)) fun V160 kV160 => ?_
      have h162 := kV160.bk h154
      have h165 : DetT w.heap.size V160 d p h A Q F R (HasP v x) := h157.keepsN kV160
      have K167 := K158.nn kV160
      have z168 := kV160.size
      refine pst 57 res (Vd.c (⟨1, zAtt, b, 0⟩)) h162 (by rw [Vd.c_size ⟨zAtt_r, hr_b⟩]; kernel_rfl) (vd_sizes (Vd.c_size ⟨zAtt_r, hr_b⟩) (by kernel_rfl)) Vd.c_one fun V169 h170 kV169 => ?_
      have h174 : DetT w.heap.size V169 d p h A Q F R (HasP v x) := DetT.one h165 h162 (by omega) kV169
      have K176 := K167.nO kV169
      have z177 := kV169.size
      refine kk 1 <| eu_ <| sy_out (.tuple #[.agg (Vd.c (⟨1, zAtt, b, 0⟩)), .int .i64 0]) rfl (rrt 57 res h170 Tryz.underlying57 (by rw [Vd.c_size ⟨zAtt_r, hr_b⟩]; kernel_rfl)) ?_
      exact ⟨by rw [(pro_one inv hE hV hd).1, hE], by rw [(pro_one inv hE hV hd).2]; exact h174.any, K176⟩
     ·skip
      skip
      refine r_ [0, 1, 2, 3] <| ppq _ (ldr 37 gq (h133) (by rw [Pro.c_size _ hr_q]; kernel_rfl)) <| ppq _ (ldr 37 gw (h132) (by rw [Pro.c_size _ hr_b]; kernel_rfl)) ?_
      refine pcq 55 #[.agg (Pro.c q), .agg (Pro.c b)] Tryz.func55 ((doub_is q b _ hqo hbo hd).mono ?_)
      rintro e V178 ⟨rfl, kV178⟩
      have hJV178 := (hJV113.keepsN kb136).keepsN kV178
      refine ⟨_, rfl, ?_⟩
      have ⟨h179, h180⟩ := kV178.k2 h133 h134
      have h181 : HP V178 x.q (#[pT x.sp 0, pT x.r 0]) 85 := kV178.bk h135
      have ⟨K183, z184, h182⟩ := kV178.z1 K137 h132
      refine kk 1 <| ey_ <| qr_ nl6_ <| kk 2 ?_
      obtain ⟨V185, eV185, go2, ego2, h186, kV185⟩ := alloc_step V178 (#[.func (.func 53) #[] #[pT gw 0], .func (.func 57) #[] #[pT gq 0]]) 144
      have n187 := nl ego2 h179
      have n188 := nl ego2 h180
      have n189 := nl ego2 h181
      have n190 := nl ego2 h182
      have n191 := nk ego2 K183
      refine prq (.slice (some ⟨go2, 0, none⟩) 2 2) (w' := V185) (by rw [← eV185, ← ego2]; kernel_rfl) ?_
      have ⟨h192, h193, h195⟩ := kV185.k3 h179 h180 h182
      have h196 : DetT w.heap.size V185 d p h A Q F R (HasP v x) := hJV178.keepsN kV185
      have K197 := K183.nn kV185
      have z198 := kV185.size
      refine pcr 56 #[.int .i64 2, .slice (some ⟨go2, 0, none⟩) 2 2] Tryz.func56 (dverdict_twin 2 53 (pT gw 0) attZ b.cl 0 attZ_len (Pro.tl hr_b) 57 (pT gq 0) attZ b.cl q.h attZ_len (Pro.tl hr_b) (Vd.c_one (x := ⟨2, zAtt, b, q.h⟩)) go2 _ h186 (enters_of Tryz.func53 (by kernel_rfl) rfl) (fun bv W hbv k hb => dPropose1_ok bv gw 2 0 attZ proZ attZ_len proZ_len b hr_b (by have := lt_of_block h195; omega) W (k.bk h195) hb) (enters_of Tryz.func57 (by kernel_rfl) rfl) (fun bv W hbv k hb => dPropose2_ok bv gq 2 0 attZ b.cl attZ_len (Pro.tl hr_b) q hr_q (by have := lt_of_block h192; omega) W (k.bk h192) hb)) fun V199 kV199 => ?_
      have h201 := kV199.bk h193
      have h204 : DetT w.heap.size V199 d p h A Q F R (HasP v x) := h196.keepsN kV199
      have K206 := K197.nn kV199
      have z207 := kV199.size
      refine pst 57 res (Vd.c (⟨2, zAtt, b, q.h⟩)) h201 (by rw [Vd.c_size ⟨zAtt_r, hr_b⟩]; kernel_rfl) (vd_sizes (Vd.c_size ⟨zAtt_r, hr_b⟩) (by kernel_rfl)) Vd.c_one fun V208 h209 kV208 => ?_
      have h213 : DetT w.heap.size V208 d p h A Q F R (HasP v x) := DetT.one h204 h201 (by omega) kV208
      have K215 := K206.nO kV208
      have z216 := kV208.size
      refine kk 1 <| eu_ <| blk_r <| then_r <| sy_out (.tuple #[.agg (Vd.c (⟨2, zAtt, b, q.h⟩)), .int .i64 0]) rfl (rrt 57 res h209 Tryz.underlying57 (by rw [Vd.c_size ⟨zAtt_r, hr_b⟩]; kernel_rfl)) ?_
      exact ⟨by rw [(pro_two inv hE hV hd).1, hE], by rw [(pro_two inv hE hV hd).2]; exact h213.any, K215⟩
 ·skip
  have hE : proErr p h q = q.err := proErr_1 g1
  have hz : ¬ q.err = 0 := by omega
  refine r_ [0, 1, 2] <| kk 1 <| ppq _ (nqt ((q.err) : Int) ((0) : Int) (by omega)) <| kk 1 <| ey_ <| qr_ [0, 1, 2, 3] <| kk 2 <| pst 57 res (vdC 0 attZ proZ 0) h30 (by kernel_rfl) (vd_sizes (by kernel_rfl) (by kernel_rfl)) (by kernel_rfl) fun V217 h218 kV217 => ?_
  have h219 : DetT w.heap.size V217 d p h A Q F R AnyP := DetT.one h27 h30 (by omega) kV217
  have K222 := K31.nO kV217
  have z223 := kV217.size
  refine kk 1 <| ps_end <| then_n <| u_ <| blk_r <| then_r <| sy_out (.tuple #[.agg (vdC 0 attZ proZ 0), .int .i64 q.err]) rfl (rrt 57 res h218 Tryz.underlying57 (by kernel_rfl)) ?_
  exact ⟨by rw [(pro_no hE hz).1, hE]; kernel_rfl, by rw [(pro_no hE hz).2]; exact h219, K222⟩
end
section
open Go Go.RowKit Go.Own Go.Shelf
theorem Row.none_ (w : World) (t : TypeId) (sz : Nat) : Row w t sz (.slice none 0 0) 0 [] := ⟨by simp, .inl ⟨rfl, rfl⟩⟩
noncomputable def qc107_1 (n : Nat) : Code := partOf Tryz.f11 n
theorem dVotes_low (d : Nat) (p : Par) (h : Int) (P : Nat → Option Nat) (w : World) (hd : HP w d (detC p h P) 79) (hh0 : ¬ h = 0) (x : Int) (hx : x < 0) :
  Calls Tryz.prog 11 #[pT d 0, .int .i64 x] w (fun e w' => e = .returned (.slice none 0 0) ∧ w = w') := by
 have K0 : Keeps Nob w w := Keeps.refl _ _
 refine se_ (qc107_1 1) ⟨fr [pT d 0, .int .i64 x] 32, []⟩ Tryz.func11 <| qr_ [0] <| kk 1 <| eq_ <| qr_ nl19_ <| kk 1 ?_
 refine pcq 38 #[pT d 0] Tryz.func38 ((dnone_no d p h P _ hd hh0).mono ?_)
 rintro e w1 ⟨rfl, rfl⟩
 refine ⟨_, rfl, ?_⟩
 refine kk 2 <| ppq _ (dct (((x) : Int) < ((0) : Int)) (by omega)) <| kk 11 ?_
 refine kk 3 <| ey_ <| qr_ [0] <| kk 1 <| eu_ <| then_r <| so_ (.slice none 0 0) ?_
 exact ⟨rfl, rfl⟩
theorem dVotes_high (d : Nat) (p : Par) (h : Int) (P : Nat → Option Nat) (w : World) (hd : HP w d (detC p h P) 79) (hh0 : ¬ h = 0) (x : Int) (hx0 : ¬ x < 0) (hx : 32 ≤ x) :
  Calls Tryz.prog 11 #[pT d 0, .int .i64 x] w (fun e w' => e = .returned (.slice none 0 0) ∧ w = w') := by
 have K0 : Keeps Nob w w := Keeps.refl _ _
 refine se_ (qc107_1 1) ⟨fr [pT d 0, .int .i64 x] 32, []⟩ Tryz.func11 <| qr_ [0] <| kk 1 <| eq_ <| qr_ nl19_ <| kk 1 ?_
 refine pcq 38 #[pT d 0] Tryz.func38 ((dnone_no d p h P _ hd hh0).mono ?_)
 rintro e w1 ⟨rfl, rfl⟩
 refine ⟨_, rfl, ?_⟩
 refine kk 2 <| ppq _ (dcf (((x) : Int) < ((0) : Int)) (by omega)) <| kk 3 <| ppq _ (dct (((x) : Int) ≥ ((32) : Int)) (by omega)) <| kk 7 ?_
 refine kk 3 <| ey_ <| qr_ [0] <| kk 1 <| eu_ <| then_r <| so_ (.slice none 0 0) ?_
 exact ⟨rfl, rfl⟩
theorem dVotes_no (d : Nat) (p : Par) (h : Int) (P : Nat → Option Nat) (w : World) (hd : HP w d (detC p h P) 79) (hh0 : ¬ h = 0) (v : Nat) (hv : v < 32) (hPv : P v = none) :
  Calls Tryz.prog 11 #[pT d 0, .int .i64 ((v : Nat) : Int)] w (fun e w' => e = .returned (.slice none 0 0) ∧ w = w') := by
 have K0 : Keeps Nob w w := Keeps.refl _ _
 refine se_ (qc107_1 1) ⟨fr [pT d 0, iN v] 32, []⟩ Tryz.func11 <| qr_ [0] <| kk 1 <| eq_ <| qr_ nl19_ <| kk 1 ?_
 refine pcq 38 #[pT d 0] Tryz.func38 ((dnone_no d p h P _ hd hh0).mono ?_)
 rintro e w1 ⟨rfl, rfl⟩
 refine ⟨_, rfl, ?_⟩
 refine kk 2 <| ppq _ (dcf ((((v : Nat) : Int)) < ((0) : Int)) (by omega)) <| kk 3 <| ppq _ (dcf ((((v : Nat) : Int)) ≥ ((32) : Int)) (by omega)) <| kk 6 <| ppq (pT d (12 + v)) (exec_cast (v := pT d (12 + v * 1)) (by simp) (ixa d 12 .i64 v 1 Tryz.underlying77 (by omega))) ?_
 refine ppq (.pointer none) (lc (hd) ((detC_at _ _ _ (by omega)).trans (congrArg (fun o => some (ptrV o)) hPv)) (k := 12 + v)) <| kk 2 <| ey_ <| qr_ [0] <| kk 1 <| eu_ <| then_r <| so_ (.slice none 0 0) ?_
 exact ⟨rfl, rfl⟩
theorem dVotes_yes (d : Nat) (p : Par) (h : Int) (P : Nat → Option Nat) (w : World) (hd : HP w d (detC p h P) 79) (hh0 : ¬ h = 0) (v : Nat) (hv : v < 32) (q r sp : Nat) (A : RD Att) (B : RD Pro) (hPv : P v = some q) (hq : HP w q #[pT sp 0, pT r 0] 85) (hR : RecAt w r (v : Int) A B) :
  Calls Tryz.prog 11 #[pT d 0, .int .i64 ((v : Nat) : Int)] w (fun e w' => ∃ va, e = .returned va ∧ Row w' 28 36 va (items A.V A.low A.n).length ((items A.V A.low A.n).flatMap Att.cl) ∧ NewFrom w.heap.size va ∧ Keeps Nob w w') := by
 have K0 : Keeps Nob w w := Keeps.refl _ _
 refine se_ (qc107_1 1) ⟨fr [pT d 0, iN v] 32, []⟩ Tryz.func11 <| qr_ [0] <| kk 1 <| eq_ <| qr_ nl19_ <| kk 1 ?_
 refine pcq 38 #[pT d 0] Tryz.func38 ((dnone_no d p h P _ hd hh0).mono ?_)
 rintro e w1 ⟨rfl, rfl⟩
 refine ⟨_, rfl, ?_⟩
 refine kk 2 <| ppq _ (dcf ((((v : Nat) : Int)) < ((0) : Int)) (by omega)) <| kk 3 <| ppq _ (dcf ((((v : Nat) : Int)) ≥ ((32) : Int)) (by omega)) <| kk 6 <| ppq (pT d (12 + v)) (exec_cast (v := pT d (12 + v * 1)) (by simp) (ixa d 12 .i64 v 1 Tryz.underlying77 (by omega))) ?_
 refine ppq (pT q 0) (lc (hd) ((detC_at _ _ _ (by omega)).trans (congrArg (fun o => some (ptrV o)) hPv)) (k := 12 + v)) <| kk 2 <| en_ <| s_ <| tqr_ nl11_ <| kk 4 <| ppq (pT d (12 + v)) (exec_cast (v := pT d (12 + v * 1)) (by simp) (ixa d 12 .i64 v 1 Tryz.underlying77 (by omega))) <| ppq (pT q 0) (lc (hd) ((detC_at _ _ _ (by omega)).trans (congrArg (fun o => some (ptrV o)) hPv)) (k := 12 + v)) <| kk 2 ?_
 refine ppq _ (lk hq) ?_
 refine pcq 39 #[pT r 0] Tryz.func39 ((qAll_ok r _ A B _ hR).mono ?_)
 rintro e V1 ⟨va, rfl, hrV1, hnV1, kV1⟩
 have hrv := hrV1
 have hnv := hnV1
 refine ⟨_, rfl, ?_⟩
 have K4 := K0.nn kV1
 have z5 := kV1.size
 refine kk 1 <| ps_end <| then_n <| u_ <| so_ (va) ?_
 exact ⟨va, rfl, hrv, hnv, K4⟩
noncomputable def qc107_0 (n : Nat) : Code := partOf Tryz.f16 n
theorem dBlocks_low (d : Nat) (p : Par) (h : Int) (P : Nat → Option Nat) (w : World) (hd : HP w d (detC p h P) 79) (hh0 : ¬ h = 0) (x : Int) (hx : x < 0) :
  Calls Tryz.prog 16 #[pT d 0, .int .i64 x] w (fun e w' => e = .returned (.slice none 0 0) ∧ w = w') := by
 have K0 : Keeps Nob w w := Keeps.refl _ _
 refine se_ (qc107_0 1) ⟨fr [pT d 0, .int .i64 x] 32, []⟩ Tryz.func16 <| qr_ [0] <| kk 1 <| eq_ <| qr_ nl19_ <| kk 1 ?_
 refine pcq 38 #[pT d 0] Tryz.func38 ((dnone_no d p h P _ hd hh0).mono ?_)
 rintro e w1 ⟨rfl, rfl⟩
 refine ⟨_, rfl, ?_⟩
 refine kk 2 <| ppq _ (dct (((x) : Int) < ((0) : Int)) (by omega)) <| kk 11 ?_
 refine kk 3 <| ey_ <| qr_ [0] <| kk 1 <| eu_ <| then_r <| so_ (.slice none 0 0) ?_
 exact ⟨rfl, rfl⟩
theorem dBlocks_high (d : Nat) (p : Par) (h : Int) (P : Nat → Option Nat) (w : World) (hd : HP w d (detC p h P) 79) (hh0 : ¬ h = 0) (x : Int) (hx0 : ¬ x < 0) (hx : 32 ≤ x) :
  Calls Tryz.prog 16 #[pT d 0, .int .i64 x] w (fun e w' => e = .returned (.slice none 0 0) ∧ w = w') := by
 have K0 : Keeps Nob w w := Keeps.refl _ _
 refine se_ (qc107_0 1) ⟨fr [pT d 0, .int .i64 x] 32, []⟩ Tryz.func16 <| qr_ [0] <| kk 1 <| eq_ <| qr_ nl19_ <| kk 1 ?_
 refine pcq 38 #[pT d 0] Tryz.func38 ((dnone_no d p h P _ hd hh0).mono ?_)
 rintro e w1 ⟨rfl, rfl⟩
 refine ⟨_, rfl, ?_⟩
 refine kk 2 <| ppq _ (dcf (((x) : Int) < ((0) : Int)) (by omega)) <| kk 3 <| ppq _ (dct (((x) : Int) ≥ ((32) : Int)) (by omega)) <| kk 7 ?_
 refine kk 3 <| ey_ <| qr_ [0] <| kk 1 <| eu_ <| then_r <| so_ (.slice none 0 0) ?_
 exact ⟨rfl, rfl⟩
theorem dBlocks_no (d : Nat) (p : Par) (h : Int) (P : Nat → Option Nat) (w : World) (hd : HP w d (detC p h P) 79) (hh0 : ¬ h = 0) (v : Nat) (hv : v < 32) (hPv : P v = none) :
  Calls Tryz.prog 16 #[pT d 0, .int .i64 ((v : Nat) : Int)] w (fun e w' => e = .returned (.slice none 0 0) ∧ w = w') := by
 have K0 : Keeps Nob w w := Keeps.refl _ _
 refine se_ (qc107_0 1) ⟨fr [pT d 0, iN v] 32, []⟩ Tryz.func16 <| qr_ [0] <| kk 1 <| eq_ <| qr_ nl19_ <| kk 1 ?_
 refine pcq 38 #[pT d 0] Tryz.func38 ((dnone_no d p h P _ hd hh0).mono ?_)
 rintro e w1 ⟨rfl, rfl⟩
 refine ⟨_, rfl, ?_⟩
 refine kk 2 <| ppq _ (dcf ((((v : Nat) : Int)) < ((0) : Int)) (by omega)) <| kk 3 <| ppq _ (dcf ((((v : Nat) : Int)) ≥ ((32) : Int)) (by omega)) <| kk 6 <| ppq (pT d (12 + v)) (exec_cast (v := pT d (12 + v * 1)) (by simp) (ixa d 12 .i64 v 1 Tryz.underlying77 (by omega))) ?_
 refine ppq (.pointer none) (lc (hd) ((detC_at _ _ _ (by omega)).trans (congrArg (fun o => some (ptrV o)) hPv)) (k := 12 + v)) <| kk 2 <| ey_ <| qr_ [0] <| kk 1 <| eu_ <| then_r <| so_ (.slice none 0 0) ?_
 exact ⟨rfl, rfl⟩
theorem dBlocks_yes (d : Nat) (p : Par) (h : Int) (P : Nat → Option Nat) (w : World) (hd : HP w d (detC p h P) 79) (hh0 : ¬ h = 0) (v : Nat) (hv : v < 32) (q r sp : Nat) (A : RD Att) (B : RD Pro) (hPv : P v = some q) (hq : HP w q #[pT sp 0, pT r 0] 85) (hR : RecAt w r (v : Int) A B) :
  Calls Tryz.prog 16 #[pT d 0, .int .i64 ((v : Nat) : Int)] w (fun e w' => ∃ va, e = .returned va ∧ Row w' 37 35 va (items B.V B.low B.n).length ((items B.V B.low B.n).flatMap Pro.cl) ∧ NewFrom w.heap.size va ∧ Keeps Nob w w') := by
 have K0 : Keeps Nob w w := Keeps.refl _ _
 refine se_ (qc107_0 1) ⟨fr [pT d 0, iN v] 32, []⟩ Tryz.func16 <| qr_ [0] <| kk 1 <| eq_ <| qr_ nl19_ <| kk 1 ?_
 refine pcq 38 #[pT d 0] Tryz.func38 ((dnone_no d p h P _ hd hh0).mono ?_)
 rintro e w1 ⟨rfl, rfl⟩
 refine ⟨_, rfl, ?_⟩
 refine kk 2 <| ppq _ (dcf ((((v : Nat) : Int)) < ((0) : Int)) (by omega)) <| kk 3 <| ppq _ (dcf ((((v : Nat) : Int)) ≥ ((32) : Int)) (by omega)) <| kk 6 <| ppq (pT d (12 + v)) (exec_cast (v := pT d (12 + v * 1)) (by simp) (ixa d 12 .i64 v 1 Tryz.underlying77 (by omega))) ?_
 refine ppq (pT q 0) (lc (hd) ((detC_at _ _ _ (by omega)).trans (congrArg (fun o => some (ptrV o)) hPv)) (k := 12 + v)) <| kk 2 <| en_ <| s_ <| tqr_ nl11_ <| kk 4 <| ppq (pT d (12 + v)) (exec_cast (v := pT d (12 + v * 1)) (by simp) (ixa d 12 .i64 v 1 Tryz.underlying77 (by omega))) <| ppq (pT q 0) (lc (hd) ((detC_at _ _ _ (by omega)).trans (congrArg (fun o => some (ptrV o)) hPv)) (k := 12 + v)) <| kk 2 ?_
 refine ppq _ (lk hq) ?_
 refine pcq 40 #[pT r 0] Tryz.func40 ((qBlocks_ok r _ A B _ hR).mono ?_)
 rintro e V1 ⟨va, rfl, hrV1, hnV1, kV1⟩
 have hrv := hrV1
 have hnv := hnV1
 refine ⟨_, rfl, ?_⟩
 have K4 := K0.nn kV1
 have z5 := kV1.size
 refine kk 1 <| ps_end <| then_n <| u_ <| so_ (va) ?_
 exact ⟨va, rfl, hrv, hnv, K4⟩
section
variable {w : World} {d : Nat} {p : Par} {h : Int} {A : List Att} {Q : List Pro} {P : Nat → Option PD} {who : Nat → Nat} {v : Int}
theorem votes_nil (hn : ∀ a ∈ A, a.v ≠ v) : votesOf p h A v = [] := by
 rw [List.eq_nil_iff_forall_not_mem]
 intro b hb
 obtain ⟨h1, h2, _⟩ := mem_votes.1 hb
 exact hn b h1 h2
theorem blocks_nil (hn : ∀ a ∈ Q, a.v ≠ v) : blocksOf p h Q v = [] := by
 rw [List.eq_nil_iff_forall_not_mem]
 intro b hb
 obtain ⟨h1, h2, _⟩ := mem_blocks.1 hb
 exact hn b h1 h2
theorem dVotes_ok (s : DetP w d p h (fun _ => h) A Q P who) (inv : DInv p h A Q) :
  Calls Tryz.prog 11 #[pT d 0, .int .i64 v] w fun e w' => ∃ va, e = .returned va ∧ Row w' 28 36 va (votesOf p h A v).length ((votesOf p h A v).flatMap Att.cl) ∧ NewFrom w.heap.size va ∧ Keeps Nob w w' := by
 have hh0 : ¬ h = 0 := by have := inv.ok.2.2; omega
 have nil : (votesOf p h A v) = [] → ∃ va, Ending.returned (.slice none 0 0) = .returned va ∧ Row w 28 36 va (votesOf p h A v).length ((votesOf p h A v).flatMap Att.cl) ∧ NewFrom w.heap.size va ∧ Keeps Nob w w := fun e => by
  rw [e]; exact ⟨_, rfl, Row.none_ _ _ _, NewFrom.nil _, Keeps.refl _ _⟩
 by_cases h1 : v < 0
 ·refine (dVotes_low d p h (Pq P) w s.blk hh0 v h1).mono ?_
  rintro e w' ⟨rfl, rfl⟩
  exact nil (votes_nil fun a ha e => by have := (inv.a a ha).2.1.1; omega)
 by_cases h2 : 32 ≤ v
 ·refine (dVotes_high d p h (Pq P) w s.blk hh0 v h1 h2).mono ?_
  rintro e w' ⟨rfl, rfl⟩
  exact nil (votes_nil fun a ha e => by have := (inv.a a ha).2.1.2.1; omega)
 obtain ⟨v, rfl⟩ : ∃ n : Nat, v = (n : Int) := ⟨v.toNat, by omega⟩
 have hv : v < 32 := by omega
 cases hP : P v with
 | none =>
  refine (dVotes_no d p h (Pq P) w s.blk hh0 v hv (by unfold Pq; rw [hP]; rfl)).mono ?_
  rintro e w' ⟨rfl, rfl⟩
  exact nil (votes_nil (s.none_ v hv hP).1)
 | some x =>
  obtain ⟨q1, ⟨a1, a2, a3⟩, b1, b2, b3⟩ := s.part v x hv hP
  have c := dVotes_yes d p h (Pq P) w s.blk hh0 v hv x.q x.r x.sp x.A x.B (by unfold Pq; rw [hP]; rfl) q1.blk q1.rec_
  have e : items x.A.V x.A.low x.A.n = votesOf p h A v := by
   rw [a3, ← votes_is inv]
   congr 1 <;> omega
  rw [e] at c; exact c
theorem dBlocks_ok (s : DetP w d p h (fun _ => h) A Q P who) (inv : DInv p h A Q) :
  Calls Tryz.prog 16 #[pT d 0, .int .i64 v] w fun e w' => ∃ va, e = .returned va ∧ Row w' 37 35 va (blocksOf p h Q v).length ((blocksOf p h Q v).flatMap Pro.cl) ∧ NewFrom w.heap.size va ∧ Keeps Nob w w' := by
 have hh0 : ¬ h = 0 := by have := inv.ok.2.2; omega
 have nil : (blocksOf p h Q v) = [] → ∃ va, Ending.returned (.slice none 0 0) = .returned va ∧ Row w 37 35 va (blocksOf p h Q v).length ((blocksOf p h Q v).flatMap Pro.cl) ∧ NewFrom w.heap.size va ∧ Keeps Nob w w := fun e => by
  rw [e]; exact ⟨_, rfl, Row.none_ _ _ _, NewFrom.nil _, Keeps.refl _ _⟩
 by_cases h1 : v < 0
 ·refine (dBlocks_low d p h (Pq P) w s.blk hh0 v h1).mono ?_
  rintro e w' ⟨rfl, rfl⟩
  exact nil (blocks_nil fun a ha e => by have := (inv.q a ha).2.1.1; omega)
 by_cases h2 : 32 ≤ v
 ·refine (dBlocks_high d p h (Pq P) w s.blk hh0 v h1 h2).mono ?_
  rintro e w' ⟨rfl, rfl⟩
  exact nil (blocks_nil fun a ha e => by have := (inv.q a ha).2.1.2.1; omega)
 obtain ⟨v, rfl⟩ : ∃ n : Nat, v = (n : Int) := ⟨v.toNat, by omega⟩
 have hv : v < 32 := by omega
 cases hP : P v with
 | none =>
  refine (dBlocks_no d p h (Pq P) w s.blk hh0 v hv (by unfold Pq; rw [hP]; rfl)).mono ?_
  rintro e w' ⟨rfl, rfl⟩
  exact nil (blocks_nil (s.none_ v hv hP).2)
 | some x =>
  obtain ⟨q1, ⟨a1, a2, a3⟩, b1, b2, b3⟩ := s.part v x hv hP
  have c := dBlocks_yes d p h (Pq P) w s.blk hh0 v hv x.q x.r x.sp x.A x.B (by unfold Pq; rw [hP]; rfl) q1.blk q1.rec_
  have e : items x.B.V x.B.low x.B.n = blocksOf p h Q v := by
   rw [b3, ← blocks_is inv]
   congr 1 <;> omega
  rw [e] at c; exact c
end
end
section
open Go Go.RowKit Go.Own Go.Shelf
section
variable {w V W : World} {c : Nat} {p : Par} {h : Int} {A : List Att} {Q : List Pro} {P : Nat → Option PD} {k : Nat} {PC : Nat → Option PD}
end
def zPar : Par := ⟨0, 0, 0, 0, 0, 0, 0, 0, 0, 0, 0⟩
end
section
open Go Go.RowKit Go.Own Go.Shelf
section
variable {w w' : World} {d : Nat} {p : Par} {h h' : Int} {A A' : List Att} {Q Q' : List Pro} {P : Nat → Option PD} {who : Nat → Nat} {a : Att} {q : Pro}
theorem attNew_mem {x : Att} (hx : x ∈ attNew p h A a) : x ∈ A ∨ x = a ∧ Comes p h a ∧ ∀ y ∈ votesOf p h A a.v, y.t ≠ a.t := by
  unfold attNew at hx
  split at hx
  · rename_i hc
    rcases List.mem_append.1 hx with hx | hx
    · exact .inl hx
    · simp only [List.mem_singleton] at hx
      have hk := hc.2
      unfold attVd at hk
      rw [if_pos hc.1] at hk
      exact .inr ⟨hx, attErr_0 hc.1, judge_k0 hk⟩
  · exact .inl hx
theorem DInv.att (i : DInv p h A Q) (ha : a.Ok) : DInv p h (attNew p h A a) Q := by
  refine ⟨i.ok, fun x hx => ?_, i.q, ?_, i.uq⟩
  · rcases attNew_mem hx with hx | ⟨rfl, c, _⟩
    · exact i.a x hx
    · exact ⟨ha, c.fine, c.st, c.hi⟩
  · unfold attNew
    split
    · rename_i hc
      have hm : a ∈ attNew p h A a := by unfold attNew; rw [if_pos hc]; simp
      refine List.pairwise_append.2 ⟨i.ua, by simp, fun x hx y hy => ?_⟩
      simp only [List.mem_singleton] at hy
      subst hy
      rintro ⟨e1, e2⟩
      have hk := hc.2
      unfold attVd at hk
      rw [if_pos hc.1] at hk
      have c := attErr_0 hc.1
      exact judge_k0 hk x (mem_votes.2 ⟨hx, e1, by have := c.lo; have := c.st; omega, (i.a x hx).2.2.2⟩) e2
    · exact i.ua
theorem DInv.pro (i : DInv p h A Q) (hq : q.Ok) : DInv p h A (proNew p h Q q) := by
  unfold proNew
  split
  · rename_i hc
    have c := proErr_0 hc.1
    refine ⟨i.ok, i.a, fun x hx => ?_, i.ua, ?_⟩
    · rcases List.mem_append.1 hx with hx | hx
      · exact i.q x hx
      · simp only [List.mem_singleton] at hx
        subst hx; exact ⟨hq, c.fine, c.hi⟩
    · refine List.pairwise_append.2 ⟨i.uq, by simp, fun x hx y hy => ?_⟩
      simp only [List.mem_singleton] at hy
      subst hy
      rintro ⟨e1, e2⟩
      have hk := hc.2
      unfold proVd at hk
      rw [if_pos hc.1] at hk
      unfold dPro at hk
      have hb : x ∈ blocksOf p h Q y.v := mem_blocks.2 ⟨hx, e1, by have := c.lo; omega⟩
      cases hf : (blocksOf p h Q y.v).find? (fun b => decide (b.h = y.h)) with
      | none => exact absurd (by simpa using e2) ((List.find?_eq_none.1 hf) x hb)
      | some u =>
        rw [hf] at hk
        dsimp only at hk
        split at hk <;> cases hk
  · exact i
def DOut (w w' : World) (d : Nat) (P : Nat → Option PD) (p : Par) (h : Int) (A : List Att) (Q : List Pro) : Prop :=
  ∃ P' who', DetP w' d p h (fun _ => h) A Q P' who' ∧ (∀ j, DF d P' j → DF d P j ∨ w.heap.size ≤ j) ∧ ∀ j, DR P' j → DR P j ∨ w.heap.size ≤ j
theorem core_attest (i : DInv p h A Q) (ha : a.Ok) (P : Nat → Option PD) (who : Nat → Nat) (s : DetP w d p h (fun _ => h) A Q P who) : Calls Tryz.prog 24 #[.pointer (some ⟨d, 0, none⟩), .agg (Att.c a)] w fun e w' => e = .returned (.tuple #[.agg (Vd.c (attVd p h A a)), .int .i64 (attErr p h a)]) ∧ DOut w w' d P p h (attNew p h A a) Q ∧ Keeps (DF d P) w w' :=
  (dAttest_core d a p h A Q (DF d P) (DR P) ha ha.r i w ⟨P, who, s, trivial, fun j hj => .inl hj, fun j hj => ⟨hj, s.ltR j hj⟩⟩).mono fun _ _ ⟨e, ⟨P', who', q1, q2, q3⟩, k⟩ => ⟨e, ⟨P', who', q1, q2, fun j hj => (q3 j hj).elim (fun x => .inl x.1) .inr⟩, k⟩
theorem core_propose (i : DInv p h A Q) (hq : q.Ok) (P : Nat → Option PD) (who : Nat → Nat) (s : DetP w d p h (fun _ => h) A Q P who) : Calls Tryz.prog 25 #[.pointer (some ⟨d, 0, none⟩), .agg (Pro.c q)] w fun e w' => e = .returned (.tuple #[.agg (Vd.c (proVd p h Q q)), .int .i64 (proErr p h q)]) ∧ DOut w w' d P p h A (proNew p h Q q) ∧ Keeps (DF d P) w w' :=
  (dPropose_core d q p h A Q (DF d P) (DR P) hq hq.r i w ⟨P, who, s, trivial, fun j hj => .inl hj, fun j hj => ⟨hj, s.ltR j hj⟩⟩).mono fun _ _ ⟨e, ⟨P', who', q1, _, q2, q3⟩, k⟩ => ⟨e, ⟨P', who', q1, q2, fun j hj => .inl (q3 j hj).1⟩, k⟩
def movErr (h x : Int) : Int := if x < 1 ∨ x > 4294967296 then 3 else if x < h then 9 else 0
def movH (h x : Int) : Int := if movErr h x = 0 then x else h
theorem core_move (i : DInv p h A Q) (x : Int) (P : Nat → Option PD) (who : Nat → Nat) (s : DetP w d p h (fun _ => h) A Q P who) : Calls Tryz.prog 17 #[.pointer (some ⟨d, 0, none⟩), .int .i64 x] w fun e w' => e = .returned (.int .i64 (movErr h x)) ∧ DOut w w' d P p (movH h x) A Q ∧ Keeps (DF d P) w w' := by
  have h0 : ¬ h = 0 := by have := i.ok.2.2; omega
  have stay : ∀ e, movErr h x = e → e ≠ 0 → Calls Tryz.prog 17 #[.pointer (some ⟨d, 0, none⟩), .int .i64 x] w (fun r w' => r = .returned (.int .i64 e) ∧ w = w') → Calls Tryz.prog 17 #[.pointer (some ⟨d, 0, none⟩), .int .i64 x] w fun e w' => e = .returned (.int .i64 (movErr h x)) ∧ DOut w w' d P p (movH h x) A Q ∧ Keeps (DF d P) w w' := fun e he hz c => c.mono fun r w' ⟨e1, e2⟩ => by
    subst e2
    unfold movH
    rw [he, if_neg hz]
    exact ⟨e1, ⟨P, who, s, fun j hj => .inl hj, fun j hj => .inl hj⟩, Keeps.refl _ _⟩
  by_cases q1 : x < 1
  · exact stay 3 (by unfold movErr; rw [if_pos (.inl q1)]) (by decide) (dMove_low d p h (Pq P) w s.blk x h0 q1)
  by_cases q2 : x > 4294967296
  · exact stay 3 (by unfold movErr; rw [if_pos (.inr q2)]) (by decide) (dMove_high d p h (Pq P) w s.blk x h0 (by omega) q2)
  by_cases q3 : x < h
  · exact stay 9 (by unfold movErr; rw [if_neg (by omega), if_pos q3]) (by decide) (dMove_back d p h (Pq P) w s.blk x h0 (by omega) (by omega) q3)
  have he : movErr h x = 0 := by unfold movErr; rw [if_neg (by omega), if_neg q3]
  unfold movH
  rw [he, if_pos rfl]
  exact (dMove_on s i.ok i (by omega) (by omega)).mono fun r w' ⟨e1, ⟨P', who', q4, q5, q6⟩, k⟩ => ⟨e1, ⟨P', who', q6, fun j hj => .inl (q4 j hj), fun j hj => .inl (q5 j hj)⟩, k⟩
theorem DInv.mov (i : DInv p h A Q) (x : Int) : DInv p (movH h x) A Q := by
  unfold movH
  split
  · rename_i e
    unfold movErr at e
    split at e
    · cases e
    · split at e
      · cases e
      · exact i.mono (by omega) (by omega)
  · exact i
theorem mine_of (s : DetP w d p h (fun _ => h) A Q P who) {B : Nat} (hF : ∀ j, DF d P j → B ≤ j) : Mine B w (fun _ => False) (DF d P) := ⟨fun i hi hm => by have := hF i hm; omega, fun U h5 h0 h1 h2 h3 h4 => s.odd h5 h0 h1 h2 h3 h4⟩
end
structure Det1 (B : Nat) (w : World) (d : Nat) (p : Par) (h : Int) (A : List Att) (Q : List Pro) : Prop where
  ex : ∃ P who, DetP w d p h (fun _ => h) A Q P who ∧ (∀ j, DF d P j → B ≤ j) ∧ ∀ j, DR P j → B ≤ j
  inv : DInv p h A Q
def Turns (B : Nat) (w w' : World) : Prop := ∃ M, Mine B w (fun _ => False) M ∧ Keeps M w w'
structure Det2 (B : Nat) (w : World) (d : Nat) (p : Par) (h : Int) (A : List Att) (Q : List Pro) (c : Nat) (p2 : Par) (h2 : Int) (A2 : List Att) (Q2 : List Pro) : Prop where
  ex : ∃ P who P2 who2, DetP w d p h (fun _ => h) A Q P who ∧ DetP w c p2 h2 (fun _ => h2) A2 Q2 P2 who2 ∧ ((∀ j, DF d P j → B ≤ j) ∧ ∀ j, DR P j → B ≤ j) ∧ ((∀ j, DF c P2 j → B ≤ j) ∧ ∀ j, DR P2 j → B ≤ j) ∧ (∀ j, DF d P j → ¬ DF c P2 j) ∧ (∀ j, DF d P j → ¬ DR P2 j) ∧ ∀ j, DF c P2 j → ¬ DR P j
  inv : DInv p h A Q
  inv2 : DInv p2 h2 A2 Q2
section
variable {B : Nat} {w w' : World} {d c : Nat} {p p2 : Par} {h h2 h' : Int} {A A2 A' : List Att} {Q Q2 Q' : List Pro} {f : FuncId} {args : Array Value} {φ : Ending → Prop}
theorem Det1.keepsN (s : Det1 B w d p h A Q) (k : Keeps Nob w w') : Det1 B w' d p h A Q := ⟨let ⟨P, who, a, b⟩ := s.ex; ⟨P, who, a.keepsN k, b⟩, s.inv⟩
theorem Det1.act (s : Det1 B w d p h A Q) (hB : B ≤ w.heap.size) (hi : DInv p h' A' Q') (hc : ∀ P who, DetP w d p h (fun _ => h) A Q P who → Calls Tryz.prog f args w fun e w' => φ e ∧ DOut w w' d P p h' A' Q' ∧ Keeps (DF d P) w w') :
    Calls Tryz.prog f args w fun e w' => φ e ∧ Det1 B w' d p h' A' Q' ∧ Turns B w w' := by
  obtain ⟨P, who, s1, s2, s3⟩ := s.ex
  refine (hc P who s1).mono ?_
  rintro e w' ⟨he, ⟨P', who', q1, q2, q3⟩, k⟩
  exact ⟨he, ⟨⟨P', who', q1, fun j hj => (q2 j hj).elim (s2 j) (fun x => by omega), fun j hj => (q3 j hj).elim (s3 j) (fun x => by omega)⟩, hi⟩, DF d P, mine_of s1 s2, k⟩
theorem Det2.keepsN (s : Det2 B w d p h A Q c p2 h2 A2 Q2) (k : Keeps Nob w w') : Det2 B w' d p h A Q c p2 h2 A2 Q2 := ⟨let ⟨P, who, P2, who2, a, a2, b⟩ := s.ex; ⟨P, who, P2, who2, a.keepsN k, a2.keepsN k, b⟩, s.inv, s.inv2⟩
theorem Det2.fst (s : Det2 B w d p h A Q c p2 h2 A2 Q2) : Det1 B w d p h A Q := ⟨let ⟨P, who, _, _, a, _, b, _⟩ := s.ex; ⟨P, who, a, b⟩, s.inv⟩
theorem Det2.snd (s : Det2 B w d p h A Q c p2 h2 A2 Q2) : Det1 B w c p2 h2 A2 Q2 := ⟨let ⟨_, _, P, who, _, a, _, b, _⟩ := s.ex; ⟨P, who, a, b⟩, s.inv2⟩
theorem Det2.swap (s : Det2 B w d p h A Q c p2 h2 A2 Q2) : Det2 B w c p2 h2 A2 Q2 d p h A Q := ⟨let ⟨P, who, P2, who2, a, a2, b, b2, c1, c2, c3⟩ := s.ex; ⟨P2, who2, P, who, a2, a, b2, b, fun j x y => c1 j y x, c3, c2⟩, s.inv2, s.inv⟩
theorem Det2.act (s : Det2 B w d p h A Q c p2 h2 A2 Q2) (hB : B ≤ w.heap.size) (hi : DInv p h' A' Q') (hc : ∀ P who, DetP w d p h (fun _ => h) A Q P who → Calls Tryz.prog f args w fun e w' => φ e ∧ DOut w w' d P p h' A' Q' ∧ Keeps (DF d P) w w') :
    Calls Tryz.prog f args w fun e w' => φ e ∧ Det2 B w' d p h' A' Q' c p2 h2 A2 Q2 ∧ Turns B w w' := by
  obtain ⟨P, who, P2, who2, s1, t1, ⟨s2, s3⟩, ⟨t2, t3⟩, u1, u2, u3⟩ := s.ex
  refine (hc P who s1).mono ?_
  rintro e w' ⟨he, ⟨P', who', q1, q2, q3⟩, k⟩
  have ht : DetP w' c p2 h2 (fun _ => h2) A2 Q2 P2 who2 := t1.keeps k (fun j hj hm => u1 j hm hj) (fun j hj hm => u2 j hm hj) ⟨s1.odd (by decide) (by decide) (by decide) (by decide) (by decide) (by decide), s1.odd (by decide) (by decide) (by decide) (by decide) (by decide) (by decide), s1.odd (by decide) (by decide) (by decide) (by decide) (by decide) (by decide), s1.odd (by decide) (by decide) (by decide) (by decide) (by decide) (by decide)⟩
  refine ⟨he, ⟨⟨P', who', P2, who2, q1, ht, ⟨fun j hj => (q2 j hj).elim (s2 j) (fun x => by omega), fun j hj => (q3 j hj).elim (s3 j) (fun x => by omega)⟩, ⟨t2, t3⟩, fun j hj hj2 => (q2 j hj).elim (fun x => u1 j x hj2) (fun x => by have := t1.lt j hj2; omega), fun j hj hj2 => (q2 j hj).elim (fun x => u2 j x hj2) (fun x => by have := t1.ltR j hj2; omega), fun j hj hj2 => (q3 j hj2).elim (fun x => u3 j hj x) (fun x => by have := t1.lt j hj; omega)⟩, hi, s.inv2⟩, DF d P, mine_of s1 s2, k⟩
theorem Turns.blk (t : Turns B w w') {g : Nat} {cs : Array Value} {U : TypeId} (hg : w.heap[g]? = some (.cells cs U (0, 0)))
    (h5 : 79 ≠ U := by decide) (h0 : 161 ≠ U := by decide) (h1 : 184 ≠ U := by decide) (h2 : 185 ≠ U := by decide) (h3 : 192 ≠ U := by decide) (h4 : 168 ≠ U := by decide) : w'.heap[g]? = some (.cells cs U (0, 0)) :=
  let ⟨_, m, k⟩ := t; (k.block g (lt_of_block hg) (fun e => m.no hg e h5 h0 h1 h2 h3 h4)).trans hg
theorem Turns.size (t : Turns B w w') : w.heap.size ≤ w'.heap.size := let ⟨_, _, k⟩ := t; k.size
theorem Turns.keeps {w0 : World} (t : Turns B w w') (k : Keeps Nob w0 w) (hB : w0.heap.size ≤ B) : Keeps Nob w0 w' := let ⟨_, m, k2⟩ := t; k.then k2 (fun i hi hm => (m.sub i (by omega) hm).elim)
theorem Turns.row (t : Turns B w w') {e : TypeId} {size n : Nat} {v : Value} {xs : List Value} (h : Row w e size v n xs)
    (h5 : 79 ≠ e := by decide) (h0 : 161 ≠ e := by decide) (h1 : 184 ≠ e := by decide) (h2 : 185 ≠ e := by decide) (h3 : 192 ≠ e := by decide) (h4 : 168 ≠ e := by decide) : Row w' e size v n xs :=
  let ⟨_, m, k⟩ := t; h.keeps k (fun j hj hm => by
    obtain ⟨cs, hc⟩ := h.elem hj
    exact m.no hc hm h5 h0 h1 h2 h3 h4)
theorem Det1.attest (s : Det1 B w d p h A Q) (hB : B ≤ w.heap.size) {a : Att} (ha : a.Ok) : Calls Tryz.prog 24 #[.pointer (some ⟨d, 0, none⟩), .agg (Att.c a)] w fun e w' => e = .returned (.tuple #[.agg (Vd.c (attVd p h A a)), .int .i64 (attErr p h a)]) ∧ Det1 B w' d p h (attNew p h A a) Q ∧ Turns B w w' := s.act hB (s.inv.att ha) (core_attest s.inv ha)
theorem Det1.propose (s : Det1 B w d p h A Q) (hB : B ≤ w.heap.size) {q : Pro} (hq : q.Ok) : Calls Tryz.prog 25 #[.pointer (some ⟨d, 0, none⟩), .agg (Pro.c q)] w fun e w' => e = .returned (.tuple #[.agg (Vd.c (proVd p h Q q)), .int .i64 (proErr p h q)]) ∧ Det1 B w' d p h A (proNew p h Q q) ∧ Turns B w w' := s.act hB (s.inv.pro hq) (core_propose s.inv hq)
theorem Det1.move (s : Det1 B w d p h A Q) (hB : B ≤ w.heap.size) (x : Int) : Calls Tryz.prog 17 #[.pointer (some ⟨d, 0, none⟩), .int .i64 x] w fun e w' => e = .returned (.int .i64 (movErr h x)) ∧ Det1 B w' d p (movH h x) A Q ∧ Turns B w w' := s.act hB (s.inv.mov x) (core_move s.inv x)
theorem Det2.attest (s : Det2 B w d p h A Q c p2 h2 A2 Q2) (hB : B ≤ w.heap.size) {a : Att} (ha : a.Ok) : Calls Tryz.prog 24 #[.pointer (some ⟨d, 0, none⟩), .agg (Att.c a)] w fun e w' => e = .returned (.tuple #[.agg (Vd.c (attVd p h A a)), .int .i64 (attErr p h a)]) ∧ Det2 B w' d p h (attNew p h A a) Q c p2 h2 A2 Q2 ∧ Turns B w w' := s.act hB (s.inv.att ha) (core_attest s.inv ha)
theorem Det2.propose (s : Det2 B w d p h A Q c p2 h2 A2 Q2) (hB : B ≤ w.heap.size) {q : Pro} (hq : q.Ok) : Calls Tryz.prog 25 #[.pointer (some ⟨d, 0, none⟩), .agg (Pro.c q)] w fun e w' => e = .returned (.tuple #[.agg (Vd.c (proVd p h Q q)), .int .i64 (proErr p h q)]) ∧ Det2 B w' d p h A (proNew p h Q q) c p2 h2 A2 Q2 ∧ Turns B w w' := s.act hB (s.inv.pro hq) (core_propose s.inv hq)
theorem Det2.move (s : Det2 B w d p h A Q c p2 h2 A2 Q2) (hB : B ≤ w.heap.size) (x : Int) : Calls Tryz.prog 17 #[.pointer (some ⟨d, 0, none⟩), .int .i64 x] w fun e w' => e = .returned (.int .i64 (movErr h x)) ∧ Det2 B w' d p (movH h x) A Q c p2 h2 A2 Q2 ∧ Turns B w w' := s.act hB (s.inv.mov x) (core_move s.inv x)
theorem Det1.votes (s : Det1 B w d p h A Q) (v : Int) : Calls Tryz.prog 11 #[.pointer (some ⟨d, 0, none⟩), .int .i64 v] w fun e w' => ∃ va, e = .returned va ∧ Row w' 28 36 va (votesOf p h A v).length ((votesOf p h A v).flatMap Att.cl) ∧ NewFrom w.heap.size va ∧ Keeps Nob w w' := let ⟨_, _, a, _⟩ := s.ex; dVotes_ok a s.inv
theorem Det1.blocks (s : Det1 B w d p h A Q) (v : Int) : Calls Tryz.prog 16 #[.pointer (some ⟨d, 0, none⟩), .int .i64 v] w fun e w' => ∃ va, e = .returned va ∧ Row w' 37 35 va (blocksOf p h Q v).length ((blocksOf p h Q v).flatMap Pro.cl) ∧ NewFrom w.heap.size va ∧ Keeps Nob w w' := let ⟨_, _, a, _⟩ := s.ex; dBlocks_ok a s.inv
theorem Det1.height (s : Det1 B w d p h A Q) : Calls Tryz.prog 12 #[.pointer (some ⟨d, 0, none⟩)] w fun e w' => e = .returned (.int .i64 h) ∧ w = w' := let ⟨_, _, a, _⟩ := s.ex; dHeight_ok d p h _ w a.blk (by have := s.inv.ok.2.2; omega)
theorem Det1.blk (s : Det1 B w d p h A Q) : ∃ P, w.heap[d]? = some (.cells (detC p h P) 79 (0, 0)) := let ⟨_, _, a, _⟩ := s.ex; ⟨_, a.blk⟩
theorem Det1.lower {B0 : Nat} (s : Det1 B w d p h A Q) (hB : B0 ≤ B) : Det1 B0 w d p h A Q := ⟨let ⟨P, who, a, b, c⟩ := s.ex; ⟨P, who, a, fun j hj => Nat.le_trans hB (b j hj), fun j hj => Nat.le_trans hB (c j hj)⟩, s.inv⟩
theorem Turns.lower {B0 : Nat} (t : Turns B w w') (hB : B0 ≤ B) : Turns B0 w w' := let ⟨M, m, k⟩ := t; ⟨M, ⟨fun i hi => m.sub i (by omega), m.odd⟩, k⟩
theorem Turns.nob (k : Keeps Nob w w') : Turns B w w' := ⟨Nob, ⟨fun _ _ e => e, fun _ _ _ _ _ _ _ => Odd.nob _⟩, k⟩
end
end
section
open Go Go.RowKit Go.Own Go.Shelf
theorem att_equal_d (d : Nat) (a b : Att) (ha : a.r.length = 32) (hb : b.r.length = 32) (w : World) : (Op.equalIn (d + 3) 28 (.agg a.c) (.agg b.c)).run Tryz.prog w = .ok (decide (a = b)) w := by
  rw [run_equalIn_struct w (d + 2) 28 _ _ (by kernel_rfl) (by kernel_rfl)]
  simp only [Program.fieldsOf, Tryz.underlying28]
  rw [eqF_int (d := d + 1) (k := .i64) (a := a.v) (b := b.v) w (by decide) Tryz.underlying3 (by kernel_rfl) (Att.c_0 a) (Att.c_0 b), eqF_int (d := d + 1) (k := .i64) (a := a.s) (b := b.s) w (by decide) Tryz.underlying3 (by kernel_rfl) (Att.c_1 a) (Att.c_1 b),
    eqF_int (d := d + 1) (k := .i64) (a := a.t) (b := b.t) w (by decide) Tryz.underlying3 (by kernel_rfl) (Att.c_2 a) (Att.c_2 b), eqF_hash (d := d) (l := a.r) (m := b.r) w (by decide) rfl (Att.c_ext a ha) (Att.c_ext b hb) ha hb,
    eqF_int (d := d + 1) (k := .u64) (a := ((a.g : Nat) : Int)) (b := ((b.g : Nat) : Int)) w (by decide) Tryz.underlying26 (by kernel_rfl) (Att.c_tag a ha) (Att.c_tag b hb)]
  simp only [Op.eqFields, Sem.run_pure]
  obtain ⟨v, s, t, r, g⟩ := a
  obtain ⟨v', s', t', r', g'⟩ := b
  simp only [Att.mk.injEq]
  by_cases h1 : v = v' <;> by_cases h2 : s = s' <;> by_cases h3 : t = t' <;> by_cases h4 : r = r' <;> by_cases h5 : g = g' <;> simp [h1, h2, h3, h4, h5] <;> omega
theorem pro_equal_d (d : Nat) (a b : Pro) (ha : a.r.length = 32) (hb : b.r.length = 32) (w : World) : (Op.equalIn (d + 3) 37 (.agg a.c) (.agg b.c)).run Tryz.prog w = .ok (decide (a = b)) w := by
  rw [run_equalIn_struct w (d + 2) 37 _ _ (by kernel_rfl) (by kernel_rfl)]
  simp only [Program.fieldsOf, Tryz.underlying37]
  rw [eqF_int (d := d + 1) (k := .i64) (a := a.v) (b := b.v) w (by decide) Tryz.underlying3 (by kernel_rfl) (Pro.c_0 a) (Pro.c_0 b), eqF_int (d := d + 1) (k := .i64) (a := a.h) (b := b.h) w (by decide) Tryz.underlying3 (by kernel_rfl) (Pro.c_1 a) (Pro.c_1 b),
    eqF_hash (d := d) (l := a.r) (m := b.r) w (by decide) rfl (Pro.c_ext a ha) (Pro.c_ext b hb) ha hb,
    eqF_int (d := d + 1) (k := .u64) (a := ((a.g : Nat) : Int)) (b := ((b.g : Nat) : Int)) w (by decide) Tryz.underlying26 (by kernel_rfl) (Pro.c_tag a ha) (Pro.c_tag b hb)]
  simp only [Op.eqFields, Sem.run_pure]
  obtain ⟨v, s, r, g⟩ := a
  obtain ⟨v', s', r', g'⟩ := b
  simp only [Pro.mk.injEq]
  by_cases h1 : v = v' <;> by_cases h2 : s = s' <;> by_cases h4 : r = r' <;> by_cases h5 : g = g' <;> simp [h1, h2, h4, h5] <;> omega
theorem part_att (xs : Array Value) (off : Nat) (w : World) : (part 28 xs off).run Tryz.prog w = .ok (.agg (xs.extract off (off + 36))) w := by
  have h : (sizeOf 28).run Tryz.prog w = .ok 36 w := by kernel_rfl
  simp [part, isAgg, run_underlying Tryz.underlying28, h]
theorem part_pro (xs : Array Value) (off : Nat) (w : World) : (part 37 xs off).run Tryz.prog w = .ok (.agg (xs.extract off (off + 35))) w := by
  have h : (sizeOf 37).run Tryz.prog w = .ok 35 w := by kernel_rfl
  simp [part, isAgg, run_underlying Tryz.underlying37, h]
theorem eqF_att {d : Nat} {f : Field} {fs : List Field} {xs ys : Array Value} {l m : Att} (w : World) (hf : f.name ≠ "_") (ht : f.type = 28) (hx : xs.extract f.offset (f.offset + 36) = l.c) (hy : ys.extract f.offset (f.offset + 36) = m.c) (hl : l.r.length = 32) (hm : m.r.length = 32) :
    (Op.eqFields (d + 3) xs ys (f :: fs)).run Tryz.prog w = if l = m then (Op.eqFields (d + 3) xs ys fs).run Tryz.prog w else .ok false w := by
  conv => lhs; unfold Op.eqFields
  rw [if_pos hf]
  simp only [ht, Sem.run_bind, part_att, Result.andThen_ok, hx, hy, att_equal_d d l m hl hm]
  by_cases h : l = m <;> simp [h]
theorem eqF_pro {d : Nat} {f : Field} {fs : List Field} {xs ys : Array Value} {l m : Pro} (w : World) (hf : f.name ≠ "_") (ht : f.type = 37) (hx : xs.extract f.offset (f.offset + 35) = l.c) (hy : ys.extract f.offset (f.offset + 35) = m.c) (hl : l.r.length = 32) (hm : m.r.length = 32) :
    (Op.eqFields (d + 3) xs ys (f :: fs)).run Tryz.prog w = if l = m then (Op.eqFields (d + 3) xs ys fs).run Tryz.prog w else .ok false w := by
  conv => lhs; unfold Op.eqFields
  rw [if_pos hf]
  simp only [ht, Sem.run_bind, part_pro, Result.andThen_ok, hx, hy, pro_equal_d d l m hl hm]
  by_cases h : l = m <;> simp [h]
theorem Vd.ext_a {x : Vd} (h : VdOk x) : x.c.extract 1 37 = x.a.c := by
  apply Array.toList_inj.1
  rw [Array.toList_extract]
  unfold Vd.c vdC
  simp only [List.extract_eq_take_drop, List.drop_succ_cons, List.drop_zero, Nat.reduceSub]
  rw [List.take_append_of_le_length (by have := Att.tl h.a; omega), List.take_of_length_le (by have := Att.tl h.a; omega)]; rfl
theorem Vd.ext_b {x : Vd} (h : VdOk x) : x.c.extract 37 72 = x.b.c := by
  apply Array.toList_inj.1
  rw [Array.toList_extract]
  unfold Vd.c vdC
  simp only [List.extract_eq_take_drop, Nat.reduceSub, show (37 : Nat) = 36 + 1 from rfl, List.drop_succ_cons]
  rw [List.drop_append, Att.tl h.a, List.drop_of_length_le (by have := Att.tl h.a; omega), List.nil_append, Nat.sub_self, List.drop_zero, List.take_append_of_le_length (by have := Pro.tl h.b; omega), List.take_of_length_le (by have := Pro.tl h.b; omega)]; rfl
theorem vd_equal (x y : Vd) (hx : VdOk x) (hy : VdOk y) (w : World) : (Op.equalIn 10000 57 (.agg x.c) (.agg y.c)).run Tryz.prog w = .ok (decide (x = y)) w := by
  rw [run_equalIn_struct w 9999 57 _ _ (by kernel_rfl) (by kernel_rfl)]
  simp only [Program.fieldsOf, Tryz.underlying57]
  rw [eqF_int (d := 9998) (k := .i64) (a := x.k) (b := y.k) w (by decide) Tryz.underlying3 (by kernel_rfl) rfl rfl, eqF_att (d := 9996) (l := x.a) (m := y.a) w (by decide) rfl (Vd.ext_a hx) (Vd.ext_a hy) hx.a hy.a,
    eqF_pro (d := 9996) (l := x.b) (m := y.b) w (by decide) rfl (Vd.ext_b hx) (Vd.ext_b hy) hx.b hy.b,
    eqF_int (d := 9998) (k := .i64) (a := x.f) (b := y.f) w (by decide) Tryz.underlying3 (by kernel_rfl) (vdC_first (Att.tl hx.a) (Pro.tl hx.b)) (vdC_first (Att.tl hy.a) (Pro.tl hy.b))]
  simp only [Op.eqFields, Sem.run_pure]
  obtain ⟨k, a, b, f⟩ := x
  obtain ⟨k', a', b', f'⟩ := y
  simp only [Vd.mk.injEq]
  by_cases h1 : k = k' <;> by_cases h2 : a = a' <;> by_cases h4 : b = b' <;> by_cases h5 : f = f' <;> simp [h1, h2, h4, h5]
theorem vd_eq (x y : Vd) (hx : VdOk x) (hy : VdOk y) (w : World) : (binOp .eql 57 (.agg x.c) (.agg y.c)).run Tryz.prog w = .ok (.bool (decide (x = y))) w := by rw [run_eql_struct, vd_equal x y hx hy]; rfl
end
end Go.Proofs.YthmclmbeflbhhaaGreat
namespace Go.Own
section
open Go Go.RowKit Go.Shelf
theorem fold_seg (off : Nat) (vs : List Value) (cs : Array Value) (h : off + vs.length ≤ cs.size) : (vs.zipIdx 0).foldl (fun cs (x : Value × Nat) => cs.setIfInBounds (off + x.2) x.1) cs = seg cs off vs := by
  obtain ⟨h1, h2⟩ := Great.foldl_set off vs 0 cs
  apply Array.ext_getElem?
  intro k
  rw [h2 k]
  simp only [seg, List.getElem?_toArray, Nat.add_zero]
  by_cases ha : k < off
  · rw [if_neg (by omega), List.append_assoc, List.getElem?_append_left (by simp; omega), List.getElem?_take_of_lt ha]; simp
  · by_cases hb : k < off + vs.length
    · rw [if_pos (by omega), List.append_assoc, List.getElem?_append_right (by simp; omega), List.length_take, Nat.min_eq_left (by simp; omega), List.getElem?_append_left (by omega)]
    · rw [if_neg (by omega), List.getElem?_append_right (by simp; omega), List.getElem?_drop, List.length_append, List.length_take, Nat.min_eq_left (by simp; omega), show off + vs.length + (k - (off + vs.length)) = k by omega]; simp
theorem fill_seg {place : Nat → Option (Nat × Nat)} {cs ds r : Array Value} {i off n : Nat} {v : Value} {rest : List (Nat × Value)} (hp : place i = some (off, n)) (hv : v.cells.size = n) (hn : off + n ≤ cs.size) (hs : seg cs off v.cells.toList = ds) (h : Instr.fill place ds rest = some r) : Instr.fill place cs ((i, v) :: rest) = some r := by
  unfold Instr.fill
  simp only [hp, hv]
  rw [if_neg (by simp; omega), ← Array.foldl_toList, Array.toList_zipIdx, fold_seg off v.cells.toList cs (by simpa [hv] using hn), hs]
  exact h
section
variable {P : Program} {o : Oper} {ρ : Operand → Value} {w : World}
theorem exec_build_fill (t : TypeId) (ps : Array (Nat × Operand)) (ho : o.op = .build t ps) (qs : List (Nat × Value)) (hq : (ps.map fun (i, x) => (i, ρ x)).toList = qs) (fs : Array Field) (hu : P.underlying t = some (.struct fs)) (zv : Value) (hz : ∀ w, (zeroValue t).run P w = .ok zv w)
    (places : Array (Nat × Nat)) (hp : ∀ w, (fs.mapM fun f => do pure (f.offset, ← sizeOf f.type) : Sem (Array (Nat × Nat))).run P w = .ok places w) (cells : Array Value) (hf : Instr.fill (places[·]?) zv.cells qs = some cells) : (execOp ρ o).run P w = .ok (.value (.agg cells)) w := by
  subst hq
  refine exec_build t ps ho _ rfl ?_
  unfold Instr.build
  simp only [Sem.run_bind, hz, Result.andThen_ok, run_underlying hu, hp]
  rw [hf]
  rfl
theorem exec_buildAll (t e : TypeId) (n : Nat) (ps : Array (Nat × Operand)) (ho : o.op = .buildSlice t n ps) (vs : List Value) (hq : (ps.map fun (i, x) => (i, ρ x)).toList = ((vs.zipIdx 0).map fun x => (x.2, x.1))) (ie : TypeInfo) (z : Value) (hu : P.underlying t = some (.slice e)) (hie : P.info? e = some ie) (hz : ie.zero = some z)
    (s : Nat) (hs : ie.size = s) (hs0 : 0 < s) (hn : vs.length = n) (hn0 : 0 < n) (hs1 : n * s ≤ 16777216) (hv : ∀ v ∈ vs, v.cells.size = s) : (execOp ρ o).run P w = .ok (.value (.slice (some ⟨w.heap.size, 0, none⟩) n n)) (w.alloc (.cells (vs.flatMap fun v => v.cells.toList).toArray e)) := by
  have hf : Instr.fill (fun i => some (i * ie.size, ie.size)) ((Array.range (n * ie.size)).map (z.cells[· % z.cells.size]!)) (ps.map fun (i, x) => (i, ρ x)).toList = some (vs.flatMap fun v => v.cells.toList).toArray := by
    rw [hq]
    exact Great.fill_whole (s := ie.size) (by omega) vs _ (fun u hu => by rw [hv u hu, hs]) (by simp [hn])
  have hp : ¬ n * ie.size = 0 := by rw [hs]; exact Nat.ne_of_gt (Nat.mul_pos hn0 hs0)
  unfold execOp
  simp only [ho, Sem.run_bind, run_buildSlice w t e n _ _ ie z hu hie hz (by rw [hs]; omega) hp hf, Result.andThen_ok, Sem.run_pure]
end
end
end Go.Own
namespace Go.Proofs.YthmclmbeflbhhaaGreat
section
open Go Go.RowKit Go.Own Go.Shelf
theorem vd_guard : Tryz.prog.eqGuardType Tryz.prog.depth 57 = false := by kernel_rfl
def PlV : Array (Nat × Nat) := #[(0, 1), (1, 36), (37, 35), (72, 1)]
section
variable {k f : Int} {a b : List Value} (la : a.length = 36) (lb : b.length = 35)
include la lb
theorem vdC_segf (x : Int) : seg (vdC k a b f) 72 [.int .i64 x] = vdC k a b x := by
  unfold vdC seg
  simp only [List.length_singleton]
  have h1 : (Value.int .i64 k :: (a ++ (b ++ [Value.int .i64 f]))).take 72 = .int .i64 k :: (a ++ b) := by
    rw [show (72 : Nat) = 71 + 1 from rfl, List.take_succ_cons, ← List.append_assoc, List.take_left' (by simp; omega)]
  have h2 : (Value.int .i64 k :: (a ++ (b ++ [Value.int .i64 f]))).drop (72 + 1) = [] := List.drop_of_length_le (by simp; omega)
  rw [h1, h2]; simp
end
theorem vdC_segk (k x f : Int) (a b : List Value) : seg (vdC k a b f) 0 [.int .i64 x] = vdC x a b f := by
  unfold vdC seg; simp
theorem fill_vda (k f : Int) (a : Att) (ha : a.r.length = 32) : Instr.fill (PlV[·]?) (vdC 0 attZ proZ 0) [(0, .int .i64 k), (1, .agg a.c), (3, .int .i64 f)] = some (Vd.c ⟨k, a, zPro, f⟩) := by
  refine fill_seg (ds := vdC k attZ proZ 0) rfl rfl (by rw [vdC_size attZ_len proZ_len]; decide) (vdC_segk _ _ _ _ _) <| fill_seg (ds := vdC k a.cl proZ 0) (off := 1) (n := 36) rfl (Att.c_size a ha) (by rw [vdC_size attZ_len proZ_len]; decide) (vdC_seta attZ_len proZ_len (Att.tl ha)) ?_
  exact fill_seg (ds := vdC k a.cl proZ f) (off := 72) (n := 1) rfl rfl (by rw [vdC_size (Att.tl ha) proZ_len]; decide) (vdC_segf (Att.tl ha) proZ_len f) rfl
def ofP (e W : Int) : Par := ⟨100, 100, e, W, 7, 8, 20, 50000000, 3, 50, 100000000⟩
section
variable {B : Nat} {w w' w'' : World}
def Six (U : TypeId) : Prop := U = 79 ∨ U = 161 ∨ U = 184 ∨ U = 185 ∨ U = 192 ∨ U = 168
theorem Turns.trans (s : Turns B w w') (t : Turns B w' w'') : Turns B w w'' := by
  obtain ⟨M, m, k⟩ := s
  obtain ⟨M2, m2, k2⟩ := t
  refine ⟨fun j => M j ∨ (M2 j ∧ ∀ cs U fr, w.heap[j]? = some (.cells cs U fr) → Six U), ⟨fun i hi hm => ?_, fun U h5 h0 h1 h2 h3 h4 j cs fr hj e => ?_⟩, ?_⟩
  · rcases hm with hm | hm
    · exact m.sub i hi hm
    · exact m2.sub i hi hm.1
  · rcases hj with hj | hj
    · exact m.odd U h5 h0 h1 h2 h3 h4 j cs fr hj e
    · rcases hj.2 cs U fr e with e | e | e | e | e | e
      · exact h5 e.symm
      · exact h0 e.symm
      · exact h1 e.symm
      · exact h2 e.symm
      · exact h3 e.symm
      · exact h4 e.symm
  · refine (k.mono fun _ _ h => .inl h).then k2 fun i hi hm => ?_
    by_cases hM : M i
    · exact .inl hM
    · refine .inr ⟨hm, fun cs U fr e => ?_⟩
      have e' := (k.block i hi hM).trans e
      by_cases h5 : 79 = U
      · exact .inl h5.symm
      by_cases h0 : 161 = U
      · exact .inr (.inl h0.symm)
      by_cases h1 : 184 = U
      · exact .inr (.inr (.inl h1.symm))
      by_cases h2 : 185 = U
      · exact .inr (.inr (.inr (.inl h2.symm)))
      by_cases h3 : 192 = U
      · exact .inr (.inr (.inr (.inr (.inl h3.symm))))
      by_cases h4 : 168 = U
      · exact .inr (.inr (.inr (.inr (.inr h4.symm))))
      · exact absurd e' (m2.odd U h5 h0 h1 h2 h3 h4 i cs fr hm)
theorem Turns.nn (s : Turns B w w') (k : Keeps Nob w' w'') : Turns B w w'' := let ⟨M, m, k1⟩ := s; ⟨M, m, k1.nn k⟩
theorem Turns.no (s : Turns B w w') {g : Nat} (k : Keeps (One g) w' w'') (hg : w.heap.size ≤ g) : Turns B w w'' := let ⟨M, m, k1⟩ := s; ⟨M, m, k1.no k hg⟩
theorem Turns.refl (B : Nat) (w : World) : Turns B w w := Turns.nob (Keeps.refl _ _)
theorem Turns.above (t : Turns B w w') : Keeps (fun j => B ≤ j) w w' := let ⟨_, m, k⟩ := t; k.mono fun i _ hm => Nat.le_of_not_lt fun h => m.sub i h hm
theorem Det1.is_attest {d : Nat} {p : Par} {h : Int} {A A' : List Att} {Q : List Pro} {a : Att} {y : Vd} {e0 : Int} (s : Det1 B w d p h A Q) (hB : B ≤ w.heap.size) (ha : a.Ok) (hE : attErr p h a = e0) (hV : attVd p h A a = y) (hN : attNew p h A a = A') : Calls Tryz.prog 24 #[.pointer (some ⟨d, 0, none⟩), .agg (Att.c a)] w fun e w' => e = .returned (.tuple #[.agg (Vd.c y), .int .i64 e0]) ∧ Det1 B w' d p h A' Q ∧ Turns B w w' := by
  subst hE; subst hV; subst hN; exact s.attest hB ha
theorem Det1.is_propose {d : Nat} {p : Par} {h : Int} {A : List Att} {Q Q' : List Pro} {q : Pro} {y : Vd} {e0 : Int} (s : Det1 B w d p h A Q) (hB : B ≤ w.heap.size) (hq : q.Ok) (hE : proErr p h q = e0) (hV : proVd p h Q q = y) (hN : proNew p h Q q = Q') : Calls Tryz.prog 25 #[.pointer (some ⟨d, 0, none⟩), .agg (Pro.c q)] w fun e w' => e = .returned (.tuple #[.agg (Vd.c y), .int .i64 e0]) ∧ Det1 B w' d p h A Q' ∧ Turns B w w' := by
  subst hE; subst hV; subst hN; exact s.propose hB hq
theorem Det1.is_move {d : Nat} {p : Par} {h h' x e0 : Int} {A : List Att} {Q : List Pro} (s : Det1 B w d p h A Q) (hB : B ≤ w.heap.size) (hE : movErr h x = e0) (hH : movH h x = h') : Calls Tryz.prog 17 #[.pointer (some ⟨d, 0, none⟩), .int .i64 x] w fun e w' => e = .returned (.int .i64 e0) ∧ Det1 B w' d p h' A Q ∧ Turns B w w' := by
  subst hE; subst hH; exact s.move hB x
end
end
section
open Go Go.RowKit Go.Own Go.ChangeShapes Go.WideShapes Go.ChangeAt Go.WideElems
theorem hash_cells {H : Type} {enc : TypeId × Value → H} {W : World} {sp : Nat → Bool} {held : Bool} {n off : Nat} {cs : List Value} {y : Option (DataW H × List MemPlace)} {z : DataW H × List MemPlace} (h : DataW.trod enc Tryz.prog W 0 sp held n 25 ((cs.drop off).take (Tryz.prog.cellsOf 25)) = y) (hy : y = some z) :
    ∃ l : List UInt8, l.length = 32 ∧ (cs.drop off).take 32 = B l := by
  subst hy
  have hh : Tryz.prog.cellsOf 25 = 32 := by kernel_rfl
  rw [hh] at h
  generalize (cs.drop off).take 32 = c at *
  obtain ⟨xs, m, _, _, hc, hxl, hel⟩ := DataW.trod_array Tryz.underlying25 h
  have hC : Tryz.prog.cellsOf 5 = 1 := by kernel_rfl
  rw [hC] at hel
  obtain ⟨l, hl, hq⟩ := list_of (fun i (x : UInt8) => c[i]? = some (.int .u8 (x.toNat : Int))) 32 (fun i hlt => by
    have h1 := hel i hlt
    rw [List.getElem?_eq_getElem (show i < xs.length by omega)] at h1
    obtain ⟨q, e1, _, e3⟩ := DataW.trod_int Tryz.underlying5 h1
    obtain ⟨x, rfl⟩ := u8_nat e3
    refine ⟨x, ?_⟩
    have h2 : ((c.drop (i * 1)).take 1)[0]? = some (.int .u8 (x.toNat : Int)) := by rw [e1]; rfl
    rw [List.getElem?_take_of_lt (by omega), List.getElem?_drop] at h2
    simpa using h2)
  refine ⟨l, hl, List.ext_getElem? fun i => ?_⟩
  by_cases hi : i < 32
  · obtain ⟨x, hx⟩ : ∃ x, l[i]? = some x := ⟨_, List.getElem?_eq_getElem (by omega)⟩
    rw [hq i x hx, B_get _ _ _ hx]
  · have h32 : c.length = 32 := by rw [hc, hh]
    rw [List.getElem?_eq_none (by omega), List.getElem?_eq_none (by rw [B_length]; omega)]
theorem att_cells {H : Type} {enc : TypeId × Value → H} {W : World} {sp : Nat → Bool} {held : Bool} {n : Nat} {cs : List Value} {z : DataW H × List MemPlace} (h : DataW.trod enc Tryz.prog W 0 sp held n 28 cs = some z) (hl : cs.length = 36) : ∃ a : Att, cs = a.c.toList ∧ a.Ok := by
  have hi : Tryz.prog.cellsOf 3 = 1 := by kernel_rfl
  have hu : Tryz.prog.cellsOf 26 = 1 := by kernel_rfl
  obtain ⟨xs, n', _, _, _, hxl, hf⟩ := DataW.trod_struct Tryz.underlying28 h
  obtain ⟨q0, e0, f0⟩ := field_int Tryz.underlying3 hi (hf 0 _ rfl) (List.getElem?_eq_getElem (by rw [hxl]; decide))
  obtain ⟨q1, e1, f1⟩ := field_int Tryz.underlying3 hi (hf 1 _ rfl) (List.getElem?_eq_getElem (by rw [hxl]; decide))
  obtain ⟨q2, e2, f2⟩ := field_int Tryz.underlying3 hi (hf 2 _ rfl) (List.getElem?_eq_getElem (by rw [hxl]; decide))
  obtain ⟨r, hr, er⟩ := hash_cells (off := 3) (hf 3 _ rfl) (List.getElem?_eq_getElem (by rw [hxl]; decide))
  obtain ⟨q4, e4, f4⟩ := field_int Tryz.underlying26 hu (hf 4 _ rfl) (List.getElem?_eq_getElem (by rw [hxl]; decide))
  obtain ⟨g, hg, rfl⟩ := u64_nat f4
  refine ⟨⟨q0, q1, q2, r, g⟩, ?_, ⟨bounds_i64 f0, bounds_i64 f1, bounds_i64 f2, hr, hg⟩⟩
  match cs, hl, e0, e1, e2, er, e4 with
  | a :: b :: c :: r', hl, e0, e1, e2, er, e4 =>
    have e0 : some a = some (Value.int .i64 q0) := e0
    cases e0
    have e1 : some b = some (Value.int .i64 q1) := e1
    have e2 : some c = some (Value.int .i64 q2) := e2
    cases e1; cases e2
    have e4 : r'[32]? = some (Value.int .u64 (g : Int)) := e4
    have er : r'.take 32 = B r := er
    have hl : r'.length = 33 := by simpa using hl
    simp only [Att.c, List.cons.injEq, true_and]
    rw [← er]
    conv => lhs; rw [← List.take_append_drop 32 r']
    congr 1
    rw [List.drop_eq_getElem_cons (by omega), List.drop_of_length_le (by omega)]
    rw [List.getElem?_eq_getElem (by omega)] at e4
    rw [Option.some.inj e4]
theorem pro_cells {H : Type} {enc : TypeId × Value → H} {W : World} {sp : Nat → Bool} {held : Bool} {n : Nat} {cs : List Value} {z : DataW H × List MemPlace} (h : DataW.trod enc Tryz.prog W 0 sp held n 37 cs = some z) (hl : cs.length = 35) : ∃ a : Pro, cs = a.c.toList ∧ a.Ok := by
  have hi : Tryz.prog.cellsOf 3 = 1 := by kernel_rfl
  have hu : Tryz.prog.cellsOf 26 = 1 := by kernel_rfl
  obtain ⟨xs, n', _, _, _, hxl, hf⟩ := DataW.trod_struct Tryz.underlying37 h
  obtain ⟨q0, e0, f0⟩ := field_int Tryz.underlying3 hi (hf 0 _ rfl) (List.getElem?_eq_getElem (by rw [hxl]; decide))
  obtain ⟨q1, e1, f1⟩ := field_int Tryz.underlying3 hi (hf 1 _ rfl) (List.getElem?_eq_getElem (by rw [hxl]; decide))
  obtain ⟨r, hr, er⟩ := hash_cells (off := 2) (hf 2 _ rfl) (List.getElem?_eq_getElem (by rw [hxl]; decide))
  obtain ⟨q4, e4, f4⟩ := field_int Tryz.underlying26 hu (hf 3 _ rfl) (List.getElem?_eq_getElem (by rw [hxl]; decide))
  obtain ⟨g, hg, rfl⟩ := u64_nat f4
  refine ⟨⟨q0, q1, r, g⟩, ?_, ⟨bounds_i64 f0, bounds_i64 f1, hr, hg⟩⟩
  match cs, hl, e0, e1, er, e4 with
  | a :: b :: r', hl, e0, e1, er, e4 =>
    have e0 : some a = some (Value.int .i64 q0) := e0
    cases e0
    have e1 : some b = some (Value.int .i64 q1) := e1
    cases e1
    have e4 : r'[32]? = some (Value.int .u64 (g : Int)) := e4
    have er : r'.take 32 = B r := er
    have hl : r'.length = 33 := by simpa using hl
    simp only [Pro.c, List.cons.injEq, true_and]
    rw [← er]
    conv => lhs; rw [← List.take_append_drop 32 r']
    congr 1
    rw [List.drop_eq_getElem_cons (by omega), List.drop_of_length_le (by omega)]
    rw [List.getElem?_eq_getElem (by omega)] at e4
    rw [Option.some.inj e4]
end
section
open Go Go.RowKit Go.Own Go.Shelf Go.ChangeShapes Go.WideShapes Go.ChangeAt Go.WideElems
structure DAct where
  (k : Int) (a : Att) (q : Pro) (h : Int)
structure DAct.Ok (x : DAct) : Prop where
  k : i64b x.k
  a : x.a.Ok
  q : x.q.Ok
  h : i64b x.h
def DAct.cl (x : DAct) : List Value := .int .i64 x.k :: (x.a.cl ++ (x.q.cl ++ [.int .i64 x.h]))
def DAct.c (x : DAct) : Array Value := x.cl.toArray
section
variable {x : DAct}
theorem DAct.c_size (h : x.Ok) : x.c.size = 73 := vdC_size (Att.cl_len h.a) (Pro.cl_len h.q)
theorem DAct.cl_len (h : x.Ok) : x.cl.length = 73 := by have := DAct.c_size h; simpa [DAct.c] using this
theorem DAct.c_one : x.c.all (·.oneCell') = true := by
  have h1 := Att.c_one x.a
  have h2 := Pro.c_one x.q
  rw [← Array.all_toList] at h1 h2
  unfold DAct.c DAct.cl
  rw [List.all_toArray, List.all_cons, List.all_append, List.all_append, show x.a.cl.all (·.oneCell') = true from h1, show x.q.cl.all (·.oneCell') = true from h2]; rfl
theorem DAct.c_0 : x.c[0]? = some (.int .i64 x.k) := rfl
theorem DAct.c_h (h : x.Ok) : x.c[72]? = some (.int .i64 x.h) := vdC_first (Att.cl_len h.a) (Pro.cl_len h.q)
theorem DAct.c_a {j : Nat} {u : Value} (h : x.a.cl[j]? = some u) : x.c[1 + j]? = some u := by
  unfold DAct.c DAct.cl
  rw [List.getElem?_toArray, Nat.add_comm, List.getElem?_cons_succ, List.getElem?_append_left (List.getElem?_eq_some_iff.1 h).1]; exact h
theorem DAct.c_q (hx : x.Ok) {j : Nat} {u : Value} (h : x.q.cl[j]? = some u) : x.c[37 + j]? = some u := by
  have hl := Att.cl_len hx.a
  unfold DAct.c DAct.cl
  rw [List.getElem?_toArray, show 37 + j = (36 + j) + 1 by omega, List.getElem?_cons_succ, List.getElem?_append_right (by omega), hl, Nat.add_sub_cancel_left, List.getElem?_append_left (List.getElem?_eq_some_iff.1 h).1]; exact h
end
theorem Att.cl_tag {a : Att} (h : a.r.length = 32) : a.cl[35]? = some (.int .u64 ((a.g : Nat) : Int)) := by have := Att.c_tag a h; simpa [Att.cl] using this
theorem Pro.cl_tag {a : Pro} (h : a.r.length = 32) : a.cl[34]? = some (.int .u64 ((a.g : Nat) : Int)) := by have := Pro.c_tag a h; simpa [Pro.cl] using this
theorem Att.cl_r0 {a : Att} (h : a.r.length = 32) : a.cl[3]? = some (.int .u8 (((a.r.getD 0 0).toNat : Nat) : Int)) := by
  have h0 : (B a.r)[0]? = some (.int .u8 (((a.r.getD 0 0).toNat : Nat) : Int)) := by
    cases hr : a.r with
    | nil => rw [hr] at h; cases h
    | cons b r => rfl
  have := Att.c_seg a 0 _ h0
  simpa [Att.cl] using this
theorem Pro.cl_r0 {a : Pro} (h : a.r.length = 32) : a.cl[2]? = some (.int .u8 (((a.r.getD 0 0).toNat : Nat) : Int)) := by
  have h0 : (B a.r)[0]? = some (.int .u8 (((a.r.getD 0 0).toNat : Nat) : Int)) := by
    cases hr : a.r with
    | nil => rw [hr] at h; cases h
    | cons b r => rfl
  have := Pro.c_seg a 0 _ h0
  simpa [Pro.cl] using this
theorem dact_cells {H : Type} {enc : TypeId × Value → H} {W : World} {sp : Nat → Bool} {held : Bool} {n : Nat} {cs : List Value} {z : DataW H × List MemPlace} (h : DataW.trod enc Tryz.prog W 0 sp held n 54 cs = some z) (hl : cs.length = 73) : ∃ x : DAct, cs = x.cl ∧ x.Ok := by
  have hi : Tryz.prog.cellsOf 3 = 1 := by kernel_rfl
  have hA : Tryz.prog.cellsOf 28 = 36 := by kernel_rfl
  have hP : Tryz.prog.cellsOf 37 = 35 := by kernel_rfl
  obtain ⟨xs, n', _, _, _, hxl, hf⟩ := DataW.trod_struct Tryz.underlying54 h
  obtain ⟨q0, e0, f0⟩ := field_int Tryz.underlying3 hi (hf 0 _ rfl) (List.getElem?_eq_getElem (by rw [hxl]; decide))
  obtain ⟨q3, e3, f3⟩ := field_int Tryz.underlying3 hi (hf 3 _ rfl) (List.getElem?_eq_getElem (by rw [hxl]; decide))
  have l1 : 1 < xs.length := by rw [hxl]; decide
  have l2 : 2 < xs.length := by rw [hxl]; decide
  have h1 := (hf 1 _ rfl).trans (List.getElem?_eq_getElem l1)
  have h2 := (hf 2 _ rfl).trans (List.getElem?_eq_getElem l2)
  have h1' : DataW.trod enc Tryz.prog W 0 sp held n' 28 ((cs.drop 1).take 36) = some xs[1] := by have hh := h1; change DataW.trod enc Tryz.prog W 0 sp held n' 28 ((cs.drop 1).take (Tryz.prog.cellsOf 28)) = some xs[1] at hh; rw [hA] at hh; exact hh
  have h2' : DataW.trod enc Tryz.prog W 0 sp held n' 37 ((cs.drop 37).take 35) = some xs[2] := by have hh := h2; change DataW.trod enc Tryz.prog W 0 sp held n' 37 ((cs.drop 37).take (Tryz.prog.cellsOf 37)) = some xs[2] at hh; rw [hP] at hh; exact hh
  obtain ⟨a, ha, hao⟩ := att_cells h1' (by rw [List.length_take, List.length_drop, hl]; rfl)
  obtain ⟨q, hq, hqo⟩ := pro_cells h2' (by rw [List.length_take, List.length_drop, hl]; rfl)
  refine ⟨⟨q0, a, q, q3⟩, ?_, ⟨bounds_i64 f0, hao, hqo, bounds_i64 f3⟩⟩
  match cs, hl, e0, e3, ha, hq with
  | c0 :: r', hl, e0, e3, ha, hq =>
    have e0 : some c0 = some (Value.int .i64 q0) := e0
    cases e0
    have ha : r'.take 36 = a.cl := ha
    have hq : (r'.drop 36).take 35 = q.cl := hq
    have hl : r'.length = 72 := by simpa using hl
    have e3 : r'[71]? = some (Value.int .i64 q3) := e3
    have e4 : (r'.drop 36).drop 35 = [Value.int .i64 q3] := by
      rw [List.drop_drop]
      apply List.ext_getElem?
      intro i
      rw [List.getElem?_drop]
      cases i with
      | zero => exact e3
      | succ i => rw [List.getElem?_eq_none (by omega), List.getElem?_eq_none (by simp)]
    simp only [DAct.cl, List.cons.injEq, true_and]
    rw [← ha, ← hq, ← e4, List.take_append_drop, List.take_append_drop]
theorem open_dacts {H : Type} {enc : TypeId × Value → H} {W : World} {sp : Nat → Bool} {held : Bool} {v : Value} {d : DataW H} {ps : List MemPlace} (h : DataW.Trod enc Tryz.prog W 0 sp held 49 v d ps) (hv : ∃ a len cap, v = .slice a len cap) : ∃ l : List DAct, Sl W 73 DAct.cl v l ∧ ∀ x ∈ l, x.Ok := by
  have hC : Tryz.prog.cellsOf 54 = 73 := by kernel_rfl
  obtain ⟨a, len, cap, rfl, hl, hm, hnz, hi⟩ := open_elemsN Tryz.underlying49 (by rw [hC]; omega) h hv
  rw [hC] at hi
  obtain ⟨l, hll, hq⟩ := list_of (fun i (x : DAct) => x.Ok ∧ ∃ b o, a = some ⟨b, o, none⟩ ∧ ∀ (j : Nat) (u : Value), x.cl[j]? = some u → W.cell? ⟨b, o + i * 73 + j, none⟩ = some u) len (fun i hlt => by
    obtain ⟨b, o, cs, n, y, ha, hcl, hcell, ht⟩ := hi i hlt
    obtain ⟨x, rfl, hok⟩ := dact_cells ht hcl
    exact ⟨x, hok, b, o, ha, fun j u hj => (hcell j (by have := (List.getElem?_eq_some_iff.1 hj).1; omega)).trans hj⟩)
  subst hll
  refine ⟨l, ⟨⟨a, cap, rfl, hl, hm, hnz⟩, fun k x hk => ?_⟩, fun x hx => ?_⟩
  · obtain ⟨hok, b, o, rfl, hc⟩ := hq k x hk
    exact ⟨b, o, cap, rfl, World.block_lt_of_cell? W _ (hc 0 _ rfl), hc⟩
  · obtain ⟨k, hk⟩ := List.getElem?_of_mem hx
    exact (hq k x hk).1
end
end Go.Proofs.YthmclmbeflbhhaaGreat
