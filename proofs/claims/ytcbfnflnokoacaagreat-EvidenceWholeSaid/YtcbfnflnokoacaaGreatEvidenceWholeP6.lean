import Derived.Test.YtcbfnflnokoacaaGreatEvidenceWholeP5
namespace Go.Proofs.YtcbfnflnokoacaaGreat
set_option maxRecDepth 100000
set_option maxHeartbeats 4000000
open Go Go.RowKit Go.Own Go.Shelf
theorem _root_.Go.Own.Sl.blockG {α : Type} {w : World} {g : Nat} {T : TypeId} {xs : List α} {c : α → List Value} {s n : Nat} (h : w.heap[g]? = some (.cells (xs.flatMap c).toArray T (0, 0))) (hc : ∀ x ∈ xs, (c x).length = s) (hn : xs.length = n) (hm : n ≤ 1000) : Sl w s c (.slice (some ⟨g, 0, none⟩) n n) xs := by
  subst hn
  exact ⟨⟨_, _, rfl, Nat.le_refl _, by unfold maxLen; omega, fun h => by cases h⟩, fun k x hx => ⟨g, 0, _, rfl, lt_of_block h, fun j u hj => by
    rw [Nat.zero_add]
    exact rc h (by rw [List.getElem?_toArray]; exact flat_get hc k x hx j u hj)⟩⟩
theorem eatt_info0 : (Tryz.prog.info? 26).map (fun i => (i.zero, i.size, i.bytes)) = some (some (.agg msgZ.a.c), 36, 64) := by kernel_rfl
theorem epro_info0 : (Tryz.prog.info? 28).map (fun i => (i.zero, i.size, i.bytes)) = some (some (.agg msgZ.p.c), 35, 56) := by kernel_rfl
theorem sgnd_yes {l : List Sel} {m : Msg} (he : m.evi = 0) (h : ∀ x ∈ m.sls, x ∈ l) : sgnd l m = 0 := by
  have : hasE l m.sls = 0 := if_pos (by rw [List.all_eq_true]; exact fun x hx => decide_eq_true (h x hx))
  rw [sgnd, he, this]; rfl
theorem sgnd_no {l : List Sel} {m : Msg} (he : m.evi = 0) (x : Sel) (hx : x ∈ m.sls) (h : ¬ x ∈ l) : sgnd l m = 15 := by
  have : hasE l m.sls = 15 := if_neg (by rw [List.all_eq_true]; exact fun hh => h (of_decide_eq_true (hh x hx)))
  rw [sgnd, he, this]; rfl
theorem fill_pf (pf : Int) (a b : Att) (ha : a.r.length = 32) (hb : b.r.length = 32) : Instr.fill ((#[(0, 1), (1, 1), (2, 1), (3, 1), (4, 1), (5, 1), (6, 4), (10, 1), (11, 1), (12, 36), (48, 36), (84, 35), (119, 35)] : Array (Nat × Nat))[·]?) msgZ.c [(0, .int .i64 8), (8, .int .i64 pf), (9, .agg (Att.c a)), (10, .agg (Att.c b))] = some (Msg.c (evMs pf a b)) := by
  refine fill_seg (ds := Msg.c (onlyK 8)) rfl rfl (by decide) (by kernel_rfl) ?_
  have h1 := NF.R (onlyK_R 8) (x := .pf) (v := pf)
  refine fill_seg (ds := Msg.c (NF.set (onlyK 8) pf .pf)) rfl rfl (by rw [Msg.c_size (onlyK_R 8)]; decide) (by kernel_rfl) <| fill_seg (ds := Msg.c (putA (NF.set (onlyK 8) pf .pf) a)) rfl (Att.c_size a ha) (by rw [Msg.c_size h1]; decide) (Msg.set_A h1 a ha) ?_
  exact fill_seg (ds := Msg.c (putB (putA (NF.set (onlyK 8) pf .pf) a) b)) rfl (Att.c_size b hb) (by rw [Msg.c_size (putA_R h1 ha)]; decide) (Msg.set_B (putA_R h1 ha) b hb) rfl
def parZ : Par := ⟨0, 0, 0, 0, 0, 0, 0, 0, 0, 0, 0⟩
theorem parZ_ok : parZ.Ok := by constructor <;> exact ⟨by decide, by decide⟩
theorem i64b_2 : i64b 2 := by decide
theorem i64b_4 : i64b 4 := by decide
theorem i64b_10 : i64b 10 := by decide
theorem i64b_far : i64b 4294967296 := by decide
abbrev kA : Att := one 2 3 5
abbrev kB : Att := one 1 3 6
abbrev kW : Att := one 1 4 7
abbrev kX : Pro := blk1 0 8
abbrev kY : Pro := blk1 1 9
def kO : Att := ⟨2, 1, 3, zhash, 6⟩
theorem kO_Ok : kO.Ok := ⟨i64b_2, i64b_1, i64b_3, rfl, by decide⟩
theorem kX_Ok : kX.Ok := blk1_Ok 0 (by decide)
theorem kY_Ok : kY.Ok := blk1_Ok 1 (by decide)
def exL : List Sel := [kA.sel, kB.sel, kW.sel, kX.sel, kY.sel]
theorem fine_one {s t : Int} {g : Nat} (h : 0 ≤ s ∧ s ≤ 4294967296 ∧ 0 ≤ t ∧ t ≤ 4294967296) : (one s t g).fine := ⟨by show (0 : Int) ≤ 1; decide, by show (1 : Int) ≤ 31; decide, h.1, h.2.1, h.2.2.1, h.2.2.2⟩
theorem fine_blk (r : UInt8) (g : Nat) : (blk1 r g).fine := ⟨by show (0 : Int) ≤ 1; decide, by show (1 : Int) ≤ 31; decide, by show (1 : Int) ≤ 300; decide, by show (300 : Int) ≤ 4294967296; decide⟩
theorem exL_eq : selA [kA, kB, kW] ++ selP [kX, kY] = exL := by
  unfold selA selP
  rw [List.filter_eq_self.2 (fun x hx => by
      simp only [List.mem_cons, List.not_mem_nil, or_false] at hx
      rcases hx with rfl | rfl | rfl <;> exact decide_eq_true (fine_one (by decide))), List.filter_eq_self.2 (fun x hx => by
      simp only [List.mem_cons, List.not_mem_nil, or_false] at hx
      rcases hx with rfl | rfl <;> exact decide_eq_true (fine_blk _ _))]
  rfl
theorem exL_r : ∀ y ∈ exL, y.r.length = 32 := fun y hy => by
  simp only [exL, List.mem_cons, List.not_mem_nil, or_false] at hy
  rcases hy with rfl | rfl | rfl | rfl | rfl
  · exact kA.sel_r
  · exact kB.sel_r
  · exact kW.sel_r
  · exact kX.sel_r
  · exact kY.sel_r
theorem exD_sls : exD.sls = [kA.sel, kB.sel] := if_neg (show ¬ (1 : Int) = 3 by decide)
theorem exD_sg0 : sgnd exL exD = 0 := sgnd_yes exD_evi (by
  rw [exD_sls]; intro x hx
  simp only [List.mem_cons, List.not_mem_nil, or_false] at hx
  rcases hx with rfl | rfl
  · exact List.mem_cons_self
  · exact List.mem_cons_of_mem _ List.mem_cons_self)
theorem exD_sg1 : sgnd (exL.drop 1) exD = 15 := sgnd_no exD_evi kA.sel (by rw [exD_sls]; exact List.mem_cons_self) fun h => by
  have h5 : kA.sel.g = 5 := by rw [Att.sel_ok (fine_one (by decide))]; rfl
  have hb : kB.sel.g = 6 := by rw [Att.sel_ok (fine_one (by decide))]; rfl
  have hw : kW.sel.g = 7 := by rw [Att.sel_ok (fine_one (by decide))]; rfl
  have hx : kX.sel.g = 8 := by rw [Pro.sel_ok (fine_blk _ _)]; rfl
  have hy : kY.sel.g = 9 := by rw [Pro.sel_ok (fine_blk _ _)]; rfl
  simp only [exL, List.drop_succ_cons, List.drop_zero, List.mem_cons, List.not_mem_nil, or_false] at h
  rcases h with e | e | e | e
  · rw [e, hb] at h5; omega
  · rw [e, hw] at h5; omega
  · rw [e, hx] at h5; omega
  · rw [e, hy] at h5; omega
theorem jud_yes {p : Par} {l : List Sel} {n : Int} {m : Msg} {o : Off} (h : offe p m = (o, 0)) (hn : ¬ n ≤ o.v) (hs : sgnd l m = 0) : jud p l n m = (o, 0) := by rw [jud, h]; rw [if_pos rfl, if_neg hn, if_pos hs]
theorem jud_unk {p : Par} {l : List Sel} {n : Int} {m : Msg} {o : Off} (h : offe p m = (o, 0)) (hn : n ≤ o.v) : jud p l n m = (offZ, 10) := by rw [jud, h]; rw [if_pos rfl, if_pos hn]
theorem jud_tag {p : Par} {l : List Sel} {n : Int} {m : Msg} {o : Off} {x : Int} (h : offe p m = (o, 0)) (hn : ¬ n ≤ o.v) (hs : sgnd l m = x) (hx : ¬ x = 0) : jud p l n m = (offZ, x) := by rw [jud, h]; rw [if_pos rfl, if_neg hn, hs, if_neg hx]
theorem eJudge_is {p : Par} {l : List Sel} {n : Int} {m : Msg} {o : Off} {x : Int} {v : Value} (w : World) (hp : p.Ok) (ho : m.Ok) (hl : SelsAt w v l) (hlr : ∀ y ∈ l, y.r.length = 32) (h : jud p l n m = (o, x)) : Calls Tryz.prog 20 #[.agg p.cells, v, .int .i64 n, .agg (Msg.c m)] w fun e w' => e = .returned (.tuple #[.agg o.cs, .int .i64 x]) ∧ Keeps Nob w w' := by
  obtain ⟨A, cap, rfl, _⟩ := hl.form
  have := eJudge_ok p n A cap l m w hp ho hl hlr; rw [h] at this; exact this
theorem eSigned_is {l : List Sel} {m : Msg} {x : Int} {v : Value} (w : World) (ho : m.Ok) (hl : SelsAt w v l) (hlr : ∀ y ∈ l, y.r.length = 32) (h : sgnd l m = x) : Calls Tryz.prog 22 #[v, .agg (Msg.c m)] w fun e w' => e = .returned (.int .i64 x) ∧ Keeps Nob w w' := by
  subst h
  obtain ⟨A, cap, rfl, _⟩ := hl.form
  exact eSigned_ok A cap l m w ho hl hlr
theorem eProveBlock_is {a b : Pro} {m : Msg} {r : Bool} (w : World) (ha : a.Ok) (hb : b.Ok) (h : provesP a b = (m, r)) : Calls Tryz.prog 14 #[.agg (Pro.c a), .agg (Pro.c b)] w fun e w' => e = .returned (.tuple #[.agg (Msg.c m), .bool r]) ∧ Keeps Nob w w' := by
  have := eProveBlock_ok a b w ha hb; rw [h] at this; exact this
-- two blocks
theorem digX : kX.dig = Kec.sum [2, 1, 172, 2, 0, 0, 0, 0, 0, 0, 0, 0, 0, 0, 0, 0, 0, 0, 0, 0, 0, 0, 0, 0, 0, 0, 0, 0, 0, 0, 0, 0, 0, 0, 0, 0] := congrArg Kec.sum (show kX.bare = _ by kernel_rfl)
theorem digY : kY.dig = Kec.sum [2, 1, 172, 2, 1, 0, 0, 0, 0, 0, 0, 0, 0, 0, 0, 0, 0, 0, 0, 0, 0, 0, 0, 0, 0, 0, 0, 0, 0, 0, 0, 0, 0, 0, 0, 0] := congrArg Kec.sum (show kY.bare = _ by kernel_rfl)
theorem digsXY : ¬ kX.dig = kY.dig := by rw [digX, digY, Kec.block_0, Kec.block_1]; decide
theorem doubP_xy : doubP kX kY = true := decide_eq_true ⟨fine_blk _ _, fine_blk _ _, rfl, rfl, digsXY⟩
def exS : Msg := evP kX kY
theorem exS_Ok : exS.Ok := evP_Ok kX_Ok kY_Ok
theorem provesP_xy : provesP kX kY = (exS, true) := by rw [provesP, doubP_xy]; rfl
theorem provesP_xx : provesP kX kX = (msgZ, false) := by rw [provesP, show doubP kX kX = false from decide_eq_false fun h => h.2.2.2.2 rfl]; rfl
theorem proves_ac : proves kA (one 2 3 9) = (msgZ, false) := by
  rw [proves, show doub kA (one 2 3 9) = false from decide_eq_false fun h => h.2.2.2.2 rfl, show surr kA (one 2 3 9) = false by decide, show surr (one 2 3 9) kA = false by decide]; rfl
theorem proves_ao : proves kA kO = (msgZ, false) := by
  rw [proves, show doub kA kO = false from decide_eq_false fun h => absurd h.2.2.1 (by decide), show surr kA kO = false by decide, show surr kO kA = false by decide]; rfl
theorem c_Ok : (one 2 3 9).Ok := one_Ok i64b_2 i64b_3 (by decide)
theorem exS_cla : exS.cla = true := by show (if (3 : Int) = 1 then _ else if (3 : Int) = 2 then _ else doubP kX kY) = true; rw [if_neg (by decide), if_neg (by decide)]; exact doubP_xy
theorem exS_chk : exS.chk = 0 := by kernel_rfl
theorem exS_evi : exS.evi = 0 := by rw [Msg.evi, exS_chk]; rfl
theorem exS_off : offe chPar exS = (⟨1, 2, 300⟩, 0) := by
  rw [offe, if_pos (offE_of (by rw [chP_check]) exS_evi exS_cla), show hgt chPar exS = (300, 0) by decide +kernel]; rfl
-- the wrong way round
def exN : Msg := evMs 2 kB kA
theorem exN_Ok : exN.Ok := evMs_Ok i64b_2 b_Ok a_Ok
theorem exN_chk : exN.chk = 0 := by kernel_rfl
theorem exN_cla : exN.cla = false := by show (if (2 : Int) = 1 then _ else if (2 : Int) = 2 then surr kB kA else _) = false; rw [if_neg (by decide), if_pos rfl]; decide
theorem exN_off : offe chPar exN = (offZ, 18) := by
  have h : offE chPar exN = 18 := by rw [offE, chP_check, Msg.evi, exN_chk, exN_cla]; rfl
  rw [offe, h]; rfl
theorem off_evi {p : Par} {m : Msg} {x : Int} (hp : p.check.1 = 0) (h : m.evi = x) (hx : ¬ x = 0) : offe p m = (offZ, x) := by
  have h1 : offE p m = x := by rw [offE, hp, h]; simp [firstE, hx]
  rw [offe, h1, if_neg hx]
theorem exC_Ok : (onlyK 10).Ok := ⟨i64b_10, i64b_0, i64b_0, i64b_0, u64_0, u64_0, i64b_0, i64b_0, i64b_0, i64b_0, i64b_0, i64b_0, attZ_ok, attZ_ok, proZ_ok, proZ_ok⟩
theorem exC_chk : (onlyK 10).chk = 0 := by kernel_rfl
theorem exC_off : offe chPar (onlyK 10) = (offZ, 5) := off_evi (by rw [chP_check]) (by rw [Msg.evi, exC_chk]; rfl) (by decide)
theorem exO_Ok : (NF.set exD 4 .pf).Ok := show (evMs 4 kA kB).Ok from evMs_Ok i64b_4 a_Ok b_Ok
theorem exO_chk : (NF.set exD 4 .pf).chk = 5 := by kernel_rfl
theorem exO_off : offe chPar (NF.set exD 4 .pf) = (offZ, 5) := off_evi (by rw [chP_check]) (by rw [Msg.evi, exO_chk]; rfl) (by decide)
theorem parZ_check : parZ.check.1 = 3 := by decide +kernel
theorem exD_offZ : offe parZ exD = (offZ, 3) := by
  have h : offE parZ exD = 3 := by rw [offE, parZ_check]; rfl
  rw [offe, h]; rfl
-- far ahead
abbrev kF : Att := one 1 4294967296 0
abbrev kG : Att := one 0 4294967296 0
theorem digF : kF.dig = Kec.sum [1, 1, 1, 128, 128, 128, 128, 16, 0, 0, 0, 0, 0, 0, 0, 0, 0, 0, 0, 0, 0, 0, 0, 0, 0, 0, 0, 0, 0, 0, 0, 0, 0, 0, 0, 0, 0, 0, 0, 0] := congrArg Kec.sum (show kF.bare = _ by kernel_rfl)
theorem digG : kG.dig = Kec.sum [1, 1, 0, 128, 128, 128, 128, 16, 0, 0, 0, 0, 0, 0, 0, 0, 0, 0, 0, 0, 0, 0, 0, 0, 0, 0, 0, 0, 0, 0, 0, 0, 0, 0, 0, 0, 0, 0, 0, 0] := congrArg Kec.sum (show kG.bare = _ by kernel_rfl)
theorem digsFG : ¬ kF.dig = kG.dig := by rw [digF, digG, Kec.vote_far1, Kec.vote_far0]; decide
theorem doub_fg : doub kF kG = true := decide_eq_true ⟨fine_one (by decide), fine_one (by decide), rfl, rfl, digsFG⟩
def exF : Msg := evMs 1 kF kG
theorem kF_Ok : kF.Ok := one_Ok i64b_1 i64b_far (by decide)
theorem kG_Ok : kG.Ok := one_Ok i64b_0 i64b_far (by decide)
theorem exF_Ok : exF.Ok := evMs_Ok i64b_1 kF_Ok kG_Ok
theorem proves_fg : proves kF kG = (exF, true) := by rw [proves, doub_fg]; rfl
theorem exF_chk : exF.chk = 0 := by kernel_rfl
theorem exF_cla : exF.cla = true := by show (if (1 : Int) = 1 then doub kF kG else _) = true; rw [if_pos rfl, doub_fg]
theorem exF_off : offe chPar exF = (offZ, 3) := by
  rw [offe, if_pos (offE_of (by rw [chP_check]) (by rw [Msg.evi, exF_chk]; rfl) exF_cla), show (hgt chPar exF).2 = 3 by decide +kernel]; rfl
theorem exD_jud : jud chPar exL 2 exD = (⟨1, 1, 31⟩, 0) := jud_yes exD_off (by decide) exD_sg0
theorem exD_jud1 : jud chPar exL 1 exD = (offZ, 10) := jud_unk exD_off (by decide)
theorem exD_jud2 : jud chPar (exL.drop 1) 2 exD = (offZ, 15) := jud_tag exD_off (by decide) exD_sg1 (by decide)
theorem exL_rd : ∀ y ∈ exL.drop 1, y.r.length = 32 := fun y hy => exL_r y (List.drop_subset _ _ hy)
theorem kAs_Ok : ∀ x ∈ [kA, kB, kW], x.Ok := fun x hx => by
  simp only [List.mem_cons, List.not_mem_nil, or_false] at hx
  rcases hx with rfl | rfl | rfl
  · exact a_Ok
  · exact b_Ok
  · exact w_Ok
theorem kPs_Ok : ∀ x ∈ [kX, kY], x.Ok := fun x hx => by
  simp only [List.mem_cons, List.not_mem_nil, or_false] at hx
  rcases hx with rfl | rfl
  · exact kX_Ok
  · exact kY_Ok
theorem kAs_len : ∀ x ∈ [kA, kB, kW], x.cl.length = 36 := fun x hx => Att.cl_len (kAs_Ok x hx)
theorem kPs_len : ∀ x ∈ [kX, kY], x.cl.length = 35 := fun x hx => Pro.cl_len (kPs_Ok x hx)
noncomputable def qc83_0 (n : Nat) : Code := partOf Tryz.f5 n
theorem evidenceKnown_ok (w : World) :
    Calls Tryz.prog 5 #[] w (fun e w' => e = .returned (.bool true) ∧ Keeps Nob w w') := by
  obtain ⟨i0, hi0, hz0, hz1, _⟩ := info_parts eatt_info0
  obtain ⟨i1, hi1, hw0, hw1, _⟩ := info_parts epro_info0
  have hel : exL.length = 5 := rfl
  have K0 : Keeps Nob w w := Keeps.refl _ _
  refine sy_enter (qc83_0 1) ⟨#[ud, ud, ud, ud, ud, ud, ud, ud, ud, ud, ud, ud, ud, ud, ud, ud, ud, ud, ud, ud, ud, ud, ud, ud, ud, ud, ud, ud, ud, ud, ud, ud, ud, ud, ud, ud, ud, ud, ud, ud, ud, ud, ud, ud, ud, ud, ud, ud, ud, ud, ud, ud, ud, ud, ud, ud, ud, ud, ud, ud, ud, ud, ud, ud, ud, ud, ud, ud, ud, ud, ud, ud, ud, ud, ud, ud, ud, ud, ud, ud, ud, ud, ud, ud, ud, ud, ud, ud, ud, ud, ud, ud, ud, ud, ud, ud, ud, ud, ud, ud, ud, ud, ud, ud, ud, ud, ud, ud, ud, ud, ud, ud, ud, ud, ud, ud, ud, ud, ud, ud, ud, ud, ud, ud, ud, ud, ud, ud, ud, ud, ud, ud, ud, ud, ud, ud, ud, ud, ud, ud, ud, ud, ud, ud, ud, ud, ud, ud, ud, ud, ud, ud, ud, ud, ud, ud, ud, ud, ud, ud, ud, ud, ud, ud, ud, ud, ud, ud, ud, ud, ud, ud, ud, ud, ud, ud, ud, ud, ud, ud, ud, ud, ud, ud, ud, ud, ud, ud, ud, ud, ud], []⟩ Tryz.func5 (by kernel_rfl) (by kernel_rfl) <| sy_sq (qc83_0 2) (qc83_0 3) <| sy_reg <| rg_q 0 [0] <| pkq (.bool false) <| ps_end <| then_n <| sy_sq (qc83_0 6) (qc83_0 7) <| sy_reg <| rg_q 1 [0, 1, 2, 3, 4, 5, 6, 7, 8, 9, 10, 11, 12, 13, 14] ?_
  refine pcq 25 #[.int .i64 2, .int .i64 3, .int .u64 5] Tryz.func25 ((leone_ok 2 3 5 _).mono ?_)
  rintro e V1 ⟨rfl, kV1⟩
  refine ⟨_, rfl, ?_⟩
  have K2 := K0.nn kV1
  have z3 := kV1.size
  refine pcq 25 #[.int .i64 1, .int .i64 3, .int .u64 6] Tryz.func25 ((leone_ok 1 3 6 _).mono ?_)
  rintro e V4 ⟨rfl, kV4⟩
  refine ⟨_, rfl, ?_⟩
  have K5 := K2.nn kV4
  have z6 := kV4.size
  refine pcq 25 #[.int .i64 1, .int .i64 4, .int .u64 7] Tryz.func25 ((leone_ok 1 4 7 _).mono ?_)
  rintro e V7 ⟨rfl, kV7⟩
  refine ⟨_, rfl, ?_⟩
  have K8 := K5.nn kV7
  have z9 := kV7.size
  refine pcq 26 #[.int .u8 0, .int .u64 8] Tryz.func26 ((leblock_ok 0 8 _).mono ?_)
  rintro e V10 ⟨rfl, kV10⟩
  refine ⟨_, rfl, ?_⟩
  have K11 := K8.nn kV10
  have z12 := kV10.size
  refine pcq 26 #[.int .u8 1, .int .u64 9] Tryz.func26 ((leblock_ok 1 9 _).mono ?_)
  rintro e V13 ⟨rfl, kV13⟩
  refine ⟨_, rfl, ?_⟩
  have K14 := K11.nn kV13
  have z15 := kV13.size
  obtain ⟨V16, eV16, ga, ega, h17, kV16⟩ := alloc_step V13 (#[.int .i64 0, .int .i64 0, .int .i64 0, .int .u8 0, .int .u8 0, .int .u8 0, .int .u8 0, .int .u8 0, .int .u8 0, .int .u8 0, .int .u8 0, .int .u8 0, .int .u8 0, .int .u8 0, .int .u8 0, .int .u8 0, .int .u8 0, .int .u8 0, .int .u8 0, .int .u8 0, .int .u8 0, .int .u8 0, .int .u8 0, .int .u8 0, .int .u8 0, .int .u8 0, .int .u8 0, .int .u8 0, .int .u8 0, .int .u8 0, .int .u8 0, .int .u8 0, .int .u8 0, .int .u8 0, .int .u8 0, .int .u64 0]) 26
  have n18 : w.heap.size ≤ ga := ega ▸ K14.size
  refine prq (pT ga 0) (w' := V16) (by rw [← eV16, ← ega]; exact exec_alloc0 26 (by kernel_rfl) (.agg (#[.int .i64 0, .int .i64 0, .int .i64 0, .int .u8 0, .int .u8 0, .int .u8 0, .int .u8 0, .int .u8 0, .int .u8 0, .int .u8 0, .int .u8 0, .int .u8 0, .int .u8 0, .int .u8 0, .int .u8 0, .int .u8 0, .int .u8 0, .int .u8 0, .int .u8 0, .int .u8 0, .int .u8 0, .int .u8 0, .int .u8 0, .int .u8 0, .int .u8 0, .int .u8 0, .int .u8 0, .int .u8 0, .int .u8 0, .int .u8 0, .int .u8 0, .int .u8 0, .int .u8 0, .int .u8 0, .int .u8 0, .int .u64 0])) (by kernel_rfl)) ?_
  clear eV16
  have K19 := K14.nn kV16
  have z20 := kV16.size
  obtain ⟨V21, eV21, gb, egb, h22, kV21⟩ := alloc_step V16 (#[.int .i64 0, .int .i64 0, .int .i64 0, .int .u8 0, .int .u8 0, .int .u8 0, .int .u8 0, .int .u8 0, .int .u8 0, .int .u8 0, .int .u8 0, .int .u8 0, .int .u8 0, .int .u8 0, .int .u8 0, .int .u8 0, .int .u8 0, .int .u8 0, .int .u8 0, .int .u8 0, .int .u8 0, .int .u8 0, .int .u8 0, .int .u8 0, .int .u8 0, .int .u8 0, .int .u8 0, .int .u8 0, .int .u8 0, .int .u8 0, .int .u8 0, .int .u8 0, .int .u8 0, .int .u8 0, .int .u8 0, .int .u64 0]) 26
  have n23 : ga < gb := egb ▸ lt_of_block h17
  have n24 : w.heap.size ≤ gb := egb ▸ K19.size
  refine prq (pT gb 0) (w' := V21) (by rw [← eV21, ← egb]; exact exec_alloc0 26 (by kernel_rfl) (.agg (#[.int .i64 0, .int .i64 0, .int .i64 0, .int .u8 0, .int .u8 0, .int .u8 0, .int .u8 0, .int .u8 0, .int .u8 0, .int .u8 0, .int .u8 0, .int .u8 0, .int .u8 0, .int .u8 0, .int .u8 0, .int .u8 0, .int .u8 0, .int .u8 0, .int .u8 0, .int .u8 0, .int .u8 0, .int .u8 0, .int .u8 0, .int .u8 0, .int .u8 0, .int .u8 0, .int .u8 0, .int .u8 0, .int .u8 0, .int .u8 0, .int .u8 0, .int .u8 0, .int .u8 0, .int .u8 0, .int .u8 0, .int .u64 0])) (by kernel_rfl)) ?_
  clear eV21
  have h25 := kV21.bk h17
  have K26 := K19.nn kV21
  have z27 := kV21.size
  obtain ⟨V28, eV28, gw, egw, h29, kV28⟩ := alloc_step V21 (#[.int .i64 0, .int .i64 0, .int .i64 0, .int .u8 0, .int .u8 0, .int .u8 0, .int .u8 0, .int .u8 0, .int .u8 0, .int .u8 0, .int .u8 0, .int .u8 0, .int .u8 0, .int .u8 0, .int .u8 0, .int .u8 0, .int .u8 0, .int .u8 0, .int .u8 0, .int .u8 0, .int .u8 0, .int .u8 0, .int .u8 0, .int .u8 0, .int .u8 0, .int .u8 0, .int .u8 0, .int .u8 0, .int .u8 0, .int .u8 0, .int .u8 0, .int .u8 0, .int .u8 0, .int .u8 0, .int .u8 0, .int .u64 0]) 26
  have n30 : ga < gw := egw ▸ lt_of_block h25
  have n31 : gb < gw := egw ▸ lt_of_block h22
  have n32 : w.heap.size ≤ gw := egw ▸ K26.size
  refine prq (pT gw 0) (w' := V28) (by rw [← eV28, ← egw]; exact exec_alloc0 26 (by kernel_rfl) (.agg (#[.int .i64 0, .int .i64 0, .int .i64 0, .int .u8 0, .int .u8 0, .int .u8 0, .int .u8 0, .int .u8 0, .int .u8 0, .int .u8 0, .int .u8 0, .int .u8 0, .int .u8 0, .int .u8 0, .int .u8 0, .int .u8 0, .int .u8 0, .int .u8 0, .int .u8 0, .int .u8 0, .int .u8 0, .int .u8 0, .int .u8 0, .int .u8 0, .int .u8 0, .int .u8 0, .int .u8 0, .int .u8 0, .int .u8 0, .int .u8 0, .int .u8 0, .int .u8 0, .int .u8 0, .int .u8 0, .int .u8 0, .int .u64 0])) (by kernel_rfl)) ?_
  clear eV28
  have h33 := kV28.bk h25
  have h34 := kV28.bk h22
  have K35 := K26.nn kV28
  have z36 := kV28.size
  obtain ⟨V37, eV37, gx, egx, h38, kV37⟩ := alloc_step V28 (#[.int .i64 0, .int .i64 0, .int .u8 0, .int .u8 0, .int .u8 0, .int .u8 0, .int .u8 0, .int .u8 0, .int .u8 0, .int .u8 0, .int .u8 0, .int .u8 0, .int .u8 0, .int .u8 0, .int .u8 0, .int .u8 0, .int .u8 0, .int .u8 0, .int .u8 0, .int .u8 0, .int .u8 0, .int .u8 0, .int .u8 0, .int .u8 0, .int .u8 0, .int .u8 0, .int .u8 0, .int .u8 0, .int .u8 0, .int .u8 0, .int .u8 0, .int .u8 0, .int .u8 0, .int .u8 0, .int .u64 0]) 28
  have n39 : ga < gx := egx ▸ lt_of_block h33
  have n40 : gb < gx := egx ▸ lt_of_block h34
  have n41 : gw < gx := egx ▸ lt_of_block h29
  have n42 : w.heap.size ≤ gx := egx ▸ K35.size
  refine prq (pT gx 0) (w' := V37) (by rw [← eV37, ← egx]; exact exec_alloc0 28 (by kernel_rfl) (.agg (#[.int .i64 0, .int .i64 0, .int .u8 0, .int .u8 0, .int .u8 0, .int .u8 0, .int .u8 0, .int .u8 0, .int .u8 0, .int .u8 0, .int .u8 0, .int .u8 0, .int .u8 0, .int .u8 0, .int .u8 0, .int .u8 0, .int .u8 0, .int .u8 0, .int .u8 0, .int .u8 0, .int .u8 0, .int .u8 0, .int .u8 0, .int .u8 0, .int .u8 0, .int .u8 0, .int .u8 0, .int .u8 0, .int .u8 0, .int .u8 0, .int .u8 0, .int .u8 0, .int .u8 0, .int .u8 0, .int .u64 0])) (by kernel_rfl)) ?_
  clear eV37
  have h43 := kV37.bk h33
  have h44 := kV37.bk h34
  have h45 := kV37.bk h29
  have K46 := K35.nn kV37
  have z47 := kV37.size
  obtain ⟨V48, eV48, gy, egy, h49, kV48⟩ := alloc_step V37 (#[.int .i64 0, .int .i64 0, .int .u8 0, .int .u8 0, .int .u8 0, .int .u8 0, .int .u8 0, .int .u8 0, .int .u8 0, .int .u8 0, .int .u8 0, .int .u8 0, .int .u8 0, .int .u8 0, .int .u8 0, .int .u8 0, .int .u8 0, .int .u8 0, .int .u8 0, .int .u8 0, .int .u8 0, .int .u8 0, .int .u8 0, .int .u8 0, .int .u8 0, .int .u8 0, .int .u8 0, .int .u8 0, .int .u8 0, .int .u8 0, .int .u8 0, .int .u8 0, .int .u8 0, .int .u8 0, .int .u64 0]) 28
  have n50 : ga < gy := egy ▸ lt_of_block h43
  have n51 : gb < gy := egy ▸ lt_of_block h44
  have n52 : gw < gy := egy ▸ lt_of_block h45
  have n53 : gx < gy := egy ▸ lt_of_block h38
  have n54 : w.heap.size ≤ gy := egy ▸ K46.size
  refine prq (pT gy 0) (w' := V48) (by rw [← eV48, ← egy]; exact exec_alloc0 28 (by kernel_rfl) (.agg (#[.int .i64 0, .int .i64 0, .int .u8 0, .int .u8 0, .int .u8 0, .int .u8 0, .int .u8 0, .int .u8 0, .int .u8 0, .int .u8 0, .int .u8 0, .int .u8 0, .int .u8 0, .int .u8 0, .int .u8 0, .int .u8 0, .int .u8 0, .int .u8 0, .int .u8 0, .int .u8 0, .int .u8 0, .int .u8 0, .int .u8 0, .int .u8 0, .int .u8 0, .int .u8 0, .int .u8 0, .int .u8 0, .int .u8 0, .int .u8 0, .int .u8 0, .int .u8 0, .int .u8 0, .int .u8 0, .int .u64 0])) (by kernel_rfl)) ?_
  clear eV48
  have h55 := kV48.bk h43
  have h56 := kV48.bk h44
  have h57 := kV48.bk h45
  have h58 := kV48.bk h38
  have K59 := K46.nn kV48
  have z60 := kV48.size
  obtain ⟨V61, eV61, kV61⟩ := rowset_step V48 ga ((Att.c (one 2 3 5)))
  have h62 : V61.heap[ga]? = some (.cells (Att.c kA) 26 (0, 0)) := eV61 ▸ setRow_heap _ _ _ _ _ _ h55
  refine pzq (w' := V61) (by rw [← eV61]; exact exec_store_row 26 (.tmp 1) (.tmp 30) (by kernel_rfl) ga ((Att.c (one 2 3 5))) (by kernel_rfl) (by kernel_rfl) 26 (#[.int .i64 0, .int .i64 0, .int .i64 0, .int .u8 0, .int .u8 0, .int .u8 0, .int .u8 0, .int .u8 0, .int .u8 0, .int .u8 0, .int .u8 0, .int .u8 0, .int .u8 0, .int .u8 0, .int .u8 0, .int .u8 0, .int .u8 0, .int .u8 0, .int .u8 0, .int .u8 0, .int .u8 0, .int .u8 0, .int .u8 0, .int .u8 0, .int .u8 0, .int .u8 0, .int .u8 0, .int .u8 0, .int .u8 0, .int .u8 0, .int .u8 0, .int .u8 0, .int .u8 0, .int .u8 0, .int .u8 0, .int .u64 0]) h55 (by kernel_rfl) (by kernel_rfl) (Att.c_one _)) ?_
  clear eV61
  have h63 := kV61.bo h56 (by omega)
  have h64 := kV61.bo h57 (by omega)
  have h65 := kV61.bo h58 (by omega)
  have h66 := kV61.bo h49 (by omega)
  have K67 := K59.no kV61 (by omega)
  have z68 := kV61.size
  obtain ⟨V69, eV69, kV69⟩ := rowset_step V61 gb ((Att.c (one 1 3 6)))
  have h70 : V69.heap[gb]? = some (.cells (Att.c kB) 26 (0, 0)) := eV69 ▸ setRow_heap _ _ _ _ _ _ h63
  refine pzq (w' := V69) (by rw [← eV69]; exact exec_store_row 26 (.tmp 2) (.tmp 31) (by kernel_rfl) gb ((Att.c (one 1 3 6))) (by kernel_rfl) (by kernel_rfl) 26 (#[.int .i64 0, .int .i64 0, .int .i64 0, .int .u8 0, .int .u8 0, .int .u8 0, .int .u8 0, .int .u8 0, .int .u8 0, .int .u8 0, .int .u8 0, .int .u8 0, .int .u8 0, .int .u8 0, .int .u8 0, .int .u8 0, .int .u8 0, .int .u8 0, .int .u8 0, .int .u8 0, .int .u8 0, .int .u8 0, .int .u8 0, .int .u8 0, .int .u8 0, .int .u8 0, .int .u8 0, .int .u8 0, .int .u8 0, .int .u8 0, .int .u8 0, .int .u8 0, .int .u8 0, .int .u8 0, .int .u8 0, .int .u64 0]) h63 (by kernel_rfl) (by kernel_rfl) (Att.c_one _)) ?_
  clear eV69
  have h71 := kV69.bo h64 (by omega)
  have h72 := kV69.bo h65 (by omega)
  have h73 := kV69.bo h66 (by omega)
  have h74 := kV69.bo h62 (by omega)
  have K75 := K67.no kV69 (by omega)
  have z76 := kV69.size
  obtain ⟨V77, eV77, kV77⟩ := rowset_step V69 gw ((Att.c (one 1 4 7)))
  have h78 : V77.heap[gw]? = some (.cells (Att.c kW) 26 (0, 0)) := eV77 ▸ setRow_heap _ _ _ _ _ _ h71
  refine pzq (w' := V77) (by rw [← eV77]; exact exec_store_row 26 (.tmp 3) (.tmp 32) (by kernel_rfl) gw ((Att.c (one 1 4 7))) (by kernel_rfl) (by kernel_rfl) 26 (#[.int .i64 0, .int .i64 0, .int .i64 0, .int .u8 0, .int .u8 0, .int .u8 0, .int .u8 0, .int .u8 0, .int .u8 0, .int .u8 0, .int .u8 0, .int .u8 0, .int .u8 0, .int .u8 0, .int .u8 0, .int .u8 0, .int .u8 0, .int .u8 0, .int .u8 0, .int .u8 0, .int .u8 0, .int .u8 0, .int .u8 0, .int .u8 0, .int .u8 0, .int .u8 0, .int .u8 0, .int .u8 0, .int .u8 0, .int .u8 0, .int .u8 0, .int .u8 0, .int .u8 0, .int .u8 0, .int .u8 0, .int .u64 0]) h71 (by kernel_rfl) (by kernel_rfl) (Att.c_one _)) ?_
  clear eV77
  have h79 := kV77.bo h72 (by omega)
  have h80 := kV77.bo h73 (by omega)
  have h81 := kV77.bo h74 (by omega)
  have h82 := kV77.bo h70 (by omega)
  have K83 := K75.no kV77 (by omega)
  have z84 := kV77.size
  obtain ⟨V85, eV85, kV85⟩ := rowset_step V77 gx ((Pro.c (blk1 0 8)))
  have h86 : V85.heap[gx]? = some (.cells (Pro.c kX) 28 (0, 0)) := eV85 ▸ setRow_heap _ _ _ _ _ _ h79
  refine pzq (w' := V85) (by rw [← eV85]; exact exec_store_row 28 (.tmp 4) (.tmp 33) (by kernel_rfl) gx ((Pro.c (blk1 0 8))) (by kernel_rfl) (by kernel_rfl) 28 (#[.int .i64 0, .int .i64 0, .int .u8 0, .int .u8 0, .int .u8 0, .int .u8 0, .int .u8 0, .int .u8 0, .int .u8 0, .int .u8 0, .int .u8 0, .int .u8 0, .int .u8 0, .int .u8 0, .int .u8 0, .int .u8 0, .int .u8 0, .int .u8 0, .int .u8 0, .int .u8 0, .int .u8 0, .int .u8 0, .int .u8 0, .int .u8 0, .int .u8 0, .int .u8 0, .int .u8 0, .int .u8 0, .int .u8 0, .int .u8 0, .int .u8 0, .int .u8 0, .int .u8 0, .int .u8 0, .int .u64 0]) h79 (by kernel_rfl) (by kernel_rfl) (Pro.c_one _)) ?_
  clear eV85
  have h87 := kV85.bo h80 (by omega)
  have h88 := kV85.bo h81 (by omega)
  have h89 := kV85.bo h82 (by omega)
  have h90 := kV85.bo h78 (by omega)
  have K91 := K83.no kV85 (by omega)
  have z92 := kV85.size
  obtain ⟨V93, eV93, kV93⟩ := rowset_step V85 gy ((Pro.c (blk1 1 9)))
  have h94 : V93.heap[gy]? = some (.cells (Pro.c kY) 28 (0, 0)) := eV93 ▸ setRow_heap _ _ _ _ _ _ h87
  refine pzq (w' := V93) (by rw [← eV93]; exact exec_store_row 28 (.tmp 5) (.tmp 34) (by kernel_rfl) gy ((Pro.c (blk1 1 9))) (by kernel_rfl) (by kernel_rfl) 28 (#[.int .i64 0, .int .i64 0, .int .u8 0, .int .u8 0, .int .u8 0, .int .u8 0, .int .u8 0, .int .u8 0, .int .u8 0, .int .u8 0, .int .u8 0, .int .u8 0, .int .u8 0, .int .u8 0, .int .u8 0, .int .u8 0, .int .u8 0, .int .u8 0, .int .u8 0, .int .u8 0, .int .u8 0, .int .u8 0, .int .u8 0, .int .u8 0, .int .u8 0, .int .u8 0, .int .u8 0, .int .u8 0, .int .u8 0, .int .u8 0, .int .u8 0, .int .u8 0, .int .u8 0, .int .u8 0, .int .u64 0]) h87 (by kernel_rfl) (by kernel_rfl) (Pro.c_one _)) ?_
  clear eV93
  have h95 := kV93.bo h88 (by omega)
  have h96 := kV93.bo h89 (by omega)
  have h97 := kV93.bo h90 (by omega)
  have h98 := kV93.bo h86 (by omega)
  have K99 := K91.no kV93 (by omega)
  have z100 := kV93.size
  refine ps_end <| then_n <| sy_sq (qc83_0 14) (qc83_0 15) <| sy_reg <| rg_q 2 [0, 1, 2, 3, 4, 5, 6, 7, 8] <| ppq (.agg (Att.c kA)) (exec_load_row 26 (.tmp 1) (by kernel_rfl) ga (by kernel_rfl) _ _ (0, 0) _ (h95) Tryz.underlying26 rfl (by rw [Att.c_size _ (one_r 2 3 5)]; kernel_rfl)) <| ppq (.agg (Att.c kB)) (exec_load_row 26 (.tmp 2) (by kernel_rfl) gb (by kernel_rfl) _ _ (0, 0) _ (h96) Tryz.underlying26 rfl (by rw [Att.c_size _ (one_r 1 3 6)]; kernel_rfl)) <| ppq (.agg (Att.c kW)) (exec_load_row 26 (.tmp 3) (by kernel_rfl) gw (by kernel_rfl) _ _ (0, 0) _ (h97) Tryz.underlying26 rfl (by rw [Att.c_size _ (one_r 1 4 7)]; kernel_rfl)) ?_
  obtain ⟨V101, eV101, qa, eqa, h102, kV101⟩ := alloc_step V93 (([.agg (Att.c kA), .agg (Att.c kB), .agg (Att.c kW)] : List Value).flatMap fun v => v.cells.toList).toArray 26
  have n103 : ga < qa := eqa ▸ lt_of_block h95
  have n104 : gb < qa := eqa ▸ lt_of_block h96
  have n105 : gw < qa := eqa ▸ lt_of_block h97
  have n106 : gx < qa := eqa ▸ lt_of_block h98
  have n107 : gy < qa := eqa ▸ lt_of_block h94
  have n108 : w.heap.size ≤ qa := eqa ▸ K99.size
  refine prq (.slice (some ⟨qa, 0, none⟩) 3 3) (w' := V101) (by rw [← eV101, ← eqa]; exact exec_buildAll 59 26 3 #[(0, .tmp 35), (1, .tmp 36), (2, .tmp 37)] (by kernel_rfl) [.agg (Att.c kA), .agg (Att.c kB), .agg (Att.c kW)] (by kernel_rfl) i0 _ Tryz.underlying59 hi0 hz0 36 hz1 (by decide) rfl (by decide) (by decide) (fun u hu => by simp only [List.mem_cons, List.not_mem_nil, or_false] at hu; rcases hu with rfl | rfl | rfl; exact Att.c_size _ a_Ok.r; exact Att.c_size _ b_Ok.r; exact Att.c_size _ w_Ok.r)) ?_
  clear eV101
  have h109 : V101.heap[qa]? = some (.cells ((List.flatMap Att.cl [kA, kB, kW]).toArray) 26 (0, 0)) := h102
  have h110 := kV101.bk h95
  have h111 := kV101.bk h96
  have h112 := kV101.bk h97
  have h113 := kV101.bk h98
  have h114 := kV101.bk h94
  have K115 := K99.nn kV101
  have z116 := kV101.size
  refine ppq (.agg (Pro.c kX)) (exec_load_row 28 (.tmp 4) (by kernel_rfl) gx (by kernel_rfl) _ _ (0, 0) _ (h113) Tryz.underlying28 rfl (by rw [Pro.c_size _ (blk1_r 0 8)]; kernel_rfl)) <| ppq (.agg (Pro.c kY)) (exec_load_row 28 (.tmp 5) (by kernel_rfl) gy (by kernel_rfl) _ _ (0, 0) _ (h114) Tryz.underlying28 rfl (by rw [Pro.c_size _ (blk1_r 1 9)]; kernel_rfl)) ?_
  obtain ⟨V117, eV117, qb, eqb, h118, kV117⟩ := alloc_step V101 (([.agg (Pro.c kX), .agg (Pro.c kY)] : List Value).flatMap fun v => v.cells.toList).toArray 28
  have n119 : ga < qb := eqb ▸ lt_of_block h110
  have n120 : gb < qb := eqb ▸ lt_of_block h111
  have n121 : gw < qb := eqb ▸ lt_of_block h112
  have n122 : gx < qb := eqb ▸ lt_of_block h113
  have n123 : gy < qb := eqb ▸ lt_of_block h114
  have n124 : qa < qb := eqb ▸ lt_of_block h109
  have n125 : w.heap.size ≤ qb := eqb ▸ K115.size
  refine prq (.slice (some ⟨qb, 0, none⟩) 2 2) (w' := V117) (by rw [← eV117, ← eqb]; exact exec_buildAll 60 28 2 #[(0, .tmp 39), (1, .tmp 40)] (by kernel_rfl) [.agg (Pro.c kX), .agg (Pro.c kY)] (by kernel_rfl) i1 _ Tryz.underlying60 hi1 hw0 35 hw1 (by decide) rfl (by decide) (by decide) (fun u hu => by simp only [List.mem_cons, List.not_mem_nil, or_false] at hu; rcases hu with rfl | rfl; exact Pro.c_size _ kX_Ok.r; exact Pro.c_size _ kY_Ok.r)) ?_
  clear eV117
  have h126 : V117.heap[qb]? = some (.cells ((List.flatMap Pro.cl [kX, kY]).toArray) 28 (0, 0)) := h118
  have h127 := kV117.bk h110
  have h128 := kV117.bk h111
  have h129 := kV117.bk h112
  have h130 := kV117.bk h113
  have h131 := kV117.bk h114
  have h132 := kV117.bk h109
  have K133 := K115.nn kV117
  have z134 := kV117.size
  refine pcq 27 #[.slice (some ⟨qa, 0, none⟩) 3 3, .slice (some ⟨qb, 0, none⟩) 2 2] Tryz.func27 ((leseals_ok _ _ [kA, kB, kW] [kX, kY] _ (Sl.blockG h132 kAs_len rfl (by decide)) (Sl.blockG h126 kPs_len rfl (by decide)) kAs_Ok kPs_Ok (by decide) (by decide)).mono ?_)
  rintro e V135 ⟨vl, rfl, hrow, hnewl, kV135⟩
  rw [exL_eq] at hrow
  have hls0 : SelsAt V135 vl exL := Row.sl hrow rfl (fun x hx => Sel.cl_len (exL_r x hx))
  obtain ⟨sg, sc, rfl, _⟩ := Row.spell hrow (by decide)
  refine ⟨_, rfl, ?_⟩
  have h136 := kV135.bk h127
  have h137 := kV135.bk h128
  have h138 := kV135.bk h129
  have h139 := kV135.bk h130
  have h140 := kV135.bk h131
  have h141 := kV135.bk h132
  have h142 := kV135.bk h126
  have K143 := K133.nn kV135
  have z144 := kV135.size
  refine pkq (.slice (some ⟨sg, 0, none⟩) exL.length sc) <| ps_end <| sy_a ⟨#[.bool false, pT ga 0, pT gb 0, pT gw 0, pT gx 0, pT gy 0, .slice (some ⟨sg, 0, none⟩) exL.length sc, ud, ud, ud, ud, ud, ud, ud, ud, ud, ud, ud, ud, ud, ud, ud, ud, ud, ud, ud, ud, ud, ud, ud, .agg (Att.c (one 2 3 5)), .agg (Att.c (one 1 3 6)), .agg (Att.c (one 1 4 7)), .agg (Pro.c (blk1 0 8)), .agg (Pro.c (blk1 1 9)), .agg (Att.c kA), .agg (Att.c kB), .agg (Att.c kW), .slice (some ⟨qa, 0, none⟩) 3 3, .agg (Pro.c kX), .agg (Pro.c kY), .slice (some ⟨qb, 0, none⟩) 2 2, .slice (some ⟨sg, 0, none⟩) exL.length sc, ud, ud, ud, ud, ud, ud, ud, ud, ud, ud, ud, ud, ud, ud, ud, ud, ud, ud, ud, ud, ud, ud, ud, ud, ud, ud, ud, ud, ud, ud, ud, ud, ud, ud, ud, ud, ud, ud, ud, ud, ud, ud, ud, ud, ud, ud, ud, ud, ud, ud, ud, ud, ud, ud, ud, ud, ud, ud, ud, ud, ud, ud, ud, ud, ud, ud, ud, ud, ud, ud, ud, ud, ud, ud, ud, ud, ud, ud, ud, ud, ud, ud, ud, ud, ud, ud, ud, ud, ud, ud, ud, ud, ud, ud, ud, ud, ud, ud, ud, ud, ud, ud, ud, ud, ud, ud, ud, ud, ud, ud, ud, ud, ud, ud, ud, ud, ud, ud, ud, ud, ud, ud, ud, ud, ud, ud, ud, ud, ud, ud, ud, ud, ud, ud, ud, ud, ud, ud, ud, ud, ud, ud, ud, ud, ud, ud, ud, ud], []⟩ <| then_n <| sy_sq (qc83_0 30) (qc83_0 31) <| sy_reg <| rg_q 3 [0, 1, 2, 3, 4, 5, 6, 7, 8] <| ppq (.agg (Att.c kA)) (exec_load_row 26 (.tmp 1) (by kernel_rfl) ga (by kernel_rfl) _ _ (0, 0) _ (h136) Tryz.underlying26 rfl (by rw [Att.c_size _ (one_r 2 3 5)]; kernel_rfl)) <| ppq (.agg (Att.c kB)) (exec_load_row 26 (.tmp 2) (by kernel_rfl) gb (by kernel_rfl) _ _ (0, 0) _ (h137) Tryz.underlying26 rfl (by rw [Att.c_size _ (one_r 1 3 6)]; kernel_rfl)) ?_
  refine pcq 12 #[.agg (Att.c kA), .agg (Att.c kB)] Tryz.func12 ((eProve_is _ a_Ok b_Ok proves_ab).mono ?_)
  rintro e V145 ⟨rfl, kV145⟩
  refine ⟨_, rfl, ?_⟩
  have h146 := kV145.bk h136
  have h147 := kV145.bk h137
  have h148 := kV145.bk h138
  have h149 := kV145.bk h139
  have h150 := kV145.bk h140
  have h151 := kV145.bk h141
  have h152 := kV145.bk h142
  have h153 : SelsAt V145 (.slice (some ⟨sg, 0, none⟩) exL.length sc) exL := hls0.keepsN kV145
  have K154 := K143.nn kV145
  have z155 := kV145.size
  refine pkq (.tuple #[.agg (Msg.c exD), .bool true]) <| pkq (.agg (Msg.c exD)) <| pkq (.bool true) ?_
  obtain ⟨V156, eV156, gd, egd, h157, kV156⟩ := alloc_step V145 ((Msg.c msgZ)) 38
  have n158 : ga < gd := egd ▸ lt_of_block h146
  have n159 : gb < gd := egd ▸ lt_of_block h147
  have n160 : gw < gd := egd ▸ lt_of_block h148
  have n161 : gx < gd := egd ▸ lt_of_block h149
  have n162 : gy < gd := egd ▸ lt_of_block h150
  have n163 : qa < gd := egd ▸ lt_of_block h151
  have n164 : qb < gd := egd ▸ lt_of_block h152
  have n165 : w.heap.size ≤ gd := egd ▸ K154.size
  refine prq (pT gd 0) (w' := V156) (by rw [← eV156, ← egd]; exact exec_alloc0 38 (by kernel_rfl) (.agg ((Msg.c msgZ))) (by kernel_rfl)) ?_
  clear eV156
  have h166 := kV156.bk h146
  have h167 := kV156.bk h147
  have h168 := kV156.bk h148
  have h169 := kV156.bk h149
  have h170 := kV156.bk h150
  have h171 := kV156.bk h151
  have h172 := kV156.bk h152
  have h173 : SelsAt V156 (.slice (some ⟨sg, 0, none⟩) exL.length sc) exL := h153.keepsN kV156
  have K174 := K154.nn kV156
  have z175 := kV156.size
  obtain ⟨V176, eV176, kV176⟩ := rowset_step V156 gd ((Msg.c exD))
  have h177 : V176.heap[gd]? = some (.cells (Msg.c exD) 38 (0, 0)) := eV176 ▸ setRow_heap _ _ _ _ _ _ h157
  refine pzq (w' := V176) (by rw [← eV176]; exact exec_store_row 38 (.tmp 7) (.tmp 47) (by kernel_rfl) gd ((Msg.c exD)) (by kernel_rfl) (by kernel_rfl) 38 ((Msg.c msgZ)) h157 (by kernel_rfl) (by kernel_rfl) (Msg.c_one _)) ?_
  clear eV176
  have h178 := kV176.bo h166 (by omega)
  have h179 := kV176.bo h167 (by omega)
  have h180 := kV176.bo h168 (by omega)
  have h181 := kV176.bo h169 (by omega)
  have h182 := kV176.bo h170 (by omega)
  have h183 := kV176.bo h171 (by omega)
  have h184 := kV176.bo h172 (by omega)
  have h185 : SelsAt V176 (.slice (some ⟨sg, 0, none⟩) exL.length sc) exL := Sl.keepsB hls0 h173 kV176 (fun j e => by first | (unfold Own.One at e; omega) | omega)
  have K186 := K174.no kV176 (by omega)
  have z187 := kV176.size
  refine pkq (.bool true) <| ps_end <| then_n <| sy_sq (qc83_0 62) (qc83_0 63) <| sy_reg <| rg_q 4 [0, 1, 2, 3, 4, 5, 6, 7, 8] <| ppq (.agg (Pro.c kX)) (exec_load_row 28 (.tmp 4) (by kernel_rfl) gx (by kernel_rfl) _ _ (0, 0) _ (h181) Tryz.underlying28 rfl (by rw [Pro.c_size _ (blk1_r 0 8)]; kernel_rfl)) <| ppq (.agg (Pro.c kY)) (exec_load_row 28 (.tmp 5) (by kernel_rfl) gy (by kernel_rfl) _ _ (0, 0) _ (h182) Tryz.underlying28 rfl (by rw [Pro.c_size _ (blk1_r 1 9)]; kernel_rfl)) ?_
  refine pcq 14 #[.agg (Pro.c kX), .agg (Pro.c kY)] Tryz.func14 ((eProveBlock_is _ kX_Ok kY_Ok provesP_xy).mono ?_)
  rintro e V188 ⟨rfl, kV188⟩
  refine ⟨_, rfl, ?_⟩
  have h189 := kV188.bk h178
  have h190 := kV188.bk h179
  have h191 := kV188.bk h180
  have h192 := kV188.bk h181
  have h193 := kV188.bk h182
  have h194 := kV188.bk h183
  have h195 := kV188.bk h184
  have h196 : SelsAt V188 (.slice (some ⟨sg, 0, none⟩) exL.length sc) exL := h185.keepsN kV188
  have h197 := kV188.bk h177
  have K198 := K186.nn kV188
  have z199 := kV188.size
  refine pkq (.tuple #[.agg (Msg.c exS), .bool true]) <| pkq (.agg (Msg.c exS)) <| pkq (.bool true) ?_
  obtain ⟨V200, eV200, gs, egs, h201, kV200⟩ := alloc_step V188 ((Msg.c msgZ)) 38
  have n202 : ga < gs := egs ▸ lt_of_block h189
  have n203 : gb < gs := egs ▸ lt_of_block h190
  have n204 : gw < gs := egs ▸ lt_of_block h191
  have n205 : gx < gs := egs ▸ lt_of_block h192
  have n206 : gy < gs := egs ▸ lt_of_block h193
  have n207 : qa < gs := egs ▸ lt_of_block h194
  have n208 : qb < gs := egs ▸ lt_of_block h195
  have n209 : gd < gs := egs ▸ lt_of_block h197
  have n210 : w.heap.size ≤ gs := egs ▸ K198.size
  refine prq (pT gs 0) (w' := V200) (by rw [← eV200, ← egs]; exact exec_alloc0 38 (by kernel_rfl) (.agg ((Msg.c msgZ))) (by kernel_rfl)) ?_
  clear eV200
  have h211 := kV200.bk h189
  have h212 := kV200.bk h190
  have h213 := kV200.bk h191
  have h214 := kV200.bk h192
  have h215 := kV200.bk h193
  have h216 := kV200.bk h194
  have h217 := kV200.bk h195
  have h218 : SelsAt V200 (.slice (some ⟨sg, 0, none⟩) exL.length sc) exL := h196.keepsN kV200
  have h219 := kV200.bk h197
  have K220 := K198.nn kV200
  have z221 := kV200.size
  obtain ⟨V222, eV222, kV222⟩ := rowset_step V200 gs ((Msg.c exS))
  have h223 : V222.heap[gs]? = some (.cells (Msg.c exS) 38 (0, 0)) := eV222 ▸ setRow_heap _ _ _ _ _ _ h201
  refine pzq (w' := V222) (by rw [← eV222]; exact exec_store_row 38 (.tmp 9) (.tmp 53) (by kernel_rfl) gs ((Msg.c exS)) (by kernel_rfl) (by kernel_rfl) 38 ((Msg.c msgZ)) h201 (by kernel_rfl) (by kernel_rfl) (Msg.c_one _)) ?_
  clear eV222
  have h224 := kV222.bo h211 (by omega)
  have h225 := kV222.bo h212 (by omega)
  have h226 := kV222.bo h213 (by omega)
  have h227 := kV222.bo h214 (by omega)
  have h228 := kV222.bo h215 (by omega)
  have h229 := kV222.bo h216 (by omega)
  have h230 := kV222.bo h217 (by omega)
  have h231 : SelsAt V222 (.slice (some ⟨sg, 0, none⟩) exL.length sc) exL := Sl.keepsB hls0 h218 kV222 (fun j e => by first | (unfold Own.One at e; omega) | omega)
  have h232 := kV222.bo h219 (by omega)
  have K233 := K220.no kV222 (by omega)
  have z234 := kV222.size
  refine pkq (.bool true) <| ps_end <| then_n <| sy_sq (qc83_0 126) (qc83_0 127) <| sy_sq (qc83_0 252) (qc83_0 253) <| sy_reg <| rg_q 5 [0, 1, 2, 3, 4, 5, 6, 7, 8, 9, 10, 11] <| pkq (.slice (some ⟨sg, 0, none⟩) exL.length sc) <| ppq (iN exL.length) (exec_len (.tmp 55) 46 _ (by kernel_rfl) Tryz.underlying46 (some ⟨sg, 0, none⟩) exL.length sc (by kernel_rfl)) <| ppq (.bool false) (nqf (((exL.length : Nat) : Int)) ((5) : Int) (by omega)) <| pkq (.bool false) <| pkq (.bool true) <| pkq (.bool false) <| pkq (.bool false) ?_
  refine pkq (.bool false) <| ppq (.agg (Msg.c exS)) (exec_load_row 38 (.tmp 9) (by kernel_rfl) gs (by kernel_rfl) _ _ (0, 0) _ (h223) Tryz.underlying38 rfl (by rw [Msg.c_size exS_Ok.R]; kernel_rfl)) ?_
  refine pcq 28 #[.agg (Msg.c exS), .int .i64 2, .int .i64 300] Tryz.func28 ((leis_ok exS 2 300 _ exS_Ok exS_off).mono ?_)
  rintro e V235 ⟨rfl, kV235⟩
  refine ⟨_, rfl, ?_⟩
  have h236 := kV235.bk h224
  have h237 := kV235.bk h225
  have h238 := kV235.bk h226
  have h239 := kV235.bk h227
  have h240 := kV235.bk h228
  have h241 := kV235.bk h229
  have h242 := kV235.bk h230
  have h243 : SelsAt V235 (.slice (some ⟨sg, 0, none⟩) exL.length sc) exL := h231.keepsN kV235
  have h244 := kV235.bk h232
  have h245 := kV235.bk h223
  have K246 := K233.nn kV235
  have z247 := kV235.size
  refine pkq (.bool false) <| pkq (.bool false) <| ps_end <| sy_a ⟨#[.bool false, pT ga 0, pT gb 0, pT gw 0, pT gx 0, pT gy 0, .slice (some ⟨sg, 0, none⟩) exL.length sc, pT gd 0, .bool true, pT gs 0, .bool true, ud, ud, ud, ud, ud, ud, ud, ud, ud, ud, ud, ud, ud, ud, ud, ud, ud, ud, ud, .agg (Att.c (one 2 3 5)), .agg (Att.c (one 1 3 6)), .agg (Att.c (one 1 4 7)), .agg (Pro.c (blk1 0 8)), .agg (Pro.c (blk1 1 9)), .agg (Att.c kA), .agg (Att.c kB), .agg (Att.c kW), .slice (some ⟨qa, 0, none⟩) 3 3, .agg (Pro.c kX), .agg (Pro.c kY), .slice (some ⟨qb, 0, none⟩) 2 2, .slice (some ⟨sg, 0, none⟩) exL.length sc, .tuple #[.agg (Msg.c exD), .bool true], .agg (Att.c kA), .agg (Att.c kB), .tuple #[.agg (Msg.c exD), .bool true], .agg (Msg.c exD), .bool true, .tuple #[.agg (Msg.c exS), .bool true], .agg (Pro.c kX), .agg (Pro.c kY), .tuple #[.agg (Msg.c exS), .bool true], .agg (Msg.c exS), .bool true, .slice (some ⟨sg, 0, none⟩) exL.length sc, iN exL.length, .bool false, .bool false, .bool true, .bool false, .bool false, .bool false, .agg (Msg.c exS), .bool true, .bool false, .bool false, ud, ud, ud, ud, ud, ud, ud, ud, ud, ud, ud, ud, ud, ud, ud, ud, ud, ud, ud, ud, ud, ud, ud, ud, ud, ud, ud, ud, ud, ud, ud, ud, ud, ud, ud, ud, ud, ud, ud, ud, ud, ud, ud, ud, ud, ud, ud, ud, ud, ud, ud, ud, ud, ud, ud, ud, ud, ud, ud, ud, ud, ud, ud, ud, ud, ud, ud, ud, ud, ud, ud, ud, ud, ud, ud, ud, ud, ud, ud, ud, ud, ud, ud, ud, ud, ud, ud, ud, ud, ud, ud, ud, ud, ud, ud, ud, ud, ud, ud, ud, ud, ud, ud, ud, ud, ud, ud, ud, ud, ud, ud, ud, ud, ud, ud, ud, ud, ud, ud, ud, ud, ud, ud, ud], []⟩ <| then_n <| sy_n (.tmp 66) (qc83_0 506) (qc83_0 507) <| sy_sk <| then_n <| sy_sq (qc83_0 254) (qc83_0 255) <| sy_reg <| rg_q 7 [0, 1, 2] <| ppq (.agg (Att.c kB)) (exec_load_row 26 (.tmp 2) (by kernel_rfl) gb (by kernel_rfl) _ _ (0, 0) _ (h237) Tryz.underlying26 rfl (by rw [Att.c_size _ (one_r 1 3 6)]; kernel_rfl)) ?_
  obtain ⟨V248, eV248, gt, egt, h249, kV248⟩ := alloc_step V235 (#[.int .i64 0, .int .i64 0, .int .i64 0, .int .u8 0, .int .u8 0, .int .u8 0, .int .u8 0, .int .u8 0, .int .u8 0, .int .u8 0, .int .u8 0, .int .u8 0, .int .u8 0, .int .u8 0, .int .u8 0, .int .u8 0, .int .u8 0, .int .u8 0, .int .u8 0, .int .u8 0, .int .u8 0, .int .u8 0, .int .u8 0, .int .u8 0, .int .u8 0, .int .u8 0, .int .u8 0, .int .u8 0, .int .u8 0, .int .u8 0, .int .u8 0, .int .u8 0, .int .u8 0, .int .u8 0, .int .u8 0, .int .u64 0]) 26
  have n250 : ga < gt := egt ▸ lt_of_block h236
  have n251 : gb < gt := egt ▸ lt_of_block h237
  have n252 : gw < gt := egt ▸ lt_of_block h238
  have n253 : gx < gt := egt ▸ lt_of_block h239
  have n254 : gy < gt := egt ▸ lt_of_block h240
  have n255 : qa < gt := egt ▸ lt_of_block h241
  have n256 : qb < gt := egt ▸ lt_of_block h242
  have n257 : gd < gt := egt ▸ lt_of_block h244
  have n258 : gs < gt := egt ▸ lt_of_block h245
  have n259 : w.heap.size ≤ gt := egt ▸ K246.size
  refine prq (pT gt 0) (w' := V248) (by rw [← eV248, ← egt]; exact exec_alloc0 26 (by kernel_rfl) (.agg (#[.int .i64 0, .int .i64 0, .int .i64 0, .int .u8 0, .int .u8 0, .int .u8 0, .int .u8 0, .int .u8 0, .int .u8 0, .int .u8 0, .int .u8 0, .int .u8 0, .int .u8 0, .int .u8 0, .int .u8 0, .int .u8 0, .int .u8 0, .int .u8 0, .int .u8 0, .int .u8 0, .int .u8 0, .int .u8 0, .int .u8 0, .int .u8 0, .int .u8 0, .int .u8 0, .int .u8 0, .int .u8 0, .int .u8 0, .int .u8 0, .int .u8 0, .int .u8 0, .int .u8 0, .int .u8 0, .int .u8 0, .int .u64 0])) (by kernel_rfl)) ?_
  clear eV248
  have h260 := kV248.bk h236
  have h261 := kV248.bk h237
  have h262 := kV248.bk h238
  have h263 := kV248.bk h239
  have h264 := kV248.bk h240
  have h265 := kV248.bk h241
  have h266 := kV248.bk h242
  have h267 : SelsAt V248 (.slice (some ⟨sg, 0, none⟩) exL.length sc) exL := h243.keepsN kV248
  have h268 := kV248.bk h244
  have h269 := kV248.bk h245
  have K270 := K246.nn kV248
  have z271 := kV248.size
  obtain ⟨V272, eV272, kV272⟩ := rowset_step V248 gt ((Att.c kB))
  have h273 : V272.heap[gt]? = some (.cells (Att.c kB) 26 (0, 0)) := eV272 ▸ setRow_heap _ _ _ _ _ _ h249
  refine pzq (w' := V272) (by rw [← eV272]; exact exec_store_row 26 (.tmp 11) (.tmp 67) (by kernel_rfl) gt ((Att.c kB)) (by kernel_rfl) (by kernel_rfl) 26 (#[.int .i64 0, .int .i64 0, .int .i64 0, .int .u8 0, .int .u8 0, .int .u8 0, .int .u8 0, .int .u8 0, .int .u8 0, .int .u8 0, .int .u8 0, .int .u8 0, .int .u8 0, .int .u8 0, .int .u8 0, .int .u8 0, .int .u8 0, .int .u8 0, .int .u8 0, .int .u8 0, .int .u8 0, .int .u8 0, .int .u8 0, .int .u8 0, .int .u8 0, .int .u8 0, .int .u8 0, .int .u8 0, .int .u8 0, .int .u8 0, .int .u8 0, .int .u8 0, .int .u8 0, .int .u8 0, .int .u8 0, .int .u64 0]) h249 (by kernel_rfl) (by kernel_rfl) (Att.c_one _)) ?_
  clear eV272
  have h274 := kV272.bo h260 (by omega)
  have h275 := kV272.bo h261 (by omega)
  have h276 := kV272.bo h262 (by omega)
  have h277 := kV272.bo h263 (by omega)
  have h278 := kV272.bo h264 (by omega)
  have h279 := kV272.bo h265 (by omega)
  have h280 := kV272.bo h266 (by omega)
  have h281 : SelsAt V272 (.slice (some ⟨sg, 0, none⟩) exL.length sc) exL := Sl.keepsB hls0 h267 kV272 (fun j e => by first | (unfold Own.One at e; omega) | omega)
  have h282 := kV272.bo h268 (by omega)
  have h283 := kV272.bo h269 (by omega)
  have K284 := K270.no kV272 (by omega)
  have z285 := kV272.size
  refine ps_end <| then_n <| sy_sq (qc83_0 510) (qc83_0 511) <| sy_reg <| rg_q 8 [0, 1] <| pkq (pT gt 0) ?_
  obtain ⟨V286, eV286, kV286⟩ := cell_step V272 gt 0 (.int .i64 2)
  have h287 : V286.heap[gt]? = some (.cells (Att.c ⟨2, kB.s, kB.t, kB.r, kB.g⟩) 26 (0, 0)) := eV286 ▸ ((heap_setCell_same _ gt 0 _ _ (.int .i64 2) h273).trans (congrArg (fun c => some (Obj.cells c 26 (0, 0))) (show (Att.c kB : Array Value).setIfInBounds 0 (.int .i64 2) = Att.c ⟨2, kB.s, kB.t, kB.r, kB.g⟩ from Att.c_set0 _ _)))
  refine pzq (w' := V286) (by rw [← eV286]; exact exec_store_cell 3 (.tmp 68) (.const (.int .i64 2)) (by kernel_rfl) gt 0 (by kernel_rfl) (.int .i64 2) (by kernel_rfl) (by kernel_rfl) (by kernel_rfl) (.int .i64 kB.v) (rc (h273) (Att.c_0 _)) (frozen_of_row _ _ _ _ _ h273) (by kernel_rfl)) ?_
  clear eV286
  have h288 := kV286.bo h274 (by omega)
  have h289 := kV286.bo h275 (by omega)
  have h290 := kV286.bo h276 (by omega)
  have h291 := kV286.bo h277 (by omega)
  have h292 := kV286.bo h278 (by omega)
  have h293 := kV286.bo h279 (by omega)
  have h294 := kV286.bo h280 (by omega)
  have h295 : SelsAt V286 (.slice (some ⟨sg, 0, none⟩) exL.length sc) exL := Sl.keepsB hls0 h281 kV286 (fun j e => by first | (unfold Own.One at e; omega) | omega)
  have h296 := kV286.bo h282 (by omega)
  have h297 := kV286.bo h283 (by omega)
  have K298 := K284.no kV286 (by omega)
  have z299 := kV286.size
  refine ps_end <| then_n <| sy_sq (qc83_0 1022) (qc83_0 1023) ?_
  refine sy_cut (fun aQ VQ => ∃ (gi : Nat), (aQ = ⟨#[.bool false, .pointer (some ⟨ga, 0, none⟩), .pointer (some ⟨gb, 0, none⟩), .pointer (some ⟨gw, 0, none⟩), .pointer (some ⟨gx, 0, none⟩), .pointer (some ⟨gy, 0, none⟩), .slice (some ⟨sg, 0, none⟩) exL.length sc, .pointer (some ⟨gd, 0, none⟩), .bool true, .pointer (some ⟨gs, 0, none⟩), .bool true, .pointer (some ⟨gt, 0, none⟩), .pointer (some ⟨gi, 0, none⟩), .bool false, ud, ud, ud, ud, ud, ud, ud, ud, ud, ud, ud, ud, ud, ud, ud, ud, .agg (Att.c (one 2 3 5)), .agg (Att.c (one 1 3 6)), .agg (Att.c (one 1 4 7)), .agg (Pro.c (blk1 0 8)), .agg (Pro.c (blk1 1 9)), .agg (Att.c kA), .agg (Att.c kB), .agg (Att.c kW), .slice (some ⟨qa, 0, none⟩) 3 3, .agg (Pro.c kX), .agg (Pro.c kY), .slice (some ⟨qb, 0, none⟩) 2 2, .slice (some ⟨sg, 0, none⟩) exL.length sc, .tuple #[.agg (Msg.c exD), .bool true], .agg (Att.c kA), .agg (Att.c kB), .tuple #[.agg (Msg.c exD), .bool true], .agg (Msg.c exD), .bool true, .tuple #[.agg (Msg.c exS), .bool true], .agg (Pro.c kX), .agg (Pro.c kY), .tuple #[.agg (Msg.c exS), .bool true], .agg (Msg.c exS), .bool true, .slice (some ⟨sg, 0, none⟩) exL.length sc, .int .i64 ((exL.length : Nat) : Int), .bool false, .bool false, .bool true, .bool false, .bool false, .bool false, .agg (Msg.c exS), .bool true, .bool false, .bool false, .agg (Att.c kB), .pointer (some ⟨gt, 0, none⟩), .tuple #[.agg (Msg.c msgZ), .bool false], .agg (Att.c kA), .agg (Att.c (one 2 3 9)), .tuple #[.agg (Msg.c msgZ), .bool false], .agg (Msg.c msgZ), .bool false, ud, ud, ud, ud, ud, ud, ud, ud, ud, ud, ud, ud, ud, ud, ud, ud, ud, ud, ud, ud, ud, ud, ud, ud, ud, ud, ud, ud, ud, ud, ud, ud, ud, ud, ud, ud, ud, ud, ud, ud, ud, ud, ud, ud, ud, ud, ud, ud, ud, ud, ud, ud, ud, ud, ud, ud, ud, ud, ud, ud, ud, ud, ud, ud, ud, ud, ud, ud, ud, ud, ud, ud, ud, ud, ud, ud, ud, ud, ud, ud, ud, ud, ud, ud, ud, ud, ud, ud, ud, ud, ud, ud, ud, ud, ud, ud, ud, ud, ud, ud, ud, ud, ud, ud, ud, ud, ud, ud, ud, ud, ud, ud, ud, ud, ud, ud], []⟩) ∧ (VQ.heap[ga]? = some (.cells (Att.c kA) 26 (0, 0))) ∧ (VQ.heap[gb]? = some (.cells (Att.c kB) 26 (0, 0))) ∧ (VQ.heap[gw]? = some (.cells (Att.c kW) 26 (0, 0))) ∧ (VQ.heap[gx]? = some (.cells (Pro.c kX) 28 (0, 0))) ∧ (VQ.heap[gy]? = some (.cells (Pro.c kY) 28 (0, 0))) ∧ (VQ.heap[qa]? = some (.cells ((List.flatMap Att.cl [kA, kB, kW]).toArray) 26 (0, 0))) ∧ (VQ.heap[qb]? = some (.cells ((List.flatMap Pro.cl [kX, kY]).toArray) 28 (0, 0))) ∧ (SelsAt VQ (.slice (some ⟨sg, 0, none⟩) exL.length sc) exL) ∧ (VQ.heap[gd]? = some (.cells (Msg.c exD) 38 (0, 0))) ∧ (VQ.heap[gs]? = some (.cells (Msg.c exS) 38 (0, 0))) ∧ (VQ.heap[gt]? = some (.cells (Att.c ⟨2, kB.s, kB.t, kB.r, kB.g⟩) 26 (0, 0))) ∧ (VQ.heap[gi]? = some (.cells (Msg.c msgZ) 38 (0, 0))) ∧ (gi ≠ ga ∧ gi ≠ gb ∧ gi ≠ gw ∧ gi ≠ gx ∧ gi ≠ gy ∧ gi ≠ qa ∧ gi ≠ qb ∧ gi ≠ gd ∧ gi ≠ gs ∧ gi ≠ gt ∧ w.heap.size ≤ gi ∧ V286.heap.size ≤ gi) ∧ (Keeps Nob w VQ)) ?_ ?_
  · refine sy_np <| sy_reg <| an_begin 9 9 (opsAt (qc83_0 1022)) (fun W => (W.heap[ga]? = some (.cells (Att.c kA) 26 (0, 0)))) #[false, false, false, false, false, false, false, false, false] (by kernel_rfl) (by kernel_rfl) (by kernel_rfl) (by kernel_rfl) ?_
    obtain ⟨V300, eV300, kV300⟩ := drew_step V286
    rw [eV300]
    clear eV300
    have h301 := kV300.bk h288
    have h302 := kV300.bk h289
    have h303 := kV300.bk h290
    have h304 := kV300.bk h291
    have h305 := kV300.bk h292
    have h306 := kV300.bk h293
    have h307 := kV300.bk h294
    have h308 : SelsAt V300 (.slice (some ⟨sg, 0, none⟩) exL.length sc) exL := h295.keepsN kV300
    have h309 := kV300.bk h296
    have h310 := kV300.bk h297
    have h311 := kV300.bk h287
    have K312 := K298.nn kV300
    have z313 := kV300.size
    refine avq 0 (.agg (Att.c kA)) (fun W hS => exec_load_row 26 (.tmp 1) (by kernel_rfl) ga (by kernel_rfl) _ _ (0, 0) _ (hS) Tryz.underlying26 rfl (by rw [Att.c_size _ (one_r 2 3 5)]; kernel_rfl)) h301 ?_
    refine an_two 1 6 (by kernel_rfl) ?_ ?_
    · refine ncq 25 #[.int .i64 2, .int .i64 3, .int .u64 9] Tryz.func25 ((leone_ok 2 3 9 _).mono ?_)
      rintro e V314 ⟨rfl, kV314⟩
      refine ⟨_, rfl, ?_⟩
      have h315 := kV314.bk h301
      have h316 := kV314.bk h302
      have h317 := kV314.bk h303
      have h318 := kV314.bk h304
      have h319 := kV314.bk h305
      have h320 := kV314.bk h306
      have h321 := kV314.bk h307
      have h322 : SelsAt V314 (.slice (some ⟨sg, 0, none⟩) exL.length sc) exL := h308.keepsN kV314
      have h323 := kV314.bk h309
      have h324 := kV314.bk h310
      have h325 := kV314.bk h311
      have K326 := K312.nn kV314
      have z327 := kV314.size
      refine ⟨h315, ?_⟩
      refine an_two 2 6 (by kernel_rfl) ?_ ?_
      · refine ncq 12 #[.agg (Att.c kA), .agg (Att.c (one 2 3 9))] Tryz.func12 ((eProve_is _ a_Ok c_Ok proves_ac).mono ?_)
        rintro e V328 ⟨rfl, kV328⟩
        refine ⟨_, rfl, ?_⟩
        have h329 := kV328.bk h315
        have h330 := kV328.bk h316
        have h331 := kV328.bk h317
        have h332 := kV328.bk h318
        have h333 := kV328.bk h319
        have h334 := kV328.bk h320
        have h335 := kV328.bk h321
        have h336 : SelsAt V328 (.slice (some ⟨sg, 0, none⟩) exL.length sc) exL := h322.keepsN kV328
        have h337 := kV328.bk h323
        have h338 := kV328.bk h324
        have h339 := kV328.bk h325
        have K340 := K326.nn kV328
        have z341 := kV328.size
        refine ⟨h329, ?_⟩
        refine akq 3 (.tuple #[.agg (Msg.c msgZ), .bool false]) h329 <| akq 4 (.agg (Msg.c msgZ)) h329 <| akq 5 (.bool false) h329 <| an_o 6 ?_
        obtain ⟨V342, eV342, gi, egi, h343, kV342⟩ := alloc_step V328 ((Msg.c msgZ)) 38
        have n344 : ga < gi := egi ▸ lt_of_block h329
        have n345 : gb < gi := egi ▸ lt_of_block h330
        have n346 : gw < gi := egi ▸ lt_of_block h331
        have n347 : gx < gi := egi ▸ lt_of_block h332
        have n348 : gy < gi := egi ▸ lt_of_block h333
        have n349 : qa < gi := egi ▸ lt_of_block h334
        have n350 : qb < gi := egi ▸ lt_of_block h335
        have n351 : gd < gi := egi ▸ lt_of_block h337
        have n352 : gs < gi := egi ▸ lt_of_block h338
        have n353 : gt < gi := egi ▸ lt_of_block h339
        have n354 : w.heap.size ≤ gi := egi ▸ K340.size
        refine nrq (pT gi 0) (w' := V342) (by rw [← eV342, ← egi]; exact exec_alloc0 38 (by kernel_rfl) (.agg ((Msg.c msgZ))) (by kernel_rfl)) ?_
        clear eV342
        have h355 := kV342.bk h329
        have h356 := kV342.bk h330
        have h357 := kV342.bk h331
        have h358 := kV342.bk h332
        have h359 := kV342.bk h333
        have h360 := kV342.bk h334
        have h361 := kV342.bk h335
        have h362 : SelsAt V342 (.slice (some ⟨sg, 0, none⟩) exL.length sc) exL := h336.keepsN kV342
        have h363 := kV342.bk h337
        have h364 := kV342.bk h338
        have h365 := kV342.bk h339
        have K366 := K340.nn kV342
        have z367 := kV342.size
        refine ⟨h355, ?_⟩
        refine an_o 7 ?_
        obtain ⟨V368, eV368, kV368⟩ := rowset_step V342 gi ((Msg.c msgZ))
        have h369 : V368.heap[gi]? = some (.cells (Msg.c msgZ) 38 (0, 0)) := eV368 ▸ setRow_heap _ _ _ _ _ _ h343
        refine nzq (w' := V368) (by rw [← eV368]; exact exec_store_row 38 (.tmp 12) (.tmp 73) (by kernel_rfl) gi ((Msg.c msgZ)) (by kernel_rfl) (by kernel_rfl) 38 ((Msg.c msgZ)) h343 (by kernel_rfl) (by kernel_rfl) (Msg.c_one _)) ?_
        clear eV368
        have h370 := kV368.bo h355 (by omega)
        have h371 := kV368.bo h356 (by omega)
        have h372 := kV368.bo h357 (by omega)
        have h373 := kV368.bo h358 (by omega)
        have h374 := kV368.bo h359 (by omega)
        have h375 := kV368.bo h360 (by omega)
        have h376 := kV368.bo h361 (by omega)
        have h377 : SelsAt V368 (.slice (some ⟨sg, 0, none⟩) exL.length sc) exL := Sl.keepsB hls0 h362 kV368 (fun j e => by first | (unfold Own.One at e; omega) | omega)
        have h378 := kV368.bo h363 (by omega)
        have h379 := kV368.bo h364 (by omega)
        have h380 := kV368.bo h365 (by omega)
        have K381 := K366.no kV368 (by omega)
        have z382 := kV368.size
        refine ⟨h370, ?_⟩
        refine an_o 8 <| nrq (.bool false) (w' := V368) (by kernel_rfl) ?_
        refine ⟨h370, ?_⟩
        refine an_end (by kernel_rfl) ?_
        exact ⟨rfl, gi, by kernel_rfl, h370, h371, h372, h373, h374, h375, h376, h377, h378, h379, h380, h369, by omega, K381⟩
      · obtain ⟨V383, eV383, gi, egi, h384, kV383⟩ := alloc_step V314 ((Msg.c msgZ)) 38
        have n385 : ga < gi := egi ▸ lt_of_block h315
        have n386 : gb < gi := egi ▸ lt_of_block h316
        have n387 : gw < gi := egi ▸ lt_of_block h317
        have n388 : gx < gi := egi ▸ lt_of_block h318
        have n389 : gy < gi := egi ▸ lt_of_block h319
        have n390 : qa < gi := egi ▸ lt_of_block h320
        have n391 : qb < gi := egi ▸ lt_of_block h321
        have n392 : gd < gi := egi ▸ lt_of_block h323
        have n393 : gs < gi := egi ▸ lt_of_block h324
        have n394 : gt < gi := egi ▸ lt_of_block h325
        have n395 : w.heap.size ≤ gi := egi ▸ K326.size
        refine nrq (pT gi 0) (w' := V383) (by rw [← eV383, ← egi]; exact exec_alloc0 38 (by kernel_rfl) (.agg ((Msg.c msgZ))) (by kernel_rfl)) ?_
        clear eV383
        have h396 := kV383.bk h315
        have h397 := kV383.bk h316
        have h398 := kV383.bk h317
        have h399 := kV383.bk h318
        have h400 := kV383.bk h319
        have h401 := kV383.bk h320
        have h402 := kV383.bk h321
        have h403 : SelsAt V383 (.slice (some ⟨sg, 0, none⟩) exL.length sc) exL := h322.keepsN kV383
        have h404 := kV383.bk h323
        have h405 := kV383.bk h324
        have h406 := kV383.bk h325
        have K407 := K326.nn kV383
        have z408 := kV383.size
        refine ⟨h396, ?_⟩
        refine an_o 2 ?_
        refine ncq 12 #[.agg (Att.c kA), .agg (Att.c (one 2 3 9))] Tryz.func12 ((eProve_is _ a_Ok c_Ok proves_ac).mono ?_)
        rintro e V409 ⟨rfl, kV409⟩
        refine ⟨_, rfl, ?_⟩
        have h410 := kV409.bk h396
        have h411 := kV409.bk h397
        have h412 := kV409.bk h398
        have h413 := kV409.bk h399
        have h414 := kV409.bk h400
        have h415 := kV409.bk h401
        have h416 := kV409.bk h402
        have h417 : SelsAt V409 (.slice (some ⟨sg, 0, none⟩) exL.length sc) exL := h403.keepsN kV409
        have h418 := kV409.bk h404
        have h419 := kV409.bk h405
        have h420 := kV409.bk h406
        have h421 := kV409.bk h384
        have K422 := K407.nn kV409
        have z423 := kV409.size
        refine ⟨h410, ?_⟩
        refine akq 3 (.tuple #[.agg (Msg.c msgZ), .bool false]) h410 <| akq 4 (.agg (Msg.c msgZ)) h410 <| akq 5 (.bool false) h410 <| an_o 7 ?_
        obtain ⟨V424, eV424, kV424⟩ := rowset_step V409 gi ((Msg.c msgZ))
        have h425 : V424.heap[gi]? = some (.cells (Msg.c msgZ) 38 (0, 0)) := eV424 ▸ setRow_heap _ _ _ _ _ _ h421
        refine nzq (w' := V424) (by rw [← eV424]; exact exec_store_row 38 (.tmp 12) (.tmp 73) (by kernel_rfl) gi ((Msg.c msgZ)) (by kernel_rfl) (by kernel_rfl) 38 ((Msg.c msgZ)) h421 (by kernel_rfl) (by kernel_rfl) (Msg.c_one _)) ?_
        clear eV424
        have h426 := kV424.bo h410 (by omega)
        have h427 := kV424.bo h411 (by omega)
        have h428 := kV424.bo h412 (by omega)
        have h429 := kV424.bo h413 (by omega)
        have h430 := kV424.bo h414 (by omega)
        have h431 := kV424.bo h415 (by omega)
        have h432 := kV424.bo h416 (by omega)
        have h433 : SelsAt V424 (.slice (some ⟨sg, 0, none⟩) exL.length sc) exL := Sl.keepsB hls0 h417 kV424 (fun j e => by first | (unfold Own.One at e; omega) | omega)
        have h434 := kV424.bo h418 (by omega)
        have h435 := kV424.bo h419 (by omega)
        have h436 := kV424.bo h420 (by omega)
        have K437 := K422.no kV424 (by omega)
        have z438 := kV424.size
        refine ⟨h426, ?_⟩
        refine an_o 8 <| nrq (.bool false) (w' := V424) (by kernel_rfl) ?_
        refine ⟨h426, ?_⟩
        refine an_end (by kernel_rfl) ?_
        exact ⟨rfl, gi, by kernel_rfl, h426, h427, h428, h429, h430, h431, h432, h433, h434, h435, h436, h425, by omega, K437⟩
    · obtain ⟨V439, eV439, gi, egi, h440, kV439⟩ := alloc_step V300 ((Msg.c msgZ)) 38
      have n441 : ga < gi := egi ▸ lt_of_block h301
      have n442 : gb < gi := egi ▸ lt_of_block h302
      have n443 : gw < gi := egi ▸ lt_of_block h303
      have n444 : gx < gi := egi ▸ lt_of_block h304
      have n445 : gy < gi := egi ▸ lt_of_block h305
      have n446 : qa < gi := egi ▸ lt_of_block h306
      have n447 : qb < gi := egi ▸ lt_of_block h307
      have n448 : gd < gi := egi ▸ lt_of_block h309
      have n449 : gs < gi := egi ▸ lt_of_block h310
      have n450 : gt < gi := egi ▸ lt_of_block h311
      have n451 : w.heap.size ≤ gi := egi ▸ K312.size
      refine nrq (pT gi 0) (w' := V439) (by rw [← eV439, ← egi]; exact exec_alloc0 38 (by kernel_rfl) (.agg ((Msg.c msgZ))) (by kernel_rfl)) ?_
      clear eV439
      have h452 := kV439.bk h301
      have h453 := kV439.bk h302
      have h454 := kV439.bk h303
      have h455 := kV439.bk h304
      have h456 := kV439.bk h305
      have h457 := kV439.bk h306
      have h458 := kV439.bk h307
      have h459 : SelsAt V439 (.slice (some ⟨sg, 0, none⟩) exL.length sc) exL := h308.keepsN kV439
      have h460 := kV439.bk h309
      have h461 := kV439.bk h310
      have h462 := kV439.bk h311
      have K463 := K312.nn kV439
      have z464 := kV439.size
      refine ⟨h452, ?_⟩
      refine an_o 1 ?_
      refine ncq 25 #[.int .i64 2, .int .i64 3, .int .u64 9] Tryz.func25 ((leone_ok 2 3 9 _).mono ?_)
      rintro e V465 ⟨rfl, kV465⟩
      refine ⟨_, rfl, ?_⟩
      have h466 := kV465.bk h452
      have h467 := kV465.bk h453
      have h468 := kV465.bk h454
      have h469 := kV465.bk h455
      have h470 := kV465.bk h456
      have h471 := kV465.bk h457
      have h472 := kV465.bk h458
      have h473 : SelsAt V465 (.slice (some ⟨sg, 0, none⟩) exL.length sc) exL := h459.keepsN kV465
      have h474 := kV465.bk h460
      have h475 := kV465.bk h461
      have h476 := kV465.bk h462
      have h477 := kV465.bk h440
      have K478 := K463.nn kV465
      have z479 := kV465.size
      refine ⟨h466, ?_⟩
      refine an_o 2 ?_
      refine ncq 12 #[.agg (Att.c kA), .agg (Att.c (one 2 3 9))] Tryz.func12 ((eProve_is _ a_Ok c_Ok proves_ac).mono ?_)
      rintro e V480 ⟨rfl, kV480⟩
      refine ⟨_, rfl, ?_⟩
      have h481 := kV480.bk h466
      have h482 := kV480.bk h467
      have h483 := kV480.bk h468
      have h484 := kV480.bk h469
      have h485 := kV480.bk h470
      have h486 := kV480.bk h471
      have h487 := kV480.bk h472
      have h488 : SelsAt V480 (.slice (some ⟨sg, 0, none⟩) exL.length sc) exL := h473.keepsN kV480
      have h489 := kV480.bk h474
      have h490 := kV480.bk h475
      have h491 := kV480.bk h476
      have h492 := kV480.bk h477
      have K493 := K478.nn kV480
      have z494 := kV480.size
      refine ⟨h481, ?_⟩
      refine akq 3 (.tuple #[.agg (Msg.c msgZ), .bool false]) h481 <| akq 4 (.agg (Msg.c msgZ)) h481 <| akq 5 (.bool false) h481 <| an_o 7 ?_
      obtain ⟨V495, eV495, kV495⟩ := rowset_step V480 gi ((Msg.c msgZ))
      have h496 : V495.heap[gi]? = some (.cells (Msg.c msgZ) 38 (0, 0)) := eV495 ▸ setRow_heap _ _ _ _ _ _ h492
      refine nzq (w' := V495) (by rw [← eV495]; exact exec_store_row 38 (.tmp 12) (.tmp 73) (by kernel_rfl) gi ((Msg.c msgZ)) (by kernel_rfl) (by kernel_rfl) 38 ((Msg.c msgZ)) h492 (by kernel_rfl) (by kernel_rfl) (Msg.c_one _)) ?_
      clear eV495
      have h497 := kV495.bo h481 (by omega)
      have h498 := kV495.bo h482 (by omega)
      have h499 := kV495.bo h483 (by omega)
      have h500 := kV495.bo h484 (by omega)
      have h501 := kV495.bo h485 (by omega)
      have h502 := kV495.bo h486 (by omega)
      have h503 := kV495.bo h487 (by omega)
      have h504 : SelsAt V495 (.slice (some ⟨sg, 0, none⟩) exL.length sc) exL := Sl.keepsB hls0 h488 kV495 (fun j e => by first | (unfold Own.One at e; omega) | omega)
      have h505 := kV495.bo h489 (by omega)
      have h506 := kV495.bo h490 (by omega)
      have h507 := kV495.bo h491 (by omega)
      have K508 := K493.no kV495 (by omega)
      have z509 := kV495.size
      refine ⟨h497, ?_⟩
      refine an_o 8 <| nrq (.bool false) (w' := V495) (by kernel_rfl) ?_
      refine ⟨h497, ?_⟩
      refine an_end (by kernel_rfl) ?_
      exact ⟨rfl, gi, by kernel_rfl, h497, h498, h499, h500, h501, h502, h503, h504, h505, h506, h507, h496, by omega, K508⟩
  rintro aQ V510 ⟨gi, rfl, h511, h512, h513, h514, h515, h516, h517, h518, h519, h520, h521, h522, hd523, K524⟩
  have z525 := lt_of_block h522
  refine then_n <| sy_sq (qc83_0 2046) (qc83_0 2047) <| sy_reg <| rg_q 10 [0, 1, 2, 3, 4, 5, 6, 7, 8] <| ppq (.agg (Att.c kA)) (exec_load_row 26 (.tmp 1) (by kernel_rfl) ga (by kernel_rfl) _ _ (0, 0) _ (h511) Tryz.underlying26 rfl (by rw [Att.c_size _ (one_r 2 3 5)]; kernel_rfl)) <| ppq (.agg (Att.c ⟨2, kB.s, kB.t, kB.r, kB.g⟩)) (exec_load_row 26 (.tmp 11) (by kernel_rfl) gt (by kernel_rfl) _ _ (0, 0) _ (h521) Tryz.underlying26 rfl (by rw [Att.c_size (⟨2, kB.s, kB.t, kB.r, kB.g⟩) (one_r 1 3 6)]; kernel_rfl)) ?_
  refine pcq 12 #[.agg (Att.c kA), .agg (Att.c ⟨2, kB.s, kB.t, kB.r, kB.g⟩)] Tryz.func12 ((eProve_is (b := kO) _ a_Ok kO_Ok proves_ao).mono ?_)
  rintro e V526 ⟨rfl, kV526⟩
  refine ⟨_, rfl, ?_⟩
  have h527 := kV526.bk h511
  have h528 := kV526.bk h512
  have h529 := kV526.bk h513
  have h530 := kV526.bk h514
  have h531 := kV526.bk h515
  have h532 := kV526.bk h516
  have h533 := kV526.bk h517
  have h534 : SelsAt V526 (.slice (some ⟨sg, 0, none⟩) exL.length sc) exL := h518.keepsN kV526
  have h535 := kV526.bk h519
  have h536 := kV526.bk h520
  have h537 := kV526.bk h521
  have h538 := kV526.bk h522
  have K539 := K524.nn kV526
  have z540 := kV526.size
  refine pkq (.tuple #[.agg (Msg.c msgZ), .bool false]) <| pkq (.agg (Msg.c msgZ)) <| pkq (.bool false) ?_
  obtain ⟨V541, eV541, gj, egj, h542, kV541⟩ := alloc_step V526 ((Msg.c msgZ)) 38
  have n543 : ga < gj := egj ▸ lt_of_block h527
  have n544 : gb < gj := egj ▸ lt_of_block h528
  have n545 : gw < gj := egj ▸ lt_of_block h529
  have n546 : gx < gj := egj ▸ lt_of_block h530
  have n547 : gy < gj := egj ▸ lt_of_block h531
  have n548 : qa < gj := egj ▸ lt_of_block h532
  have n549 : qb < gj := egj ▸ lt_of_block h533
  have n550 : gd < gj := egj ▸ lt_of_block h535
  have n551 : gs < gj := egj ▸ lt_of_block h536
  have n552 : gt < gj := egj ▸ lt_of_block h537
  have n553 : gi < gj := egj ▸ lt_of_block h538
  have n554 : w.heap.size ≤ gj := egj ▸ K539.size
  refine prq (pT gj 0) (w' := V541) (by rw [← eV541, ← egj]; exact exec_alloc0 38 (by kernel_rfl) (.agg ((Msg.c msgZ))) (by kernel_rfl)) ?_
  clear eV541
  have h555 := kV541.bk h527
  have h556 := kV541.bk h528
  have h557 := kV541.bk h529
  have h558 := kV541.bk h530
  have h559 := kV541.bk h531
  have h560 := kV541.bk h532
  have h561 := kV541.bk h533
  have h562 : SelsAt V541 (.slice (some ⟨sg, 0, none⟩) exL.length sc) exL := h534.keepsN kV541
  have h563 := kV541.bk h535
  have h564 := kV541.bk h536
  have h565 := kV541.bk h537
  have h566 := kV541.bk h538
  have K567 := K539.nn kV541
  have z568 := kV541.size
  obtain ⟨V569, eV569, kV569⟩ := rowset_step V541 gj ((Msg.c msgZ))
  have h570 : V569.heap[gj]? = some (.cells (Msg.c msgZ) 38 (0, 0)) := eV569 ▸ setRow_heap _ _ _ _ _ _ h542
  refine pzq (w' := V569) (by rw [← eV569]; exact exec_store_row 38 (.tmp 14) (.tmp 79) (by kernel_rfl) gj ((Msg.c msgZ)) (by kernel_rfl) (by kernel_rfl) 38 ((Msg.c msgZ)) h542 (by kernel_rfl) (by kernel_rfl) (Msg.c_one _)) ?_
  clear eV569
  have h571 := kV569.bo h555 (by omega)
  have h572 := kV569.bo h556 (by omega)
  have h573 := kV569.bo h557 (by omega)
  have h574 := kV569.bo h558 (by omega)
  have h575 := kV569.bo h559 (by omega)
  have h576 := kV569.bo h560 (by omega)
  have h577 := kV569.bo h561 (by omega)
  have h578 : SelsAt V569 (.slice (some ⟨sg, 0, none⟩) exL.length sc) exL := Sl.keepsB hls0 h562 kV569 (fun j e => by first | (unfold Own.One at e; omega) | omega)
  have h579 := kV569.bo h563 (by omega)
  have h580 := kV569.bo h564 (by omega)
  have h581 := kV569.bo h565 (by omega)
  have h582 := kV569.bo h566 (by omega)
  have K583 := K567.no kV569 (by omega)
  have z584 := kV569.size
  refine pkq (.bool false) <| ps_end <| then_n <| sy_sq (qc83_0 4094) (qc83_0 4095) <| sy_reg <| rg_q 11 [0, 1, 2, 3, 4, 5, 6, 7, 8] <| ppq (.agg (Pro.c kX)) (exec_load_row 28 (.tmp 4) (by kernel_rfl) gx (by kernel_rfl) _ _ (0, 0) _ (h574) Tryz.underlying28 rfl (by rw [Pro.c_size _ (blk1_r 0 8)]; kernel_rfl)) <| ppq (.agg (Pro.c kX)) (exec_load_row 28 (.tmp 4) (by kernel_rfl) gx (by kernel_rfl) _ _ (0, 0) _ (h574) Tryz.underlying28 rfl (by rw [Pro.c_size _ (blk1_r 0 8)]; kernel_rfl)) ?_
  refine pcq 14 #[.agg (Pro.c kX), .agg (Pro.c kX)] Tryz.func14 ((eProveBlock_is _ kX_Ok kX_Ok provesP_xx).mono ?_)
  rintro e V585 ⟨rfl, kV585⟩
  refine ⟨_, rfl, ?_⟩
  have h586 := kV585.bk h571
  have h587 := kV585.bk h572
  have h588 := kV585.bk h573
  have h589 := kV585.bk h574
  have h590 := kV585.bk h575
  have h591 := kV585.bk h576
  have h592 := kV585.bk h577
  have h593 : SelsAt V585 (.slice (some ⟨sg, 0, none⟩) exL.length sc) exL := h578.keepsN kV585
  have h594 := kV585.bk h579
  have h595 := kV585.bk h580
  have h596 := kV585.bk h581
  have h597 := kV585.bk h582
  have h598 := kV585.bk h570
  have K599 := K583.nn kV585
  have z600 := kV585.size
  refine pkq (.tuple #[.agg (Msg.c msgZ), .bool false]) <| pkq (.agg (Msg.c msgZ)) <| pkq (.bool false) ?_
  obtain ⟨V601, eV601, gk, egk, h602, kV601⟩ := alloc_step V585 ((Msg.c msgZ)) 38
  have n603 : ga < gk := egk ▸ lt_of_block h586
  have n604 : gb < gk := egk ▸ lt_of_block h587
  have n605 : gw < gk := egk ▸ lt_of_block h588
  have n606 : gx < gk := egk ▸ lt_of_block h589
  have n607 : gy < gk := egk ▸ lt_of_block h590
  have n608 : qa < gk := egk ▸ lt_of_block h591
  have n609 : qb < gk := egk ▸ lt_of_block h592
  have n610 : gd < gk := egk ▸ lt_of_block h594
  have n611 : gs < gk := egk ▸ lt_of_block h595
  have n612 : gt < gk := egk ▸ lt_of_block h596
  have n613 : gi < gk := egk ▸ lt_of_block h597
  have n614 : gj < gk := egk ▸ lt_of_block h598
  have n615 : w.heap.size ≤ gk := egk ▸ K599.size
  refine prq (pT gk 0) (w' := V601) (by rw [← eV601, ← egk]; exact exec_alloc0 38 (by kernel_rfl) (.agg ((Msg.c msgZ))) (by kernel_rfl)) ?_
  clear eV601
  have h616 := kV601.bk h586
  have h617 := kV601.bk h587
  have h618 := kV601.bk h588
  have h619 := kV601.bk h589
  have h620 := kV601.bk h590
  have h621 := kV601.bk h591
  have h622 := kV601.bk h592
  have h623 : SelsAt V601 (.slice (some ⟨sg, 0, none⟩) exL.length sc) exL := h593.keepsN kV601
  have h624 := kV601.bk h594
  have h625 := kV601.bk h595
  have h626 := kV601.bk h596
  have h627 := kV601.bk h597
  have h628 := kV601.bk h598
  have K629 := K599.nn kV601
  have z630 := kV601.size
  obtain ⟨V631, eV631, kV631⟩ := rowset_step V601 gk ((Msg.c msgZ))
  have h632 : V631.heap[gk]? = some (.cells (Msg.c msgZ) 38 (0, 0)) := eV631 ▸ setRow_heap _ _ _ _ _ _ h602
  refine pzq (w' := V631) (by rw [← eV631]; exact exec_store_row 38 (.tmp 16) (.tmp 85) (by kernel_rfl) gk ((Msg.c msgZ)) (by kernel_rfl) (by kernel_rfl) 38 ((Msg.c msgZ)) h602 (by kernel_rfl) (by kernel_rfl) (Msg.c_one _)) ?_
  clear eV631
  have h633 := kV631.bo h616 (by omega)
  have h634 := kV631.bo h617 (by omega)
  have h635 := kV631.bo h618 (by omega)
  have h636 := kV631.bo h619 (by omega)
  have h637 := kV631.bo h620 (by omega)
  have h638 := kV631.bo h621 (by omega)
  have h639 := kV631.bo h622 (by omega)
  have h640 : SelsAt V631 (.slice (some ⟨sg, 0, none⟩) exL.length sc) exL := Sl.keepsB hls0 h623 kV631 (fun j e => by first | (unfold Own.One at e; omega) | omega)
  have h641 := kV631.bo h624 (by omega)
  have h642 := kV631.bo h625 (by omega)
  have h643 := kV631.bo h626 (by omega)
  have h644 := kV631.bo h627 (by omega)
  have h645 := kV631.bo h628 (by omega)
  have K646 := K629.no kV631 (by omega)
  have z647 := kV631.size
  refine pkq (.bool false) <| ps_end <| then_n <| sy_sq (qc83_0 8190) (qc83_0 8191) <| sy_reg <| rg_q 12 [0, 1, 2, 3, 4] <| ppq (.agg (Att.c kB)) (exec_load_row 26 (.tmp 2) (by kernel_rfl) gb (by kernel_rfl) _ _ (0, 0) _ (h634) Tryz.underlying26 rfl (by rw [Att.c_size _ (one_r 1 3 6)]; kernel_rfl)) <| ppq (.agg (Att.c kA)) (exec_load_row 26 (.tmp 1) (by kernel_rfl) ga (by kernel_rfl) _ _ (0, 0) _ (h633) Tryz.underlying26 rfl (by rw [Att.c_size _ (one_r 2 3 5)]; kernel_rfl)) <| ppq (.agg (Msg.c exN)) (exec_build_fill 38 #[(0, .const (.int .i64 8)), (8, .const (.int .i64 2)), (9, .tmp 87), (10, .tmp 88)] (by kernel_rfl) [(0, .int .i64 8), (8, .int .i64 2), (9, .agg (Att.c kB)), (10, .agg (Att.c kA))] (by kernel_rfl) _ Tryz.underlying38 (.agg msgZ.c) (fun _ => by kernel_rfl) #[(0, 1), (1, 1), (2, 1), (3, 1), (4, 1), (5, 1), (6, 4), (10, 1), (11, 1), (12, 36), (48, 36), (84, 35), (119, 35)] (fun _ => by kernel_rfl) _ (fill_pf 2 kB kA b_Ok.r a_Ok.r)) ?_
  obtain ⟨V648, eV648, gn, egn, h649, kV648⟩ := alloc_step V631 ((Msg.c msgZ)) 38
  have n650 : ga < gn := egn ▸ lt_of_block h633
  have n651 : gb < gn := egn ▸ lt_of_block h634
  have n652 : gw < gn := egn ▸ lt_of_block h635
  have n653 : gx < gn := egn ▸ lt_of_block h636
  have n654 : gy < gn := egn ▸ lt_of_block h637
  have n655 : qa < gn := egn ▸ lt_of_block h638
  have n656 : qb < gn := egn ▸ lt_of_block h639
  have n657 : gd < gn := egn ▸ lt_of_block h641
  have n658 : gs < gn := egn ▸ lt_of_block h642
  have n659 : gt < gn := egn ▸ lt_of_block h643
  have n660 : gi < gn := egn ▸ lt_of_block h644
  have n661 : gj < gn := egn ▸ lt_of_block h645
  have n662 : gk < gn := egn ▸ lt_of_block h632
  have n663 : w.heap.size ≤ gn := egn ▸ K646.size
  refine prq (pT gn 0) (w' := V648) (by rw [← eV648, ← egn]; exact exec_alloc0 38 (by kernel_rfl) (.agg ((Msg.c msgZ))) (by kernel_rfl)) ?_
  clear eV648
  have h664 := kV648.bk h633
  have h665 := kV648.bk h634
  have h666 := kV648.bk h635
  have h667 := kV648.bk h636
  have h668 := kV648.bk h637
  have h669 := kV648.bk h638
  have h670 := kV648.bk h639
  have h671 : SelsAt V648 (.slice (some ⟨sg, 0, none⟩) exL.length sc) exL := h640.keepsN kV648
  have h672 := kV648.bk h641
  have h673 := kV648.bk h642
  have h674 := kV648.bk h643
  have h675 := kV648.bk h644
  have h676 := kV648.bk h645
  have h677 := kV648.bk h632
  have K678 := K646.nn kV648
  have z679 := kV648.size
  obtain ⟨V680, eV680, kV680⟩ := rowset_step V648 gn ((Msg.c exN))
  have h681 : V680.heap[gn]? = some (.cells (Msg.c exN) 38 (0, 0)) := eV680 ▸ setRow_heap _ _ _ _ _ _ h649
  refine pzq (w' := V680) (by rw [← eV680]; exact exec_store_row 38 (.tmp 18) (.tmp 89) (by kernel_rfl) gn ((Msg.c exN)) (by kernel_rfl) (by kernel_rfl) 38 ((Msg.c msgZ)) h649 (by kernel_rfl) (by kernel_rfl) (Msg.c_one _)) ?_
  clear eV680
  have h682 := kV680.bo h664 (by omega)
  have h683 := kV680.bo h665 (by omega)
  have h684 := kV680.bo h666 (by omega)
  have h685 := kV680.bo h667 (by omega)
  have h686 := kV680.bo h668 (by omega)
  have h687 := kV680.bo h669 (by omega)
  have h688 := kV680.bo h670 (by omega)
  have h689 : SelsAt V680 (.slice (some ⟨sg, 0, none⟩) exL.length sc) exL := Sl.keepsB hls0 h671 kV680 (fun j e => by first | (unfold Own.One at e; omega) | omega)
  have h690 := kV680.bo h672 (by omega)
  have h691 := kV680.bo h673 (by omega)
  have h692 := kV680.bo h674 (by omega)
  have h693 := kV680.bo h675 (by omega)
  have h694 := kV680.bo h676 (by omega)
  have h695 := kV680.bo h677 (by omega)
  have K696 := K678.no kV680 (by omega)
  have z697 := kV680.size
  refine ps_end <| then_n <| sy_sq (qc83_0 16382) (qc83_0 16383) <| sy_reg <| rg_q 13 [0, 1, 2] <| ppq (.agg (Msg.c exD)) (exec_load_row 38 (.tmp 7) (by kernel_rfl) gd (by kernel_rfl) _ _ (0, 0) _ (h690) Tryz.underlying38 rfl (by rw [Msg.c_size exD_Ok.R]; kernel_rfl)) ?_
  obtain ⟨V698, eV698, gp, egp, h699, kV698⟩ := alloc_step V680 ((Msg.c msgZ)) 38
  have n700 : ga < gp := egp ▸ lt_of_block h682
  have n701 : gb < gp := egp ▸ lt_of_block h683
  have n702 : gw < gp := egp ▸ lt_of_block h684
  have n703 : gx < gp := egp ▸ lt_of_block h685
  have n704 : gy < gp := egp ▸ lt_of_block h686
  have n705 : qa < gp := egp ▸ lt_of_block h687
  have n706 : qb < gp := egp ▸ lt_of_block h688
  have n707 : gd < gp := egp ▸ lt_of_block h690
  have n708 : gs < gp := egp ▸ lt_of_block h691
  have n709 : gt < gp := egp ▸ lt_of_block h692
  have n710 : gi < gp := egp ▸ lt_of_block h693
  have n711 : gj < gp := egp ▸ lt_of_block h694
  have n712 : gk < gp := egp ▸ lt_of_block h695
  have n713 : gn < gp := egp ▸ lt_of_block h681
  have n714 : w.heap.size ≤ gp := egp ▸ K696.size
  refine prq (pT gp 0) (w' := V698) (by rw [← eV698, ← egp]; exact exec_alloc0 38 (by kernel_rfl) (.agg ((Msg.c msgZ))) (by kernel_rfl)) ?_
  clear eV698
  have h715 := kV698.bk h682
  have h716 := kV698.bk h683
  have h717 := kV698.bk h684
  have h718 := kV698.bk h685
  have h719 := kV698.bk h686
  have h720 := kV698.bk h687
  have h721 := kV698.bk h688
  have h722 : SelsAt V698 (.slice (some ⟨sg, 0, none⟩) exL.length sc) exL := h689.keepsN kV698
  have h723 := kV698.bk h690
  have h724 := kV698.bk h691
  have h725 := kV698.bk h692
  have h726 := kV698.bk h693
  have h727 := kV698.bk h694
  have h728 := kV698.bk h695
  have h729 := kV698.bk h681
  have K730 := K696.nn kV698
  have z731 := kV698.size
  obtain ⟨V732, eV732, kV732⟩ := rowset_step V698 gp ((Msg.c exD))
  have h733 : V732.heap[gp]? = some (.cells (Msg.c exD) 38 (0, 0)) := eV732 ▸ setRow_heap _ _ _ _ _ _ h699
  refine pzq (w' := V732) (by rw [← eV732]; exact exec_store_row 38 (.tmp 19) (.tmp 90) (by kernel_rfl) gp ((Msg.c exD)) (by kernel_rfl) (by kernel_rfl) 38 ((Msg.c msgZ)) h699 (by kernel_rfl) (by kernel_rfl) (Msg.c_one _)) ?_
  clear eV732
  have h734 := kV732.bo h715 (by omega)
  have h735 := kV732.bo h716 (by omega)
  have h736 := kV732.bo h717 (by omega)
  have h737 := kV732.bo h718 (by omega)
  have h738 := kV732.bo h719 (by omega)
  have h739 := kV732.bo h720 (by omega)
  have h740 := kV732.bo h721 (by omega)
  have h741 : SelsAt V732 (.slice (some ⟨sg, 0, none⟩) exL.length sc) exL := Sl.keepsB hls0 h722 kV732 (fun j e => by first | (unfold Own.One at e; omega) | omega)
  have h742 := kV732.bo h723 (by omega)
  have h743 := kV732.bo h724 (by omega)
  have h744 := kV732.bo h725 (by omega)
  have h745 := kV732.bo h726 (by omega)
  have h746 := kV732.bo h727 (by omega)
  have h747 := kV732.bo h728 (by omega)
  have h748 := kV732.bo h729 (by omega)
  have K749 := K730.no kV732 (by omega)
  have z750 := kV732.size
  refine ps_end <| sy_a ⟨#[.bool false, pT ga 0, pT gb 0, pT gw 0, pT gx 0, pT gy 0, .slice (some ⟨sg, 0, none⟩) exL.length sc, pT gd 0, .bool true, pT gs 0, .bool true, pT gt 0, pT gi 0, .bool false, pT gj 0, .bool false, pT gk 0, .bool false, pT gn 0, pT gp 0, ud, ud, ud, ud, ud, ud, ud, ud, ud, ud, .agg (Att.c (one 2 3 5)), .agg (Att.c (one 1 3 6)), .agg (Att.c (one 1 4 7)), .agg (Pro.c (blk1 0 8)), .agg (Pro.c (blk1 1 9)), .agg (Att.c kA), .agg (Att.c kB), .agg (Att.c kW), .slice (some ⟨qa, 0, none⟩) 3 3, .agg (Pro.c kX), .agg (Pro.c kY), .slice (some ⟨qb, 0, none⟩) 2 2, .slice (some ⟨sg, 0, none⟩) exL.length sc, .tuple #[.agg (Msg.c exD), .bool true], .agg (Att.c kA), .agg (Att.c kB), .tuple #[.agg (Msg.c exD), .bool true], .agg (Msg.c exD), .bool true, .tuple #[.agg (Msg.c exS), .bool true], .agg (Pro.c kX), .agg (Pro.c kY), .tuple #[.agg (Msg.c exS), .bool true], .agg (Msg.c exS), .bool true, .slice (some ⟨sg, 0, none⟩) exL.length sc, iN exL.length, .bool false, .bool false, .bool true, .bool false, .bool false, .bool false, .agg (Msg.c exS), .bool true, .bool false, .bool false, .agg (Att.c kB), pT gt 0, .tuple #[.agg (Msg.c msgZ), .bool false], .agg (Att.c kA), .agg (Att.c (one 2 3 9)), .tuple #[.agg (Msg.c msgZ), .bool false], .agg (Msg.c msgZ), .bool false, .tuple #[.agg (Msg.c msgZ), .bool false], .agg (Att.c kA), .agg (Att.c ⟨2, kB.s, kB.t, kB.r, kB.g⟩), .tuple #[.agg (Msg.c msgZ), .bool false], .agg (Msg.c msgZ), .bool false, .tuple #[.agg (Msg.c msgZ), .bool false], .agg (Pro.c kX), .agg (Pro.c kX), .tuple #[.agg (Msg.c msgZ), .bool false], .agg (Msg.c msgZ), .bool false, .agg (Att.c kB), .agg (Att.c kA), .agg (Msg.c exN), .agg (Msg.c exD), ud, ud, ud, ud, ud, ud, ud, ud, ud, ud, ud, ud, ud, ud, ud, ud, ud, ud, ud, ud, ud, ud, ud, ud, ud, ud, ud, ud, ud, ud, ud, ud, ud, ud, ud, ud, ud, ud, ud, ud, ud, ud, ud, ud, ud, ud, ud, ud, ud, ud, ud, ud, ud, ud, ud, ud, ud, ud, ud, ud, ud, ud, ud, ud, ud, ud, ud, ud, ud, ud, ud, ud, ud, ud, ud, ud, ud, ud, ud, ud, ud, ud, ud, ud, ud, ud, ud, ud, ud, ud, ud, ud, ud, ud, ud, ud, ud, ud, ud, ud], []⟩ <| then_n <| sy_sq (qc83_0 32766) (qc83_0 32767) <| sy_reg <| rg_q 14 [0, 1] <| pkq (pT gp 11) ?_
  obtain ⟨V751, eV751, kV751⟩ := cell_step V732 gp 11 (.int .i64 4)
  have h752 : V751.heap[gp]? = some (.cells (Msg.c (NF.set exD 4 .pf)) 38 (0, 0)) := eV751 ▸ ((heap_setCell_same _ gp 11 _ _ (.int .i64 4) h733).trans (congrArg (fun c => some (Obj.cells c 38 (0, 0))) (show (Msg.c exD : Array Value).setIfInBounds 11 (.int .i64 4) = Msg.c (NF.set exD 4 .pf) from Msg.set_n exD_Ok.R NF.pf _)))
  refine pzq (w' := V751) (by rw [← eV751]; exact exec_store_cell 3 (.tmp 91) (.const (.int .i64 4)) (by kernel_rfl) gp 11 (by kernel_rfl) (.int .i64 4) (by kernel_rfl) (by kernel_rfl) (by kernel_rfl) (.int .i64 exD.pf) (rc (h733) (Msg.get_n exD_Ok.R NF.pf)) (frozen_of_row _ _ _ _ _ h733) (by kernel_rfl)) ?_
  clear eV751
  have h753 := kV751.bo h734 (by omega)
  have h754 := kV751.bo h735 (by omega)
  have h755 := kV751.bo h736 (by omega)
  have h756 := kV751.bo h737 (by omega)
  have h757 := kV751.bo h738 (by omega)
  have h758 := kV751.bo h739 (by omega)
  have h759 := kV751.bo h740 (by omega)
  have h760 : SelsAt V751 (.slice (some ⟨sg, 0, none⟩) exL.length sc) exL := Sl.keepsB hls0 h741 kV751 (fun j e => by first | (unfold Own.One at e; omega) | omega)
  have h761 := kV751.bo h742 (by omega)
  have h762 := kV751.bo h743 (by omega)
  have h763 := kV751.bo h744 (by omega)
  have h764 := kV751.bo h745 (by omega)
  have h765 := kV751.bo h746 (by omega)
  have h766 := kV751.bo h747 (by omega)
  have h767 := kV751.bo h748 (by omega)
  have K768 := K749.no kV751 (by omega)
  have z769 := kV751.size
  refine ps_end <| then_n <| sy_sq (qc83_0 65534) (qc83_0 65535) <| sy_np <| sy_reg <| an_begin 15 23 (opsAt (qc83_0 65534)) (fun W => (W.heap[gn]? = some (.cells (Msg.c exN) 38 (0, 0))) ∧ (W.heap[gp]? = some (.cells (Msg.c (NF.set exD 4 .pf)) 38 (0, 0))) ∧ (W.heap[gd]? = some (.cells (Msg.c exD) 38 (0, 0)))) #[false, false, false, false, false, false, false, false, false, false, false, false, false, false, false, false, false, false, false, false, false, false, false] (by kernel_rfl) (by kernel_rfl) (by kernel_rfl) (by kernel_rfl) ?_
  obtain ⟨V770, eV770, kV770⟩ := drew_step V751
  rw [eV770]
  clear eV770
  have h771 := kV770.bk h753
  have h772 := kV770.bk h754
  have h773 := kV770.bk h755
  have h774 := kV770.bk h756
  have h775 := kV770.bk h757
  have h776 := kV770.bk h758
  have h777 := kV770.bk h759
  have h778 : SelsAt V770 (.slice (some ⟨sg, 0, none⟩) exL.length sc) exL := h760.keepsN kV770
  have h779 := kV770.bk h761
  have h780 := kV770.bk h762
  have h781 := kV770.bk h763
  have h782 := kV770.bk h764
  have h783 := kV770.bk h765
  have h784 := kV770.bk h766
  have h785 := kV770.bk h767
  have h786 := kV770.bk h752
  have K787 := K768.nn kV770
  have z788 := kV770.size
  refine avq 1 (.agg (Msg.c exN)) (fun W hS => exec_load_row 38 (.tmp 18) (by kernel_rfl) gn (by kernel_rfl) _ _ (0, 0) _ (hS.1) Tryz.underlying38 rfl (by rw [Msg.c_size exN_Ok.R]; kernel_rfl)) ⟨h785, h786, h779⟩ <| an_o 0 ?_
  refine ncq 30 #[] Tryz.func30 ((lechapter_ok _).mono ?_)
  rintro e V789 ⟨rfl, kV789⟩
  refine ⟨_, rfl, ?_⟩
  have h790 := kV789.bk h771
  have h791 := kV789.bk h772
  have h792 := kV789.bk h773
  have h793 := kV789.bk h774
  have h794 := kV789.bk h775
  have h795 := kV789.bk h776
  have h796 := kV789.bk h777
  have h797 : SelsAt V789 (.slice (some ⟨sg, 0, none⟩) exL.length sc) exL := h778.keepsN kV789
  have h798 := kV789.bk h779
  have h799 := kV789.bk h780
  have h800 := kV789.bk h781
  have h801 := kV789.bk h782
  have h802 := kV789.bk h783
  have h803 := kV789.bk h784
  have h804 := kV789.bk h785
  have h805 := kV789.bk h786
  have K806 := K787.nn kV789
  have z807 := kV789.size
  refine ⟨⟨h804, h805, h798⟩, ?_⟩
  refine an_o 2 ?_
  refine ncq 29 #[.agg chPar.cells, .agg (Msg.c exN)] Tryz.func29 ((lerefused_ok chPar exN 18 _ chPar_ok exN_Ok exN_off).mono ?_)
  rintro e V808 ⟨rfl, kV808⟩
  refine ⟨_, rfl, ?_⟩
  have h809 := kV808.bk h790
  have h810 := kV808.bk h791
  have h811 := kV808.bk h792
  have h812 := kV808.bk h793
  have h813 := kV808.bk h794
  have h814 := kV808.bk h795
  have h815 := kV808.bk h796
  have h816 : SelsAt V808 (.slice (some ⟨sg, 0, none⟩) exL.length sc) exL := h797.keepsN kV808
  have h817 := kV808.bk h798
  have h818 := kV808.bk h799
  have h819 := kV808.bk h800
  have h820 := kV808.bk h801
  have h821 := kV808.bk h802
  have h822 := kV808.bk h803
  have h823 := kV808.bk h804
  have h824 := kV808.bk h805
  have K825 := K806.nn kV808
  have z826 := kV808.size
  refine ⟨⟨h823, h824, h817⟩, ?_⟩
  refine akq 3 (.bool true) ⟨h823, h824, h817⟩ <| akq 4 (.bool true) ⟨h823, h824, h817⟩ <| akq 6 (.agg (Msg.c (onlyK 10))) ⟨h823, h824, h817⟩ <| an_o 5 ?_
  refine ncq 30 #[] Tryz.func30 ((lechapter_ok _).mono ?_)
  rintro e V827 ⟨rfl, kV827⟩
  refine ⟨_, rfl, ?_⟩
  have h828 := kV827.bk h809
  have h829 := kV827.bk h810
  have h830 := kV827.bk h811
  have h831 := kV827.bk h812
  have h832 := kV827.bk h813
  have h833 := kV827.bk h814
  have h834 := kV827.bk h815
  have h835 : SelsAt V827 (.slice (some ⟨sg, 0, none⟩) exL.length sc) exL := h816.keepsN kV827
  have h836 := kV827.bk h817
  have h837 := kV827.bk h818
  have h838 := kV827.bk h819
  have h839 := kV827.bk h820
  have h840 := kV827.bk h821
  have h841 := kV827.bk h822
  have h842 := kV827.bk h823
  have h843 := kV827.bk h824
  have K844 := K825.nn kV827
  have z845 := kV827.size
  refine ⟨⟨h842, h843, h836⟩, ?_⟩
  refine an_o 7 ?_
  refine ncq 29 #[.agg chPar.cells, .agg (Msg.c (onlyK 10))] Tryz.func29 ((lerefused_ok chPar (onlyK 10) 5 _ chPar_ok exC_Ok exC_off).mono ?_)
  rintro e V846 ⟨rfl, kV846⟩
  refine ⟨_, rfl, ?_⟩
  have h847 := kV846.bk h828
  have h848 := kV846.bk h829
  have h849 := kV846.bk h830
  have h850 := kV846.bk h831
  have h851 := kV846.bk h832
  have h852 := kV846.bk h833
  have h853 := kV846.bk h834
  have h854 : SelsAt V846 (.slice (some ⟨sg, 0, none⟩) exL.length sc) exL := h835.keepsN kV846
  have h855 := kV846.bk h836
  have h856 := kV846.bk h837
  have h857 := kV846.bk h838
  have h858 := kV846.bk h839
  have h859 := kV846.bk h840
  have h860 := kV846.bk h841
  have h861 := kV846.bk h842
  have h862 := kV846.bk h843
  have K863 := K844.nn kV846
  have z864 := kV846.size
  refine ⟨⟨h861, h862, h855⟩, ?_⟩
  refine akq 8 (.bool true) ⟨h861, h862, h855⟩ <| akq 9 (.bool true) ⟨h861, h862, h855⟩ <| akq 10 (.bool true) ⟨h861, h862, h855⟩ <| avq 12 (.agg (Msg.c (NF.set exD 4 .pf))) (fun W hS => exec_load_row 38 (.tmp 19) (by kernel_rfl) gp (by kernel_rfl) _ _ (0, 0) _ (hS.2.1) Tryz.underlying38 rfl (by rw [Msg.c_size (NF.R exD_Ok.R)]; kernel_rfl)) ⟨h861, h862, h855⟩ <| an_o 11 ?_
  refine ncq 30 #[] Tryz.func30 ((lechapter_ok _).mono ?_)
  rintro e V865 ⟨rfl, kV865⟩
  refine ⟨_, rfl, ?_⟩
  have h866 := kV865.bk h847
  have h867 := kV865.bk h848
  have h868 := kV865.bk h849
  have h869 := kV865.bk h850
  have h870 := kV865.bk h851
  have h871 := kV865.bk h852
  have h872 := kV865.bk h853
  have h873 : SelsAt V865 (.slice (some ⟨sg, 0, none⟩) exL.length sc) exL := h854.keepsN kV865
  have h874 := kV865.bk h855
  have h875 := kV865.bk h856
  have h876 := kV865.bk h857
  have h877 := kV865.bk h858
  have h878 := kV865.bk h859
  have h879 := kV865.bk h860
  have h880 := kV865.bk h861
  have h881 := kV865.bk h862
  have K882 := K863.nn kV865
  have z883 := kV865.size
  refine ⟨⟨h880, h881, h874⟩, ?_⟩
  refine an_o 13 ?_
  refine ncq 29 #[.agg chPar.cells, .agg (Msg.c (NF.set exD 4 .pf))] Tryz.func29 ((lerefused_ok chPar (NF.set exD 4 .pf) 5 _ chPar_ok exO_Ok exO_off).mono ?_)
  rintro e V884 ⟨rfl, kV884⟩
  refine ⟨_, rfl, ?_⟩
  have h885 := kV884.bk h866
  have h886 := kV884.bk h867
  have h887 := kV884.bk h868
  have h888 := kV884.bk h869
  have h889 := kV884.bk h870
  have h890 := kV884.bk h871
  have h891 := kV884.bk h872
  have h892 : SelsAt V884 (.slice (some ⟨sg, 0, none⟩) exL.length sc) exL := h873.keepsN kV884
  have h893 := kV884.bk h874
  have h894 := kV884.bk h875
  have h895 := kV884.bk h876
  have h896 := kV884.bk h877
  have h897 := kV884.bk h878
  have h898 := kV884.bk h879
  have h899 := kV884.bk h880
  have h900 := kV884.bk h881
  have K901 := K882.nn kV884
  have z902 := kV884.size
  refine ⟨⟨h899, h900, h893⟩, ?_⟩
  refine akq 14 (.bool true) ⟨h899, h900, h893⟩ <| akq 15 (.bool true) ⟨h899, h900, h893⟩ <| akq 16 (.bool true) ⟨h899, h900, h893⟩ <| akq 17 (.agg parZ.cells) ⟨h899, h900, h893⟩ <| avq 18 (.agg (Msg.c exD)) (fun W hS => exec_load_row 38 (.tmp 7) (by kernel_rfl) gd (by kernel_rfl) _ _ (0, 0) _ (hS.2.2) Tryz.underlying38 rfl (by rw [Msg.c_size exD_Ok.R]; kernel_rfl)) ⟨h899, h900, h893⟩ <| an_o 19 ?_
  refine ncq 29 #[.agg parZ.cells, .agg (Msg.c exD)] Tryz.func29 ((lerefused_ok parZ exD 3 _ parZ_ok exD_Ok exD_offZ).mono ?_)
  rintro e V903 ⟨rfl, kV903⟩
  refine ⟨_, rfl, ?_⟩
  have h904 := kV903.bk h885
  have h905 := kV903.bk h886
  have h906 := kV903.bk h887
  have h907 := kV903.bk h888
  have h908 := kV903.bk h889
  have h909 := kV903.bk h890
  have h910 := kV903.bk h891
  have h911 : SelsAt V903 (.slice (some ⟨sg, 0, none⟩) exL.length sc) exL := h892.keepsN kV903
  have h912 := kV903.bk h893
  have h913 := kV903.bk h894
  have h914 := kV903.bk h895
  have h915 := kV903.bk h896
  have h916 := kV903.bk h897
  have h917 := kV903.bk h898
  have h918 := kV903.bk h899
  have h919 := kV903.bk h900
  have K920 := K901.nn kV903
  have z921 := kV903.size
  refine ⟨⟨h918, h919, h912⟩, ?_⟩
  refine akq 20 (.bool true) ⟨h918, h919, h912⟩ <| akq 21 (.bool true) ⟨h918, h919, h912⟩ <| an_o 22 <| nrq (.bool true) (w' := V903) (by kernel_rfl) ?_
  refine ⟨⟨h918, h919, h912⟩, ?_⟩
  refine an_end (by kernel_rfl) <| sy_a ⟨#[.bool false, pT ga 0, pT gb 0, pT gw 0, pT gx 0, pT gy 0, .slice (some ⟨sg, 0, none⟩) exL.length sc, pT gd 0, .bool true, pT gs 0, .bool true, pT gt 0, pT gi 0, .bool false, pT gj 0, .bool false, pT gk 0, .bool false, pT gn 0, pT gp 0, .bool true, ud, ud, ud, ud, ud, ud, ud, ud, ud, .agg (Att.c (one 2 3 5)), .agg (Att.c (one 1 3 6)), .agg (Att.c (one 1 4 7)), .agg (Pro.c (blk1 0 8)), .agg (Pro.c (blk1 1 9)), .agg (Att.c kA), .agg (Att.c kB), .agg (Att.c kW), .slice (some ⟨qa, 0, none⟩) 3 3, .agg (Pro.c kX), .agg (Pro.c kY), .slice (some ⟨qb, 0, none⟩) 2 2, .slice (some ⟨sg, 0, none⟩) exL.length sc, .tuple #[.agg (Msg.c exD), .bool true], .agg (Att.c kA), .agg (Att.c kB), .tuple #[.agg (Msg.c exD), .bool true], .agg (Msg.c exD), .bool true, .tuple #[.agg (Msg.c exS), .bool true], .agg (Pro.c kX), .agg (Pro.c kY), .tuple #[.agg (Msg.c exS), .bool true], .agg (Msg.c exS), .bool true, .slice (some ⟨sg, 0, none⟩) exL.length sc, iN exL.length, .bool false, .bool false, .bool true, .bool false, .bool false, .bool false, .agg (Msg.c exS), .bool true, .bool false, .bool false, .agg (Att.c kB), pT gt 0, .tuple #[.agg (Msg.c msgZ), .bool false], .agg (Att.c kA), .agg (Att.c (one 2 3 9)), .tuple #[.agg (Msg.c msgZ), .bool false], .agg (Msg.c msgZ), .bool false, .tuple #[.agg (Msg.c msgZ), .bool false], .agg (Att.c kA), .agg (Att.c ⟨2, kB.s, kB.t, kB.r, kB.g⟩), .tuple #[.agg (Msg.c msgZ), .bool false], .agg (Msg.c msgZ), .bool false, .tuple #[.agg (Msg.c msgZ), .bool false], .agg (Pro.c kX), .agg (Pro.c kX), .tuple #[.agg (Msg.c msgZ), .bool false], .agg (Msg.c msgZ), .bool false, .agg (Att.c kB), .agg (Att.c kA), .agg (Msg.c exN), .agg (Msg.c exD), pT gp 11, .agg chPar.cells, .agg (Msg.c exN), .int .i64 18, .bool true, .bool true, .agg chPar.cells, .agg (Msg.c (onlyK 10)), .int .i64 5, .bool true, .bool true, .bool true, .agg chPar.cells, .agg (Msg.c (NF.set exD 4 .pf)), .int .i64 5, .bool true, .bool true, .bool true, .agg parZ.cells, .agg (Msg.c exD), .int .i64 3, .bool true, .bool true, ud, ud, ud, ud, ud, ud, ud, ud, ud, ud, ud, ud, ud, ud, ud, ud, ud, ud, ud, ud, ud, ud, ud, ud, ud, ud, ud, ud, ud, ud, ud, ud, ud, ud, ud, ud, ud, ud, ud, ud, ud, ud, ud, ud, ud, ud, ud, ud, ud, ud, ud, ud, ud, ud, ud, ud, ud, ud, ud, ud, ud, ud, ud, ud, ud, ud, ud, ud, ud, ud, ud, ud, ud, ud, ud, ud, ud], []⟩ <| then_n <| sy_sq (qc83_0 131070) (qc83_0 131071) ?_
  refine sy_cut (fun aQ VQ => ∃ (q1 : Nat), (aQ = ⟨#[.bool false, .pointer (some ⟨ga, 0, none⟩), .pointer (some ⟨gb, 0, none⟩), .pointer (some ⟨gw, 0, none⟩), .pointer (some ⟨gx, 0, none⟩), .pointer (some ⟨gy, 0, none⟩), .slice (some ⟨sg, 0, none⟩) exL.length sc, .pointer (some ⟨gd, 0, none⟩), .bool true, .pointer (some ⟨gs, 0, none⟩), .bool true, .pointer (some ⟨gt, 0, none⟩), .pointer (some ⟨gi, 0, none⟩), .bool false, .pointer (some ⟨gj, 0, none⟩), .bool false, .pointer (some ⟨gk, 0, none⟩), .bool false, .pointer (some ⟨gn, 0, none⟩), .pointer (some ⟨gp, 0, none⟩), .bool true, .pointer (some ⟨q1, 0, none⟩), .int .i64 0, ud, ud, ud, ud, ud, ud, ud, .agg (Att.c (one 2 3 5)), .agg (Att.c (one 1 3 6)), .agg (Att.c (one 1 4 7)), .agg (Pro.c (blk1 0 8)), .agg (Pro.c (blk1 1 9)), .agg (Att.c kA), .agg (Att.c kB), .agg (Att.c kW), .slice (some ⟨qa, 0, none⟩) 3 3, .agg (Pro.c kX), .agg (Pro.c kY), .slice (some ⟨qb, 0, none⟩) 2 2, .slice (some ⟨sg, 0, none⟩) exL.length sc, .tuple #[.agg (Msg.c exD), .bool true], .agg (Att.c kA), .agg (Att.c kB), .tuple #[.agg (Msg.c exD), .bool true], .agg (Msg.c exD), .bool true, .tuple #[.agg (Msg.c exS), .bool true], .agg (Pro.c kX), .agg (Pro.c kY), .tuple #[.agg (Msg.c exS), .bool true], .agg (Msg.c exS), .bool true, .slice (some ⟨sg, 0, none⟩) exL.length sc, .int .i64 ((exL.length : Nat) : Int), .bool false, .bool false, .bool true, .bool false, .bool false, .bool false, .agg (Msg.c exS), .bool true, .bool false, .bool false, .agg (Att.c kB), .pointer (some ⟨gt, 0, none⟩), .tuple #[.agg (Msg.c msgZ), .bool false], .agg (Att.c kA), .agg (Att.c (one 2 3 9)), .tuple #[.agg (Msg.c msgZ), .bool false], .agg (Msg.c msgZ), .bool false, .tuple #[.agg (Msg.c msgZ), .bool false], .agg (Att.c kA), .agg (Att.c ⟨2, kB.s, kB.t, kB.r, kB.g⟩), .tuple #[.agg (Msg.c msgZ), .bool false], .agg (Msg.c msgZ), .bool false, .tuple #[.agg (Msg.c msgZ), .bool false], .agg (Pro.c kX), .agg (Pro.c kX), .tuple #[.agg (Msg.c msgZ), .bool false], .agg (Msg.c msgZ), .bool false, .agg (Att.c kB), .agg (Att.c kA), .agg (Msg.c exN), .agg (Msg.c exD), .pointer (some ⟨gp, 11, none⟩), .agg chPar.cells, .agg (Msg.c exN), .int .i64 18, .bool true, .bool true, .agg chPar.cells, .agg (Msg.c (onlyK 10)), .int .i64 5, .bool true, .bool true, .bool true, .agg chPar.cells, .agg (Msg.c (NF.set exD 4 .pf)), .int .i64 5, .bool true, .bool true, .bool true, .agg parZ.cells, .agg (Msg.c exD), .int .i64 3, .bool true, .bool true, .tuple #[.agg (Off.cs ⟨1, 1, 31⟩), .int .i64 0], .agg chPar.cells, .slice (some ⟨sg, 0, none⟩) exL.length sc, .agg (Msg.c exD), .tuple #[.agg (Off.cs ⟨1, 1, 31⟩), .int .i64 0], .agg (Off.cs ⟨1, 1, 31⟩), .int .i64 0, ud, ud, ud, ud, ud, ud, ud, ud, ud, ud, ud, ud, ud, ud, ud, ud, ud, ud, ud, ud, ud, ud, ud, ud, ud, ud, ud, ud, ud, ud, ud, ud, ud, ud, ud, ud, ud, ud, ud, ud, ud, ud, ud, ud, ud, ud, ud, ud, ud, ud, ud, ud, ud, ud, ud, ud, ud, ud, ud, ud, ud, ud, ud, ud, ud, ud, ud, ud, ud, ud], []⟩) ∧ (VQ.heap[ga]? = some (.cells (Att.c kA) 26 (0, 0))) ∧ (VQ.heap[gb]? = some (.cells (Att.c kB) 26 (0, 0))) ∧ (VQ.heap[gw]? = some (.cells (Att.c kW) 26 (0, 0))) ∧ (VQ.heap[gx]? = some (.cells (Pro.c kX) 28 (0, 0))) ∧ (VQ.heap[gy]? = some (.cells (Pro.c kY) 28 (0, 0))) ∧ (VQ.heap[qa]? = some (.cells ((List.flatMap Att.cl [kA, kB, kW]).toArray) 26 (0, 0))) ∧ (VQ.heap[qb]? = some (.cells ((List.flatMap Pro.cl [kX, kY]).toArray) 28 (0, 0))) ∧ (SelsAt VQ (.slice (some ⟨sg, 0, none⟩) exL.length sc) exL) ∧ (VQ.heap[gd]? = some (.cells (Msg.c exD) 38 (0, 0))) ∧ (VQ.heap[gs]? = some (.cells (Msg.c exS) 38 (0, 0))) ∧ (VQ.heap[gt]? = some (.cells (Att.c ⟨2, kB.s, kB.t, kB.r, kB.g⟩) 26 (0, 0))) ∧ (VQ.heap[gi]? = some (.cells (Msg.c msgZ) 38 (0, 0))) ∧ (VQ.heap[gj]? = some (.cells (Msg.c msgZ) 38 (0, 0))) ∧ (VQ.heap[gk]? = some (.cells (Msg.c msgZ) 38 (0, 0))) ∧ (VQ.heap[gn]? = some (.cells (Msg.c exN) 38 (0, 0))) ∧ (VQ.heap[gp]? = some (.cells (Msg.c (NF.set exD 4 .pf)) 38 (0, 0))) ∧ (VQ.heap[q1]? = some (.cells (Off.cs (⟨1, 1, 31⟩)) 49 (0, 0))) ∧ (q1 ≠ ga ∧ q1 ≠ gb ∧ q1 ≠ gw ∧ q1 ≠ gx ∧ q1 ≠ gy ∧ q1 ≠ qa ∧ q1 ≠ qb ∧ q1 ≠ gd ∧ q1 ≠ gs ∧ q1 ≠ gt ∧ q1 ≠ gi ∧ q1 ≠ gj ∧ q1 ≠ gk ∧ q1 ≠ gn ∧ q1 ≠ gp ∧ w.heap.size ≤ q1 ∧ V903.heap.size ≤ q1) ∧ (Keeps Nob w VQ)) ?_ ?_
  · refine sy_np <| sy_reg <| an_begin 16 10 (opsAt (qc83_0 131070)) (fun W => (W.heap[gd]? = some (.cells (Msg.c exD) 38 (0, 0)))) #[false, false, false, false, false, false, false, false, false, false] (by kernel_rfl) (by kernel_rfl) (by kernel_rfl) (by kernel_rfl) ?_
    obtain ⟨V922, eV922, kV922⟩ := drew_step V903
    rw [eV922]
    clear eV922
    have h923 := kV922.bk h904
    have h924 := kV922.bk h905
    have h925 := kV922.bk h906
    have h926 := kV922.bk h907
    have h927 := kV922.bk h908
    have h928 := kV922.bk h909
    have h929 := kV922.bk h910
    have h930 : SelsAt V922 (.slice (some ⟨sg, 0, none⟩) exL.length sc) exL := h911.keepsN kV922
    have h931 := kV922.bk h912
    have h932 := kV922.bk h913
    have h933 := kV922.bk h914
    have h934 := kV922.bk h915
    have h935 := kV922.bk h916
    have h936 := kV922.bk h917
    have h937 := kV922.bk h918
    have h938 := kV922.bk h919
    have K939 := K920.nn kV922
    have z940 := kV922.size
    refine akq 1 (.slice (some ⟨sg, 0, none⟩) exL.length sc) h931 <| avq 2 (.agg (Msg.c exD)) (fun W hS => exec_load_row 38 (.tmp 7) (by kernel_rfl) gd (by kernel_rfl) _ _ (0, 0) _ (hS) Tryz.underlying38 rfl (by rw [Msg.c_size exD_Ok.R]; kernel_rfl)) h931 ?_
    refine an_two 0 7 (by kernel_rfl) ?_ ?_
    · refine ncq 30 #[] Tryz.func30 ((lechapter_ok _).mono ?_)
      rintro e V941 ⟨rfl, kV941⟩
      refine ⟨_, rfl, ?_⟩
      have h942 := kV941.bk h923
      have h943 := kV941.bk h924
      have h944 := kV941.bk h925
      have h945 := kV941.bk h926
      have h946 := kV941.bk h927
      have h947 := kV941.bk h928
      have h948 := kV941.bk h929
      have h949 : SelsAt V941 (.slice (some ⟨sg, 0, none⟩) exL.length sc) exL := h930.keepsN kV941
      have h950 := kV941.bk h931
      have h951 := kV941.bk h932
      have h952 := kV941.bk h933
      have h953 := kV941.bk h934
      have h954 := kV941.bk h935
      have h955 := kV941.bk h936
      have h956 := kV941.bk h937
      have h957 := kV941.bk h938
      have K958 := K939.nn kV941
      have z959 := kV941.size
      refine ⟨h950, ?_⟩
      refine an_two 3 7 (by kernel_rfl) ?_ ?_
      · refine ncq 20 #[.agg chPar.cells, .slice (some ⟨sg, 0, none⟩) exL.length sc, .int .i64 2, .agg (Msg.c exD)] Tryz.func20 ((eJudge_is _ chPar_ok exD_Ok h949 exL_r exD_jud).mono ?_)
        rintro e V960 ⟨rfl, kV960⟩
        refine ⟨_, rfl, ?_⟩
        have h961 := kV960.bk h942
        have h962 := kV960.bk h943
        have h963 := kV960.bk h944
        have h964 := kV960.bk h945
        have h965 := kV960.bk h946
        have h966 := kV960.bk h947
        have h967 := kV960.bk h948
        have h968 : SelsAt V960 (.slice (some ⟨sg, 0, none⟩) exL.length sc) exL := h949.keepsN kV960
        have h969 := kV960.bk h950
        have h970 := kV960.bk h951
        have h971 := kV960.bk h952
        have h972 := kV960.bk h953
        have h973 := kV960.bk h954
        have h974 := kV960.bk h955
        have h975 := kV960.bk h956
        have h976 := kV960.bk h957
        have K977 := K958.nn kV960
        have z978 := kV960.size
        refine ⟨h969, ?_⟩
        refine akq 4 (.tuple #[.agg (Off.cs ⟨1, 1, 31⟩), .int .i64 0]) h969 <| akq 5 (.agg (Off.cs ⟨1, 1, 31⟩)) h969 <| akq 6 (.int .i64 0) h969 <| an_o 7 ?_
        obtain ⟨V979, eV979, q1, eq1, h980, kV979⟩ := alloc_step V960 (#[.int .i64 0, .int .i64 0, .int .i64 0]) 49
        have n981 : ga < q1 := eq1 ▸ lt_of_block h961
        have n982 : gb < q1 := eq1 ▸ lt_of_block h962
        have n983 : gw < q1 := eq1 ▸ lt_of_block h963
        have n984 : gx < q1 := eq1 ▸ lt_of_block h964
        have n985 : gy < q1 := eq1 ▸ lt_of_block h965
        have n986 : qa < q1 := eq1 ▸ lt_of_block h966
        have n987 : qb < q1 := eq1 ▸ lt_of_block h967
        have n988 : gd < q1 := eq1 ▸ lt_of_block h969
        have n989 : gs < q1 := eq1 ▸ lt_of_block h970
        have n990 : gt < q1 := eq1 ▸ lt_of_block h971
        have n991 : gi < q1 := eq1 ▸ lt_of_block h972
        have n992 : gj < q1 := eq1 ▸ lt_of_block h973
        have n993 : gk < q1 := eq1 ▸ lt_of_block h974
        have n994 : gn < q1 := eq1 ▸ lt_of_block h975
        have n995 : gp < q1 := eq1 ▸ lt_of_block h976
        have n996 : w.heap.size ≤ q1 := eq1 ▸ K977.size
        refine nrq (pT q1 0) (w' := V979) (by rw [← eV979, ← eq1]; exact exec_alloc0 49 (by kernel_rfl) (.agg (#[.int .i64 0, .int .i64 0, .int .i64 0])) (by kernel_rfl)) ?_
        clear eV979
        have h997 := kV979.bk h961
        have h998 := kV979.bk h962
        have h999 := kV979.bk h963
        have h1000 := kV979.bk h964
        have h1001 := kV979.bk h965
        have h1002 := kV979.bk h966
        have h1003 := kV979.bk h967
        have h1004 : SelsAt V979 (.slice (some ⟨sg, 0, none⟩) exL.length sc) exL := h968.keepsN kV979
        have h1005 := kV979.bk h969
        have h1006 := kV979.bk h970
        have h1007 := kV979.bk h971
        have h1008 := kV979.bk h972
        have h1009 := kV979.bk h973
        have h1010 := kV979.bk h974
        have h1011 := kV979.bk h975
        have h1012 := kV979.bk h976
        have K1013 := K977.nn kV979
        have z1014 := kV979.size
        refine ⟨h1005, ?_⟩
        refine an_o 8 ?_
        obtain ⟨V1015, eV1015, kV1015⟩ := rowset_step V979 q1 ((Off.cs ⟨1, 1, 31⟩))
        have h1016 : V1015.heap[q1]? = some (.cells (Off.cs (⟨1, 1, 31⟩)) 49 (0, 0)) := eV1015 ▸ setRow_heap _ _ _ _ _ _ h980
        refine nzq (w' := V1015) (by rw [← eV1015]; exact exec_store_row 49 (.tmp 21) (.tmp 119) (by kernel_rfl) q1 ((Off.cs ⟨1, 1, 31⟩)) (by kernel_rfl) (by kernel_rfl) 49 (#[.int .i64 0, .int .i64 0, .int .i64 0]) h980 (by kernel_rfl) rfl (by kernel_rfl)) ?_
        clear eV1015
        have h1017 := kV1015.bo h997 (by omega)
        have h1018 := kV1015.bo h998 (by omega)
        have h1019 := kV1015.bo h999 (by omega)
        have h1020 := kV1015.bo h1000 (by omega)
        have h1021 := kV1015.bo h1001 (by omega)
        have h1022 := kV1015.bo h1002 (by omega)
        have h1023 := kV1015.bo h1003 (by omega)
        have h1024 : SelsAt V1015 (.slice (some ⟨sg, 0, none⟩) exL.length sc) exL := Sl.keepsB hls0 h1004 kV1015 (fun j e => by first | (unfold Own.One at e; omega) | omega)
        have h1025 := kV1015.bo h1005 (by omega)
        have h1026 := kV1015.bo h1006 (by omega)
        have h1027 := kV1015.bo h1007 (by omega)
        have h1028 := kV1015.bo h1008 (by omega)
        have h1029 := kV1015.bo h1009 (by omega)
        have h1030 := kV1015.bo h1010 (by omega)
        have h1031 := kV1015.bo h1011 (by omega)
        have h1032 := kV1015.bo h1012 (by omega)
        have K1033 := K1013.no kV1015 (by omega)
        have z1034 := kV1015.size
        refine ⟨h1025, ?_⟩
        refine an_o 9 <| nrq (.int .i64 0) (w' := V1015) (by kernel_rfl) ?_
        refine ⟨h1025, ?_⟩
        refine an_end (by kernel_rfl) ?_
        exact ⟨rfl, q1, by kernel_rfl, h1017, h1018, h1019, h1020, h1021, h1022, h1023, h1024, h1025, h1026, h1027, h1028, h1029, h1030, h1031, h1032, h1016, by omega, K1033⟩
      · obtain ⟨V1035, eV1035, q1, eq1, h1036, kV1035⟩ := alloc_step V941 (#[.int .i64 0, .int .i64 0, .int .i64 0]) 49
        have n1037 : ga < q1 := eq1 ▸ lt_of_block h942
        have n1038 : gb < q1 := eq1 ▸ lt_of_block h943
        have n1039 : gw < q1 := eq1 ▸ lt_of_block h944
        have n1040 : gx < q1 := eq1 ▸ lt_of_block h945
        have n1041 : gy < q1 := eq1 ▸ lt_of_block h946
        have n1042 : qa < q1 := eq1 ▸ lt_of_block h947
        have n1043 : qb < q1 := eq1 ▸ lt_of_block h948
        have n1044 : gd < q1 := eq1 ▸ lt_of_block h950
        have n1045 : gs < q1 := eq1 ▸ lt_of_block h951
        have n1046 : gt < q1 := eq1 ▸ lt_of_block h952
        have n1047 : gi < q1 := eq1 ▸ lt_of_block h953
        have n1048 : gj < q1 := eq1 ▸ lt_of_block h954
        have n1049 : gk < q1 := eq1 ▸ lt_of_block h955
        have n1050 : gn < q1 := eq1 ▸ lt_of_block h956
        have n1051 : gp < q1 := eq1 ▸ lt_of_block h957
        have n1052 : w.heap.size ≤ q1 := eq1 ▸ K958.size
        refine nrq (pT q1 0) (w' := V1035) (by rw [← eV1035, ← eq1]; exact exec_alloc0 49 (by kernel_rfl) (.agg (#[.int .i64 0, .int .i64 0, .int .i64 0])) (by kernel_rfl)) ?_
        clear eV1035
        have h1053 := kV1035.bk h942
        have h1054 := kV1035.bk h943
        have h1055 := kV1035.bk h944
        have h1056 := kV1035.bk h945
        have h1057 := kV1035.bk h946
        have h1058 := kV1035.bk h947
        have h1059 := kV1035.bk h948
        have h1060 : SelsAt V1035 (.slice (some ⟨sg, 0, none⟩) exL.length sc) exL := h949.keepsN kV1035
        have h1061 := kV1035.bk h950
        have h1062 := kV1035.bk h951
        have h1063 := kV1035.bk h952
        have h1064 := kV1035.bk h953
        have h1065 := kV1035.bk h954
        have h1066 := kV1035.bk h955
        have h1067 := kV1035.bk h956
        have h1068 := kV1035.bk h957
        have K1069 := K958.nn kV1035
        have z1070 := kV1035.size
        refine ⟨h1061, ?_⟩
        refine an_o 3 ?_
        refine ncq 20 #[.agg chPar.cells, .slice (some ⟨sg, 0, none⟩) exL.length sc, .int .i64 2, .agg (Msg.c exD)] Tryz.func20 ((eJudge_is _ chPar_ok exD_Ok h1060 exL_r exD_jud).mono ?_)
        rintro e V1071 ⟨rfl, kV1071⟩
        refine ⟨_, rfl, ?_⟩
        have h1072 := kV1071.bk h1053
        have h1073 := kV1071.bk h1054
        have h1074 := kV1071.bk h1055
        have h1075 := kV1071.bk h1056
        have h1076 := kV1071.bk h1057
        have h1077 := kV1071.bk h1058
        have h1078 := kV1071.bk h1059
        have h1079 : SelsAt V1071 (.slice (some ⟨sg, 0, none⟩) exL.length sc) exL := h1060.keepsN kV1071
        have h1080 := kV1071.bk h1061
        have h1081 := kV1071.bk h1062
        have h1082 := kV1071.bk h1063
        have h1083 := kV1071.bk h1064
        have h1084 := kV1071.bk h1065
        have h1085 := kV1071.bk h1066
        have h1086 := kV1071.bk h1067
        have h1087 := kV1071.bk h1068
        have h1088 := kV1071.bk h1036
        have K1089 := K1069.nn kV1071
        have z1090 := kV1071.size
        refine ⟨h1080, ?_⟩
        refine akq 4 (.tuple #[.agg (Off.cs ⟨1, 1, 31⟩), .int .i64 0]) h1080 <| akq 5 (.agg (Off.cs ⟨1, 1, 31⟩)) h1080 <| akq 6 (.int .i64 0) h1080 <| an_o 8 ?_
        obtain ⟨V1091, eV1091, kV1091⟩ := rowset_step V1071 q1 ((Off.cs ⟨1, 1, 31⟩))
        have h1092 : V1091.heap[q1]? = some (.cells (Off.cs (⟨1, 1, 31⟩)) 49 (0, 0)) := eV1091 ▸ setRow_heap _ _ _ _ _ _ h1088
        refine nzq (w' := V1091) (by rw [← eV1091]; exact exec_store_row 49 (.tmp 21) (.tmp 119) (by kernel_rfl) q1 ((Off.cs ⟨1, 1, 31⟩)) (by kernel_rfl) (by kernel_rfl) 49 (#[.int .i64 0, .int .i64 0, .int .i64 0]) h1088 (by kernel_rfl) rfl (by kernel_rfl)) ?_
        clear eV1091
        have h1093 := kV1091.bo h1072 (by omega)
        have h1094 := kV1091.bo h1073 (by omega)
        have h1095 := kV1091.bo h1074 (by omega)
        have h1096 := kV1091.bo h1075 (by omega)
        have h1097 := kV1091.bo h1076 (by omega)
        have h1098 := kV1091.bo h1077 (by omega)
        have h1099 := kV1091.bo h1078 (by omega)
        have h1100 : SelsAt V1091 (.slice (some ⟨sg, 0, none⟩) exL.length sc) exL := Sl.keepsB hls0 h1079 kV1091 (fun j e => by first | (unfold Own.One at e; omega) | omega)
        have h1101 := kV1091.bo h1080 (by omega)
        have h1102 := kV1091.bo h1081 (by omega)
        have h1103 := kV1091.bo h1082 (by omega)
        have h1104 := kV1091.bo h1083 (by omega)
        have h1105 := kV1091.bo h1084 (by omega)
        have h1106 := kV1091.bo h1085 (by omega)
        have h1107 := kV1091.bo h1086 (by omega)
        have h1108 := kV1091.bo h1087 (by omega)
        have K1109 := K1089.no kV1091 (by omega)
        have z1110 := kV1091.size
        refine ⟨h1101, ?_⟩
        refine an_o 9 <| nrq (.int .i64 0) (w' := V1091) (by kernel_rfl) ?_
        refine ⟨h1101, ?_⟩
        refine an_end (by kernel_rfl) ?_
        exact ⟨rfl, q1, by kernel_rfl, h1093, h1094, h1095, h1096, h1097, h1098, h1099, h1100, h1101, h1102, h1103, h1104, h1105, h1106, h1107, h1108, h1092, by omega, K1109⟩
    · obtain ⟨V1111, eV1111, q1, eq1, h1112, kV1111⟩ := alloc_step V922 (#[.int .i64 0, .int .i64 0, .int .i64 0]) 49
      have n1113 : ga < q1 := eq1 ▸ lt_of_block h923
      have n1114 : gb < q1 := eq1 ▸ lt_of_block h924
      have n1115 : gw < q1 := eq1 ▸ lt_of_block h925
      have n1116 : gx < q1 := eq1 ▸ lt_of_block h926
      have n1117 : gy < q1 := eq1 ▸ lt_of_block h927
      have n1118 : qa < q1 := eq1 ▸ lt_of_block h928
      have n1119 : qb < q1 := eq1 ▸ lt_of_block h929
      have n1120 : gd < q1 := eq1 ▸ lt_of_block h931
      have n1121 : gs < q1 := eq1 ▸ lt_of_block h932
      have n1122 : gt < q1 := eq1 ▸ lt_of_block h933
      have n1123 : gi < q1 := eq1 ▸ lt_of_block h934
      have n1124 : gj < q1 := eq1 ▸ lt_of_block h935
      have n1125 : gk < q1 := eq1 ▸ lt_of_block h936
      have n1126 : gn < q1 := eq1 ▸ lt_of_block h937
      have n1127 : gp < q1 := eq1 ▸ lt_of_block h938
      have n1128 : w.heap.size ≤ q1 := eq1 ▸ K939.size
      refine nrq (pT q1 0) (w' := V1111) (by rw [← eV1111, ← eq1]; exact exec_alloc0 49 (by kernel_rfl) (.agg (#[.int .i64 0, .int .i64 0, .int .i64 0])) (by kernel_rfl)) ?_
      clear eV1111
      have h1129 := kV1111.bk h923
      have h1130 := kV1111.bk h924
      have h1131 := kV1111.bk h925
      have h1132 := kV1111.bk h926
      have h1133 := kV1111.bk h927
      have h1134 := kV1111.bk h928
      have h1135 := kV1111.bk h929
      have h1136 : SelsAt V1111 (.slice (some ⟨sg, 0, none⟩) exL.length sc) exL := h930.keepsN kV1111
      have h1137 := kV1111.bk h931
      have h1138 := kV1111.bk h932
      have h1139 := kV1111.bk h933
      have h1140 := kV1111.bk h934
      have h1141 := kV1111.bk h935
      have h1142 := kV1111.bk h936
      have h1143 := kV1111.bk h937
      have h1144 := kV1111.bk h938
      have K1145 := K939.nn kV1111
      have z1146 := kV1111.size
      refine ⟨h1137, ?_⟩
      refine an_o 0 ?_
      refine ncq 30 #[] Tryz.func30 ((lechapter_ok _).mono ?_)
      rintro e V1147 ⟨rfl, kV1147⟩
      refine ⟨_, rfl, ?_⟩
      have h1148 := kV1147.bk h1129
      have h1149 := kV1147.bk h1130
      have h1150 := kV1147.bk h1131
      have h1151 := kV1147.bk h1132
      have h1152 := kV1147.bk h1133
      have h1153 := kV1147.bk h1134
      have h1154 := kV1147.bk h1135
      have h1155 : SelsAt V1147 (.slice (some ⟨sg, 0, none⟩) exL.length sc) exL := h1136.keepsN kV1147
      have h1156 := kV1147.bk h1137
      have h1157 := kV1147.bk h1138
      have h1158 := kV1147.bk h1139
      have h1159 := kV1147.bk h1140
      have h1160 := kV1147.bk h1141
      have h1161 := kV1147.bk h1142
      have h1162 := kV1147.bk h1143
      have h1163 := kV1147.bk h1144
      have h1164 := kV1147.bk h1112
      have K1165 := K1145.nn kV1147
      have z1166 := kV1147.size
      refine ⟨h1156, ?_⟩
      refine an_o 3 ?_
      refine ncq 20 #[.agg chPar.cells, .slice (some ⟨sg, 0, none⟩) exL.length sc, .int .i64 2, .agg (Msg.c exD)] Tryz.func20 ((eJudge_is _ chPar_ok exD_Ok h1155 exL_r exD_jud).mono ?_)
      rintro e V1167 ⟨rfl, kV1167⟩
      refine ⟨_, rfl, ?_⟩
      have h1168 := kV1167.bk h1148
      have h1169 := kV1167.bk h1149
      have h1170 := kV1167.bk h1150
      have h1171 := kV1167.bk h1151
      have h1172 := kV1167.bk h1152
      have h1173 := kV1167.bk h1153
      have h1174 := kV1167.bk h1154
      have h1175 : SelsAt V1167 (.slice (some ⟨sg, 0, none⟩) exL.length sc) exL := h1155.keepsN kV1167
      have h1176 := kV1167.bk h1156
      have h1177 := kV1167.bk h1157
      have h1178 := kV1167.bk h1158
      have h1179 := kV1167.bk h1159
      have h1180 := kV1167.bk h1160
      have h1181 := kV1167.bk h1161
      have h1182 := kV1167.bk h1162
      have h1183 := kV1167.bk h1163
      have h1184 := kV1167.bk h1164
      have K1185 := K1165.nn kV1167
      have z1186 := kV1167.size
      refine ⟨h1176, ?_⟩
      refine akq 4 (.tuple #[.agg (Off.cs ⟨1, 1, 31⟩), .int .i64 0]) h1176 <| akq 5 (.agg (Off.cs ⟨1, 1, 31⟩)) h1176 <| akq 6 (.int .i64 0) h1176 <| an_o 8 ?_
      obtain ⟨V1187, eV1187, kV1187⟩ := rowset_step V1167 q1 ((Off.cs ⟨1, 1, 31⟩))
      have h1188 : V1187.heap[q1]? = some (.cells (Off.cs (⟨1, 1, 31⟩)) 49 (0, 0)) := eV1187 ▸ setRow_heap _ _ _ _ _ _ h1184
      refine nzq (w' := V1187) (by rw [← eV1187]; exact exec_store_row 49 (.tmp 21) (.tmp 119) (by kernel_rfl) q1 ((Off.cs ⟨1, 1, 31⟩)) (by kernel_rfl) (by kernel_rfl) 49 (#[.int .i64 0, .int .i64 0, .int .i64 0]) h1184 (by kernel_rfl) rfl (by kernel_rfl)) ?_
      clear eV1187
      have h1189 := kV1187.bo h1168 (by omega)
      have h1190 := kV1187.bo h1169 (by omega)
      have h1191 := kV1187.bo h1170 (by omega)
      have h1192 := kV1187.bo h1171 (by omega)
      have h1193 := kV1187.bo h1172 (by omega)
      have h1194 := kV1187.bo h1173 (by omega)
      have h1195 := kV1187.bo h1174 (by omega)
      have h1196 : SelsAt V1187 (.slice (some ⟨sg, 0, none⟩) exL.length sc) exL := Sl.keepsB hls0 h1175 kV1187 (fun j e => by first | (unfold Own.One at e; omega) | omega)
      have h1197 := kV1187.bo h1176 (by omega)
      have h1198 := kV1187.bo h1177 (by omega)
      have h1199 := kV1187.bo h1178 (by omega)
      have h1200 := kV1187.bo h1179 (by omega)
      have h1201 := kV1187.bo h1180 (by omega)
      have h1202 := kV1187.bo h1181 (by omega)
      have h1203 := kV1187.bo h1182 (by omega)
      have h1204 := kV1187.bo h1183 (by omega)
      have K1205 := K1185.no kV1187 (by omega)
      have z1206 := kV1187.size
      refine ⟨h1197, ?_⟩
      refine an_o 9 <| nrq (.int .i64 0) (w' := V1187) (by kernel_rfl) ?_
      refine ⟨h1197, ?_⟩
      refine an_end (by kernel_rfl) ?_
      exact ⟨rfl, q1, by kernel_rfl, h1189, h1190, h1191, h1192, h1193, h1194, h1195, h1196, h1197, h1198, h1199, h1200, h1201, h1202, h1203, h1204, h1188, by omega, K1205⟩
  rintro aQ V1207 ⟨q1, rfl, h1208, h1209, h1210, h1211, h1212, h1213, h1214, h1215, h1216, h1217, h1218, h1219, h1220, h1221, h1222, h1223, h1224, hd1225, K1226⟩
  have z1227 := lt_of_block h1224
  refine then_n <| sy_sq (qc83_0 262142) (qc83_0 262143) ?_
  refine sy_cut (fun aQ VQ => ∃ (q2 : Nat), (aQ = ⟨#[.bool false, .pointer (some ⟨ga, 0, none⟩), .pointer (some ⟨gb, 0, none⟩), .pointer (some ⟨gw, 0, none⟩), .pointer (some ⟨gx, 0, none⟩), .pointer (some ⟨gy, 0, none⟩), .slice (some ⟨sg, 0, none⟩) exL.length sc, .pointer (some ⟨gd, 0, none⟩), .bool true, .pointer (some ⟨gs, 0, none⟩), .bool true, .pointer (some ⟨gt, 0, none⟩), .pointer (some ⟨gi, 0, none⟩), .bool false, .pointer (some ⟨gj, 0, none⟩), .bool false, .pointer (some ⟨gk, 0, none⟩), .bool false, .pointer (some ⟨gn, 0, none⟩), .pointer (some ⟨gp, 0, none⟩), .bool true, .pointer (some ⟨q1, 0, none⟩), .int .i64 0, .pointer (some ⟨q2, 0, none⟩), .int .i64 10, ud, ud, ud, ud, ud, .agg (Att.c (one 2 3 5)), .agg (Att.c (one 1 3 6)), .agg (Att.c (one 1 4 7)), .agg (Pro.c (blk1 0 8)), .agg (Pro.c (blk1 1 9)), .agg (Att.c kA), .agg (Att.c kB), .agg (Att.c kW), .slice (some ⟨qa, 0, none⟩) 3 3, .agg (Pro.c kX), .agg (Pro.c kY), .slice (some ⟨qb, 0, none⟩) 2 2, .slice (some ⟨sg, 0, none⟩) exL.length sc, .tuple #[.agg (Msg.c exD), .bool true], .agg (Att.c kA), .agg (Att.c kB), .tuple #[.agg (Msg.c exD), .bool true], .agg (Msg.c exD), .bool true, .tuple #[.agg (Msg.c exS), .bool true], .agg (Pro.c kX), .agg (Pro.c kY), .tuple #[.agg (Msg.c exS), .bool true], .agg (Msg.c exS), .bool true, .slice (some ⟨sg, 0, none⟩) exL.length sc, .int .i64 ((exL.length : Nat) : Int), .bool false, .bool false, .bool true, .bool false, .bool false, .bool false, .agg (Msg.c exS), .bool true, .bool false, .bool false, .agg (Att.c kB), .pointer (some ⟨gt, 0, none⟩), .tuple #[.agg (Msg.c msgZ), .bool false], .agg (Att.c kA), .agg (Att.c (one 2 3 9)), .tuple #[.agg (Msg.c msgZ), .bool false], .agg (Msg.c msgZ), .bool false, .tuple #[.agg (Msg.c msgZ), .bool false], .agg (Att.c kA), .agg (Att.c ⟨2, kB.s, kB.t, kB.r, kB.g⟩), .tuple #[.agg (Msg.c msgZ), .bool false], .agg (Msg.c msgZ), .bool false, .tuple #[.agg (Msg.c msgZ), .bool false], .agg (Pro.c kX), .agg (Pro.c kX), .tuple #[.agg (Msg.c msgZ), .bool false], .agg (Msg.c msgZ), .bool false, .agg (Att.c kB), .agg (Att.c kA), .agg (Msg.c exN), .agg (Msg.c exD), .pointer (some ⟨gp, 11, none⟩), .agg chPar.cells, .agg (Msg.c exN), .int .i64 18, .bool true, .bool true, .agg chPar.cells, .agg (Msg.c (onlyK 10)), .int .i64 5, .bool true, .bool true, .bool true, .agg chPar.cells, .agg (Msg.c (NF.set exD 4 .pf)), .int .i64 5, .bool true, .bool true, .bool true, .agg parZ.cells, .agg (Msg.c exD), .int .i64 3, .bool true, .bool true, .tuple #[.agg (Off.cs ⟨1, 1, 31⟩), .int .i64 0], .agg chPar.cells, .slice (some ⟨sg, 0, none⟩) exL.length sc, .agg (Msg.c exD), .tuple #[.agg (Off.cs ⟨1, 1, 31⟩), .int .i64 0], .agg (Off.cs ⟨1, 1, 31⟩), .int .i64 0, .tuple #[.agg (Off.cs offZ), .int .i64 10], .agg chPar.cells, .slice (some ⟨sg, 0, none⟩) exL.length sc, .agg (Msg.c exD), .tuple #[.agg (Off.cs offZ), .int .i64 10], .agg (Off.cs offZ), .int .i64 10, ud, ud, ud, ud, ud, ud, ud, ud, ud, ud, ud, ud, ud, ud, ud, ud, ud, ud, ud, ud, ud, ud, ud, ud, ud, ud, ud, ud, ud, ud, ud, ud, ud, ud, ud, ud, ud, ud, ud, ud, ud, ud, ud, ud, ud, ud, ud, ud, ud, ud, ud, ud, ud, ud, ud, ud, ud, ud, ud, ud, ud, ud, ud], []⟩) ∧ (VQ.heap[ga]? = some (.cells (Att.c kA) 26 (0, 0))) ∧ (VQ.heap[gb]? = some (.cells (Att.c kB) 26 (0, 0))) ∧ (VQ.heap[gw]? = some (.cells (Att.c kW) 26 (0, 0))) ∧ (VQ.heap[gx]? = some (.cells (Pro.c kX) 28 (0, 0))) ∧ (VQ.heap[gy]? = some (.cells (Pro.c kY) 28 (0, 0))) ∧ (VQ.heap[qa]? = some (.cells ((List.flatMap Att.cl [kA, kB, kW]).toArray) 26 (0, 0))) ∧ (VQ.heap[qb]? = some (.cells ((List.flatMap Pro.cl [kX, kY]).toArray) 28 (0, 0))) ∧ (SelsAt VQ (.slice (some ⟨sg, 0, none⟩) exL.length sc) exL) ∧ (VQ.heap[gd]? = some (.cells (Msg.c exD) 38 (0, 0))) ∧ (VQ.heap[gs]? = some (.cells (Msg.c exS) 38 (0, 0))) ∧ (VQ.heap[gt]? = some (.cells (Att.c ⟨2, kB.s, kB.t, kB.r, kB.g⟩) 26 (0, 0))) ∧ (VQ.heap[gi]? = some (.cells (Msg.c msgZ) 38 (0, 0))) ∧ (VQ.heap[gj]? = some (.cells (Msg.c msgZ) 38 (0, 0))) ∧ (VQ.heap[gk]? = some (.cells (Msg.c msgZ) 38 (0, 0))) ∧ (VQ.heap[gn]? = some (.cells (Msg.c exN) 38 (0, 0))) ∧ (VQ.heap[gp]? = some (.cells (Msg.c (NF.set exD 4 .pf)) 38 (0, 0))) ∧ (VQ.heap[q1]? = some (.cells (Off.cs (⟨1, 1, 31⟩)) 49 (0, 0))) ∧ (VQ.heap[q2]? = some (.cells (Off.cs offZ) 49 (0, 0))) ∧ (q2 ≠ ga ∧ q2 ≠ gb ∧ q2 ≠ gw ∧ q2 ≠ gx ∧ q2 ≠ gy ∧ q2 ≠ qa ∧ q2 ≠ qb ∧ q2 ≠ gd ∧ q2 ≠ gs ∧ q2 ≠ gt ∧ q2 ≠ gi ∧ q2 ≠ gj ∧ q2 ≠ gk ∧ q2 ≠ gn ∧ q2 ≠ gp ∧ q2 ≠ q1 ∧ w.heap.size ≤ q2 ∧ V1207.heap.size ≤ q2) ∧ (Keeps Nob w VQ)) ?_ ?_
  · refine sy_np <| sy_reg <| an_begin 17 10 (opsAt (qc83_0 262142)) (fun W => (W.heap[gd]? = some (.cells (Msg.c exD) 38 (0, 0)))) #[false, false, false, false, false, false, false, false, false, false] (by kernel_rfl) (by kernel_rfl) (by kernel_rfl) (by kernel_rfl) ?_
    obtain ⟨V1228, eV1228, kV1228⟩ := drew_step V1207
    rw [eV1228]
    clear eV1228
    have h1229 := kV1228.bk h1208
    have h1230 := kV1228.bk h1209
    have h1231 := kV1228.bk h1210
    have h1232 := kV1228.bk h1211
    have h1233 := kV1228.bk h1212
    have h1234 := kV1228.bk h1213
    have h1235 := kV1228.bk h1214
    have h1236 : SelsAt V1228 (.slice (some ⟨sg, 0, none⟩) exL.length sc) exL := h1215.keepsN kV1228
    have h1237 := kV1228.bk h1216
    have h1238 := kV1228.bk h1217
    have h1239 := kV1228.bk h1218
    have h1240 := kV1228.bk h1219
    have h1241 := kV1228.bk h1220
    have h1242 := kV1228.bk h1221
    have h1243 := kV1228.bk h1222
    have h1244 := kV1228.bk h1223
    have h1245 := kV1228.bk h1224
    have K1246 := K1226.nn kV1228
    have z1247 := kV1228.size
    refine akq 1 (.slice (some ⟨sg, 0, none⟩) exL.length sc) h1237 <| avq 2 (.agg (Msg.c exD)) (fun W hS => exec_load_row 38 (.tmp 7) (by kernel_rfl) gd (by kernel_rfl) _ _ (0, 0) _ (hS) Tryz.underlying38 rfl (by rw [Msg.c_size exD_Ok.R]; kernel_rfl)) h1237 ?_
    refine an_two 0 7 (by kernel_rfl) ?_ ?_
    · refine ncq 30 #[] Tryz.func30 ((lechapter_ok _).mono ?_)
      rintro e V1248 ⟨rfl, kV1248⟩
      refine ⟨_, rfl, ?_⟩
      have h1249 := kV1248.bk h1229
      have h1250 := kV1248.bk h1230
      have h1251 := kV1248.bk h1231
      have h1252 := kV1248.bk h1232
      have h1253 := kV1248.bk h1233
      have h1254 := kV1248.bk h1234
      have h1255 := kV1248.bk h1235
      have h1256 : SelsAt V1248 (.slice (some ⟨sg, 0, none⟩) exL.length sc) exL := h1236.keepsN kV1248
      have h1257 := kV1248.bk h1237
      have h1258 := kV1248.bk h1238
      have h1259 := kV1248.bk h1239
      have h1260 := kV1248.bk h1240
      have h1261 := kV1248.bk h1241
      have h1262 := kV1248.bk h1242
      have h1263 := kV1248.bk h1243
      have h1264 := kV1248.bk h1244
      have h1265 := kV1248.bk h1245
      have K1266 := K1246.nn kV1248
      have z1267 := kV1248.size
      refine ⟨h1257, ?_⟩
      refine an_two 3 7 (by kernel_rfl) ?_ ?_
      · refine ncq 20 #[.agg chPar.cells, .slice (some ⟨sg, 0, none⟩) exL.length sc, .int .i64 1, .agg (Msg.c exD)] Tryz.func20 ((eJudge_is _ chPar_ok exD_Ok h1256 exL_r exD_jud1).mono ?_)
        rintro e V1268 ⟨rfl, kV1268⟩
        refine ⟨_, rfl, ?_⟩
        have h1269 := kV1268.bk h1249
        have h1270 := kV1268.bk h1250
        have h1271 := kV1268.bk h1251
        have h1272 := kV1268.bk h1252
        have h1273 := kV1268.bk h1253
        have h1274 := kV1268.bk h1254
        have h1275 := kV1268.bk h1255
        have h1276 : SelsAt V1268 (.slice (some ⟨sg, 0, none⟩) exL.length sc) exL := h1256.keepsN kV1268
        have h1277 := kV1268.bk h1257
        have h1278 := kV1268.bk h1258
        have h1279 := kV1268.bk h1259
        have h1280 := kV1268.bk h1260
        have h1281 := kV1268.bk h1261
        have h1282 := kV1268.bk h1262
        have h1283 := kV1268.bk h1263
        have h1284 := kV1268.bk h1264
        have h1285 := kV1268.bk h1265
        have K1286 := K1266.nn kV1268
        have z1287 := kV1268.size
        refine ⟨h1277, ?_⟩
        refine akq 4 (.tuple #[.agg (Off.cs offZ), .int .i64 10]) h1277 <| akq 5 (.agg (Off.cs offZ)) h1277 <| akq 6 (.int .i64 10) h1277 <| an_o 7 ?_
        obtain ⟨V1288, eV1288, q2, eq2, h1289, kV1288⟩ := alloc_step V1268 (#[.int .i64 0, .int .i64 0, .int .i64 0]) 49
        have n1290 : ga < q2 := eq2 ▸ lt_of_block h1269
        have n1291 : gb < q2 := eq2 ▸ lt_of_block h1270
        have n1292 : gw < q2 := eq2 ▸ lt_of_block h1271
        have n1293 : gx < q2 := eq2 ▸ lt_of_block h1272
        have n1294 : gy < q2 := eq2 ▸ lt_of_block h1273
        have n1295 : qa < q2 := eq2 ▸ lt_of_block h1274
        have n1296 : qb < q2 := eq2 ▸ lt_of_block h1275
        have n1297 : gd < q2 := eq2 ▸ lt_of_block h1277
        have n1298 : gs < q2 := eq2 ▸ lt_of_block h1278
        have n1299 : gt < q2 := eq2 ▸ lt_of_block h1279
        have n1300 : gi < q2 := eq2 ▸ lt_of_block h1280
        have n1301 : gj < q2 := eq2 ▸ lt_of_block h1281
        have n1302 : gk < q2 := eq2 ▸ lt_of_block h1282
        have n1303 : gn < q2 := eq2 ▸ lt_of_block h1283
        have n1304 : gp < q2 := eq2 ▸ lt_of_block h1284
        have n1305 : q1 < q2 := eq2 ▸ lt_of_block h1285
        have n1306 : w.heap.size ≤ q2 := eq2 ▸ K1286.size
        refine nrq (pT q2 0) (w' := V1288) (by rw [← eV1288, ← eq2]; exact exec_alloc0 49 (by kernel_rfl) (.agg (#[.int .i64 0, .int .i64 0, .int .i64 0])) (by kernel_rfl)) ?_
        clear eV1288
        have h1307 := kV1288.bk h1269
        have h1308 := kV1288.bk h1270
        have h1309 := kV1288.bk h1271
        have h1310 := kV1288.bk h1272
        have h1311 := kV1288.bk h1273
        have h1312 := kV1288.bk h1274
        have h1313 := kV1288.bk h1275
        have h1314 : SelsAt V1288 (.slice (some ⟨sg, 0, none⟩) exL.length sc) exL := h1276.keepsN kV1288
        have h1315 := kV1288.bk h1277
        have h1316 := kV1288.bk h1278
        have h1317 := kV1288.bk h1279
        have h1318 := kV1288.bk h1280
        have h1319 := kV1288.bk h1281
        have h1320 := kV1288.bk h1282
        have h1321 := kV1288.bk h1283
        have h1322 := kV1288.bk h1284
        have h1323 := kV1288.bk h1285
        have K1324 := K1286.nn kV1288
        have z1325 := kV1288.size
        refine ⟨h1315, ?_⟩
        refine an_o 8 ?_
        obtain ⟨V1326, eV1326, kV1326⟩ := rowset_step V1288 q2 ((Off.cs offZ))
        have h1327 : V1326.heap[q2]? = some (.cells (Off.cs offZ) 49 (0, 0)) := eV1326 ▸ setRow_heap _ _ _ _ _ _ h1289
        refine nzq (w' := V1326) (by rw [← eV1326]; exact exec_store_row 49 (.tmp 23) (.tmp 126) (by kernel_rfl) q2 ((Off.cs offZ)) (by kernel_rfl) (by kernel_rfl) 49 (#[.int .i64 0, .int .i64 0, .int .i64 0]) h1289 (by kernel_rfl) rfl (by kernel_rfl)) ?_
        clear eV1326
        have h1328 := kV1326.bo h1307 (by omega)
        have h1329 := kV1326.bo h1308 (by omega)
        have h1330 := kV1326.bo h1309 (by omega)
        have h1331 := kV1326.bo h1310 (by omega)
        have h1332 := kV1326.bo h1311 (by omega)
        have h1333 := kV1326.bo h1312 (by omega)
        have h1334 := kV1326.bo h1313 (by omega)
        have h1335 : SelsAt V1326 (.slice (some ⟨sg, 0, none⟩) exL.length sc) exL := Sl.keepsB hls0 h1314 kV1326 (fun j e => by first | (unfold Own.One at e; omega) | omega)
        have h1336 := kV1326.bo h1315 (by omega)
        have h1337 := kV1326.bo h1316 (by omega)
        have h1338 := kV1326.bo h1317 (by omega)
        have h1339 := kV1326.bo h1318 (by omega)
        have h1340 := kV1326.bo h1319 (by omega)
        have h1341 := kV1326.bo h1320 (by omega)
        have h1342 := kV1326.bo h1321 (by omega)
        have h1343 := kV1326.bo h1322 (by omega)
        have h1344 := kV1326.bo h1323 (by omega)
        have K1345 := K1324.no kV1326 (by omega)
        have z1346 := kV1326.size
        refine ⟨h1336, ?_⟩
        refine an_o 9 <| nrq (.int .i64 10) (w' := V1326) (by kernel_rfl) ?_
        refine ⟨h1336, ?_⟩
        refine an_end (by kernel_rfl) ?_
        exact ⟨rfl, q2, by kernel_rfl, h1328, h1329, h1330, h1331, h1332, h1333, h1334, h1335, h1336, h1337, h1338, h1339, h1340, h1341, h1342, h1343, h1344, h1327, by omega, K1345⟩
      · obtain ⟨V1347, eV1347, q2, eq2, h1348, kV1347⟩ := alloc_step V1248 (#[.int .i64 0, .int .i64 0, .int .i64 0]) 49
        have n1349 : ga < q2 := eq2 ▸ lt_of_block h1249
        have n1350 : gb < q2 := eq2 ▸ lt_of_block h1250
        have n1351 : gw < q2 := eq2 ▸ lt_of_block h1251
        have n1352 : gx < q2 := eq2 ▸ lt_of_block h1252
        have n1353 : gy < q2 := eq2 ▸ lt_of_block h1253
        have n1354 : qa < q2 := eq2 ▸ lt_of_block h1254
        have n1355 : qb < q2 := eq2 ▸ lt_of_block h1255
        have n1356 : gd < q2 := eq2 ▸ lt_of_block h1257
        have n1357 : gs < q2 := eq2 ▸ lt_of_block h1258
        have n1358 : gt < q2 := eq2 ▸ lt_of_block h1259
        have n1359 : gi < q2 := eq2 ▸ lt_of_block h1260
        have n1360 : gj < q2 := eq2 ▸ lt_of_block h1261
        have n1361 : gk < q2 := eq2 ▸ lt_of_block h1262
        have n1362 : gn < q2 := eq2 ▸ lt_of_block h1263
        have n1363 : gp < q2 := eq2 ▸ lt_of_block h1264
        have n1364 : q1 < q2 := eq2 ▸ lt_of_block h1265
        have n1365 : w.heap.size ≤ q2 := eq2 ▸ K1266.size
        refine nrq (pT q2 0) (w' := V1347) (by rw [← eV1347, ← eq2]; exact exec_alloc0 49 (by kernel_rfl) (.agg (#[.int .i64 0, .int .i64 0, .int .i64 0])) (by kernel_rfl)) ?_
        clear eV1347
        have h1366 := kV1347.bk h1249
        have h1367 := kV1347.bk h1250
        have h1368 := kV1347.bk h1251
        have h1369 := kV1347.bk h1252
        have h1370 := kV1347.bk h1253
        have h1371 := kV1347.bk h1254
        have h1372 := kV1347.bk h1255
        have h1373 : SelsAt V1347 (.slice (some ⟨sg, 0, none⟩) exL.length sc) exL := h1256.keepsN kV1347
        have h1374 := kV1347.bk h1257
        have h1375 := kV1347.bk h1258
        have h1376 := kV1347.bk h1259
        have h1377 := kV1347.bk h1260
        have h1378 := kV1347.bk h1261
        have h1379 := kV1347.bk h1262
        have h1380 := kV1347.bk h1263
        have h1381 := kV1347.bk h1264
        have h1382 := kV1347.bk h1265
        have K1383 := K1266.nn kV1347
        have z1384 := kV1347.size
        refine ⟨h1374, ?_⟩
        refine an_o 3 ?_
        refine ncq 20 #[.agg chPar.cells, .slice (some ⟨sg, 0, none⟩) exL.length sc, .int .i64 1, .agg (Msg.c exD)] Tryz.func20 ((eJudge_is _ chPar_ok exD_Ok h1373 exL_r exD_jud1).mono ?_)
        rintro e V1385 ⟨rfl, kV1385⟩
        refine ⟨_, rfl, ?_⟩
        have h1386 := kV1385.bk h1366
        have h1387 := kV1385.bk h1367
        have h1388 := kV1385.bk h1368
        have h1389 := kV1385.bk h1369
        have h1390 := kV1385.bk h1370
        have h1391 := kV1385.bk h1371
        have h1392 := kV1385.bk h1372
        have h1393 : SelsAt V1385 (.slice (some ⟨sg, 0, none⟩) exL.length sc) exL := h1373.keepsN kV1385
        have h1394 := kV1385.bk h1374
        have h1395 := kV1385.bk h1375
        have h1396 := kV1385.bk h1376
        have h1397 := kV1385.bk h1377
        have h1398 := kV1385.bk h1378
        have h1399 := kV1385.bk h1379
        have h1400 := kV1385.bk h1380
        have h1401 := kV1385.bk h1381
        have h1402 := kV1385.bk h1382
        have h1403 := kV1385.bk h1348
        have K1404 := K1383.nn kV1385
        have z1405 := kV1385.size
        refine ⟨h1394, ?_⟩
        refine akq 4 (.tuple #[.agg (Off.cs offZ), .int .i64 10]) h1394 <| akq 5 (.agg (Off.cs offZ)) h1394 <| akq 6 (.int .i64 10) h1394 <| an_o 8 ?_
        obtain ⟨V1406, eV1406, kV1406⟩ := rowset_step V1385 q2 ((Off.cs offZ))
        have h1407 : V1406.heap[q2]? = some (.cells (Off.cs offZ) 49 (0, 0)) := eV1406 ▸ setRow_heap _ _ _ _ _ _ h1403
        refine nzq (w' := V1406) (by rw [← eV1406]; exact exec_store_row 49 (.tmp 23) (.tmp 126) (by kernel_rfl) q2 ((Off.cs offZ)) (by kernel_rfl) (by kernel_rfl) 49 (#[.int .i64 0, .int .i64 0, .int .i64 0]) h1403 (by kernel_rfl) rfl (by kernel_rfl)) ?_
        clear eV1406
        have h1408 := kV1406.bo h1386 (by omega)
        have h1409 := kV1406.bo h1387 (by omega)
        have h1410 := kV1406.bo h1388 (by omega)
        have h1411 := kV1406.bo h1389 (by omega)
        have h1412 := kV1406.bo h1390 (by omega)
        have h1413 := kV1406.bo h1391 (by omega)
        have h1414 := kV1406.bo h1392 (by omega)
        have h1415 : SelsAt V1406 (.slice (some ⟨sg, 0, none⟩) exL.length sc) exL := Sl.keepsB hls0 h1393 kV1406 (fun j e => by first | (unfold Own.One at e; omega) | omega)
        have h1416 := kV1406.bo h1394 (by omega)
        have h1417 := kV1406.bo h1395 (by omega)
        have h1418 := kV1406.bo h1396 (by omega)
        have h1419 := kV1406.bo h1397 (by omega)
        have h1420 := kV1406.bo h1398 (by omega)
        have h1421 := kV1406.bo h1399 (by omega)
        have h1422 := kV1406.bo h1400 (by omega)
        have h1423 := kV1406.bo h1401 (by omega)
        have h1424 := kV1406.bo h1402 (by omega)
        have K1425 := K1404.no kV1406 (by omega)
        have z1426 := kV1406.size
        refine ⟨h1416, ?_⟩
        refine an_o 9 <| nrq (.int .i64 10) (w' := V1406) (by kernel_rfl) ?_
        refine ⟨h1416, ?_⟩
        refine an_end (by kernel_rfl) ?_
        exact ⟨rfl, q2, by kernel_rfl, h1408, h1409, h1410, h1411, h1412, h1413, h1414, h1415, h1416, h1417, h1418, h1419, h1420, h1421, h1422, h1423, h1424, h1407, by omega, K1425⟩
    · obtain ⟨V1427, eV1427, q2, eq2, h1428, kV1427⟩ := alloc_step V1228 (#[.int .i64 0, .int .i64 0, .int .i64 0]) 49
      have n1429 : ga < q2 := eq2 ▸ lt_of_block h1229
      have n1430 : gb < q2 := eq2 ▸ lt_of_block h1230
      have n1431 : gw < q2 := eq2 ▸ lt_of_block h1231
      have n1432 : gx < q2 := eq2 ▸ lt_of_block h1232
      have n1433 : gy < q2 := eq2 ▸ lt_of_block h1233
      have n1434 : qa < q2 := eq2 ▸ lt_of_block h1234
      have n1435 : qb < q2 := eq2 ▸ lt_of_block h1235
      have n1436 : gd < q2 := eq2 ▸ lt_of_block h1237
      have n1437 : gs < q2 := eq2 ▸ lt_of_block h1238
      have n1438 : gt < q2 := eq2 ▸ lt_of_block h1239
      have n1439 : gi < q2 := eq2 ▸ lt_of_block h1240
      have n1440 : gj < q2 := eq2 ▸ lt_of_block h1241
      have n1441 : gk < q2 := eq2 ▸ lt_of_block h1242
      have n1442 : gn < q2 := eq2 ▸ lt_of_block h1243
      have n1443 : gp < q2 := eq2 ▸ lt_of_block h1244
      have n1444 : q1 < q2 := eq2 ▸ lt_of_block h1245
      have n1445 : w.heap.size ≤ q2 := eq2 ▸ K1246.size
      refine nrq (pT q2 0) (w' := V1427) (by rw [← eV1427, ← eq2]; exact exec_alloc0 49 (by kernel_rfl) (.agg (#[.int .i64 0, .int .i64 0, .int .i64 0])) (by kernel_rfl)) ?_
      clear eV1427
      have h1446 := kV1427.bk h1229
      have h1447 := kV1427.bk h1230
      have h1448 := kV1427.bk h1231
      have h1449 := kV1427.bk h1232
      have h1450 := kV1427.bk h1233
      have h1451 := kV1427.bk h1234
      have h1452 := kV1427.bk h1235
      have h1453 : SelsAt V1427 (.slice (some ⟨sg, 0, none⟩) exL.length sc) exL := h1236.keepsN kV1427
      have h1454 := kV1427.bk h1237
      have h1455 := kV1427.bk h1238
      have h1456 := kV1427.bk h1239
      have h1457 := kV1427.bk h1240
      have h1458 := kV1427.bk h1241
      have h1459 := kV1427.bk h1242
      have h1460 := kV1427.bk h1243
      have h1461 := kV1427.bk h1244
      have h1462 := kV1427.bk h1245
      have K1463 := K1246.nn kV1427
      have z1464 := kV1427.size
      refine ⟨h1454, ?_⟩
      refine an_o 0 ?_
      refine ncq 30 #[] Tryz.func30 ((lechapter_ok _).mono ?_)
      rintro e V1465 ⟨rfl, kV1465⟩
      refine ⟨_, rfl, ?_⟩
      have h1466 := kV1465.bk h1446
      have h1467 := kV1465.bk h1447
      have h1468 := kV1465.bk h1448
      have h1469 := kV1465.bk h1449
      have h1470 := kV1465.bk h1450
      have h1471 := kV1465.bk h1451
      have h1472 := kV1465.bk h1452
      have h1473 : SelsAt V1465 (.slice (some ⟨sg, 0, none⟩) exL.length sc) exL := h1453.keepsN kV1465
      have h1474 := kV1465.bk h1454
      have h1475 := kV1465.bk h1455
      have h1476 := kV1465.bk h1456
      have h1477 := kV1465.bk h1457
      have h1478 := kV1465.bk h1458
      have h1479 := kV1465.bk h1459
      have h1480 := kV1465.bk h1460
      have h1481 := kV1465.bk h1461
      have h1482 := kV1465.bk h1462
      have h1483 := kV1465.bk h1428
      have K1484 := K1463.nn kV1465
      have z1485 := kV1465.size
      refine ⟨h1474, ?_⟩
      refine an_o 3 ?_
      refine ncq 20 #[.agg chPar.cells, .slice (some ⟨sg, 0, none⟩) exL.length sc, .int .i64 1, .agg (Msg.c exD)] Tryz.func20 ((eJudge_is _ chPar_ok exD_Ok h1473 exL_r exD_jud1).mono ?_)
      rintro e V1486 ⟨rfl, kV1486⟩
      refine ⟨_, rfl, ?_⟩
      have h1487 := kV1486.bk h1466
      have h1488 := kV1486.bk h1467
      have h1489 := kV1486.bk h1468
      have h1490 := kV1486.bk h1469
      have h1491 := kV1486.bk h1470
      have h1492 := kV1486.bk h1471
      have h1493 := kV1486.bk h1472
      have h1494 : SelsAt V1486 (.slice (some ⟨sg, 0, none⟩) exL.length sc) exL := h1473.keepsN kV1486
      have h1495 := kV1486.bk h1474
      have h1496 := kV1486.bk h1475
      have h1497 := kV1486.bk h1476
      have h1498 := kV1486.bk h1477
      have h1499 := kV1486.bk h1478
      have h1500 := kV1486.bk h1479
      have h1501 := kV1486.bk h1480
      have h1502 := kV1486.bk h1481
      have h1503 := kV1486.bk h1482
      have h1504 := kV1486.bk h1483
      have K1505 := K1484.nn kV1486
      have z1506 := kV1486.size
      refine ⟨h1495, ?_⟩
      refine akq 4 (.tuple #[.agg (Off.cs offZ), .int .i64 10]) h1495 <| akq 5 (.agg (Off.cs offZ)) h1495 <| akq 6 (.int .i64 10) h1495 <| an_o 8 ?_
      obtain ⟨V1507, eV1507, kV1507⟩ := rowset_step V1486 q2 ((Off.cs offZ))
      have h1508 : V1507.heap[q2]? = some (.cells (Off.cs offZ) 49 (0, 0)) := eV1507 ▸ setRow_heap _ _ _ _ _ _ h1504
      refine nzq (w' := V1507) (by rw [← eV1507]; exact exec_store_row 49 (.tmp 23) (.tmp 126) (by kernel_rfl) q2 ((Off.cs offZ)) (by kernel_rfl) (by kernel_rfl) 49 (#[.int .i64 0, .int .i64 0, .int .i64 0]) h1504 (by kernel_rfl) rfl (by kernel_rfl)) ?_
      clear eV1507
      have h1509 := kV1507.bo h1487 (by omega)
      have h1510 := kV1507.bo h1488 (by omega)
      have h1511 := kV1507.bo h1489 (by omega)
      have h1512 := kV1507.bo h1490 (by omega)
      have h1513 := kV1507.bo h1491 (by omega)
      have h1514 := kV1507.bo h1492 (by omega)
      have h1515 := kV1507.bo h1493 (by omega)
      have h1516 : SelsAt V1507 (.slice (some ⟨sg, 0, none⟩) exL.length sc) exL := Sl.keepsB hls0 h1494 kV1507 (fun j e => by first | (unfold Own.One at e; omega) | omega)
      have h1517 := kV1507.bo h1495 (by omega)
      have h1518 := kV1507.bo h1496 (by omega)
      have h1519 := kV1507.bo h1497 (by omega)
      have h1520 := kV1507.bo h1498 (by omega)
      have h1521 := kV1507.bo h1499 (by omega)
      have h1522 := kV1507.bo h1500 (by omega)
      have h1523 := kV1507.bo h1501 (by omega)
      have h1524 := kV1507.bo h1502 (by omega)
      have h1525 := kV1507.bo h1503 (by omega)
      have K1526 := K1505.no kV1507 (by omega)
      have z1527 := kV1507.size
      refine ⟨h1517, ?_⟩
      refine an_o 9 <| nrq (.int .i64 10) (w' := V1507) (by kernel_rfl) ?_
      refine ⟨h1517, ?_⟩
      refine an_end (by kernel_rfl) ?_
      exact ⟨rfl, q2, by kernel_rfl, h1509, h1510, h1511, h1512, h1513, h1514, h1515, h1516, h1517, h1518, h1519, h1520, h1521, h1522, h1523, h1524, h1525, h1508, by omega, K1526⟩
  rintro aQ V1528 ⟨q2, rfl, h1529, h1530, h1531, h1532, h1533, h1534, h1535, h1536, h1537, h1538, h1539, h1540, h1541, h1542, h1543, h1544, h1545, h1546, hd1547, K1548⟩
  have z1549 := lt_of_block h1546
  refine then_n <| sy_sq (qc83_0 524286) (qc83_0 524287) ?_
  refine sy_cut (fun aQ VQ => ∃ (q3 : Nat), (aQ = ⟨#[.bool false, .pointer (some ⟨ga, 0, none⟩), .pointer (some ⟨gb, 0, none⟩), .pointer (some ⟨gw, 0, none⟩), .pointer (some ⟨gx, 0, none⟩), .pointer (some ⟨gy, 0, none⟩), .slice (some ⟨sg, 0, none⟩) exL.length sc, .pointer (some ⟨gd, 0, none⟩), .bool true, .pointer (some ⟨gs, 0, none⟩), .bool true, .pointer (some ⟨gt, 0, none⟩), .pointer (some ⟨gi, 0, none⟩), .bool false, .pointer (some ⟨gj, 0, none⟩), .bool false, .pointer (some ⟨gk, 0, none⟩), .bool false, .pointer (some ⟨gn, 0, none⟩), .pointer (some ⟨gp, 0, none⟩), .bool true, .pointer (some ⟨q1, 0, none⟩), .int .i64 0, .pointer (some ⟨q2, 0, none⟩), .int .i64 10, .pointer (some ⟨q3, 0, none⟩), .int .i64 15, ud, ud, ud, .agg (Att.c (one 2 3 5)), .agg (Att.c (one 1 3 6)), .agg (Att.c (one 1 4 7)), .agg (Pro.c (blk1 0 8)), .agg (Pro.c (blk1 1 9)), .agg (Att.c kA), .agg (Att.c kB), .agg (Att.c kW), .slice (some ⟨qa, 0, none⟩) 3 3, .agg (Pro.c kX), .agg (Pro.c kY), .slice (some ⟨qb, 0, none⟩) 2 2, .slice (some ⟨sg, 0, none⟩) exL.length sc, .tuple #[.agg (Msg.c exD), .bool true], .agg (Att.c kA), .agg (Att.c kB), .tuple #[.agg (Msg.c exD), .bool true], .agg (Msg.c exD), .bool true, .tuple #[.agg (Msg.c exS), .bool true], .agg (Pro.c kX), .agg (Pro.c kY), .tuple #[.agg (Msg.c exS), .bool true], .agg (Msg.c exS), .bool true, .slice (some ⟨sg, 0, none⟩) exL.length sc, .int .i64 ((exL.length : Nat) : Int), .bool false, .bool false, .bool true, .bool false, .bool false, .bool false, .agg (Msg.c exS), .bool true, .bool false, .bool false, .agg (Att.c kB), .pointer (some ⟨gt, 0, none⟩), .tuple #[.agg (Msg.c msgZ), .bool false], .agg (Att.c kA), .agg (Att.c (one 2 3 9)), .tuple #[.agg (Msg.c msgZ), .bool false], .agg (Msg.c msgZ), .bool false, .tuple #[.agg (Msg.c msgZ), .bool false], .agg (Att.c kA), .agg (Att.c ⟨2, kB.s, kB.t, kB.r, kB.g⟩), .tuple #[.agg (Msg.c msgZ), .bool false], .agg (Msg.c msgZ), .bool false, .tuple #[.agg (Msg.c msgZ), .bool false], .agg (Pro.c kX), .agg (Pro.c kX), .tuple #[.agg (Msg.c msgZ), .bool false], .agg (Msg.c msgZ), .bool false, .agg (Att.c kB), .agg (Att.c kA), .agg (Msg.c exN), .agg (Msg.c exD), .pointer (some ⟨gp, 11, none⟩), .agg chPar.cells, .agg (Msg.c exN), .int .i64 18, .bool true, .bool true, .agg chPar.cells, .agg (Msg.c (onlyK 10)), .int .i64 5, .bool true, .bool true, .bool true, .agg chPar.cells, .agg (Msg.c (NF.set exD 4 .pf)), .int .i64 5, .bool true, .bool true, .bool true, .agg parZ.cells, .agg (Msg.c exD), .int .i64 3, .bool true, .bool true, .tuple #[.agg (Off.cs ⟨1, 1, 31⟩), .int .i64 0], .agg chPar.cells, .slice (some ⟨sg, 0, none⟩) exL.length sc, .agg (Msg.c exD), .tuple #[.agg (Off.cs ⟨1, 1, 31⟩), .int .i64 0], .agg (Off.cs ⟨1, 1, 31⟩), .int .i64 0, .tuple #[.agg (Off.cs offZ), .int .i64 10], .agg chPar.cells, .slice (some ⟨sg, 0, none⟩) exL.length sc, .agg (Msg.c exD), .tuple #[.agg (Off.cs offZ), .int .i64 10], .agg (Off.cs offZ), .int .i64 10, .tuple #[.agg (Off.cs offZ), .int .i64 15], .agg chPar.cells, .slice (some ⟨sg, 0, none⟩) exL.length sc, cutW (some ⟨sg, 0, none⟩) exL.length sc 34 1, .agg (Msg.c exD), .tuple #[.agg (Off.cs offZ), .int .i64 15], .agg (Off.cs offZ), .int .i64 15, ud, ud, ud, ud, ud, ud, ud, ud, ud, ud, ud, ud, ud, ud, ud, ud, ud, ud, ud, ud, ud, ud, ud, ud, ud, ud, ud, ud, ud, ud, ud, ud, ud, ud, ud, ud, ud, ud, ud, ud, ud, ud, ud, ud, ud, ud, ud, ud, ud, ud, ud, ud, ud, ud, ud], []⟩) ∧ (VQ.heap[ga]? = some (.cells (Att.c kA) 26 (0, 0))) ∧ (VQ.heap[gb]? = some (.cells (Att.c kB) 26 (0, 0))) ∧ (VQ.heap[gw]? = some (.cells (Att.c kW) 26 (0, 0))) ∧ (VQ.heap[gx]? = some (.cells (Pro.c kX) 28 (0, 0))) ∧ (VQ.heap[gy]? = some (.cells (Pro.c kY) 28 (0, 0))) ∧ (VQ.heap[qa]? = some (.cells ((List.flatMap Att.cl [kA, kB, kW]).toArray) 26 (0, 0))) ∧ (VQ.heap[qb]? = some (.cells ((List.flatMap Pro.cl [kX, kY]).toArray) 28 (0, 0))) ∧ (SelsAt VQ (.slice (some ⟨sg, 0, none⟩) exL.length sc) exL) ∧ (VQ.heap[gd]? = some (.cells (Msg.c exD) 38 (0, 0))) ∧ (VQ.heap[gs]? = some (.cells (Msg.c exS) 38 (0, 0))) ∧ (VQ.heap[gt]? = some (.cells (Att.c ⟨2, kB.s, kB.t, kB.r, kB.g⟩) 26 (0, 0))) ∧ (VQ.heap[gi]? = some (.cells (Msg.c msgZ) 38 (0, 0))) ∧ (VQ.heap[gj]? = some (.cells (Msg.c msgZ) 38 (0, 0))) ∧ (VQ.heap[gk]? = some (.cells (Msg.c msgZ) 38 (0, 0))) ∧ (VQ.heap[gn]? = some (.cells (Msg.c exN) 38 (0, 0))) ∧ (VQ.heap[gp]? = some (.cells (Msg.c (NF.set exD 4 .pf)) 38 (0, 0))) ∧ (VQ.heap[q1]? = some (.cells (Off.cs (⟨1, 1, 31⟩)) 49 (0, 0))) ∧ (VQ.heap[q2]? = some (.cells (Off.cs offZ) 49 (0, 0))) ∧ (VQ.heap[q3]? = some (.cells (Off.cs offZ) 49 (0, 0))) ∧ (q3 ≠ ga ∧ q3 ≠ gb ∧ q3 ≠ gw ∧ q3 ≠ gx ∧ q3 ≠ gy ∧ q3 ≠ qa ∧ q3 ≠ qb ∧ q3 ≠ gd ∧ q3 ≠ gs ∧ q3 ≠ gt ∧ q3 ≠ gi ∧ q3 ≠ gj ∧ q3 ≠ gk ∧ q3 ≠ gn ∧ q3 ≠ gp ∧ q3 ≠ q1 ∧ q3 ≠ q2 ∧ w.heap.size ≤ q3 ∧ V1528.heap.size ≤ q3) ∧ (Keeps Nob w VQ)) ?_ ?_
  · refine sy_np <| sy_reg <| an_begin 18 11 (opsAt (qc83_0 524286)) (fun W => (W.heap[gd]? = some (.cells (Msg.c exD) 38 (0, 0)))) #[false, false, false, false, false, false, false, false, false, false, false] (by kernel_rfl) (by kernel_rfl) (by kernel_rfl) (by kernel_rfl) ?_
    obtain ⟨V1550, eV1550, kV1550⟩ := drew_step V1528
    rw [eV1550]
    clear eV1550
    have h1551 := kV1550.bk h1529
    have h1552 := kV1550.bk h1530
    have h1553 := kV1550.bk h1531
    have h1554 := kV1550.bk h1532
    have h1555 := kV1550.bk h1533
    have h1556 := kV1550.bk h1534
    have h1557 := kV1550.bk h1535
    have h1558 : SelsAt V1550 (.slice (some ⟨sg, 0, none⟩) exL.length sc) exL := h1536.keepsN kV1550
    have h1559 := kV1550.bk h1537
    have h1560 := kV1550.bk h1538
    have h1561 := kV1550.bk h1539
    have h1562 := kV1550.bk h1540
    have h1563 := kV1550.bk h1541
    have h1564 := kV1550.bk h1542
    have h1565 := kV1550.bk h1543
    have h1566 := kV1550.bk h1544
    have h1567 := kV1550.bk h1545
    have h1568 := kV1550.bk h1546
    have K1569 := K1548.nn kV1550
    have z1570 := kV1550.size
    refine akq 1 (.slice (some ⟨sg, 0, none⟩) exL.length sc) h1559 <| avq 2 (cutW (some ⟨sg, 0, none⟩) exL.length sc 34 1) (fun W hS => exec_slice_fromW 46 (.tmp 130) (.const (.int .i64 1)) (by kernel_rfl) (some ⟨sg, 0, none⟩) exL.length sc (by kernel_rfl) .i64 1 (by kernel_rfl) 30 Tryz.underlying46 34 (by kernel_rfl) (by decide)) h1559 <| avq 3 (.agg (Msg.c exD)) (fun W hS => exec_load_row 38 (.tmp 7) (by kernel_rfl) gd (by kernel_rfl) _ _ (0, 0) _ (hS) Tryz.underlying38 rfl (by rw [Msg.c_size exD_Ok.R]; kernel_rfl)) h1559 ?_
    refine an_two 0 8 (by kernel_rfl) ?_ ?_
    · refine ncq 30 #[] Tryz.func30 ((lechapter_ok _).mono ?_)
      rintro e V1571 ⟨rfl, kV1571⟩
      refine ⟨_, rfl, ?_⟩
      have h1572 := kV1571.bk h1551
      have h1573 := kV1571.bk h1552
      have h1574 := kV1571.bk h1553
      have h1575 := kV1571.bk h1554
      have h1576 := kV1571.bk h1555
      have h1577 := kV1571.bk h1556
      have h1578 := kV1571.bk h1557
      have h1579 : SelsAt V1571 (.slice (some ⟨sg, 0, none⟩) exL.length sc) exL := h1558.keepsN kV1571
      have h1580 := kV1571.bk h1559
      have h1581 := kV1571.bk h1560
      have h1582 := kV1571.bk h1561
      have h1583 := kV1571.bk h1562
      have h1584 := kV1571.bk h1563
      have h1585 := kV1571.bk h1564
      have h1586 := kV1571.bk h1565
      have h1587 := kV1571.bk h1566
      have h1588 := kV1571.bk h1567
      have h1589 := kV1571.bk h1568
      have K1590 := K1569.nn kV1571
      have z1591 := kV1571.size
      refine ⟨h1580, ?_⟩
      refine an_two 4 8 (by kernel_rfl) ?_ ?_
      · refine ncq 20 #[.agg chPar.cells, cutW (some ⟨sg, 0, none⟩) exL.length sc 34 1, .int .i64 2, .agg (Msg.c exD)] Tryz.func20 ((eJudge_is _ chPar_ok exD_Ok (Sl.drop h1579 1 (by decide) _ _ _ rfl) exL_rd exD_jud2).mono ?_)
        rintro e V1592 ⟨rfl, kV1592⟩
        refine ⟨_, rfl, ?_⟩
        have h1593 := kV1592.bk h1572
        have h1594 := kV1592.bk h1573
        have h1595 := kV1592.bk h1574
        have h1596 := kV1592.bk h1575
        have h1597 := kV1592.bk h1576
        have h1598 := kV1592.bk h1577
        have h1599 := kV1592.bk h1578
        have h1600 : SelsAt V1592 (.slice (some ⟨sg, 0, none⟩) exL.length sc) exL := h1579.keepsN kV1592
        have h1601 := kV1592.bk h1580
        have h1602 := kV1592.bk h1581
        have h1603 := kV1592.bk h1582
        have h1604 := kV1592.bk h1583
        have h1605 := kV1592.bk h1584
        have h1606 := kV1592.bk h1585
        have h1607 := kV1592.bk h1586
        have h1608 := kV1592.bk h1587
        have h1609 := kV1592.bk h1588
        have h1610 := kV1592.bk h1589
        have K1611 := K1590.nn kV1592
        have z1612 := kV1592.size
        refine ⟨h1601, ?_⟩
        refine akq 5 (.tuple #[.agg (Off.cs offZ), .int .i64 15]) h1601 <| akq 6 (.agg (Off.cs offZ)) h1601 <| akq 7 (.int .i64 15) h1601 <| an_o 8 ?_
        obtain ⟨V1613, eV1613, q3, eq3, h1614, kV1613⟩ := alloc_step V1592 (#[.int .i64 0, .int .i64 0, .int .i64 0]) 49
        have n1615 : ga < q3 := eq3 ▸ lt_of_block h1593
        have n1616 : gb < q3 := eq3 ▸ lt_of_block h1594
        have n1617 : gw < q3 := eq3 ▸ lt_of_block h1595
        have n1618 : gx < q3 := eq3 ▸ lt_of_block h1596
        have n1619 : gy < q3 := eq3 ▸ lt_of_block h1597
        have n1620 : qa < q3 := eq3 ▸ lt_of_block h1598
        have n1621 : qb < q3 := eq3 ▸ lt_of_block h1599
        have n1622 : gd < q3 := eq3 ▸ lt_of_block h1601
        have n1623 : gs < q3 := eq3 ▸ lt_of_block h1602
        have n1624 : gt < q3 := eq3 ▸ lt_of_block h1603
        have n1625 : gi < q3 := eq3 ▸ lt_of_block h1604
        have n1626 : gj < q3 := eq3 ▸ lt_of_block h1605
        have n1627 : gk < q3 := eq3 ▸ lt_of_block h1606
        have n1628 : gn < q3 := eq3 ▸ lt_of_block h1607
        have n1629 : gp < q3 := eq3 ▸ lt_of_block h1608
        have n1630 : q1 < q3 := eq3 ▸ lt_of_block h1609
        have n1631 : q2 < q3 := eq3 ▸ lt_of_block h1610
        have n1632 : w.heap.size ≤ q3 := eq3 ▸ K1611.size
        refine nrq (pT q3 0) (w' := V1613) (by rw [← eV1613, ← eq3]; exact exec_alloc0 49 (by kernel_rfl) (.agg (#[.int .i64 0, .int .i64 0, .int .i64 0])) (by kernel_rfl)) ?_
        clear eV1613
        have h1633 := kV1613.bk h1593
        have h1634 := kV1613.bk h1594
        have h1635 := kV1613.bk h1595
        have h1636 := kV1613.bk h1596
        have h1637 := kV1613.bk h1597
        have h1638 := kV1613.bk h1598
        have h1639 := kV1613.bk h1599
        have h1640 : SelsAt V1613 (.slice (some ⟨sg, 0, none⟩) exL.length sc) exL := h1600.keepsN kV1613
        have h1641 := kV1613.bk h1601
        have h1642 := kV1613.bk h1602
        have h1643 := kV1613.bk h1603
        have h1644 := kV1613.bk h1604
        have h1645 := kV1613.bk h1605
        have h1646 := kV1613.bk h1606
        have h1647 := kV1613.bk h1607
        have h1648 := kV1613.bk h1608
        have h1649 := kV1613.bk h1609
        have h1650 := kV1613.bk h1610
        have K1651 := K1611.nn kV1613
        have z1652 := kV1613.size
        refine ⟨h1641, ?_⟩
        refine an_o 9 ?_
        obtain ⟨V1653, eV1653, kV1653⟩ := rowset_step V1613 q3 ((Off.cs offZ))
        have h1654 : V1653.heap[q3]? = some (.cells (Off.cs offZ) 49 (0, 0)) := eV1653 ▸ setRow_heap _ _ _ _ _ _ h1614
        refine nzq (w' := V1653) (by rw [← eV1653]; exact exec_store_row 49 (.tmp 25) (.tmp 134) (by kernel_rfl) q3 ((Off.cs offZ)) (by kernel_rfl) (by kernel_rfl) 49 (#[.int .i64 0, .int .i64 0, .int .i64 0]) h1614 (by kernel_rfl) rfl (by kernel_rfl)) ?_
        clear eV1653
        have h1655 := kV1653.bo h1633 (by omega)
        have h1656 := kV1653.bo h1634 (by omega)
        have h1657 := kV1653.bo h1635 (by omega)
        have h1658 := kV1653.bo h1636 (by omega)
        have h1659 := kV1653.bo h1637 (by omega)
        have h1660 := kV1653.bo h1638 (by omega)
        have h1661 := kV1653.bo h1639 (by omega)
        have h1662 : SelsAt V1653 (.slice (some ⟨sg, 0, none⟩) exL.length sc) exL := Sl.keepsB hls0 h1640 kV1653 (fun j e => by first | (unfold Own.One at e; omega) | omega)
        have h1663 := kV1653.bo h1641 (by omega)
        have h1664 := kV1653.bo h1642 (by omega)
        have h1665 := kV1653.bo h1643 (by omega)
        have h1666 := kV1653.bo h1644 (by omega)
        have h1667 := kV1653.bo h1645 (by omega)
        have h1668 := kV1653.bo h1646 (by omega)
        have h1669 := kV1653.bo h1647 (by omega)
        have h1670 := kV1653.bo h1648 (by omega)
        have h1671 := kV1653.bo h1649 (by omega)
        have h1672 := kV1653.bo h1650 (by omega)
        have K1673 := K1651.no kV1653 (by omega)
        have z1674 := kV1653.size
        refine ⟨h1663, ?_⟩
        refine an_o 10 <| nrq (.int .i64 15) (w' := V1653) (by kernel_rfl) ?_
        refine ⟨h1663, ?_⟩
        refine an_end (by kernel_rfl) ?_
        exact ⟨rfl, q3, by kernel_rfl, h1655, h1656, h1657, h1658, h1659, h1660, h1661, h1662, h1663, h1664, h1665, h1666, h1667, h1668, h1669, h1670, h1671, h1672, h1654, by omega, K1673⟩
      · obtain ⟨V1675, eV1675, q3, eq3, h1676, kV1675⟩ := alloc_step V1571 (#[.int .i64 0, .int .i64 0, .int .i64 0]) 49
        have n1677 : ga < q3 := eq3 ▸ lt_of_block h1572
        have n1678 : gb < q3 := eq3 ▸ lt_of_block h1573
        have n1679 : gw < q3 := eq3 ▸ lt_of_block h1574
        have n1680 : gx < q3 := eq3 ▸ lt_of_block h1575
        have n1681 : gy < q3 := eq3 ▸ lt_of_block h1576
        have n1682 : qa < q3 := eq3 ▸ lt_of_block h1577
        have n1683 : qb < q3 := eq3 ▸ lt_of_block h1578
        have n1684 : gd < q3 := eq3 ▸ lt_of_block h1580
        have n1685 : gs < q3 := eq3 ▸ lt_of_block h1581
        have n1686 : gt < q3 := eq3 ▸ lt_of_block h1582
        have n1687 : gi < q3 := eq3 ▸ lt_of_block h1583
        have n1688 : gj < q3 := eq3 ▸ lt_of_block h1584
        have n1689 : gk < q3 := eq3 ▸ lt_of_block h1585
        have n1690 : gn < q3 := eq3 ▸ lt_of_block h1586
        have n1691 : gp < q3 := eq3 ▸ lt_of_block h1587
        have n1692 : q1 < q3 := eq3 ▸ lt_of_block h1588
        have n1693 : q2 < q3 := eq3 ▸ lt_of_block h1589
        have n1694 : w.heap.size ≤ q3 := eq3 ▸ K1590.size
        refine nrq (pT q3 0) (w' := V1675) (by rw [← eV1675, ← eq3]; exact exec_alloc0 49 (by kernel_rfl) (.agg (#[.int .i64 0, .int .i64 0, .int .i64 0])) (by kernel_rfl)) ?_
        clear eV1675
        have h1695 := kV1675.bk h1572
        have h1696 := kV1675.bk h1573
        have h1697 := kV1675.bk h1574
        have h1698 := kV1675.bk h1575
        have h1699 := kV1675.bk h1576
        have h1700 := kV1675.bk h1577
        have h1701 := kV1675.bk h1578
        have h1702 : SelsAt V1675 (.slice (some ⟨sg, 0, none⟩) exL.length sc) exL := h1579.keepsN kV1675
        have h1703 := kV1675.bk h1580
        have h1704 := kV1675.bk h1581
        have h1705 := kV1675.bk h1582
        have h1706 := kV1675.bk h1583
        have h1707 := kV1675.bk h1584
        have h1708 := kV1675.bk h1585
        have h1709 := kV1675.bk h1586
        have h1710 := kV1675.bk h1587
        have h1711 := kV1675.bk h1588
        have h1712 := kV1675.bk h1589
        have K1713 := K1590.nn kV1675
        have z1714 := kV1675.size
        refine ⟨h1703, ?_⟩
        refine an_o 4 ?_
        refine ncq 20 #[.agg chPar.cells, cutW (some ⟨sg, 0, none⟩) exL.length sc 34 1, .int .i64 2, .agg (Msg.c exD)] Tryz.func20 ((eJudge_is _ chPar_ok exD_Ok (Sl.drop h1702 1 (by decide) _ _ _ rfl) exL_rd exD_jud2).mono ?_)
        rintro e V1715 ⟨rfl, kV1715⟩
        refine ⟨_, rfl, ?_⟩
        have h1716 := kV1715.bk h1695
        have h1717 := kV1715.bk h1696
        have h1718 := kV1715.bk h1697
        have h1719 := kV1715.bk h1698
        have h1720 := kV1715.bk h1699
        have h1721 := kV1715.bk h1700
        have h1722 := kV1715.bk h1701
        have h1723 : SelsAt V1715 (.slice (some ⟨sg, 0, none⟩) exL.length sc) exL := h1702.keepsN kV1715
        have h1724 := kV1715.bk h1703
        have h1725 := kV1715.bk h1704
        have h1726 := kV1715.bk h1705
        have h1727 := kV1715.bk h1706
        have h1728 := kV1715.bk h1707
        have h1729 := kV1715.bk h1708
        have h1730 := kV1715.bk h1709
        have h1731 := kV1715.bk h1710
        have h1732 := kV1715.bk h1711
        have h1733 := kV1715.bk h1712
        have h1734 := kV1715.bk h1676
        have K1735 := K1713.nn kV1715
        have z1736 := kV1715.size
        refine ⟨h1724, ?_⟩
        refine akq 5 (.tuple #[.agg (Off.cs offZ), .int .i64 15]) h1724 <| akq 6 (.agg (Off.cs offZ)) h1724 <| akq 7 (.int .i64 15) h1724 <| an_o 9 ?_
        obtain ⟨V1737, eV1737, kV1737⟩ := rowset_step V1715 q3 ((Off.cs offZ))
        have h1738 : V1737.heap[q3]? = some (.cells (Off.cs offZ) 49 (0, 0)) := eV1737 ▸ setRow_heap _ _ _ _ _ _ h1734
        refine nzq (w' := V1737) (by rw [← eV1737]; exact exec_store_row 49 (.tmp 25) (.tmp 134) (by kernel_rfl) q3 ((Off.cs offZ)) (by kernel_rfl) (by kernel_rfl) 49 (#[.int .i64 0, .int .i64 0, .int .i64 0]) h1734 (by kernel_rfl) rfl (by kernel_rfl)) ?_
        clear eV1737
        have h1739 := kV1737.bo h1716 (by omega)
        have h1740 := kV1737.bo h1717 (by omega)
        have h1741 := kV1737.bo h1718 (by omega)
        have h1742 := kV1737.bo h1719 (by omega)
        have h1743 := kV1737.bo h1720 (by omega)
        have h1744 := kV1737.bo h1721 (by omega)
        have h1745 := kV1737.bo h1722 (by omega)
        have h1746 : SelsAt V1737 (.slice (some ⟨sg, 0, none⟩) exL.length sc) exL := Sl.keepsB hls0 h1723 kV1737 (fun j e => by first | (unfold Own.One at e; omega) | omega)
        have h1747 := kV1737.bo h1724 (by omega)
        have h1748 := kV1737.bo h1725 (by omega)
        have h1749 := kV1737.bo h1726 (by omega)
        have h1750 := kV1737.bo h1727 (by omega)
        have h1751 := kV1737.bo h1728 (by omega)
        have h1752 := kV1737.bo h1729 (by omega)
        have h1753 := kV1737.bo h1730 (by omega)
        have h1754 := kV1737.bo h1731 (by omega)
        have h1755 := kV1737.bo h1732 (by omega)
        have h1756 := kV1737.bo h1733 (by omega)
        have K1757 := K1735.no kV1737 (by omega)
        have z1758 := kV1737.size
        refine ⟨h1747, ?_⟩
        refine an_o 10 <| nrq (.int .i64 15) (w' := V1737) (by kernel_rfl) ?_
        refine ⟨h1747, ?_⟩
        refine an_end (by kernel_rfl) ?_
        exact ⟨rfl, q3, by kernel_rfl, h1739, h1740, h1741, h1742, h1743, h1744, h1745, h1746, h1747, h1748, h1749, h1750, h1751, h1752, h1753, h1754, h1755, h1756, h1738, by omega, K1757⟩
    · obtain ⟨V1759, eV1759, q3, eq3, h1760, kV1759⟩ := alloc_step V1550 (#[.int .i64 0, .int .i64 0, .int .i64 0]) 49
      have n1761 : ga < q3 := eq3 ▸ lt_of_block h1551
      have n1762 : gb < q3 := eq3 ▸ lt_of_block h1552
      have n1763 : gw < q3 := eq3 ▸ lt_of_block h1553
      have n1764 : gx < q3 := eq3 ▸ lt_of_block h1554
      have n1765 : gy < q3 := eq3 ▸ lt_of_block h1555
      have n1766 : qa < q3 := eq3 ▸ lt_of_block h1556
      have n1767 : qb < q3 := eq3 ▸ lt_of_block h1557
      have n1768 : gd < q3 := eq3 ▸ lt_of_block h1559
      have n1769 : gs < q3 := eq3 ▸ lt_of_block h1560
      have n1770 : gt < q3 := eq3 ▸ lt_of_block h1561
      have n1771 : gi < q3 := eq3 ▸ lt_of_block h1562
      have n1772 : gj < q3 := eq3 ▸ lt_of_block h1563
      have n1773 : gk < q3 := eq3 ▸ lt_of_block h1564
      have n1774 : gn < q3 := eq3 ▸ lt_of_block h1565
      have n1775 : gp < q3 := eq3 ▸ lt_of_block h1566
      have n1776 : q1 < q3 := eq3 ▸ lt_of_block h1567
      have n1777 : q2 < q3 := eq3 ▸ lt_of_block h1568
      have n1778 : w.heap.size ≤ q3 := eq3 ▸ K1569.size
      refine nrq (pT q3 0) (w' := V1759) (by rw [← eV1759, ← eq3]; exact exec_alloc0 49 (by kernel_rfl) (.agg (#[.int .i64 0, .int .i64 0, .int .i64 0])) (by kernel_rfl)) ?_
      clear eV1759
      have h1779 := kV1759.bk h1551
      have h1780 := kV1759.bk h1552
      have h1781 := kV1759.bk h1553
      have h1782 := kV1759.bk h1554
      have h1783 := kV1759.bk h1555
      have h1784 := kV1759.bk h1556
      have h1785 := kV1759.bk h1557
      have h1786 : SelsAt V1759 (.slice (some ⟨sg, 0, none⟩) exL.length sc) exL := h1558.keepsN kV1759
      have h1787 := kV1759.bk h1559
      have h1788 := kV1759.bk h1560
      have h1789 := kV1759.bk h1561
      have h1790 := kV1759.bk h1562
      have h1791 := kV1759.bk h1563
      have h1792 := kV1759.bk h1564
      have h1793 := kV1759.bk h1565
      have h1794 := kV1759.bk h1566
      have h1795 := kV1759.bk h1567
      have h1796 := kV1759.bk h1568
      have K1797 := K1569.nn kV1759
      have z1798 := kV1759.size
      refine ⟨h1787, ?_⟩
      refine an_o 0 ?_
      refine ncq 30 #[] Tryz.func30 ((lechapter_ok _).mono ?_)
      rintro e V1799 ⟨rfl, kV1799⟩
      refine ⟨_, rfl, ?_⟩
      have h1800 := kV1799.bk h1779
      have h1801 := kV1799.bk h1780
      have h1802 := kV1799.bk h1781
      have h1803 := kV1799.bk h1782
      have h1804 := kV1799.bk h1783
      have h1805 := kV1799.bk h1784
      have h1806 := kV1799.bk h1785
      have h1807 : SelsAt V1799 (.slice (some ⟨sg, 0, none⟩) exL.length sc) exL := h1786.keepsN kV1799
      have h1808 := kV1799.bk h1787
      have h1809 := kV1799.bk h1788
      have h1810 := kV1799.bk h1789
      have h1811 := kV1799.bk h1790
      have h1812 := kV1799.bk h1791
      have h1813 := kV1799.bk h1792
      have h1814 := kV1799.bk h1793
      have h1815 := kV1799.bk h1794
      have h1816 := kV1799.bk h1795
      have h1817 := kV1799.bk h1796
      have h1818 := kV1799.bk h1760
      have K1819 := K1797.nn kV1799
      have z1820 := kV1799.size
      refine ⟨h1808, ?_⟩
      refine an_o 4 ?_
      refine ncq 20 #[.agg chPar.cells, cutW (some ⟨sg, 0, none⟩) exL.length sc 34 1, .int .i64 2, .agg (Msg.c exD)] Tryz.func20 ((eJudge_is _ chPar_ok exD_Ok (Sl.drop h1807 1 (by decide) _ _ _ rfl) exL_rd exD_jud2).mono ?_)
      rintro e V1821 ⟨rfl, kV1821⟩
      refine ⟨_, rfl, ?_⟩
      have h1822 := kV1821.bk h1800
      have h1823 := kV1821.bk h1801
      have h1824 := kV1821.bk h1802
      have h1825 := kV1821.bk h1803
      have h1826 := kV1821.bk h1804
      have h1827 := kV1821.bk h1805
      have h1828 := kV1821.bk h1806
      have h1829 : SelsAt V1821 (.slice (some ⟨sg, 0, none⟩) exL.length sc) exL := h1807.keepsN kV1821
      have h1830 := kV1821.bk h1808
      have h1831 := kV1821.bk h1809
      have h1832 := kV1821.bk h1810
      have h1833 := kV1821.bk h1811
      have h1834 := kV1821.bk h1812
      have h1835 := kV1821.bk h1813
      have h1836 := kV1821.bk h1814
      have h1837 := kV1821.bk h1815
      have h1838 := kV1821.bk h1816
      have h1839 := kV1821.bk h1817
      have h1840 := kV1821.bk h1818
      have K1841 := K1819.nn kV1821
      have z1842 := kV1821.size
      refine ⟨h1830, ?_⟩
      refine akq 5 (.tuple #[.agg (Off.cs offZ), .int .i64 15]) h1830 <| akq 6 (.agg (Off.cs offZ)) h1830 <| akq 7 (.int .i64 15) h1830 <| an_o 9 ?_
      obtain ⟨V1843, eV1843, kV1843⟩ := rowset_step V1821 q3 ((Off.cs offZ))
      have h1844 : V1843.heap[q3]? = some (.cells (Off.cs offZ) 49 (0, 0)) := eV1843 ▸ setRow_heap _ _ _ _ _ _ h1840
      refine nzq (w' := V1843) (by rw [← eV1843]; exact exec_store_row 49 (.tmp 25) (.tmp 134) (by kernel_rfl) q3 ((Off.cs offZ)) (by kernel_rfl) (by kernel_rfl) 49 (#[.int .i64 0, .int .i64 0, .int .i64 0]) h1840 (by kernel_rfl) rfl (by kernel_rfl)) ?_
      clear eV1843
      have h1845 := kV1843.bo h1822 (by omega)
      have h1846 := kV1843.bo h1823 (by omega)
      have h1847 := kV1843.bo h1824 (by omega)
      have h1848 := kV1843.bo h1825 (by omega)
      have h1849 := kV1843.bo h1826 (by omega)
      have h1850 := kV1843.bo h1827 (by omega)
      have h1851 := kV1843.bo h1828 (by omega)
      have h1852 : SelsAt V1843 (.slice (some ⟨sg, 0, none⟩) exL.length sc) exL := Sl.keepsB hls0 h1829 kV1843 (fun j e => by first | (unfold Own.One at e; omega) | omega)
      have h1853 := kV1843.bo h1830 (by omega)
      have h1854 := kV1843.bo h1831 (by omega)
      have h1855 := kV1843.bo h1832 (by omega)
      have h1856 := kV1843.bo h1833 (by omega)
      have h1857 := kV1843.bo h1834 (by omega)
      have h1858 := kV1843.bo h1835 (by omega)
      have h1859 := kV1843.bo h1836 (by omega)
      have h1860 := kV1843.bo h1837 (by omega)
      have h1861 := kV1843.bo h1838 (by omega)
      have h1862 := kV1843.bo h1839 (by omega)
      have K1863 := K1841.no kV1843 (by omega)
      have z1864 := kV1843.size
      refine ⟨h1853, ?_⟩
      refine an_o 10 <| nrq (.int .i64 15) (w' := V1843) (by kernel_rfl) ?_
      refine ⟨h1853, ?_⟩
      refine an_end (by kernel_rfl) ?_
      exact ⟨rfl, q3, by kernel_rfl, h1845, h1846, h1847, h1848, h1849, h1850, h1851, h1852, h1853, h1854, h1855, h1856, h1857, h1858, h1859, h1860, h1861, h1862, h1844, by omega, K1863⟩
  rintro aQ V1865 ⟨q3, rfl, h1866, h1867, h1868, h1869, h1870, h1871, h1872, h1873, h1874, h1875, h1876, h1877, h1878, h1879, h1880, h1881, h1882, h1883, h1884, hd1885, K1886⟩
  have z1887 := lt_of_block h1884
  refine then_n <| sy_sq (qc83_0 1048574) (qc83_0 1048575) <| sy_reg <| rg_q 19 [0, 1, 2, 3, 4, 5, 6, 7, 8, 9, 10, 11, 12, 13, 14, 15, 16, 17, 18, 19, 20, 21] <| pkq (.int .i64 0) <| pkq (.bool true) <| pkq (.bool true) <| ppq (.agg (Off.cs (⟨1, 1, 31⟩))) (exec_load_row 49 (.tmp 21) (by kernel_rfl) q1 (by kernel_rfl) _ _ (0, 0) _ (h1882) Tryz.underlying49 rfl (by kernel_rfl)) <| pkq (.agg (Off.cs ⟨1, 1, 31⟩)) <| ppq (.bool true) (exec_cast (congrArg Value.bool (by simp)) (exec_binop .eql 49 49 (.tmp 139) (.tmp 140) (by kernel_rfl) (.agg (Off.cs ⟨1, 1, 31⟩)) (.agg (Off.cs ⟨1, 1, 31⟩)) _ (by kernel_rfl) (by kernel_rfl) (run_eqGuard_agg _ _ _ _ _ _ _ off_guard) (off_eq _ _ _))) <| pkq (.bool true) <| pkq (.bool true) <| pkq (.int .i64 10) <| pkq (.bool true) ?_
  refine pkq (.bool true) <| pkq (.bool true) <| pkq (.int .i64 15) <| pkq (.bool true) <| pkq (.bool true) <| pkq (.bool true) <| pkq (.slice (some ⟨sg, 0, none⟩) exL.length sc) <| ppq (.agg (Msg.c exD)) (exec_load_row 38 (.tmp 7) (by kernel_rfl) gd (by kernel_rfl) _ _ (0, 0) _ (h1874) Tryz.underlying38 rfl (by rw [Msg.c_size exD_Ok.R]; kernel_rfl)) ?_
  refine pcq 22 #[.slice (some ⟨sg, 0, none⟩) exL.length sc, .agg (Msg.c exD)] Tryz.func22 ((eSigned_is _ exD_Ok h1873 exL_r exD_sg0).mono ?_)
  rintro e V1888 ⟨rfl, kV1888⟩
  refine ⟨_, rfl, ?_⟩
  have h1889 := kV1888.bk h1866
  have h1890 := kV1888.bk h1867
  have h1891 := kV1888.bk h1868
  have h1892 := kV1888.bk h1869
  have h1893 := kV1888.bk h1870
  have h1894 := kV1888.bk h1871
  have h1895 := kV1888.bk h1872
  have h1897 := kV1888.bk h1874
  have h1898 := kV1888.bk h1875
  have h1899 := kV1888.bk h1876
  have h1900 := kV1888.bk h1877
  have h1901 := kV1888.bk h1878
  have h1902 := kV1888.bk h1879
  have h1903 := kV1888.bk h1880
  have h1904 := kV1888.bk h1881
  have h1905 := kV1888.bk h1882
  have h1906 := kV1888.bk h1883
  have h1907 := kV1888.bk h1884
  have K1908 := K1886.nn kV1888
  have z1909 := kV1888.size
  refine pkq (.bool true) <| pkq (.bool true) <| pkq (.bool true) <| ps_end <| then_n <| sy_sq (qc83_0 2097150) (qc83_0 2097151) <| sy_reg <| rg_q 20 [0, 1, 2, 3, 4, 5, 6, 7, 8] ?_
  refine pcq 25 #[.int .i64 1, .int .i64 4294967296, .int .u64 0] Tryz.func25 ((leone_ok 1 4294967296 0 _).mono ?_)
  rintro e V1910 ⟨rfl, kV1910⟩
  refine ⟨_, rfl, ?_⟩
  have h1911 := kV1910.bk h1889
  have h1912 := kV1910.bk h1890
  have h1913 := kV1910.bk h1891
  have h1914 := kV1910.bk h1892
  have h1915 := kV1910.bk h1893
  have h1916 := kV1910.bk h1894
  have h1917 := kV1910.bk h1895
  have h1919 := kV1910.bk h1897
  have h1920 := kV1910.bk h1898
  have h1921 := kV1910.bk h1899
  have h1922 := kV1910.bk h1900
  have h1923 := kV1910.bk h1901
  have h1924 := kV1910.bk h1902
  have h1925 := kV1910.bk h1903
  have h1926 := kV1910.bk h1904
  have h1927 := kV1910.bk h1905
  have h1928 := kV1910.bk h1906
  have h1929 := kV1910.bk h1907
  have K1930 := K1908.nn kV1910
  have z1931 := kV1910.size
  refine pcq 25 #[.int .i64 0, .int .i64 4294967296, .int .u64 0] Tryz.func25 ((leone_ok 0 4294967296 0 _).mono ?_)
  rintro e V1932 ⟨rfl, kV1932⟩
  refine ⟨_, rfl, ?_⟩
  have h1933 := kV1932.bk h1911
  have h1934 := kV1932.bk h1912
  have h1935 := kV1932.bk h1913
  have h1936 := kV1932.bk h1914
  have h1937 := kV1932.bk h1915
  have h1938 := kV1932.bk h1916
  have h1939 := kV1932.bk h1917
  have h1941 := kV1932.bk h1919
  have h1942 := kV1932.bk h1920
  have h1943 := kV1932.bk h1921
  have h1944 := kV1932.bk h1922
  have h1945 := kV1932.bk h1923
  have h1946 := kV1932.bk h1924
  have h1947 := kV1932.bk h1925
  have h1948 := kV1932.bk h1926
  have h1949 := kV1932.bk h1927
  have h1950 := kV1932.bk h1928
  have h1951 := kV1932.bk h1929
  have K1952 := K1930.nn kV1932
  have z1953 := kV1932.size
  refine pcq 12 #[.agg (Att.c (one 1 4294967296 0)), .agg (Att.c (one 0 4294967296 0))] Tryz.func12 ((eProve_is _ kF_Ok kG_Ok proves_fg).mono ?_)
  rintro e V1954 ⟨rfl, kV1954⟩
  refine ⟨_, rfl, ?_⟩
  have h1955 := kV1954.bk h1933
  have h1956 := kV1954.bk h1934
  have h1957 := kV1954.bk h1935
  have h1958 := kV1954.bk h1936
  have h1959 := kV1954.bk h1937
  have h1960 := kV1954.bk h1938
  have h1961 := kV1954.bk h1939
  have h1963 := kV1954.bk h1941
  have h1964 := kV1954.bk h1942
  have h1965 := kV1954.bk h1943
  have h1966 := kV1954.bk h1944
  have h1967 := kV1954.bk h1945
  have h1968 := kV1954.bk h1946
  have h1969 := kV1954.bk h1947
  have h1970 := kV1954.bk h1948
  have h1971 := kV1954.bk h1949
  have h1972 := kV1954.bk h1950
  have h1973 := kV1954.bk h1951
  have K1974 := K1952.nn kV1954
  have z1975 := kV1954.size
  refine pkq (.tuple #[.agg (Msg.c exF), .bool true]) <| pkq (.agg (Msg.c exF)) <| pkq (.bool true) ?_
  obtain ⟨V1976, eV1976, gf, egf, h1977, kV1976⟩ := alloc_step V1954 ((Msg.c msgZ)) 38
  have n1978 : ga < gf := egf ▸ lt_of_block h1955
  have n1979 : gb < gf := egf ▸ lt_of_block h1956
  have n1980 : gw < gf := egf ▸ lt_of_block h1957
  have n1981 : gx < gf := egf ▸ lt_of_block h1958
  have n1982 : gy < gf := egf ▸ lt_of_block h1959
  have n1983 : qa < gf := egf ▸ lt_of_block h1960
  have n1984 : qb < gf := egf ▸ lt_of_block h1961
  have n1985 : gd < gf := egf ▸ lt_of_block h1963
  have n1986 : gs < gf := egf ▸ lt_of_block h1964
  have n1987 : gt < gf := egf ▸ lt_of_block h1965
  have n1988 : gi < gf := egf ▸ lt_of_block h1966
  have n1989 : gj < gf := egf ▸ lt_of_block h1967
  have n1990 : gk < gf := egf ▸ lt_of_block h1968
  have n1991 : gn < gf := egf ▸ lt_of_block h1969
  have n1992 : gp < gf := egf ▸ lt_of_block h1970
  have n1993 : q1 < gf := egf ▸ lt_of_block h1971
  have n1994 : q2 < gf := egf ▸ lt_of_block h1972
  have n1995 : q3 < gf := egf ▸ lt_of_block h1973
  have n1996 : w.heap.size ≤ gf := egf ▸ K1974.size
  refine prq (pT gf 0) (w' := V1976) (by rw [← eV1976, ← egf]; exact exec_alloc0 38 (by kernel_rfl) (.agg ((Msg.c msgZ))) (by kernel_rfl)) ?_
  clear eV1976
  have K2016 := K1974.nn kV1976
  have z2017 := kV1976.size
  obtain ⟨V2018, eV2018, kV2018⟩ := rowset_step V1976 gf ((Msg.c exF))
  have h2019 : V2018.heap[gf]? = some (.cells (Msg.c exF) 38 (0, 0)) := eV2018 ▸ setRow_heap _ _ _ _ _ _ h1977
  refine pzq (w' := V2018) (by rw [← eV2018]; exact exec_store_row 38 (.tmp 28) (.tmp 161) (by kernel_rfl) gf ((Msg.c exF)) (by kernel_rfl) (by kernel_rfl) 38 ((Msg.c msgZ)) h1977 (by kernel_rfl) (by kernel_rfl) (Msg.c_one _)) ?_
  clear eV2018
  have K2039 := K2016.no kV2018 (by omega)
  have z2040 := kV2018.size
  refine pkq (.bool true) <| ps_end <| sy_a ⟨#[.bool false, pT ga 0, pT gb 0, pT gw 0, pT gx 0, pT gy 0, .slice (some ⟨sg, 0, none⟩) exL.length sc, pT gd 0, .bool true, pT gs 0, .bool true, pT gt 0, pT gi 0, .bool false, pT gj 0, .bool false, pT gk 0, .bool false, pT gn 0, pT gp 0, .bool true, pT q1 0, .int .i64 0, pT q2 0, .int .i64 10, pT q3 0, .int .i64 15, .bool true, pT gf 0, .bool true, .agg (Att.c (one 2 3 5)), .agg (Att.c (one 1 3 6)), .agg (Att.c (one 1 4 7)), .agg (Pro.c (blk1 0 8)), .agg (Pro.c (blk1 1 9)), .agg (Att.c kA), .agg (Att.c kB), .agg (Att.c kW), .slice (some ⟨qa, 0, none⟩) 3 3, .agg (Pro.c kX), .agg (Pro.c kY), .slice (some ⟨qb, 0, none⟩) 2 2, .slice (some ⟨sg, 0, none⟩) exL.length sc, .tuple #[.agg (Msg.c exD), .bool true], .agg (Att.c kA), .agg (Att.c kB), .tuple #[.agg (Msg.c exD), .bool true], .agg (Msg.c exD), .bool true, .tuple #[.agg (Msg.c exS), .bool true], .agg (Pro.c kX), .agg (Pro.c kY), .tuple #[.agg (Msg.c exS), .bool true], .agg (Msg.c exS), .bool true, .slice (some ⟨sg, 0, none⟩) exL.length sc, iN exL.length, .bool false, .bool false, .bool true, .bool false, .bool false, .bool false, .agg (Msg.c exS), .bool true, .bool false, .bool false, .agg (Att.c kB), pT gt 0, .tuple #[.agg (Msg.c msgZ), .bool false], .agg (Att.c kA), .agg (Att.c (one 2 3 9)), .tuple #[.agg (Msg.c msgZ), .bool false], .agg (Msg.c msgZ), .bool false, .tuple #[.agg (Msg.c msgZ), .bool false], .agg (Att.c kA), .agg (Att.c ⟨2, kB.s, kB.t, kB.r, kB.g⟩), .tuple #[.agg (Msg.c msgZ), .bool false], .agg (Msg.c msgZ), .bool false, .tuple #[.agg (Msg.c msgZ), .bool false], .agg (Pro.c kX), .agg (Pro.c kX), .tuple #[.agg (Msg.c msgZ), .bool false], .agg (Msg.c msgZ), .bool false, .agg (Att.c kB), .agg (Att.c kA), .agg (Msg.c exN), .agg (Msg.c exD), pT gp 11, .agg chPar.cells, .agg (Msg.c exN), .int .i64 18, .bool true, .bool true, .agg chPar.cells, .agg (Msg.c (onlyK 10)), .int .i64 5, .bool true, .bool true, .bool true, .agg chPar.cells, .agg (Msg.c (NF.set exD 4 .pf)), .int .i64 5, .bool true, .bool true, .bool true, .agg parZ.cells, .agg (Msg.c exD), .int .i64 3, .bool true, .bool true, .tuple #[.agg (Off.cs ⟨1, 1, 31⟩), .int .i64 0], .agg chPar.cells, .slice (some ⟨sg, 0, none⟩) exL.length sc, .agg (Msg.c exD), .tuple #[.agg (Off.cs ⟨1, 1, 31⟩), .int .i64 0], .agg (Off.cs ⟨1, 1, 31⟩), .int .i64 0, .tuple #[.agg (Off.cs offZ), .int .i64 10], .agg chPar.cells, .slice (some ⟨sg, 0, none⟩) exL.length sc, .agg (Msg.c exD), .tuple #[.agg (Off.cs offZ), .int .i64 10], .agg (Off.cs offZ), .int .i64 10, .tuple #[.agg (Off.cs offZ), .int .i64 15], .agg chPar.cells, .slice (some ⟨sg, 0, none⟩) exL.length sc, cutW (some ⟨sg, 0, none⟩) exL.length sc 34 1, .agg (Msg.c exD), .tuple #[.agg (Off.cs offZ), .int .i64 15], .agg (Off.cs offZ), .int .i64 15, .int .i64 0, .bool true, .bool true, .agg (Off.cs (⟨1, 1, 31⟩)), .agg (Off.cs ⟨1, 1, 31⟩), .bool true, .bool true, .bool true, .int .i64 10, .bool true, .bool true, .bool true, .int .i64 15, .bool true, .bool true, .bool true, .slice (some ⟨sg, 0, none⟩) exL.length sc, .agg (Msg.c exD), .int .i64 0, .bool true, .bool true, .tuple #[.agg (Msg.c exF), .bool true], .agg (Att.c (one 1 4294967296 0)), .agg (Att.c (one 0 4294967296 0)), .tuple #[.agg (Msg.c exF), .bool true], .agg (Msg.c exF), .bool true, ud, ud, ud, ud, ud, ud, ud, ud, ud, ud, ud, ud, ud, ud, ud, ud, ud, ud, ud, ud, ud, ud, ud, ud, ud, ud, ud, ud], []⟩ <| then_n <| sy_sq (qc83_0 4194302) (qc83_0 4194303) <| sy_np <| sy_reg <| an_begin 21 29 (opsAt (qc83_0 4194302)) (fun W => (W.heap[gf]? = some (.cells (Msg.c exF) 38 (0, 0)))) #[false, false, false, false, false, false, false, false, false, false, false, false, false, false, false, false, false, false, false, false, false, false, false, false, false, false, false, false, false] (by kernel_rfl) (by kernel_rfl) (by kernel_rfl) (by kernel_rfl) ?_
  obtain ⟨V2041, eV2041, kV2041⟩ := drew_step V2018
  rw [eV2041]
  clear eV2041
  have h2061 := kV2041.bk h2019
  have K2062 := K2039.nn kV2041
  have z2063 := kV2041.size
  refine an_o 0 ?_
  refine ncq 16 #[] Tryz.func16 ((leawake_ok _).mono ?_)
  rintro e V2064 ⟨rfl, kV2064⟩
  refine ⟨_, rfl, ?_⟩
  have h2084 := kV2064.bk h2061
  have K2085 := K2062.nn kV2064
  have z2086 := kV2064.size
  refine ⟨h2084, ?_⟩
  refine akq 1 (.bool true) h2084 <| akq 2 (.bool false) h2084 <| akq 3 (.bool true) h2084 <| akq 4 (.bool true) h2084 <| akq 5 (.bool true) h2084 <| akq 6 (.bool false) h2084 <| akq 7 (.bool true) h2084 <| akq 8 (.bool true) h2084 <| akq 9 (.bool true) h2084 <| akq 10 (.bool false) h2084 <| akq 11 (.bool true) h2084 <| akq 12 (.bool true) h2084 <| akq 13 (.bool true) h2084 <| akq 14 (.bool true) h2084 ?_
  refine akq 15 (.bool true) h2084 <| akq 16 (.bool true) h2084 <| akq 17 (.bool true) h2084 <| akq 18 (.bool true) h2084 <| akq 19 (.bool true) h2084 <| akq 20 (.bool true) h2084 <| akq 21 (.bool true) h2084 <| akq 22 (.bool true) h2084 <| avq 24 (.agg (Msg.c exF)) (fun W hS => exec_load_row 38 (.tmp 28) (by kernel_rfl) gf (by kernel_rfl) _ _ (0, 0) _ (hS) Tryz.underlying38 rfl (by rw [Msg.c_size exF_Ok.R]; kernel_rfl)) h2084 <| an_o 23 ?_
  refine ncq 30 #[] Tryz.func30 ((lechapter_ok _).mono ?_)
  rintro e V2087 ⟨rfl, kV2087⟩
  refine ⟨_, rfl, ?_⟩
  have h2107 := kV2087.bk h2084
  have K2108 := K2085.nn kV2087
  have z2109 := kV2087.size
  refine ⟨h2107, ?_⟩
  refine an_o 25 ?_
  refine ncq 29 #[.agg chPar.cells, .agg (Msg.c exF)] Tryz.func29 ((lerefused_ok chPar exF 3 _ chPar_ok exF_Ok exF_off).mono ?_)
  rintro e V2110 ⟨rfl, kV2110⟩
  refine ⟨_, rfl, ?_⟩
  have h2130 := kV2110.bk h2107
  have K2131 := K2108.nn kV2110
  have z2132 := kV2110.size
  refine ⟨h2130, ?_⟩
  refine akq 26 (.bool true) h2130 <| akq 27 (.bool true) h2130 <| an_o 28 <| nrq (.bool true) (w' := V2110) (by kernel_rfl) ?_
  refine ⟨h2130, ?_⟩
  refine an_end (by kernel_rfl) <| sy_a ⟨#[.bool true, pT ga 0, pT gb 0, pT gw 0, pT gx 0, pT gy 0, .slice (some ⟨sg, 0, none⟩) exL.length sc, pT gd 0, .bool true, pT gs 0, .bool true, pT gt 0, pT gi 0, .bool false, pT gj 0, .bool false, pT gk 0, .bool false, pT gn 0, pT gp 0, .bool true, pT q1 0, .int .i64 0, pT q2 0, .int .i64 10, pT q3 0, .int .i64 15, .bool true, pT gf 0, .bool true, .agg (Att.c (one 2 3 5)), .agg (Att.c (one 1 3 6)), .agg (Att.c (one 1 4 7)), .agg (Pro.c (blk1 0 8)), .agg (Pro.c (blk1 1 9)), .agg (Att.c kA), .agg (Att.c kB), .agg (Att.c kW), .slice (some ⟨qa, 0, none⟩) 3 3, .agg (Pro.c kX), .agg (Pro.c kY), .slice (some ⟨qb, 0, none⟩) 2 2, .slice (some ⟨sg, 0, none⟩) exL.length sc, .tuple #[.agg (Msg.c exD), .bool true], .agg (Att.c kA), .agg (Att.c kB), .tuple #[.agg (Msg.c exD), .bool true], .agg (Msg.c exD), .bool true, .tuple #[.agg (Msg.c exS), .bool true], .agg (Pro.c kX), .agg (Pro.c kY), .tuple #[.agg (Msg.c exS), .bool true], .agg (Msg.c exS), .bool true, .slice (some ⟨sg, 0, none⟩) exL.length sc, iN exL.length, .bool false, .bool false, .bool true, .bool false, .bool false, .bool false, .agg (Msg.c exS), .bool true, .bool false, .bool false, .agg (Att.c kB), pT gt 0, .tuple #[.agg (Msg.c msgZ), .bool false], .agg (Att.c kA), .agg (Att.c (one 2 3 9)), .tuple #[.agg (Msg.c msgZ), .bool false], .agg (Msg.c msgZ), .bool false, .tuple #[.agg (Msg.c msgZ), .bool false], .agg (Att.c kA), .agg (Att.c ⟨2, kB.s, kB.t, kB.r, kB.g⟩), .tuple #[.agg (Msg.c msgZ), .bool false], .agg (Msg.c msgZ), .bool false, .tuple #[.agg (Msg.c msgZ), .bool false], .agg (Pro.c kX), .agg (Pro.c kX), .tuple #[.agg (Msg.c msgZ), .bool false], .agg (Msg.c msgZ), .bool false, .agg (Att.c kB), .agg (Att.c kA), .agg (Msg.c exN), .agg (Msg.c exD), pT gp 11, .agg chPar.cells, .agg (Msg.c exN), .int .i64 18, .bool true, .bool true, .agg chPar.cells, .agg (Msg.c (onlyK 10)), .int .i64 5, .bool true, .bool true, .bool true, .agg chPar.cells, .agg (Msg.c (NF.set exD 4 .pf)), .int .i64 5, .bool true, .bool true, .bool true, .agg parZ.cells, .agg (Msg.c exD), .int .i64 3, .bool true, .bool true, .tuple #[.agg (Off.cs ⟨1, 1, 31⟩), .int .i64 0], .agg chPar.cells, .slice (some ⟨sg, 0, none⟩) exL.length sc, .agg (Msg.c exD), .tuple #[.agg (Off.cs ⟨1, 1, 31⟩), .int .i64 0], .agg (Off.cs ⟨1, 1, 31⟩), .int .i64 0, .tuple #[.agg (Off.cs offZ), .int .i64 10], .agg chPar.cells, .slice (some ⟨sg, 0, none⟩) exL.length sc, .agg (Msg.c exD), .tuple #[.agg (Off.cs offZ), .int .i64 10], .agg (Off.cs offZ), .int .i64 10, .tuple #[.agg (Off.cs offZ), .int .i64 15], .agg chPar.cells, .slice (some ⟨sg, 0, none⟩) exL.length sc, cutW (some ⟨sg, 0, none⟩) exL.length sc 34 1, .agg (Msg.c exD), .tuple #[.agg (Off.cs offZ), .int .i64 15], .agg (Off.cs offZ), .int .i64 15, .int .i64 0, .bool true, .bool true, .agg (Off.cs (⟨1, 1, 31⟩)), .agg (Off.cs ⟨1, 1, 31⟩), .bool true, .bool true, .bool true, .int .i64 10, .bool true, .bool true, .bool true, .int .i64 15, .bool true, .bool true, .bool true, .slice (some ⟨sg, 0, none⟩) exL.length sc, .agg (Msg.c exD), .int .i64 0, .bool true, .bool true, .tuple #[.agg (Msg.c exF), .bool true], .agg (Att.c (one 1 4294967296 0)), .agg (Att.c (one 0 4294967296 0)), .tuple #[.agg (Msg.c exF), .bool true], .agg (Msg.c exF), .bool true, .bool true, .bool true, .bool false, .bool true, .bool true, .bool true, .bool false, .bool true, .bool true, .bool true, .bool false, .bool true, .bool true, .bool true, .bool true, .bool true, .bool true, .bool true, .bool true, .bool true, .bool true, .bool true, .bool true, .agg chPar.cells, .agg (Msg.c exF), .int .i64 3, .bool true, .bool true], []⟩ <| then_n <| sy_ret (by kernel_rfl) <| sy_out (.bool true) rfl (by kernel_rfl) ?_
  exact ⟨rfl, K2131⟩
end Go.Proofs.YtcbfnflnokoacaaGreat
namespace Go.Proofs.YtcbfnflnokoacaaGreat
set_option maxRecDepth 100000
set_option maxHeartbeats 4000000
open Go Go.RowKit Go.Own Go.Shelf
theorem pCheck_0 {p : Par} (w : World) (hp : p.Ok) (h : p.check.1 = 0) : Calls Tryz.prog 31 #[.agg p.cells] w fun e w' => e = .returned (.tuple #[.int .i64 0, .int .i64 p.check.2]) ∧ Keeps Nob w w' := by
  have := pCheck_ok p hp w; rw [h] at this; exact this
end Go.Proofs.YtcbfnflnokoacaaGreat
namespace Go.Proofs.YtcbfnflnokoacaaGreat
set_option maxRecDepth 100000
set_option maxHeartbeats 4000000
open Go Go.RowKit Go.Own Go.Shelf
theorem erow_empty {w : World} {g size : Nat} {T : TypeId} (h : w.heap[g]? = some (.cells #[] T (0, 0))) (_ : (#[] : Array Value).size = 0) (_ : 0 ≤ maxLen) : Row w T size (.slice (some ⟨g, 0, none⟩) 0 0) 0 [] :=
  ⟨by simp, .inr ⟨g, 0, #[], rfl, Nat.zero_le _, h, Nat.le_refl _, Nat.zero_le _, by simp, by simp⟩⟩
noncomputable def qc85_0 (n : Nat) : Code := partOf Tryz.f17 n
noncomputable abbrev qo85_0 (n k : Nat) : Oper := (opsAt (qc85_0 n)).getD k default
theorem kCopySeals_ok (v : Value) (l : List Sel) (w : World) (hl : SelsAt w v l) (hlr : ∀ z ∈ l, z.r.length = 32) (hlen : l.length ≤ 100) :
    Calls Tryz.prog 17 #[v] w (fun e w' => ∃ g cap, e = .returned (.slice (some ⟨g, 0, none⟩) l.length cap) ∧ Row w' 30 34 (.slice (some ⟨g, 0, none⟩) l.length cap) l.length (l.flatMap Sel.cl) ∧ w.heap.size ≤ g ∧ Keeps Nob w w') := by
  obtain ⟨i2, hi2, hs0, hs1, hs2⟩ := info_parts sel_info0
  have K0 : Keeps Nob w w := Keeps.refl _ _
  refine sy_enter (qc85_0 1) ⟨#[v, ud, ud, ud, ud, ud], []⟩ Tryz.func17 (by kernel_rfl) (by kernel_rfl) <| sy_sq (qc85_0 2) (qc85_0 3) <| sy_reg <| rg_q 0 [0] <| pkq (.slice none 0 0) <| ps_end <| then_n <| sy_sq (qc85_0 6) (qc85_0 7) <| sy_reg <| rg_q 1 [0, 1, 2, 3] ?_
  obtain ⟨V1, eV1, g0, eg0, h2, kV1⟩ := alloc_step w #[] 30
  have n3 : w.heap.size ≤ g0 := eg0 ▸ K0.size
  refine prq (.slice (some ⟨g0, 0, none⟩) 0 0) (w' := V1) (by rw [← eV1, ← eg0]; kernel_rfl) ?_
  have h4 : SelsAt V1 v l := hl.keepsN kV1
  have K5 := K0.nn kV1
  have z6 := kV1.size
  refine pkq (v) ?_
  have h7 : Row V1 30 34 (.slice (some ⟨g0, 0, none⟩) 0 0) 0 [] := erow_empty h2 rfl (by decide)
  have hw8 : NewFrom w.heap.size (.slice (some ⟨g0, 0, none⟩) 0 0) := NewFrom.ptr (by omega) _ _
  obtain ⟨lv, V9, hr10, h11, hg12, hn13, ha14⟩ := run_append_any (P := Tryz.prog) (w := V1) 46 (Oper.type (qo85_0 6 2)) 30 i2 (.agg selZ.c) 34 48 Tryz.underlying46 hi2 hs0 hs1 hs2 rfl (by decide) (.slice (some ⟨g0, 0, none⟩) 0 0) 0 [] h7 v l.length (l.flatMap Sel.cl) (Sl.src h4 (fun z hz => Sel.cl_len (hlr z hz)) (by decide) (fun z _ => Sel.cl_one z)) (by unfold maxLen; omega) (by omega)
  have kV9 : Keeps (fun j => (.slice (some ⟨g0, 0, none⟩) 0 0 : Value).ownBlock = some j) V1 V9 := Keeps.rowAdd hg12
  have hw15 : NewFrom w.heap.size lv := hw8.next K5.size ha14
  refine prq lv (w' := V9) (exec_append (.tmp 3) (.tmp 4) 46 (by kernel_rfl) (.slice (some ⟨g0, 0, none⟩) 0 0) v (by kernel_rfl) (by kernel_rfl) hr10) ?_
  have h16 : Row V9 30 34 lv l.length (l.flatMap Sel.cl) := (by rw [Nat.zero_add, List.nil_append] at h11; exact h11)
  have hnn : lv ≠ .slice none 0 0 := fun e => by cases (hn13.1 e).1
  have K18 : Keeps Nob w V9 := K5.then kV9 (fun i hi hm => absurd hi (by have := hw8 i hm; omega))
  have z19 := kV9.size
  refine pkq (lv) <| ps_end <| then_n <| sy_ret (by kernel_rfl) <| sy_out (lv) rfl (by kernel_rfl) ?_
  exact Exists.elim (Row.slice h16 hnn) fun cg ⟨cc, e⟩ => by subst e; exact ⟨cg, cc, rfl, h16, hw15 cg rfl, K18⟩
end Go.Proofs.YtcbfnflnokoacaaGreat
