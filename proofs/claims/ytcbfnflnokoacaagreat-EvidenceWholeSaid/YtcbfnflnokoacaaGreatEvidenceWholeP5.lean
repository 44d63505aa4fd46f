import Derived.Test.YtcbfnflnokoacaaGreatEvidenceWholeP4
namespace Go.Proofs.YtcbfnflnokoacaaGreat
set_option maxRecDepth 100000
set_option maxHeartbeats 4000000
open Go Go.RowKit Go.Own Go.Shelf
theorem evi_first (m : Msg) : firstE [m.chk, if m.k = 8 then 0 else 5] = m.evi := by
  unfold Msg.evi; simp only [firstE]
  by_cases h : m.chk = 0 <;> by_cases h8 : m.k = 8 <;> simp [h, h8]
theorem hasE_pair (l : List Sel) (x y : Sel) : hasE l [x, y] = if x ∈ l then (if y ∈ l then 0 else 15) else 15 := by
  unfold hasE; by_cases h : x ∈ l <;> by_cases h2 : y ∈ l <;> simp [h, h2]
theorem sHas_is {v : Value} {l : List Sel} {x : Sel} {r : Bool} (w : World) (hl : SelsAt w v l) (hlr : ∀ y ∈ l, y.r.length = 32) (hx : x.r.length = 32) (h : decide (x ∈ l) = r) : Calls Tryz.prog 62 #[v, .agg (Sel.c x)] w fun e w' => e = .returned (.bool r) ∧ Keeps Nob w w' := by
  subst h; exact sHas_ok v l x w hl hlr hx
theorem sel_info0 : (Tryz.prog.info? 30).map (fun i => (i.zero, i.size, i.bytes)) = some (some (.agg selZ.c), 34, 48) := by kernel_rfl
def evMs (pf : Int) (a b : Att) : Msg := { msgZ with k := 8, pf := pf, a := a, b := b }
def evP (p q : Pro) : Msg := { msgZ with k := 8, pf := 3, p := p, q := q }
theorem evMs_R {pf : Int} {a b : Att} (ha : a.r.length = 32) (hb : b.r.length = 32) : (evMs pf a b).R := ⟨ha, hb, rfl, rfl⟩
theorem evP_R {p q : Pro} (ha : p.r.length = 32) (hb : q.r.length = 32) : (evP p q).R := ⟨rfl, rfl, ha, hb⟩
theorem fill_ab (a b : Att) (ha : a.r.length = 32) (hb : b.r.length = 32) : Instr.fill ((#[(0, 1), (1, 1), (2, 1), (3, 1), (4, 1), (5, 1), (6, 4), (10, 1), (11, 1), (12, 36), (48, 36), (84, 35), (119, 35)] : Array (Nat × Nat))[·]?) msgZ.c [(0, .int .i64 8), (9, .agg (Att.c a)), (10, .agg (Att.c b))] = some (Msg.c (evMs 0 a b)) := by
  refine fill_seg (ds := Msg.c (onlyK 8)) rfl rfl (by decide) (by kernel_rfl) <| fill_seg (ds := Msg.c (putA (onlyK 8) a)) rfl (Att.c_size a ha) (by rw [Msg.c_size (onlyK_R 8)]; decide) (Msg.set_A (onlyK_R 8) a ha) ?_
  exact fill_seg (ds := Msg.c (putB (putA (onlyK 8) a) b)) rfl (Att.c_size b hb) (by rw [Msg.c_size (putA_R (onlyK_R 8) ha)]; decide) (Msg.set_B (putA_R (onlyK_R 8) ha) b hb) rfl
theorem fill_pq (p q : Pro) (ha : p.r.length = 32) (hb : q.r.length = 32) : Instr.fill ((#[(0, 1), (1, 1), (2, 1), (3, 1), (4, 1), (5, 1), (6, 4), (10, 1), (11, 1), (12, 36), (48, 36), (84, 35), (119, 35)] : Array (Nat × Nat))[·]?) msgZ.c [(0, .int .i64 8), (8, .int .i64 3), (11, .agg (Pro.c p)), (12, .agg (Pro.c q))] = some (Msg.c (evP p q)) := by
  refine fill_seg (ds := Msg.c (onlyK 8)) rfl rfl (by decide) (by kernel_rfl) <| fill_seg (ds := Msg.c (NF.set (onlyK 8) 3 .pf)) rfl rfl (by rw [Msg.c_size (onlyK_R 8)]; decide) (by kernel_rfl) ?_
  have h3 := NF.R (onlyK_R 8) (x := .pf) (v := 3)
  refine fill_seg (ds := Msg.c (putP (NF.set (onlyK 8) 3 .pf) p)) rfl (Pro.c_size p ha) (by rw [Msg.c_size h3]; decide) (Msg.set_P h3 p ha) ?_
  exact fill_seg (ds := Msg.c (putQ (putP (NF.set (onlyK 8) 3 .pf) p) q)) rfl (Pro.c_size q hb) (by rw [Msg.c_size (putP_R h3 ha)]; decide) (Msg.set_Q (putP_R h3 ha) q hb) rfl
theorem doubV {a b : Att} {r : Bool} (w : World) (ha : a.Ok) (hb : b.Ok) (h : doub a b = r) : Calls Tryz.prog 32 #[.agg (Att.c a), .agg (Att.c b)] w fun e w' => e = .returned (.bool r) ∧ Keeps Nob w w' := by subst h; exact vDoubles_ok a b w ha hb
theorem surrV {a b : Att} {r : Bool} (w : World) (ha : a.Ok) (hb : b.Ok) (h : surr a b = r) : Calls Tryz.prog 33 #[.agg (Att.c a), .agg (Att.c b)] w fun e w' => e = .returned (.bool r) ∧ Keeps Nob w w' := by subst h; exact vSurrounds_ok a b w ha hb
theorem doubPV {a b : Pro} {r : Bool} (w : World) (ha : a.Ok) (hb : b.Ok) (h : doubP a b = r) : Calls Tryz.prog 35 #[.agg (Pro.c a), .agg (Pro.c b)] w fun e w' => e = .returned (.bool r) ∧ Keeps Nob w w' := by subst h; exact vDoublesBlock_ok a b w ha hb
theorem bnot {x : Bool} (h : ¬ x = true) : x = false := by cases x; rfl; exact absurd rfl h
noncomputable def qc77_11 (n : Nat) : Code := partOf Tryz.f82 n
theorem eform1_ok (m : Msg) (g : Nat) (w : World) (hr : m.R) (hb : w.heap[g]? = some (.cells (Msg.c m) 38 (0, 0))) :
    Calls Tryz.prog 82 #[.pointer (some ⟨g, 0, none⟩)] w (fun e w' => e = .returned (.int .i64 m.chk) ∧ Keeps Nob w w') := by
  have K0 : Keeps Nob w w := Keeps.refl _ _
  refine sy_enter (qc77_11 1) ⟨#[pT g 0, ud, ud, ud], []⟩ Tryz.func82 (by kernel_rfl) (by kernel_rfl) <| sy_sq (qc77_11 2) (qc77_11 3) <| sy_reg <| rg_q 0 [0] <| pkq (.int .i64 0) <| ps_end <| then_n <| sy_sq (qc77_11 6) (qc77_11 7) <| sy_reg <| rg_q 1 [0, 1, 2] <| ppq (.agg (Msg.c m)) (exec_load_row 38 (.tmp 0) (by kernel_rfl) g (by kernel_rfl) _ _ (0, 0) _ (hb) Tryz.underlying38 rfl (by rw [Msg.c_size hr]; kernel_rfl)) ?_
  refine pcq 36 #[.agg (Msg.c m)] Tryz.func36 ((mCheck_any m _ hr).mono ?_)
  rintro e V1 ⟨rfl, kV1⟩
  refine ⟨_, rfl, ?_⟩
  have K3 := K0.nn kV1
  have z4 := kV1.size
  refine pkq (.int .i64 m.chk) <| ps_end <| then_n <| sy_ret (by kernel_rfl) <| sy_out (.int .i64 m.chk) rfl (by kernel_rfl) ?_
  exact ⟨rfl, K3⟩
noncomputable def qc77_9 (n : Nat) : Code := partOf Tryz.f83 n
theorem eform2_ok (m : Msg) (g : Nat) (w : World) (hr : m.R) (hb : w.heap[g]? = some (.cells (Msg.c m) 38 (0, 0))) :
    Calls Tryz.prog 83 #[.pointer (some ⟨g, 0, none⟩)] w (fun e w' => e = .returned (.int .i64 (if m.k = 8 then 0 else 5)) ∧ Keeps Nob w w') := by
  have K0 : Keeps Nob w w := Keeps.refl _ _
  refine sy_enter (qc77_9 1) ⟨#[pT g 0, ud, ud, ud, ud], []⟩ Tryz.func83 (by kernel_rfl) (by kernel_rfl) <| sy_sq (qc77_9 2) (qc77_9 3) <| sy_reg <| rg_q 0 [0] <| pkq (.int .i64 0) <| ps_end <| then_n <| sy_sq (qc77_9 6) (qc77_9 7) <| sy_sq (qc77_9 12) (qc77_9 13) <| sy_reg <| rg_q 1 [0, 1, 2] ?_
  by_cases c0 : m.k = 8
  · refine pkq (pT g 0) <| ppq (.int .i64 m.k) (exec_ld 3 (.tmp 2) g 0 Tryz.underlying3 (rc (hb) (Msg.get_n hr NF.k))) <| ppq (.bool false) (nqf ((m.k) : Int) ((8) : Int) (by omega)) <| ps_end <| then_n <| sy_n (.tmp 4) (qc77_9 26) (qc77_9 27) <| sy_sk <| then_n <| sy_sq (qc77_9 14) (qc77_9 15) <| sy_reg <| rg_q 3 [0] <| pkq (.int .i64 0) <| ps_end <| then_n ?_
    refine sy_ret (by kernel_rfl) <| sy_out (.int .i64 0) rfl (by kernel_rfl) ?_
    exact ⟨by simp [c0], K0⟩
  · refine pkq (pT g 0) <| ppq (.int .i64 m.k) (exec_ld 3 (.tmp 2) g 0 Tryz.underlying3 (rc (hb) (Msg.get_n hr NF.k))) <| ppq (.bool true) (nqt ((m.k) : Int) ((8) : Int) (by omega)) <| ps_end <| then_n <| sy_ys (.tmp 4) (qc77_9 26) (qc77_9 27) <| sy_sq (qc77_9 52) (qc77_9 53) <| sy_reg <| rg_q 2 [0] <| pkq (.int .i64 5) <| ps_end <| then_n <| sy_ret (by kernel_rfl) <| then_r ?_
    refine sy_out (.int .i64 5) rfl (by kernel_rfl) ?_
    exact ⟨by simp [c0], K0⟩
noncomputable def qc77_15 (n : Nat) : Code := partOf Tryz.f51 n
theorem eform_ok (m : Msg) (w : World) (hr : m.R) :
    Calls Tryz.prog 51 #[.agg (Msg.c m)] w (fun e w' => e = .returned (.int .i64 m.evi) ∧ Keeps Nob w w') := by
  have K0 : Keeps Nob w w := Keeps.refl _ _
  refine sy_enter (qc77_15 1) ⟨#[.agg (Msg.c m), ud, ud, ud, ud, ud, ud], []⟩ Tryz.func51 (by kernel_rfl) (by kernel_rfl) <| sy_sq (qc77_15 2) (qc77_15 3) <| sy_reg <| rg_q 0 [0, 1] ?_
  obtain ⟨V1, eV1, gm, egm, h2, kV1⟩ := alloc_step w ((Msg.c m)) 38
  have n3 : w.heap.size ≤ gm := egm ▸ K0.size
  refine prq (pT gm 0) (w' := V1) (by rw [← eV1, ← egm]; exact exec_box 38 (.tmp 0) (by kernel_rfl) (.agg (Msg.c m)) (by kernel_rfl)) ?_
  clear eV1
  have K4 := K0.nn kV1
  have z5 := kV1.size
  refine pkq (.int .i64 0) <| ps_end <| then_n <| sy_sq (qc77_15 6) (qc77_15 7) <| sy_reg <| rg_q 1 [0, 1, 2, 3, 4] <| pkq (.func (.func 82) #[] #[pT gm 0]) <| pkq (.func (.func 83) #[] #[pT gm 0]) ?_
  obtain ⟨V6, eV6, gf, egf, h7, kV6⟩ := alloc_step V1 (#[.func (.func 82) #[] #[.pointer (some ⟨gm, 0, none⟩)], .func (.func 83) #[] #[.pointer (some ⟨gm, 0, none⟩)]]) 80
  have n8 : gm < gf := egf ▸ lt_of_block h2
  have n9 : w.heap.size ≤ gf := egf ▸ K4.size
  refine prq (.slice (some ⟨gf, 0, none⟩) 2 2) (w' := V6) (by rw [← eV6, ← egf]; kernel_rfl) ?_
  have h10 := kV6.bk h2
  have K11 := K4.nn kV6
  have z12 := kV6.size
  refine pcq 48 #[.slice (some ⟨gf, 0, none⟩) 2 2] Tryz.func48 ((efirst_aa 82 (pT gm 0) m.chk 83 (pT gm 0) (if m.k = 8 then 0 else 5) gf _ h7 (enters_of Tryz.func82 (by kernel_rfl) rfl) (fun W k => eform1_ok m gm W hr (k.bk h10)) (enters_of Tryz.func83 (by kernel_rfl) rfl) (fun W k => eform2_ok m gm W hr (k.bk h10))).mono ?_)
  rintro e V13 ⟨rfl, kV13⟩
  refine ⟨_, rfl, ?_⟩
  have K16 := K11.nn kV13
  have z17 := kV13.size
  refine pkq (.int .i64 (firstE [m.chk, if m.k = 8 then 0 else 5])) <| ps_end <| then_n <| sy_ret (by kernel_rfl) <| sy_out (.int .i64 (firstE [m.chk, if m.k = 8 then 0 else 5])) rfl (by kernel_rfl) ?_
  exact ⟨by rw [evi_first], K16⟩
noncomputable def qc77_10 (n : Nat) : Code := partOf Tryz.f53 n
theorem eclash_ok (m : Msg) (w : World) (ho : m.Ok) :
    Calls Tryz.prog 53 #[.agg (Msg.c m)] w (fun e w' => e = .returned (.bool m.cla) ∧ Keeps Nob w w') := by
  have hr := ho.R
  have K0 : Keeps Nob w w := Keeps.refl _ _
  refine sy_enter (qc77_10 1) ⟨#[.agg (Msg.c m), ud, ud, ud, ud, ud, ud, ud, ud, ud, ud, ud, ud, ud, ud, ud, ud, ud, ud, ud, ud, ud, ud, ud], []⟩ Tryz.func53 (by kernel_rfl) (by kernel_rfl) <| sy_sq (qc77_10 2) (qc77_10 3) <| sy_reg <| rg_q 0 [0, 1] ?_
  obtain ⟨V1, eV1, gm, egm, h2, kV1⟩ := alloc_step w ((Msg.c m)) 38
  have n3 : w.heap.size ≤ gm := egm ▸ K0.size
  refine prq (pT gm 0) (w' := V1) (by rw [← eV1, ← egm]; exact exec_box 38 (.tmp 0) (by kernel_rfl) (.agg (Msg.c m)) (by kernel_rfl)) ?_
  clear eV1
  have K4 := K0.nn kV1
  have z5 := kV1.size
  refine pkq (.bool false) <| ps_end <| then_n <| sy_sq (qc77_10 6) (qc77_10 7) <| sy_sq (qc77_10 12) (qc77_10 13) <| sy_reg <| rg_q 1 [0, 1] <| pkq (pT gm 11) <| ppq (.int .i64 m.pf) (exec_ld 3 (.tmp 3) gm 11 Tryz.underlying3 (rc (h2) (Msg.get_n hr NF.pf))) <| ps_end <| then_n <| sy_bk 0 (qc77_10 26) <| sy_sq (qc77_10 52) (qc77_10 53) <| sy_reg ?_
  refine rg_q 2 [0, 1] ?_
  by_cases c0 : m.pf = 1
  · refine ppq (.bool true) (eqt ((m.pf) : Int) ((1) : Int) (by omega)) <| pkq (.bool true) <| ps_end <| then_n <| sy_ys (.tmp 5) (qc77_10 106) (qc77_10 107) <| sy_sq (qc77_10 212) (qc77_10 213) <| sy_reg <| rg_q 3 [0, 1, 2, 3, 4, 5] <| pkq (pT gm 12) <| ppq (.agg (Att.c m.a)) (exec_load_seg 26 (.tmp 7) (by kernel_rfl) gm 12 (by kernel_rfl) (Att.c m.a).toList _ _ _ h2 (Msg.seg_A hr) Tryz.underlying26 rfl (by rw [Att.tl hr.a]; kernel_rfl)) <| pkq (pT gm 48) <| ppq (.agg (Att.c m.b)) (exec_load_seg 26 (.tmp 9) (by kernel_rfl) gm 48 (by kernel_rfl) (Att.c m.b).toList _ _ _ h2 (Msg.seg_B hr) Tryz.underlying26 rfl (by rw [Att.tl hr.b]; kernel_rfl)) ?_
    refine pcq 32 #[.agg (Att.c m.a), .agg (Att.c m.b)] Tryz.func32 ((vDoubles_ok m.a m.b _ ho.a ho.b).mono ?_)
    rintro e V6 ⟨rfl, kV6⟩
    refine ⟨_, rfl, ?_⟩
    have K8 := K4.nn kV6
    have z9 := kV6.size
    refine pkq (.bool (doub m.a m.b)) <| ps_end <| then_n <| sy_ret (by kernel_rfl) <| blk_r <| then_r <| sy_out (.bool (doub m.a m.b)) rfl (by kernel_rfl) ?_
    exact ⟨by unfold Msg.cla; rw [if_pos c0], K8⟩
  · refine ppq (.bool false) (eqf ((m.pf) : Int) ((1) : Int) (by omega)) <| pkq (.bool false) <| ps_end <| then_n <| sy_n (.tmp 5) (qc77_10 106) (qc77_10 107) <| sy_sq (qc77_10 214) (qc77_10 215) <| sy_reg <| rg_q 4 [0, 1] ?_
    by_cases c1 : m.pf = 2
    · refine ppq (.bool true) (eqt ((m.pf) : Int) ((2) : Int) (by omega)) <| pkq (.bool true) <| ps_end <| then_n <| sy_ys (.tmp 12) (qc77_10 430) (qc77_10 431) <| sy_sq (qc77_10 860) (qc77_10 861) <| sy_reg <| rg_q 5 [0, 1, 2, 3, 4, 5] <| pkq (pT gm 12) <| ppq (.agg (Att.c m.a)) (exec_load_seg 26 (.tmp 14) (by kernel_rfl) gm 12 (by kernel_rfl) (Att.c m.a).toList _ _ _ h2 (Msg.seg_A hr) Tryz.underlying26 rfl (by rw [Att.tl hr.a]; kernel_rfl)) <| pkq (pT gm 48) <| ppq (.agg (Att.c m.b)) (exec_load_seg 26 (.tmp 16) (by kernel_rfl) gm 48 (by kernel_rfl) (Att.c m.b).toList _ _ _ h2 (Msg.seg_B hr) Tryz.underlying26 rfl (by rw [Att.tl hr.b]; kernel_rfl)) ?_
      refine pcq 33 #[.agg (Att.c m.a), .agg (Att.c m.b)] Tryz.func33 ((vSurrounds_ok m.a m.b _ ho.a ho.b).mono ?_)
      rintro e V10 ⟨rfl, kV10⟩
      refine ⟨_, rfl, ?_⟩
      have K12 := K4.nn kV10
      have z13 := kV10.size
      refine pkq (.bool (surr m.a m.b)) <| ps_end <| then_n <| sy_ret (by kernel_rfl) <| blk_r <| then_r <| sy_out (.bool (surr m.a m.b)) rfl (by kernel_rfl) ?_
      exact ⟨by unfold Msg.cla; rw [if_neg c0, if_pos c1], K12⟩
    · refine ppq (.bool false) (eqf ((m.pf) : Int) ((2) : Int) (by omega)) <| pkq (.bool false) <| ps_end <| then_n <| sy_n (.tmp 12) (qc77_10 430) (qc77_10 431) <| sy_sk <| blk_n <| then_n <| sy_sq (qc77_10 14) (qc77_10 15) <| sy_reg <| rg_q 6 [0, 1, 2, 3, 4, 5] <| pkq (pT gm 84) <| ppq (.agg (Pro.c m.p)) (exec_load_seg 28 (.tmp 19) (by kernel_rfl) gm 84 (by kernel_rfl) (Pro.c m.p).toList _ _ _ h2 (Msg.seg_P hr) Tryz.underlying28 rfl (by rw [Pro.tl hr.p]; kernel_rfl)) <| pkq (pT gm 119) ?_
      refine ppq (.agg (Pro.c m.q)) (exec_load_seg 28 (.tmp 21) (by kernel_rfl) gm 119 (by kernel_rfl) (Pro.c m.q).toList _ _ _ h2 (Msg.seg_Q hr) Tryz.underlying28 rfl (by rw [Pro.tl hr.q]; kernel_rfl)) ?_
      refine pcq 35 #[.agg (Pro.c m.p), .agg (Pro.c m.q)] Tryz.func35 ((vDoublesBlock_ok m.p m.q _ ho.p ho.q).mono ?_)
      rintro e V14 ⟨rfl, kV14⟩
      refine ⟨_, rfl, ?_⟩
      have K16 := K4.nn kV14
      have z17 := kV14.size
      refine pkq (.bool (doubP m.p m.q)) <| ps_end <| then_n <| sy_ret (by kernel_rfl) <| sy_out (.bool (doubP m.p m.q)) rfl (by kernel_rfl) ?_
      exact ⟨by unfold Msg.cla; rw [if_neg c0, if_neg c1], K16⟩
noncomputable def qc77_8 (n : Nat) : Code := partOf Tryz.f54 n
theorem eheight_ok (p : Par) (m : Msg) (w : World) (hp : p.Ok) (ho : m.Ok) :
    Calls Tryz.prog 54 #[.agg p.cells, .agg (Msg.c m)] w (fun e w' => e = .returned (.tuple #[.int .i64 (hgt p m).1, .int .i64 (hgt p m).2]) ∧ Keeps Nob w w') := by
  have hr := ho.R
  have hmx : i64ok (max m.a.t m.b.t) := by have h1 := ho.a.t; have h2 := ho.b.t; unfold i64ok; unfold i64b at h1 h2; omega
  have K0 : Keeps Nob w w := Keeps.refl _ _
  refine sy_enter (qc77_8 1) ⟨#[.agg p.cells, .agg (Msg.c m), ud, ud, ud, ud, ud, ud, ud, ud, ud, ud, ud, ud, ud, ud, ud, ud, ud, ud, ud, ud, ud, ud, ud, ud], []⟩ Tryz.func54 (by kernel_rfl) (by kernel_rfl) <| sy_sq (qc77_8 2) (qc77_8 3) <| sy_reg <| rg_q 0 [0, 1, 2, 3] ?_
  obtain ⟨V1, eV1, gp, egp, h2, kV1⟩ := alloc_step w p.cells 45
  have n3 : w.heap.size ≤ gp := egp ▸ K0.size
  refine prq (pT gp 0) (w' := V1) (by rw [← eV1, ← egp]; exact exec_box 45 (.tmp 0) (by kernel_rfl) (.agg p.cells) (by kernel_rfl)) ?_
  clear eV1
  have K4 := K0.nn kV1
  have z5 := kV1.size
  obtain ⟨V6, eV6, gm, egm, h7, kV6⟩ := alloc_step V1 ((Msg.c m)) 38
  have n8 : gp < gm := egm ▸ lt_of_block h2
  have n9 : w.heap.size ≤ gm := egm ▸ K4.size
  refine prq (pT gm 0) (w' := V6) (by rw [← eV6, ← egm]; exact exec_box 38 (.tmp 1) (by kernel_rfl) (.agg (Msg.c m)) (by kernel_rfl)) ?_
  clear eV6
  have h10 := kV6.bk h2
  have K11 := K4.nn kV6
  have z12 := kV6.size
  refine pkq (.int .i64 0) <| pkq (.int .i64 0) <| ps_end <| then_n <| sy_sq (qc77_8 6) (qc77_8 7) <| sy_sq (qc77_8 12) (qc77_8 13) <| sy_reg <| rg_q 1 [0, 1] <| pkq (pT gm 11) <| ppq (.int .i64 m.pf) (exec_ld 3 (.tmp 6) gm 11 Tryz.underlying3 (rc (h7) (Msg.get_n hr NF.pf))) <| ps_end <| then_n <| sy_bk 0 (qc77_8 26) <| sy_sq (qc77_8 52) (qc77_8 53) ?_
  refine sy_bk 2 (qc77_8 104) <| sy_bk 1 (qc77_8 208) <| sy_sq (qc77_8 416) (qc77_8 417) <| sy_sq (qc77_8 832) (qc77_8 833) <| sy_sq (qc77_8 1664) (qc77_8 1665) <| sy_reg <| rg_q 2 [0, 1] ?_
  by_cases c0 : m.pf = 1
  · refine ppq (.bool true) (eqt ((m.pf) : Int) ((1) : Int) (by omega)) <| pkq (.bool true) <| ps_end <| then_n <| sy_ys (.tmp 8) (qc77_8 3330) (qc77_8 3331) <| sy_exit 1 (by kernel_rfl) <| then_e <| then_e <| blk_e <| blk_n <| then_n <| sy_sq (qc77_8 106) (qc77_8 107) <| sy_sq (qc77_8 212) (qc77_8 213) <| sy_reg ?_
    refine rg_q 4 [0, 1, 2, 3, 4, 5, 6, 7, 8, 9, 10, 11, 12] <| ppq (.agg (p.cells)) (exec_load_row 45 (.tmp 2) (by kernel_rfl) gp (by kernel_rfl) _ _ (0, 0) _ (h10) Tryz.underlying45 rfl (by kernel_rfl)) <| pkq (pT gm 12) <| pkq (pT gm 14) <| ppq (.int .i64 m.a.t) (exec_ld 3 (.tmp 14) gm 14 Tryz.underlying3 (rc (h7) (Msg.get_n hr NF.at_))) <| pkq (pT gm 48) <| pkq (pT gm 50) <| ppq (.int .i64 m.b.t) (exec_ld 3 (.tmp 17) gm 50 Tryz.underlying3 (rc (h7) (Msg.get_n hr NF.bt))) <| ppq (.int .i64 (max m.a.t m.b.t)) (exec_max (.tmp 15) (.tmp 18) #[3, 3] (by kernel_rfl) .i64 m.a.t m.b.t (by kernel_rfl) (by kernel_rfl)) ?_
    refine pcq 34 #[.agg (p.cells), .int .i64 (max m.a.t m.b.t)] Tryz.func34 ((pFirst_ok p hp (max m.a.t m.b.t) hmx _).mono ?_)
    rintro e V13 ⟨rfl, kV13⟩
    refine ⟨_, rfl, ?_⟩
    have K16 := K11.nn kV13
    have z17 := kV13.size
    refine pkq (.int .i64 (p.first (max m.a.t m.b.t)).1) <| pkq (.int .i64 (p.first (max m.a.t m.b.t)).2) <| pkq (.int .i64 (p.first (max m.a.t m.b.t)).1) <| pkq (.int .i64 (p.first (max m.a.t m.b.t)).2) <| ps_end <| then_n <| sy_ret (by kernel_rfl) <| then_r <| blk_r <| then_r <| sy_out (.tuple #[.int .i64 (p.first (max m.a.t m.b.t)).1, .int .i64 (p.first (max m.a.t m.b.t)).2]) rfl (by kernel_rfl) ?_
    exact ⟨by rw [hgt, if_pos (.inl c0)], K16⟩
  · refine ppq (.bool false) (eqf ((m.pf) : Int) ((1) : Int) (by omega)) <| pkq (.bool false) <| ps_end <| then_n <| sy_n (.tmp 8) (qc77_8 3330) (qc77_8 3331) <| sy_sk <| then_n <| sy_sq (qc77_8 1666) (qc77_8 1667) <| sy_reg <| rg_q 3 [0, 1] ?_
    by_cases c1 : m.pf = 2
    · refine ppq (.bool true) (eqt ((m.pf) : Int) ((2) : Int) (by omega)) <| pkq (.bool true) <| ps_end <| then_n <| sy_ys (.tmp 10) (qc77_8 3334) (qc77_8 3335) <| sy_exit 2 (by kernel_rfl) <| then_e <| blk_p (by decide) <| blk_e <| then_n <| sy_sq (qc77_8 106) (qc77_8 107) <| sy_sq (qc77_8 212) (qc77_8 213) <| sy_reg <| rg_q 4 [0, 1, 2, 3, 4, 5, 6, 7, 8, 9, 10, 11, 12] ?_
      refine ppq (.agg (p.cells)) (exec_load_row 45 (.tmp 2) (by kernel_rfl) gp (by kernel_rfl) _ _ (0, 0) _ (h10) Tryz.underlying45 rfl (by kernel_rfl)) <| pkq (pT gm 12) <| pkq (pT gm 14) <| ppq (.int .i64 m.a.t) (exec_ld 3 (.tmp 14) gm 14 Tryz.underlying3 (rc (h7) (Msg.get_n hr NF.at_))) <| pkq (pT gm 48) <| pkq (pT gm 50) <| ppq (.int .i64 m.b.t) (exec_ld 3 (.tmp 17) gm 50 Tryz.underlying3 (rc (h7) (Msg.get_n hr NF.bt))) <| ppq (.int .i64 (max m.a.t m.b.t)) (exec_max (.tmp 15) (.tmp 18) #[3, 3] (by kernel_rfl) .i64 m.a.t m.b.t (by kernel_rfl) (by kernel_rfl)) ?_
      refine pcq 34 #[.agg (p.cells), .int .i64 (max m.a.t m.b.t)] Tryz.func34 ((pFirst_ok p hp (max m.a.t m.b.t) hmx _).mono ?_)
      rintro e V18 ⟨rfl, kV18⟩
      refine ⟨_, rfl, ?_⟩
      have K21 := K11.nn kV18
      have z22 := kV18.size
      refine pkq (.int .i64 (p.first (max m.a.t m.b.t)).1) <| pkq (.int .i64 (p.first (max m.a.t m.b.t)).2) <| pkq (.int .i64 (p.first (max m.a.t m.b.t)).1) <| pkq (.int .i64 (p.first (max m.a.t m.b.t)).2) <| ps_end <| then_n <| sy_ret (by kernel_rfl) <| then_r <| blk_r <| then_r <| sy_out (.tuple #[.int .i64 (p.first (max m.a.t m.b.t)).1, .int .i64 (p.first (max m.a.t m.b.t)).2]) rfl (by kernel_rfl) ?_
      exact ⟨by rw [hgt, if_pos (.inr c1)], K21⟩
    · refine ppq (.bool false) (eqf ((m.pf) : Int) ((2) : Int) (by omega)) <| pkq (.bool false) <| ps_end <| then_n <| sy_n (.tmp 10) (qc77_8 3334) (qc77_8 3335) <| sy_sk <| then_n <| sy_exit 0 (by kernel_rfl) <| blk_p (by decide) <| blk_p (by decide) <| then_e <| blk_e <| then_n <| sy_sq (qc77_8 14) (qc77_8 15) ?_
      refine sy_reg <| rg_q 5 [0, 1, 2, 3, 4] <| pkq (pT gm 84) <| pkq (pT gm 85) <| ppq (.int .i64 m.p.h) (exec_ld 3 (.tmp 24) gm 85 Tryz.underlying3 (rc (h7) (Msg.get_n hr NF.ph))) <| pkq (.int .i64 m.p.h) <| pkq (.int .i64 0) <| ps_end <| then_n <| sy_ret (by kernel_rfl) <| sy_out (.tuple #[.int .i64 m.p.h, .int .i64 0]) rfl (by kernel_rfl) ?_
      exact ⟨by rw [hgt, if_neg (not_or.2 ⟨c0, c1⟩)], K11⟩
noncomputable def qc77_2 (n : Nat) : Code := partOf Tryz.f49 n
theorem eOffence1_ok (p : Par) (g : Nat) (w : World) (hp : p.Ok) (hb : w.heap[g]? = some (.cells p.cells 45 (0, 0))) :
    Calls Tryz.prog 49 #[.pointer (some ⟨g, 0, none⟩)] w (fun e w' => e = .returned (.int .i64 p.check.1) ∧ Keeps Nob w w') := by
  have K0 : Keeps Nob w w := Keeps.refl _ _
  refine sy_enter (qc77_2 1) ⟨#[pT g 0, ud, ud, ud, ud, ud, ud, ud, ud, ud], []⟩ Tryz.func49 (by kernel_rfl) (by kernel_rfl) <| sy_sq (qc77_2 2) (qc77_2 3) <| sy_reg <| rg_q 0 [0] <| pkq (.int .i64 0) <| ps_end <| then_n <| sy_sq (qc77_2 6) (qc77_2 7) <| sy_reg <| rg_q 1 [0, 1, 2, 3, 4, 5, 6] <| ppq (.agg (p.cells)) (exec_load_row 45 (.tmp 0) (by kernel_rfl) g (by kernel_rfl) _ _ (0, 0) _ (hb) Tryz.underlying45 rfl (by kernel_rfl)) ?_
  refine pcq 31 #[.agg (p.cells)] Tryz.func31 ((pCheck_ok p hp _).mono ?_)
  rintro e V1 ⟨rfl, kV1⟩
  refine ⟨_, rfl, ?_⟩
  have K3 := K0.nn kV1
  have z4 := kV1.size
  refine pkq (.tuple #[.int .i64 p.check.1, .int .i64 p.check.2]) <| pkq (.int .i64 p.check.1) <| pkq (.int .i64 p.check.2) <| pkq (.int .i64 p.check.1) <| pkq (.int .i64 p.check.2) <| ps_end <| then_n <| sy_sq (qc77_2 14) (qc77_2 15) <| sy_reg <| rg_q 2 [0, 1] <| pkq (.int .i64 p.check.1) <| pkq (.int .i64 p.check.1) <| ps_end <| then_n ?_
  refine sy_ret (by kernel_rfl) <| sy_out (.int .i64 p.check.1) rfl (by kernel_rfl) ?_
  exact ⟨rfl, K3⟩
noncomputable def qc77_3 (n : Nat) : Code := partOf Tryz.f50 n
theorem eOffence2_ok (m : Msg) (g : Nat) (w : World) (hr : m.R) (hb : w.heap[g]? = some (.cells (Msg.c m) 38 (0, 0))) :
    Calls Tryz.prog 50 #[.pointer (some ⟨g, 0, none⟩)] w (fun e w' => e = .returned (.int .i64 m.evi) ∧ Keeps Nob w w') := by
  have K0 : Keeps Nob w w := Keeps.refl _ _
  refine sy_enter (qc77_3 1) ⟨#[pT g 0, ud, ud, ud], []⟩ Tryz.func50 (by kernel_rfl) (by kernel_rfl) <| sy_sq (qc77_3 2) (qc77_3 3) <| sy_reg <| rg_q 0 [0] <| pkq (.int .i64 0) <| ps_end <| then_n <| sy_sq (qc77_3 6) (qc77_3 7) <| sy_reg <| rg_q 1 [0, 1, 2] <| ppq (.agg (Msg.c m)) (exec_load_row 38 (.tmp 0) (by kernel_rfl) g (by kernel_rfl) _ _ (0, 0) _ (hb) Tryz.underlying38 rfl (by rw [Msg.c_size hr]; kernel_rfl)) ?_
  refine pcq 51 #[.agg (Msg.c m)] Tryz.func51 ((eform_ok m _ hr).mono ?_)
  rintro e V1 ⟨rfl, kV1⟩
  refine ⟨_, rfl, ?_⟩
  have K3 := K0.nn kV1
  have z4 := kV1.size
  refine pkq (.int .i64 m.evi) <| ps_end <| then_n <| sy_ret (by kernel_rfl) <| sy_out (.int .i64 m.evi) rfl (by kernel_rfl) ?_
  exact ⟨rfl, K3⟩
noncomputable def qc77_4 (n : Nat) : Code := partOf Tryz.f59 n
theorem eSigned1_ok (m : Msg) (g : Nat) (w : World) (hr : m.R) (hb : w.heap[g]? = some (.cells (Msg.c m) 38 (0, 0))) :
    Calls Tryz.prog 59 #[.pointer (some ⟨g, 0, none⟩)] w (fun e w' => e = .returned (.int .i64 m.evi) ∧ Keeps Nob w w') := by
  have K0 : Keeps Nob w w := Keeps.refl _ _
  refine sy_enter (qc77_4 1) ⟨#[pT g 0, ud, ud, ud], []⟩ Tryz.func59 (by kernel_rfl) (by kernel_rfl) <| sy_sq (qc77_4 2) (qc77_4 3) <| sy_reg <| rg_q 0 [0] <| pkq (.int .i64 0) <| ps_end <| then_n <| sy_sq (qc77_4 6) (qc77_4 7) <| sy_reg <| rg_q 1 [0, 1, 2] <| ppq (.agg (Msg.c m)) (exec_load_row 38 (.tmp 0) (by kernel_rfl) g (by kernel_rfl) _ _ (0, 0) _ (hb) Tryz.underlying38 rfl (by rw [Msg.c_size hr]; kernel_rfl)) ?_
  refine pcq 51 #[.agg (Msg.c m)] Tryz.func51 ((eform_ok m _ hr).mono ?_)
  rintro e V1 ⟨rfl, kV1⟩
  refine ⟨_, rfl, ?_⟩
  have K3 := K0.nn kV1
  have z4 := kV1.size
  refine pkq (.int .i64 m.evi) <| ps_end <| then_n <| sy_ret (by kernel_rfl) <| sy_out (.int .i64 m.evi) rfl (by kernel_rfl) ?_
  exact ⟨rfl, K3⟩
theorem eclash_is {m : Msg} {r : Bool} (w : World) (ho : m.Ok) (h : m.cla = r) : Calls Tryz.prog 53 #[.agg (Msg.c m)] w fun e w' => e = .returned (.bool r) ∧ Keeps Nob w w' := by subst h; exact eclash_ok m w ho
noncomputable def qc77_1 (n : Nat) : Code := partOf Tryz.f52 n
theorem eOffence3_ok (m : Msg) (g : Nat) (w : World) (ho : m.Ok) (hb : w.heap[g]? = some (.cells (Msg.c m) 38 (0, 0))) :
    Calls Tryz.prog 52 #[.pointer (some ⟨g, 0, none⟩)] w (fun e w' => e = .returned (.int .i64 (if m.cla = true then 0 else 18)) ∧ Keeps Nob w w') := by
  have hr := ho.R
  have K0 : Keeps Nob w w := Keeps.refl _ _
  refine sy_enter (qc77_1 1) ⟨#[pT g 0, ud, ud, ud, ud], []⟩ Tryz.func52 (by kernel_rfl) (by kernel_rfl) <| sy_sq (qc77_1 2) (qc77_1 3) <| sy_reg <| rg_q 0 [0] <| pkq (.int .i64 0) <| ps_end <| then_n <| sy_sq (qc77_1 6) (qc77_1 7) <| sy_sq (qc77_1 12) (qc77_1 13) <| sy_reg <| rg_q 1 [0, 1, 2] ?_
  by_cases c0 : m.cla = true
  · refine ppq (.agg (Msg.c m)) (exec_load_row 38 (.tmp 0) (by kernel_rfl) g (by kernel_rfl) _ _ (0, 0) _ (hb) Tryz.underlying38 rfl (by rw [Msg.c_size hr]; kernel_rfl)) ?_
    refine pcq 53 #[.agg (Msg.c m)] Tryz.func53 ((eclash_is _ ho c0).mono ?_)
    rintro e V1 ⟨rfl, kV1⟩
    refine ⟨_, rfl, ?_⟩
    have K3 := K0.nn kV1
    have z4 := kV1.size
    refine pkq (.bool false) <| ps_end <| then_n <| sy_n (.tmp 4) (qc77_1 26) (qc77_1 27) <| sy_sk <| then_n <| sy_sq (qc77_1 14) (qc77_1 15) <| sy_reg <| rg_q 3 [0] <| pkq (.int .i64 0) <| ps_end <| then_n <| sy_ret (by kernel_rfl) <| sy_out (.int .i64 0) rfl (by kernel_rfl) ?_
    exact ⟨by simp [c0], K3⟩
  · have c1 := bnot c0
    refine ppq (.agg (Msg.c m)) (exec_load_row 38 (.tmp 0) (by kernel_rfl) g (by kernel_rfl) _ _ (0, 0) _ (hb) Tryz.underlying38 rfl (by rw [Msg.c_size hr]; kernel_rfl)) ?_
    refine pcq 53 #[.agg (Msg.c m)] Tryz.func53 ((eclash_is _ ho c1).mono ?_)
    rintro e V5 ⟨rfl, kV5⟩
    refine ⟨_, rfl, ?_⟩
    have K7 := K0.nn kV5
    have z8 := kV5.size
    refine pkq (.bool true) <| ps_end <| then_n <| sy_ys (.tmp 4) (qc77_1 26) (qc77_1 27) <| sy_sq (qc77_1 52) (qc77_1 53) <| sy_reg <| rg_q 2 [0] <| pkq (.int .i64 18) <| ps_end <| then_n <| sy_ret (by kernel_rfl) <| then_r <| sy_out (.int .i64 18) rfl (by kernel_rfl) ?_
    exact ⟨by simp [c0], K7⟩
noncomputable def qc77_5 (n : Nat) : Code := partOf Tryz.f18 n
theorem eOffence_ok (p : Par) (m : Msg) (w : World) (hp : p.Ok) (ho : m.Ok) :
    Calls Tryz.prog 18 #[.agg p.cells, .agg (Msg.c m)] w (fun e w' => e = .returned (.tuple #[.agg (offe p m).1.cs, .int .i64 (offe p m).2]) ∧ Keeps Nob w w') := by
  have hr := ho.R
  have K0 : Keeps Nob w w := Keeps.refl _ _
  refine sy_enter (qc77_5 1) ⟨#[.agg p.cells, .agg (Msg.c m), ud, ud, ud, ud, ud, ud, ud, ud, ud, ud, ud, ud, ud, ud, ud, ud, ud, ud, ud, ud, ud, ud, ud, ud, ud, ud, ud, ud, ud, ud, ud, ud, ud, ud, ud, ud, ud, ud], []⟩ Tryz.func18 (by kernel_rfl) (by kernel_rfl) <| sy_sq (qc77_5 2) (qc77_5 3) <| sy_reg <| rg_q 0 [0, 1, 2, 3] ?_
  obtain ⟨V1, eV1, gp, egp, h2, kV1⟩ := alloc_step w p.cells 45
  have n3 : w.heap.size ≤ gp := egp ▸ K0.size
  refine prq (pT gp 0) (w' := V1) (by rw [← eV1, ← egp]; exact exec_box 45 (.tmp 0) (by kernel_rfl) (.agg p.cells) (by kernel_rfl)) ?_
  clear eV1
  have K4 := K0.nn kV1
  have z5 := kV1.size
  obtain ⟨V6, eV6, gm, egm, h7, kV6⟩ := alloc_step V1 ((Msg.c m)) 38
  have n8 : gp < gm := egm ▸ lt_of_block h2
  have n9 : w.heap.size ≤ gm := egm ▸ K4.size
  refine prq (pT gm 0) (w' := V6) (by rw [← eV6, ← egm]; exact exec_box 38 (.tmp 1) (by kernel_rfl) (.agg (Msg.c m)) (by kernel_rfl)) ?_
  clear eV6
  have h10 := kV6.bk h2
  have K11 := K4.nn kV6
  have z12 := kV6.size
  obtain ⟨V13, eV13, go, ego, h14, kV13⟩ := alloc_step V6 (#[.int .i64 0, .int .i64 0, .int .i64 0]) 49
  have n15 : gp < go := ego ▸ lt_of_block h10
  have n16 : gm < go := ego ▸ lt_of_block h7
  have n17 : w.heap.size ≤ go := ego ▸ K11.size
  refine prq (pT go 0) (w' := V13) (by rw [← eV13, ← ego]; exact exec_alloc0 49 (by kernel_rfl) (.agg (#[.int .i64 0, .int .i64 0, .int .i64 0])) (by kernel_rfl)) ?_
  clear eV13
  have h18 := kV13.bk h10
  have h19 := kV13.bk h7
  have K20 := K11.nn kV13
  have z21 := kV13.size
  refine pkq (.int .i64 0) <| ps_end <| then_n <| sy_sq (qc77_5 6) (qc77_5 7) <| sy_reg <| rg_q 1 [0, 1, 2, 3, 4, 5] <| pkq (.func (.func 49) #[] #[pT gp 0]) <| pkq (.func (.func 50) #[] #[pT gm 0]) <| pkq (.func (.func 52) #[] #[pT gm 0]) ?_
  obtain ⟨V22, eV22, gf, egf, h23, kV22⟩ := alloc_step V13 (#[.func (.func 49) #[] #[.pointer (some ⟨gp, 0, none⟩)], .func (.func 50) #[] #[.pointer (some ⟨gm, 0, none⟩)], .func (.func 52) #[] #[.pointer (some ⟨gm, 0, none⟩)]]) 80
  have n24 : gp < gf := egf ▸ lt_of_block h18
  have n25 : gm < gf := egf ▸ lt_of_block h19
  have n26 : go < gf := egf ▸ lt_of_block h14
  have n27 : w.heap.size ≤ gf := egf ▸ K20.size
  refine prq (.slice (some ⟨gf, 0, none⟩) 3 3) (w' := V22) (by rw [← eV22, ← egf]; kernel_rfl) ?_
  have h28 := kV22.bk h18
  have h29 := kV22.bk h19
  have h30 := kV22.bk h14
  have K31 := K20.nn kV22
  have z32 := kV22.size
  refine pcq 48 #[.slice (some ⟨gf, 0, none⟩) 3 3] Tryz.func48 ((efirst_aaa 49 (pT gp 0) p.check.1 50 (pT gm 0) m.evi 52 (pT gm 0) (if m.cla = true then 0 else 18) gf _ h23 (enters_of Tryz.func49 (by kernel_rfl) rfl) (fun W k => eOffence1_ok p gp W hp (k.bk h28)) (enters_of Tryz.func50 (by kernel_rfl) rfl) (fun W k => eOffence2_ok m gm W hr (k.bk h29)) (enters_of Tryz.func52 (by kernel_rfl) rfl) (fun W k => eOffence3_ok m gm W ho (k.bk h29))).mono ?_)
  rintro e V33 ⟨rfl, kV33⟩
  refine ⟨_, rfl, ?_⟩
  have h34 := kV33.bk h28
  have h35 := kV33.bk h29
  have h36 := kV33.bk h30
  have K38 := K31.nn kV33
  have z39 := kV33.size
  refine pkq (.int .i64 (offE p m)) <| ps_end <| then_n <| sy_sq (qc77_5 14) (qc77_5 15) <| sy_sq (qc77_5 28) (qc77_5 29) <| sy_reg <| rg_q 2 [0, 1] ?_
  by_cases c0 : offE p m = 0
  · refine pkq (.int .i64 (offE p m)) <| ppq (.bool false) (nqf ((offE p m) : Int) ((0) : Int) (by omega)) <| ps_end <| then_n <| sy_n (.tmp 14) (qc77_5 58) (qc77_5 59) <| sy_sk <| then_n <| sy_sq (qc77_5 30) (qc77_5 31) <| sy_reg <| rg_q 4 [0, 1, 2, 3, 4, 5, 6, 7] <| ppq (.agg (p.cells)) (exec_load_row 45 (.tmp 2) (by kernel_rfl) gp (by kernel_rfl) _ _ (0, 0) _ (h34) Tryz.underlying45 rfl (by kernel_rfl)) <| ppq (.agg (Msg.c m)) (exec_load_row 38 (.tmp 3) (by kernel_rfl) gm (by kernel_rfl) _ _ (0, 0) _ (h35) Tryz.underlying38 rfl (by rw [Msg.c_size hr]; kernel_rfl)) ?_
    refine pcq 54 #[.agg (p.cells), .agg (Msg.c m)] Tryz.func54 ((eheight_ok p m _ hp ho).mono ?_)
    rintro e V40 ⟨rfl, kV40⟩
    refine ⟨_, rfl, ?_⟩
    have h42 := kV40.bk h35
    have h43 := kV40.bk h36
    have K45 := K38.nn kV40
    have z46 := kV40.size
    refine pkq (.tuple #[.int .i64 (hgt p m).1, .int .i64 (hgt p m).2]) <| pkq (.int .i64 (hgt p m).1) <| pkq (.int .i64 (hgt p m).2) <| pkq (.int .i64 (hgt p m).1) <| pkq (.int .i64 (hgt p m).2) <| ps_end <| then_n <| sy_sq (qc77_5 62) (qc77_5 63) <| sy_sq (qc77_5 124) (qc77_5 125) <| sy_reg <| rg_q 5 [0, 1] ?_
    by_cases c1 : (hgt p m).2 = 0
    · refine pkq (.int .i64 (hgt p m).2) <| ppq (.bool false) (nqf (((hgt p m).2) : Int) ((0) : Int) (by omega)) <| ps_end <| then_n <| sy_n (.tmp 24) (qc77_5 250) (qc77_5 251) <| sy_sk <| then_n <| sy_sq (qc77_5 126) (qc77_5 127) <| sy_sq (qc77_5 252) (qc77_5 253) <| sy_reg <| rg_q 7 [0, 1, 2] ?_
      by_cases c2 : m.pf = 3
      · refine pkq (pT gm 11) <| ppq (.int .i64 m.pf) (exec_ld 3 (.tmp 27) gm 11 Tryz.underlying3 (rc (h42) (Msg.get_n hr NF.pf))) <| ppq (.bool true) (eqt ((m.pf) : Int) ((3) : Int) (by omega)) <| ps_end <| sy_a ⟨#[.agg p.cells, .agg (Msg.c m), pT gp 0, pT gm 0, pT go 0, .int .i64 0, .int .i64 (hgt p m).2, .int .i64 (hgt p m).1, .func (.func 49) #[] #[pT gp 0], .func (.func 50) #[] #[pT gm 0], .func (.func 52) #[] #[pT gm 0], .slice (some ⟨gf, 0, none⟩) 3 3, .int .i64 (offE p m), .int .i64 (offE p m), .bool false, ud, ud, .tuple #[.int .i64 (hgt p m).1, .int .i64 (hgt p m).2], .agg (p.cells), .agg (Msg.c m), .tuple #[.int .i64 (hgt p m).1, .int .i64 (hgt p m).2], .int .i64 (hgt p m).1, .int .i64 (hgt p m).2, .int .i64 (hgt p m).2, .bool false, ud, ud, pT gm 11, .int .i64 m.pf, .bool true, ud, ud, ud, ud, ud, ud, ud, ud, ud, ud], []⟩ <| then_n <| sy_ys (.tmp 29) (qc77_5 506) (qc77_5 507) <| sy_sq (qc77_5 1012) (qc77_5 1013) <| sy_reg <| rg_q 8 [0, 1, 2, 3, 4, 5, 6] <| pkq (pT gm 84) <| pkq (pT gm 84) <| ppq (.int .i64 m.p.v) (exec_ld 3 (.tmp 31) gm 84 Tryz.underlying3 (rc (h42) (Msg.get_n hr NF.pv))) <| pkq (.int .i64 (hgt p m).1) ?_
        refine pkq (.agg #[.int .i64 m.p.v, .int .i64 2, .int .i64 (hgt p m).1]) ?_
        obtain ⟨V47, eV47, kV47⟩ := rowset_step V40 go (#[.int .i64 m.p.v, .int .i64 2, .int .i64 (hgt p m).1])
        have h48 : V47.heap[go]? = some (.cells (#[.int .i64 m.p.v, .int .i64 2, .int .i64 (hgt p m).1]) 49 (0, 0)) := eV47 ▸ setRow_heap _ _ _ _ _ _ h43
        refine pzq (w' := V47) (by rw [← eV47]; exact exec_store_row 49 (.tmp 4) (.tmp 34) (by kernel_rfl) go (#[.int .i64 m.p.v, .int .i64 2, .int .i64 (hgt p m).1]) (by kernel_rfl) (by kernel_rfl) 49 (#[.int .i64 0, .int .i64 0, .int .i64 0]) h43 (by kernel_rfl) rfl (by kernel_rfl)) ?_
        clear eV47
        have K52 := K45.no kV47 (by omega)
        have z53 := kV47.size
        refine pkq (.int .i64 0) <| ps_end <| then_n <| sy_ret (by kernel_rfl) <| then_r <| sy_out (.tuple #[.agg (#[.int .i64 m.p.v, .int .i64 2, .int .i64 (hgt p m).1]), .int .i64 0]) rfl (results_row_tmp (p := 4) (q := 5) (ty := 49) (by kernel_rfl) _ _ go 49 (#[.int .i64 m.p.v, .int .i64 2, .int .i64 (hgt p m).1]) (0, 0) _ (.int .i64 0) (by kernel_rfl) h48 Tryz.underlying49 rfl (by kernel_rfl) (by kernel_rfl)) ?_
        exact ⟨by rw [offe, if_pos c0, if_pos c1, if_pos c2]; (try rfl), K52⟩
      · refine pkq (pT gm 11) <| ppq (.int .i64 m.pf) (exec_ld 3 (.tmp 27) gm 11 Tryz.underlying3 (rc (h42) (Msg.get_n hr NF.pf))) <| ppq (.bool false) (eqf ((m.pf) : Int) ((3) : Int) (by omega)) <| ps_end <| sy_a ⟨#[.agg p.cells, .agg (Msg.c m), pT gp 0, pT gm 0, pT go 0, .int .i64 0, .int .i64 (hgt p m).2, .int .i64 (hgt p m).1, .func (.func 49) #[] #[pT gp 0], .func (.func 50) #[] #[pT gm 0], .func (.func 52) #[] #[pT gm 0], .slice (some ⟨gf, 0, none⟩) 3 3, .int .i64 (offE p m), .int .i64 (offE p m), .bool false, ud, ud, .tuple #[.int .i64 (hgt p m).1, .int .i64 (hgt p m).2], .agg (p.cells), .agg (Msg.c m), .tuple #[.int .i64 (hgt p m).1, .int .i64 (hgt p m).2], .int .i64 (hgt p m).1, .int .i64 (hgt p m).2, .int .i64 (hgt p m).2, .bool false, ud, ud, pT gm 11, .int .i64 m.pf, .bool false, ud, ud, ud, ud, ud, ud, ud, ud, ud, ud], []⟩ <| then_n <| sy_n (.tmp 29) (qc77_5 506) (qc77_5 507) <| sy_sk <| then_n <| sy_sq (qc77_5 254) (qc77_5 255) <| sy_reg <| rg_q 9 [0, 1, 2, 3, 4, 5, 6] <| pkq (pT gm 12) <| pkq (pT gm 12) ?_
        refine ppq (.int .i64 m.a.v) (exec_ld 3 (.tmp 36) gm 12 Tryz.underlying3 (rc (h42) (Msg.get_n hr NF.av))) <| pkq (.int .i64 (hgt p m).1) <| pkq (.agg #[.int .i64 m.a.v, .int .i64 1, .int .i64 (hgt p m).1]) ?_
        obtain ⟨V54, eV54, kV54⟩ := rowset_step V40 go (#[.int .i64 m.a.v, .int .i64 1, .int .i64 (hgt p m).1])
        have h55 : V54.heap[go]? = some (.cells (#[.int .i64 m.a.v, .int .i64 1, .int .i64 (hgt p m).1]) 49 (0, 0)) := eV54 ▸ setRow_heap _ _ _ _ _ _ h43
        refine pzq (w' := V54) (by rw [← eV54]; exact exec_store_row 49 (.tmp 4) (.tmp 39) (by kernel_rfl) go (#[.int .i64 m.a.v, .int .i64 1, .int .i64 (hgt p m).1]) (by kernel_rfl) (by kernel_rfl) 49 (#[.int .i64 0, .int .i64 0, .int .i64 0]) h43 (by kernel_rfl) rfl (by kernel_rfl)) ?_
        clear eV54
        have K59 := K45.no kV54 (by omega)
        have z60 := kV54.size
        refine pkq (.int .i64 0) <| ps_end <| then_n <| sy_ret (by kernel_rfl) <| sy_out (.tuple #[.agg (#[.int .i64 m.a.v, .int .i64 1, .int .i64 (hgt p m).1]), .int .i64 0]) rfl (results_row_tmp (p := 4) (q := 5) (ty := 49) (by kernel_rfl) _ _ go 49 (#[.int .i64 m.a.v, .int .i64 1, .int .i64 (hgt p m).1]) (0, 0) _ (.int .i64 0) (by kernel_rfl) h55 Tryz.underlying49 rfl (by kernel_rfl) (by kernel_rfl)) ?_
        exact ⟨by rw [offe, if_pos c0, if_pos c1, if_neg c2]; (try rfl), K59⟩
    · refine pkq (.int .i64 (hgt p m).2) <| ppq (.bool true) (nqt (((hgt p m).2) : Int) ((0) : Int) (by omega)) <| ps_end <| then_n <| sy_ys (.tmp 24) (qc77_5 250) (qc77_5 251) <| sy_sq (qc77_5 500) (qc77_5 501) <| sy_reg <| rg_q 6 [0, 1, 2, 3] <| pkq (.agg #[.int .i64 0, .int .i64 0, .int .i64 0]) <| pkq (.int .i64 (hgt p m).2) ?_
      obtain ⟨V61, eV61, kV61⟩ := rowset_step V40 go (#[.int .i64 0, .int .i64 0, .int .i64 0])
      have h62 : V61.heap[go]? = some (.cells (#[.int .i64 0, .int .i64 0, .int .i64 0]) 49 (0, 0)) := eV61 ▸ setRow_heap _ _ _ _ _ _ h43
      refine pzq (w' := V61) (by rw [← eV61]; exact exec_store_row 49 (.tmp 4) (.tmp 25) (by kernel_rfl) go (#[.int .i64 0, .int .i64 0, .int .i64 0]) (by kernel_rfl) (by kernel_rfl) 49 (#[.int .i64 0, .int .i64 0, .int .i64 0]) h43 (by kernel_rfl) rfl (by kernel_rfl)) ?_
      clear eV61
      have K66 := K45.no kV61 (by omega)
      have z67 := kV61.size
      refine pkq (.int .i64 (hgt p m).2) <| ps_end <| sy_a ⟨#[.agg p.cells, .agg (Msg.c m), pT gp 0, pT gm 0, pT go 0, .int .i64 (hgt p m).2, .int .i64 (hgt p m).2, .int .i64 (hgt p m).1, .func (.func 49) #[] #[pT gp 0], .func (.func 50) #[] #[pT gm 0], .func (.func 52) #[] #[pT gm 0], .slice (some ⟨gf, 0, none⟩) 3 3, .int .i64 (offE p m), .int .i64 (offE p m), .bool false, ud, ud, .tuple #[.int .i64 (hgt p m).1, .int .i64 (hgt p m).2], .agg (p.cells), .agg (Msg.c m), .tuple #[.int .i64 (hgt p m).1, .int .i64 (hgt p m).2], .int .i64 (hgt p m).1, .int .i64 (hgt p m).2, .int .i64 (hgt p m).2, .bool true, .agg #[.int .i64 0, .int .i64 0, .int .i64 0], .int .i64 (hgt p m).2, ud, ud, ud, ud, ud, ud, ud, ud, ud, ud, ud, ud, ud], []⟩ <| then_n <| sy_ret (by kernel_rfl) <| then_r <| sy_out (.tuple #[.agg (#[.int .i64 0, .int .i64 0, .int .i64 0]), .int .i64 (hgt p m).2]) rfl (results_row_tmp (p := 4) (q := 5) (ty := 49) (by kernel_rfl) _ _ go 49 (#[.int .i64 0, .int .i64 0, .int .i64 0]) (0, 0) _ (.int .i64 (hgt p m).2) (by kernel_rfl) h62 Tryz.underlying49 rfl (by kernel_rfl) (by kernel_rfl)) ?_
      exact ⟨by rw [offe, if_pos c0, if_neg c1]; (try rfl), K66⟩
  · refine pkq (.int .i64 (offE p m)) <| ppq (.bool true) (nqt ((offE p m) : Int) ((0) : Int) (by omega)) <| ps_end <| then_n <| sy_ys (.tmp 14) (qc77_5 58) (qc77_5 59) <| sy_sq (qc77_5 116) (qc77_5 117) <| sy_reg <| rg_q 3 [0, 1, 2, 3] <| pkq (.agg #[.int .i64 0, .int .i64 0, .int .i64 0]) <| pkq (.int .i64 (offE p m)) ?_
    obtain ⟨V68, eV68, kV68⟩ := rowset_step V33 go (#[.int .i64 0, .int .i64 0, .int .i64 0])
    have h69 : V68.heap[go]? = some (.cells (#[.int .i64 0, .int .i64 0, .int .i64 0]) 49 (0, 0)) := eV68 ▸ setRow_heap _ _ _ _ _ _ h36
    refine pzq (w' := V68) (by rw [← eV68]; exact exec_store_row 49 (.tmp 4) (.tmp 15) (by kernel_rfl) go (#[.int .i64 0, .int .i64 0, .int .i64 0]) (by kernel_rfl) (by kernel_rfl) 49 (#[.int .i64 0, .int .i64 0, .int .i64 0]) h36 (by kernel_rfl) rfl (by kernel_rfl)) ?_
    clear eV68
    have K73 := K38.no kV68 (by omega)
    have z74 := kV68.size
    refine pkq (.int .i64 (offE p m)) <| ps_end <| then_n <| sy_ret (by kernel_rfl) <| then_r <| sy_out (.tuple #[.agg (#[.int .i64 0, .int .i64 0, .int .i64 0]), .int .i64 (offE p m)]) rfl (results_row_tmp (p := 4) (q := 5) (ty := 49) (by kernel_rfl) _ _ go 49 (#[.int .i64 0, .int .i64 0, .int .i64 0]) (0, 0) _ (.int .i64 (offE p m)) (by kernel_rfl) h69 Tryz.underlying49 rfl (by kernel_rfl) (by kernel_rfl)) ?_
    exact ⟨by rw [offe, if_neg c0]; (try rfl), K73⟩
noncomputable def qc77_12 (n : Nat) : Code := partOf Tryz.f61 n
theorem eseals_ok (m : Msg) (w : World) (ho : m.Ok) :
    Calls Tryz.prog 61 #[.agg (Msg.c m)] w (fun e w' => ∃ g, e = .returned (.slice (some ⟨g, 0, none⟩) 2 2) ∧ w'.heap[g]? = some (.cells (List.flatMap Sel.cl m.sls).toArray 30 (0, 0)) ∧ w.heap.size ≤ g ∧ Keeps Nob w w') := by
  have hr := ho.R
  obtain ⟨i0, hi0, hz0, hz1, _⟩ := info_parts sel_info0
  have K0 : Keeps Nob w w := Keeps.refl _ _
  refine sy_enter (qc77_12 1) ⟨#[.agg (Msg.c m), ud, ud, ud, ud, ud, ud, ud, ud, ud, ud, ud, ud, ud, ud, ud, ud, ud, ud, ud, ud, ud, ud, ud, ud, ud, ud, ud, ud, ud, ud, ud, ud, ud, ud, ud, ud, ud, ud, ud, ud, ud, ud, ud], []⟩ Tryz.func61 (by kernel_rfl) (by kernel_rfl) <| sy_sq (qc77_12 2) (qc77_12 3) <| sy_reg <| rg_q 0 [0, 1] ?_
  obtain ⟨V1, eV1, gm, egm, h2, kV1⟩ := alloc_step w ((Msg.c m)) 38
  have n3 : w.heap.size ≤ gm := egm ▸ K0.size
  refine prq (pT gm 0) (w' := V1) (by rw [← eV1, ← egm]; exact exec_box 38 (.tmp 0) (by kernel_rfl) (.agg (Msg.c m)) (by kernel_rfl)) ?_
  clear eV1
  have K4 := K0.nn kV1
  have z5 := kV1.size
  refine pkq (.slice none 0 0) <| ps_end <| then_n <| sy_sq (qc77_12 6) (qc77_12 7) <| sy_sq (qc77_12 12) (qc77_12 13) <| sy_reg <| rg_q 1 [0, 1, 2] ?_
  by_cases c0 : m.pf = 3
  · refine pkq (pT gm 11) <| ppq (.int .i64 m.pf) (exec_ld 3 (.tmp 11) gm 11 Tryz.underlying3 (rc (h2) (Msg.get_n hr NF.pf))) <| ppq (.bool true) (eqt ((m.pf) : Int) ((3) : Int) (by omega)) <| ps_end <| then_n <| sy_ys (.tmp 13) (qc77_12 26) (qc77_12 27) <| sy_sq (qc77_12 52) (qc77_12 53) <| sy_reg <| rg_q 2 [0, 1, 2, 3, 4, 5, 6, 7, 8] <| pkq (pT gm 84) <| ppq (.agg (Pro.c m.p)) (exec_load_seg 28 (.tmp 15) (by kernel_rfl) gm 84 (by kernel_rfl) (Pro.c m.p).toList _ _ _ h2 (Msg.seg_P hr) Tryz.underlying28 rfl (by rw [Pro.tl hr.p]; kernel_rfl)) ?_
    refine pcq 10 #[.agg (Pro.c m.p)] Tryz.func10 ((eSealBlock_ok m.p _ ho.p).mono ?_)
    rintro e V6 ⟨rfl, kV6⟩
    refine ⟨_, rfl, ?_⟩
    have h7 := kV6.bk h2
    have K8 := K4.nn kV6
    have z9 := kV6.size
    refine pkq (.tuple #[.agg (Sel.c m.p.sel), .int .i64 m.p.err]) <| pkq (.agg (Sel.c m.p.sel)) <| pkq (.int .i64 m.p.err) ?_
    obtain ⟨V10, eV10, gs2, egs2, h11, kV10⟩ := alloc_step V6 ((Sel.c selZ)) 30
    have n12 : gm < gs2 := egs2 ▸ lt_of_block h7
    have n13 : w.heap.size ≤ gs2 := egs2 ▸ K8.size
    refine prq (pT gs2 0) (w' := V10) (by rw [← eV10, ← egs2]; exact exec_alloc0 30 (by kernel_rfl) (.agg ((Sel.c selZ))) (by kernel_rfl)) ?_
    clear eV10
    have h14 := kV10.bk h7
    have K15 := K8.nn kV10
    have z16 := kV10.size
    obtain ⟨V17, eV17, kV17⟩ := rowset_step V10 gs2 ((Sel.c m.p.sel))
    have h18 : V17.heap[gs2]? = some (.cells (Sel.c m.p.sel) 30 (0, 0)) := eV17 ▸ setRow_heap _ _ _ _ _ _ h11
    refine pzq (w' := V17) (by rw [← eV17]; exact exec_store_row 30 (.tmp 3) (.tmp 18) (by kernel_rfl) gs2 ((Sel.c m.p.sel)) (by kernel_rfl) (by kernel_rfl) 30 ((Sel.c selZ)) h11 (by rw [Sel.c_size _ m.p.sel_r]; kernel_rfl) (by rw [Sel.c_size _ m.p.sel_r]; rfl) (Sel.c_one _)) ?_
    clear eV17
    have h19 := kV17.bo h14 (by omega)
    have K20 := K15.no kV17 (by omega)
    have z21 := kV17.size
    refine pkq (.int .i64 m.p.err) <| ps_end <| then_n <| sy_sq (qc77_12 106) (qc77_12 107) <| sy_reg <| rg_q 3 [0, 1, 2, 3, 4, 5, 6, 7, 8] <| pkq (pT gm 119) <| ppq (.agg (Pro.c m.q)) (exec_load_seg 28 (.tmp 21) (by kernel_rfl) gm 119 (by kernel_rfl) (Pro.c m.q).toList _ _ _ h19 (Msg.seg_Q hr) Tryz.underlying28 rfl (by rw [Pro.tl hr.q]; kernel_rfl)) ?_
    refine pcq 10 #[.agg (Pro.c m.q)] Tryz.func10 ((eSealBlock_ok m.q _ ho.q).mono ?_)
    rintro e V22 ⟨rfl, kV22⟩
    refine ⟨_, rfl, ?_⟩
    have h23 := kV22.bk h19
    have h24 := kV22.bk h18
    have K25 := K20.nn kV22
    have z26 := kV22.size
    refine pkq (.tuple #[.agg (Sel.c m.q.sel), .int .i64 m.q.err]) <| pkq (.agg (Sel.c m.q.sel)) <| pkq (.int .i64 m.q.err) ?_
    obtain ⟨V27, eV27, gs3, egs3, h28, kV27⟩ := alloc_step V22 ((Sel.c selZ)) 30
    have n29 : gm < gs3 := egs3 ▸ lt_of_block h23
    have n30 : gs2 < gs3 := egs3 ▸ lt_of_block h24
    have n31 : w.heap.size ≤ gs3 := egs3 ▸ K25.size
    refine prq (pT gs3 0) (w' := V27) (by rw [← eV27, ← egs3]; exact exec_alloc0 30 (by kernel_rfl) (.agg ((Sel.c selZ))) (by kernel_rfl)) ?_
    clear eV27
    have h32 := kV27.bk h23
    have h33 := kV27.bk h24
    have K34 := K25.nn kV27
    have z35 := kV27.size
    obtain ⟨V36, eV36, kV36⟩ := rowset_step V27 gs3 ((Sel.c m.q.sel))
    have h37 : V36.heap[gs3]? = some (.cells (Sel.c m.q.sel) 30 (0, 0)) := eV36 ▸ setRow_heap _ _ _ _ _ _ h28
    refine pzq (w' := V36) (by rw [← eV36]; exact exec_store_row 30 (.tmp 5) (.tmp 24) (by kernel_rfl) gs3 ((Sel.c m.q.sel)) (by kernel_rfl) (by kernel_rfl) 30 ((Sel.c selZ)) h28 (by rw [Sel.c_size _ m.q.sel_r]; kernel_rfl) (by rw [Sel.c_size _ m.q.sel_r]; rfl) (Sel.c_one _)) ?_
    clear eV36
    have h38 := kV36.bo h32 (by omega)
    have h39 := kV36.bo h33 (by omega)
    have K40 := K34.no kV36 (by omega)
    have z41 := kV36.size
    refine pkq (.int .i64 m.q.err) <| ps_end <| then_n <| sy_sq (qc77_12 214) (qc77_12 215) <| sy_reg <| rg_q 4 [0, 1, 2, 3] <| ppq (.agg (Sel.c m.p.sel)) (exec_load_row 30 (.tmp 3) (by kernel_rfl) gs2 (by kernel_rfl) _ _ (0, 0) _ (h39) Tryz.underlying30 rfl (by rw [Sel.c_size _ m.p.sel_r]; kernel_rfl)) <| ppq (.agg (Sel.c m.q.sel)) (exec_load_row 30 (.tmp 5) (by kernel_rfl) gs3 (by kernel_rfl) _ _ (0, 0) _ (h37) Tryz.underlying30 rfl (by rw [Sel.c_size _ m.q.sel_r]; kernel_rfl)) ?_
    obtain ⟨V42, eV42, gq, egq, h43, kV42⟩ := alloc_step V36 (([.agg (Sel.c m.p.sel), .agg (Sel.c m.q.sel)] : List Value).flatMap fun v => v.cells.toList).toArray 30
    have n44 : gm < gq := egq ▸ lt_of_block h38
    have n45 : gs2 < gq := egq ▸ lt_of_block h39
    have n46 : gs3 < gq := egq ▸ lt_of_block h37
    have n47 : w.heap.size ≤ gq := egq ▸ K40.size
    refine prq (.slice (some ⟨gq, 0, none⟩) 2 2) (w' := V42) (by rw [← eV42, ← egq]; exact exec_buildAll 46 30 2 #[(0, .tmp 26), (1, .tmp 27)] (by kernel_rfl) [.agg (Sel.c m.p.sel), .agg (Sel.c m.q.sel)] (by kernel_rfl) i0 _ Tryz.underlying46 hi0 hz0 34 hz1 (by decide) rfl (by decide) (by decide) (fun u hu => by simp only [List.mem_cons, List.not_mem_nil, or_false] at hu; rcases hu with rfl | rfl; exact Sel.c_size _ m.p.sel_r; exact Sel.c_size _ m.q.sel_r)) ?_
    clear eV42
    have h48 : V42.heap[gq]? = some (.cells ((List.flatMap Sel.cl [m.p.sel, m.q.sel]).toArray) 30 (0, 0)) := h43
    have K52 := K40.nn kV42
    have z53 := kV42.size
    refine pkq (.slice (some ⟨gq, 0, none⟩) 2 2) <| ps_end <| sy_a ⟨#[.agg (Msg.c m), pT gm 0, .slice (some ⟨gq, 0, none⟩) 2 2, pT gs2 0, .int .i64 m.p.err, pT gs3 0, .int .i64 m.q.err, ud, ud, ud, ud, pT gm 11, .int .i64 m.pf, .bool true, .tuple #[.agg (Sel.c m.p.sel), .int .i64 m.p.err], pT gm 84, .agg (Pro.c m.p), .tuple #[.agg (Sel.c m.p.sel), .int .i64 m.p.err], .agg (Sel.c m.p.sel), .int .i64 m.p.err, .tuple #[.agg (Sel.c m.q.sel), .int .i64 m.q.err], pT gm 119, .agg (Pro.c m.q), .tuple #[.agg (Sel.c m.q.sel), .int .i64 m.q.err], .agg (Sel.c m.q.sel), .int .i64 m.q.err, .agg (Sel.c m.p.sel), .agg (Sel.c m.q.sel), .slice (some ⟨gq, 0, none⟩) 2 2, ud, ud, ud, ud, ud, ud, ud, ud, ud, ud, ud, ud, ud, ud, ud], []⟩ <| then_n <| sy_ret (by kernel_rfl) <| then_r <| sy_out (.slice (some ⟨gq, 0, none⟩) 2 2) rfl (by kernel_rfl) ?_
    exact ⟨gq, rfl, by rw [Msg.sls, if_pos c0]; exact h48, by omega, K52⟩
  · refine pkq (pT gm 11) <| ppq (.int .i64 m.pf) (exec_ld 3 (.tmp 11) gm 11 Tryz.underlying3 (rc (h2) (Msg.get_n hr NF.pf))) <| ppq (.bool false) (eqf ((m.pf) : Int) ((3) : Int) (by omega)) <| ps_end <| then_n <| sy_n (.tmp 13) (qc77_12 26) (qc77_12 27) <| sy_sk <| then_n <| sy_sq (qc77_12 14) (qc77_12 15) <| sy_reg <| rg_q 5 [0, 1, 2, 3, 4, 5, 6, 7, 8] <| pkq (pT gm 12) <| ppq (.agg (Att.c m.a)) (exec_load_seg 26 (.tmp 30) (by kernel_rfl) gm 12 (by kernel_rfl) (Att.c m.a).toList _ _ _ h2 (Msg.seg_A hr) Tryz.underlying26 rfl (by rw [Att.tl hr.a]; kernel_rfl)) ?_
    refine pcq 8 #[.agg (Att.c m.a)] Tryz.func8 ((eSeal_ok m.a _ ho.a).mono ?_)
    rintro e V54 ⟨rfl, kV54⟩
    refine ⟨_, rfl, ?_⟩
    have h55 := kV54.bk h2
    have K56 := K4.nn kV54
    have z57 := kV54.size
    refine pkq (.tuple #[.agg (Sel.c m.a.sel), .int .i64 m.a.err]) <| pkq (.agg (Sel.c m.a.sel)) <| pkq (.int .i64 m.a.err) ?_
    obtain ⟨V58, eV58, gs5, egs5, h59, kV58⟩ := alloc_step V54 ((Sel.c selZ)) 30
    have n60 : gm < gs5 := egs5 ▸ lt_of_block h55
    have n61 : w.heap.size ≤ gs5 := egs5 ▸ K56.size
    refine prq (pT gs5 0) (w' := V58) (by rw [← eV58, ← egs5]; exact exec_alloc0 30 (by kernel_rfl) (.agg ((Sel.c selZ))) (by kernel_rfl)) ?_
    clear eV58
    have h62 := kV58.bk h55
    have K63 := K56.nn kV58
    have z64 := kV58.size
    obtain ⟨V65, eV65, kV65⟩ := rowset_step V58 gs5 ((Sel.c m.a.sel))
    have h66 : V65.heap[gs5]? = some (.cells (Sel.c m.a.sel) 30 (0, 0)) := eV65 ▸ setRow_heap _ _ _ _ _ _ h59
    refine pzq (w' := V65) (by rw [← eV65]; exact exec_store_row 30 (.tmp 7) (.tmp 33) (by kernel_rfl) gs5 ((Sel.c m.a.sel)) (by kernel_rfl) (by kernel_rfl) 30 ((Sel.c selZ)) h59 (by rw [Sel.c_size _ m.a.sel_r]; kernel_rfl) (by rw [Sel.c_size _ m.a.sel_r]; rfl) (Sel.c_one _)) ?_
    clear eV65
    have h67 := kV65.bo h62 (by omega)
    have K68 := K63.no kV65 (by omega)
    have z69 := kV65.size
    refine pkq (.int .i64 m.a.err) <| ps_end <| then_n <| sy_sq (qc77_12 30) (qc77_12 31) <| sy_reg <| rg_q 6 [0, 1, 2, 3, 4, 5, 6, 7, 8] <| pkq (pT gm 48) <| ppq (.agg (Att.c m.b)) (exec_load_seg 26 (.tmp 36) (by kernel_rfl) gm 48 (by kernel_rfl) (Att.c m.b).toList _ _ _ h67 (Msg.seg_B hr) Tryz.underlying26 rfl (by rw [Att.tl hr.b]; kernel_rfl)) ?_
    refine pcq 8 #[.agg (Att.c m.b)] Tryz.func8 ((eSeal_ok m.b _ ho.b).mono ?_)
    rintro e V70 ⟨rfl, kV70⟩
    refine ⟨_, rfl, ?_⟩
    have h71 := kV70.bk h67
    have h72 := kV70.bk h66
    have K73 := K68.nn kV70
    have z74 := kV70.size
    refine pkq (.tuple #[.agg (Sel.c m.b.sel), .int .i64 m.b.err]) <| pkq (.agg (Sel.c m.b.sel)) <| pkq (.int .i64 m.b.err) ?_
    obtain ⟨V75, eV75, gs6, egs6, h76, kV75⟩ := alloc_step V70 ((Sel.c selZ)) 30
    have n77 : gm < gs6 := egs6 ▸ lt_of_block h71
    have n78 : gs5 < gs6 := egs6 ▸ lt_of_block h72
    have n79 : w.heap.size ≤ gs6 := egs6 ▸ K73.size
    refine prq (pT gs6 0) (w' := V75) (by rw [← eV75, ← egs6]; exact exec_alloc0 30 (by kernel_rfl) (.agg ((Sel.c selZ))) (by kernel_rfl)) ?_
    clear eV75
    have h80 := kV75.bk h71
    have h81 := kV75.bk h72
    have K82 := K73.nn kV75
    have z83 := kV75.size
    obtain ⟨V84, eV84, kV84⟩ := rowset_step V75 gs6 ((Sel.c m.b.sel))
    have h85 : V84.heap[gs6]? = some (.cells (Sel.c m.b.sel) 30 (0, 0)) := eV84 ▸ setRow_heap _ _ _ _ _ _ h76
    refine pzq (w' := V84) (by rw [← eV84]; exact exec_store_row 30 (.tmp 9) (.tmp 39) (by kernel_rfl) gs6 ((Sel.c m.b.sel)) (by kernel_rfl) (by kernel_rfl) 30 ((Sel.c selZ)) h76 (by rw [Sel.c_size _ m.b.sel_r]; kernel_rfl) (by rw [Sel.c_size _ m.b.sel_r]; rfl) (Sel.c_one _)) ?_
    clear eV84
    have h86 := kV84.bo h80 (by omega)
    have h87 := kV84.bo h81 (by omega)
    have K88 := K82.no kV84 (by omega)
    have z89 := kV84.size
    refine pkq (.int .i64 m.b.err) <| ps_end <| then_n <| sy_sq (qc77_12 62) (qc77_12 63) <| sy_reg <| rg_q 7 [0, 1, 2, 3] <| ppq (.agg (Sel.c m.a.sel)) (exec_load_row 30 (.tmp 7) (by kernel_rfl) gs5 (by kernel_rfl) _ _ (0, 0) _ (h87) Tryz.underlying30 rfl (by rw [Sel.c_size _ m.a.sel_r]; kernel_rfl)) <| ppq (.agg (Sel.c m.b.sel)) (exec_load_row 30 (.tmp 9) (by kernel_rfl) gs6 (by kernel_rfl) _ _ (0, 0) _ (h85) Tryz.underlying30 rfl (by rw [Sel.c_size _ m.b.sel_r]; kernel_rfl)) ?_
    obtain ⟨V90, eV90, gq, egq, h91, kV90⟩ := alloc_step V84 (([.agg (Sel.c m.a.sel), .agg (Sel.c m.b.sel)] : List Value).flatMap fun v => v.cells.toList).toArray 30
    have n92 : gm < gq := egq ▸ lt_of_block h86
    have n93 : gs5 < gq := egq ▸ lt_of_block h87
    have n94 : gs6 < gq := egq ▸ lt_of_block h85
    have n95 : w.heap.size ≤ gq := egq ▸ K88.size
    refine prq (.slice (some ⟨gq, 0, none⟩) 2 2) (w' := V90) (by rw [← eV90, ← egq]; exact exec_buildAll 46 30 2 #[(0, .tmp 41), (1, .tmp 42)] (by kernel_rfl) [.agg (Sel.c m.a.sel), .agg (Sel.c m.b.sel)] (by kernel_rfl) i0 _ Tryz.underlying46 hi0 hz0 34 hz1 (by decide) rfl (by decide) (by decide) (fun u hu => by simp only [List.mem_cons, List.not_mem_nil, or_false] at hu; rcases hu with rfl | rfl; exact Sel.c_size _ m.a.sel_r; exact Sel.c_size _ m.b.sel_r)) ?_
    clear eV90
    have h96 : V90.heap[gq]? = some (.cells ((List.flatMap Sel.cl [m.a.sel, m.b.sel]).toArray) 30 (0, 0)) := h91
    have K100 := K88.nn kV90
    have z101 := kV90.size
    refine pkq (.slice (some ⟨gq, 0, none⟩) 2 2) <| ps_end <| sy_a ⟨#[.agg (Msg.c m), pT gm 0, .slice (some ⟨gq, 0, none⟩) 2 2, ud, ud, ud, ud, pT gs5 0, .int .i64 m.a.err, pT gs6 0, .int .i64 m.b.err, pT gm 11, .int .i64 m.pf, .bool false, ud, ud, ud, ud, ud, ud, ud, ud, ud, ud, ud, ud, ud, ud, ud, .tuple #[.agg (Sel.c m.a.sel), .int .i64 m.a.err], pT gm 12, .agg (Att.c m.a), .tuple #[.agg (Sel.c m.a.sel), .int .i64 m.a.err], .agg (Sel.c m.a.sel), .int .i64 m.a.err, .tuple #[.agg (Sel.c m.b.sel), .int .i64 m.b.err], pT gm 48, .agg (Att.c m.b), .tuple #[.agg (Sel.c m.b.sel), .int .i64 m.b.err], .agg (Sel.c m.b.sel), .int .i64 m.b.err, .agg (Sel.c m.a.sel), .agg (Sel.c m.b.sel), .slice (some ⟨gq, 0, none⟩) 2 2], []⟩ <| then_n <| sy_ret (by kernel_rfl) <| sy_out (.slice (some ⟨gq, 0, none⟩) 2 2) rfl (by kernel_rfl) ?_
    exact ⟨gq, rfl, by rw [Msg.sls, if_neg c0]; exact h96, by omega, K100⟩
noncomputable def qc77_6 (n : Nat) : Code := partOf Tryz.f60 n
theorem eSigned2_ok (A0 : Option Addr) (cap0 : Nat) (l : List Sel) (m : Msg) (g gl : Nat) (w : World) (ho : m.Ok) (hl : SelsAt w (.slice A0 l.length cap0) l) (hlr : ∀ y ∈ l, y.r.length = 32) (hb : w.heap[g]? = some (.cells (Msg.c m) 38 (0, 0))) (hc : w.heap[gl]? = some (.cells #[.slice A0 l.length cap0] 46 (0, 0))) :
    Calls Tryz.prog 60 #[.pointer (some ⟨g, 0, none⟩), .pointer (some ⟨gl, 0, none⟩)] w (fun e w' => e = .returned (.int .i64 (hasE l m.sls)) ∧ Keeps Nob w w') := by
  have hr := ho.R
  obtain ⟨s0, s1, hsl, hs0, hs1⟩ : ∃ s0 s1, m.sls = [s0, s1] ∧ s0.r.length = 32 ∧ s1.r.length = 32 := by unfold Msg.sls; split; exact ⟨_, _, rfl, m.p.sel_r, m.q.sel_r⟩; exact ⟨_, _, rfl, m.a.sel_r, m.b.sel_r⟩
  have hfl : ∀ x ∈ [s0, s1], (Sel.cl x).length = 34 := fun x hx => by simp only [List.mem_cons, List.not_mem_nil, or_false] at hx; rcases hx with rfl | rfl; exact Sel.cl_len hs0; exact Sel.cl_len hs1
  have K0 : Keeps Nob w w := Keeps.refl _ _
  refine sy_enter (qc77_6 1) ⟨#[pT g 0, pT gl 0, ud, ud, ud, ud, ud, ud, ud, ud, ud, ud, ud, ud, ud, ud, ud], []⟩ Tryz.func60 (by kernel_rfl) (by kernel_rfl) <| sy_sq (qc77_6 2) (qc77_6 3) <| sy_reg <| rg_q 0 [0] <| pkq (.int .i64 0) <| ps_end <| then_n <| sy_sq (qc77_6 6) (qc77_6 7) <| sy_sq (qc77_6 12) (qc77_6 13) <| sy_reg <| rg_q 1 [0, 1, 2, 3] <| ppq (.agg (Msg.c m)) (exec_load_row 38 (.tmp 0) (by kernel_rfl) g (by kernel_rfl) _ _ (0, 0) _ (hb) Tryz.underlying38 rfl (by rw [Msg.c_size hr]; kernel_rfl)) ?_
  refine pcq 61 #[.agg (Msg.c m)] Tryz.func61 ((eseals_ok m _ ho).mono ?_)
  rintro e V1 ⟨gq, rfl, hq, hqw, kV1⟩
  rw [hsl] at hq
  refine ⟨_, rfl, ?_⟩
  have h2 := kV1.bk hb
  have h3 := kV1.bk hc
  have h4 : SelsAt V1 (.slice A0 l.length cap0) l := hl.keepsN kV1
  have K5 := K0.nn kV1
  have z6 := kV1.size
  refine ppq (.int .i64 2) (exec_len (.tmp 6) 46 _ (by kernel_rfl) Tryz.underlying46 (some ⟨gq, 0, none⟩) 2 2 (by kernel_rfl)) <| pkq (.int .i64 0) <| ps_end <| then_n <| sy_bk 0 (qc77_6 26) <| sy_rounds 3 (qc77_6 52) (by kernel_rfl) <| rd_step <| sy_sq (qc77_6 104) (qc77_6 105) <| sy_reg <| rg_q 2 [0] <| pkq (.bool true) <| ps_end <| then_n <| sy_sq (qc77_6 210) (qc77_6 211) ?_
  refine sy_ys (.tmp 9) (qc77_6 420) (qc77_6 421) <| sy_sk <| then_n <| sy_sq (qc77_6 422) (qc77_6 423) <| sy_bk 1 (qc77_6 844) <| sy_sq (qc77_6 1688) (qc77_6 1689) <| sy_reg <| rg_q 3 [0, 1, 2, 3] <| ppq (pT gq 0) (exec_cast (v := pT gq (0 + 0 * 34)) (by simp) (exec_indexAt_slice 46 (.tmp 6) (.tmp 8) (by kernel_rfl) gq 0 2 2 (by kernel_rfl) .i64 0 (by kernel_rfl) _ 34 Tryz.underlying46 (by kernel_rfl) (by omega))) ?_
  refine ppq (.agg (Sel.c s0)) (exec_load_seg 30 (.tmp 10) (by kernel_rfl) gq 0 (by kernel_rfl) (Sel.cl s0) _ _ _ hq (fun j u hj => by rw [List.getElem?_toArray]; exact flat_get (s := 34) hfl 0 s0 rfl j u hj) Tryz.underlying30 rfl (by rw [Sel.cl_len hs0]; kernel_rfl)) ?_
  obtain ⟨V7, eV7, ge0, ege0, h8, kV7⟩ := alloc_step V1 ((Sel.c selZ)) 30
  have n9 : g < ge0 := ege0 ▸ lt_of_block h2
  have n10 : gl < ge0 := ege0 ▸ lt_of_block h3
  have n11 : gq < ge0 := ege0 ▸ lt_of_block hq
  have n12 : w.heap.size ≤ ge0 := ege0 ▸ K5.size
  refine prq (pT ge0 0) (w' := V7) (by rw [← eV7, ← ege0]; exact exec_alloc0 30 (by kernel_rfl) (.agg ((Sel.c selZ))) (by kernel_rfl)) ?_
  clear eV7
  have h13 := kV7.bk h2
  have h14 := kV7.bk h3
  have h15 : SelsAt V7 (.slice A0 l.length cap0) l := h4.keepsN kV7
  have h16 := kV7.bk hq
  have K17 := K5.nn kV7
  have z18 := kV7.size
  obtain ⟨V19, eV19, kV19⟩ := rowset_step V7 ge0 ((Sel.c s0))
  have h20 : V19.heap[ge0]? = some (.cells (Sel.c s0) 30 (0, 0)) := eV19 ▸ setRow_heap _ _ _ _ _ _ h8
  refine pzq (w' := V19) (by rw [← eV19]; exact exec_store_row 30 (.tmp 4) (.tmp 11) (by kernel_rfl) ge0 ((Sel.c s0)) (by kernel_rfl) (by kernel_rfl) 30 ((Sel.c selZ)) h8 (by rw [Sel.c_size _ hs0]; kernel_rfl) (by rw [Sel.c_size _ hs0]; rfl) (Sel.c_one _)) ?_
  clear eV19
  have h21 := kV19.bo h13 (by omega)
  have h22 := kV19.bo h14 (by omega)
  have h23 : SelsAt V19 (.slice A0 l.length cap0) l := Sl.keepsB hl h15 kV19 (fun j e => by first | (unfold Own.One at e; omega) | omega)
  have h24 := kV19.bo h16 (by omega)
  have K25 := K17.no kV19 (by omega)
  have z26 := kV19.size
  refine ps_end <| then_n <| sy_sq (qc77_6 3378) (qc77_6 3379) <| sy_reg <| rg_q 4 [0, 1, 2, 3] ?_
  by_cases c0 : s0 ∈ l
  · refine ppq (.slice A0 l.length cap0) (exec_ld 46 (.tmp 1) gl 0 Tryz.underlying46 (rc (h22) (by kernel_rfl))) <| ppq (.agg (Sel.c s0)) (exec_load_row 30 (.tmp 4) (by kernel_rfl) ge0 (by kernel_rfl) _ _ (0, 0) _ (h20) Tryz.underlying30 rfl (by rw [Sel.c_size _ hs0]; kernel_rfl)) ?_
    refine pcq 62 #[.slice A0 l.length cap0, .agg (Sel.c s0)] Tryz.func62 ((sHas_is _ h23 hlr hs0 (decide_eq_true c0)).mono ?_)
    rintro e V27 ⟨rfl, kV27⟩
    refine ⟨_, rfl, ?_⟩
    have h28 := kV27.bk h21
    have h29 := kV27.bk h22
    have h30 : SelsAt V27 (.slice A0 l.length cap0) l := h23.keepsN kV27
    have h31 := kV27.bk h24
    have h32 := kV27.bk h20
    have K33 := K25.nn kV27
    have z34 := kV27.size
    refine pkq (.bool false) <| ps_end <| then_n <| sy_n (.tmp 15) (qc77_6 6758) (qc77_6 6759) <| sy_sk <| blk_n <| then_n <| sy_reg <| rg_q 6 [0, 1] <| pkq (.int .i64 1) <| pkq (.int .i64 1) <| ps_end <| then_n <| rd_step ?_
    refine sy_sq (qc77_6 104) (qc77_6 105) <| sy_reg <| rg_q 2 [0] <| pkq (.bool true) <| ps_end <| then_n <| sy_sq (qc77_6 210) (qc77_6 211) <| sy_ys (.tmp 9) (qc77_6 420) (qc77_6 421) <| sy_sk <| then_n <| sy_sq (qc77_6 422) (qc77_6 423) <| sy_bk 1 (qc77_6 844) <| sy_sq (qc77_6 1688) (qc77_6 1689) <| sy_reg ?_
    refine rg_q 3 [0, 1, 2, 3] <| ppq (pT gq 34) (exec_cast (v := pT gq (0 + 1 * 34)) (by simp) (exec_indexAt_slice 46 (.tmp 6) (.tmp 8) (by kernel_rfl) gq 0 2 2 (by kernel_rfl) .i64 1 (by kernel_rfl) _ 34 Tryz.underlying46 (by kernel_rfl) (by omega))) ?_
    refine ppq (.agg (Sel.c s1)) (exec_load_seg 30 (.tmp 10) (by kernel_rfl) gq 34 (by kernel_rfl) (Sel.cl s1) _ _ _ h31 (fun j u hj => by rw [List.getElem?_toArray]; exact flat_get (s := 34) hfl 1 s1 rfl j u hj) Tryz.underlying30 rfl (by rw [Sel.cl_len hs1]; kernel_rfl)) ?_
    obtain ⟨V35, eV35, ge1, ege1, h36, kV35⟩ := alloc_step V27 ((Sel.c selZ)) 30
    have n37 : g < ge1 := ege1 ▸ lt_of_block h28
    have n38 : gl < ge1 := ege1 ▸ lt_of_block h29
    have n39 : gq < ge1 := ege1 ▸ lt_of_block h31
    have n40 : ge0 < ge1 := ege1 ▸ lt_of_block h32
    have n41 : w.heap.size ≤ ge1 := ege1 ▸ K33.size
    refine prq (pT ge1 0) (w' := V35) (by rw [← eV35, ← ege1]; exact exec_alloc0 30 (by kernel_rfl) (.agg ((Sel.c selZ))) (by kernel_rfl)) ?_
    clear eV35
    have h43 := kV35.bk h29
    have h44 : SelsAt V35 (.slice A0 l.length cap0) l := h30.keepsN kV35
    have K47 := K33.nn kV35
    have z48 := kV35.size
    obtain ⟨V49, eV49, kV49⟩ := rowset_step V35 ge1 ((Sel.c s1))
    have h50 : V49.heap[ge1]? = some (.cells (Sel.c s1) 30 (0, 0)) := eV49 ▸ setRow_heap _ _ _ _ _ _ h36
    refine pzq (w' := V49) (by rw [← eV49]; exact exec_store_row 30 (.tmp 4) (.tmp 11) (by kernel_rfl) ge1 ((Sel.c s1)) (by kernel_rfl) (by kernel_rfl) 30 ((Sel.c selZ)) h36 (by rw [Sel.c_size _ hs1]; kernel_rfl) (by rw [Sel.c_size _ hs1]; rfl) (Sel.c_one _)) ?_
    clear eV49
    have h52 := kV49.bo h43 (by omega)
    have h53 : SelsAt V49 (.slice A0 l.length cap0) l := Sl.keepsB hl h44 kV49 (fun j e => by first | (unfold Own.One at e; omega) | omega)
    have K56 := K47.no kV49 (by omega)
    have z57 := kV49.size
    refine ps_end <| then_n <| sy_sq (qc77_6 3378) (qc77_6 3379) <| sy_reg <| rg_q 4 [0, 1, 2, 3] ?_
    by_cases c1 : s1 ∈ l
    · refine ppq (.slice A0 l.length cap0) (exec_ld 46 (.tmp 1) gl 0 Tryz.underlying46 (rc (h52) (by kernel_rfl))) <| ppq (.agg (Sel.c s1)) (exec_load_row 30 (.tmp 4) (by kernel_rfl) ge1 (by kernel_rfl) _ _ (0, 0) _ (h50) Tryz.underlying30 rfl (by rw [Sel.c_size _ hs1]; kernel_rfl)) ?_
      refine pcq 62 #[.slice A0 l.length cap0, .agg (Sel.c s1)] Tryz.func62 ((sHas_is _ h53 hlr hs1 (decide_eq_true c1)).mono ?_)
      rintro e V58 ⟨rfl, kV58⟩
      refine ⟨_, rfl, ?_⟩
      have K65 := K56.nn kV58
      have z66 := kV58.size
      refine pkq (.bool false) <| ps_end <| sy_a ⟨#[pT g 0, pT gl 0, .int .i64 0, ud, pT ge1 0, .agg (Msg.c m), .slice (some ⟨gq, 0, none⟩) 2 2, .int .i64 2, .int .i64 1, .bool true, pT gq 34, .agg (Sel.c s1), .slice A0 l.length cap0, .agg (Sel.c s1), .bool true, .bool false, .int .i64 1], []⟩ <| then_n <| sy_n (.tmp 15) (qc77_6 6758) (qc77_6 6759) <| sy_sk <| blk_n <| then_n <| sy_reg <| rg_q 6 [0, 1] <| pkq (.int .i64 2) <| pkq (.int .i64 2) <| ps_end <| then_n ?_
      refine rd_step <| sy_sq (qc77_6 104) (qc77_6 105) <| sy_reg <| rg_q 2 [0] <| pkq (.bool false) <| ps_end <| then_n <| sy_sq (qc77_6 210) (qc77_6 211) <| sy_n (.tmp 9) (qc77_6 420) (qc77_6 421) <| sy_exit 0 (by kernel_rfl) <| then_e <| then_e <| blk_e <| then_n ?_
      refine sy_sq (qc77_6 14) (qc77_6 15) <| sy_reg <| rg_q 7 [0] <| pkq (.int .i64 0) <| ps_end <| then_n <| sy_ret (by kernel_rfl) <| sy_out (.int .i64 0) rfl (by kernel_rfl) ?_
      exact ⟨by rw [hsl, hasE_pair]; simp [c0, c1], K65⟩
    · refine ppq (.slice A0 l.length cap0) (exec_ld 46 (.tmp 1) gl 0 Tryz.underlying46 (rc (h52) (by kernel_rfl))) <| ppq (.agg (Sel.c s1)) (exec_load_row 30 (.tmp 4) (by kernel_rfl) ge1 (by kernel_rfl) _ _ (0, 0) _ (h50) Tryz.underlying30 rfl (by rw [Sel.c_size _ hs1]; kernel_rfl)) ?_
      refine pcq 62 #[.slice A0 l.length cap0, .agg (Sel.c s1)] Tryz.func62 ((sHas_is _ h53 hlr hs1 (decide_eq_false c1)).mono ?_)
      rintro e V67 ⟨rfl, kV67⟩
      refine ⟨_, rfl, ?_⟩
      have K74 := K56.nn kV67
      have z75 := kV67.size
      refine pkq (.bool true) <| ps_end <| sy_a ⟨#[pT g 0, pT gl 0, .int .i64 0, ud, pT ge1 0, .agg (Msg.c m), .slice (some ⟨gq, 0, none⟩) 2 2, .int .i64 2, .int .i64 1, .bool true, pT gq 34, .agg (Sel.c s1), .slice A0 l.length cap0, .agg (Sel.c s1), .bool false, .bool true, .int .i64 1], []⟩ <| then_n <| sy_ys (.tmp 15) (qc77_6 6758) (qc77_6 6759) <| sy_sq (qc77_6 13516) (qc77_6 13517) <| sy_reg <| rg_q 5 [0] <| pkq (.int .i64 15) <| ps_end <| then_n <| sy_ret (by kernel_rfl) <| blk_r <| then_r ?_
      refine then_r <| blk_r <| then_r <| sy_out (.int .i64 15) rfl (by kernel_rfl) ?_
      exact ⟨by rw [hsl, hasE_pair]; simp [c0, c1], K74⟩
  · refine ppq (.slice A0 l.length cap0) (exec_ld 46 (.tmp 1) gl 0 Tryz.underlying46 (rc (h22) (by kernel_rfl))) <| ppq (.agg (Sel.c s0)) (exec_load_row 30 (.tmp 4) (by kernel_rfl) ge0 (by kernel_rfl) _ _ (0, 0) _ (h20) Tryz.underlying30 rfl (by rw [Sel.c_size _ hs0]; kernel_rfl)) ?_
    refine pcq 62 #[.slice A0 l.length cap0, .agg (Sel.c s0)] Tryz.func62 ((sHas_is _ h23 hlr hs0 (decide_eq_false c0)).mono ?_)
    rintro e V76 ⟨rfl, kV76⟩
    refine ⟨_, rfl, ?_⟩
    have K82 := K25.nn kV76
    have z83 := kV76.size
    refine pkq (.bool true) <| ps_end <| then_n <| sy_ys (.tmp 15) (qc77_6 6758) (qc77_6 6759) <| sy_sq (qc77_6 13516) (qc77_6 13517) <| sy_reg <| rg_q 5 [0] <| pkq (.int .i64 15) <| ps_end <| then_n <| sy_ret (by kernel_rfl) <| blk_r <| then_r <| then_r ?_
    refine blk_r <| then_r <| sy_out (.int .i64 15) rfl (by kernel_rfl) ?_
    exact ⟨by rw [hsl, hasE_pair]; simp [c0], K82⟩
noncomputable def qc77_7 (n : Nat) : Code := partOf Tryz.f22 n
theorem eSigned_ok (A0 : Option Addr) (cap0 : Nat) (l : List Sel) (m : Msg) (w : World) (ho : m.Ok) (hl : SelsAt w (.slice A0 l.length cap0) l) (hlr : ∀ y ∈ l, y.r.length = 32) :
    Calls Tryz.prog 22 #[.slice A0 l.length cap0, .agg (Msg.c m)] w (fun e w' => e = .returned (.int .i64 (sgnd l m)) ∧ Keeps Nob w w') := by
  have hr := ho.R
  have K0 : Keeps Nob w w := Keeps.refl _ _
  refine sy_enter (qc77_7 1) ⟨#[.slice A0 l.length cap0, .agg (Msg.c m), ud, ud, ud, ud, ud, ud, ud], []⟩ Tryz.func22 (by kernel_rfl) (by kernel_rfl) <| sy_sq (qc77_7 2) (qc77_7 3) <| sy_reg <| rg_q 0 [0, 1, 2] ?_
  obtain ⟨V1, eV1, gl, egl, h2, kV1⟩ := alloc_step w (#[.slice A0 l.length cap0]) 46
  have n3 : w.heap.size ≤ gl := egl ▸ K0.size
  refine prq (pT gl 0) (w' := V1) (by rw [← eV1, ← egl]; exact exec_box 46 (.tmp 0) (by kernel_rfl) (.slice A0 l.length cap0) (by kernel_rfl)) ?_
  clear eV1
  have h4 : SelsAt V1 (.slice A0 l.length cap0) l := hl.keepsN kV1
  have K5 := K0.nn kV1
  have z6 := kV1.size
  obtain ⟨V7, eV7, gm, egm, h8, kV7⟩ := alloc_step V1 ((Msg.c m)) 38
  have n9 : gl < gm := egm ▸ lt_of_block h2
  have n10 : w.heap.size ≤ gm := egm ▸ K5.size
  refine prq (pT gm 0) (w' := V7) (by rw [← eV7, ← egm]; exact exec_box 38 (.tmp 1) (by kernel_rfl) (.agg (Msg.c m)) (by kernel_rfl)) ?_
  clear eV7
  have h11 : SelsAt V7 (.slice A0 l.length cap0) l := h4.keepsN kV7
  have h12 := kV7.bk h2
  have K13 := K5.nn kV7
  have z14 := kV7.size
  refine pkq (.int .i64 0) <| ps_end <| then_n <| sy_sq (qc77_7 6) (qc77_7 7) <| sy_reg <| rg_q 1 [0, 1, 2, 3, 4] <| pkq (.func (.func 59) #[] #[pT gm 0]) <| pkq (.func (.func 60) #[] #[pT gm 0, pT gl 0]) ?_
  obtain ⟨V15, eV15, gf, egf, h16, kV15⟩ := alloc_step V7 (#[.func (.func 59) #[] #[.pointer (some ⟨gm, 0, none⟩)], .func (.func 60) #[] #[.pointer (some ⟨gm, 0, none⟩), .pointer (some ⟨gl, 0, none⟩)]]) 80
  have n17 : gl < gf := egf ▸ lt_of_block h12
  have n18 : gm < gf := egf ▸ lt_of_block h8
  have n19 : w.heap.size ≤ gf := egf ▸ K13.size
  refine prq (.slice (some ⟨gf, 0, none⟩) 2 2) (w' := V15) (by rw [← eV15, ← egf]; kernel_rfl) ?_
  have h20 : SelsAt V15 (.slice A0 l.length cap0) l := h11.keepsN kV15
  have h21 := kV15.bk h12
  have h22 := kV15.bk h8
  have K23 := K13.nn kV15
  have z24 := kV15.size
  refine pcq 48 #[.slice (some ⟨gf, 0, none⟩) 2 2] Tryz.func48 ((efirst_ab 59 (pT gm 0) m.evi 60 (pT gm 0) (pT gl 0) (hasE l m.sls) gf _ h16 (enters_of Tryz.func59 (by kernel_rfl) rfl) (fun W k => eSigned1_ok m gm W hr (k.bk h22)) (enters_of Tryz.func60 (by kernel_rfl) rfl) (fun W k => eSigned2_ok A0 cap0 l m gm gl W ho (h20.keepsN k) hlr (k.bk h22) (k.bk h21))).mono ?_)
  rintro e V25 ⟨rfl, kV25⟩
  refine ⟨_, rfl, ?_⟩
  have K30 := K23.nn kV25
  have z31 := kV25.size
  refine pkq (.int .i64 (sgnd l m)) <| ps_end <| then_n <| sy_ret (by kernel_rfl) <| sy_out (.int .i64 (sgnd l m)) rfl (by kernel_rfl) ?_
  exact ⟨rfl, K30⟩
noncomputable def qc77_13 (n : Nat) : Code := partOf Tryz.f20 n
theorem eJudge_ok (p : Par) (n : Int) (A0 : Option Addr) (cap0 : Nat) (l : List Sel) (m : Msg) (w : World) (hp : p.Ok) (ho : m.Ok) (hl : SelsAt w (.slice A0 l.length cap0) l) (hlr : ∀ y ∈ l, y.r.length = 32) :
    Calls Tryz.prog 20 #[.agg p.cells, .slice A0 l.length cap0, .int .i64 n, .agg (Msg.c m)] w (fun e w' => e = .returned (.tuple #[.agg (jud p l n m).1.cs, .int .i64 (jud p l n m).2]) ∧ Keeps Nob w w') := by
  have hr := ho.R
  have K0 : Keeps Nob w w := Keeps.refl _ _
  refine sy_enter (qc77_13 1) ⟨#[.agg p.cells, .slice A0 l.length cap0, .int .i64 n, .agg (Msg.c m), ud, ud, ud, ud, ud, ud, ud, ud, ud, ud, ud, ud, ud, ud, ud, ud, ud, ud, ud, ud, ud, ud, ud, ud, ud, ud, ud, ud, ud, ud, ud, ud], []⟩ Tryz.func20 (by kernel_rfl) (by kernel_rfl) <| sy_sq (qc77_13 2) (qc77_13 3) <| sy_reg <| rg_q 0 [0, 1, 2, 3] ?_
  obtain ⟨V1, eV1, gp, egp, h2, kV1⟩ := alloc_step w p.cells 45
  have n3 : w.heap.size ≤ gp := egp ▸ K0.size
  refine prq (pT gp 0) (w' := V1) (by rw [← eV1, ← egp]; exact exec_box 45 (.tmp 0) (by kernel_rfl) (.agg p.cells) (by kernel_rfl)) ?_
  clear eV1
  have h4 : SelsAt V1 (.slice A0 l.length cap0) l := hl.keepsN kV1
  have K5 := K0.nn kV1
  have z6 := kV1.size
  obtain ⟨V7, eV7, gm, egm, h8, kV7⟩ := alloc_step V1 ((Msg.c m)) 38
  have n9 : gp < gm := egm ▸ lt_of_block h2
  have n10 : w.heap.size ≤ gm := egm ▸ K5.size
  refine prq (pT gm 0) (w' := V7) (by rw [← eV7, ← egm]; exact exec_box 38 (.tmp 3) (by kernel_rfl) (.agg (Msg.c m)) (by kernel_rfl)) ?_
  clear eV7
  have h11 : SelsAt V7 (.slice A0 l.length cap0) l := h4.keepsN kV7
  have h12 := kV7.bk h2
  have K13 := K5.nn kV7
  have z14 := kV7.size
  obtain ⟨V15, eV15, go, ego, h16, kV15⟩ := alloc_step V7 (#[.int .i64 0, .int .i64 0, .int .i64 0]) 49
  have n17 : gp < go := ego ▸ lt_of_block h12
  have n18 : gm < go := ego ▸ lt_of_block h8
  have n19 : w.heap.size ≤ go := ego ▸ K13.size
  refine prq (pT go 0) (w' := V15) (by rw [← eV15, ← ego]; exact exec_alloc0 49 (by kernel_rfl) (.agg (#[.int .i64 0, .int .i64 0, .int .i64 0])) (by kernel_rfl)) ?_
  clear eV15
  have h20 : SelsAt V15 (.slice A0 l.length cap0) l := h11.keepsN kV15
  have h21 := kV15.bk h12
  have h22 := kV15.bk h8
  have K23 := K13.nn kV15
  have z24 := kV15.size
  refine pkq (.int .i64 0) <| ps_end <| then_n <| sy_sq (qc77_13 6) (qc77_13 7) <| sy_reg <| rg_q 1 [0, 1, 2, 3, 4, 5, 6, 7, 8] <| ppq (.agg (p.cells)) (exec_load_row 45 (.tmp 4) (by kernel_rfl) gp (by kernel_rfl) _ _ (0, 0) _ (h21) Tryz.underlying45 rfl (by kernel_rfl)) <| ppq (.agg (Msg.c m)) (exec_load_row 38 (.tmp 7) (by kernel_rfl) gm (by kernel_rfl) _ _ (0, 0) _ (h22) Tryz.underlying38 rfl (by rw [Msg.c_size hr]; kernel_rfl)) ?_
  refine pcq 18 #[.agg (p.cells), .agg (Msg.c m)] Tryz.func18 ((eOffence_ok p m _ hp ho).mono ?_)
  rintro e V25 ⟨rfl, kV25⟩
  refine ⟨_, rfl, ?_⟩
  have h26 : SelsAt V25 (.slice A0 l.length cap0) l := h20.keepsN kV25
  have h27 := kV25.bk h21
  have h28 := kV25.bk h22
  have h29 := kV25.bk h16
  have K30 := K23.nn kV25
  have z31 := kV25.size
  refine pkq (.tuple #[.agg (Off.cs (offe p m).1), .int .i64 (offe p m).2]) <| pkq (.agg (Off.cs (offe p m).1)) <| pkq (.int .i64 (offe p m).2) ?_
  obtain ⟨V32, eV32, gq, egq, h33, kV32⟩ := alloc_step V25 (#[.int .i64 0, .int .i64 0, .int .i64 0]) 49
  have n34 : gp < gq := egq ▸ lt_of_block h27
  have n35 : gm < gq := egq ▸ lt_of_block h28
  have n36 : go < gq := egq ▸ lt_of_block h29
  have n37 : w.heap.size ≤ gq := egq ▸ K30.size
  refine prq (pT gq 0) (w' := V32) (by rw [← eV32, ← egq]; exact exec_alloc0 49 (by kernel_rfl) (.agg (#[.int .i64 0, .int .i64 0, .int .i64 0])) (by kernel_rfl)) ?_
  clear eV32
  have h38 : SelsAt V32 (.slice A0 l.length cap0) l := h26.keepsN kV32
  have h40 := kV32.bk h28
  have h41 := kV32.bk h29
  have K42 := K30.nn kV32
  have z43 := kV32.size
  obtain ⟨V44, eV44, kV44⟩ := rowset_step V32 gq ((Off.cs (offe p m).1))
  have h45 : V44.heap[gq]? = some (.cells (Off.cs ((offe p m).1)) 49 (0, 0)) := eV44 ▸ setRow_heap _ _ _ _ _ _ h33
  refine pzq (w' := V44) (by rw [← eV44]; exact exec_store_row 49 (.tmp 10) (.tmp 17) (by kernel_rfl) gq ((Off.cs (offe p m).1)) (by kernel_rfl) (by kernel_rfl) 49 (#[.int .i64 0, .int .i64 0, .int .i64 0]) h33 (by kernel_rfl) rfl (by kernel_rfl)) ?_
  clear eV44
  have h46 : SelsAt V44 (.slice A0 l.length cap0) l := Sl.keepsB hl h38 kV44 (fun j e => by first | (unfold Own.One at e; omega) | omega)
  have h48 := kV44.bo h40 (by omega)
  have h49 := kV44.bo h41 (by omega)
  have K50 := K42.no kV44 (by omega)
  have z51 := kV44.size
  refine pkq (.int .i64 (offe p m).2) <| ps_end <| then_n <| sy_sq (qc77_13 14) (qc77_13 15) <| sy_sq (qc77_13 28) (qc77_13 29) <| sy_reg <| rg_q 2 [0, 1] ?_
  by_cases c0 : (offe p m).2 = 0
  · refine pkq (.int .i64 (offe p m).2) <| ppq (.bool false) (nqf (((offe p m).2) : Int) ((0) : Int) (by omega)) <| ps_end <| then_n <| sy_n (.tmp 20) (qc77_13 58) (qc77_13 59) <| sy_sk <| then_n <| sy_sq (qc77_13 30) (qc77_13 31) <| sy_sq (qc77_13 60) (qc77_13 61) <| sy_reg <| rg_q 4 [0, 1, 2, 3] ?_
    by_cases c1 : n ≤ (offe p m).1.v
    · refine pkq (pT gq 0) <| ppq (.int .i64 ((offe p m).1).v) (exec_ld 3 (.tmp 23) gq 0 Tryz.underlying3 (rc (h45) (rfl))) <| pkq (.int .i64 n) <| ppq (.bool true) (dct (((((offe p m).1).v) : Int) ≥ ((n) : Int)) (by omega)) <| ps_end <| then_n <| sy_ys (.tmp 26) (qc77_13 122) (qc77_13 123) <| sy_sq (qc77_13 244) (qc77_13 245) <| sy_reg <| rg_q 5 [0, 1, 2] <| pkq (.agg #[.int .i64 0, .int .i64 0, .int .i64 0]) ?_
      obtain ⟨V52, eV52, kV52⟩ := rowset_step V44 go (#[.int .i64 0, .int .i64 0, .int .i64 0])
      have h53 : V52.heap[go]? = some (.cells (#[.int .i64 0, .int .i64 0, .int .i64 0]) 49 (0, 0)) := eV52 ▸ setRow_heap _ _ _ _ _ _ h49
      refine pzq (w' := V52) (by rw [← eV52]; exact exec_store_row 49 (.tmp 8) (.tmp 27) (by kernel_rfl) go (#[.int .i64 0, .int .i64 0, .int .i64 0]) (by kernel_rfl) (by kernel_rfl) 49 (#[.int .i64 0, .int .i64 0, .int .i64 0]) h49 (by kernel_rfl) rfl (by kernel_rfl)) ?_
      clear eV52
      have K58 := K50.no kV52 (by omega)
      have z59 := kV52.size
      refine pkq (.int .i64 10) <| ps_end <| then_n <| sy_ret (by kernel_rfl) <| then_r <| sy_out (.tuple #[.agg (#[.int .i64 0, .int .i64 0, .int .i64 0]), .int .i64 10]) rfl (results_row_tmp (p := 8) (q := 9) (ty := 49) (by kernel_rfl) _ _ go 49 (#[.int .i64 0, .int .i64 0, .int .i64 0]) (0, 0) _ (.int .i64 10) (by kernel_rfl) h53 Tryz.underlying49 rfl (by kernel_rfl) (by kernel_rfl)) ?_
      exact ⟨by rw [jud, if_pos c0, if_pos c1]; (try rfl), K58⟩
    · refine pkq (pT gq 0) <| ppq (.int .i64 ((offe p m).1).v) (exec_ld 3 (.tmp 23) gq 0 Tryz.underlying3 (rc (h45) (rfl))) <| pkq (.int .i64 n) <| ppq (.bool false) (dcf (((((offe p m).1).v) : Int) ≥ ((n) : Int)) (by omega)) <| ps_end <| then_n <| sy_n (.tmp 26) (qc77_13 122) (qc77_13 123) <| sy_sk <| then_n <| sy_sq (qc77_13 62) (qc77_13 63) <| sy_sq (qc77_13 124) (qc77_13 125) <| sy_reg <| rg_q 6 [0, 1, 2, 3] <| pkq (.slice A0 l.length cap0) ?_
      refine ppq (.agg (Msg.c m)) (exec_load_row 38 (.tmp 7) (by kernel_rfl) gm (by kernel_rfl) _ _ (0, 0) _ (h48) Tryz.underlying38 rfl (by rw [Msg.c_size hr]; kernel_rfl)) ?_
      refine pcq 22 #[.slice A0 l.length cap0, .agg (Msg.c m)] Tryz.func22 ((eSigned_ok A0 cap0 l m _ ho h46 hlr).mono ?_)
      rintro e V60 ⟨rfl, kV60⟩
      refine ⟨_, rfl, ?_⟩
      have h64 := kV60.bk h49
      have h65 := kV60.bk h45
      have K66 := K50.nn kV60
      have z67 := kV60.size
      refine pkq (.int .i64 (sgnd l m)) <| ps_end <| then_n <| sy_sq (qc77_13 250) (qc77_13 251) <| sy_reg <| rg_q 7 [0, 1] ?_
      by_cases c2 : sgnd l m = 0
      · refine pkq (.int .i64 (sgnd l m)) <| ppq (.bool false) (nqf ((sgnd l m) : Int) ((0) : Int) (by omega)) <| ps_end <| sy_a ⟨#[.agg p.cells, .slice A0 l.length cap0, .int .i64 n, .agg (Msg.c m), pT gp 0, ud, ud, pT gm 0, pT go 0, .int .i64 0, pT gq 0, .int .i64 (offe p m).2, .int .i64 (sgnd l m), .tuple #[.agg (Off.cs (offe p m).1), .int .i64 (offe p m).2], .agg (p.cells), .agg (Msg.c m), .tuple #[.agg (Off.cs (offe p m).1), .int .i64 (offe p m).2], .agg (Off.cs (offe p m).1), .int .i64 (offe p m).2, .int .i64 (offe p m).2, .bool false, ud, ud, pT gq 0, .int .i64 ((offe p m).1).v, .int .i64 n, .bool false, ud, .slice A0 l.length cap0, .agg (Msg.c m), .int .i64 (sgnd l m), .int .i64 (sgnd l m), .bool false, ud, ud, ud], []⟩ <| then_n <| sy_n (.tmp 32) (qc77_13 502) (qc77_13 503) <| sy_sk <| then_n <| sy_sq (qc77_13 126) (qc77_13 127) <| sy_reg <| rg_q 9 [0, 1, 2] <| ppq (.agg (Off.cs ((offe p m).1))) (exec_load_row 49 (.tmp 10) (by kernel_rfl) gq (by kernel_rfl) _ _ (0, 0) _ (h65) Tryz.underlying49 rfl (by kernel_rfl)) ?_
        obtain ⟨V68, eV68, kV68⟩ := rowset_step V60 go ((Off.cs ((offe p m).1)))
        have h69 : V68.heap[go]? = some (.cells ((Off.cs ((offe p m).1))) 49 (0, 0)) := eV68 ▸ setRow_heap _ _ _ _ _ _ h64
        refine pzq (w' := V68) (by rw [← eV68]; exact exec_store_row 49 (.tmp 8) (.tmp 35) (by kernel_rfl) go ((Off.cs ((offe p m).1))) (by kernel_rfl) (by kernel_rfl) 49 (#[.int .i64 0, .int .i64 0, .int .i64 0]) h64 (by kernel_rfl) rfl (by kernel_rfl)) ?_
        clear eV68
        have K74 := K66.no kV68 (by omega)
        have z75 := kV68.size
        refine pkq (.int .i64 0) <| ps_end <| then_n <| sy_ret (by kernel_rfl) <| sy_out (.tuple #[.agg ((Off.cs ((offe p m).1))), .int .i64 0]) rfl (results_row_tmp (p := 8) (q := 9) (ty := 49) (by kernel_rfl) _ _ go 49 ((Off.cs ((offe p m).1))) (0, 0) _ (.int .i64 0) (by kernel_rfl) h69 Tryz.underlying49 rfl (by kernel_rfl) (by kernel_rfl)) ?_
        exact ⟨by rw [jud, if_pos c0, if_neg c1, if_pos c2]; (try rfl), K74⟩
      · refine pkq (.int .i64 (sgnd l m)) <| ppq (.bool true) (nqt ((sgnd l m) : Int) ((0) : Int) (by omega)) <| ps_end <| sy_a ⟨#[.agg p.cells, .slice A0 l.length cap0, .int .i64 n, .agg (Msg.c m), pT gp 0, ud, ud, pT gm 0, pT go 0, .int .i64 0, pT gq 0, .int .i64 (offe p m).2, .int .i64 (sgnd l m), .tuple #[.agg (Off.cs (offe p m).1), .int .i64 (offe p m).2], .agg (p.cells), .agg (Msg.c m), .tuple #[.agg (Off.cs (offe p m).1), .int .i64 (offe p m).2], .agg (Off.cs (offe p m).1), .int .i64 (offe p m).2, .int .i64 (offe p m).2, .bool false, ud, ud, pT gq 0, .int .i64 ((offe p m).1).v, .int .i64 n, .bool false, ud, .slice A0 l.length cap0, .agg (Msg.c m), .int .i64 (sgnd l m), .int .i64 (sgnd l m), .bool true, ud, ud, ud], []⟩ <| then_n <| sy_ys (.tmp 32) (qc77_13 502) (qc77_13 503) <| sy_sq (qc77_13 1004) (qc77_13 1005) <| sy_reg <| rg_q 8 [0, 1, 2, 3] <| pkq (.agg #[.int .i64 0, .int .i64 0, .int .i64 0]) <| pkq (.int .i64 (sgnd l m)) ?_
        obtain ⟨V76, eV76, kV76⟩ := rowset_step V60 go (#[.int .i64 0, .int .i64 0, .int .i64 0])
        have h77 : V76.heap[go]? = some (.cells (#[.int .i64 0, .int .i64 0, .int .i64 0]) 49 (0, 0)) := eV76 ▸ setRow_heap _ _ _ _ _ _ h64
        refine pzq (w' := V76) (by rw [← eV76]; exact exec_store_row 49 (.tmp 8) (.tmp 33) (by kernel_rfl) go (#[.int .i64 0, .int .i64 0, .int .i64 0]) (by kernel_rfl) (by kernel_rfl) 49 (#[.int .i64 0, .int .i64 0, .int .i64 0]) h64 (by kernel_rfl) rfl (by kernel_rfl)) ?_
        clear eV76
        have K82 := K66.no kV76 (by omega)
        have z83 := kV76.size
        refine pkq (.int .i64 (sgnd l m)) <| ps_end <| then_n <| sy_ret (by kernel_rfl) <| then_r <| sy_out (.tuple #[.agg (#[.int .i64 0, .int .i64 0, .int .i64 0]), .int .i64 (sgnd l m)]) rfl (results_row_tmp (p := 8) (q := 9) (ty := 49) (by kernel_rfl) _ _ go 49 (#[.int .i64 0, .int .i64 0, .int .i64 0]) (0, 0) _ (.int .i64 (sgnd l m)) (by kernel_rfl) h77 Tryz.underlying49 rfl (by kernel_rfl) (by kernel_rfl)) ?_
        exact ⟨by rw [jud, if_pos c0, if_neg c1, if_neg c2]; (try rfl), K82⟩
  · refine pkq (.int .i64 (offe p m).2) <| ppq (.bool true) (nqt (((offe p m).2) : Int) ((0) : Int) (by omega)) <| ps_end <| then_n <| sy_ys (.tmp 20) (qc77_13 58) (qc77_13 59) <| sy_sq (qc77_13 116) (qc77_13 117) <| sy_reg <| rg_q 3 [0, 1, 2, 3] <| pkq (.agg #[.int .i64 0, .int .i64 0, .int .i64 0]) <| pkq (.int .i64 (offe p m).2) ?_
    obtain ⟨V84, eV84, kV84⟩ := rowset_step V44 go (#[.int .i64 0, .int .i64 0, .int .i64 0])
    have h85 : V84.heap[go]? = some (.cells (#[.int .i64 0, .int .i64 0, .int .i64 0]) 49 (0, 0)) := eV84 ▸ setRow_heap _ _ _ _ _ _ h49
    refine pzq (w' := V84) (by rw [← eV84]; exact exec_store_row 49 (.tmp 8) (.tmp 21) (by kernel_rfl) go (#[.int .i64 0, .int .i64 0, .int .i64 0]) (by kernel_rfl) (by kernel_rfl) 49 (#[.int .i64 0, .int .i64 0, .int .i64 0]) h49 (by kernel_rfl) rfl (by kernel_rfl)) ?_
    clear eV84
    have K90 := K50.no kV84 (by omega)
    have z91 := kV84.size
    refine pkq (.int .i64 (offe p m).2) <| ps_end <| then_n <| sy_ret (by kernel_rfl) <| then_r <| sy_out (.tuple #[.agg (#[.int .i64 0, .int .i64 0, .int .i64 0]), .int .i64 (offe p m).2]) rfl (results_row_tmp (p := 8) (q := 9) (ty := 49) (by kernel_rfl) _ _ go 49 (#[.int .i64 0, .int .i64 0, .int .i64 0]) (0, 0) _ (.int .i64 (offe p m).2) (by kernel_rfl) h85 Tryz.underlying49 rfl (by kernel_rfl) (by kernel_rfl)) ?_
    exact ⟨by rw [jud, if_neg c0]; (try rfl), K90⟩
noncomputable def qc77_14 (n : Nat) : Code := partOf Tryz.f12 n
theorem eProve_ok (a b : Att) (w : World) (ha : a.Ok) (hb : b.Ok) :
    Calls Tryz.prog 12 #[.agg (Att.c a), .agg (Att.c b)] w (fun e w' => e = .returned (.tuple #[.agg (Msg.c (proves a b).1), .bool (proves a b).2]) ∧ Keeps Nob w w') := by
  have hr := ha.r
  have hs := hb.r
  have K0 : Keeps Nob w w := Keeps.refl _ _
  refine sy_enter (qc77_14 1) ⟨#[.agg (Att.c a), .agg (Att.c b), ud, ud, ud, ud, ud, ud, ud, ud, ud, ud, ud, ud, ud, ud, ud, ud, ud, ud, ud, ud, ud, ud, ud, ud, ud, ud, ud, ud, ud], []⟩ Tryz.func12 (by kernel_rfl) (by kernel_rfl) <| sy_sq (qc77_14 2) (qc77_14 3) <| sy_reg <| rg_q 0 [0, 1, 2, 3] ?_
  obtain ⟨V1, eV1, ga, ega, h2, kV1⟩ := alloc_step w ((Att.c a)) 26
  have n3 : w.heap.size ≤ ga := ega ▸ K0.size
  refine prq (pT ga 0) (w' := V1) (by rw [← eV1, ← ega]; exact exec_box 26 (.tmp 0) (by kernel_rfl) (.agg (Att.c a)) (by kernel_rfl)) ?_
  clear eV1
  have K4 := K0.nn kV1
  have z5 := kV1.size
  obtain ⟨V6, eV6, gb, egb, h7, kV6⟩ := alloc_step V1 ((Att.c b)) 26
  have n8 : ga < gb := egb ▸ lt_of_block h2
  have n9 : w.heap.size ≤ gb := egb ▸ K4.size
  refine prq (pT gb 0) (w' := V6) (by rw [← eV6, ← egb]; exact exec_box 26 (.tmp 1) (by kernel_rfl) (.agg (Att.c b)) (by kernel_rfl)) ?_
  clear eV6
  have h10 := kV6.bk h2
  have K11 := K4.nn kV6
  have z12 := kV6.size
  obtain ⟨V13, eV13, gr, egr, h14, kV13⟩ := alloc_step V6 ((Msg.c msgZ)) 38
  have n15 : ga < gr := egr ▸ lt_of_block h10
  have n16 : gb < gr := egr ▸ lt_of_block h7
  have n17 : w.heap.size ≤ gr := egr ▸ K11.size
  refine prq (pT gr 0) (w' := V13) (by rw [← eV13, ← egr]; exact exec_alloc0 38 (by kernel_rfl) (.agg ((Msg.c msgZ))) (by kernel_rfl)) ?_
  clear eV13
  have h18 := kV13.bk h10
  have h19 := kV13.bk h7
  have K20 := K11.nn kV13
  have z21 := kV13.size
  refine pkq (.bool false) <| ps_end <| then_n <| sy_sq (qc77_14 6) (qc77_14 7) <| sy_reg <| rg_q 1 [0, 1, 2, 3, 4] <| ppq (.agg (Att.c a)) (exec_load_row 26 (.tmp 2) (by kernel_rfl) ga (by kernel_rfl) _ _ (0, 0) _ (h18) Tryz.underlying26 rfl (by rw [Att.c_size _ hr]; kernel_rfl)) <| ppq (.agg (Att.c b)) (exec_load_row 26 (.tmp 3) (by kernel_rfl) gb (by kernel_rfl) _ _ (0, 0) _ (h19) Tryz.underlying26 rfl (by rw [Att.c_size _ hs]; kernel_rfl)) <| ppq (.agg (Msg.c (evMs 0 a b))) (exec_build_fill 38 #[(0, .const (.int .i64 8)), (9, .tmp 7), (10, .tmp 8)] (by kernel_rfl) [(0, .int .i64 8), (9, .agg (Att.c a)), (10, .agg (Att.c b))] (by kernel_rfl) _ Tryz.underlying38 (.agg msgZ.c) (fun _ => by kernel_rfl) #[(0, 1), (1, 1), (2, 1), (3, 1), (4, 1), (5, 1), (6, 4), (10, 1), (11, 1), (12, 36), (48, 36), (84, 35), (119, 35)] (fun _ => by kernel_rfl) _ (fill_ab a b hr hs)) ?_
  obtain ⟨V22, eV22, gm, egm, h23, kV22⟩ := alloc_step V13 ((Msg.c msgZ)) 38
  have n24 : ga < gm := egm ▸ lt_of_block h18
  have n25 : gb < gm := egm ▸ lt_of_block h19
  have n26 : gr < gm := egm ▸ lt_of_block h14
  have n27 : w.heap.size ≤ gm := egm ▸ K20.size
  refine prq (pT gm 0) (w' := V22) (by rw [← eV22, ← egm]; exact exec_alloc0 38 (by kernel_rfl) (.agg ((Msg.c msgZ))) (by kernel_rfl)) ?_
  clear eV22
  have h28 := kV22.bk h18
  have h29 := kV22.bk h19
  have h30 := kV22.bk h14
  have K31 := K20.nn kV22
  have z32 := kV22.size
  obtain ⟨V33, eV33, kV33⟩ := rowset_step V22 gm ((Msg.c (evMs 0 a b)))
  have h34 : V33.heap[gm]? = some (.cells (Msg.c ((evMs 0 a b))) 38 (0, 0)) := eV33 ▸ setRow_heap _ _ _ _ _ _ h23
  refine pzq (w' := V33) (by rw [← eV33]; exact exec_store_row 38 (.tmp 6) (.tmp 9) (by kernel_rfl) gm ((Msg.c (evMs 0 a b))) (by kernel_rfl) (by kernel_rfl) 38 ((Msg.c msgZ)) h23 (by rw [Msg.c_size (evMs_R hr hs)]; kernel_rfl) (by rw [Msg.c_size (evMs_R hr hs)]; exact (Msg.c_size msgZ_R).symm) (Msg.c_one _)) ?_
  clear eV33
  have h35 := kV33.bo h28 (by omega)
  have h36 := kV33.bo h29 (by omega)
  have h37 := kV33.bo h30 (by omega)
  have K38 := K31.no kV33 (by omega)
  have z39 := kV33.size
  refine ps_end <| then_n <| sy_sq (qc77_14 14) (qc77_14 15) <| sy_bk 0 (qc77_14 28) <| sy_sq (qc77_14 56) (qc77_14 57) <| sy_reg <| rg_q 3 [0, 1, 2, 3] ?_
  by_cases c0 : doub a b = true
  · refine ppq (.agg (Att.c a)) (exec_load_row 26 (.tmp 2) (by kernel_rfl) ga (by kernel_rfl) _ _ (0, 0) _ (h35) Tryz.underlying26 rfl (by rw [Att.c_size _ hr]; kernel_rfl)) <| ppq (.agg (Att.c b)) (exec_load_row 26 (.tmp 3) (by kernel_rfl) gb (by kernel_rfl) _ _ (0, 0) _ (h36) Tryz.underlying26 rfl (by rw [Att.c_size _ hs]; kernel_rfl)) ?_
    refine pcq 32 #[.agg (Att.c a), .agg (Att.c b)] Tryz.func32 ((doubV _ ha hb c0).mono ?_)
    rintro e V40 ⟨rfl, kV40⟩
    refine ⟨_, rfl, ?_⟩
    have h43 := kV40.bk h37
    have h44 := kV40.bk h34
    have K45 := K38.nn kV40
    have z46 := kV40.size
    refine pkq (.bool true) <| ps_end <| then_n <| sy_ys (.tmp 11) (qc77_14 114) (qc77_14 115) <| sy_reg <| rg_q 4 [0, 1] <| pkq (pT gm 11) ?_
    obtain ⟨V47, eV47, kV47⟩ := cell_step V40 gm 11 (.int .i64 1)
    have h48 : V47.heap[gm]? = some (.cells (Msg.c (NF.set ((evMs 0 a b)) 1 .pf)) 38 (0, 0)) := eV47 ▸ ((heap_setCell_same _ gm 11 _ _ (.int .i64 1) h44).trans (congrArg (fun c => some (Obj.cells c 38 (0, 0))) (show (Msg.c ((evMs 0 a b)) : Array Value).setIfInBounds 11 (.int .i64 1) = Msg.c (NF.set ((evMs 0 a b)) 1 .pf) from Msg.set_n (evMs_R hr hs) NF.pf _)))
    refine pzq (w' := V47) (by rw [← eV47]; exact exec_store_cell 3 (.tmp 15) (.const (.int .i64 1)) (by kernel_rfl) gm 11 (by kernel_rfl) (.int .i64 1) (by kernel_rfl) (by kernel_rfl) (by kernel_rfl) (.int .i64 (((evMs 0 a b)).pf)) (rc (h44) (Msg.get_n (evMs_R hr hs) NF.pf)) (frozen_of_row _ _ _ _ _ h44) (by kernel_rfl)) ?_
    clear eV47
    have h51 := kV47.bo h43 (by omega)
    have K52 := K45.no kV47 (by omega)
    have z53 := kV47.size
    refine ps_end <| blk_n <| then_n <| sy_sq (qc77_14 30) (qc77_14 31) <| sy_reg <| rg_q 9 [0, 1, 2] <| ppq (.agg (Msg.c (NF.set ((evMs 0 a b)) 1 .pf))) (exec_load_row 38 (.tmp 6) (by kernel_rfl) gm (by kernel_rfl) _ _ (0, 0) _ (h48) Tryz.underlying38 rfl (by rw [Msg.c_size (NF.R (evMs_R hr hs))]; kernel_rfl)) ?_
    obtain ⟨V54, eV54, kV54⟩ := rowset_step V47 gr ((Msg.c (NF.set ((evMs 0 a b)) 1 .pf)))
    have h55 : V54.heap[gr]? = some (.cells (Msg.c (NF.set ((evMs 0 a b)) 1 .pf)) 38 (0, 0)) := eV54 ▸ setRow_heap _ _ _ _ _ _ h51
    refine pzq (w' := V54) (by rw [← eV54]; exact exec_store_row 38 (.tmp 4) (.tmp 30) (by kernel_rfl) gr ((Msg.c (NF.set ((evMs 0 a b)) 1 .pf))) (by kernel_rfl) (by kernel_rfl) 38 ((Msg.c msgZ)) h51 (by rw [Msg.c_size (NF.R (evMs_R hr hs))]; kernel_rfl) (by rw [Msg.c_size (NF.R (evMs_R hr hs))]; exact (Msg.c_size msgZ_R).symm) (Msg.c_one _)) ?_
    clear eV54
    have K59 := K52.no kV54 (by omega)
    have z60 := kV54.size
    refine pkq (.bool true) <| ps_end <| then_n <| sy_ret (by kernel_rfl) <| sy_out (.tuple #[.agg (Msg.c (NF.set ((evMs 0 a b)) 1 .pf)), .bool true]) rfl (results_row_tmp (p := 4) (q := 5) (ty := 38) (by kernel_rfl) _ _ gr 38 (Msg.c (NF.set ((evMs 0 a b)) 1 .pf)) (0, 0) _ (.bool true) (by kernel_rfl) h55 Tryz.underlying38 rfl (by rw [Msg.c_size (NF.R (evMs_R hr hs))]; kernel_rfl) (by kernel_rfl)) ?_
    exact ⟨by rw [proves, if_pos c0]; (try rfl), K59⟩
  · have c0' := bnot c0
    refine ppq (.agg (Att.c a)) (exec_load_row 26 (.tmp 2) (by kernel_rfl) ga (by kernel_rfl) _ _ (0, 0) _ (h35) Tryz.underlying26 rfl (by rw [Att.c_size _ hr]; kernel_rfl)) <| ppq (.agg (Att.c b)) (exec_load_row 26 (.tmp 3) (by kernel_rfl) gb (by kernel_rfl) _ _ (0, 0) _ (h36) Tryz.underlying26 rfl (by rw [Att.c_size _ hs]; kernel_rfl)) ?_
    refine pcq 32 #[.agg (Att.c a), .agg (Att.c b)] Tryz.func32 ((doubV _ ha hb c0').mono ?_)
    rintro e V61 ⟨rfl, kV61⟩
    refine ⟨_, rfl, ?_⟩
    have h62 := kV61.bk h35
    have h63 := kV61.bk h36
    have h64 := kV61.bk h37
    have h65 := kV61.bk h34
    have K66 := K38.nn kV61
    have z67 := kV61.size
    refine pkq (.bool false) <| ps_end <| then_n <| sy_n (.tmp 11) (qc77_14 114) (qc77_14 115) <| sy_sq (qc77_14 230) (qc77_14 231) <| sy_reg <| rg_q 5 [0, 1, 2, 3] ?_
    by_cases c1 : surr a b = true
    · refine ppq (.agg (Att.c a)) (exec_load_row 26 (.tmp 2) (by kernel_rfl) ga (by kernel_rfl) _ _ (0, 0) _ (h62) Tryz.underlying26 rfl (by rw [Att.c_size _ hr]; kernel_rfl)) <| ppq (.agg (Att.c b)) (exec_load_row 26 (.tmp 3) (by kernel_rfl) gb (by kernel_rfl) _ _ (0, 0) _ (h63) Tryz.underlying26 rfl (by rw [Att.c_size _ hs]; kernel_rfl)) ?_
      refine pcq 33 #[.agg (Att.c a), .agg (Att.c b)] Tryz.func33 ((surrV _ ha hb c1).mono ?_)
      rintro e V68 ⟨rfl, kV68⟩
      refine ⟨_, rfl, ?_⟩
      have h71 := kV68.bk h64
      have h72 := kV68.bk h65
      have K73 := K66.nn kV68
      have z74 := kV68.size
      refine pkq (.bool true) <| ps_end <| then_n <| sy_ys (.tmp 16) (qc77_14 462) (qc77_14 463) <| sy_reg <| rg_q 6 [0, 1] <| pkq (pT gm 11) ?_
      obtain ⟨V75, eV75, kV75⟩ := cell_step V68 gm 11 (.int .i64 2)
      have h76 : V75.heap[gm]? = some (.cells (Msg.c (NF.set ((evMs 0 a b)) 2 .pf)) 38 (0, 0)) := eV75 ▸ ((heap_setCell_same _ gm 11 _ _ (.int .i64 2) h72).trans (congrArg (fun c => some (Obj.cells c 38 (0, 0))) (show (Msg.c ((evMs 0 a b)) : Array Value).setIfInBounds 11 (.int .i64 2) = Msg.c (NF.set ((evMs 0 a b)) 2 .pf) from Msg.set_n (evMs_R hr hs) NF.pf _)))
      refine pzq (w' := V75) (by rw [← eV75]; exact exec_store_cell 3 (.tmp 20) (.const (.int .i64 2)) (by kernel_rfl) gm 11 (by kernel_rfl) (.int .i64 2) (by kernel_rfl) (by kernel_rfl) (by kernel_rfl) (.int .i64 (((evMs 0 a b)).pf)) (rc (h72) (Msg.get_n (evMs_R hr hs) NF.pf)) (frozen_of_row _ _ _ _ _ h72) (by kernel_rfl)) ?_
      clear eV75
      have h79 := kV75.bo h71 (by omega)
      have K80 := K73.no kV75 (by omega)
      have z81 := kV75.size
      refine ps_end <| blk_n <| then_n <| sy_sq (qc77_14 30) (qc77_14 31) <| sy_reg <| rg_q 9 [0, 1, 2] <| ppq (.agg (Msg.c (NF.set ((evMs 0 a b)) 2 .pf))) (exec_load_row 38 (.tmp 6) (by kernel_rfl) gm (by kernel_rfl) _ _ (0, 0) _ (h76) Tryz.underlying38 rfl (by rw [Msg.c_size (NF.R (evMs_R hr hs))]; kernel_rfl)) ?_
      obtain ⟨V82, eV82, kV82⟩ := rowset_step V75 gr ((Msg.c (NF.set ((evMs 0 a b)) 2 .pf)))
      have h83 : V82.heap[gr]? = some (.cells (Msg.c (NF.set ((evMs 0 a b)) 2 .pf)) 38 (0, 0)) := eV82 ▸ setRow_heap _ _ _ _ _ _ h79
      refine pzq (w' := V82) (by rw [← eV82]; exact exec_store_row 38 (.tmp 4) (.tmp 30) (by kernel_rfl) gr ((Msg.c (NF.set ((evMs 0 a b)) 2 .pf))) (by kernel_rfl) (by kernel_rfl) 38 ((Msg.c msgZ)) h79 (by rw [Msg.c_size (NF.R (evMs_R hr hs))]; kernel_rfl) (by rw [Msg.c_size (NF.R (evMs_R hr hs))]; exact (Msg.c_size msgZ_R).symm) (Msg.c_one _)) ?_
      clear eV82
      have K87 := K80.no kV82 (by omega)
      have z88 := kV82.size
      refine pkq (.bool true) <| ps_end <| then_n <| sy_ret (by kernel_rfl) <| sy_out (.tuple #[.agg (Msg.c (NF.set ((evMs 0 a b)) 2 .pf)), .bool true]) rfl (results_row_tmp (p := 4) (q := 5) (ty := 38) (by kernel_rfl) _ _ gr 38 (Msg.c (NF.set ((evMs 0 a b)) 2 .pf)) (0, 0) _ (.bool true) (by kernel_rfl) h83 Tryz.underlying38 rfl (by rw [Msg.c_size (NF.R (evMs_R hr hs))]; kernel_rfl) (by kernel_rfl)) ?_
      exact ⟨by rw [proves, if_neg c0, if_pos c1]; (try rfl), K87⟩
    · have c1' := bnot c1
      refine ppq (.agg (Att.c a)) (exec_load_row 26 (.tmp 2) (by kernel_rfl) ga (by kernel_rfl) _ _ (0, 0) _ (h62) Tryz.underlying26 rfl (by rw [Att.c_size _ hr]; kernel_rfl)) <| ppq (.agg (Att.c b)) (exec_load_row 26 (.tmp 3) (by kernel_rfl) gb (by kernel_rfl) _ _ (0, 0) _ (h63) Tryz.underlying26 rfl (by rw [Att.c_size _ hs]; kernel_rfl)) ?_
      refine pcq 33 #[.agg (Att.c a), .agg (Att.c b)] Tryz.func33 ((surrV _ ha hb c1').mono ?_)
      rintro e V89 ⟨rfl, kV89⟩
      refine ⟨_, rfl, ?_⟩
      have h90 := kV89.bk h62
      have h91 := kV89.bk h63
      have h92 := kV89.bk h64
      have h93 := kV89.bk h65
      have K94 := K66.nn kV89
      have z95 := kV89.size
      refine pkq (.bool false) <| ps_end <| then_n <| sy_n (.tmp 16) (qc77_14 462) (qc77_14 463) <| sy_sq (qc77_14 926) (qc77_14 927) <| sy_reg <| rg_q 7 [0, 1, 2, 3] ?_
      by_cases c2 : surr b a = true
      · refine ppq (.agg (Att.c b)) (exec_load_row 26 (.tmp 3) (by kernel_rfl) gb (by kernel_rfl) _ _ (0, 0) _ (h91) Tryz.underlying26 rfl (by rw [Att.c_size _ hs]; kernel_rfl)) <| ppq (.agg (Att.c a)) (exec_load_row 26 (.tmp 2) (by kernel_rfl) ga (by kernel_rfl) _ _ (0, 0) _ (h90) Tryz.underlying26 rfl (by rw [Att.c_size _ hr]; kernel_rfl)) ?_
        refine pcq 33 #[.agg (Att.c b), .agg (Att.c a)] Tryz.func33 ((surrV _ hb ha c2).mono ?_)
        rintro e V96 ⟨rfl, kV96⟩
        refine ⟨_, rfl, ?_⟩
        have h97 := kV96.bk h90
        have h98 := kV96.bk h91
        have h99 := kV96.bk h92
        have h100 := kV96.bk h93
        have K101 := K94.nn kV96
        have z102 := kV96.size
        refine pkq (.bool true) <| ps_end <| then_n <| sy_ys (.tmp 21) (qc77_14 1854) (qc77_14 1855) <| sy_np <| sy_reg <| an_begin 8 8 (opsAt (qc77_14 1854)) (fun W => (W.heap[ga]? = some (.cells (Att.c a) 26 (0, 0))) ∧ (W.heap[gb]? = some (.cells (Att.c b) 26 (0, 0)))) #[false, false, false, false, false, false, false, false] (by kernel_rfl) (by kernel_rfl) (by kernel_rfl) (by kernel_rfl) ?_
        obtain ⟨V103, eV103, kV103⟩ := drew_step V96
        rw [eV103]
        clear eV103
        have h104 := kV103.bk h97
        have h105 := kV103.bk h98
        have h106 := kV103.bk h99
        have h107 := kV103.bk h100
        have K108 := K101.nn kV103
        have z109 := kV103.size
        refine avq 0 (.agg (Att.c b)) (fun W hS => exec_load_row 26 (.tmp 3) (by kernel_rfl) gb (by kernel_rfl) _ _ (0, 0) _ (hS.2) Tryz.underlying26 rfl (by rw [Att.c_size _ hs]; kernel_rfl)) ⟨h104, h105⟩ <| avq 1 (.agg (Att.c a)) (fun W hS => exec_load_row 26 (.tmp 2) (by kernel_rfl) ga (by kernel_rfl) _ _ (0, 0) _ (hS.1) Tryz.underlying26 rfl (by rw [Att.c_size _ hr]; kernel_rfl)) ⟨h104, h105⟩ <| akq 2 (pT gm 11) ⟨h104, h105⟩ <| an_o 3 ?_
        obtain ⟨V110, eV110, kV110⟩ := cell_step V103 gm 11 (.int .i64 2)
        have h111 : V110.heap[gm]? = some (.cells (Msg.c (NF.set ((evMs 0 a b)) 2 .pf)) 38 (0, 0)) := eV110 ▸ ((heap_setCell_same _ gm 11 _ _ (.int .i64 2) h107).trans (congrArg (fun c => some (Obj.cells c 38 (0, 0))) (show (Msg.c ((evMs 0 a b)) : Array Value).setIfInBounds 11 (.int .i64 2) = Msg.c (NF.set ((evMs 0 a b)) 2 .pf) from Msg.set_n (evMs_R hr hs) NF.pf _)))
        refine nzq (w' := V110) (by rw [← eV110]; exact exec_store_cell 3 (.tmp 27) (.const (.int .i64 2)) (by kernel_rfl) gm 11 (by kernel_rfl) (.int .i64 2) (by kernel_rfl) (by kernel_rfl) (by kernel_rfl) (.int .i64 (((evMs 0 a b)).pf)) (rc (h107) (Msg.get_n (evMs_R hr hs) NF.pf)) (frozen_of_row _ _ _ _ _ h107) (by kernel_rfl)) ?_
        clear eV110
        have h112 := kV110.bo h104 (by omega)
        have h113 := kV110.bo h105 (by omega)
        have h114 := kV110.bo h106 (by omega)
        have K115 := K108.no kV110 (by omega)
        have z116 := kV110.size
        refine ⟨⟨h112, h113⟩, ?_⟩
        refine akq 4 (pT gm 12) ⟨h112, h113⟩ <| an_o 5 ?_
        obtain ⟨V117, eV117⟩ : ∃ V, V110.setCells gm 12 (Att.c b).toList = V := ⟨_, rfl⟩
        have kV117 : Keeps (One gm) V110 V117 := eV117 ▸ Keeps.setCells _ _ _ _
        have h118 : V117.heap[gm]? = some (.cells (Msg.c (putA (NF.set ((evMs 0 a b)) 2 .pf) b)) 38 (0, 0)) := eV117 ▸ (heap_setCells gm _ _ 12 _ _ h111 (show 12 + (Att.c b).toList.length ≤ _ by rw [(show (Att.c b).toList.length = 36 from Att.tl hs), Msg.c_size (NF.R (evMs_R hr hs))]; decide)).trans (congrArg (fun c => some (Obj.cells c 38 (0, 0))) (Msg.set_A (NF.R (evMs_R hr hs)) _ hs))
        refine nzq (w' := V117) (by rw [← eV117]; exact exec_store_mid 26 (.tmp 28) (.tmp 25) (by kernel_rfl) gm 12 (by kernel_rfl) (Att.c b) (by kernel_rfl) _ _ h111 (show 12 + (Att.c b).toList.length ≤ _ by rw [(show (Att.c b).toList.length = 36 from Att.tl hs), Msg.c_size (NF.R (evMs_R hr hs))]; decide) (by rw [Att.c_size _ hs]; kernel_rfl) (Att.c_one _)) ?_
        clear eV117
        have h119 := kV117.bo h112 (by omega)
        have h120 := kV117.bo h113 (by omega)
        have h121 := kV117.bo h114 (by omega)
        have K122 := K115.no kV117 (by omega)
        have z123 := kV117.size
        refine ⟨⟨h119, h120⟩, ?_⟩
        refine akq 6 (pT gm 48) ⟨h119, h120⟩ <| an_o 7 ?_
        obtain ⟨V124, eV124⟩ : ∃ V, V117.setCells gm 48 (Att.c a).toList = V := ⟨_, rfl⟩
        have kV124 : Keeps (One gm) V117 V124 := eV124 ▸ Keeps.setCells _ _ _ _
        have h125 : V124.heap[gm]? = some (.cells (Msg.c (putB (putA (NF.set ((evMs 0 a b)) 2 .pf) b) a)) 38 (0, 0)) := eV124 ▸ (heap_setCells gm _ _ 48 _ _ h118 (show 48 + (Att.c a).toList.length ≤ _ by rw [(show (Att.c a).toList.length = 36 from Att.tl hr), Msg.c_size (putA_R (NF.R (evMs_R hr hs)) hs)]; decide)).trans (congrArg (fun c => some (Obj.cells c 38 (0, 0))) (Msg.set_B (putA_R (NF.R (evMs_R hr hs)) hs) _ hr))
        refine nzq (w' := V124) (by rw [← eV124]; exact exec_store_mid 26 (.tmp 29) (.tmp 26) (by kernel_rfl) gm 48 (by kernel_rfl) (Att.c a) (by kernel_rfl) _ _ h118 (show 48 + (Att.c a).toList.length ≤ _ by rw [(show (Att.c a).toList.length = 36 from Att.tl hr), Msg.c_size (putA_R (NF.R (evMs_R hr hs)) hs)]; decide) (by rw [Att.c_size _ hr]; kernel_rfl) (Att.c_one _)) ?_
        clear eV124
        have h126 := kV124.bo h119 (by omega)
        have h127 := kV124.bo h120 (by omega)
        have h128 := kV124.bo h121 (by omega)
        have K129 := K122.no kV124 (by omega)
        have z130 := kV124.size
        refine ⟨⟨h126, h127⟩, ?_⟩
        refine an_end (by kernel_rfl) <| sy_a ⟨#[.agg (Att.c a), .agg (Att.c b), pT ga 0, pT gb 0, pT gr 0, .bool false, pT gm 0, .agg (Att.c a), .agg (Att.c b), .agg (Msg.c (evMs 0 a b)), ud, .bool false, .agg (Att.c a), .agg (Att.c b), .bool false, ud, .bool false, .agg (Att.c a), .agg (Att.c b), .bool false, ud, .bool true, .agg (Att.c b), .agg (Att.c a), .bool true, .agg (Att.c b), .agg (Att.c a), pT gm 11, pT gm 12, pT gm 48, ud], []⟩ <| blk_n <| then_n <| sy_sq (qc77_14 30) (qc77_14 31) <| sy_reg <| rg_q 9 [0, 1, 2] <| ppq (.agg (Msg.c (putB (putA (NF.set ((evMs 0 a b)) 2 .pf) b) a))) (exec_load_row 38 (.tmp 6) (by kernel_rfl) gm (by kernel_rfl) _ _ (0, 0) _ (h125) Tryz.underlying38 rfl (by rw [Msg.c_size (putB_R (putA_R (NF.R (evMs_R hr hs)) hs) hr)]; kernel_rfl)) ?_
        obtain ⟨V131, eV131, kV131⟩ := rowset_step V124 gr ((Msg.c (putB (putA (NF.set ((evMs 0 a b)) 2 .pf) b) a)))
        have h132 : V131.heap[gr]? = some (.cells (Msg.c (putB (putA (NF.set ((evMs 0 a b)) 2 .pf) b) a)) 38 (0, 0)) := eV131 ▸ setRow_heap _ _ _ _ _ _ h128
        refine pzq (w' := V131) (by rw [← eV131]; exact exec_store_row 38 (.tmp 4) (.tmp 30) (by kernel_rfl) gr ((Msg.c (putB (putA (NF.set ((evMs 0 a b)) 2 .pf) b) a))) (by kernel_rfl) (by kernel_rfl) 38 ((Msg.c msgZ)) h128 (by rw [Msg.c_size (putB_R (putA_R (NF.R (evMs_R hr hs)) hs) hr)]; kernel_rfl) (by rw [Msg.c_size (putB_R (putA_R (NF.R (evMs_R hr hs)) hs) hr)]; exact (Msg.c_size msgZ_R).symm) (Msg.c_one _)) ?_
        clear eV131
        have K136 := K129.no kV131 (by omega)
        have z137 := kV131.size
        refine pkq (.bool true) <| ps_end <| then_n <| sy_ret (by kernel_rfl) <| sy_out (.tuple #[.agg (Msg.c (putB (putA (NF.set ((evMs 0 a b)) 2 .pf) b) a)), .bool true]) rfl (results_row_tmp (p := 4) (q := 5) (ty := 38) (by kernel_rfl) _ _ gr 38 (Msg.c (putB (putA (NF.set ((evMs 0 a b)) 2 .pf) b) a)) (0, 0) _ (.bool true) (by kernel_rfl) h132 Tryz.underlying38 rfl (by rw [Msg.c_size (putB_R (putA_R (NF.R (evMs_R hr hs)) hs) hr)]; kernel_rfl) (by kernel_rfl)) ?_
        exact ⟨by rw [proves, if_neg c0, if_neg c1, if_pos c2]; (try rfl), K136⟩
      · have c2' := bnot c2
        refine ppq (.agg (Att.c b)) (exec_load_row 26 (.tmp 3) (by kernel_rfl) gb (by kernel_rfl) _ _ (0, 0) _ (h91) Tryz.underlying26 rfl (by rw [Att.c_size _ hs]; kernel_rfl)) <| ppq (.agg (Att.c a)) (exec_load_row 26 (.tmp 2) (by kernel_rfl) ga (by kernel_rfl) _ _ (0, 0) _ (h90) Tryz.underlying26 rfl (by rw [Att.c_size _ hr]; kernel_rfl)) ?_
        refine pcq 33 #[.agg (Att.c b), .agg (Att.c a)] Tryz.func33 ((surrV _ hb ha c2').mono ?_)
        rintro e V138 ⟨rfl, kV138⟩
        refine ⟨_, rfl, ?_⟩
        have h141 := kV138.bk h92
        have K143 := K94.nn kV138
        have z144 := kV138.size
        refine pkq (.bool false) <| ps_end <| then_n <| sy_n (.tmp 21) (qc77_14 1854) (qc77_14 1855) <| sy_sq (qc77_14 3710) (qc77_14 3711) <| sy_reg <| rg_q 2 [0, 1, 2] <| pkq (.agg (Msg.c msgZ)) ?_
        obtain ⟨V145, eV145, kV145⟩ := rowset_step V138 gr ((Msg.c msgZ))
        have h146 : V145.heap[gr]? = some (.cells (Msg.c msgZ) 38 (0, 0)) := eV145 ▸ setRow_heap _ _ _ _ _ _ h141
        refine pzq (w' := V145) (by rw [← eV145]; exact exec_store_row 38 (.tmp 4) (.tmp 10) (by kernel_rfl) gr ((Msg.c msgZ)) (by kernel_rfl) (by kernel_rfl) 38 ((Msg.c msgZ)) h141 (by rw [Msg.c_size msgZ_R]; kernel_rfl) rfl (Msg.c_one _)) ?_
        clear eV145
        have K150 := K143.no kV145 (by omega)
        have z151 := kV145.size
        refine pkq (.bool false) <| ps_end <| sy_a ⟨#[.agg (Att.c a), .agg (Att.c b), pT ga 0, pT gb 0, pT gr 0, .bool false, pT gm 0, .agg (Att.c a), .agg (Att.c b), .agg (Msg.c (evMs 0 a b)), .agg (Msg.c msgZ), .bool false, .agg (Att.c a), .agg (Att.c b), .bool false, ud, .bool false, .agg (Att.c a), .agg (Att.c b), .bool false, ud, .bool false, .agg (Att.c b), .agg (Att.c a), .bool false, ud, ud, ud, ud, ud, ud], []⟩ <| then_n <| sy_ret (by kernel_rfl) <| blk_r <| then_r <| sy_out (.tuple #[.agg (Msg.c msgZ), .bool false]) rfl (results_row_tmp (p := 4) (q := 5) (ty := 38) (by kernel_rfl) _ _ gr 38 (Msg.c msgZ) (0, 0) _ (.bool false) (by kernel_rfl) h146 Tryz.underlying38 rfl (by rw [Msg.c_size msgZ_R]; kernel_rfl) (by kernel_rfl)) ?_
        exact ⟨by rw [proves, if_neg c0, if_neg c1, if_neg c2]; (try rfl), K150⟩
noncomputable def qc77_0 (n : Nat) : Code := partOf Tryz.f14 n
theorem eProveBlock_ok (p q : Pro) (w : World) (ha : p.Ok) (hb : q.Ok) :
    Calls Tryz.prog 14 #[.agg (Pro.c p), .agg (Pro.c q)] w (fun e w' => e = .returned (.tuple #[.agg (Msg.c (provesP p q).1), .bool (provesP p q).2]) ∧ Keeps Nob w w') := by
  have hr := ha.r
  have hs := hb.r
  have K0 : Keeps Nob w w := Keeps.refl _ _
  refine sy_enter (qc77_0 1) ⟨#[.agg (Pro.c p), .agg (Pro.c q), ud, ud, ud, ud, ud, ud, ud, ud, ud, ud, ud, ud], []⟩ Tryz.func14 (by kernel_rfl) (by kernel_rfl) <| sy_sq (qc77_0 2) (qc77_0 3) <| sy_reg <| rg_q 0 [0, 1, 2, 3] ?_
  obtain ⟨V1, eV1, ga, ega, h2, kV1⟩ := alloc_step w ((Pro.c p)) 28
  have n3 : w.heap.size ≤ ga := ega ▸ K0.size
  refine prq (pT ga 0) (w' := V1) (by rw [← eV1, ← ega]; exact exec_box 28 (.tmp 0) (by kernel_rfl) (.agg (Pro.c p)) (by kernel_rfl)) ?_
  clear eV1
  have K4 := K0.nn kV1
  have z5 := kV1.size
  obtain ⟨V6, eV6, gb, egb, h7, kV6⟩ := alloc_step V1 ((Pro.c q)) 28
  have n8 : ga < gb := egb ▸ lt_of_block h2
  have n9 : w.heap.size ≤ gb := egb ▸ K4.size
  refine prq (pT gb 0) (w' := V6) (by rw [← eV6, ← egb]; exact exec_box 28 (.tmp 1) (by kernel_rfl) (.agg (Pro.c q)) (by kernel_rfl)) ?_
  clear eV6
  have h10 := kV6.bk h2
  have K11 := K4.nn kV6
  have z12 := kV6.size
  obtain ⟨V13, eV13, gr, egr, h14, kV13⟩ := alloc_step V6 ((Msg.c msgZ)) 38
  have n15 : ga < gr := egr ▸ lt_of_block h10
  have n16 : gb < gr := egr ▸ lt_of_block h7
  have n17 : w.heap.size ≤ gr := egr ▸ K11.size
  refine prq (pT gr 0) (w' := V13) (by rw [← eV13, ← egr]; exact exec_alloc0 38 (by kernel_rfl) (.agg ((Msg.c msgZ))) (by kernel_rfl)) ?_
  clear eV13
  have h18 := kV13.bk h10
  have h19 := kV13.bk h7
  have K20 := K11.nn kV13
  have z21 := kV13.size
  refine pkq (.bool false) <| ps_end <| then_n <| sy_sq (qc77_0 6) (qc77_0 7) <| sy_sq (qc77_0 12) (qc77_0 13) <| sy_reg <| rg_q 1 [0, 1, 2, 3] ?_
  by_cases c0 : doubP p q = true
  · refine ppq (.agg (Pro.c p)) (exec_load_row 28 (.tmp 2) (by kernel_rfl) ga (by kernel_rfl) _ _ (0, 0) _ (h18) Tryz.underlying28 rfl (by rw [Pro.c_size _ hr]; kernel_rfl)) <| ppq (.agg (Pro.c q)) (exec_load_row 28 (.tmp 3) (by kernel_rfl) gb (by kernel_rfl) _ _ (0, 0) _ (h19) Tryz.underlying28 rfl (by rw [Pro.c_size _ hs]; kernel_rfl)) ?_
    refine pcq 35 #[.agg (Pro.c p), .agg (Pro.c q)] Tryz.func35 ((doubPV _ ha hb c0).mono ?_)
    rintro e V22 ⟨rfl, kV22⟩
    refine ⟨_, rfl, ?_⟩
    have h23 := kV22.bk h18
    have h24 := kV22.bk h19
    have h25 := kV22.bk h14
    have K26 := K20.nn kV22
    have z27 := kV22.size
    refine pkq (.bool false) <| ps_end <| then_n <| sy_n (.tmp 9) (qc77_0 26) (qc77_0 27) <| sy_sk <| then_n <| sy_sq (qc77_0 14) (qc77_0 15) <| sy_reg <| rg_q 3 [0, 1, 2, 3, 4] <| ppq (.agg (Pro.c p)) (exec_load_row 28 (.tmp 2) (by kernel_rfl) ga (by kernel_rfl) _ _ (0, 0) _ (h23) Tryz.underlying28 rfl (by rw [Pro.c_size _ hr]; kernel_rfl)) <| ppq (.agg (Pro.c q)) (exec_load_row 28 (.tmp 3) (by kernel_rfl) gb (by kernel_rfl) _ _ (0, 0) _ (h24) Tryz.underlying28 rfl (by rw [Pro.c_size _ hs]; kernel_rfl)) <| ppq (.agg (Msg.c (evP p q))) (exec_build_fill 38 #[(0, .const (.int .i64 8)), (8, .const (.int .i64 3)), (11, .tmp 11), (12, .tmp 12)] (by kernel_rfl) [(0, .int .i64 8), (8, .int .i64 3), (11, .agg (Pro.c p)), (12, .agg (Pro.c q))] (by kernel_rfl) _ Tryz.underlying38 (.agg msgZ.c) (fun _ => by kernel_rfl) #[(0, 1), (1, 1), (2, 1), (3, 1), (4, 1), (5, 1), (6, 4), (10, 1), (11, 1), (12, 36), (48, 36), (84, 35), (119, 35)] (fun _ => by kernel_rfl) _ (fill_pq p q hr hs)) ?_
    obtain ⟨V28, eV28, kV28⟩ := rowset_step V22 gr ((Msg.c (evP p q)))
    have h29 : V28.heap[gr]? = some (.cells (Msg.c ((evP p q))) 38 (0, 0)) := eV28 ▸ setRow_heap _ _ _ _ _ _ h25
    refine pzq (w' := V28) (by rw [← eV28]; exact exec_store_row 38 (.tmp 4) (.tmp 13) (by kernel_rfl) gr ((Msg.c (evP p q))) (by kernel_rfl) (by kernel_rfl) 38 ((Msg.c msgZ)) h25 (by rw [Msg.c_size (evP_R hr hs)]; kernel_rfl) (by rw [Msg.c_size (evP_R hr hs)]; exact (Msg.c_size msgZ_R).symm) (Msg.c_one _)) ?_
    clear eV28
    have K32 := K26.no kV28 (by omega)
    have z33 := kV28.size
    refine pkq (.bool true) <| ps_end <| then_n <| sy_ret (by kernel_rfl) <| sy_out (.tuple #[.agg (Msg.c ((evP p q))), .bool true]) rfl (results_row_tmp (p := 4) (q := 5) (ty := 38) (by kernel_rfl) _ _ gr 38 (Msg.c ((evP p q))) (0, 0) _ (.bool true) (by kernel_rfl) h29 Tryz.underlying38 rfl (by rw [Msg.c_size (evP_R hr hs)]; kernel_rfl) (by kernel_rfl)) ?_
    exact ⟨by rw [provesP, if_pos c0]; (try rfl), K32⟩
  · have c0' := bnot c0
    refine ppq (.agg (Pro.c p)) (exec_load_row 28 (.tmp 2) (by kernel_rfl) ga (by kernel_rfl) _ _ (0, 0) _ (h18) Tryz.underlying28 rfl (by rw [Pro.c_size _ hr]; kernel_rfl)) <| ppq (.agg (Pro.c q)) (exec_load_row 28 (.tmp 3) (by kernel_rfl) gb (by kernel_rfl) _ _ (0, 0) _ (h19) Tryz.underlying28 rfl (by rw [Pro.c_size _ hs]; kernel_rfl)) ?_
    refine pcq 35 #[.agg (Pro.c p), .agg (Pro.c q)] Tryz.func35 ((doubPV _ ha hb c0').mono ?_)
    rintro e V34 ⟨rfl, kV34⟩
    refine ⟨_, rfl, ?_⟩
    have h37 := kV34.bk h14
    have K38 := K20.nn kV34
    have z39 := kV34.size
    refine pkq (.bool true) <| ps_end <| then_n <| sy_ys (.tmp 9) (qc77_0 26) (qc77_0 27) <| sy_sq (qc77_0 52) (qc77_0 53) <| sy_reg <| rg_q 2 [0, 1, 2] <| pkq (.agg (Msg.c msgZ)) ?_
    obtain ⟨V40, eV40, kV40⟩ := rowset_step V34 gr ((Msg.c msgZ))
    have h41 : V40.heap[gr]? = some (.cells (Msg.c msgZ) 38 (0, 0)) := eV40 ▸ setRow_heap _ _ _ _ _ _ h37
    refine pzq (w' := V40) (by rw [← eV40]; exact exec_store_row 38 (.tmp 4) (.tmp 10) (by kernel_rfl) gr ((Msg.c msgZ)) (by kernel_rfl) (by kernel_rfl) 38 ((Msg.c msgZ)) h37 (by rw [Msg.c_size msgZ_R]; kernel_rfl) rfl (Msg.c_one _)) ?_
    clear eV40
    have K44 := K38.no kV40 (by omega)
    have z45 := kV40.size
    refine pkq (.bool false) <| ps_end <| then_n <| sy_ret (by kernel_rfl) <| then_r <| sy_out (.tuple #[.agg (Msg.c msgZ), .bool false]) rfl (results_row_tmp (p := 4) (q := 5) (ty := 38) (by kernel_rfl) _ _ gr 38 (Msg.c msgZ) (0, 0) _ (.bool false) (by kernel_rfl) h41 Tryz.underlying38 rfl (by rw [Msg.c_size msgZ_R]; kernel_rfl) (by kernel_rfl)) ?_
    exact ⟨by rw [provesP, if_neg c0]; (try rfl), K44⟩
end Go.Proofs.YtcbfnflnokoacaaGreat
namespace Go.Kec
def frc {α : Type} (x : Nat) (k : Nat → α) : α := Nat.rec (k 0) (fun n _ => k (Nat.succ n)) x
theorem frc_eq {α : Type} (x : Nat) (k : Nat → α) : frc x k = k x := by cases x <;> rfl
def frcL {α : Type} : List Nat → (List Nat → α) → α
  | [], k => k []
  | x :: r, k => frc x fun y => frcL r fun s => k (y :: s)
theorem frcL_eq {α : Type} (l : List Nat) (k : List Nat → α) : frcL l k = k l := by
  induction l generalizing k with
  | nil => rfl
  | cons x r ih => rw [frcL, frc_eq, ih]
def roundF {α : Type} (s : List Nat) (k : Nat) (c : List Nat → α) : α := frcL (columns s) fun a => frcL (moves a) fun b => frcL (mixes b) fun d => frcL (iota k d) c
theorem roundF_eq {α : Type} (s : List Nat) (k : Nat) (c : List Nat → α) : roundF s k c = c (round s k) := by simp only [roundF, frcL_eq]; rfl
def permF : List Nat → List Nat → List Nat
  | [], s => s
  | k :: r, s => roundF s k (permF r)
theorem permF_fold (l s : List Nat) : permF l s = l.foldl round s := by
  induction l generalizing s with
  | nil => rfl
  | cons k r ih => rw [permF, roundF_eq, ih]; rfl
theorem permF_eq (s : List Nat) : permF K s = perm s := permF_fold K s
end Go.Kec
namespace Go.Kec
theorem vote_one_p : perm [50462977, 0, 0, 0, 25769803776, 0, 0, 0, 0, 0, 0, 0, 0, 0, 0, 0, 9223372036854775808, 0, 0, 0, 0, 0, 0, 0, 0] = [16245493090752251077, 5317474693821651561, 11391869435923382831, 1177409735059797304, 6471790110808795169, 22975100334389075, 11618367326262577202, 2622276388299019195, 6020288525035422481, 5585398269194204248, 2998783168477571212, 2386240496570250823, 1487428597011492745, 2257054657724283516, 8884791250743104546, 12144257696813921918, 1514490699907962, 125065349427378253, 675734249579899971, 3131052237640124669, 2435136619821686349, 17110531364303804265, 14781712178505009804, 15239907632861048336, 9863921109811272620] := by
  rw [← permF_eq]; decide +kernel
theorem vote_one : sum [1, 1, 2, 3, 0, 0, 0, 0, 0, 0, 0, 0, 0, 0, 0, 0, 0, 0, 0, 0, 0, 0, 0, 0, 0, 0, 0, 0, 0, 0, 0, 0, 0, 0, 0, 0] = [197, 196, 89, 203, 228, 149, 115, 225, 105, 90, 94, 147, 15, 119, 203, 73, 47, 194, 215, 47, 229, 12, 24, 158, 56, 117, 83, 117, 234, 255, 86, 16] := by
  unfold sum takes
  rw [show mixin (stateOf [1, 1, 2, 3, 0, 0, 0, 0, 0, 0, 0, 0, 0, 0, 0, 0, 0, 0, 0, 0, 0, 0, 0, 0, 0, 0, 0, 0, 0, 0, 0, 0, 0, 0, 0, 0]) (lastBlock (restOf [1, 1, 2, 3, 0, 0, 0, 0, 0, 0, 0, 0, 0, 0, 0, 0, 0, 0, 0, 0, 0, 0, 0, 0, 0, 0, 0, 0, 0, 0, 0, 0, 0, 0, 0, 0])) = [50462977, 0, 0, 0, 25769803776, 0, 0, 0, 0, 0, 0, 0, 0, 0, 0, 0, 9223372036854775808, 0, 0, 0, 0, 0, 0, 0, 0] by decide +kernel, vote_one_p]
  decide +kernel
theorem vote_other_p : perm [50397441, 0, 0, 0, 25769803776, 0, 0, 0, 0, 0, 0, 0, 0, 0, 0, 0, 9223372036854775808, 0, 0, 0, 0, 0, 0, 0, 0] = [10278817104298907784, 14134970630840752888, 17363985685164303104, 18389485117995911768, 16872467568207025606, 9880550185199613785, 8702172063674108429, 13316258402160285168, 10236985223849689404, 5860379226928172647, 15829787594177647871, 6462967174338455390, 18021331280727149677, 15916898099768558152, 3679637874036185435, 12387242279299914377, 4235371239492183536, 5733416220640983090, 9353649997158515924, 3421662946199531572, 13558299609658487161, 9262926056336788377, 191223070837001956, 5369682799525405547, 5690039844963607325] := by
  rw [← permF_eq]; decide +kernel
theorem vote_other : sum [1, 1, 1, 3, 0, 0, 0, 0, 0, 0, 0, 0, 0, 0, 0, 0, 0, 0, 0, 0, 0, 0, 0, 0, 0, 0, 0, 0, 0, 0, 0, 0, 0, 0, 0, 0] = [136, 24, 242, 100, 178, 177, 165, 142, 248, 154, 215, 1, 230, 128, 41, 196, 0, 163, 47, 121, 251, 68, 249, 240, 88, 138, 122, 124, 72, 147, 52, 255] := by
  unfold sum takes
  rw [show mixin (stateOf [1, 1, 1, 3, 0, 0, 0, 0, 0, 0, 0, 0, 0, 0, 0, 0, 0, 0, 0, 0, 0, 0, 0, 0, 0, 0, 0, 0, 0, 0, 0, 0, 0, 0, 0, 0]) (lastBlock (restOf [1, 1, 1, 3, 0, 0, 0, 0, 0, 0, 0, 0, 0, 0, 0, 0, 0, 0, 0, 0, 0, 0, 0, 0, 0, 0, 0, 0, 0, 0, 0, 0, 0, 0, 0, 0])) = [50397441, 0, 0, 0, 25769803776, 0, 0, 0, 0, 0, 0, 0, 0, 0, 0, 0, 9223372036854775808, 0, 0, 0, 0, 0, 0, 0, 0] by decide +kernel, vote_other_p]
  decide +kernel
end Go.Kec
namespace Go.Proofs.YtcbfnflnokoacaaGreat
set_option maxRecDepth 100000
set_option maxHeartbeats 4000000
open Go Go.RowKit Go.Own Go.Shelf
def one (s t : Int) (g : Nat) : Att := ⟨1, s, t, zhash, g⟩
def blk1 (r : UInt8) (g : Nat) : Pro := ⟨1, 300, r :: List.replicate 31 0, g⟩
def chPar : Par := ⟨100, 100, 10, 8, 7, 8, 20, 50000000, 3, 50, 100000000⟩
theorem chPar_ok : chPar.Ok := by constructor <;> exact ⟨by decide, by decide⟩
theorem one_r (s t : Int) (g : Nat) : (one s t g).r.length = 32 := rfl
theorem blk1_r (r : UInt8) (g : Nat) : (blk1 r g).r.length = 32 := rfl
theorem i64b_0 : i64b 0 := by decide
theorem i64b_1 : i64b 1 := by decide
theorem i64b_3 : i64b 3 := by decide
theorem i64b_8 : i64b 8 := by decide
theorem i64b_300 : i64b 300 := by decide
theorem u64_0 : 0 < 2 ^ 64 := by decide
theorem attZ_ok : msgZ.a.Ok := ⟨i64b_0, i64b_0, i64b_0, rfl, u64_0⟩
theorem proZ_ok : msgZ.p.Ok := ⟨i64b_0, i64b_0, rfl, u64_0⟩
theorem one_Ok {s t : Int} {g : Nat} (hs : i64b s) (ht : i64b t) (hg : g < 2 ^ 64) : (one s t g).Ok := ⟨i64b_1, hs, ht, rfl, hg⟩
theorem blk1_Ok (r : UInt8) {g : Nat} (hg : g < 2 ^ 64) : (blk1 r g).Ok := ⟨i64b_1, i64b_300, rfl, hg⟩
theorem dig23 : (one 2 3 5).dig = Kec.sum [1, 1, 2, 3, 0, 0, 0, 0, 0, 0, 0, 0, 0, 0, 0, 0, 0, 0, 0, 0, 0, 0, 0, 0, 0, 0, 0, 0, 0, 0, 0, 0, 0, 0, 0, 0] := congrArg Kec.sum (show (one 2 3 5).bare = _ by kernel_rfl)
theorem dig13 : (one 1 3 6).dig = Kec.sum [1, 1, 1, 3, 0, 0, 0, 0, 0, 0, 0, 0, 0, 0, 0, 0, 0, 0, 0, 0, 0, 0, 0, 0, 0, 0, 0, 0, 0, 0, 0, 0, 0, 0, 0, 0] := congrArg Kec.sum (show (one 1 3 6).bare = _ by kernel_rfl)
theorem digs23 : ¬ (one 2 3 5).dig = (one 1 3 6).dig := by rw [dig23, dig13, Kec.vote_one, Kec.vote_other]; decide
theorem doub_ab : doub (one 2 3 5) (one 1 3 6) = true := decide_eq_true ⟨by decide, by decide, rfl, rfl, digs23⟩
theorem doub_aw : doub (one 2 3 5) (one 1 4 7) = false := decide_eq_false fun h => absurd h.2.2.2.1 (by decide)
theorem proves_ab : proves (one 2 3 5) (one 1 3 6) = (evMs 1 (one 2 3 5) (one 1 3 6), true) := by rw [proves, doub_ab]; rfl
theorem proves_aw : proves (one 2 3 5) (one 1 4 7) = (evMs 2 (one 1 4 7) (one 2 3 5), true) := by
  rw [proves, doub_aw, show surr (one 2 3 5) (one 1 4 7) = false by decide, show surr (one 1 4 7) (one 2 3 5) = true by decide]; rfl
theorem evMs_Ok {pf : Int} {a b : Att} (hp : i64b pf) (ha : a.Ok) (hb : b.Ok) : (evMs pf a b).Ok := ⟨i64b_8, i64b_0, i64b_0, i64b_0, u64_0, u64_0, i64b_0, i64b_0, i64b_0, i64b_0, i64b_0, hp, ha, hb, proZ_ok, proZ_ok⟩
theorem evP_Ok {p q : Pro} (ha : p.Ok) (hb : q.Ok) : (evP p q).Ok := ⟨i64b_8, i64b_0, i64b_0, i64b_0, u64_0, u64_0, i64b_0, i64b_0, i64b_0, i64b_0, i64b_0, i64b_3, attZ_ok, attZ_ok, ha, hb⟩
theorem a_Ok : (one 2 3 5).Ok := one_Ok (by decide) (by decide) (by decide)
theorem b_Ok : (one 1 3 6).Ok := one_Ok (by decide) (by decide) (by decide)
theorem w_Ok : (one 1 4 7).Ok := one_Ok (by decide) (by decide) (by decide)
def exD : Msg := evMs 1 (one 2 3 5) (one 1 3 6)
def exW : Msg := evMs 2 (one 1 4 7) (one 2 3 5)
theorem exD_Ok : exD.Ok := evMs_Ok (by decide) a_Ok b_Ok
theorem exW_Ok : exW.Ok := evMs_Ok (by decide) w_Ok a_Ok
theorem chP_check : chPar.check = (0, 0) := by decide +kernel
theorem exD_chk : exD.chk = 0 := by kernel_rfl
theorem exW_chk : exW.chk = 0 := by kernel_rfl
theorem exD_evi : exD.evi = 0 := by rw [Msg.evi, exD_chk]; rfl
theorem exW_evi : exW.evi = 0 := by rw [Msg.evi, exW_chk]; rfl
theorem exD_cla : exD.cla = true := by show (if (1 : Int) = 1 then doub (one 2 3 5) (one 1 3 6) else _) = true; rw [if_pos rfl, doub_ab]
theorem exW_cla : exW.cla = true := by show (if (2 : Int) = 1 then _ else if (2 : Int) = 2 then surr (one 1 4 7) (one 2 3 5) else _) = true; rw [if_neg (by decide), if_pos rfl]; decide
theorem offE_of {p : Par} {m : Msg} (h1 : p.check.1 = 0) (h2 : m.evi = 0) (h3 : m.cla = true) : offE p m = 0 := by rw [offE, h1, h2, h3]; rfl
theorem exD_off : offe chPar exD = (⟨1, 1, 31⟩, 0) := by
  rw [offe, if_pos (offE_of (by rw [chP_check]) exD_evi exD_cla), show hgt chPar exD = (31, 0) by decide +kernel]; rfl
theorem exW_off : offe chPar exW = (⟨1, 1, 41⟩, 0) := by
  rw [offe, if_pos (offE_of (by rw [chP_check]) exW_evi exW_cla), show hgt chPar exW = (41, 0) by decide +kernel]; rfl
theorem exD_sg : sgnd [] exD = 15 := by rw [sgnd, exD_evi]; rfl
theorem off_guard : Tryz.prog.eqGuardType Tryz.prog.depth 49 = false := by kernel_rfl
theorem off_equal (a b : Off) (w : World) : (Op.equalIn 10000 49 (.agg a.cs) (.agg b.cs)).run Tryz.prog w = .ok (decide (a = b)) w := by
  rw [run_equalIn_struct w 9999 49 _ _ (by kernel_rfl) (by kernel_rfl)]
  simp only [Program.fieldsOf, Tryz.underlying49]
  rw [eqF_int (d := 9998) (k := .i64) (a := a.v) (b := b.v) w (by decide) Tryz.underlying3 (by kernel_rfl) rfl rfl, eqF_int (d := 9998) (k := .i64) (a := a.c) (b := b.c) w (by decide) Tryz.underlying3 (by kernel_rfl) rfl rfl, eqF_int (d := 9998) (k := .i64) (a := a.h) (b := b.h) w (by decide) Tryz.underlying3 (by kernel_rfl) rfl rfl]
  simp only [Op.eqFields, Sem.run_pure]
  obtain ⟨v, c, h⟩ := a
  obtain ⟨v', c', h'⟩ := b
  simp only [Off.mk.injEq]
  by_cases h1 : v = v' <;> by_cases h2 : c = c' <;> by_cases h3 : h = h' <;> simp [h1, h2, h3]
theorem off_eq (a b : Off) (w : World) : (binOp .eql 49 (.agg a.cs) (.agg b.cs)).run Tryz.prog w = .ok (.bool (decide (a = b))) w := by rw [run_eql_struct, off_equal a b]; rfl
theorem off_ne (a b : Off) (w : World) : (binOp .neq 49 (.agg a.cs) (.agg b.cs)).run Tryz.prog w = .ok (.bool (!decide (a = b))) w := by rw [run_neq_struct, off_equal a b]; rfl
theorem eProve_is {a b : Att} {m : Msg} {r : Bool} (w : World) (ha : a.Ok) (hb : b.Ok) (h : proves a b = (m, r)) : Calls Tryz.prog 12 #[.agg (Att.c a), .agg (Att.c b)] w fun e w' => e = .returned (.tuple #[.agg (Msg.c m), .bool r]) ∧ Keeps Nob w w' := by
  have := eProve_ok a b w ha hb; rw [h] at this; exact this
theorem eOffence_is {p : Par} {m : Msg} {o : Off} {x : Int} (w : World) (hp : p.Ok) (ho : m.Ok) (h : offe p m = (o, x)) : Calls Tryz.prog 18 #[.agg p.cells, .agg (Msg.c m)] w fun e w' => e = .returned (.tuple #[.agg o.cs, .int .i64 x]) ∧ Keeps Nob w w' := by
  have := eOffence_ok p m w hp ho; rw [h] at this; exact this
theorem eSigned_nil {m : Msg} {x : Int} (w : World) (ho : m.Ok) (h : sgnd [] m = x) : Calls Tryz.prog 22 #[.slice none 0 0, .agg (Msg.c m)] w fun e w' => e = .returned (.int .i64 x) ∧ Keeps Nob w w' := by
  subst h; exact eSigned_ok none 0 [] m w ho (Sl.nil _ _ _) (fun y hy => by cases hy)
noncomputable def qc80_4 (n : Nat) : Code := partOf Tryz.f25 n
theorem leone_ok (s t : Int) (g : Nat) (w : World) :
    Calls Tryz.prog 25 #[.int .i64 s, .int .i64 t, .int .u64 ((g : Nat) : Int)] w (fun e w' => e = .returned (.agg (Att.c (one s t g))) ∧ Keeps Nob w w') := by
  have K0 : Keeps Nob w w := Keeps.refl _ _
  refine sy_enter (qc80_4 1) ⟨#[.int .i64 s, .int .i64 t, uN g, ud, ud, ud, ud, ud, ud, ud, ud], []⟩ Tryz.func25 (by kernel_rfl) (by kernel_rfl) <| sy_sq (qc80_4 2) (qc80_4 3) <| sy_reg <| rg_q 0 [0] ?_
  obtain ⟨V1, eV1, gr, egr, h2, kV1⟩ := alloc_step w (#[.int .i64 0, .int .i64 0, .int .i64 0, .int .u8 0, .int .u8 0, .int .u8 0, .int .u8 0, .int .u8 0, .int .u8 0, .int .u8 0, .int .u8 0, .int .u8 0, .int .u8 0, .int .u8 0, .int .u8 0, .int .u8 0, .int .u8 0, .int .u8 0, .int .u8 0, .int .u8 0, .int .u8 0, .int .u8 0, .int .u8 0, .int .u8 0, .int .u8 0, .int .u8 0, .int .u8 0, .int .u8 0, .int .u8 0, .int .u8 0, .int .u8 0, .int .u8 0, .int .u8 0, .int .u8 0, .int .u8 0, .int .u64 0]) 26
  have n3 : w.heap.size ≤ gr := egr ▸ K0.size
  refine prq (pT gr 0) (w' := V1) (by rw [← eV1, ← egr]; exact exec_alloc0 26 (by kernel_rfl) (.agg (#[.int .i64 0, .int .i64 0, .int .i64 0, .int .u8 0, .int .u8 0, .int .u8 0, .int .u8 0, .int .u8 0, .int .u8 0, .int .u8 0, .int .u8 0, .int .u8 0, .int .u8 0, .int .u8 0, .int .u8 0, .int .u8 0, .int .u8 0, .int .u8 0, .int .u8 0, .int .u8 0, .int .u8 0, .int .u8 0, .int .u8 0, .int .u8 0, .int .u8 0, .int .u8 0, .int .u8 0, .int .u8 0, .int .u8 0, .int .u8 0, .int .u8 0, .int .u8 0, .int .u8 0, .int .u8 0, .int .u8 0, .int .u64 0])) (by kernel_rfl)) ?_
  clear eV1
  have K4 := K0.nn kV1
  have z5 := kV1.size
  refine ps_end <| then_n <| sy_sq (qc80_4 6) (qc80_4 7) <| sy_reg <| rg_q 1 [0, 1, 2, 3, 4] <| pkq (.int .i64 s) <| pkq (.int .i64 t) <| pkq (uN g) <| pkq (.agg (Att.c (one s t g))) ?_
  obtain ⟨V6, eV6, kV6⟩ := rowset_step V1 gr ((Att.c (one s t g)))
  have h7 : V6.heap[gr]? = some (.cells (Att.c (one s t g)) 26 (0, 0)) := eV6 ▸ setRow_heap _ _ _ _ _ _ h2
  refine pzq (w' := V6) (by rw [← eV6]; exact exec_store_row 26 (.tmp 6) (.tmp 10) (by kernel_rfl) gr ((Att.c (one s t g))) (by kernel_rfl) (by kernel_rfl) 26 (#[.int .i64 0, .int .i64 0, .int .i64 0, .int .u8 0, .int .u8 0, .int .u8 0, .int .u8 0, .int .u8 0, .int .u8 0, .int .u8 0, .int .u8 0, .int .u8 0, .int .u8 0, .int .u8 0, .int .u8 0, .int .u8 0, .int .u8 0, .int .u8 0, .int .u8 0, .int .u8 0, .int .u8 0, .int .u8 0, .int .u8 0, .int .u8 0, .int .u8 0, .int .u8 0, .int .u8 0, .int .u8 0, .int .u8 0, .int .u8 0, .int .u8 0, .int .u8 0, .int .u8 0, .int .u8 0, .int .u8 0, .int .u64 0]) h2 (by kernel_rfl) (by kernel_rfl) (Att.c_one _)) ?_
  clear eV6
  have K8 := K4.no kV6 (by omega)
  have z9 := kV6.size
  refine ps_end <| then_n <| sy_ret (by kernel_rfl) <| sy_out (.agg (Att.c (one s t g))) rfl (results_cell_row (p := 6) (ty := 26) (by kernel_rfl) _ _ gr 26 (Att.c (one s t g)) (0, 0) _ (by kernel_rfl) h7 Tryz.underlying26 rfl (by rw [Att.c_size _ (one_r s t g)]; kernel_rfl)) ?_
  exact ⟨rfl, K8⟩
noncomputable def qc80_2 (n : Nat) : Code := partOf Tryz.f26 n
theorem leblock_ok (r : UInt8) (g : Nat) (w : World) :
    Calls Tryz.prog 26 #[.int .u8 ((r.toNat : Nat) : Int), .int .u64 ((g : Nat) : Int)] w (fun e w' => e = .returned (.agg (Pro.c (blk1 r g))) ∧ Keeps Nob w w') := by
  have K0 : Keeps Nob w w := Keeps.refl _ _
  refine sy_enter (qc80_2 1) ⟨#[cN r.toNat, uN g, ud, ud, ud, ud, ud, ud, ud], []⟩ Tryz.func26 (by kernel_rfl) (by kernel_rfl) <| sy_sq (qc80_2 2) (qc80_2 3) <| sy_reg <| rg_q 0 [0] ?_
  obtain ⟨V1, eV1, gr, egr, h2, kV1⟩ := alloc_step w (#[.int .i64 0, .int .i64 0, .int .u8 0, .int .u8 0, .int .u8 0, .int .u8 0, .int .u8 0, .int .u8 0, .int .u8 0, .int .u8 0, .int .u8 0, .int .u8 0, .int .u8 0, .int .u8 0, .int .u8 0, .int .u8 0, .int .u8 0, .int .u8 0, .int .u8 0, .int .u8 0, .int .u8 0, .int .u8 0, .int .u8 0, .int .u8 0, .int .u8 0, .int .u8 0, .int .u8 0, .int .u8 0, .int .u8 0, .int .u8 0, .int .u8 0, .int .u8 0, .int .u8 0, .int .u8 0, .int .u64 0]) 28
  have n3 : w.heap.size ≤ gr := egr ▸ K0.size
  refine prq (pT gr 0) (w' := V1) (by rw [← eV1, ← egr]; exact exec_alloc0 28 (by kernel_rfl) (.agg (#[.int .i64 0, .int .i64 0, .int .u8 0, .int .u8 0, .int .u8 0, .int .u8 0, .int .u8 0, .int .u8 0, .int .u8 0, .int .u8 0, .int .u8 0, .int .u8 0, .int .u8 0, .int .u8 0, .int .u8 0, .int .u8 0, .int .u8 0, .int .u8 0, .int .u8 0, .int .u8 0, .int .u8 0, .int .u8 0, .int .u8 0, .int .u8 0, .int .u8 0, .int .u8 0, .int .u8 0, .int .u8 0, .int .u8 0, .int .u8 0, .int .u8 0, .int .u8 0, .int .u8 0, .int .u8 0, .int .u64 0])) (by kernel_rfl)) ?_
  clear eV1
  have K4 := K0.nn kV1
  have z5 := kV1.size
  refine ps_end <| then_n <| sy_sq (qc80_2 6) (qc80_2 7) <| sy_reg <| rg_q 1 [0, 1, 2, 3, 4] <| pkq (cN r.toNat) <| pkq (.agg (B (r :: List.replicate 31 0)).toArray) <| pkq (uN g) <| pkq (.agg (Pro.c (blk1 r g))) ?_
  obtain ⟨V6, eV6, kV6⟩ := rowset_step V1 gr ((Pro.c (blk1 r g)))
  have h7 : V6.heap[gr]? = some (.cells (Pro.c (blk1 r g)) 28 (0, 0)) := eV6 ▸ setRow_heap _ _ _ _ _ _ h2
  refine pzq (w' := V6) (by rw [← eV6]; exact exec_store_row 28 (.tmp 4) (.tmp 8) (by kernel_rfl) gr ((Pro.c (blk1 r g))) (by kernel_rfl) (by kernel_rfl) 28 (#[.int .i64 0, .int .i64 0, .int .u8 0, .int .u8 0, .int .u8 0, .int .u8 0, .int .u8 0, .int .u8 0, .int .u8 0, .int .u8 0, .int .u8 0, .int .u8 0, .int .u8 0, .int .u8 0, .int .u8 0, .int .u8 0, .int .u8 0, .int .u8 0, .int .u8 0, .int .u8 0, .int .u8 0, .int .u8 0, .int .u8 0, .int .u8 0, .int .u8 0, .int .u8 0, .int .u8 0, .int .u8 0, .int .u8 0, .int .u8 0, .int .u8 0, .int .u8 0, .int .u8 0, .int .u8 0, .int .u64 0]) h2 (by kernel_rfl) (by kernel_rfl) (Pro.c_one _)) ?_
  clear eV6
  have K8 := K4.no kV6 (by omega)
  have z9 := kV6.size
  refine ps_end <| then_n <| sy_ret (by kernel_rfl) <| sy_out (.agg (Pro.c (blk1 r g))) rfl (results_cell_row (p := 4) (ty := 28) (by kernel_rfl) _ _ gr 28 (Pro.c (blk1 r g)) (0, 0) _ (by kernel_rfl) h7 Tryz.underlying28 rfl (by rw [Pro.c_size _ (blk1_r r g)]; kernel_rfl)) ?_
  exact ⟨rfl, K8⟩
noncomputable def qc80_1 (n : Nat) : Code := partOf Tryz.f30 n
theorem lechapter_ok (w : World) :
    Calls Tryz.prog 30 #[] w (fun e w' => e = .returned (.agg chPar.cells) ∧ Keeps Nob w w') := by
  have K0 : Keeps Nob w w := Keeps.refl _ _
  refine sy_enter (qc80_1 1) ⟨#[ud, ud], []⟩ Tryz.func30 (by kernel_rfl) (by kernel_rfl) <| sy_sq (qc80_1 2) (qc80_1 3) <| sy_reg <| rg_q 0 [0] ?_
  obtain ⟨V1, eV1, gr, egr, h2, kV1⟩ := alloc_step w (#[.int .i64 0, .int .i64 0, .int .i64 0, .int .i64 0, .int .i64 0, .int .i64 0, .int .i64 0, .int .u64 0, .int .u64 0, .int .i64 0, .int .u64 0]) 45
  have n3 : w.heap.size ≤ gr := egr ▸ K0.size
  refine prq (pT gr 0) (w' := V1) (by rw [← eV1, ← egr]; exact exec_alloc0 45 (by kernel_rfl) (.agg (#[.int .i64 0, .int .i64 0, .int .i64 0, .int .i64 0, .int .i64 0, .int .i64 0, .int .i64 0, .int .u64 0, .int .u64 0, .int .i64 0, .int .u64 0])) (by kernel_rfl)) ?_
  clear eV1
  have K4 := K0.nn kV1
  have z5 := kV1.size
  refine ps_end <| then_n <| sy_sq (qc80_1 6) (qc80_1 7) <| sy_reg <| rg_q 1 [0, 1] <| pkq (.agg chPar.cells) ?_
  obtain ⟨V6, eV6, kV6⟩ := rowset_step V1 gr chPar.cells
  have h7 : V6.heap[gr]? = some (.cells chPar.cells 45 (0, 0)) := eV6 ▸ setRow_heap _ _ _ _ _ _ h2
  refine pzq (w' := V6) (by rw [← eV6]; exact exec_store_row 45 (.tmp 0) (.tmp 1) (by kernel_rfl) gr chPar.cells (by kernel_rfl) (by kernel_rfl) 45 (#[.int .i64 0, .int .i64 0, .int .i64 0, .int .i64 0, .int .i64 0, .int .i64 0, .int .i64 0, .int .u64 0, .int .u64 0, .int .i64 0, .int .u64 0]) h2 (by kernel_rfl) (by kernel_rfl) (by kernel_rfl)) ?_
  clear eV6
  have K8 := K4.no kV6 (by omega)
  have z9 := kV6.size
  refine ps_end <| then_n <| sy_ret (by kernel_rfl) <| sy_out (.agg chPar.cells) rfl (results_cell_row (p := 0) (ty := 45) (by kernel_rfl) _ _ gr 45 chPar.cells (0, 0) _ (by kernel_rfl) h7 Tryz.underlying45 rfl (by kernel_rfl)) ?_
  exact ⟨rfl, K8⟩
noncomputable def qc80_5 (n : Nat) : Code := partOf Tryz.f28 n
theorem leis_ok (m : Msg) (c h : Int) (w : World) (ho : m.Ok) (hoff : offe chPar m = (⟨1, c, h⟩, 0)) :
    Calls Tryz.prog 28 #[.agg (Msg.c m), .int .i64 c, .int .i64 h] w (fun e w' => e = .returned (.bool true) ∧ Keeps Nob w w') := by
  have hr := ho.R
  have K0 : Keeps Nob w w := Keeps.refl _ _
  refine sy_enter (qc80_5 1) ⟨#[.agg (Msg.c m), .int .i64 c, .int .i64 h, ud, ud, ud, ud, ud, ud, ud, ud, ud, ud, ud, ud, ud, ud, ud, ud, ud, ud, ud, ud, ud], []⟩ Tryz.func28 (by kernel_rfl) (by kernel_rfl) <| sy_sq (qc80_5 2) (qc80_5 3) <| sy_reg <| rg_q 0 [0, 1] ?_
  obtain ⟨V1, eV1, gm, egm, h2, kV1⟩ := alloc_step w ((Msg.c m)) 38
  have n3 : w.heap.size ≤ gm := egm ▸ K0.size
  refine prq (pT gm 0) (w' := V1) (by rw [← eV1, ← egm]; exact exec_box 38 (.tmp 0) (by kernel_rfl) (.agg (Msg.c m)) (by kernel_rfl)) ?_
  clear eV1
  have K4 := K0.nn kV1
  have z5 := kV1.size
  refine pkq (.bool false) <| ps_end <| then_n <| sy_sq (qc80_5 6) (qc80_5 7) ?_
  refine sy_cut (fun aQ VQ => ∃ (go : Nat), (aQ = ⟨#[.agg (Msg.c m), .int .i64 c, .int .i64 h, .pointer (some ⟨gm, 0, none⟩), ud, ud, .bool false, .pointer (some ⟨go, 0, none⟩), .int .i64 0, .tuple #[.agg (Off.cs ⟨1, c, h⟩), .int .i64 0], .agg chPar.cells, .agg (Msg.c m), .tuple #[.agg (Off.cs ⟨1, c, h⟩), .int .i64 0], .agg (Off.cs ⟨1, c, h⟩), .int .i64 0, ud, ud, ud, ud, ud, ud, ud, ud, ud], []⟩) ∧ (VQ.heap[gm]? = some (.cells (Msg.c m) 38 (0, 0))) ∧ (VQ.heap[go]? = some (.cells (Off.cs (⟨1, c, h⟩)) 49 (0, 0))) ∧ (go ≠ gm ∧ w.heap.size ≤ go ∧ V1.heap.size ≤ go) ∧ (Keeps Nob w VQ)) ?_ ?_
  · refine sy_np <| sy_reg <| an_begin 1 9 (opsAt (qc80_5 6)) (fun W => (W.heap[gm]? = some (.cells (Msg.c m) 38 (0, 0)))) #[false, false, false, false, false, false, false, false, false] (by kernel_rfl) (by kernel_rfl) (by kernel_rfl) (by kernel_rfl) ?_
    obtain ⟨V6, eV6, kV6⟩ := drew_step V1
    rw [eV6]
    clear eV6
    have h7 := kV6.bk h2
    have K8 := K4.nn kV6
    have z9 := kV6.size
    refine avq 1 (.agg (Msg.c m)) (fun W hS => exec_load_row 38 (.tmp 3) (by kernel_rfl) gm (by kernel_rfl) _ _ (0, 0) _ (hS) Tryz.underlying38 rfl (by rw [Msg.c_size hr]; kernel_rfl)) h7 ?_
    refine an_two 0 6 (by kernel_rfl) ?_ ?_
    · refine ncq 30 #[] Tryz.func30 ((lechapter_ok _).mono ?_)
      rintro e V10 ⟨rfl, kV10⟩
      refine ⟨_, rfl, ?_⟩
      have h11 := kV10.bk h7
      have K12 := K8.nn kV10
      have z13 := kV10.size
      refine ⟨h11, ?_⟩
      refine an_two 2 6 (by kernel_rfl) ?_ ?_
      · refine ncq 18 #[.agg chPar.cells, .agg (Msg.c m)] Tryz.func18 ((eOffence_is _ chPar_ok ho hoff).mono ?_)
        rintro e V14 ⟨rfl, kV14⟩
        refine ⟨_, rfl, ?_⟩
        have h15 := kV14.bk h11
        have K16 := K12.nn kV14
        have z17 := kV14.size
        refine ⟨h15, ?_⟩
        refine akq 3 (.tuple #[.agg (Off.cs ⟨1, c, h⟩), .int .i64 0]) h15 <| akq 4 (.agg (Off.cs ⟨1, c, h⟩)) h15 <| akq 5 (.int .i64 0) h15 <| an_o 6 ?_
        obtain ⟨V18, eV18, go, ego, h19, kV18⟩ := alloc_step V14 (#[.int .i64 0, .int .i64 0, .int .i64 0]) 49
        have n20 : gm < go := ego ▸ lt_of_block h15
        have n21 : w.heap.size ≤ go := ego ▸ K16.size
        refine nrq (pT go 0) (w' := V18) (by rw [← eV18, ← ego]; exact exec_alloc0 49 (by kernel_rfl) (.agg (#[.int .i64 0, .int .i64 0, .int .i64 0])) (by kernel_rfl)) ?_
        clear eV18
        have h22 := kV18.bk h15
        have K23 := K16.nn kV18
        have z24 := kV18.size
        refine ⟨h22, ?_⟩
        refine an_o 7 ?_
        obtain ⟨V25, eV25, kV25⟩ := rowset_step V18 go ((Off.cs ⟨1, c, h⟩))
        have h26 : V25.heap[go]? = some (.cells (Off.cs (⟨1, c, h⟩)) 49 (0, 0)) := eV25 ▸ setRow_heap _ _ _ _ _ _ h19
        refine nzq (w' := V25) (by rw [← eV25]; exact exec_store_row 49 (.tmp 7) (.tmp 13) (by kernel_rfl) go ((Off.cs ⟨1, c, h⟩)) (by kernel_rfl) (by kernel_rfl) 49 (#[.int .i64 0, .int .i64 0, .int .i64 0]) h19 (by kernel_rfl) rfl (by kernel_rfl)) ?_
        clear eV25
        have h27 := kV25.bo h22 (by omega)
        have K28 := K23.no kV25 (by omega)
        have z29 := kV25.size
        refine ⟨h27, ?_⟩
        refine an_o 8 <| nrq (.int .i64 0) (w' := V25) (by kernel_rfl) ?_
        refine ⟨h27, ?_⟩
        refine an_end (by kernel_rfl) ?_
        exact ⟨rfl, go, by kernel_rfl, h27, h26, by omega, K28⟩
      · obtain ⟨V30, eV30, go, ego, h31, kV30⟩ := alloc_step V10 (#[.int .i64 0, .int .i64 0, .int .i64 0]) 49
        have n32 : gm < go := ego ▸ lt_of_block h11
        have n33 : w.heap.size ≤ go := ego ▸ K12.size
        refine nrq (pT go 0) (w' := V30) (by rw [← eV30, ← ego]; exact exec_alloc0 49 (by kernel_rfl) (.agg (#[.int .i64 0, .int .i64 0, .int .i64 0])) (by kernel_rfl)) ?_
        clear eV30
        have h34 := kV30.bk h11
        have K35 := K12.nn kV30
        have z36 := kV30.size
        refine ⟨h34, ?_⟩
        refine an_o 2 ?_
        refine ncq 18 #[.agg chPar.cells, .agg (Msg.c m)] Tryz.func18 ((eOffence_is _ chPar_ok ho hoff).mono ?_)
        rintro e V37 ⟨rfl, kV37⟩
        refine ⟨_, rfl, ?_⟩
        have h38 := kV37.bk h34
        have h39 := kV37.bk h31
        have K40 := K35.nn kV37
        have z41 := kV37.size
        refine ⟨h38, ?_⟩
        refine akq 3 (.tuple #[.agg (Off.cs ⟨1, c, h⟩), .int .i64 0]) h38 <| akq 4 (.agg (Off.cs ⟨1, c, h⟩)) h38 <| akq 5 (.int .i64 0) h38 <| an_o 7 ?_
        obtain ⟨V42, eV42, kV42⟩ := rowset_step V37 go ((Off.cs ⟨1, c, h⟩))
        have h43 : V42.heap[go]? = some (.cells (Off.cs (⟨1, c, h⟩)) 49 (0, 0)) := eV42 ▸ setRow_heap _ _ _ _ _ _ h39
        refine nzq (w' := V42) (by rw [← eV42]; exact exec_store_row 49 (.tmp 7) (.tmp 13) (by kernel_rfl) go ((Off.cs ⟨1, c, h⟩)) (by kernel_rfl) (by kernel_rfl) 49 (#[.int .i64 0, .int .i64 0, .int .i64 0]) h39 (by kernel_rfl) rfl (by kernel_rfl)) ?_
        clear eV42
        have h44 := kV42.bo h38 (by omega)
        have K45 := K40.no kV42 (by omega)
        have z46 := kV42.size
        refine ⟨h44, ?_⟩
        refine an_o 8 <| nrq (.int .i64 0) (w' := V42) (by kernel_rfl) ?_
        refine ⟨h44, ?_⟩
        refine an_end (by kernel_rfl) ?_
        exact ⟨rfl, go, by kernel_rfl, h44, h43, by omega, K45⟩
    · obtain ⟨V47, eV47, go, ego, h48, kV47⟩ := alloc_step V6 (#[.int .i64 0, .int .i64 0, .int .i64 0]) 49
      have n49 : gm < go := ego ▸ lt_of_block h7
      have n50 : w.heap.size ≤ go := ego ▸ K8.size
      refine nrq (pT go 0) (w' := V47) (by rw [← eV47, ← ego]; exact exec_alloc0 49 (by kernel_rfl) (.agg (#[.int .i64 0, .int .i64 0, .int .i64 0])) (by kernel_rfl)) ?_
      clear eV47
      have h51 := kV47.bk h7
      have K52 := K8.nn kV47
      have z53 := kV47.size
      refine ⟨h51, ?_⟩
      refine an_o 0 ?_
      refine ncq 30 #[] Tryz.func30 ((lechapter_ok _).mono ?_)
      rintro e V54 ⟨rfl, kV54⟩
      refine ⟨_, rfl, ?_⟩
      have h55 := kV54.bk h51
      have h56 := kV54.bk h48
      have K57 := K52.nn kV54
      have z58 := kV54.size
      refine ⟨h55, ?_⟩
      refine an_o 2 ?_
      refine ncq 18 #[.agg chPar.cells, .agg (Msg.c m)] Tryz.func18 ((eOffence_is _ chPar_ok ho hoff).mono ?_)
      rintro e V59 ⟨rfl, kV59⟩
      refine ⟨_, rfl, ?_⟩
      have h60 := kV59.bk h55
      have h61 := kV59.bk h56
      have K62 := K57.nn kV59
      have z63 := kV59.size
      refine ⟨h60, ?_⟩
      refine akq 3 (.tuple #[.agg (Off.cs ⟨1, c, h⟩), .int .i64 0]) h60 <| akq 4 (.agg (Off.cs ⟨1, c, h⟩)) h60 <| akq 5 (.int .i64 0) h60 <| an_o 7 ?_
      obtain ⟨V64, eV64, kV64⟩ := rowset_step V59 go ((Off.cs ⟨1, c, h⟩))
      have h65 : V64.heap[go]? = some (.cells (Off.cs (⟨1, c, h⟩)) 49 (0, 0)) := eV64 ▸ setRow_heap _ _ _ _ _ _ h61
      refine nzq (w' := V64) (by rw [← eV64]; exact exec_store_row 49 (.tmp 7) (.tmp 13) (by kernel_rfl) go ((Off.cs ⟨1, c, h⟩)) (by kernel_rfl) (by kernel_rfl) 49 (#[.int .i64 0, .int .i64 0, .int .i64 0]) h61 (by kernel_rfl) rfl (by kernel_rfl)) ?_
      clear eV64
      have h66 := kV64.bo h60 (by omega)
      have K67 := K62.no kV64 (by omega)
      have z68 := kV64.size
      refine ⟨h66, ?_⟩
      refine an_o 8 <| nrq (.int .i64 0) (w' := V64) (by kernel_rfl) ?_
      refine ⟨h66, ?_⟩
      refine an_end (by kernel_rfl) ?_
      exact ⟨rfl, go, by kernel_rfl, h66, h65, by omega, K67⟩
  rintro aQ V69 ⟨go, rfl, h70, h71, hd72, K73⟩
  have z74 := lt_of_block h71
  refine then_n <| sy_sq (qc80_5 14) (qc80_5 15) <| sy_reg <| rg_q 2 [0, 1, 2, 3, 4, 5, 6, 7, 8, 9] <| pkq (.int .i64 0) <| pkq (.bool true) <| pkq (.bool true) <| ppq (.agg (Off.cs (⟨1, c, h⟩))) (exec_load_row 49 (.tmp 7) (by kernel_rfl) go (by kernel_rfl) _ _ (0, 0) _ (h71) Tryz.underlying49 rfl (by kernel_rfl)) <| pkq (.int .i64 c) <| pkq (.int .i64 h) <| pkq (.agg (Off.cs ⟨1, c, h⟩)) <| ppq (.bool true) (exec_cast (congrArg Value.bool (by simp)) (exec_binop .eql 49 49 (.tmp 18) (.tmp 21) (by kernel_rfl) (.agg (Off.cs ⟨1, c, h⟩)) (.agg (Off.cs ⟨1, c, h⟩)) _ (by kernel_rfl) (by kernel_rfl) (run_eqGuard_agg _ _ _ _ _ _ _ off_guard) (off_eq _ _ _))) <| pkq (.bool true) <| pkq (.bool true) ?_
  refine ps_end <| then_n <| sy_ret (by kernel_rfl) <| sy_out (.bool true) rfl (by kernel_rfl) ?_
  exact ⟨rfl, K73⟩
noncomputable def qc80_0 (n : Nat) : Code := partOf Tryz.f29 n
theorem lerefused_ok (p : Par) (m : Msg) (x : Int) (w : World) (hp : p.Ok) (ho : m.Ok) (hoff : offe p m = (offZ, x)) :
    Calls Tryz.prog 29 #[.agg p.cells, .agg (Msg.c m)] w (fun e w' => e = .returned (.int .i64 x) ∧ Keeps Nob w w') := by
  have hr := ho.R
  have K0 : Keeps Nob w w := Keeps.refl _ _
  refine sy_enter (qc80_0 1) ⟨#[.agg p.cells, .agg (Msg.c m), ud, ud, ud, ud, ud, ud, ud, ud, ud, ud, ud, ud, ud, ud, ud], []⟩ Tryz.func29 (by kernel_rfl) (by kernel_rfl) <| sy_sq (qc80_0 2) (qc80_0 3) <| sy_reg <| rg_q 0 [0, 1, 2] ?_
  obtain ⟨V1, eV1, gp, egp, h2, kV1⟩ := alloc_step w p.cells 45
  have n3 : w.heap.size ≤ gp := egp ▸ K0.size
  refine prq (pT gp 0) (w' := V1) (by rw [← eV1, ← egp]; exact exec_box 45 (.tmp 0) (by kernel_rfl) (.agg p.cells) (by kernel_rfl)) ?_
  clear eV1
  have K4 := K0.nn kV1
  have z5 := kV1.size
  obtain ⟨V6, eV6, gm, egm, h7, kV6⟩ := alloc_step V1 ((Msg.c m)) 38
  have n8 : gp < gm := egm ▸ lt_of_block h2
  have n9 : w.heap.size ≤ gm := egm ▸ K4.size
  refine prq (pT gm 0) (w' := V6) (by rw [← eV6, ← egm]; exact exec_box 38 (.tmp 1) (by kernel_rfl) (.agg (Msg.c m)) (by kernel_rfl)) ?_
  clear eV6
  have h10 := kV6.bk h2
  have K11 := K4.nn kV6
  have z12 := kV6.size
  refine pkq (.int .i64 0) <| ps_end <| then_n <| sy_sq (qc80_0 6) (qc80_0 7) <| sy_reg <| rg_q 1 [0, 1, 2, 3, 4, 5, 6, 7, 8] <| ppq (.agg (p.cells)) (exec_load_row 45 (.tmp 2) (by kernel_rfl) gp (by kernel_rfl) _ _ (0, 0) _ (h10) Tryz.underlying45 rfl (by kernel_rfl)) <| ppq (.agg (Msg.c m)) (exec_load_row 38 (.tmp 3) (by kernel_rfl) gm (by kernel_rfl) _ _ (0, 0) _ (h7) Tryz.underlying38 rfl (by rw [Msg.c_size hr]; kernel_rfl)) ?_
  refine pcq 18 #[.agg (p.cells), .agg (Msg.c m)] Tryz.func18 ((eOffence_is _ hp ho hoff).mono ?_)
  rintro e V13 ⟨rfl, kV13⟩
  refine ⟨_, rfl, ?_⟩
  have h14 := kV13.bk h10
  have h15 := kV13.bk h7
  have K16 := K11.nn kV13
  have z17 := kV13.size
  refine pkq (.tuple #[.agg (Off.cs offZ), .int .i64 x]) <| pkq (.agg (Off.cs offZ)) <| pkq (.int .i64 x) ?_
  obtain ⟨V18, eV18, go, ego, h19, kV18⟩ := alloc_step V13 (#[.int .i64 0, .int .i64 0, .int .i64 0]) 49
  have n20 : gp < go := ego ▸ lt_of_block h14
  have n21 : gm < go := ego ▸ lt_of_block h15
  have n22 : w.heap.size ≤ go := ego ▸ K16.size
  refine prq (pT go 0) (w' := V18) (by rw [← eV18, ← ego]; exact exec_alloc0 49 (by kernel_rfl) (.agg (#[.int .i64 0, .int .i64 0, .int .i64 0])) (by kernel_rfl)) ?_
  clear eV18
  have K25 := K16.nn kV18
  have z26 := kV18.size
  obtain ⟨V27, eV27, kV27⟩ := rowset_step V18 go ((Off.cs offZ))
  have h28 : V27.heap[go]? = some (.cells (Off.cs offZ) 49 (0, 0)) := eV27 ▸ setRow_heap _ _ _ _ _ _ h19
  refine pzq (w' := V27) (by rw [← eV27]; exact exec_store_row 49 (.tmp 5) (.tmp 11) (by kernel_rfl) go ((Off.cs offZ)) (by kernel_rfl) (by kernel_rfl) 49 (#[.int .i64 0, .int .i64 0, .int .i64 0]) h19 (by kernel_rfl) rfl (by kernel_rfl)) ?_
  clear eV27
  have K31 := K25.no kV27 (by omega)
  have z32 := kV27.size
  refine pkq (.int .i64 x) <| ps_end <| then_n <| sy_sq (qc80_0 14) (qc80_0 15) <| sy_sq (qc80_0 28) (qc80_0 29) <| sy_reg <| rg_q 2 [0, 1, 2] <| ppq (.agg (Off.cs offZ)) (exec_load_row 49 (.tmp 5) (by kernel_rfl) go (by kernel_rfl) _ _ (0, 0) _ (h28) Tryz.underlying49 rfl (by kernel_rfl)) <| pkq (.agg (Off.cs offZ)) <| ppq (.bool false) (exec_cast (congrArg Value.bool (by simp)) (exec_binop .neq 49 49 (.tmp 13) (.tmp 14) (by kernel_rfl) (.agg (Off.cs offZ)) (.agg (Off.cs offZ)) _ (by kernel_rfl) (by kernel_rfl) (run_eqGuard_agg _ _ _ _ _ _ _ off_guard) (off_ne _ _ _))) <| ps_end <| then_n <| sy_n (.tmp 15) (qc80_0 58) (qc80_0 59) <| sy_sk ?_
  refine then_n <| sy_sq (qc80_0 30) (qc80_0 31) <| sy_reg <| rg_q 4 [0, 1] <| pkq (.int .i64 x) <| pkq (.int .i64 x) <| ps_end <| then_n <| sy_ret (by kernel_rfl) <| sy_out (.int .i64 x) rfl (by kernel_rfl) ?_
  exact ⟨rfl, K31⟩
noncomputable def qc80_3 (n : Nat) : Code := partOf Tryz.f16 n
theorem leawake_ok (w : World) :
    Calls Tryz.prog 16 #[] w (fun e w' => e = .returned (.bool true) ∧ Keeps Nob w w') := by
  have K0 : Keeps Nob w w := Keeps.refl _ _
  refine sy_enter (qc80_3 1) ⟨#[ud, ud, ud, ud, ud, ud, ud, ud, ud, ud, ud, ud, ud, ud, ud, ud, ud, ud, ud, ud, ud, ud, ud, ud, ud, ud, ud, ud, ud, ud, ud, ud, ud, ud, ud, ud, ud, ud, ud, ud], []⟩ Tryz.func16 (by kernel_rfl) (by kernel_rfl) <| sy_sq (qc80_3 2) (qc80_3 3) <| sy_reg <| rg_q 0 [0] <| pkq (.bool false) <| ps_end <| then_n <| sy_sq (qc80_3 6) (qc80_3 7) <| sy_reg <| rg_q 1 [0, 1, 2, 3, 4, 5, 6, 7, 8] ?_
  refine pcq 25 #[.int .i64 2, .int .i64 3, .int .u64 5] Tryz.func25 ((leone_ok 2 3 5 _).mono ?_)
  rintro e V1 ⟨rfl, kV1⟩
  refine ⟨_, rfl, ?_⟩
  have K2 := K0.nn kV1
  have z3 := kV1.size
  refine pcq 25 #[.int .i64 1, .int .i64 3, .int .u64 6] Tryz.func25 ((leone_ok 1 3 6 _).mono ?_)
  rintro e V4 ⟨rfl, kV4⟩
  refine ⟨_, rfl, ?_⟩
  have K5 := K2.nn kV4
  have z6 := kV4.size
  refine pcq 12 #[.agg (Att.c (one 2 3 5)), .agg (Att.c (one 1 3 6))] Tryz.func12 ((eProve_is _ a_Ok b_Ok proves_ab).mono ?_)
  rintro e V7 ⟨rfl, kV7⟩
  refine ⟨_, rfl, ?_⟩
  have K8 := K5.nn kV7
  have z9 := kV7.size
  refine pkq (.tuple #[.agg (Msg.c exD), .bool true]) <| pkq (.agg (Msg.c exD)) <| pkq (.bool true) ?_
  obtain ⟨V10, eV10, gd, egd, h11, kV10⟩ := alloc_step V7 ((Msg.c msgZ)) 38
  have n12 : w.heap.size ≤ gd := egd ▸ K8.size
  refine prq (pT gd 0) (w' := V10) (by rw [← eV10, ← egd]; exact exec_alloc0 38 (by kernel_rfl) (.agg ((Msg.c msgZ))) (by kernel_rfl)) ?_
  clear eV10
  have K13 := K8.nn kV10
  have z14 := kV10.size
  obtain ⟨V15, eV15, kV15⟩ := rowset_step V10 gd ((Msg.c exD))
  have h16 : V15.heap[gd]? = some (.cells (Msg.c exD) 38 (0, 0)) := eV15 ▸ setRow_heap _ _ _ _ _ _ h11
  refine pzq (w' := V15) (by rw [← eV15]; exact exec_store_row 38 (.tmp 1) (.tmp 9) (by kernel_rfl) gd ((Msg.c exD)) (by kernel_rfl) (by kernel_rfl) 38 ((Msg.c msgZ)) h11 (by kernel_rfl) (by kernel_rfl) (Msg.c_one _)) ?_
  clear eV15
  have K17 := K13.no kV15 (by omega)
  have z18 := kV15.size
  refine pkq (.bool true) <| ps_end <| then_n <| sy_sq (qc80_3 14) (qc80_3 15) <| sy_reg <| rg_q 2 [0, 1, 2, 3, 4, 5, 6, 7, 8] ?_
  refine pcq 25 #[.int .i64 2, .int .i64 3, .int .u64 5] Tryz.func25 ((leone_ok 2 3 5 _).mono ?_)
  rintro e V19 ⟨rfl, kV19⟩
  refine ⟨_, rfl, ?_⟩
  have h20 := kV19.bk h16
  have K21 := K17.nn kV19
  have z22 := kV19.size
  refine pcq 25 #[.int .i64 1, .int .i64 4, .int .u64 7] Tryz.func25 ((leone_ok 1 4 7 _).mono ?_)
  rintro e V23 ⟨rfl, kV23⟩
  refine ⟨_, rfl, ?_⟩
  have h24 := kV23.bk h20
  have K25 := K21.nn kV23
  have z26 := kV23.size
  refine pcq 12 #[.agg (Att.c (one 2 3 5)), .agg (Att.c (one 1 4 7))] Tryz.func12 ((eProve_is _ a_Ok w_Ok proves_aw).mono ?_)
  rintro e V27 ⟨rfl, kV27⟩
  refine ⟨_, rfl, ?_⟩
  have h28 := kV27.bk h24
  have K29 := K25.nn kV27
  have z30 := kV27.size
  refine pkq (.tuple #[.agg (Msg.c exW), .bool true]) <| pkq (.agg (Msg.c exW)) <| pkq (.bool true) ?_
  obtain ⟨V31, eV31, gw, egw, h32, kV31⟩ := alloc_step V27 ((Msg.c msgZ)) 38
  have n33 : gd < gw := egw ▸ lt_of_block h28
  have n34 : w.heap.size ≤ gw := egw ▸ K29.size
  refine prq (pT gw 0) (w' := V31) (by rw [← eV31, ← egw]; exact exec_alloc0 38 (by kernel_rfl) (.agg ((Msg.c msgZ))) (by kernel_rfl)) ?_
  clear eV31
  have h35 := kV31.bk h28
  have K36 := K29.nn kV31
  have z37 := kV31.size
  obtain ⟨V38, eV38, kV38⟩ := rowset_step V31 gw ((Msg.c exW))
  have h39 : V38.heap[gw]? = some (.cells (Msg.c exW) 38 (0, 0)) := eV38 ▸ setRow_heap _ _ _ _ _ _ h32
  refine pzq (w' := V38) (by rw [← eV38]; exact exec_store_row 38 (.tmp 3) (.tmp 15) (by kernel_rfl) gw ((Msg.c exW)) (by kernel_rfl) (by kernel_rfl) 38 ((Msg.c msgZ)) h32 (by kernel_rfl) (by kernel_rfl) (Msg.c_one _)) ?_
  clear eV38
  have h40 := kV38.bo h35 (by omega)
  have K41 := K36.no kV38 (by omega)
  have z42 := kV38.size
  refine pkq (.bool true) <| ps_end <| then_n <| sy_sq (qc80_3 30) (qc80_3 31) <| sy_np <| sy_reg <| an_begin 3 24 (opsAt (qc80_3 30)) (fun W => (W.heap[gd]? = some (.cells (Msg.c exD) 38 (0, 0))) ∧ (W.heap[gw]? = some (.cells (Msg.c exW) 38 (0, 0)))) #[false, false, false, false, false, false, false, false, false, false, false, false, false, false, false, false, false, false, false, false, false, false, false, false] (by kernel_rfl) (by kernel_rfl) (by kernel_rfl) (by kernel_rfl) ?_
  obtain ⟨V43, eV43, kV43⟩ := drew_step V38
  rw [eV43]
  clear eV43
  have h44 := kV43.bk h40
  have h45 := kV43.bk h39
  have K46 := K41.nn kV43
  have z47 := kV43.size
  refine akq 0 (.bool true) ⟨h44, h45⟩ <| akq 1 (.bool true) ⟨h44, h45⟩ <| akq 2 (.bool true) ⟨h44, h45⟩ <| akq 3 (.bool true) ⟨h44, h45⟩ <| akq 4 (.bool true) ⟨h44, h45⟩ <| akq 5 (pT gw 12) ⟨h44, h45⟩ <| avq 6 (.agg (Att.c (one 1 4 7))) (fun W hS => exec_load_seg 26 (.tmp 22) (by kernel_rfl) gw 12 (by kernel_rfl) (Att.c exW.a).toList _ _ _ hS.2 (Msg.seg_A exW_Ok.R) Tryz.underlying26 rfl (by kernel_rfl)) ⟨h44, h45⟩ <| an_o 7 ?_
  refine ncq 25 #[.int .i64 1, .int .i64 4, .int .u64 7] Tryz.func25 ((leone_ok 1 4 7 _).mono ?_)
  rintro e V48 ⟨rfl, kV48⟩
  refine ⟨_, rfl, ?_⟩
  have h49 := kV48.bk h44
  have h50 := kV48.bk h45
  have K51 := K46.nn kV48
  have z52 := kV48.size
  refine ⟨⟨h49, h50⟩, ?_⟩
  refine avq 8 (.bool true) (fun W hS => exec_cast (congrArg Value.bool (by simp)) (exec_binop .eql 26 26 (.tmp 23) (.tmp 24) (by kernel_rfl) (.agg (Att.c (one 1 4 7))) (.agg (Att.c (one 1 4 7))) _ (by kernel_rfl) (by kernel_rfl) (run_eqGuard_agg _ _ _ _ _ _ _ att_guard) (att_eq (one 1 4 7) (one 1 4 7) rfl rfl _))) ⟨h49, h50⟩ <| akq 9 (.bool true) ⟨h49, h50⟩ <| akq 10 (.bool true) ⟨h49, h50⟩ <| avq 11 (.agg (Msg.c exD)) (fun W hS => exec_load_row 38 (.tmp 1) (by kernel_rfl) gd (by kernel_rfl) _ _ (0, 0) _ (hS.1) Tryz.underlying38 rfl (by rw [Msg.c_size exD_Ok.R]; kernel_rfl)) ⟨h49, h50⟩ <| an_o 12 ?_
  refine ncq 28 #[.agg (Msg.c exD), .int .i64 1, .int .i64 31] Tryz.func28 ((leis_ok exD 1 31 _ exD_Ok exD_off).mono ?_)
  rintro e V53 ⟨rfl, kV53⟩
  refine ⟨_, rfl, ?_⟩
  have h54 := kV53.bk h49
  have h55 := kV53.bk h50
  have K56 := K51.nn kV53
  have z57 := kV53.size
  refine ⟨⟨h54, h55⟩, ?_⟩
  refine akq 13 (.bool true) ⟨h54, h55⟩ <| akq 14 (.bool true) ⟨h54, h55⟩ <| avq 15 (.agg (Msg.c exW)) (fun W hS => exec_load_row 38 (.tmp 3) (by kernel_rfl) gw (by kernel_rfl) _ _ (0, 0) _ (hS.2) Tryz.underlying38 rfl (by rw [Msg.c_size exW_Ok.R]; kernel_rfl)) ⟨h54, h55⟩ <| an_o 16 ?_
  refine ncq 28 #[.agg (Msg.c exW), .int .i64 1, .int .i64 41] Tryz.func28 ((leis_ok exW 1 41 _ exW_Ok exW_off).mono ?_)
  rintro e V58 ⟨rfl, kV58⟩
  refine ⟨_, rfl, ?_⟩
  have h59 := kV58.bk h54
  have h60 := kV58.bk h55
  have K61 := K56.nn kV58
  have z62 := kV58.size
  refine ⟨⟨h59, h60⟩, ?_⟩
  refine akq 17 (.bool true) ⟨h59, h60⟩ <| akq 18 (.bool true) ⟨h59, h60⟩ <| avq 19 (.agg (Msg.c exD)) (fun W hS => exec_load_row 38 (.tmp 1) (by kernel_rfl) gd (by kernel_rfl) _ _ (0, 0) _ (hS.1) Tryz.underlying38 rfl (by rw [Msg.c_size exD_Ok.R]; kernel_rfl)) ⟨h59, h60⟩ <| an_o 20 ?_
  refine ncq 22 #[.slice none 0 0, .agg (Msg.c exD)] Tryz.func22 ((eSigned_nil _ exD_Ok exD_sg).mono ?_)
  rintro e V63 ⟨rfl, kV63⟩
  refine ⟨_, rfl, ?_⟩
  have h64 := kV63.bk h59
  have h65 := kV63.bk h60
  have K66 := K61.nn kV63
  have z67 := kV63.size
  refine ⟨⟨h64, h65⟩, ?_⟩
  refine akq 21 (.bool true) ⟨h64, h65⟩ <| akq 22 (.bool true) ⟨h64, h65⟩ <| an_o 23 <| nrq (.bool true) (w' := V63) (by kernel_rfl) ?_
  refine ⟨⟨h64, h65⟩, ?_⟩
  refine an_end (by kernel_rfl) <| sy_a ⟨#[.bool true, pT gd 0, .bool true, pT gw 0, .bool true, .tuple #[.agg (Msg.c exD), .bool true], .agg (Att.c (one 2 3 5)), .agg (Att.c (one 1 3 6)), .tuple #[.agg (Msg.c exD), .bool true], .agg (Msg.c exD), .bool true, .tuple #[.agg (Msg.c exW), .bool true], .agg (Att.c (one 2 3 5)), .agg (Att.c (one 1 4 7)), .tuple #[.agg (Msg.c exW), .bool true], .agg (Msg.c exW), .bool true, .bool true, .bool true, .bool true, .bool true, .bool true, pT gw 12, .agg (Att.c (one 1 4 7)), .agg (Att.c (one 1 4 7)), .bool true, .bool true, .bool true, .agg (Msg.c exD), .bool true, .bool true, .bool true, .agg (Msg.c exW), .bool true, .bool true, .bool true, .agg (Msg.c exD), .int .i64 15, .bool true, .bool true], []⟩ <| then_n <| sy_ret (by kernel_rfl) <| sy_out (.bool true) rfl (by kernel_rfl) ?_
  exact ⟨rfl, K66⟩
end Go.Proofs.YtcbfnflnokoacaaGreat
namespace Go.Proofs.YtcbfnflnokoacaaGreat
set_option maxRecDepth 100000
set_option maxHeartbeats 4000000
open Go Go.RowKit Go.Own Go.Shelf
def Att.cl (a : Att) : List Value := a.c.toList
def Pro.cl (a : Pro) : List Value := a.c.toList
theorem Att.cl_len {a : Att} (h : a.Ok) : a.cl.length = 36 := by have := Att.c_size a h.r; simpa [Att.cl] using this
theorem Pro.cl_len {a : Pro} (h : a.Ok) : a.cl.length = 35 := by have := Pro.c_size a h.r; simpa [Pro.cl] using this
abbrev AttsAt (w : World) (v : Value) (l : List Att) : Prop := Sl w 36 Att.cl v l
abbrev ProsAt (w : World) (v : Value) (l : List Pro) : Prop := Sl w 35 Pro.cl v l
def selA (l : List Att) : List Sel := (l.filter (fun a => decide a.fine)).map Att.sel
def selP (l : List Pro) : List Sel := (l.filter (fun a => decide a.fine)).map Pro.sel
theorem selA_yes {l : List Att} {i : Nat} {x : Att} (hx : l[i]? = some x) (hf : x.fine) : selA (l.take (i + 1)) = selA (l.take i) ++ [x.sel] := by
  unfold selA; rw [List.take_add_one, hx, List.filter_append]; simp [hf]
theorem selA_no {l : List Att} {i : Nat} {x : Att} (hx : l[i]? = some x) (hf : ¬ x.fine) : selA (l.take (i + 1)) = selA (l.take i) := by
  unfold selA; rw [List.take_add_one, hx, List.filter_append]; simp [hf]
theorem selP_yes {l : List Pro} {i : Nat} {x : Pro} (hx : l[i]? = some x) (hf : x.fine) : selP (l.take (i + 1)) = selP (l.take i) ++ [x.sel] := by
  unfold selP; rw [List.take_add_one, hx, List.filter_append]; simp [hf]
theorem selP_no {l : List Pro} {i : Nat} {x : Pro} (hx : l[i]? = some x) (hf : ¬ x.fine) : selP (l.take (i + 1)) = selP (l.take i) := by
  unfold selP; rw [List.take_add_one, hx, List.filter_append]; simp [hf]
theorem selA_len (l : List Att) (i : Nat) : (selA (l.take i)).length ≤ l.length := by unfold selA; rw [List.length_map]; exact Nat.le_trans (List.length_filter_le _ _) (by simp; omega)
theorem selP_len (l : List Pro) (i : Nat) : (selP (l.take i)).length ≤ l.length := by unfold selP; rw [List.length_map]; exact Nat.le_trans (List.length_filter_le _ _) (by simp; omega)
theorem selA_r {l : List Att} : ∀ y ∈ selA l, y.r.length = 32 := fun y hy => by unfold selA at hy; obtain ⟨x, _, rfl⟩ := List.mem_map.1 hy; exact x.sel_r
theorem selP_r {l : List Pro} : ∀ y ∈ selP l, y.r.length = 32 := fun y hy => by unfold selP at hy; obtain ⟨x, _, rfl⟩ := List.mem_map.1 hy; exact x.sel_r
theorem sl_cases {α : Type} (l : List α) (p : α → Prop) [DecidablePred p] (i : Nat) (hi : i ≤ l.length) : (∃ x, i < l.length ∧ l[i]? = some x ∧ p x) ∨ (∃ x, i < l.length ∧ l[i]? = some x ∧ ¬ p x) ∨ i = l.length := by
  by_cases h : i < l.length
  · by_cases e : p l[i]
    · exact .inl ⟨_, h, List.getElem?_eq_getElem h, e⟩
    · exact .inr (.inl ⟨_, h, List.getElem?_eq_getElem h, e⟩)
  · exact .inr (.inr (by omega))
theorem src_sel {w : World} {g : Nat} {x : Sel} {T : TypeId} (ha : x.r.length = 32) (h : w.heap[g]? = some (.cells x.c T (0, 0))) : Own.Src w 34 (.slice (some ⟨g, 0, none⟩) 1 1) 1 x.cl :=
  ⟨by rw [Sel.cl_len ha], Sel.cl_one x, .inr ⟨_, _, rfl, fun j u hj => by simp only [Addr.add_lit, Nat.zero_add]; exact rc h (by simpa [Sel.cl] using hj)⟩⟩
theorem row_sel {w : World} {T : TypeId} {v : Value} {l m : List Sel} {x : Sel} (e : m = l ++ [x]) (h : Row w T 34 v (l.length + 1) (l.flatMap Sel.cl ++ x.cl)) : Row w T 34 v m.length (m.flatMap Sel.cl) := by
  subst e; rw [List.flatMap_append, List.length_append]; simpa using h
theorem row_sels {w : World} {T : TypeId} {v : Value} {l m : List Sel} (e : l = m) (h : Row w T 34 v l.length (l.flatMap Sel.cl)) : Row w T 34 v m.length (m.flatMap Sel.cl) := by subst e; exact h
noncomputable def qc81_1 (n : Nat) : Code := partOf Tryz.f27 n
noncomputable abbrev qo81_1 (n k : Nat) : Oper := (opsAt (qc81_1 n)).getD k default
theorem leseals_ok (va vb : Value) (la : List Att) (lb : List Pro) (w : World) (Ha : AttsAt w va la) (Hb : ProsAt w vb lb) (oka : ∀ x ∈ la, x.Ok) (okb : ∀ x ∈ lb, x.Ok) (hla : la.length ≤ 1000) (hlb : lb.length ≤ 1000) :
    Calls Tryz.prog 27 #[va, vb] w (fun e w' => ∃ v, e = .returned v ∧ Row w' 30 34 v (selA la ++ selP lb).length ((selA la ++ selP lb).flatMap Sel.cl) ∧ NewFrom w.heap.size v ∧ Keeps Nob w w') := by
  have hr0 : True := trivial
  obtain ⟨i0, hi0, hz0, hz1, hz2⟩ := info_parts sel_info0
  have K0 : Keeps Nob w w := Keeps.refl _ _
  refine sy_enter (qc81_1 1) ⟨#[va, vb, ud, ud, ud, ud, ud, ud, ud, ud, ud, ud, ud, ud, ud, ud, ud, ud, ud, ud, ud, ud, ud, ud, ud, ud, ud, ud, ud, ud, ud, ud, ud, ud, ud, ud, ud, ud, ud, ud, ud, ud, ud, ud, ud, ud, ud, ud, ud, ud, ud, ud, ud], []⟩ Tryz.func27 (by kernel_rfl) (by kernel_rfl) <| sy_sq (qc81_1 2) (qc81_1 3) <| sy_reg <| rg_q 0 [0] <| pkq (.slice none 0 0) <| ps_end <| then_n <| sy_sq (qc81_1 6) (qc81_1 7) <| sy_reg <| rg_q 1 [0] <| pkq (.slice none 0 0) <| ps_end <| then_n <| sy_sq (qc81_1 14) (qc81_1 15) ?_
  refine sy_sq (qc81_1 28) (qc81_1 29) <| sy_reg <| rg_q 2 [0] <| pkq (.int .i64 0) <| ps_end <| then_n <| sy_bk 0 (qc81_1 58) ?_
  refine sy_loop (qc81_1 116) (fun a V => ∃ (i : Nat) (v1_ : Value) (u7 u8 u12 u13 u14 u15 u16 u17 u18 u19 u20 u21 u22 u23 u24 u25 u26 u27 u28 u29 u30 u31 : Value), (a = ⟨#[va, vb, ud, ud, .slice none 0 0, v1_, iN i, u7, u8, ud, ud, ud, u12, u13, u14, u15, u16, u17, u18, u19, u20, u21, u22, u23, u24, u25, u26, u27, u28, u29, u30, u31, ud, ud, ud, ud, ud, ud, ud, ud, ud, ud, ud, ud, ud, ud, ud, ud, ud, ud, ud, ud, ud], []⟩) ∧ (i ≤ la.length) ∧ (Row V 30 34 v1_ ((selA (la.take i)).length) ((selA (la.take i)).flatMap Sel.cl)) ∧ (Keeps Nob w V) ∧ (NewFrom w.heap.size v1_)) (fun a _ => la.length - (intOf (a.tmps.getD 6 undef)).toNat) (by kernel_rfl) ?_ ?_
  · exact ⟨0, .slice none 0 0, undef, undef, undef, undef, undef, undef, undef, undef, undef, undef, undef, undef, undef, undef, undef, undef, undef, undef, undef, undef, undef, undef, by kernel_rfl, Nat.zero_le _, (World.ownsRow_nil _ _ _ _), K0, (NewFrom.nil _)⟩
  · rintro a V1 ⟨i, v1_, u7, u8, u12, u13, u14, u15, u16, u17, u18, u19, u20, u21, u22, u23, u24, u25, u26, u27, u28, u29, u30, u31, rfl, hi, h2, K3, hnw1⟩
    rcases sl_cases la Att.fine i hi with ⟨x, hlt, hx, hp⟩ | ⟨x, hlt, hx, hp⟩ | hlt
    · have hxo := oka x (List.mem_of_getElem? hx)
      obtain ⟨b_a, o_a, c_a, hv_a, hb_a, _⟩ := ((Ha.keepsN K3)).at_ i _ hx
      have e0 : x.err = 0 := Att.err_ok hp
      have hfl := selA_len la i
      refine sy_sq (qc81_1 232) (qc81_1 233) <| sy_sq (qc81_1 464) (qc81_1 465) <| sy_reg <| rg_q 3 [0, 1, 2, 3] <| pkq (iN i) <| pkq (va) <| ppq (iN la.length) (exec_len_sl (.tmp 13) 59 26 (by kernel_rfl) Tryz.underlying59 (by kernel_rfl) (Ha.keepsN K3)) <| ppq (.bool true) (dct ((((i : Nat) : Int)) < (((la.length : Nat) : Int))) (by omega)) <| ps_end <| then_n <| sy_ys (.tmp 15) (qc81_1 930) (qc81_1 931) <| sy_sk <| then_n <| sy_sq (qc81_1 466) (qc81_1 467) ?_
      refine sy_bk 1 (qc81_1 932) <| sy_sq (qc81_1 1864) (qc81_1 1865) <| sy_reg <| rg_q 5 [0, 1, 2, 3, 4, 5, 6, 7, 8, 9, 10] <| pkq (va) <| pkq (iN i) <| ppq (pT b_a (o_a + i * 36)) (exec_indexAt_slice 59 (.tmp 19) (.tmp 20) (by kernel_rfl) b_a o_a la.length c_a (Eq.trans (b := va) (by kernel_rfl) hv_a) .i64 i (by kernel_rfl) _ 36 Tryz.underlying59 (by kernel_rfl) (by omega)) <| ppq (.agg (Att.c x)) (exec_load_mid 26 (.tmp 21) (by kernel_rfl) b_a (o_a + i * 36) (by kernel_rfl) (Att.cl x) _ (Sl.range (Ha.keepsN K3) hx hv_a) Tryz.underlying26 rfl (by rw [Att.cl_len hxo]; kernel_rfl)) ?_
      refine pcq 8 #[.agg (Att.c x)] Tryz.func8 ((eSeal_ok x _ hxo).mono ?_)
      rintro e V4 ⟨rfl, kV4⟩
      refine ⟨_, rfl, ?_⟩
      have h5 : Row V4 30 34 v1_ ((selA (la.take i)).length) ((selA (la.take i)).flatMap Sel.cl) := h2.keeps kV4 (fun _ _ x => x)
      have K6 := K3.nn kV4
      have z7 := kV4.size
      refine pkq (.tuple #[.agg (Sel.c x.sel), .int .i64 x.err]) <| pkq (.agg (Sel.c x.sel)) <| pkq (.int .i64 x.err) ?_
      obtain ⟨V8, eV8, gx, egx, h9, kV8⟩ := alloc_step V4 ((Sel.c selZ)) 30
      have n10 : w.heap.size ≤ gx := egx ▸ K6.size
      refine prq (pT gx 0) (w' := V8) (by rw [← eV8, ← egx]; exact exec_alloc0 30 (by kernel_rfl) (.agg ((Sel.c selZ))) (by kernel_rfl)) ?_
      clear eV8
      have h11 : Row V8 30 34 v1_ ((selA (la.take i)).length) ((selA (la.take i)).flatMap Sel.cl) := h5.keeps kV8 (fun _ _ x => x)
      have K12 := K6.nn kV8
      have z13 := kV8.size
      obtain ⟨V14, eV14, kV14⟩ := rowset_step V8 gx ((Sel.c x.sel))
      have h15 : V14.heap[gx]? = some (.cells (Sel.c x.sel) 30 (0, 0)) := eV14 ▸ setRow_heap _ _ _ _ _ _ h9
      refine pzq (w' := V14) (by rw [← eV14]; exact exec_store_row 30 (.tmp 7) (.tmp 24) (by kernel_rfl) gx ((Sel.c x.sel)) (by kernel_rfl) (by kernel_rfl) 30 ((Sel.c selZ)) h9 (by rw [Sel.c_size _ x.sel_r]; kernel_rfl) (by rw [Sel.c_size _ x.sel_r]; rfl) (Sel.c_one _)) ?_
      clear eV14
      have h16 : Row V14 30 34 v1_ ((selA (la.take i)).length) ((selA (la.take i)).flatMap Sel.cl) := h11.keeps kV14 (fun j hj e => by have := Row.lt h5 hj; unfold Own.One at e; omega)
      have K17 := K12.no kV14 (by omega)
      have z18 := kV14.size
      refine pkq (.int .i64 x.err) <| ps_end <| then_n <| sy_sq (qc81_1 3730) (qc81_1 3731) <| sy_reg <| rg_q 6 [0, 1] <| pkq (.int .i64 x.err) <| ppq (.bool true) (exec_cast (congrArg Value.bool (show ((x.err : Int) == ((0 : Int))) = true by rw [e0]; rfl)) (by kernel_rfl)) <| ps_end <| then_n <| sy_ys (.tmp 27) (qc81_1 7462) (qc81_1 7463) <| sy_reg <| rg_q 7 [0, 1, 2, 3, 4] <| pkq (v1_) ?_
      refine ppq (.agg (Sel.c x.sel)) (exec_load_row 30 (.tmp 7) (by kernel_rfl) gx (by kernel_rfl) _ _ (0, 0) _ (h15) Tryz.underlying30 rfl (by rw [Sel.c_size _ x.sel_r]; kernel_rfl)) ?_
      obtain ⟨V19, eV19, lit, elit, h20, kV19⟩ := alloc_step V14 (Sel.c x.sel) 30
      refine prq (.slice (some ⟨lit, 0, none⟩) 1 1) (w' := V19) (by rw [← eV19, ← elit]; exact exec_build1 46 30 (.tmp 29) (by kernel_rfl) (.agg (Sel.c x.sel)) (by kernel_rfl) i0 _ Tryz.underlying46 hi0 hz0 34 hz1 (by decide) (by decide) (Sel.c_size x.sel x.sel_r)) ?_
      clear eV19
      have h21 : Row V19 30 34 v1_ ((selA (la.take i)).length) ((selA (la.take i)).flatMap Sel.cl) := h16.keeps kV19 (fun _ _ x => x)
      have K23 := K17.nn kV19
      have z24 := kV19.size
      obtain ⟨v25, V26, hr27, h28, hg29, hn30, ha31⟩ := run_append_any (P := Tryz.prog) (w := V19) 46 (Oper.type (qo81_1 7462 3)) 30 i0 (.agg selZ.c) 34 48 Tryz.underlying46 hi0 hz0 hz1 hz2 rfl (by decide) v1_ ((selA (la.take i)).length) ((selA (la.take i)).flatMap Sel.cl) h21 (.slice (some ⟨lit, 0, none⟩) 1 1) 1 (Sel.cl x.sel) (src_sel x.sel_r h20) (by unfold maxLen; omega) (by omega)
      have kV26 : Keeps (fun j => v1_.ownBlock = some j) V19 V26 := Keeps.rowAdd hg29
      have hw32 : NewFrom w.heap.size v25 := hnw1.next K23.size ha31
      refine prq v25 (w' := V26) (exec_append (.tmp 28) (.tmp 30) 46 (by kernel_rfl) v1_ (.slice (some ⟨lit, 0, none⟩) 1 1) (by kernel_rfl) (by kernel_rfl) hr27) ?_
      have h33 : Row V26 30 34 v25 ((selA (la.take (i + 1))).length) ((selA (la.take (i + 1))).flatMap Sel.cl) := row_sel (by rw [selA_yes hx hp]) h28
      have K34 : Keeps Nob w V26 := K23.then kV26 (fun i hi hm => absurd hi (by have := hnw1 i hm; omega))
      have z35 := kV26.size
      refine pkq (v25) <| ps_end <| blk_n <| then_n <| sy_reg <| rg_q 4 [0, 1, 2] <| pkq (iN i) <| ppq (iN (i + 1)) (exec_cast (congrArg (Value.int .i64) (wrapN (i + 1) (by omega))) (by kernel_rfl)) <| pkq (iN (i + 1)) <| ps_end <| sy_a ⟨#[va, vb, ud, ud, .slice none 0 0, v25, iN (i + 1), pT gx 0, .int .i64 x.err, ud, ud, ud, iN i, va, iN la.length, .bool true, iN i, iN (i + 1), .tuple #[.agg (Sel.c x.sel), .int .i64 x.err], va, iN i, pT b_a (o_a + i * 36), .agg (Att.c x), .tuple #[.agg (Sel.c x.sel), .int .i64 x.err], .agg (Sel.c x.sel), .int .i64 x.err, .int .i64 x.err, .bool true, v1_, .agg (Sel.c x.sel), .slice (some ⟨lit, 0, none⟩) 1 1, v25, ud, ud, ud, ud, ud, ud, ud, ud, ud, ud, ud, ud, ud, ud, ud, ud, ud, ud, ud, ud, ud], []⟩ <| then_n ?_
      refine ⟨⟨i + 1, v25, (pT gx 0), (.int .i64 x.err), (iN i), va, (iN la.length), (.bool true), (iN i), (iN (i + 1)), (.tuple #[.agg (Sel.c x.sel), .int .i64 x.err]), va, (iN i), (pT b_a (o_a + i * 36)), (.agg (Att.c x)), (.tuple #[.agg (Sel.c x.sel), .int .i64 x.err]), (.agg (Sel.c x.sel)), (.int .i64 x.err), (.int .i64 x.err), (.bool true), v1_, (.agg (Sel.c x.sel)), (.slice (some ⟨lit, 0, none⟩) 1 1), v25, by kernel_rfl, by omega, h33, K34, hw32⟩, ?_⟩
      exact lt_meas (x := la.length - (i + 1)) (y := la.length - i) (by kernel_rfl) (by kernel_rfl) (by omega)
    · have hxo := oka x (List.mem_of_getElem? hx)
      obtain ⟨b_a, o_a, c_a, hv_a, hb_a, _⟩ := ((Ha.keepsN K3)).at_ i _ hx
      have e0 : x.err = 3 := Att.err_no hp
      refine sy_sq (qc81_1 232) (qc81_1 233) <| sy_sq (qc81_1 464) (qc81_1 465) <| sy_reg <| rg_q 3 [0, 1, 2, 3] <| pkq (iN i) <| pkq (va) <| ppq (iN la.length) (exec_len_sl (.tmp 13) 59 26 (by kernel_rfl) Tryz.underlying59 (by kernel_rfl) (Ha.keepsN K3)) <| ppq (.bool true) (dct ((((i : Nat) : Int)) < (((la.length : Nat) : Int))) (by omega)) <| ps_end <| then_n <| sy_ys (.tmp 15) (qc81_1 930) (qc81_1 931) <| sy_sk <| then_n <| sy_sq (qc81_1 466) (qc81_1 467) ?_
      refine sy_bk 1 (qc81_1 932) <| sy_sq (qc81_1 1864) (qc81_1 1865) <| sy_reg <| rg_q 5 [0, 1, 2, 3, 4, 5, 6, 7, 8, 9, 10] <| pkq (va) <| pkq (iN i) <| ppq (pT b_a (o_a + i * 36)) (exec_indexAt_slice 59 (.tmp 19) (.tmp 20) (by kernel_rfl) b_a o_a la.length c_a (Eq.trans (b := va) (by kernel_rfl) hv_a) .i64 i (by kernel_rfl) _ 36 Tryz.underlying59 (by kernel_rfl) (by omega)) <| ppq (.agg (Att.c x)) (exec_load_mid 26 (.tmp 21) (by kernel_rfl) b_a (o_a + i * 36) (by kernel_rfl) (Att.cl x) _ (Sl.range (Ha.keepsN K3) hx hv_a) Tryz.underlying26 rfl (by rw [Att.cl_len hxo]; kernel_rfl)) ?_
      refine pcq 8 #[.agg (Att.c x)] Tryz.func8 ((eSeal_ok x _ hxo).mono ?_)
      rintro e V36 ⟨rfl, kV36⟩
      refine ⟨_, rfl, ?_⟩
      have h37 : Row V36 30 34 v1_ ((selA (la.take i)).length) ((selA (la.take i)).flatMap Sel.cl) := h2.keeps kV36 (fun _ _ x => x)
      have K38 := K3.nn kV36
      have z39 := kV36.size
      refine pkq (.tuple #[.agg (Sel.c x.sel), .int .i64 x.err]) <| pkq (.agg (Sel.c x.sel)) <| pkq (.int .i64 x.err) ?_
      obtain ⟨V40, eV40, gx, egx, h41, kV40⟩ := alloc_step V36 ((Sel.c selZ)) 30
      have n42 : w.heap.size ≤ gx := egx ▸ K38.size
      refine prq (pT gx 0) (w' := V40) (by rw [← eV40, ← egx]; exact exec_alloc0 30 (by kernel_rfl) (.agg ((Sel.c selZ))) (by kernel_rfl)) ?_
      clear eV40
      have h43 : Row V40 30 34 v1_ ((selA (la.take i)).length) ((selA (la.take i)).flatMap Sel.cl) := h37.keeps kV40 (fun _ _ x => x)
      have K44 := K38.nn kV40
      have z45 := kV40.size
      obtain ⟨V46, eV46, kV46⟩ := rowset_step V40 gx ((Sel.c x.sel))
      refine pzq (w' := V46) (by rw [← eV46]; exact exec_store_row 30 (.tmp 7) (.tmp 24) (by kernel_rfl) gx ((Sel.c x.sel)) (by kernel_rfl) (by kernel_rfl) 30 ((Sel.c selZ)) h41 (by rw [Sel.c_size _ x.sel_r]; kernel_rfl) (by rw [Sel.c_size _ x.sel_r]; rfl) (Sel.c_one _)) ?_
      clear eV46
      have h48 : Row V46 30 34 v1_ ((selA (la.take i)).length) ((selA (la.take i)).flatMap Sel.cl) := h43.keeps kV46 (fun j hj e => by have := Row.lt h37 hj; unfold Own.One at e; omega)
      have K49 := K44.no kV46 (by omega)
      have z50 := kV46.size
      refine pkq (.int .i64 x.err) <| ps_end <| then_n <| sy_sq (qc81_1 3730) (qc81_1 3731) <| sy_reg <| rg_q 6 [0, 1] <| pkq (.int .i64 x.err) <| ppq (.bool false) (exec_cast (congrArg Value.bool (show ((x.err : Int) == ((0 : Int))) = false by rw [e0]; rfl)) (by kernel_rfl)) <| ps_end <| then_n <| sy_n (.tmp 27) (qc81_1 7462) (qc81_1 7463) <| sy_sk <| blk_n <| then_n ?_
      refine sy_reg <| rg_q 4 [0, 1, 2] <| pkq (iN i) <| ppq (iN (i + 1)) (exec_cast (congrArg (Value.int .i64) (wrapN (i + 1) (by omega))) (by kernel_rfl)) <| pkq (iN (i + 1)) <| ps_end <| then_n ?_
      refine ⟨⟨i + 1, v1_, (pT gx 0), (.int .i64 x.err), (iN i), va, (iN la.length), (.bool true), (iN i), (iN (i + 1)), (.tuple #[.agg (Sel.c x.sel), .int .i64 x.err]), va, (iN i), (pT b_a (o_a + i * 36)), (.agg (Att.c x)), (.tuple #[.agg (Sel.c x.sel), .int .i64 x.err]), (.agg (Sel.c x.sel)), (.int .i64 x.err), (.int .i64 x.err), (.bool false), u28, u29, u30, u31, by kernel_rfl, by omega, (row_sels (by rw [selA_no hx hp]) h48), K49, hnw1⟩, ?_⟩
      exact lt_meas (x := la.length - (i + 1)) (y := la.length - i) (by kernel_rfl) (by kernel_rfl) (by omega)
    · have ei : i = la.length := hlt
      have h51 : Row V1 30 34 v1_ ((selA la).length) ((selA la).flatMap Sel.cl) := row_sels (by rw [ei, List.take_of_length_le (Nat.le_refl _)]) h2
      refine sy_sq (qc81_1 232) (qc81_1 233) <| sy_sq (qc81_1 464) (qc81_1 465) <| sy_reg <| rg_q 3 [0, 1, 2, 3] <| pkq (iN i) <| pkq (va) <| ppq (iN la.length) (exec_len_sl (.tmp 13) 59 26 (by kernel_rfl) Tryz.underlying59 (by kernel_rfl) (Ha.keepsN K3)) <| ppq (.bool false) (dcf ((((i : Nat) : Int)) < (((la.length : Nat) : Int))) (by omega)) <| ps_end <| then_n <| sy_n (.tmp 15) (qc81_1 930) (qc81_1 931) <| sy_exit 0 (by kernel_rfl) <| then_e <| then_e ?_
      refine blk_e <| then_n <| sy_sq (qc81_1 30) (qc81_1 31) <| sy_sq (qc81_1 60) (qc81_1 61) <| sy_reg <| rg_q 8 [0] <| pkq (.int .i64 0) <| ps_end <| then_n <| sy_bk 2 (qc81_1 122) ?_
      refine sy_loop (qc81_1 244) (fun a V => ∃ (k : Nat) (v2_ : Value) (u10 u11 u32 u33 u34 u35 u36 u37 u38 u39 u40 u41 u42 u43 u44 u45 u46 u47 u48 u49 u50 u51 : Value), (a = ⟨#[va, vb, ud, ud, .slice none 0 0, v2_, iN i, u7, u8, iN k, u10, u11, iN i, va, iN la.length, .bool false, u16, u17, u18, u19, u20, u21, u22, u23, u24, u25, u26, u27, u28, u29, u30, u31, u32, u33, u34, u35, u36, u37, u38, u39, u40, u41, u42, u43, u44, u45, u46, u47, u48, u49, u50, u51, ud], []⟩) ∧ (k ≤ lb.length) ∧ (Row V 30 34 v2_ ((selA la ++ selP (lb.take k)).length) ((selA la ++ selP (lb.take k)).flatMap Sel.cl)) ∧ (Keeps Nob w V) ∧ (NewFrom w.heap.size v2_)) (fun a _ => lb.length - (intOf (a.tmps.getD 9 undef)).toNat) (by kernel_rfl) ?_ ?_
      · exact ⟨0, v1_, undef, undef, undef, undef, undef, undef, undef, undef, undef, undef, undef, undef, undef, undef, undef, undef, undef, undef, undef, undef, undef, undef, by kernel_rfl, Nat.zero_le _, (row_sels (by simp [selP]) h51), K3, hnw1⟩
      · rintro a V52 ⟨k, v2_, u10, u11, u32, u33, u34, u35, u36, u37, u38, u39, u40, u41, u42, u43, u44, u45, u46, u47, u48, u49, u50, u51, rfl, hk, h53, K54, hnw2⟩
        rcases sl_cases lb Pro.fine k hk with ⟨x, hlt, hx, hp⟩ | ⟨x, hlt, hx, hp⟩ | hlt
        · have hxo := okb x (List.mem_of_getElem? hx)
          obtain ⟨b_a, o_a, c_a, hv_a, hb_a, _⟩ := ((Hb.keepsN K54)).at_ k _ hx
          have e0 : x.err = 0 := Pro.err_ok hp
          have hfl := selP_len lb k
          have hf2 := selA_len la la.length
          rw [List.take_of_length_le (Nat.le_refl _)] at hf2
          have hf3 : (selA la ++ selP (lb.take k)).length ≤ 2000 := by rw [List.length_append]; omega
          refine sy_sq (qc81_1 488) (qc81_1 489) <| sy_sq (qc81_1 976) (qc81_1 977) <| sy_reg <| rg_q 9 [0, 1, 2, 3] <| pkq (iN k) <| pkq (vb) <| ppq (iN lb.length) (exec_len_sl (.tmp 33) 60 28 (by kernel_rfl) Tryz.underlying60 (by kernel_rfl) (Hb.keepsN K54)) <| ppq (.bool true) (dct ((((k : Nat) : Int)) < (((lb.length : Nat) : Int))) (by omega)) <| ps_end <| then_n <| sy_ys (.tmp 35) (qc81_1 1954) (qc81_1 1955) <| sy_sk <| then_n <| sy_sq (qc81_1 978) (qc81_1 979) ?_
          refine sy_bk 3 (qc81_1 1956) <| sy_sq (qc81_1 3912) (qc81_1 3913) <| sy_reg <| rg_q 11 [0, 1, 2, 3, 4, 5, 6, 7, 8, 9, 10] <| pkq (vb) <| pkq (iN k) <| ppq (pT b_a (o_a + k * 35)) (exec_indexAt_slice 60 (.tmp 39) (.tmp 40) (by kernel_rfl) b_a o_a lb.length c_a (Eq.trans (b := vb) (by kernel_rfl) hv_a) .i64 k (by kernel_rfl) _ 35 Tryz.underlying60 (by kernel_rfl) (by omega)) <| ppq (.agg (Pro.c x)) (exec_load_mid 28 (.tmp 41) (by kernel_rfl) b_a (o_a + k * 35) (by kernel_rfl) (Pro.cl x) _ (Sl.range (Hb.keepsN K54) hx hv_a) Tryz.underlying28 rfl (by rw [Pro.cl_len hxo]; kernel_rfl)) ?_
          refine pcq 10 #[.agg (Pro.c x)] Tryz.func10 ((eSealBlock_ok x _ hxo).mono ?_)
          rintro e V55 ⟨rfl, kV55⟩
          refine ⟨_, rfl, ?_⟩
          have h56 : Row V55 30 34 v2_ ((selA la ++ selP (lb.take k)).length) ((selA la ++ selP (lb.take k)).flatMap Sel.cl) := h53.keeps kV55 (fun _ _ x => x)
          have K57 := K54.nn kV55
          have z58 := kV55.size
          refine pkq (.tuple #[.agg (Sel.c x.sel), .int .i64 x.err]) <| pkq (.agg (Sel.c x.sel)) <| pkq (.int .i64 x.err) ?_
          obtain ⟨V59, eV59, gx, egx, h60, kV59⟩ := alloc_step V55 ((Sel.c selZ)) 30
          have n61 : w.heap.size ≤ gx := egx ▸ K57.size
          refine prq (pT gx 0) (w' := V59) (by rw [← eV59, ← egx]; exact exec_alloc0 30 (by kernel_rfl) (.agg ((Sel.c selZ))) (by kernel_rfl)) ?_
          clear eV59
          have h62 : Row V59 30 34 v2_ ((selA la ++ selP (lb.take k)).length) ((selA la ++ selP (lb.take k)).flatMap Sel.cl) := h56.keeps kV59 (fun _ _ x => x)
          have K63 := K57.nn kV59
          have z64 := kV59.size
          obtain ⟨V65, eV65, kV65⟩ := rowset_step V59 gx ((Sel.c x.sel))
          have h66 : V65.heap[gx]? = some (.cells (Sel.c x.sel) 30 (0, 0)) := eV65 ▸ setRow_heap _ _ _ _ _ _ h60
          refine pzq (w' := V65) (by rw [← eV65]; exact exec_store_row 30 (.tmp 10) (.tmp 44) (by kernel_rfl) gx ((Sel.c x.sel)) (by kernel_rfl) (by kernel_rfl) 30 ((Sel.c selZ)) h60 (by rw [Sel.c_size _ x.sel_r]; kernel_rfl) (by rw [Sel.c_size _ x.sel_r]; rfl) (Sel.c_one _)) ?_
          clear eV65
          have h67 : Row V65 30 34 v2_ ((selA la ++ selP (lb.take k)).length) ((selA la ++ selP (lb.take k)).flatMap Sel.cl) := h62.keeps kV65 (fun j hj e => by have := Row.lt h56 hj; unfold Own.One at e; omega)
          have K68 := K63.no kV65 (by omega)
          have z69 := kV65.size
          refine pkq (.int .i64 x.err) <| ps_end <| then_n <| sy_sq (qc81_1 7826) (qc81_1 7827) <| sy_reg <| rg_q 12 [0, 1] <| pkq (.int .i64 x.err) <| ppq (.bool true) (exec_cast (congrArg Value.bool (show ((x.err : Int) == ((0 : Int))) = true by rw [e0]; rfl)) (by kernel_rfl)) <| ps_end <| then_n <| sy_ys (.tmp 47) (qc81_1 15654) (qc81_1 15655) <| sy_reg <| rg_q 13 [0, 1, 2, 3, 4] <| pkq (v2_) ?_
          refine ppq (.agg (Sel.c x.sel)) (exec_load_row 30 (.tmp 10) (by kernel_rfl) gx (by kernel_rfl) _ _ (0, 0) _ (h66) Tryz.underlying30 rfl (by rw [Sel.c_size _ x.sel_r]; kernel_rfl)) ?_
          obtain ⟨V70, eV70, lit, elit, h71, kV70⟩ := alloc_step V65 (Sel.c x.sel) 30
          refine prq (.slice (some ⟨lit, 0, none⟩) 1 1) (w' := V70) (by rw [← eV70, ← elit]; exact exec_build1 46 30 (.tmp 49) (by kernel_rfl) (.agg (Sel.c x.sel)) (by kernel_rfl) i0 _ Tryz.underlying46 hi0 hz0 34 hz1 (by decide) (by decide) (Sel.c_size x.sel x.sel_r)) ?_
          clear eV70
          have h72 : Row V70 30 34 v2_ ((selA la ++ selP (lb.take k)).length) ((selA la ++ selP (lb.take k)).flatMap Sel.cl) := h67.keeps kV70 (fun _ _ x => x)
          have K74 := K68.nn kV70
          have z75 := kV70.size
          obtain ⟨v76, V77, hr78, h79, hg80, hn81, ha82⟩ := run_append_any (P := Tryz.prog) (w := V70) 46 (Oper.type (qo81_1 15654 3)) 30 i0 (.agg selZ.c) 34 48 Tryz.underlying46 hi0 hz0 hz1 hz2 rfl (by decide) v2_ ((selA la ++ selP (lb.take k)).length) ((selA la ++ selP (lb.take k)).flatMap Sel.cl) h72 (.slice (some ⟨lit, 0, none⟩) 1 1) 1 (Sel.cl x.sel) (src_sel x.sel_r h71) (by unfold maxLen; omega) (by omega)
          have kV77 : Keeps (fun j => v2_.ownBlock = some j) V70 V77 := Keeps.rowAdd hg80
          have hw83 : NewFrom w.heap.size v76 := hnw2.next K74.size ha82
          refine prq v76 (w' := V77) (exec_append (.tmp 48) (.tmp 50) 46 (by kernel_rfl) v2_ (.slice (some ⟨lit, 0, none⟩) 1 1) (by kernel_rfl) (by kernel_rfl) hr78) ?_
          have h84 : Row V77 30 34 v76 ((selA la ++ selP (lb.take (k + 1))).length) ((selA la ++ selP (lb.take (k + 1))).flatMap Sel.cl) := row_sel (by rw [selP_yes hx hp, List.append_assoc]) h79
          have K85 : Keeps Nob w V77 := K74.then kV77 (fun i hi hm => absurd hi (by have := hnw2 i hm; omega))
          have z86 := kV77.size
          refine pkq (v76) <| ps_end <| blk_n <| then_n <| sy_reg <| rg_q 10 [0, 1, 2] <| pkq (iN k) <| ppq (iN (k + 1)) (exec_cast (congrArg (Value.int .i64) (wrapN (k + 1) (by omega))) (by kernel_rfl)) <| pkq (iN (k + 1)) <| ps_end <| sy_a ⟨#[va, vb, ud, ud, .slice none 0 0, v76, iN i, u7, u8, iN (k + 1), pT gx 0, .int .i64 x.err, iN i, va, iN la.length, .bool false, u16, u17, u18, u19, u20, u21, u22, u23, u24, u25, u26, u27, u28, u29, u30, u31, iN k, vb, iN lb.length, .bool true, iN k, iN (k + 1), .tuple #[.agg (Sel.c x.sel), .int .i64 x.err], vb, iN k, pT b_a (o_a + k * 35), .agg (Pro.c x), .tuple #[.agg (Sel.c x.sel), .int .i64 x.err], .agg (Sel.c x.sel), .int .i64 x.err, .int .i64 x.err, .bool true, v2_, .agg (Sel.c x.sel), .slice (some ⟨lit, 0, none⟩) 1 1, v76, ud], []⟩ <| then_n ?_
          refine ⟨⟨k + 1, v76, (pT gx 0), (.int .i64 x.err), (iN k), vb, (iN lb.length), (.bool true), (iN k), (iN (k + 1)), (.tuple #[.agg (Sel.c x.sel), .int .i64 x.err]), vb, (iN k), (pT b_a (o_a + k * 35)), (.agg (Pro.c x)), (.tuple #[.agg (Sel.c x.sel), .int .i64 x.err]), (.agg (Sel.c x.sel)), (.int .i64 x.err), (.int .i64 x.err), (.bool true), v2_, (.agg (Sel.c x.sel)), (.slice (some ⟨lit, 0, none⟩) 1 1), v76, by kernel_rfl, by omega, h84, K85, hw83⟩, ?_⟩
          exact lt_meas (x := lb.length - (k + 1)) (y := lb.length - k) (by kernel_rfl) (by kernel_rfl) (by omega)
        · have hxo := okb x (List.mem_of_getElem? hx)
          obtain ⟨b_a, o_a, c_a, hv_a, hb_a, _⟩ := ((Hb.keepsN K54)).at_ k _ hx
          have e0 : x.err = 3 := Pro.err_no hp
          refine sy_sq (qc81_1 488) (qc81_1 489) <| sy_sq (qc81_1 976) (qc81_1 977) <| sy_reg <| rg_q 9 [0, 1, 2, 3] <| pkq (iN k) <| pkq (vb) <| ppq (iN lb.length) (exec_len_sl (.tmp 33) 60 28 (by kernel_rfl) Tryz.underlying60 (by kernel_rfl) (Hb.keepsN K54)) <| ppq (.bool true) (dct ((((k : Nat) : Int)) < (((lb.length : Nat) : Int))) (by omega)) <| ps_end <| then_n <| sy_ys (.tmp 35) (qc81_1 1954) (qc81_1 1955) <| sy_sk <| then_n <| sy_sq (qc81_1 978) (qc81_1 979) ?_
          refine sy_bk 3 (qc81_1 1956) <| sy_sq (qc81_1 3912) (qc81_1 3913) <| sy_reg <| rg_q 11 [0, 1, 2, 3, 4, 5, 6, 7, 8, 9, 10] <| pkq (vb) <| pkq (iN k) <| ppq (pT b_a (o_a + k * 35)) (exec_indexAt_slice 60 (.tmp 39) (.tmp 40) (by kernel_rfl) b_a o_a lb.length c_a (Eq.trans (b := vb) (by kernel_rfl) hv_a) .i64 k (by kernel_rfl) _ 35 Tryz.underlying60 (by kernel_rfl) (by omega)) <| ppq (.agg (Pro.c x)) (exec_load_mid 28 (.tmp 41) (by kernel_rfl) b_a (o_a + k * 35) (by kernel_rfl) (Pro.cl x) _ (Sl.range (Hb.keepsN K54) hx hv_a) Tryz.underlying28 rfl (by rw [Pro.cl_len hxo]; kernel_rfl)) ?_
          refine pcq 10 #[.agg (Pro.c x)] Tryz.func10 ((eSealBlock_ok x _ hxo).mono ?_)
          rintro e V87 ⟨rfl, kV87⟩
          refine ⟨_, rfl, ?_⟩
          have h88 : Row V87 30 34 v2_ ((selA la ++ selP (lb.take k)).length) ((selA la ++ selP (lb.take k)).flatMap Sel.cl) := h53.keeps kV87 (fun _ _ x => x)
          have K89 := K54.nn kV87
          have z90 := kV87.size
          refine pkq (.tuple #[.agg (Sel.c x.sel), .int .i64 x.err]) <| pkq (.agg (Sel.c x.sel)) <| pkq (.int .i64 x.err) ?_
          obtain ⟨V91, eV91, gx, egx, h92, kV91⟩ := alloc_step V87 ((Sel.c selZ)) 30
          have n93 : w.heap.size ≤ gx := egx ▸ K89.size
          refine prq (pT gx 0) (w' := V91) (by rw [← eV91, ← egx]; exact exec_alloc0 30 (by kernel_rfl) (.agg ((Sel.c selZ))) (by kernel_rfl)) ?_
          clear eV91
          have h94 : Row V91 30 34 v2_ ((selA la ++ selP (lb.take k)).length) ((selA la ++ selP (lb.take k)).flatMap Sel.cl) := h88.keeps kV91 (fun _ _ x => x)
          have K95 := K89.nn kV91
          have z96 := kV91.size
          obtain ⟨V97, eV97, kV97⟩ := rowset_step V91 gx ((Sel.c x.sel))
          refine pzq (w' := V97) (by rw [← eV97]; exact exec_store_row 30 (.tmp 10) (.tmp 44) (by kernel_rfl) gx ((Sel.c x.sel)) (by kernel_rfl) (by kernel_rfl) 30 ((Sel.c selZ)) h92 (by rw [Sel.c_size _ x.sel_r]; kernel_rfl) (by rw [Sel.c_size _ x.sel_r]; rfl) (Sel.c_one _)) ?_
          clear eV97
          have h99 : Row V97 30 34 v2_ ((selA la ++ selP (lb.take k)).length) ((selA la ++ selP (lb.take k)).flatMap Sel.cl) := h94.keeps kV97 (fun j hj e => by have := Row.lt h88 hj; unfold Own.One at e; omega)
          have K100 := K95.no kV97 (by omega)
          have z101 := kV97.size
          refine pkq (.int .i64 x.err) <| ps_end <| then_n <| sy_sq (qc81_1 7826) (qc81_1 7827) <| sy_reg <| rg_q 12 [0, 1] <| pkq (.int .i64 x.err) <| ppq (.bool false) (exec_cast (congrArg Value.bool (show ((x.err : Int) == ((0 : Int))) = false by rw [e0]; rfl)) (by kernel_rfl)) <| ps_end <| then_n <| sy_n (.tmp 47) (qc81_1 15654) (qc81_1 15655) <| sy_sk <| blk_n <| then_n ?_
          refine sy_reg <| rg_q 10 [0, 1, 2] <| pkq (iN k) <| ppq (iN (k + 1)) (exec_cast (congrArg (Value.int .i64) (wrapN (k + 1) (by omega))) (by kernel_rfl)) <| pkq (iN (k + 1)) <| ps_end <| then_n ?_
          refine ⟨⟨k + 1, v2_, (pT gx 0), (.int .i64 x.err), (iN k), vb, (iN lb.length), (.bool true), (iN k), (iN (k + 1)), (.tuple #[.agg (Sel.c x.sel), .int .i64 x.err]), vb, (iN k), (pT b_a (o_a + k * 35)), (.agg (Pro.c x)), (.tuple #[.agg (Sel.c x.sel), .int .i64 x.err]), (.agg (Sel.c x.sel)), (.int .i64 x.err), (.int .i64 x.err), (.bool false), u48, u49, u50, u51, by kernel_rfl, by omega, (row_sels (by rw [selP_no hx hp]) h99), K100, hnw2⟩, ?_⟩
          exact lt_meas (x := lb.length - (k + 1)) (y := lb.length - k) (by kernel_rfl) (by kernel_rfl) (by omega)
        · have ek : k = lb.length := hlt
          have h102 : Row V52 30 34 v2_ ((selA la ++ selP lb).length) ((selA la ++ selP lb).flatMap Sel.cl) := row_sels (by rw [ek, List.take_of_length_le (Nat.le_refl _)]) h53
          refine sy_sq (qc81_1 488) (qc81_1 489) <| sy_sq (qc81_1 976) (qc81_1 977) <| sy_reg <| rg_q 9 [0, 1, 2, 3] <| pkq (iN k) <| pkq (vb) <| ppq (iN lb.length) (exec_len_sl (.tmp 33) 60 28 (by kernel_rfl) Tryz.underlying60 (by kernel_rfl) (Hb.keepsN K54)) <| ppq (.bool false) (dcf ((((k : Nat) : Int)) < (((lb.length : Nat) : Int))) (by omega)) <| ps_end <| then_n <| sy_n (.tmp 35) (qc81_1 1954) (qc81_1 1955) <| sy_exit 2 (by kernel_rfl) <| then_e <| then_e ?_
          refine blk_e <| then_n <| sy_sq (qc81_1 62) (qc81_1 63) <| sy_reg <| rg_q 14 [0, 1] <| pkq (v2_) <| pkq (v2_) <| ps_end <| then_n <| sy_ret (by kernel_rfl) <| sy_out (v2_) rfl (by kernel_rfl) ?_
          exact ⟨v2_, rfl, h102, hnw2, K54⟩
end Go.Proofs.YtcbfnflnokoacaaGreat
namespace Go.Kec
theorem vote_far1_p : perm [1189091591017529601, 0, 0, 0, 0, 6, 0, 0, 0, 0, 0, 0, 0, 0, 0, 0, 9223372036854775808, 0, 0, 0, 0, 0, 0, 0, 0] = [7957363898267496530, 16861685080900925128, 2423323187625060152, 8486976784937723563, 6249446235438865077, 7838177722147316710, 15244414590812408631, 9333172145324733291, 1617044583230665441, 16826917300872562157, 9742849413871386026, 16011607652393598603, 5124426090157533051, 3463562917317967842, 5257147969796594002, 9127947524068042527, 14210861550259255627, 10845638187144905515, 1534832237306283624, 1564414228607034763, 661611121132006807, 608781175041733337, 3113567247144027012, 10071816319172788705, 14707708793231470821] := by
  rw [← permF_eq]; decide +kernel
theorem vote_far1 : sum [1, 1, 1, 128, 128, 128, 128, 16, 0, 0, 0, 0, 0, 0, 0, 0, 0, 0, 0, 0, 0, 0, 0, 0, 0, 0, 0, 0, 0, 0, 0, 0, 0, 0, 0, 0, 0, 0, 0, 0] = [82, 112, 192, 56, 78, 60, 110, 110, 200, 118, 154, 121, 62, 189, 0, 234, 56, 231, 91, 142, 153, 95, 161, 33, 171, 38, 51, 131, 107, 204, 199, 117] := by
  unfold sum takes
  rw [show mixin (stateOf [1, 1, 1, 128, 128, 128, 128, 16, 0, 0, 0, 0, 0, 0, 0, 0, 0, 0, 0, 0, 0, 0, 0, 0, 0, 0, 0, 0, 0, 0, 0, 0, 0, 0, 0, 0, 0, 0, 0, 0]) (lastBlock (restOf [1, 1, 1, 128, 128, 128, 128, 16, 0, 0, 0, 0, 0, 0, 0, 0, 0, 0, 0, 0, 0, 0, 0, 0, 0, 0, 0, 0, 0, 0, 0, 0, 0, 0, 0, 0, 0, 0, 0, 0])) = [1189091591017529601, 0, 0, 0, 0, 6, 0, 0, 0, 0, 0, 0, 0, 0, 0, 0, 9223372036854775808, 0, 0, 0, 0, 0, 0, 0, 0] by decide +kernel, vote_far1_p]
  decide +kernel
theorem vote_far0_p : perm [1189091591017464065, 0, 0, 0, 0, 6, 0, 0, 0, 0, 0, 0, 0, 0, 0, 0, 9223372036854775808, 0, 0, 0, 0, 0, 0, 0, 0] = [2158135040948698179, 15613682275947586797, 4240132150449499909, 16980238856803017507, 5702861210924274004, 9136054504991605197, 16060144219206975496, 16189702995400424106, 8297577458778173314, 17804893932394990425, 4487049995618244586, 14470466000849424524, 4677594718486485225, 8319408604315518461, 14699863270542295860, 14104992504900647475, 289527523321009883, 8774872446885395366, 17531370883382399415, 1393316279224330790, 2582893574612619908, 7193062179732295560, 3381396385122428428, 9005533864585052330, 10995232234506817767] := by
  rw [← permF_eq]; decide +kernel
theorem vote_far0 : sum [1, 1, 0, 128, 128, 128, 128, 16, 0, 0, 0, 0, 0, 0, 0, 0, 0, 0, 0, 0, 0, 0, 0, 0, 0, 0, 0, 0, 0, 0, 0, 0, 0, 0, 0, 0, 0, 0, 0, 0] = [67, 252, 17, 173, 98, 60, 243, 29, 237, 36, 171, 29, 78, 241, 174, 216, 5, 111, 65, 196, 185, 249, 215, 58, 35, 99, 7, 109, 70, 237, 165, 235] := by
  unfold sum takes
  rw [show mixin (stateOf [1, 1, 0, 128, 128, 128, 128, 16, 0, 0, 0, 0, 0, 0, 0, 0, 0, 0, 0, 0, 0, 0, 0, 0, 0, 0, 0, 0, 0, 0, 0, 0, 0, 0, 0, 0, 0, 0, 0, 0]) (lastBlock (restOf [1, 1, 0, 128, 128, 128, 128, 16, 0, 0, 0, 0, 0, 0, 0, 0, 0, 0, 0, 0, 0, 0, 0, 0, 0, 0, 0, 0, 0, 0, 0, 0, 0, 0, 0, 0, 0, 0, 0, 0])) = [1189091591017464065, 0, 0, 0, 0, 6, 0, 0, 0, 0, 0, 0, 0, 0, 0, 0, 9223372036854775808, 0, 0, 0, 0, 0, 0, 0, 0] by decide +kernel, vote_far0_p]
  decide +kernel
theorem block_0_p : perm [44826882, 0, 0, 0, 25769803776, 0, 0, 0, 0, 0, 0, 0, 0, 0, 0, 0, 9223372036854775808, 0, 0, 0, 0, 0, 0, 0, 0] = [2498445365252058848, 17475341283493212036, 15703025047160508665, 2519389310759057527, 6511589928703472376, 13099932025768128712, 3714176439803065114, 10360468624555060431, 1204967058049196728, 9913074852814105898, 14595535356622151592, 13818631500442573264, 17126575954740471727, 17241894791870493539, 10832646568033041694, 13159320137260406048, 15602415694854201811, 3182901008117535040, 10960764514738547626, 15651964436002058104, 884949700172769690, 2557510499515100297, 1831974210692346515, 14095031991912007262, 1548093823393632659] := by
  rw [← permF_eq]; decide +kernel
theorem block_0 : sum [2, 1, 172, 2, 0, 0, 0, 0, 0, 0, 0, 0, 0, 0, 0, 0, 0, 0, 0, 0, 0, 0, 0, 0, 0, 0, 0, 0, 0, 0, 0, 0, 0, 0, 0, 0] = [224, 238, 145, 134, 210, 66, 172, 34, 132, 239, 84, 27, 79, 226, 132, 242, 249, 80, 16, 11, 21, 90, 236, 217, 119, 184, 181, 214, 58, 171, 246, 34] := by
  unfold sum takes
  rw [show mixin (stateOf [2, 1, 172, 2, 0, 0, 0, 0, 0, 0, 0, 0, 0, 0, 0, 0, 0, 0, 0, 0, 0, 0, 0, 0, 0, 0, 0, 0, 0, 0, 0, 0, 0, 0, 0, 0]) (lastBlock (restOf [2, 1, 172, 2, 0, 0, 0, 0, 0, 0, 0, 0, 0, 0, 0, 0, 0, 0, 0, 0, 0, 0, 0, 0, 0, 0, 0, 0, 0, 0, 0, 0, 0, 0, 0, 0])) = [44826882, 0, 0, 0, 25769803776, 0, 0, 0, 0, 0, 0, 0, 0, 0, 0, 0, 9223372036854775808, 0, 0, 0, 0, 0, 0, 0, 0] by decide +kernel, block_0_p]
  decide +kernel
theorem block_1_p : perm [4339794178, 0, 0, 0, 25769803776, 0, 0, 0, 0, 0, 0, 0, 0, 0, 0, 0, 9223372036854775808, 0, 0, 0, 0, 0, 0, 0, 0] = [229123742366253745, 5765416524370131734, 8821228213596726607, 16261437642353620771, 317837971417523885, 2576191246763947366, 9170242810286005788, 16104004852560379509, 2244810794721621341, 9133255970365653763, 2814797853803603839, 5675196556871628782, 2147789086996259906, 14786807254709056534, 6955360884804816614, 12417668004679086671, 8030086744470939425, 12406200854465078363, 1821707832423096867, 14857141061385694044, 12160201776031567358, 10162637645063783903, 13280390777269883691, 11549820941779896735, 11630947739709657135] := by
  rw [← permF_eq]; decide +kernel
theorem block_1 : sum [2, 1, 172, 2, 1, 0, 0, 0, 0, 0, 0, 0, 0, 0, 0, 0, 0, 0, 0, 0, 0, 0, 0, 0, 0, 0, 0, 0, 0, 0, 0, 0, 0, 0, 0, 0] = [177, 66, 89, 105, 212, 2, 46, 3, 22, 187, 63, 77, 200, 223, 2, 80, 79, 37, 22, 202, 82, 76, 107, 122, 35, 55, 167, 1, 97, 59, 172, 225] := by
  unfold sum takes
  rw [show mixin (stateOf [2, 1, 172, 2, 1, 0, 0, 0, 0, 0, 0, 0, 0, 0, 0, 0, 0, 0, 0, 0, 0, 0, 0, 0, 0, 0, 0, 0, 0, 0, 0, 0, 0, 0, 0, 0]) (lastBlock (restOf [2, 1, 172, 2, 1, 0, 0, 0, 0, 0, 0, 0, 0, 0, 0, 0, 0, 0, 0, 0, 0, 0, 0, 0, 0, 0, 0, 0, 0, 0, 0, 0, 0, 0, 0, 0])) = [4339794178, 0, 0, 0, 25769803776, 0, 0, 0, 0, 0, 0, 0, 0, 0, 0, 0, 9223372036854775808, 0, 0, 0, 0, 0, 0, 0, 0] by decide +kernel, block_1_p]
  decide +kernel
end Go.Kec
