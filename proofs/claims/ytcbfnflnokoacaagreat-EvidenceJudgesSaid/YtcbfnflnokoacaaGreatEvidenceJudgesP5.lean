import Derived.Test.YtcbfnflnokoacaaGreatEvidenceJudgesP4
namespace Go.Proofs.YtcbfnflnokoacaaGreat
set_option maxRecDepth 100000
set_option maxHeartbeats 4000000
open Go Go.RowKit Go.Own Go.Shelf
theorem evi_first (m : Msg) : firstE [m.chk, if m.k = 8 then 0 else 5] = m.evi := by
  unfold Msg.evi; simp only [firstE]
  by_cases h : m.chk = 0 <;> by_cases h8 : m.k = 8 <;> simp [h, h8]
theorem hasE_pair (l : List Sel) (x y : Sel) : hasE l [x, y] = if x ∈ l then (if y ∈ l then 0 else 15) else 15 := by
  unfold hasE; by_cases h : x ∈ l <;> by_cases h2 : y ∈ l <;> simp [h, h2]
theorem sHas_is {v : Value} {l : List Sel} {x : Sel} {r : Bool} (w : World) (hl : SelsAt w v l) (hlr : ∀ y ∈ l, y.r.length = 32) (hx : x.r.length = 32) (h : decide (x ∈ l) = r) : Calls Tryz.prog 62 #[v, .agg (Sel.c x)] w fun e w' => e = .returned (.bool r) ∧ Keeps Nob w w' := by
  subst h; exact sHas_ok v l x w hl hlr hx
theorem sel_info0 : (Tryz.prog.info? 30).map (fun i => (i.zero, i.size, i.bytes)) = some (some (.agg selZ.c), 34, 48) := by kernel_rfl
def evMs (pf : Int) (a b : Att) : Msg := { msgZ with k := 8, pf := pf, a := a, b := b }
theorem evMs_R {pf : Int} {a b : Att} (ha : a.r.length = 32) (hb : b.r.length = 32) : (evMs pf a b).R := ⟨ha, hb, rfl, rfl⟩
theorem fill_ab (a b : Att) (ha : a.r.length = 32) (hb : b.r.length = 32) : Instr.fill ((#[(0, 1), (1, 1), (2, 1), (3, 1), (4, 1), (5, 1), (6, 4), (10, 1), (11, 1), (12, 36), (48, 36), (84, 35), (119, 35)] : Array (Nat × Nat))[·]?) msgZ.c [(0, .int .i64 8), (9, .agg (Att.c a)), (10, .agg (Att.c b))] = some (Msg.c (evMs 0 a b)) := by
  refine fill_seg (ds := Msg.c (onlyK 8)) rfl rfl (by decide) (by kernel_rfl) <| fill_seg (ds := Msg.c (putA (onlyK 8) a)) rfl (Att.c_size a ha) (by rw [Msg.c_size (onlyK_R 8)]; decide) (Msg.set_A (onlyK_R 8) a ha) ?_
  exact fill_seg (ds := Msg.c (putB (putA (onlyK 8) a) b)) rfl (Att.c_size b hb) (by rw [Msg.c_size (putA_R (onlyK_R 8) ha)]; decide) (Msg.set_B (putA_R (onlyK_R 8) ha) b hb) rfl
theorem doubV {a b : Att} {r : Bool} (w : World) (ha : a.Ok) (hb : b.Ok) (h : doub a b = r) : Calls Tryz.prog 32 #[.agg (Att.c a), .agg (Att.c b)] w fun e w' => e = .returned (.bool r) ∧ Keeps Nob w w' := by subst h; exact vDoubles_ok a b w ha hb
theorem surrV {a b : Att} {r : Bool} (w : World) (ha : a.Ok) (hb : b.Ok) (h : surr a b = r) : Calls Tryz.prog 33 #[.agg (Att.c a), .agg (Att.c b)] w fun e w' => e = .returned (.bool r) ∧ Keeps Nob w w' := by subst h; exact vSurrounds_ok a b w ha hb
theorem bnot {x : Bool} (h : ¬ x = true) : x = false := by cases x; rfl; exact absurd rfl h
noncomputable def qc77_10 (n : Nat) : Code := partOf Tryz.f82 n
theorem eform1_ok (m : Msg) (g : Nat) (w : World) (hr : m.R) (hb : w.heap[g]? = some (.cells (Msg.c m) 38 (0, 0))) :
    Calls Tryz.prog 82 #[.pointer (some ⟨g, 0, none⟩)] w (fun e w' => e = .returned (.int .i64 m.chk) ∧ Keeps Nob w w') := by
  have K0 : Keeps Nob w w := Keeps.refl _ _
  refine sy_enter (qc77_10 1) ⟨#[pT g 0, ud, ud, ud], []⟩ Tryz.func82 (by kernel_rfl) (by kernel_rfl) <| qr_ [0] <| pkq (.int .i64 0) <| eqr_ [0, 1, 2] <| ppq (.agg (Msg.c m)) (ldr 38 g (hb) (by rw [Msg.c_size hr]; kernel_rfl)) ?_
  refine pcq 36 #[.agg (Msg.c m)] Tryz.func36 ((mCheck_any m _ hr).mono ?_)
  rintro e V1 ⟨rfl, kV1⟩
  refine ⟨_, rfl, ?_⟩
  have K3 := K0.nn kV1
  have z4 := kV1.size
  refine pkq (.int .i64 m.chk) <| eu_ <| so_ (.int .i64 m.chk) ?_
  exact ⟨rfl, K3⟩
noncomputable def qc77_9 (n : Nat) : Code := partOf Tryz.f83 n
theorem eform2_ok (m : Msg) (g : Nat) (w : World) (hr : m.R) (hb : w.heap[g]? = some (.cells (Msg.c m) 38 (0, 0))) :
    Calls Tryz.prog 83 #[.pointer (some ⟨g, 0, none⟩)] w (fun e w' => e = .returned (.int .i64 (if m.k = 8 then 0 else 5)) ∧ Keeps Nob w w') := by
  have K0 : Keeps Nob w w := Keeps.refl _ _
  refine sy_enter (qc77_9 1) ⟨#[pT g 0, ud, ud, ud, ud], []⟩ Tryz.func83 (by kernel_rfl) (by kernel_rfl) <| qr_ [0] <| pkq (.int .i64 0) <| eq_ <| qr_ [0, 1, 2] ?_
  by_cases c0 : m.k = 8
  · refine pkq (pT g 0) <| ppq (.int .i64 m.k) (ldc 3 g 0 (rc (hb) (Msg.get_n hr NF.k))) <| ppq (.bool false) (nqf ((m.k) : Int) ((8) : Int) (by omega)) <| en_ <| s_ <| tqr_ [0] <| pkq (.int .i64 0) <| eu_ <| so_ (.int .i64 0) ?_
    exact ⟨by simp [c0], K0⟩
  · refine pkq (pT g 0) <| ppq (.int .i64 m.k) (ldc 3 g 0 (rc (hb) (Msg.get_n hr NF.k))) <| ppq (.bool true) (nqt ((m.k) : Int) ((8) : Int) (by omega)) <| ey_ <| qr_ [0] <| pkq (.int .i64 5) <| eu_ <| then_r <| so_ (.int .i64 5) ?_
    exact ⟨by simp [c0], K0⟩
noncomputable def qc77_15 (n : Nat) : Code := partOf Tryz.f51 n
theorem eform_ok (m : Msg) (w : World) (hr : m.R) :
    Calls Tryz.prog 51 #[.agg (Msg.c m)] w (fun e w' => e = .returned (.int .i64 m.evi) ∧ Keeps Nob w w') := by
  have K0 : Keeps Nob w w := Keeps.refl _ _
  refine sy_enter (qc77_15 1) ⟨#[.agg (Msg.c m), ud, ud, ud, ud, ud, ud], []⟩ Tryz.func51 (by kernel_rfl) (by kernel_rfl) <| qr_ [0, 1] <| pbx 38 ((Msg.c m)) (.agg (Msg.c m)) fun V1 gm egm h2 kV1 => ?_
  have n3 : w.heap.size ≤ gm := egm ▸ K0.size
  have K4 := K0.nn kV1
  have z5 := kV1.size
  refine pkq (.int .i64 0) <| eqr_ [0, 1, 2, 3, 4] <| pkq (.func (.func 82) #[] #[pT gm 0]) <| pkq (.func (.func 83) #[] #[pT gm 0]) ?_
  obtain ⟨V6, eV6, gf, egf, h7, kV6⟩ := alloc_step V1 (#[.func (.func 82) #[] #[.pointer (some ⟨gm, 0, none⟩)], .func (.func 83) #[] #[.pointer (some ⟨gm, 0, none⟩)]]) 80
  have n8 : gm < gf := egf ▸ lt_of_block h2
  have n9 : w.heap.size ≤ gf := egf ▸ K4.size
  refine prq (.slice (some ⟨gf, 0, none⟩) 2 2) (w' := V6) (by rw [← eV6, ← egf]; kernel_rfl) ?_
  have h10 := kV6.bk h2
  have K11 := K4.nn kV6
  have z12 := kV6.size
  refine pcq 48 #[.slice (some ⟨gf, 0, none⟩) 2 2] Tryz.func48 ((efirst_aa 82 (pT gm 0) m.chk 83 (pT gm 0) (if m.k = 8 then 0 else 5) gf _ h7 (enters_of Tryz.func82 (by kernel_rfl) rfl) (fun W k => eform1_ok m gm W hr (k.bk h10)) (enters_of Tryz.func83 (by kernel_rfl) rfl) (fun W k => eform2_ok m gm W hr (k.bk h10))).mono ?_)
  rintro e V13 ⟨rfl, kV13⟩
  refine ⟨_, rfl, ?_⟩
  have K16 := K11.nn kV13
  have z17 := kV13.size
  refine pkq (.int .i64 (firstE [m.chk, if m.k = 8 then 0 else 5])) <| eu_ <| so_ (.int .i64 (firstE [m.chk, if m.k = 8 then 0 else 5])) ?_
  exact ⟨by rw [evi_first], K16⟩
noncomputable def qc77_11 (n : Nat) : Code := partOf Tryz.f53 n
theorem eclash_ok (m : Msg) (w : World) (ho : m.Ok) :
    Calls Tryz.prog 53 #[.agg (Msg.c m)] w (fun e w' => e = .returned (.bool m.cla) ∧ Keeps Nob w w') := by
  have hr := ho.R
  have K0 : Keeps Nob w w := Keeps.refl _ _
  refine sy_enter (qc77_11 1) ⟨#[.agg (Msg.c m), ud, ud, ud, ud, ud, ud, ud, ud, ud, ud, ud, ud, ud, ud, ud, ud, ud, ud, ud, ud, ud, ud, ud], []⟩ Tryz.func53 (by kernel_rfl) (by kernel_rfl) <| qr_ [0, 1] <| pbx 38 ((Msg.c m)) (.agg (Msg.c m)) fun V1 gm egm h2 kV1 => ?_
  have n3 : w.heap.size ≤ gm := egm ▸ K0.size
  have K4 := K0.nn kV1
  have z5 := kV1.size
  refine pkq (.bool false) <| eq_ <| qr_ [0, 1] <| pkq (pT gm 11) <| ppq (.int .i64 m.pf) (ldc 3 gm 11 (rc (h2) (Msg.get_n hr NF.pf))) <| et_ <| b_ 0 <| qr_ [0, 1] ?_
  by_cases c0 : m.pf = 1
  · refine ppq (.bool true) (eqt ((m.pf) : Int) ((1) : Int) (by omega)) <| pkq (.bool true) <| ey_ <| qr_ [0, 1, 2, 3, 4, 5] <| pkq (pT gm 12) <| ppq (.agg (Att.c m.a)) (exec_load_seg 26 (.tmp 7) (by kernel_rfl) gm 12 (by kernel_rfl) (Att.c m.a).toList _ _ _ h2 (Msg.seg_A hr) Tryz.underlying26 rfl (by rw [Att.tl hr.a]; kernel_rfl)) <| pkq (pT gm 48) <| ppq (.agg (Att.c m.b)) (exec_load_seg 26 (.tmp 9) (by kernel_rfl) gm 48 (by kernel_rfl) (Att.c m.b).toList _ _ _ h2 (Msg.seg_B hr) Tryz.underlying26 rfl (by rw [Att.tl hr.b]; kernel_rfl)) ?_
    refine pcq 32 #[.agg (Att.c m.a), .agg (Att.c m.b)] Tryz.func32 ((vDoubles_ok m.a m.b _ ho.a ho.b).mono ?_)
    rintro e V6 ⟨rfl, kV6⟩
    refine ⟨_, rfl, ?_⟩
    have K8 := K4.nn kV6
    have z9 := kV6.size
    refine pkq (.bool (doub m.a m.b)) <| eu_ <| blk_r <| then_r <| so_ (.bool (doub m.a m.b)) ?_
    exact ⟨by unfold Msg.cla; rw [if_pos c0], K8⟩
  · refine ppq (.bool false) (eqf ((m.pf) : Int) ((1) : Int) (by omega)) <| pkq (.bool false) <| en_ <| qr_ [0, 1] ?_
    by_cases c1 : m.pf = 2
    · refine ppq (.bool true) (eqt ((m.pf) : Int) ((2) : Int) (by omega)) <| pkq (.bool true) <| ey_ <| qr_ [0, 1, 2, 3, 4, 5] <| pkq (pT gm 12) <| ppq (.agg (Att.c m.a)) (exec_load_seg 26 (.tmp 14) (by kernel_rfl) gm 12 (by kernel_rfl) (Att.c m.a).toList _ _ _ h2 (Msg.seg_A hr) Tryz.underlying26 rfl (by rw [Att.tl hr.a]; kernel_rfl)) <| pkq (pT gm 48) <| ppq (.agg (Att.c m.b)) (exec_load_seg 26 (.tmp 16) (by kernel_rfl) gm 48 (by kernel_rfl) (Att.c m.b).toList _ _ _ h2 (Msg.seg_B hr) Tryz.underlying26 rfl (by rw [Att.tl hr.b]; kernel_rfl)) ?_
      refine pcq 33 #[.agg (Att.c m.a), .agg (Att.c m.b)] Tryz.func33 ((vSurrounds_ok m.a m.b _ ho.a ho.b).mono ?_)
      rintro e V10 ⟨rfl, kV10⟩
      refine ⟨_, rfl, ?_⟩
      have K12 := K4.nn kV10
      have z13 := kV10.size
      refine pkq (.bool (surr m.a m.b)) <| eu_ <| blk_r <| then_r <| so_ (.bool (surr m.a m.b)) ?_
      exact ⟨by unfold Msg.cla; rw [if_neg c0, if_pos c1], K12⟩
    · refine ppq (.bool false) (eqf ((m.pf) : Int) ((2) : Int) (by omega)) <| pkq (.bool false) <| en_ <| s_ <| blk_n <| tqr_ [0, 1, 2, 3, 4, 5] <| pkq (pT gm 84) <| ppq (.agg (Pro.c m.p)) (exec_load_seg 28 (.tmp 19) (by kernel_rfl) gm 84 (by kernel_rfl) (Pro.c m.p).toList _ _ _ h2 (Msg.seg_P hr) Tryz.underlying28 rfl (by rw [Pro.tl hr.p]; kernel_rfl)) <| pkq (pT gm 119) <| ppq (.agg (Pro.c m.q)) (exec_load_seg 28 (.tmp 21) (by kernel_rfl) gm 119 (by kernel_rfl) (Pro.c m.q).toList _ _ _ h2 (Msg.seg_Q hr) Tryz.underlying28 rfl (by rw [Pro.tl hr.q]; kernel_rfl)) ?_
      refine pcq 35 #[.agg (Pro.c m.p), .agg (Pro.c m.q)] Tryz.func35 ((vDoublesBlock_ok m.p m.q _ ho.p ho.q).mono ?_)
      rintro e V14 ⟨rfl, kV14⟩
      refine ⟨_, rfl, ?_⟩
      have K16 := K4.nn kV14
      have z17 := kV14.size
      refine pkq (.bool (doubP m.p m.q)) <| eu_ <| so_ (.bool (doubP m.p m.q)) ?_
      exact ⟨by unfold Msg.cla; rw [if_neg c0, if_neg c1], K16⟩
noncomputable def qc77_8 (n : Nat) : Code := partOf Tryz.f54 n
theorem eheight_ok (p : Par) (m : Msg) (w : World) (hp : p.Ok) (ho : m.Ok) :
    Calls Tryz.prog 54 #[.agg p.cells, .agg (Msg.c m)] w (fun e w' => e = .returned (.tuple #[.int .i64 (hgt p m).1, .int .i64 (hgt p m).2]) ∧ Keeps Nob w w') := by
  have hr := ho.R
  have hmx : i64ok (max m.a.t m.b.t) := by have h1 := ho.a.t; have h2 := ho.b.t; unfold i64ok; unfold i64b at h1 h2; omega
  have K0 : Keeps Nob w w := Keeps.refl _ _
  refine sy_enter (qc77_8 1) ⟨#[.agg p.cells, .agg (Msg.c m), ud, ud, ud, ud, ud, ud, ud, ud, ud, ud, ud, ud, ud, ud, ud, ud, ud, ud, ud, ud, ud, ud, ud, ud], []⟩ Tryz.func54 (by kernel_rfl) (by kernel_rfl) <| qr_ [0, 1, 2, 3] <| pbx 45 p.cells (.agg p.cells) fun V1 gp egp h2 kV1 => ?_
  have n3 : w.heap.size ≤ gp := egp ▸ K0.size
  have K4 := K0.nn kV1
  have z5 := kV1.size
  refine pbx 38 ((Msg.c m)) (.agg (Msg.c m)) fun V6 gm egm h7 kV6 => ?_
  have n8 : gp < gm := egm ▸ lt_of_block h2
  have n9 : w.heap.size ≤ gm := egm ▸ K4.size
  have h10 := kV6.bk h2
  have K11 := K4.nn kV6
  have z12 := kV6.size
  refine pkq (.int .i64 0) <| pkq (.int .i64 0) <| eq_ <| qr_ [0, 1] <| pkq (pT gm 11) <| ppq (.int .i64 m.pf) (ldc 3 gm 11 (rc (h7) (Msg.get_n hr NF.pf))) <| et_ <| b_ 0 <| q_ <| b_ 2 <| b_ 1 <| q_ <| q_ <| qr_ [0, 1] ?_
  by_cases c0 : m.pf = 1
  · refine ppq (.bool true) (eqt ((m.pf) : Int) ((1) : Int) (by omega)) <| pkq (.bool true) <| ey_ <| sy_exit 1 (by kernel_rfl) <| then_e <| then_e <| blk_e <| blk_n <| tq_ <| qr_ [0, 1, 2, 3, 4, 5, 6, 7, 8, 9, 10, 11, 12] <| ppq (.agg (p.cells)) (ldr 45 gp (h10) (by kernel_rfl)) <| pkq (pT gm 12) <| pkq (pT gm 14) <| ppq (.int .i64 m.a.t) (ldc 3 gm 14 (rc (h7) (Msg.get_n hr NF.at_))) ?_
    refine pkq (pT gm 48) <| pkq (pT gm 50) <| ppq (.int .i64 m.b.t) (ldc 3 gm 50 (rc (h7) (Msg.get_n hr NF.bt))) <| ppq (.int .i64 (max m.a.t m.b.t)) (exec_max (.tmp 15) (.tmp 18) #[3, 3] (by kernel_rfl) .i64 m.a.t m.b.t (by kernel_rfl) (by kernel_rfl)) ?_
    refine pcq 34 #[.agg (p.cells), .int .i64 (max m.a.t m.b.t)] Tryz.func34 ((pFirst_ok p hp (max m.a.t m.b.t) hmx _).mono ?_)
    rintro e V13 ⟨rfl, kV13⟩
    refine ⟨_, rfl, ?_⟩
    have K16 := K11.nn kV13
    have z17 := kV13.size
    refine pkq (.int .i64 (p.first (max m.a.t m.b.t)).1) <| pkq (.int .i64 (p.first (max m.a.t m.b.t)).2) <| pkq (.int .i64 (p.first (max m.a.t m.b.t)).1) <| pkq (.int .i64 (p.first (max m.a.t m.b.t)).2) <| eu_ <| then_r <| blk_r <| then_r <| so_ (.tuple #[.int .i64 (p.first (max m.a.t m.b.t)).1, .int .i64 (p.first (max m.a.t m.b.t)).2]) ?_
    exact ⟨by rw [hgt, if_pos (.inl c0)], K16⟩
  · refine ppq (.bool false) (eqf ((m.pf) : Int) ((1) : Int) (by omega)) <| pkq (.bool false) <| en_ <| s_ <| tqr_ [0, 1] ?_
    by_cases c1 : m.pf = 2
    · refine ppq (.bool true) (eqt ((m.pf) : Int) ((2) : Int) (by omega)) <| pkq (.bool true) <| ey_ <| sy_exit 2 (by kernel_rfl) <| then_e <| blk_p (by decide) <| blk_e <| tq_ <| qr_ [0, 1, 2, 3, 4, 5, 6, 7, 8, 9, 10, 11, 12] <| ppq (.agg (p.cells)) (ldr 45 gp (h10) (by kernel_rfl)) <| pkq (pT gm 12) <| pkq (pT gm 14) <| ppq (.int .i64 m.a.t) (ldc 3 gm 14 (rc (h7) (Msg.get_n hr NF.at_))) <| pkq (pT gm 48) ?_
      refine pkq (pT gm 50) <| ppq (.int .i64 m.b.t) (ldc 3 gm 50 (rc (h7) (Msg.get_n hr NF.bt))) <| ppq (.int .i64 (max m.a.t m.b.t)) (exec_max (.tmp 15) (.tmp 18) #[3, 3] (by kernel_rfl) .i64 m.a.t m.b.t (by kernel_rfl) (by kernel_rfl)) ?_
      refine pcq 34 #[.agg (p.cells), .int .i64 (max m.a.t m.b.t)] Tryz.func34 ((pFirst_ok p hp (max m.a.t m.b.t) hmx _).mono ?_)
      rintro e V18 ⟨rfl, kV18⟩
      refine ⟨_, rfl, ?_⟩
      have K21 := K11.nn kV18
      have z22 := kV18.size
      refine pkq (.int .i64 (p.first (max m.a.t m.b.t)).1) <| pkq (.int .i64 (p.first (max m.a.t m.b.t)).2) <| pkq (.int .i64 (p.first (max m.a.t m.b.t)).1) <| pkq (.int .i64 (p.first (max m.a.t m.b.t)).2) <| eu_ <| then_r <| blk_r <| then_r <| so_ (.tuple #[.int .i64 (p.first (max m.a.t m.b.t)).1, .int .i64 (p.first (max m.a.t m.b.t)).2]) ?_
      exact ⟨by rw [hgt, if_pos (.inr c1)], K21⟩
    · refine ppq (.bool false) (eqf ((m.pf) : Int) ((2) : Int) (by omega)) <| pkq (.bool false) <| en_ <| s_ <| then_n <| sy_exit 0 (by kernel_rfl) <| blk_p (by decide) <| blk_p (by decide) <| then_e <| blk_e <| tqr_ [0, 1, 2, 3, 4] <| pkq (pT gm 84) <| pkq (pT gm 85) <| ppq (.int .i64 m.p.h) (ldc 3 gm 85 (rc (h7) (Msg.get_n hr NF.ph))) ?_
      refine pkq (.int .i64 m.p.h) <| pkq (.int .i64 0) <| eu_ <| so_ (.tuple #[.int .i64 m.p.h, .int .i64 0]) ?_
      exact ⟨by rw [hgt, if_neg (not_or.2 ⟨c0, c1⟩)], K11⟩
noncomputable def qc77_1 (n : Nat) : Code := partOf Tryz.f49 n
theorem eOffence1_ok (p : Par) (g : Nat) (w : World) (hp : p.Ok) (hb : w.heap[g]? = some (.cells p.cells 45 (0, 0))) :
    Calls Tryz.prog 49 #[.pointer (some ⟨g, 0, none⟩)] w (fun e w' => e = .returned (.int .i64 p.check.1) ∧ Keeps Nob w w') := by
  have K0 : Keeps Nob w w := Keeps.refl _ _
  refine sy_enter (qc77_1 1) ⟨#[pT g 0, ud, ud, ud, ud, ud, ud, ud, ud, ud], []⟩ Tryz.func49 (by kernel_rfl) (by kernel_rfl) <| qr_ [0] <| pkq (.int .i64 0) <| eqr_ [0, 1, 2, 3, 4, 5, 6] <| ppq (.agg (p.cells)) (ldr 45 g (hb) (by kernel_rfl)) ?_
  refine pcq 31 #[.agg (p.cells)] Tryz.func31 ((pCheck_ok p hp _).mono ?_)
  rintro e V1 ⟨rfl, kV1⟩
  refine ⟨_, rfl, ?_⟩
  have K3 := K0.nn kV1
  have z4 := kV1.size
  refine pkq (.tuple #[.int .i64 p.check.1, .int .i64 p.check.2]) <| pkq (.int .i64 p.check.1) <| pkq (.int .i64 p.check.2) <| pkq (.int .i64 p.check.1) <| pkq (.int .i64 p.check.2) <| eqr_ [0, 1] <| pkq (.int .i64 p.check.1) <| pkq (.int .i64 p.check.1) <| eu_ <| so_ (.int .i64 p.check.1) ?_
  exact ⟨rfl, K3⟩
noncomputable def qc77_3 (n : Nat) : Code := partOf Tryz.f50 n
theorem eOffence2_ok (m : Msg) (g : Nat) (w : World) (hr : m.R) (hb : w.heap[g]? = some (.cells (Msg.c m) 38 (0, 0))) :
    Calls Tryz.prog 50 #[.pointer (some ⟨g, 0, none⟩)] w (fun e w' => e = .returned (.int .i64 m.evi) ∧ Keeps Nob w w') := by
  have K0 : Keeps Nob w w := Keeps.refl _ _
  refine sy_enter (qc77_3 1) ⟨#[pT g 0, ud, ud, ud], []⟩ Tryz.func50 (by kernel_rfl) (by kernel_rfl) <| qr_ [0] <| pkq (.int .i64 0) <| eqr_ [0, 1, 2] <| ppq (.agg (Msg.c m)) (ldr 38 g (hb) (by rw [Msg.c_size hr]; kernel_rfl)) ?_
  refine pcq 51 #[.agg (Msg.c m)] Tryz.func51 ((eform_ok m _ hr).mono ?_)
  rintro e V1 ⟨rfl, kV1⟩
  refine ⟨_, rfl, ?_⟩
  have K3 := K0.nn kV1
  have z4 := kV1.size
  refine pkq (.int .i64 m.evi) <| eu_ <| so_ (.int .i64 m.evi) ?_
  exact ⟨rfl, K3⟩
noncomputable def qc77_4 (n : Nat) : Code := partOf Tryz.f59 n
theorem eSigned1_ok (m : Msg) (g : Nat) (w : World) (hr : m.R) (hb : w.heap[g]? = some (.cells (Msg.c m) 38 (0, 0))) :
    Calls Tryz.prog 59 #[.pointer (some ⟨g, 0, none⟩)] w (fun e w' => e = .returned (.int .i64 m.evi) ∧ Keeps Nob w w') := by
  have K0 : Keeps Nob w w := Keeps.refl _ _
  refine sy_enter (qc77_4 1) ⟨#[pT g 0, ud, ud, ud], []⟩ Tryz.func59 (by kernel_rfl) (by kernel_rfl) <| qr_ [0] <| pkq (.int .i64 0) <| eqr_ [0, 1, 2] <| ppq (.agg (Msg.c m)) (ldr 38 g (hb) (by rw [Msg.c_size hr]; kernel_rfl)) ?_
  refine pcq 51 #[.agg (Msg.c m)] Tryz.func51 ((eform_ok m _ hr).mono ?_)
  rintro e V1 ⟨rfl, kV1⟩
  refine ⟨_, rfl, ?_⟩
  have K3 := K0.nn kV1
  have z4 := kV1.size
  refine pkq (.int .i64 m.evi) <| eu_ <| so_ (.int .i64 m.evi) ?_
  exact ⟨rfl, K3⟩
theorem eclash_is {m : Msg} {r : Bool} (w : World) (ho : m.Ok) (h : m.cla = r) : Calls Tryz.prog 53 #[.agg (Msg.c m)] w fun e w' => e = .returned (.bool r) ∧ Keeps Nob w w' := by subst h; exact eclash_ok m w ho
noncomputable def qc77_2 (n : Nat) : Code := partOf Tryz.f52 n
theorem eOffence3_ok (m : Msg) (g : Nat) (w : World) (ho : m.Ok) (hb : w.heap[g]? = some (.cells (Msg.c m) 38 (0, 0))) :
    Calls Tryz.prog 52 #[.pointer (some ⟨g, 0, none⟩)] w (fun e w' => e = .returned (.int .i64 (if m.cla = true then 0 else 18)) ∧ Keeps Nob w w') := by
  have hr := ho.R
  have K0 : Keeps Nob w w := Keeps.refl _ _
  refine sy_enter (qc77_2 1) ⟨#[pT g 0, ud, ud, ud, ud], []⟩ Tryz.func52 (by kernel_rfl) (by kernel_rfl) <| qr_ [0] <| pkq (.int .i64 0) <| eq_ <| qr_ [0, 1, 2] ?_
  by_cases c0 : m.cla = true
  · refine ppq (.agg (Msg.c m)) (ldr 38 g (hb) (by rw [Msg.c_size hr]; kernel_rfl)) ?_
    refine pcq 53 #[.agg (Msg.c m)] Tryz.func53 ((eclash_is _ ho c0).mono ?_)
    rintro e V1 ⟨rfl, kV1⟩
    refine ⟨_, rfl, ?_⟩
    have K3 := K0.nn kV1
    have z4 := kV1.size
    refine pkq (.bool false) <| en_ <| s_ <| tqr_ [0] <| pkq (.int .i64 0) <| eu_ <| so_ (.int .i64 0) ?_
    exact ⟨by simp [c0], K3⟩
  · have c1 := bnot c0
    refine ppq (.agg (Msg.c m)) (ldr 38 g (hb) (by rw [Msg.c_size hr]; kernel_rfl)) ?_
    refine pcq 53 #[.agg (Msg.c m)] Tryz.func53 ((eclash_is _ ho c1).mono ?_)
    rintro e V5 ⟨rfl, kV5⟩
    refine ⟨_, rfl, ?_⟩
    have K7 := K0.nn kV5
    have z8 := kV5.size
    refine pkq (.bool true) <| ey_ <| qr_ [0] <| pkq (.int .i64 18) <| eu_ <| then_r <| so_ (.int .i64 18) ?_
    exact ⟨by simp [c0], K7⟩
noncomputable def qc77_5 (n : Nat) : Code := partOf Tryz.f18 n
theorem eOffence_ok (p : Par) (m : Msg) (w : World) (hp : p.Ok) (ho : m.Ok) :
    Calls Tryz.prog 18 #[.agg p.cells, .agg (Msg.c m)] w (fun e w' => e = .returned (.tuple #[.agg (offe p m).1.cs, .int .i64 (offe p m).2]) ∧ Keeps Nob w w') := by
  have hr := ho.R
  have K0 : Keeps Nob w w := Keeps.refl _ _
  refine sy_enter (qc77_5 1) ⟨#[.agg p.cells, .agg (Msg.c m), ud, ud, ud, ud, ud, ud, ud, ud, ud, ud, ud, ud, ud, ud, ud, ud, ud, ud, ud, ud, ud, ud, ud, ud, ud, ud, ud, ud, ud, ud, ud, ud, ud, ud, ud, ud, ud, ud], []⟩ Tryz.func18 (by kernel_rfl) (by kernel_rfl) <| qr_ [0, 1, 2, 3] <| pbx 45 p.cells (.agg p.cells) fun V1 gp egp h2 kV1 => ?_
  have n3 : w.heap.size ≤ gp := egp ▸ K0.size
  have K4 := K0.nn kV1
  have z5 := kV1.size
  refine pbx 38 ((Msg.c m)) (.agg (Msg.c m)) fun V6 gm egm h7 kV6 => ?_
  have n8 : gp < gm := egm ▸ lt_of_block h2
  have n9 : w.heap.size ≤ gm := egm ▸ K4.size
  have h10 := kV6.bk h2
  have K11 := K4.nn kV6
  have z12 := kV6.size
  refine pal 49 (#[.int .i64 0, .int .i64 0, .int .i64 0]) (.agg (#[.int .i64 0, .int .i64 0, .int .i64 0])) fun V13 go ego h14 kV13 => ?_
  have n15 : gp < go := ego ▸ lt_of_block h10
  have n16 : gm < go := ego ▸ lt_of_block h7
  have n17 : w.heap.size ≤ go := ego ▸ K11.size
  have h18 := kV13.bk h10
  have h19 := kV13.bk h7
  have K20 := K11.nn kV13
  have z21 := kV13.size
  refine pkq (.int .i64 0) <| eqr_ [0, 1, 2, 3, 4, 5] <| pkq (.func (.func 49) #[] #[pT gp 0]) <| pkq (.func (.func 50) #[] #[pT gm 0]) <| pkq (.func (.func 52) #[] #[pT gm 0]) ?_
  obtain ⟨V22, eV22, gf, egf, h23, kV22⟩ := alloc_step V13 (#[.func (.func 49) #[] #[.pointer (some ⟨gp, 0, none⟩)], .func (.func 50) #[] #[.pointer (some ⟨gm, 0, none⟩)], .func (.func 52) #[] #[.pointer (some ⟨gm, 0, none⟩)]]) 80
  have n24 : gp < gf := egf ▸ lt_of_block h18
  have n25 : gm < gf := egf ▸ lt_of_block h19
  have n26 : go < gf := egf ▸ lt_of_block h14
  have n27 : w.heap.size ≤ gf := egf ▸ K20.size
  refine prq (.slice (some ⟨gf, 0, none⟩) 3 3) (w' := V22) (by rw [← eV22, ← egf]; kernel_rfl) ?_
  have h28 := kV22.bk h18
  have h29 := kV22.bk h19
  have h30 := kV22.bk h14
  have K31 := K20.nn kV22
  have z32 := kV22.size
  refine pcq 48 #[.slice (some ⟨gf, 0, none⟩) 3 3] Tryz.func48 ((efirst_aaa 49 (pT gp 0) p.check.1 50 (pT gm 0) m.evi 52 (pT gm 0) (if m.cla = true then 0 else 18) gf _ h23 (enters_of Tryz.func49 (by kernel_rfl) rfl) (fun W k => eOffence1_ok p gp W hp (k.bk h28)) (enters_of Tryz.func50 (by kernel_rfl) rfl) (fun W k => eOffence2_ok m gm W hr (k.bk h29)) (enters_of Tryz.func52 (by kernel_rfl) rfl) (fun W k => eOffence3_ok m gm W ho (k.bk h29))).mono ?_)
  rintro e V33 ⟨rfl, kV33⟩
  refine ⟨_, rfl, ?_⟩
  have h34 := kV33.bk h28
  have h35 := kV33.bk h29
  have h36 := kV33.bk h30
  have K38 := K31.nn kV33
  have z39 := kV33.size
  refine pkq (.int .i64 (offE p m)) <| eq_ <| qr_ [0, 1] ?_
  by_cases c0 : offE p m = 0
  · refine pkq (.int .i64 (offE p m)) <| ppq (.bool false) (nqf ((offE p m) : Int) ((0) : Int) (by omega)) <| en_ <| s_ <| tqr_ [0, 1, 2, 3, 4, 5, 6, 7] <| ppq (.agg (p.cells)) (ldr 45 gp (h34) (by kernel_rfl)) <| ppq (.agg (Msg.c m)) (ldr 38 gm (h35) (by rw [Msg.c_size hr]; kernel_rfl)) ?_
    refine pcq 54 #[.agg (p.cells), .agg (Msg.c m)] Tryz.func54 ((eheight_ok p m _ hp ho).mono ?_)
    rintro e V40 ⟨rfl, kV40⟩
    refine ⟨_, rfl, ?_⟩
    have h42 := kV40.bk h35
    have h43 := kV40.bk h36
    have K45 := K38.nn kV40
    have z46 := kV40.size
    refine pkq (.tuple #[.int .i64 (hgt p m).1, .int .i64 (hgt p m).2]) <| pkq (.int .i64 (hgt p m).1) <| pkq (.int .i64 (hgt p m).2) <| pkq (.int .i64 (hgt p m).1) <| pkq (.int .i64 (hgt p m).2) <| eq_ <| qr_ [0, 1] ?_
    by_cases c1 : (hgt p m).2 = 0
    · refine pkq (.int .i64 (hgt p m).2) <| ppq (.bool false) (nqf (((hgt p m).2) : Int) ((0) : Int) (by omega)) <| en_ <| s_ <| tq_ <| qr_ [0, 1, 2] ?_
      by_cases c2 : m.pf = 3
      · refine pkq (pT gm 11) <| ppq (.int .i64 m.pf) (ldc 3 gm 11 (rc (h42) (Msg.get_n hr NF.pf))) <| ppq (.bool true) (eqt ((m.pf) : Int) ((3) : Int) (by omega)) <| ps_end <| sy_a ⟨#[.agg p.cells, .agg (Msg.c m), pT gp 0, pT gm 0, pT go 0, .int .i64 0, .int .i64 (hgt p m).2, .int .i64 (hgt p m).1, .func (.func 49) #[] #[pT gp 0], .func (.func 50) #[] #[pT gm 0], .func (.func 52) #[] #[pT gm 0], .slice (some ⟨gf, 0, none⟩) 3 3, .int .i64 (offE p m), .int .i64 (offE p m), .bool false, ud, ud, .tuple #[.int .i64 (hgt p m).1, .int .i64 (hgt p m).2], .agg (p.cells), .agg (Msg.c m), .tuple #[.int .i64 (hgt p m).1, .int .i64 (hgt p m).2], .int .i64 (hgt p m).1, .int .i64 (hgt p m).2, .int .i64 (hgt p m).2, .bool false, ud, ud, pT gm 11, .int .i64 m.pf, .bool true, ud, ud, ud, ud, ud, ud, ud, ud, ud, ud], []⟩ <| then_n <| y_ <| qr_ [0, 1, 2, 3, 4, 5, 6] <| pkq (pT gm 84) <| pkq (pT gm 84) <| ppq (.int .i64 m.p.v) (ldc 3 gm 84 (rc (h42) (Msg.get_n hr NF.pv))) <| pkq (.int .i64 (hgt p m).1) <| pkq (.agg #[.int .i64 m.p.v, .int .i64 2, .int .i64 (hgt p m).1]) <| pst 49 go (#[.int .i64 m.p.v, .int .i64 2, .int .i64 (hgt p m).1]) h43 (by kernel_rfl) rfl (by kernel_rfl) fun V47 h48 kV47 => ?_
        have K52 := K45.nO kV47
        have z53 := kV47.size
        refine pkq (.int .i64 0) <| eu_ <| then_r <| sy_out (.tuple #[.agg (#[.int .i64 m.p.v, .int .i64 2, .int .i64 (hgt p m).1]), .int .i64 0]) rfl (results_row_tmp (p := 4) (q := 5) (ty := 49) (by kernel_rfl) _ _ go 49 (#[.int .i64 m.p.v, .int .i64 2, .int .i64 (hgt p m).1]) (0, 0) _ (.int .i64 0) (by kernel_rfl) h48 Tryz.underlying49 rfl (by kernel_rfl) (by kernel_rfl)) ?_
        exact ⟨by rw [offe, if_pos c0, if_pos c1, if_pos c2]; (try rfl), K52⟩
      · refine pkq (pT gm 11) <| ppq (.int .i64 m.pf) (ldc 3 gm 11 (rc (h42) (Msg.get_n hr NF.pf))) <| ppq (.bool false) (eqf ((m.pf) : Int) ((3) : Int) (by omega)) <| ps_end <| sy_a ⟨#[.agg p.cells, .agg (Msg.c m), pT gp 0, pT gm 0, pT go 0, .int .i64 0, .int .i64 (hgt p m).2, .int .i64 (hgt p m).1, .func (.func 49) #[] #[pT gp 0], .func (.func 50) #[] #[pT gm 0], .func (.func 52) #[] #[pT gm 0], .slice (some ⟨gf, 0, none⟩) 3 3, .int .i64 (offE p m), .int .i64 (offE p m), .bool false, ud, ud, .tuple #[.int .i64 (hgt p m).1, .int .i64 (hgt p m).2], .agg (p.cells), .agg (Msg.c m), .tuple #[.int .i64 (hgt p m).1, .int .i64 (hgt p m).2], .int .i64 (hgt p m).1, .int .i64 (hgt p m).2, .int .i64 (hgt p m).2, .bool false, ud, ud, pT gm 11, .int .i64 m.pf, .bool false, ud, ud, ud, ud, ud, ud, ud, ud, ud, ud], []⟩ <| then_n <| n_ <| s_ <| tqr_ [0, 1, 2, 3, 4, 5, 6] <| pkq (pT gm 12) <| pkq (pT gm 12) <| ppq (.int .i64 m.a.v) (ldc 3 gm 12 (rc (h42) (Msg.get_n hr NF.av))) <| pkq (.int .i64 (hgt p m).1) <| pkq (.agg #[.int .i64 m.a.v, .int .i64 1, .int .i64 (hgt p m).1]) ?_
        refine pst 49 go (#[.int .i64 m.a.v, .int .i64 1, .int .i64 (hgt p m).1]) h43 (by kernel_rfl) rfl (by kernel_rfl) fun V54 h55 kV54 => ?_
        have K59 := K45.nO kV54
        have z60 := kV54.size
        refine pkq (.int .i64 0) <| eu_ <| sy_out (.tuple #[.agg (#[.int .i64 m.a.v, .int .i64 1, .int .i64 (hgt p m).1]), .int .i64 0]) rfl (results_row_tmp (p := 4) (q := 5) (ty := 49) (by kernel_rfl) _ _ go 49 (#[.int .i64 m.a.v, .int .i64 1, .int .i64 (hgt p m).1]) (0, 0) _ (.int .i64 0) (by kernel_rfl) h55 Tryz.underlying49 rfl (by kernel_rfl) (by kernel_rfl)) ?_
        exact ⟨by rw [offe, if_pos c0, if_pos c1, if_neg c2]; (try rfl), K59⟩
    · refine pkq (.int .i64 (hgt p m).2) <| ppq (.bool true) (nqt (((hgt p m).2) : Int) ((0) : Int) (by omega)) <| ey_ <| qr_ [0, 1, 2, 3] <| pkq (.agg #[.int .i64 0, .int .i64 0, .int .i64 0]) <| pkq (.int .i64 (hgt p m).2) <| pst 49 go (#[.int .i64 0, .int .i64 0, .int .i64 0]) h43 (by kernel_rfl) rfl (by kernel_rfl) fun V61 h62 kV61 => ?_
      have K66 := K45.nO kV61
      have z67 := kV61.size
      refine pkq (.int .i64 (hgt p m).2) <| ps_end <| sy_a ⟨#[.agg p.cells, .agg (Msg.c m), pT gp 0, pT gm 0, pT go 0, .int .i64 (hgt p m).2, .int .i64 (hgt p m).2, .int .i64 (hgt p m).1, .func (.func 49) #[] #[pT gp 0], .func (.func 50) #[] #[pT gm 0], .func (.func 52) #[] #[pT gm 0], .slice (some ⟨gf, 0, none⟩) 3 3, .int .i64 (offE p m), .int .i64 (offE p m), .bool false, ud, ud, .tuple #[.int .i64 (hgt p m).1, .int .i64 (hgt p m).2], .agg (p.cells), .agg (Msg.c m), .tuple #[.int .i64 (hgt p m).1, .int .i64 (hgt p m).2], .int .i64 (hgt p m).1, .int .i64 (hgt p m).2, .int .i64 (hgt p m).2, .bool true, .agg #[.int .i64 0, .int .i64 0, .int .i64 0], .int .i64 (hgt p m).2, ud, ud, ud, ud, ud, ud, ud, ud, ud, ud, ud, ud, ud], []⟩ <| then_n <| u_ <| then_r <| sy_out (.tuple #[.agg (#[.int .i64 0, .int .i64 0, .int .i64 0]), .int .i64 (hgt p m).2]) rfl (results_row_tmp (p := 4) (q := 5) (ty := 49) (by kernel_rfl) _ _ go 49 (#[.int .i64 0, .int .i64 0, .int .i64 0]) (0, 0) _ (.int .i64 (hgt p m).2) (by kernel_rfl) h62 Tryz.underlying49 rfl (by kernel_rfl) (by kernel_rfl)) ?_
      exact ⟨by rw [offe, if_pos c0, if_neg c1]; (try rfl), K66⟩
  · refine pkq (.int .i64 (offE p m)) <| ppq (.bool true) (nqt ((offE p m) : Int) ((0) : Int) (by omega)) <| ey_ <| qr_ [0, 1, 2, 3] <| pkq (.agg #[.int .i64 0, .int .i64 0, .int .i64 0]) <| pkq (.int .i64 (offE p m)) <| pst 49 go (#[.int .i64 0, .int .i64 0, .int .i64 0]) h36 (by kernel_rfl) rfl (by kernel_rfl) fun V68 h69 kV68 => ?_
    have K73 := K38.nO kV68
    have z74 := kV68.size
    refine pkq (.int .i64 (offE p m)) <| eu_ <| then_r <| sy_out (.tuple #[.agg (#[.int .i64 0, .int .i64 0, .int .i64 0]), .int .i64 (offE p m)]) rfl (results_row_tmp (p := 4) (q := 5) (ty := 49) (by kernel_rfl) _ _ go 49 (#[.int .i64 0, .int .i64 0, .int .i64 0]) (0, 0) _ (.int .i64 (offE p m)) (by kernel_rfl) h69 Tryz.underlying49 rfl (by kernel_rfl) (by kernel_rfl)) ?_
    exact ⟨by rw [offe, if_neg c0]; (try rfl), K73⟩
noncomputable def qc77_14 (n : Nat) : Code := partOf Tryz.f61 n
theorem eseals_ok (m : Msg) (w : World) (ho : m.Ok) :
    Calls Tryz.prog 61 #[.agg (Msg.c m)] w (fun e w' => ∃ g, e = .returned (.slice (some ⟨g, 0, none⟩) 2 2) ∧ w'.heap[g]? = some (.cells (List.flatMap Sel.cl m.sls).toArray 30 (0, 0)) ∧ w.heap.size ≤ g ∧ Keeps Nob w w') := by
  have hr := ho.R
  obtain ⟨i0, hi0, hz0, hz1, _⟩ := info_parts sel_info0
  have K0 : Keeps Nob w w := Keeps.refl _ _
  refine sy_enter (qc77_14 1) ⟨#[.agg (Msg.c m), ud, ud, ud, ud, ud, ud, ud, ud, ud, ud, ud, ud, ud, ud, ud, ud, ud, ud, ud, ud, ud, ud, ud, ud, ud, ud, ud, ud, ud, ud, ud, ud, ud, ud, ud, ud, ud, ud, ud, ud, ud, ud, ud], []⟩ Tryz.func61 (by kernel_rfl) (by kernel_rfl) <| qr_ [0, 1] <| pbx 38 ((Msg.c m)) (.agg (Msg.c m)) fun V1 gm egm h2 kV1 => ?_
  have n3 : w.heap.size ≤ gm := egm ▸ K0.size
  have K4 := K0.nn kV1
  have z5 := kV1.size
  refine pkq (.slice none 0 0) <| eq_ <| qr_ [0, 1, 2] ?_
  by_cases c0 : m.pf = 3
  · refine pkq (pT gm 11) <| ppq (.int .i64 m.pf) (ldc 3 gm 11 (rc (h2) (Msg.get_n hr NF.pf))) <| ppq (.bool true) (eqt ((m.pf) : Int) ((3) : Int) (by omega)) <| ey_ <| qr_ [0, 1, 2, 3, 4, 5, 6, 7, 8] <| pkq (pT gm 84) <| ppq (.agg (Pro.c m.p)) (exec_load_seg 28 (.tmp 15) (by kernel_rfl) gm 84 (by kernel_rfl) (Pro.c m.p).toList _ _ _ h2 (Msg.seg_P hr) Tryz.underlying28 rfl (by rw [Pro.tl hr.p]; kernel_rfl)) ?_
    refine pcq 10 #[.agg (Pro.c m.p)] Tryz.func10 ((eSealBlock_ok m.p _ ho.p).mono ?_)
    rintro e V6 ⟨rfl, kV6⟩
    refine ⟨_, rfl, ?_⟩
    have h7 := kV6.bk h2
    have K8 := K4.nn kV6
    have z9 := kV6.size
    refine pkq (.tuple #[.agg (Sel.c m.p.sel), .int .i64 m.p.err]) <| pkq (.agg (Sel.c m.p.sel)) <| pkq (.int .i64 m.p.err) <| pal 30 ((Sel.c selZ)) (.agg ((Sel.c selZ))) fun V10 gs2 egs2 h11 kV10 => ?_
    have n12 : gm < gs2 := egs2 ▸ lt_of_block h7
    have n13 : w.heap.size ≤ gs2 := egs2 ▸ K8.size
    have h14 := kV10.bk h7
    have K15 := K8.nn kV10
    have z16 := kV10.size
    refine pst 30 gs2 ((Sel.c m.p.sel)) h11 (by rw [Sel.c_size _ m.p.sel_r]; kernel_rfl) (by rw [Sel.c_size _ m.p.sel_r]; rfl) (Sel.c_one _) fun V17 h18 kV17 => ?_
    have h19 := kV17.bO h14
    have K20 := K15.nO kV17
    have z21 := kV17.size
    refine pkq (.int .i64 m.p.err) <| eqr_ [0, 1, 2, 3, 4, 5, 6, 7, 8] <| pkq (pT gm 119) <| ppq (.agg (Pro.c m.q)) (exec_load_seg 28 (.tmp 21) (by kernel_rfl) gm 119 (by kernel_rfl) (Pro.c m.q).toList _ _ _ h19 (Msg.seg_Q hr) Tryz.underlying28 rfl (by rw [Pro.tl hr.q]; kernel_rfl)) ?_
    refine pcq 10 #[.agg (Pro.c m.q)] Tryz.func10 ((eSealBlock_ok m.q _ ho.q).mono ?_)
    rintro e V22 ⟨rfl, kV22⟩
    refine ⟨_, rfl, ?_⟩
    have h23 := kV22.bk h19
    have h24 := kV22.bk h18
    have K25 := K20.nn kV22
    have z26 := kV22.size
    refine pkq (.tuple #[.agg (Sel.c m.q.sel), .int .i64 m.q.err]) <| pkq (.agg (Sel.c m.q.sel)) <| pkq (.int .i64 m.q.err) <| pal 30 ((Sel.c selZ)) (.agg ((Sel.c selZ))) fun V27 gs3 egs3 h28 kV27 => ?_
    have n29 : gm < gs3 := egs3 ▸ lt_of_block h23
    have n30 : gs2 < gs3 := egs3 ▸ lt_of_block h24
    have n31 : w.heap.size ≤ gs3 := egs3 ▸ K25.size
    have h32 := kV27.bk h23
    have h33 := kV27.bk h24
    have K34 := K25.nn kV27
    have z35 := kV27.size
    refine pst 30 gs3 ((Sel.c m.q.sel)) h28 (by rw [Sel.c_size _ m.q.sel_r]; kernel_rfl) (by rw [Sel.c_size _ m.q.sel_r]; rfl) (Sel.c_one _) fun V36 h37 kV36 => ?_
    have h38 := kV36.bO h32
    have h39 := kV36.bO h33
    have K40 := K34.nO kV36
    have z41 := kV36.size
    refine pkq (.int .i64 m.q.err) <| eqr_ [0, 1, 2, 3] <| ppq (.agg (Sel.c m.p.sel)) (ldr 30 gs2 (h39) (by rw [Sel.c_size _ m.p.sel_r]; kernel_rfl)) <| ppq (.agg (Sel.c m.q.sel)) (ldr 30 gs3 (h37) (by rw [Sel.c_size _ m.q.sel_r]; kernel_rfl)) ?_
    obtain ⟨V42, eV42, gq, egq, h43, kV42⟩ := alloc_step V36 (([.agg (Sel.c m.p.sel), .agg (Sel.c m.q.sel)] : List Value).flatMap fun v => v.cells.toList).toArray 30
    have n44 : gm < gq := egq ▸ lt_of_block h38
    have n45 : gs2 < gq := egq ▸ lt_of_block h39
    have n46 : gs3 < gq := egq ▸ lt_of_block h37
    have n47 : w.heap.size ≤ gq := egq ▸ K40.size
    refine prq (.slice (some ⟨gq, 0, none⟩) 2 2) (w' := V42) (by rw [← eV42, ← egq]; exact exec_buildAll 46 30 2 #[(0, .tmp 26), (1, .tmp 27)] (by kernel_rfl) [.agg (Sel.c m.p.sel), .agg (Sel.c m.q.sel)] (by kernel_rfl) i0 _ Tryz.underlying46 hi0 hz0 34 hz1 (by decide) rfl (by decide) (by decide) (fun u hu => by simp only [List.mem_cons, List.not_mem_nil, or_false] at hu; rcases hu with rfl | rfl; exact Sel.c_size _ m.p.sel_r; exact Sel.c_size _ m.q.sel_r)) ?_
    clear eV42
    have h48 : V42.heap[gq]? = some (.cells ((List.flatMap Sel.cl [m.p.sel, m.q.sel]).toArray) 30 (0, 0)) := h43
    have K52 := K40.nn kV42
    have z53 := kV42.size
    refine pkq (.slice (some ⟨gq, 0, none⟩) 2 2) <| ps_end <| sy_a ⟨#[.agg (Msg.c m), pT gm 0, .slice (some ⟨gq, 0, none⟩) 2 2, pT gs2 0, .int .i64 m.p.err, pT gs3 0, .int .i64 m.q.err, ud, ud, ud, ud, pT gm 11, .int .i64 m.pf, .bool true, .tuple #[.agg (Sel.c m.p.sel), .int .i64 m.p.err], pT gm 84, .agg (Pro.c m.p), .tuple #[.agg (Sel.c m.p.sel), .int .i64 m.p.err], .agg (Sel.c m.p.sel), .int .i64 m.p.err, .tuple #[.agg (Sel.c m.q.sel), .int .i64 m.q.err], pT gm 119, .agg (Pro.c m.q), .tuple #[.agg (Sel.c m.q.sel), .int .i64 m.q.err], .agg (Sel.c m.q.sel), .int .i64 m.q.err, .agg (Sel.c m.p.sel), .agg (Sel.c m.q.sel), .slice (some ⟨gq, 0, none⟩) 2 2, ud, ud, ud, ud, ud, ud, ud, ud, ud, ud, ud, ud, ud, ud, ud], []⟩ <| then_n <| u_ <| then_r <| so_ (.slice (some ⟨gq, 0, none⟩) 2 2) ?_
    exact ⟨gq, rfl, by rw [Msg.sls, if_pos c0]; exact h48, by omega, K52⟩
  · refine pkq (pT gm 11) <| ppq (.int .i64 m.pf) (ldc 3 gm 11 (rc (h2) (Msg.get_n hr NF.pf))) <| ppq (.bool false) (eqf ((m.pf) : Int) ((3) : Int) (by omega)) <| en_ <| s_ <| tqr_ [0, 1, 2, 3, 4, 5, 6, 7, 8] <| pkq (pT gm 12) <| ppq (.agg (Att.c m.a)) (exec_load_seg 26 (.tmp 30) (by kernel_rfl) gm 12 (by kernel_rfl) (Att.c m.a).toList _ _ _ h2 (Msg.seg_A hr) Tryz.underlying26 rfl (by rw [Att.tl hr.a]; kernel_rfl)) ?_
    refine pcq 8 #[.agg (Att.c m.a)] Tryz.func8 ((eSeal_ok m.a _ ho.a).mono ?_)
    rintro e V54 ⟨rfl, kV54⟩
    refine ⟨_, rfl, ?_⟩
    have h55 := kV54.bk h2
    have K56 := K4.nn kV54
    have z57 := kV54.size
    refine pkq (.tuple #[.agg (Sel.c m.a.sel), .int .i64 m.a.err]) <| pkq (.agg (Sel.c m.a.sel)) <| pkq (.int .i64 m.a.err) <| pal 30 ((Sel.c selZ)) (.agg ((Sel.c selZ))) fun V58 gs5 egs5 h59 kV58 => ?_
    have n60 : gm < gs5 := egs5 ▸ lt_of_block h55
    have n61 : w.heap.size ≤ gs5 := egs5 ▸ K56.size
    have h62 := kV58.bk h55
    have K63 := K56.nn kV58
    have z64 := kV58.size
    refine pst 30 gs5 ((Sel.c m.a.sel)) h59 (by rw [Sel.c_size _ m.a.sel_r]; kernel_rfl) (by rw [Sel.c_size _ m.a.sel_r]; rfl) (Sel.c_one _) fun V65 h66 kV65 => ?_
    have h67 := kV65.bO h62
    have K68 := K63.nO kV65
    have z69 := kV65.size
    refine pkq (.int .i64 m.a.err) <| eqr_ [0, 1, 2, 3, 4, 5, 6, 7, 8] <| pkq (pT gm 48) <| ppq (.agg (Att.c m.b)) (exec_load_seg 26 (.tmp 36) (by kernel_rfl) gm 48 (by kernel_rfl) (Att.c m.b).toList _ _ _ h67 (Msg.seg_B hr) Tryz.underlying26 rfl (by rw [Att.tl hr.b]; kernel_rfl)) ?_
    refine pcq 8 #[.agg (Att.c m.b)] Tryz.func8 ((eSeal_ok m.b _ ho.b).mono ?_)
    rintro e V70 ⟨rfl, kV70⟩
    refine ⟨_, rfl, ?_⟩
    have h71 := kV70.bk h67
    have h72 := kV70.bk h66
    have K73 := K68.nn kV70
    have z74 := kV70.size
    refine pkq (.tuple #[.agg (Sel.c m.b.sel), .int .i64 m.b.err]) <| pkq (.agg (Sel.c m.b.sel)) <| pkq (.int .i64 m.b.err) <| pal 30 ((Sel.c selZ)) (.agg ((Sel.c selZ))) fun V75 gs6 egs6 h76 kV75 => ?_
    have n77 : gm < gs6 := egs6 ▸ lt_of_block h71
    have n78 : gs5 < gs6 := egs6 ▸ lt_of_block h72
    have n79 : w.heap.size ≤ gs6 := egs6 ▸ K73.size
    have h80 := kV75.bk h71
    have h81 := kV75.bk h72
    have K82 := K73.nn kV75
    have z83 := kV75.size
    refine pst 30 gs6 ((Sel.c m.b.sel)) h76 (by rw [Sel.c_size _ m.b.sel_r]; kernel_rfl) (by rw [Sel.c_size _ m.b.sel_r]; rfl) (Sel.c_one _) fun V84 h85 kV84 => ?_
    have h86 := kV84.bO h80
    have h87 := kV84.bO h81
    have K88 := K82.nO kV84
    have z89 := kV84.size
    refine pkq (.int .i64 m.b.err) <| eqr_ [0, 1, 2, 3] <| ppq (.agg (Sel.c m.a.sel)) (ldr 30 gs5 (h87) (by rw [Sel.c_size _ m.a.sel_r]; kernel_rfl)) <| ppq (.agg (Sel.c m.b.sel)) (ldr 30 gs6 (h85) (by rw [Sel.c_size _ m.b.sel_r]; kernel_rfl)) ?_
    obtain ⟨V90, eV90, gq, egq, h91, kV90⟩ := alloc_step V84 (([.agg (Sel.c m.a.sel), .agg (Sel.c m.b.sel)] : List Value).flatMap fun v => v.cells.toList).toArray 30
    have n92 : gm < gq := egq ▸ lt_of_block h86
    have n93 : gs5 < gq := egq ▸ lt_of_block h87
    have n94 : gs6 < gq := egq ▸ lt_of_block h85
    have n95 : w.heap.size ≤ gq := egq ▸ K88.size
    refine prq (.slice (some ⟨gq, 0, none⟩) 2 2) (w' := V90) (by rw [← eV90, ← egq]; exact exec_buildAll 46 30 2 #[(0, .tmp 41), (1, .tmp 42)] (by kernel_rfl) [.agg (Sel.c m.a.sel), .agg (Sel.c m.b.sel)] (by kernel_rfl) i0 _ Tryz.underlying46 hi0 hz0 34 hz1 (by decide) rfl (by decide) (by decide) (fun u hu => by simp only [List.mem_cons, List.not_mem_nil, or_false] at hu; rcases hu with rfl | rfl; exact Sel.c_size _ m.a.sel_r; exact Sel.c_size _ m.b.sel_r)) ?_
    clear eV90
    have h96 : V90.heap[gq]? = some (.cells ((List.flatMap Sel.cl [m.a.sel, m.b.sel]).toArray) 30 (0, 0)) := h91
    have K100 := K88.nn kV90
    have z101 := kV90.size
    refine pkq (.slice (some ⟨gq, 0, none⟩) 2 2) <| ps_end <| sy_a ⟨#[.agg (Msg.c m), pT gm 0, .slice (some ⟨gq, 0, none⟩) 2 2, ud, ud, ud, ud, pT gs5 0, .int .i64 m.a.err, pT gs6 0, .int .i64 m.b.err, pT gm 11, .int .i64 m.pf, .bool false, ud, ud, ud, ud, ud, ud, ud, ud, ud, ud, ud, ud, ud, ud, ud, .tuple #[.agg (Sel.c m.a.sel), .int .i64 m.a.err], pT gm 12, .agg (Att.c m.a), .tuple #[.agg (Sel.c m.a.sel), .int .i64 m.a.err], .agg (Sel.c m.a.sel), .int .i64 m.a.err, .tuple #[.agg (Sel.c m.b.sel), .int .i64 m.b.err], pT gm 48, .agg (Att.c m.b), .tuple #[.agg (Sel.c m.b.sel), .int .i64 m.b.err], .agg (Sel.c m.b.sel), .int .i64 m.b.err, .agg (Sel.c m.a.sel), .agg (Sel.c m.b.sel), .slice (some ⟨gq, 0, none⟩) 2 2], []⟩ <| then_n <| u_ <| so_ (.slice (some ⟨gq, 0, none⟩) 2 2) ?_
    exact ⟨gq, rfl, by rw [Msg.sls, if_neg c0]; exact h96, by omega, K100⟩
noncomputable def qc77_6 (n : Nat) : Code := partOf Tryz.f60 n
theorem eSigned2_ok (A0 : Option Addr) (cap0 : Nat) (l : List Sel) (m : Msg) (g gl : Nat) (w : World) (ho : m.Ok) (hl : SelsAt w (.slice A0 l.length cap0) l) (hlr : ∀ y ∈ l, y.r.length = 32) (hb : w.heap[g]? = some (.cells (Msg.c m) 38 (0, 0))) (hc : w.heap[gl]? = some (.cells #[.slice A0 l.length cap0] 46 (0, 0))) :
    Calls Tryz.prog 60 #[.pointer (some ⟨g, 0, none⟩), .pointer (some ⟨gl, 0, none⟩)] w (fun e w' => e = .returned (.int .i64 (hasE l m.sls)) ∧ Keeps Nob w w') := by
  have hr := ho.R
  obtain ⟨s0, s1, hsl, hs0, hs1⟩ : ∃ s0 s1, m.sls = [s0, s1] ∧ s0.r.length = 32 ∧ s1.r.length = 32 := by unfold Msg.sls; split; exact ⟨_, _, rfl, m.p.sel_r, m.q.sel_r⟩; exact ⟨_, _, rfl, m.a.sel_r, m.b.sel_r⟩
  have hfl : ∀ x ∈ [s0, s1], (Sel.cl x).length = 34 := fun x hx => by simp only [List.mem_cons, List.not_mem_nil, or_false] at hx; rcases hx with rfl | rfl; exact Sel.cl_len hs0; exact Sel.cl_len hs1
  have K0 : Keeps Nob w w := Keeps.refl _ _
  refine sy_enter (qc77_6 1) ⟨#[pT g 0, pT gl 0, ud, ud, ud, ud, ud, ud, ud, ud, ud, ud, ud, ud, ud, ud, ud], []⟩ Tryz.func60 (by kernel_rfl) (by kernel_rfl) <| qr_ [0] <| pkq (.int .i64 0) <| eq_ <| qr_ [0, 1, 2, 3] <| ppq (.agg (Msg.c m)) (ldr 38 g (hb) (by rw [Msg.c_size hr]; kernel_rfl)) ?_
  refine pcq 61 #[.agg (Msg.c m)] Tryz.func61 ((eseals_ok m _ ho).mono ?_)
  rintro e V1 ⟨gq, rfl, hq, hqw, kV1⟩
  rw [hsl] at hq
  refine ⟨_, rfl, ?_⟩
  have h2 := kV1.bk hb
  have h3 := kV1.bk hc
  have h4 : SelsAt V1 (.slice A0 l.length cap0) l := hl.keepsN kV1
  have K5 := K0.nn kV1
  have z6 := kV1.size
  refine ppq (.int .i64 2) (exec_len (.tmp 6) 46 _ (by kernel_rfl) Tryz.underlying46 (some ⟨gq, 0, none⟩) 2 2 (by kernel_rfl)) <| pkq (.int .i64 0) <| et_ <| b_ 0 <| sy_rounds 3 (qc77_6 52) (by kernel_rfl) <| rd_step <| qr_ [0] <| pkq (.bool true) <| eq_ <| y_ <| s_ <| tq_ <| b_ 1 <| qr_ [0, 1, 2, 3] ?_
  refine ppq (pT gq 0) (exec_cast (v := pT gq (0 + 0 * 34)) (by simp) (exec_indexAt_slice 46 (.tmp 6) (.tmp 8) (by kernel_rfl) gq 0 2 2 (by kernel_rfl) .i64 0 (by kernel_rfl) _ 34 Tryz.underlying46 (by kernel_rfl) (by omega))) ?_
  refine ppq (.agg (Sel.c s0)) (exec_load_seg 30 (.tmp 10) (by kernel_rfl) gq 0 (by kernel_rfl) (Sel.cl s0) _ _ _ hq (fun j u hj => by rw [List.getElem?_toArray]; exact flat_get (s := 34) hfl 0 s0 rfl j u hj) Tryz.underlying30 rfl (by rw [Sel.cl_len hs0]; kernel_rfl)) ?_
  refine pal 30 ((Sel.c selZ)) (.agg ((Sel.c selZ))) fun V7 ge0 ege0 h8 kV7 => ?_
  have n9 : g < ge0 := ege0 ▸ lt_of_block h2
  have n10 : gl < ge0 := ege0 ▸ lt_of_block h3
  have n11 : gq < ge0 := ege0 ▸ lt_of_block hq
  have n12 : w.heap.size ≤ ge0 := ege0 ▸ K5.size
  have h13 := kV7.bk h2
  have h14 := kV7.bk h3
  have h15 : SelsAt V7 (.slice A0 l.length cap0) l := h4.keepsN kV7
  have h16 := kV7.bk hq
  have K17 := K5.nn kV7
  have z18 := kV7.size
  refine pst 30 ge0 ((Sel.c s0)) h8 (by rw [Sel.c_size _ hs0]; kernel_rfl) (by rw [Sel.c_size _ hs0]; rfl) (Sel.c_one _) fun V19 h20 kV19 => ?_
  have h21 := kV19.bO h13
  have h22 := kV19.bO h14
  have h23 : SelsAt V19 (.slice A0 l.length cap0) l := Sl.keepsB hl h15 kV19 (fun j e => by first | (unfold Own.One at e; omega) | omega)
  have h24 := kV19.bO h16
  have K25 := K17.nO kV19
  have z26 := kV19.size
  refine eqr_ [0, 1, 2, 3] ?_
  by_cases c0 : s0 ∈ l
  · refine ppq (.slice A0 l.length cap0) (ldk 46 gl 0 h22) <| ppq (.agg (Sel.c s0)) (ldr 30 ge0 (h20) (by rw [Sel.c_size _ hs0]; kernel_rfl)) ?_
    refine pcq 62 #[.slice A0 l.length cap0, .agg (Sel.c s0)] Tryz.func62 ((sHas_is _ h23 hlr hs0 (decide_eq_true c0)).mono ?_)
    rintro e V27 ⟨rfl, kV27⟩
    refine ⟨_, rfl, ?_⟩
    have h28 := kV27.bk h21
    have h29 := kV27.bk h22
    have h30 : SelsAt V27 (.slice A0 l.length cap0) l := h23.keepsN kV27
    have h31 := kV27.bk h24
    have h32 := kV27.bk h20
    have K33 := K25.nn kV27
    have z34 := kV27.size
    refine pkq (.bool false) <| en_ <| s_ <| blk_n <| tr_ [0, 1] <| pkq (.int .i64 1) <| pkq (.int .i64 1) <| et_ <| rd_step <| qr_ [0] <| pkq (.bool true) <| eq_ <| y_ <| s_ ?_
    refine tq_ <| b_ 1 <| qr_ [0, 1, 2, 3] <| ppq (pT gq 34) (exec_cast (v := pT gq (0 + 1 * 34)) (by simp) (exec_indexAt_slice 46 (.tmp 6) (.tmp 8) (by kernel_rfl) gq 0 2 2 (by kernel_rfl) .i64 1 (by kernel_rfl) _ 34 Tryz.underlying46 (by kernel_rfl) (by omega))) ?_
    refine ppq (.agg (Sel.c s1)) (exec_load_seg 30 (.tmp 10) (by kernel_rfl) gq 34 (by kernel_rfl) (Sel.cl s1) _ _ _ h31 (fun j u hj => by rw [List.getElem?_toArray]; exact flat_get (s := 34) hfl 1 s1 rfl j u hj) Tryz.underlying30 rfl (by rw [Sel.cl_len hs1]; kernel_rfl)) ?_
    refine pal 30 ((Sel.c selZ)) (.agg ((Sel.c selZ))) fun V35 ge1 ege1 h36 kV35 => ?_
    have n37 : g < ge1 := ege1 ▸ lt_of_block h28
    have n38 : gl < ge1 := ege1 ▸ lt_of_block h29
    have n39 : gq < ge1 := ege1 ▸ lt_of_block h31
    have n40 : ge0 < ge1 := ege1 ▸ lt_of_block h32
    have n41 : w.heap.size ≤ ge1 := ege1 ▸ K33.size
    have h43 := kV35.bk h29
    have h44 : SelsAt V35 (.slice A0 l.length cap0) l := h30.keepsN kV35
    have K47 := K33.nn kV35
    have z48 := kV35.size
    refine pst 30 ge1 ((Sel.c s1)) h36 (by rw [Sel.c_size _ hs1]; kernel_rfl) (by rw [Sel.c_size _ hs1]; rfl) (Sel.c_one _) fun V49 h50 kV49 => ?_
    have h52 := kV49.bO h43
    have h53 : SelsAt V49 (.slice A0 l.length cap0) l := Sl.keepsB hl h44 kV49 (fun j e => by first | (unfold Own.One at e; omega) | omega)
    have K56 := K47.nO kV49
    have z57 := kV49.size
    refine eqr_ [0, 1, 2, 3] ?_
    by_cases c1 : s1 ∈ l
    · refine ppq (.slice A0 l.length cap0) (ldk 46 gl 0 h52) <| ppq (.agg (Sel.c s1)) (ldr 30 ge1 (h50) (by rw [Sel.c_size _ hs1]; kernel_rfl)) ?_
      refine pcq 62 #[.slice A0 l.length cap0, .agg (Sel.c s1)] Tryz.func62 ((sHas_is _ h53 hlr hs1 (decide_eq_true c1)).mono ?_)
      rintro e V58 ⟨rfl, kV58⟩
      refine ⟨_, rfl, ?_⟩
      have K65 := K56.nn kV58
      have z66 := kV58.size
      refine pkq (.bool false) <| ps_end <| sy_a ⟨#[pT g 0, pT gl 0, .int .i64 0, ud, pT ge1 0, .agg (Msg.c m), .slice (some ⟨gq, 0, none⟩) 2 2, .int .i64 2, .int .i64 1, .bool true, pT gq 34, .agg (Sel.c s1), .slice A0 l.length cap0, .agg (Sel.c s1), .bool true, .bool false, .int .i64 1], []⟩ <| then_n <| n_ <| s_ <| blk_n <| tr_ [0, 1] <| pkq (.int .i64 2) <| pkq (.int .i64 2) <| et_ <| rd_step <| qr_ [0] <| pkq (.bool false) ?_
      refine eq_ <| n_ <| sy_exit 0 (by kernel_rfl) <| then_e <| then_e <| blk_e <| tqr_ [0] <| pkq (.int .i64 0) <| eu_ <| so_ (.int .i64 0) ?_
      exact ⟨by rw [hsl, hasE_pair]; simp [c0, c1], K65⟩
    · refine ppq (.slice A0 l.length cap0) (ldk 46 gl 0 h52) <| ppq (.agg (Sel.c s1)) (ldr 30 ge1 (h50) (by rw [Sel.c_size _ hs1]; kernel_rfl)) ?_
      refine pcq 62 #[.slice A0 l.length cap0, .agg (Sel.c s1)] Tryz.func62 ((sHas_is _ h53 hlr hs1 (decide_eq_false c1)).mono ?_)
      rintro e V67 ⟨rfl, kV67⟩
      refine ⟨_, rfl, ?_⟩
      have K74 := K56.nn kV67
      have z75 := kV67.size
      refine pkq (.bool true) <| ps_end <| sy_a ⟨#[pT g 0, pT gl 0, .int .i64 0, ud, pT ge1 0, .agg (Msg.c m), .slice (some ⟨gq, 0, none⟩) 2 2, .int .i64 2, .int .i64 1, .bool true, pT gq 34, .agg (Sel.c s1), .slice A0 l.length cap0, .agg (Sel.c s1), .bool false, .bool true, .int .i64 1], []⟩ <| then_n <| y_ <| qr_ [0] <| pkq (.int .i64 15) <| eu_ <| blk_r <| then_r <| then_r <| blk_r <| then_r <| so_ (.int .i64 15) ?_
      exact ⟨by rw [hsl, hasE_pair]; simp [c0, c1], K74⟩
  · refine ppq (.slice A0 l.length cap0) (ldk 46 gl 0 h22) <| ppq (.agg (Sel.c s0)) (ldr 30 ge0 (h20) (by rw [Sel.c_size _ hs0]; kernel_rfl)) ?_
    refine pcq 62 #[.slice A0 l.length cap0, .agg (Sel.c s0)] Tryz.func62 ((sHas_is _ h23 hlr hs0 (decide_eq_false c0)).mono ?_)
    rintro e V76 ⟨rfl, kV76⟩
    refine ⟨_, rfl, ?_⟩
    have K82 := K25.nn kV76
    have z83 := kV76.size
    refine pkq (.bool true) <| ey_ <| qr_ [0] <| pkq (.int .i64 15) <| eu_ <| blk_r <| then_r <| then_r <| blk_r <| then_r <| so_ (.int .i64 15) ?_
    exact ⟨by rw [hsl, hasE_pair]; simp [c0], K82⟩
noncomputable def qc77_7 (n : Nat) : Code := partOf Tryz.f22 n
theorem eSigned_ok (A0 : Option Addr) (cap0 : Nat) (l : List Sel) (m : Msg) (w : World) (ho : m.Ok) (hl : SelsAt w (.slice A0 l.length cap0) l) (hlr : ∀ y ∈ l, y.r.length = 32) :
    Calls Tryz.prog 22 #[.slice A0 l.length cap0, .agg (Msg.c m)] w (fun e w' => e = .returned (.int .i64 (sgnd l m)) ∧ Keeps Nob w w') := by
  have hr := ho.R
  have K0 : Keeps Nob w w := Keeps.refl _ _
  refine sy_enter (qc77_7 1) ⟨#[.slice A0 l.length cap0, .agg (Msg.c m), ud, ud, ud, ud, ud, ud, ud], []⟩ Tryz.func22 (by kernel_rfl) (by kernel_rfl) <| qr_ [0, 1, 2] <| pbx 46 (#[.slice A0 l.length cap0]) (.slice A0 l.length cap0) fun V1 gl egl h2 kV1 => ?_
  have n3 : w.heap.size ≤ gl := egl ▸ K0.size
  have h4 : SelsAt V1 (.slice A0 l.length cap0) l := hl.keepsN kV1
  have K5 := K0.nn kV1
  have z6 := kV1.size
  refine pbx 38 ((Msg.c m)) (.agg (Msg.c m)) fun V7 gm egm h8 kV7 => ?_
  have n9 : gl < gm := egm ▸ lt_of_block h2
  have n10 : w.heap.size ≤ gm := egm ▸ K5.size
  have h11 : SelsAt V7 (.slice A0 l.length cap0) l := h4.keepsN kV7
  have h12 := kV7.bk h2
  have K13 := K5.nn kV7
  have z14 := kV7.size
  refine pkq (.int .i64 0) <| eqr_ [0, 1, 2, 3, 4] <| pkq (.func (.func 59) #[] #[pT gm 0]) <| pkq (.func (.func 60) #[] #[pT gm 0, pT gl 0]) ?_
  obtain ⟨V15, eV15, gf, egf, h16, kV15⟩ := alloc_step V7 (#[.func (.func 59) #[] #[.pointer (some ⟨gm, 0, none⟩)], .func (.func 60) #[] #[.pointer (some ⟨gm, 0, none⟩), .pointer (some ⟨gl, 0, none⟩)]]) 80
  have n17 : gl < gf := egf ▸ lt_of_block h12
  have n18 : gm < gf := egf ▸ lt_of_block h8
  have n19 : w.heap.size ≤ gf := egf ▸ K13.size
  refine prq (.slice (some ⟨gf, 0, none⟩) 2 2) (w' := V15) (by rw [← eV15, ← egf]; kernel_rfl) ?_
  have h20 : SelsAt V15 (.slice A0 l.length cap0) l := h11.keepsN kV15
  have h21 := kV15.bk h12
  have h22 := kV15.bk h8
  have K23 := K13.nn kV15
  have z24 := kV15.size
  refine pcq 48 #[.slice (some ⟨gf, 0, none⟩) 2 2] Tryz.func48 ((efirst_ab 59 (pT gm 0) m.evi 60 (pT gm 0) (pT gl 0) (hasE l m.sls) gf _ h16 (enters_of Tryz.func59 (by kernel_rfl) rfl) (fun W k => eSigned1_ok m gm W hr (k.bk h22)) (enters_of Tryz.func60 (by kernel_rfl) rfl) (fun W k => eSigned2_ok A0 cap0 l m gm gl W ho (h20.keepsN k) hlr (k.bk h22) (k.bk h21))).mono ?_)
  rintro e V25 ⟨rfl, kV25⟩
  refine ⟨_, rfl, ?_⟩
  have K30 := K23.nn kV25
  have z31 := kV25.size
  refine pkq (.int .i64 (sgnd l m)) <| eu_ <| so_ (.int .i64 (sgnd l m)) ?_
  exact ⟨rfl, K30⟩
noncomputable def qc77_13 (n : Nat) : Code := partOf Tryz.f20 n
theorem eJudge_ok (p : Par) (n : Int) (A0 : Option Addr) (cap0 : Nat) (l : List Sel) (m : Msg) (w : World) (hp : p.Ok) (ho : m.Ok) (hl : SelsAt w (.slice A0 l.length cap0) l) (hlr : ∀ y ∈ l, y.r.length = 32) :
    Calls Tryz.prog 20 #[.agg p.cells, .slice A0 l.length cap0, .int .i64 n, .agg (Msg.c m)] w (fun e w' => e = .returned (.tuple #[.agg (jud p l n m).1.cs, .int .i64 (jud p l n m).2]) ∧ Keeps Nob w w') := by
  have hr := ho.R
  have K0 : Keeps Nob w w := Keeps.refl _ _
  refine sy_enter (qc77_13 1) ⟨#[.agg p.cells, .slice A0 l.length cap0, .int .i64 n, .agg (Msg.c m), ud, ud, ud, ud, ud, ud, ud, ud, ud, ud, ud, ud, ud, ud, ud, ud, ud, ud, ud, ud, ud, ud, ud, ud, ud, ud, ud, ud, ud, ud, ud, ud], []⟩ Tryz.func20 (by kernel_rfl) (by kernel_rfl) <| qr_ [0, 1, 2, 3] <| pbx 45 p.cells (.agg p.cells) fun V1 gp egp h2 kV1 => ?_
  have n3 : w.heap.size ≤ gp := egp ▸ K0.size
  have h4 : SelsAt V1 (.slice A0 l.length cap0) l := hl.keepsN kV1
  have K5 := K0.nn kV1
  have z6 := kV1.size
  refine pbx 38 ((Msg.c m)) (.agg (Msg.c m)) fun V7 gm egm h8 kV7 => ?_
  have n9 : gp < gm := egm ▸ lt_of_block h2
  have n10 : w.heap.size ≤ gm := egm ▸ K5.size
  have h11 : SelsAt V7 (.slice A0 l.length cap0) l := h4.keepsN kV7
  have h12 := kV7.bk h2
  have K13 := K5.nn kV7
  have z14 := kV7.size
  refine pal 49 (#[.int .i64 0, .int .i64 0, .int .i64 0]) (.agg (#[.int .i64 0, .int .i64 0, .int .i64 0])) fun V15 go ego h16 kV15 => ?_
  have n17 : gp < go := ego ▸ lt_of_block h12
  have n18 : gm < go := ego ▸ lt_of_block h8
  have n19 : w.heap.size ≤ go := ego ▸ K13.size
  have h20 : SelsAt V15 (.slice A0 l.length cap0) l := h11.keepsN kV15
  have h21 := kV15.bk h12
  have h22 := kV15.bk h8
  have K23 := K13.nn kV15
  have z24 := kV15.size
  refine pkq (.int .i64 0) <| eqr_ [0, 1, 2, 3, 4, 5, 6, 7, 8] <| ppq (.agg (p.cells)) (ldr 45 gp (h21) (by kernel_rfl)) <| ppq (.agg (Msg.c m)) (ldr 38 gm (h22) (by rw [Msg.c_size hr]; kernel_rfl)) ?_
  refine pcq 18 #[.agg (p.cells), .agg (Msg.c m)] Tryz.func18 ((eOffence_ok p m _ hp ho).mono ?_)
  rintro e V25 ⟨rfl, kV25⟩
  refine ⟨_, rfl, ?_⟩
  have h26 : SelsAt V25 (.slice A0 l.length cap0) l := h20.keepsN kV25
  have h27 := kV25.bk h21
  have h28 := kV25.bk h22
  have h29 := kV25.bk h16
  have K30 := K23.nn kV25
  have z31 := kV25.size
  refine pkq (.tuple #[.agg (Off.cs (offe p m).1), .int .i64 (offe p m).2]) <| pkq (.agg (Off.cs (offe p m).1)) <| pkq (.int .i64 (offe p m).2) <| pal 49 (#[.int .i64 0, .int .i64 0, .int .i64 0]) (.agg (#[.int .i64 0, .int .i64 0, .int .i64 0])) fun V32 gq egq h33 kV32 => ?_
  have n34 : gp < gq := egq ▸ lt_of_block h27
  have n35 : gm < gq := egq ▸ lt_of_block h28
  have n36 : go < gq := egq ▸ lt_of_block h29
  have n37 : w.heap.size ≤ gq := egq ▸ K30.size
  have h38 : SelsAt V32 (.slice A0 l.length cap0) l := h26.keepsN kV32
  have h40 := kV32.bk h28
  have h41 := kV32.bk h29
  have K42 := K30.nn kV32
  have z43 := kV32.size
  refine pst 49 gq ((Off.cs (offe p m).1)) h33 (by kernel_rfl) rfl (by kernel_rfl) fun V44 h45 kV44 => ?_
  have h46 : SelsAt V44 (.slice A0 l.length cap0) l := Sl.keepsB hl h38 kV44 (fun j e => by first | (unfold Own.One at e; omega) | omega)
  have h48 := kV44.bO h40
  have h49 := kV44.bO h41
  have K50 := K42.nO kV44
  have z51 := kV44.size
  refine pkq (.int .i64 (offe p m).2) <| eq_ <| qr_ [0, 1] ?_
  by_cases c0 : (offe p m).2 = 0
  · refine pkq (.int .i64 (offe p m).2) <| ppq (.bool false) (nqf (((offe p m).2) : Int) ((0) : Int) (by omega)) <| en_ <| s_ <| tq_ <| qr_ [0, 1, 2, 3] ?_
    by_cases c1 : n ≤ (offe p m).1.v
    · refine pkq (pT gq 0) <| ppq (.int .i64 ((offe p m).1).v) (ldc 3 gq 0 (rc (h45) (rfl))) <| pkq (.int .i64 n) <| ppq (.bool true) (dct (((((offe p m).1).v) : Int) ≥ ((n) : Int)) (by omega)) <| ey_ <| qr_ [0, 1, 2] <| pkq (.agg #[.int .i64 0, .int .i64 0, .int .i64 0]) <| pst 49 go (#[.int .i64 0, .int .i64 0, .int .i64 0]) h49 (by kernel_rfl) rfl (by kernel_rfl) fun V52 h53 kV52 => ?_
      have K58 := K50.nO kV52
      have z59 := kV52.size
      refine pkq (.int .i64 10) <| eu_ <| then_r <| sy_out (.tuple #[.agg (#[.int .i64 0, .int .i64 0, .int .i64 0]), .int .i64 10]) rfl (results_row_tmp (p := 8) (q := 9) (ty := 49) (by kernel_rfl) _ _ go 49 (#[.int .i64 0, .int .i64 0, .int .i64 0]) (0, 0) _ (.int .i64 10) (by kernel_rfl) h53 Tryz.underlying49 rfl (by kernel_rfl) (by kernel_rfl)) ?_
      exact ⟨by rw [jud, if_pos c0, if_pos c1]; (try rfl), K58⟩
    · refine pkq (pT gq 0) <| ppq (.int .i64 ((offe p m).1).v) (ldc 3 gq 0 (rc (h45) (rfl))) <| pkq (.int .i64 n) <| ppq (.bool false) (dcf (((((offe p m).1).v) : Int) ≥ ((n) : Int)) (by omega)) <| en_ <| s_ <| tq_ <| qr_ [0, 1, 2, 3] <| pkq (.slice A0 l.length cap0) <| ppq (.agg (Msg.c m)) (ldr 38 gm (h48) (by rw [Msg.c_size hr]; kernel_rfl)) ?_
      refine pcq 22 #[.slice A0 l.length cap0, .agg (Msg.c m)] Tryz.func22 ((eSigned_ok A0 cap0 l m _ ho h46 hlr).mono ?_)
      rintro e V60 ⟨rfl, kV60⟩
      refine ⟨_, rfl, ?_⟩
      have h64 := kV60.bk h49
      have h65 := kV60.bk h45
      have K66 := K50.nn kV60
      have z67 := kV60.size
      refine pkq (.int .i64 (sgnd l m)) <| eqr_ [0, 1] ?_
      by_cases c2 : sgnd l m = 0
      · refine pkq (.int .i64 (sgnd l m)) <| ppq (.bool false) (nqf ((sgnd l m) : Int) ((0) : Int) (by omega)) <| ps_end <| sy_a ⟨#[.agg p.cells, .slice A0 l.length cap0, .int .i64 n, .agg (Msg.c m), pT gp 0, ud, ud, pT gm 0, pT go 0, .int .i64 0, pT gq 0, .int .i64 (offe p m).2, .int .i64 (sgnd l m), .tuple #[.agg (Off.cs (offe p m).1), .int .i64 (offe p m).2], .agg (p.cells), .agg (Msg.c m), .tuple #[.agg (Off.cs (offe p m).1), .int .i64 (offe p m).2], .agg (Off.cs (offe p m).1), .int .i64 (offe p m).2, .int .i64 (offe p m).2, .bool false, ud, ud, pT gq 0, .int .i64 ((offe p m).1).v, .int .i64 n, .bool false, ud, .slice A0 l.length cap0, .agg (Msg.c m), .int .i64 (sgnd l m), .int .i64 (sgnd l m), .bool false, ud, ud, ud], []⟩ <| then_n <| n_ <| s_ <| tqr_ [0, 1, 2] <| ppq (.agg (Off.cs ((offe p m).1))) (ldr 49 gq (h65) (by kernel_rfl)) <| pst 49 go ((Off.cs ((offe p m).1))) h64 (by kernel_rfl) rfl (by kernel_rfl) fun V68 h69 kV68 => ?_
        have K74 := K66.nO kV68
        have z75 := kV68.size
        refine pkq (.int .i64 0) <| eu_ <| sy_out (.tuple #[.agg ((Off.cs ((offe p m).1))), .int .i64 0]) rfl (results_row_tmp (p := 8) (q := 9) (ty := 49) (by kernel_rfl) _ _ go 49 ((Off.cs ((offe p m).1))) (0, 0) _ (.int .i64 0) (by kernel_rfl) h69 Tryz.underlying49 rfl (by kernel_rfl) (by kernel_rfl)) ?_
        exact ⟨by rw [jud, if_pos c0, if_neg c1, if_pos c2]; (try rfl), K74⟩
      · refine pkq (.int .i64 (sgnd l m)) <| ppq (.bool true) (nqt ((sgnd l m) : Int) ((0) : Int) (by omega)) <| ps_end <| sy_a ⟨#[.agg p.cells, .slice A0 l.length cap0, .int .i64 n, .agg (Msg.c m), pT gp 0, ud, ud, pT gm 0, pT go 0, .int .i64 0, pT gq 0, .int .i64 (offe p m).2, .int .i64 (sgnd l m), .tuple #[.agg (Off.cs (offe p m).1), .int .i64 (offe p m).2], .agg (p.cells), .agg (Msg.c m), .tuple #[.agg (Off.cs (offe p m).1), .int .i64 (offe p m).2], .agg (Off.cs (offe p m).1), .int .i64 (offe p m).2, .int .i64 (offe p m).2, .bool false, ud, ud, pT gq 0, .int .i64 ((offe p m).1).v, .int .i64 n, .bool false, ud, .slice A0 l.length cap0, .agg (Msg.c m), .int .i64 (sgnd l m), .int .i64 (sgnd l m), .bool true, ud, ud, ud], []⟩ <| then_n <| y_ <| qr_ [0, 1, 2, 3] <| pkq (.agg #[.int .i64 0, .int .i64 0, .int .i64 0]) <| pkq (.int .i64 (sgnd l m)) <| pst 49 go (#[.int .i64 0, .int .i64 0, .int .i64 0]) h64 (by kernel_rfl) rfl (by kernel_rfl) fun V76 h77 kV76 => ?_
        have K82 := K66.nO kV76
        have z83 := kV76.size
        refine pkq (.int .i64 (sgnd l m)) <| eu_ <| then_r <| sy_out (.tuple #[.agg (#[.int .i64 0, .int .i64 0, .int .i64 0]), .int .i64 (sgnd l m)]) rfl (results_row_tmp (p := 8) (q := 9) (ty := 49) (by kernel_rfl) _ _ go 49 (#[.int .i64 0, .int .i64 0, .int .i64 0]) (0, 0) _ (.int .i64 (sgnd l m)) (by kernel_rfl) h77 Tryz.underlying49 rfl (by kernel_rfl) (by kernel_rfl)) ?_
        exact ⟨by rw [jud, if_pos c0, if_neg c1, if_neg c2]; (try rfl), K82⟩
  · refine pkq (.int .i64 (offe p m).2) <| ppq (.bool true) (nqt (((offe p m).2) : Int) ((0) : Int) (by omega)) <| ey_ <| qr_ [0, 1, 2, 3] <| pkq (.agg #[.int .i64 0, .int .i64 0, .int .i64 0]) <| pkq (.int .i64 (offe p m).2) <| pst 49 go (#[.int .i64 0, .int .i64 0, .int .i64 0]) h49 (by kernel_rfl) rfl (by kernel_rfl) fun V84 h85 kV84 => ?_
    have K90 := K50.nO kV84
    have z91 := kV84.size
    refine pkq (.int .i64 (offe p m).2) <| eu_ <| then_r <| sy_out (.tuple #[.agg (#[.int .i64 0, .int .i64 0, .int .i64 0]), .int .i64 (offe p m).2]) rfl (results_row_tmp (p := 8) (q := 9) (ty := 49) (by kernel_rfl) _ _ go 49 (#[.int .i64 0, .int .i64 0, .int .i64 0]) (0, 0) _ (.int .i64 (offe p m).2) (by kernel_rfl) h85 Tryz.underlying49 rfl (by kernel_rfl) (by kernel_rfl)) ?_
    exact ⟨by rw [jud, if_neg c0]; (try rfl), K90⟩
noncomputable def qc77_12 (n : Nat) : Code := partOf Tryz.f12 n
theorem eProve_ok (a b : Att) (w : World) (ha : a.Ok) (hb : b.Ok) :
    Calls Tryz.prog 12 #[.agg (Att.c a), .agg (Att.c b)] w (fun e w' => e = .returned (.tuple #[.agg (Msg.c (proves a b).1), .bool (proves a b).2]) ∧ Keeps Nob w w') := by
  have hr := ha.r
  have hs := hb.r
  have K0 : Keeps Nob w w := Keeps.refl _ _
  refine sy_enter (qc77_12 1) ⟨#[.agg (Att.c a), .agg (Att.c b), ud, ud, ud, ud, ud, ud, ud, ud, ud, ud, ud, ud, ud, ud, ud, ud, ud, ud, ud, ud, ud, ud, ud, ud, ud, ud, ud, ud, ud], []⟩ Tryz.func12 (by kernel_rfl) (by kernel_rfl) <| qr_ [0, 1, 2, 3] <| pbx 26 ((Att.c a)) (.agg (Att.c a)) fun V1 ga ega h2 kV1 => ?_
  have n3 : w.heap.size ≤ ga := ega ▸ K0.size
  have K4 := K0.nn kV1
  have z5 := kV1.size
  refine pbx 26 ((Att.c b)) (.agg (Att.c b)) fun V6 gb egb h7 kV6 => ?_
  have n8 : ga < gb := egb ▸ lt_of_block h2
  have n9 : w.heap.size ≤ gb := egb ▸ K4.size
  have h10 := kV6.bk h2
  have K11 := K4.nn kV6
  have z12 := kV6.size
  refine pal 38 ((Msg.c msgZ)) (.agg ((Msg.c msgZ))) fun V13 gr egr h14 kV13 => ?_
  have n15 : ga < gr := egr ▸ lt_of_block h10
  have n16 : gb < gr := egr ▸ lt_of_block h7
  have n17 : w.heap.size ≤ gr := egr ▸ K11.size
  have h18 := kV13.bk h10
  have h19 := kV13.bk h7
  have K20 := K11.nn kV13
  have z21 := kV13.size
  refine pkq (.bool false) <| eqr_ [0, 1, 2, 3, 4] <| ppq (.agg (Att.c a)) (ldr 26 ga (h18) (by rw [Att.c_size _ hr]; kernel_rfl)) <| ppq (.agg (Att.c b)) (ldr 26 gb (h19) (by rw [Att.c_size _ hs]; kernel_rfl)) <| ppq (.agg (Msg.c (evMs 0 a b))) (exec_build_fill 38 #[(0, .const (.int .i64 8)), (9, .tmp 7), (10, .tmp 8)] (by kernel_rfl) [(0, .int .i64 8), (9, .agg (Att.c a)), (10, .agg (Att.c b))] (by kernel_rfl) _ Tryz.underlying38 (.agg msgZ.c) (fun _ => by kernel_rfl) #[(0, 1), (1, 1), (2, 1), (3, 1), (4, 1), (5, 1), (6, 4), (10, 1), (11, 1), (12, 36), (48, 36), (84, 35), (119, 35)] (fun _ => by kernel_rfl) _ (fill_ab a b hr hs)) <| pal 38 ((Msg.c msgZ)) (.agg ((Msg.c msgZ))) fun V22 gm egm h23 kV22 => ?_
  have n24 : ga < gm := egm ▸ lt_of_block h18
  have n25 : gb < gm := egm ▸ lt_of_block h19
  have n26 : gr < gm := egm ▸ lt_of_block h14
  have n27 : w.heap.size ≤ gm := egm ▸ K20.size
  have h28 := kV22.bk h18
  have h29 := kV22.bk h19
  have h30 := kV22.bk h14
  have K31 := K20.nn kV22
  have z32 := kV22.size
  refine pst 38 gm ((Msg.c (evMs 0 a b))) h23 (by rw [Msg.c_size (evMs_R hr hs)]; kernel_rfl) (by rw [Msg.c_size (evMs_R hr hs)]; exact (Msg.c_size msgZ_R).symm) (Msg.c_one _) fun V33 h34 kV33 => ?_
  have h35 := kV33.bO h28
  have h36 := kV33.bO h29
  have h37 := kV33.bO h30
  have K38 := K31.nO kV33
  have z39 := kV33.size
  refine eq_ <| b_ 0 <| qr_ [0, 1, 2, 3] ?_
  by_cases c0 : doub a b = true
  · refine ppq (.agg (Att.c a)) (ldr 26 ga (h35) (by rw [Att.c_size _ hr]; kernel_rfl)) <| ppq (.agg (Att.c b)) (ldr 26 gb (h36) (by rw [Att.c_size _ hs]; kernel_rfl)) ?_
    refine pcq 32 #[.agg (Att.c a), .agg (Att.c b)] Tryz.func32 ((doubV _ ha hb c0).mono ?_)
    rintro e V40 ⟨rfl, kV40⟩
    refine ⟨_, rfl, ?_⟩
    have h43 := kV40.bk h37
    have h44 := kV40.bk h34
    have K45 := K38.nn kV40
    have z46 := kV40.size
    refine pkq (.bool true) <| ey_ <| r_ [0, 1] <| pkq (pT gm 11) <| pce 3 gm 11 (.int .i64 1) (Msg.c (NF.set ((evMs 0 a b)) 1 .pf)) h44 (rc (h44) (Msg.get_n (evMs_R hr hs) NF.pf)) (Msg.set_n (evMs_R hr hs) NF.pf _) fun V47 h48 kV47 => ?_
    have h51 := kV47.bO h43
    have K52 := K45.nO kV47
    have z53 := kV47.size
    refine ps_end <| blk_n <| tqr_ [0, 1, 2] <| ppq (.agg (Msg.c (NF.set ((evMs 0 a b)) 1 .pf))) (ldr 38 gm (h48) (by rw [Msg.c_size (NF.R (evMs_R hr hs))]; kernel_rfl)) <| pst 38 gr ((Msg.c (NF.set ((evMs 0 a b)) 1 .pf))) h51 (by rw [Msg.c_size (NF.R (evMs_R hr hs))]; kernel_rfl) (by rw [Msg.c_size (NF.R (evMs_R hr hs))]; exact (Msg.c_size msgZ_R).symm) (Msg.c_one _) fun V54 h55 kV54 => ?_
    have K59 := K52.nO kV54
    have z60 := kV54.size
    refine pkq (.bool true) <| eu_ <| sy_out (.tuple #[.agg (Msg.c (NF.set ((evMs 0 a b)) 1 .pf)), .bool true]) rfl (results_row_tmp (p := 4) (q := 5) (ty := 38) (by kernel_rfl) _ _ gr 38 (Msg.c (NF.set ((evMs 0 a b)) 1 .pf)) (0, 0) _ (.bool true) (by kernel_rfl) h55 Tryz.underlying38 rfl (by rw [Msg.c_size (NF.R (evMs_R hr hs))]; kernel_rfl) (by kernel_rfl)) ?_
    exact ⟨by rw [proves, if_pos c0]; (try rfl), K59⟩
  · have c0' := bnot c0
    refine ppq (.agg (Att.c a)) (ldr 26 ga (h35) (by rw [Att.c_size _ hr]; kernel_rfl)) <| ppq (.agg (Att.c b)) (ldr 26 gb (h36) (by rw [Att.c_size _ hs]; kernel_rfl)) ?_
    refine pcq 32 #[.agg (Att.c a), .agg (Att.c b)] Tryz.func32 ((doubV _ ha hb c0').mono ?_)
    rintro e V61 ⟨rfl, kV61⟩
    refine ⟨_, rfl, ?_⟩
    have h62 := kV61.bk h35
    have h63 := kV61.bk h36
    have h64 := kV61.bk h37
    have h65 := kV61.bk h34
    have K66 := K38.nn kV61
    have z67 := kV61.size
    refine pkq (.bool false) <| en_ <| qr_ [0, 1, 2, 3] ?_
    by_cases c1 : surr a b = true
    · refine ppq (.agg (Att.c a)) (ldr 26 ga (h62) (by rw [Att.c_size _ hr]; kernel_rfl)) <| ppq (.agg (Att.c b)) (ldr 26 gb (h63) (by rw [Att.c_size _ hs]; kernel_rfl)) ?_
      refine pcq 33 #[.agg (Att.c a), .agg (Att.c b)] Tryz.func33 ((surrV _ ha hb c1).mono ?_)
      rintro e V68 ⟨rfl, kV68⟩
      refine ⟨_, rfl, ?_⟩
      have h71 := kV68.bk h64
      have h72 := kV68.bk h65
      have K73 := K66.nn kV68
      have z74 := kV68.size
      refine pkq (.bool true) <| ey_ <| r_ [0, 1] <| pkq (pT gm 11) <| pce 3 gm 11 (.int .i64 2) (Msg.c (NF.set ((evMs 0 a b)) 2 .pf)) h72 (rc (h72) (Msg.get_n (evMs_R hr hs) NF.pf)) (Msg.set_n (evMs_R hr hs) NF.pf _) fun V75 h76 kV75 => ?_
      have h79 := kV75.bO h71
      have K80 := K73.nO kV75
      have z81 := kV75.size
      refine ps_end <| blk_n <| tqr_ [0, 1, 2] <| ppq (.agg (Msg.c (NF.set ((evMs 0 a b)) 2 .pf))) (ldr 38 gm (h76) (by rw [Msg.c_size (NF.R (evMs_R hr hs))]; kernel_rfl)) <| pst 38 gr ((Msg.c (NF.set ((evMs 0 a b)) 2 .pf))) h79 (by rw [Msg.c_size (NF.R (evMs_R hr hs))]; kernel_rfl) (by rw [Msg.c_size (NF.R (evMs_R hr hs))]; exact (Msg.c_size msgZ_R).symm) (Msg.c_one _) fun V82 h83 kV82 => ?_
      have K87 := K80.nO kV82
      have z88 := kV82.size
      refine pkq (.bool true) <| eu_ <| sy_out (.tuple #[.agg (Msg.c (NF.set ((evMs 0 a b)) 2 .pf)), .bool true]) rfl (results_row_tmp (p := 4) (q := 5) (ty := 38) (by kernel_rfl) _ _ gr 38 (Msg.c (NF.set ((evMs 0 a b)) 2 .pf)) (0, 0) _ (.bool true) (by kernel_rfl) h83 Tryz.underlying38 rfl (by rw [Msg.c_size (NF.R (evMs_R hr hs))]; kernel_rfl) (by kernel_rfl)) ?_
      exact ⟨by rw [proves, if_neg c0, if_pos c1]; (try rfl), K87⟩
    · have c1' := bnot c1
      refine ppq (.agg (Att.c a)) (ldr 26 ga (h62) (by rw [Att.c_size _ hr]; kernel_rfl)) <| ppq (.agg (Att.c b)) (ldr 26 gb (h63) (by rw [Att.c_size _ hs]; kernel_rfl)) ?_
      refine pcq 33 #[.agg (Att.c a), .agg (Att.c b)] Tryz.func33 ((surrV _ ha hb c1').mono ?_)
      rintro e V89 ⟨rfl, kV89⟩
      refine ⟨_, rfl, ?_⟩
      have h90 := kV89.bk h62
      have h91 := kV89.bk h63
      have h92 := kV89.bk h64
      have h93 := kV89.bk h65
      have K94 := K66.nn kV89
      have z95 := kV89.size
      refine pkq (.bool false) <| en_ <| qr_ [0, 1, 2, 3] ?_
      by_cases c2 : surr b a = true
      · refine ppq (.agg (Att.c b)) (ldr 26 gb (h91) (by rw [Att.c_size _ hs]; kernel_rfl)) <| ppq (.agg (Att.c a)) (ldr 26 ga (h90) (by rw [Att.c_size _ hr]; kernel_rfl)) ?_
        refine pcq 33 #[.agg (Att.c b), .agg (Att.c a)] Tryz.func33 ((surrV _ hb ha c2).mono ?_)
        rintro e V96 ⟨rfl, kV96⟩
        refine ⟨_, rfl, ?_⟩
        have h97 := kV96.bk h90
        have h98 := kV96.bk h91
        have h99 := kV96.bk h92
        have h100 := kV96.bk h93
        have K101 := K94.nn kV96
        have z102 := kV96.size
        refine pkq (.bool true) <| ey_ <| sy_np <| sy_reg <| an_begin 8 8 (opsAt (qc77_12 1854)) (fun W => (W.heap[ga]? = some (.cells (Att.c a) 26 (0, 0))) ∧ (W.heap[gb]? = some (.cells (Att.c b) 26 (0, 0)))) #[false, false, false, false, false, false, false, false] (by kernel_rfl) (by kernel_rfl) (by kernel_rfl) (by kernel_rfl) ?_
        obtain ⟨V103, eV103, kV103⟩ := drew_step V96
        rw [eV103]
        clear eV103
        have h104 := kV103.bk h97
        have h105 := kV103.bk h98
        have h106 := kV103.bk h99
        have h107 := kV103.bk h100
        have K108 := K101.nn kV103
        have z109 := kV103.size
        refine avq 0 (.agg (Att.c b)) (fun W hS => ldr 26 gb (hS.2) (by rw [Att.c_size _ hs]; kernel_rfl)) ⟨h104, h105⟩ <| avq 1 (.agg (Att.c a)) (fun W hS => ldr 26 ga (hS.1) (by rw [Att.c_size _ hr]; kernel_rfl)) ⟨h104, h105⟩ <| akq 2 (pT gm 11) ⟨h104, h105⟩ <| an_o 3 <| nce 3 gm 11 (.int .i64 2) (Msg.c (NF.set ((evMs 0 a b)) 2 .pf)) h107 (rc (h107) (Msg.get_n (evMs_R hr hs) NF.pf)) (Msg.set_n (evMs_R hr hs) NF.pf _) fun V110 h111 kV110 => ?_
        have h112 := kV110.bO h104
        have h113 := kV110.bO h105
        have h114 := kV110.bO h106
        have K115 := K108.nO kV110
        have z116 := kV110.size
        refine ⟨⟨h112, h113⟩, ?_⟩
        refine akq 4 (pT gm 12) ⟨h112, h113⟩ <| an_o 5 ?_
        obtain ⟨V117, eV117⟩ : ∃ V, V110.setCells gm 12 (Att.c b).toList = V := ⟨_, rfl⟩
        have kV117 : Keeps (One gm) V110 V117 := eV117 ▸ Keeps.setCells _ _ _ _
        have h118 : V117.heap[gm]? = some (.cells (Msg.c (putA (NF.set ((evMs 0 a b)) 2 .pf) b)) 38 (0, 0)) := eV117 ▸ (heap_setCells gm _ _ 12 _ _ h111 (show 12 + (Att.c b).toList.length ≤ _ by rw [(show (Att.c b).toList.length = 36 from Att.tl hs), Msg.c_size (NF.R (evMs_R hr hs))]; decide)).trans (congrArg (fun c => some (Obj.cells c 38 (0, 0))) (Msg.set_A (NF.R (evMs_R hr hs)) _ hs))
        refine nzq (w' := V117) (by rw [← eV117]; exact exec_store_mid 26 (.tmp 28) (.tmp 25) (by kernel_rfl) gm 12 (by kernel_rfl) (Att.c b) (by kernel_rfl) _ _ h111 (show 12 + (Att.c b).toList.length ≤ _ by rw [(show (Att.c b).toList.length = 36 from Att.tl hs), Msg.c_size (NF.R (evMs_R hr hs))]; decide) (by rw [Att.c_size _ hs]; kernel_rfl) (Att.c_one _)) ?_
        clear eV117
        have h119 := kV117.bO h112
        have h120 := kV117.bO h113
        have h121 := kV117.bO h114
        have K122 := K115.nO kV117
        have z123 := kV117.size
        refine ⟨⟨h119, h120⟩, ?_⟩
        refine akq 6 (pT gm 48) ⟨h119, h120⟩ <| an_o 7 ?_
        obtain ⟨V124, eV124⟩ : ∃ V, V117.setCells gm 48 (Att.c a).toList = V := ⟨_, rfl⟩
        have kV124 : Keeps (One gm) V117 V124 := eV124 ▸ Keeps.setCells _ _ _ _
        have h125 : V124.heap[gm]? = some (.cells (Msg.c (putB (putA (NF.set ((evMs 0 a b)) 2 .pf) b) a)) 38 (0, 0)) := eV124 ▸ (heap_setCells gm _ _ 48 _ _ h118 (show 48 + (Att.c a).toList.length ≤ _ by rw [(show (Att.c a).toList.length = 36 from Att.tl hr), Msg.c_size (putA_R (NF.R (evMs_R hr hs)) hs)]; decide)).trans (congrArg (fun c => some (Obj.cells c 38 (0, 0))) (Msg.set_B (putA_R (NF.R (evMs_R hr hs)) hs) _ hr))
        refine nzq (w' := V124) (by rw [← eV124]; exact exec_store_mid 26 (.tmp 29) (.tmp 26) (by kernel_rfl) gm 48 (by kernel_rfl) (Att.c a) (by kernel_rfl) _ _ h118 (show 48 + (Att.c a).toList.length ≤ _ by rw [(show (Att.c a).toList.length = 36 from Att.tl hr), Msg.c_size (putA_R (NF.R (evMs_R hr hs)) hs)]; decide) (by rw [Att.c_size _ hr]; kernel_rfl) (Att.c_one _)) ?_
        clear eV124
        have h126 := kV124.bO h119
        have h127 := kV124.bO h120
        have h128 := kV124.bO h121
        have K129 := K122.nO kV124
        have z130 := kV124.size
        refine ⟨⟨h126, h127⟩, ?_⟩
        refine an_end (by kernel_rfl) <| sy_a ⟨#[.agg (Att.c a), .agg (Att.c b), pT ga 0, pT gb 0, pT gr 0, .bool false, pT gm 0, .agg (Att.c a), .agg (Att.c b), .agg (Msg.c (evMs 0 a b)), ud, .bool false, .agg (Att.c a), .agg (Att.c b), .bool false, ud, .bool false, .agg (Att.c a), .agg (Att.c b), .bool false, ud, .bool true, .agg (Att.c b), .agg (Att.c a), .bool true, .agg (Att.c b), .agg (Att.c a), pT gm 11, pT gm 12, pT gm 48, ud], []⟩ <| blk_n <| tqr_ [0, 1, 2] <| ppq (.agg (Msg.c (putB (putA (NF.set ((evMs 0 a b)) 2 .pf) b) a))) (ldr 38 gm (h125) (by rw [Msg.c_size (putB_R (putA_R (NF.R (evMs_R hr hs)) hs) hr)]; kernel_rfl)) <| pst 38 gr ((Msg.c (putB (putA (NF.set ((evMs 0 a b)) 2 .pf) b) a))) h128 (by rw [Msg.c_size (putB_R (putA_R (NF.R (evMs_R hr hs)) hs) hr)]; kernel_rfl) (by rw [Msg.c_size (putB_R (putA_R (NF.R (evMs_R hr hs)) hs) hr)]; exact (Msg.c_size msgZ_R).symm) (Msg.c_one _) fun V131 h132 kV131 => ?_
        have K136 := K129.nO kV131
        have z137 := kV131.size
        refine pkq (.bool true) <| eu_ <| sy_out (.tuple #[.agg (Msg.c (putB (putA (NF.set ((evMs 0 a b)) 2 .pf) b) a)), .bool true]) rfl (results_row_tmp (p := 4) (q := 5) (ty := 38) (by kernel_rfl) _ _ gr 38 (Msg.c (putB (putA (NF.set ((evMs 0 a b)) 2 .pf) b) a)) (0, 0) _ (.bool true) (by kernel_rfl) h132 Tryz.underlying38 rfl (by rw [Msg.c_size (putB_R (putA_R (NF.R (evMs_R hr hs)) hs) hr)]; kernel_rfl) (by kernel_rfl)) ?_
        exact ⟨by rw [proves, if_neg c0, if_neg c1, if_pos c2]; (try rfl), K136⟩
      · have c2' := bnot c2
        refine ppq (.agg (Att.c b)) (ldr 26 gb (h91) (by rw [Att.c_size _ hs]; kernel_rfl)) <| ppq (.agg (Att.c a)) (ldr 26 ga (h90) (by rw [Att.c_size _ hr]; kernel_rfl)) ?_
        refine pcq 33 #[.agg (Att.c b), .agg (Att.c a)] Tryz.func33 ((surrV _ hb ha c2').mono ?_)
        rintro e V138 ⟨rfl, kV138⟩
        refine ⟨_, rfl, ?_⟩
        have h141 := kV138.bk h92
        have K143 := K94.nn kV138
        have z144 := kV138.size
        refine pkq (.bool false) <| en_ <| qr_ [0, 1, 2] <| pkq (.agg (Msg.c msgZ)) <| pst 38 gr ((Msg.c msgZ)) h141 (by rw [Msg.c_size msgZ_R]; kernel_rfl) rfl (Msg.c_one _) fun V145 h146 kV145 => ?_
        have K150 := K143.nO kV145
        have z151 := kV145.size
        refine pkq (.bool false) <| ps_end <| sy_a ⟨#[.agg (Att.c a), .agg (Att.c b), pT ga 0, pT gb 0, pT gr 0, .bool false, pT gm 0, .agg (Att.c a), .agg (Att.c b), .agg (Msg.c (evMs 0 a b)), .agg (Msg.c msgZ), .bool false, .agg (Att.c a), .agg (Att.c b), .bool false, ud, .bool false, .agg (Att.c a), .agg (Att.c b), .bool false, ud, .bool false, .agg (Att.c b), .agg (Att.c a), .bool false, ud, ud, ud, ud, ud, ud], []⟩ <| then_n <| u_ <| blk_r <| then_r <| sy_out (.tuple #[.agg (Msg.c msgZ), .bool false]) rfl (results_row_tmp (p := 4) (q := 5) (ty := 38) (by kernel_rfl) _ _ gr 38 (Msg.c msgZ) (0, 0) _ (.bool false) (by kernel_rfl) h146 Tryz.underlying38 rfl (by rw [Msg.c_size msgZ_R]; kernel_rfl) (by kernel_rfl)) ?_
        exact ⟨by rw [proves, if_neg c0, if_neg c1, if_neg c2]; (try rfl), K150⟩
end Go.Proofs.YtcbfnflnokoacaaGreat
namespace Go.Kec
set_option maxRecDepth 100000
set_option maxHeartbeats 4000000
def frc {α : Type} (x : Nat) (k : Nat → α) : α := Nat.rec (k 0) (fun n _ => k (Nat.succ n)) x
theorem frc_eq {α : Type} (x : Nat) (k : Nat → α) : frc x k = k x := by cases x <;> rfl
def frcL {α : Type} : List Nat → (List Nat → α) → α
  | [], k => k []
  | x :: r, k => frc x fun y => frcL r fun s => k (y :: s)
theorem frcL_eq {α : Type} (l : List Nat) (k : List Nat → α) : frcL l k = k l := by
  induction l generalizing k with
  | nil => rfl
  | cons x r ih => rw [frcL, frc_eq, ih]
def roundF {α : Type} (s : List Nat) (k : Nat) (c : List Nat → α) : α := frcL (columns s) fun a => frcL (moves a) fun b => frcL (mixes b) fun d => frcL (iota k d) c
theorem roundF_eq {α : Type} (s : List Nat) (k : Nat) (c : List Nat → α) : roundF s k c = c (round s k) := by simp only [roundF, frcL_eq]; rfl
def permF : List Nat → List Nat → List Nat
  | [], s => s
  | k :: r, s => roundF s k (permF r)
theorem permF_fold (l s : List Nat) : permF l s = l.foldl round s := by
  induction l generalizing s with
  | nil => rfl
  | cons k r ih => rw [permF, roundF_eq, ih]; rfl
theorem permF_eq (s : List Nat) : permF K s = perm s := permF_fold K s
end Go.Kec
namespace Go.Kec
set_option maxRecDepth 100000
set_option maxHeartbeats 4000000
theorem vote_one_p : perm [50462977, 0, 0, 0, 25769803776, 0, 0, 0, 0, 0, 0, 0, 0, 0, 0, 0, 9223372036854775808, 0, 0, 0, 0, 0, 0, 0, 0] = [16245493090752251077, 5317474693821651561, 11391869435923382831, 1177409735059797304, 6471790110808795169, 22975100334389075, 11618367326262577202, 2622276388299019195, 6020288525035422481, 5585398269194204248, 2998783168477571212, 2386240496570250823, 1487428597011492745, 2257054657724283516, 8884791250743104546, 12144257696813921918, 1514490699907962, 125065349427378253, 675734249579899971, 3131052237640124669, 2435136619821686349, 17110531364303804265, 14781712178505009804, 15239907632861048336, 9863921109811272620] := by
  rw [← permF_eq]; decide +kernel
theorem vote_one : sum [1, 1, 2, 3, 0, 0, 0, 0, 0, 0, 0, 0, 0, 0, 0, 0, 0, 0, 0, 0, 0, 0, 0, 0, 0, 0, 0, 0, 0, 0, 0, 0, 0, 0, 0, 0] = [197, 196, 89, 203, 228, 149, 115, 225, 105, 90, 94, 147, 15, 119, 203, 73, 47, 194, 215, 47, 229, 12, 24, 158, 56, 117, 83, 117, 234, 255, 86, 16] := by
  unfold sum takes
  rw [show mixin (stateOf [1, 1, 2, 3, 0, 0, 0, 0, 0, 0, 0, 0, 0, 0, 0, 0, 0, 0, 0, 0, 0, 0, 0, 0, 0, 0, 0, 0, 0, 0, 0, 0, 0, 0, 0, 0]) (lastBlock (restOf [1, 1, 2, 3, 0, 0, 0, 0, 0, 0, 0, 0, 0, 0, 0, 0, 0, 0, 0, 0, 0, 0, 0, 0, 0, 0, 0, 0, 0, 0, 0, 0, 0, 0, 0, 0])) = [50462977, 0, 0, 0, 25769803776, 0, 0, 0, 0, 0, 0, 0, 0, 0, 0, 0, 9223372036854775808, 0, 0, 0, 0, 0, 0, 0, 0] by decide +kernel, vote_one_p]
  decide +kernel
theorem vote_other_p : perm [50397441, 0, 0, 0, 25769803776, 0, 0, 0, 0, 0, 0, 0, 0, 0, 0, 0, 9223372036854775808, 0, 0, 0, 0, 0, 0, 0, 0] = [10278817104298907784, 14134970630840752888, 17363985685164303104, 18389485117995911768, 16872467568207025606, 9880550185199613785, 8702172063674108429, 13316258402160285168, 10236985223849689404, 5860379226928172647, 15829787594177647871, 6462967174338455390, 18021331280727149677, 15916898099768558152, 3679637874036185435, 12387242279299914377, 4235371239492183536, 5733416220640983090, 9353649997158515924, 3421662946199531572, 13558299609658487161, 9262926056336788377, 191223070837001956, 5369682799525405547, 5690039844963607325] := by
  rw [← permF_eq]; decide +kernel
theorem vote_other : sum [1, 1, 1, 3, 0, 0, 0, 0, 0, 0, 0, 0, 0, 0, 0, 0, 0, 0, 0, 0, 0, 0, 0, 0, 0, 0, 0, 0, 0, 0, 0, 0, 0, 0, 0, 0] = [136, 24, 242, 100, 178, 177, 165, 142, 248, 154, 215, 1, 230, 128, 41, 196, 0, 163, 47, 121, 251, 68, 249, 240, 88, 138, 122, 124, 72, 147, 52, 255] := by
  unfold sum takes
  rw [show mixin (stateOf [1, 1, 1, 3, 0, 0, 0, 0, 0, 0, 0, 0, 0, 0, 0, 0, 0, 0, 0, 0, 0, 0, 0, 0, 0, 0, 0, 0, 0, 0, 0, 0, 0, 0, 0, 0]) (lastBlock (restOf [1, 1, 1, 3, 0, 0, 0, 0, 0, 0, 0, 0, 0, 0, 0, 0, 0, 0, 0, 0, 0, 0, 0, 0, 0, 0, 0, 0, 0, 0, 0, 0, 0, 0, 0, 0])) = [50397441, 0, 0, 0, 25769803776, 0, 0, 0, 0, 0, 0, 0, 0, 0, 0, 0, 9223372036854775808, 0, 0, 0, 0, 0, 0, 0, 0] by decide +kernel, vote_other_p]
  decide +kernel
end Go.Kec
namespace Go.Proofs.YtcbfnflnokoacaaGreat
set_option maxRecDepth 100000
set_option maxHeartbeats 4000000
open Go Go.RowKit Go.Own Go.Shelf
def one (s t : Int) (g : Nat) : Att := ⟨1, s, t, zhash, g⟩
def chPar : Par := ⟨100, 100, 10, 8, 7, 8, 20, 50000000, 3, 50, 100000000⟩
theorem chPar_ok : chPar.Ok := by constructor <;> exact ⟨by decide, by decide⟩
theorem one_r (s t : Int) (g : Nat) : (one s t g).r.length = 32 := rfl
theorem i64b_0 : i64b 0 := by decide
theorem i64b_1 : i64b 1 := by decide
theorem i64b_8 : i64b 8 := by decide
theorem u64_0 : 0 < 2 ^ 64 := by decide
theorem proZ_ok : msgZ.p.Ok := ⟨i64b_0, i64b_0, rfl, u64_0⟩
theorem one_Ok {s t : Int} {g : Nat} (hs : i64b s) (ht : i64b t) (hg : g < 2 ^ 64) : (one s t g).Ok := ⟨i64b_1, hs, ht, rfl, hg⟩
theorem dig23 : (one 2 3 5).dig = Kec.sum [1, 1, 2, 3, 0, 0, 0, 0, 0, 0, 0, 0, 0, 0, 0, 0, 0, 0, 0, 0, 0, 0, 0, 0, 0, 0, 0, 0, 0, 0, 0, 0, 0, 0, 0, 0] := congrArg Kec.sum (show (one 2 3 5).bare = _ by kernel_rfl)
theorem dig13 : (one 1 3 6).dig = Kec.sum [1, 1, 1, 3, 0, 0, 0, 0, 0, 0, 0, 0, 0, 0, 0, 0, 0, 0, 0, 0, 0, 0, 0, 0, 0, 0, 0, 0, 0, 0, 0, 0, 0, 0, 0, 0] := congrArg Kec.sum (show (one 1 3 6).bare = _ by kernel_rfl)
theorem digs23 : ¬ (one 2 3 5).dig = (one 1 3 6).dig := by rw [dig23, dig13, Kec.vote_one, Kec.vote_other]; decide
theorem doub_ab : doub (one 2 3 5) (one 1 3 6) = true := decide_eq_true ⟨by decide, by decide, rfl, rfl, digs23⟩
theorem doub_aw : doub (one 2 3 5) (one 1 4 7) = false := decide_eq_false fun h => absurd h.2.2.2.1 (by decide)
theorem proves_ab : proves (one 2 3 5) (one 1 3 6) = (evMs 1 (one 2 3 5) (one 1 3 6), true) := by rw [proves, doub_ab]; rfl
theorem proves_aw : proves (one 2 3 5) (one 1 4 7) = (evMs 2 (one 1 4 7) (one 2 3 5), true) := by
  rw [proves, doub_aw, show surr (one 2 3 5) (one 1 4 7) = false by decide, show surr (one 1 4 7) (one 2 3 5) = true by decide]; rfl
theorem evMs_Ok {pf : Int} {a b : Att} (hp : i64b pf) (ha : a.Ok) (hb : b.Ok) : (evMs pf a b).Ok := ⟨i64b_8, i64b_0, i64b_0, i64b_0, u64_0, u64_0, i64b_0, i64b_0, i64b_0, i64b_0, i64b_0, hp, ha, hb, proZ_ok, proZ_ok⟩
theorem a_Ok : (one 2 3 5).Ok := one_Ok (by decide) (by decide) (by decide)
theorem b_Ok : (one 1 3 6).Ok := one_Ok (by decide) (by decide) (by decide)
theorem w_Ok : (one 1 4 7).Ok := one_Ok (by decide) (by decide) (by decide)
def exD : Msg := evMs 1 (one 2 3 5) (one 1 3 6)
def exW : Msg := evMs 2 (one 1 4 7) (one 2 3 5)
theorem exD_Ok : exD.Ok := evMs_Ok (by decide) a_Ok b_Ok
theorem exW_Ok : exW.Ok := evMs_Ok (by decide) w_Ok a_Ok
theorem chP_check : chPar.check = (0, 0) := by decide +kernel
theorem exD_chk : exD.chk = 0 := by kernel_rfl
theorem exW_chk : exW.chk = 0 := by kernel_rfl
theorem exD_evi : exD.evi = 0 := by rw [Msg.evi, exD_chk]; rfl
theorem exW_evi : exW.evi = 0 := by rw [Msg.evi, exW_chk]; rfl
theorem exD_cla : exD.cla = true := by show (if (1 : Int) = 1 then doub (one 2 3 5) (one 1 3 6) else _) = true; rw [if_pos rfl, doub_ab]
theorem exW_cla : exW.cla = true := by show (if (2 : Int) = 1 then _ else if (2 : Int) = 2 then surr (one 1 4 7) (one 2 3 5) else _) = true; rw [if_neg (by decide), if_pos rfl]; decide
theorem offE_of {p : Par} {m : Msg} (h1 : p.check.1 = 0) (h2 : m.evi = 0) (h3 : m.cla = true) : offE p m = 0 := by rw [offE, h1, h2, h3]; rfl
theorem exD_off : offe chPar exD = (⟨1, 1, 31⟩, 0) := by
  rw [offe, if_pos (offE_of (by rw [chP_check]) exD_evi exD_cla), show hgt chPar exD = (31, 0) by decide +kernel]; rfl
theorem exW_off : offe chPar exW = (⟨1, 1, 41⟩, 0) := by
  rw [offe, if_pos (offE_of (by rw [chP_check]) exW_evi exW_cla), show hgt chPar exW = (41, 0) by decide +kernel]; rfl
theorem exD_sg : sgnd [] exD = 15 := by rw [sgnd, exD_evi]; rfl
theorem off_guard : Tryz.prog.eqGuardType Tryz.prog.depth 49 = false := by kernel_rfl
theorem off_equal (a b : Off) (w : World) : (Op.equalIn 10000 49 (.agg a.cs) (.agg b.cs)).run Tryz.prog w = .ok (decide (a = b)) w := by
  rw [run_equalIn_struct w 9999 49 _ _ (by kernel_rfl) (by kernel_rfl)]
  simp only [Program.fieldsOf, Tryz.underlying49]
  rw [eqF_int (d := 9998) (k := .i64) (a := a.v) (b := b.v) w (by decide) Tryz.underlying3 (by kernel_rfl) rfl rfl, eqF_int (d := 9998) (k := .i64) (a := a.c) (b := b.c) w (by decide) Tryz.underlying3 (by kernel_rfl) rfl rfl, eqF_int (d := 9998) (k := .i64) (a := a.h) (b := b.h) w (by decide) Tryz.underlying3 (by kernel_rfl) rfl rfl]
  simp only [Op.eqFields, Sem.run_pure]
  obtain ⟨v, c, h⟩ := a
  obtain ⟨v', c', h'⟩ := b
  simp only [Off.mk.injEq]
  by_cases h1 : v = v' <;> by_cases h2 : c = c' <;> by_cases h3 : h = h' <;> simp [h1, h2, h3]
theorem off_eq (a b : Off) (w : World) : (binOp .eql 49 (.agg a.cs) (.agg b.cs)).run Tryz.prog w = .ok (.bool (decide (a = b))) w := by rw [run_eql_struct, off_equal a b]; rfl
theorem eProve_is {a b : Att} {m : Msg} {r : Bool} (w : World) (ha : a.Ok) (hb : b.Ok) (h : proves a b = (m, r)) : Calls Tryz.prog 12 #[.agg (Att.c a), .agg (Att.c b)] w fun e w' => e = .returned (.tuple #[.agg (Msg.c m), .bool r]) ∧ Keeps Nob w w' := by
  have := eProve_ok a b w ha hb; rw [h] at this; exact this
theorem eOffence_is {p : Par} {m : Msg} {o : Off} {x : Int} (w : World) (hp : p.Ok) (ho : m.Ok) (h : offe p m = (o, x)) : Calls Tryz.prog 18 #[.agg p.cells, .agg (Msg.c m)] w fun e w' => e = .returned (.tuple #[.agg o.cs, .int .i64 x]) ∧ Keeps Nob w w' := by
  have := eOffence_ok p m w hp ho; rw [h] at this; exact this
theorem eSigned_nil {m : Msg} {x : Int} (w : World) (ho : m.Ok) (h : sgnd [] m = x) : Calls Tryz.prog 22 #[.slice none 0 0, .agg (Msg.c m)] w fun e w' => e = .returned (.int .i64 x) ∧ Keeps Nob w w' := by
  subst h; exact eSigned_ok none 0 [] m w ho (Sl.nil _ _ _) (fun y hy => by cases hy)
noncomputable def qc80_4 (n : Nat) : Code := partOf Tryz.f25 n
theorem leone_ok (s t : Int) (g : Nat) (w : World) :
    Calls Tryz.prog 25 #[.int .i64 s, .int .i64 t, .int .u64 ((g : Nat) : Int)] w (fun e w' => e = .returned (.agg (Att.c (one s t g))) ∧ Keeps Nob w w') := by
  have K0 : Keeps Nob w w := Keeps.refl _ _
  refine sy_enter (qc80_4 1) ⟨#[.int .i64 s, .int .i64 t, uN g, ud, ud, ud, ud, ud, ud, ud, ud], []⟩ Tryz.func25 (by kernel_rfl) (by kernel_rfl) <| qr_ [0] <| pal 26 (#[.int .i64 0, .int .i64 0, .int .i64 0, .int .u8 0, .int .u8 0, .int .u8 0, .int .u8 0, .int .u8 0, .int .u8 0, .int .u8 0, .int .u8 0, .int .u8 0, .int .u8 0, .int .u8 0, .int .u8 0, .int .u8 0, .int .u8 0, .int .u8 0, .int .u8 0, .int .u8 0, .int .u8 0, .int .u8 0, .int .u8 0, .int .u8 0, .int .u8 0, .int .u8 0, .int .u8 0, .int .u8 0, .int .u8 0, .int .u8 0, .int .u8 0, .int .u8 0, .int .u8 0, .int .u8 0, .int .u8 0, .int .u64 0]) (.agg (#[.int .i64 0, .int .i64 0, .int .i64 0, .int .u8 0, .int .u8 0, .int .u8 0, .int .u8 0, .int .u8 0, .int .u8 0, .int .u8 0, .int .u8 0, .int .u8 0, .int .u8 0, .int .u8 0, .int .u8 0, .int .u8 0, .int .u8 0, .int .u8 0, .int .u8 0, .int .u8 0, .int .u8 0, .int .u8 0, .int .u8 0, .int .u8 0, .int .u8 0, .int .u8 0, .int .u8 0, .int .u8 0, .int .u8 0, .int .u8 0, .int .u8 0, .int .u8 0, .int .u8 0, .int .u8 0, .int .u8 0, .int .u64 0])) fun V1 gr egr h2 kV1 => ?_
  have n3 : w.heap.size ≤ gr := egr ▸ K0.size
  have K4 := K0.nn kV1
  have z5 := kV1.size
  refine eqr_ [0, 1, 2, 3, 4] <| pkq (.int .i64 s) <| pkq (.int .i64 t) <| pkq (uN g) <| pkq (.agg (Att.c (one s t g))) <| pst 26 gr ((Att.c (one s t g))) h2 (by kernel_rfl) (by kernel_rfl) (Att.c_one _) fun V6 h7 kV6 => ?_
  have K8 := K4.nO kV6
  have z9 := kV6.size
  refine eu_ <| sy_out (.agg (Att.c (one s t g))) rfl (results_cell_row (p := 6) (ty := 26) (by kernel_rfl) _ _ gr 26 (Att.c (one s t g)) (0, 0) _ (by kernel_rfl) h7 Tryz.underlying26 rfl (by rw [Att.c_size _ (one_r s t g)]; kernel_rfl)) ?_
  exact ⟨rfl, K8⟩
noncomputable def qc80_1 (n : Nat) : Code := partOf Tryz.f30 n
theorem lechapter_ok (w : World) :
    Calls Tryz.prog 30 #[] w (fun e w' => e = .returned (.agg chPar.cells) ∧ Keeps Nob w w') := by
  have K0 : Keeps Nob w w := Keeps.refl _ _
  refine sy_enter (qc80_1 1) ⟨#[ud, ud], []⟩ Tryz.func30 (by kernel_rfl) (by kernel_rfl) <| qr_ [0] <| pal 45 (#[.int .i64 0, .int .i64 0, .int .i64 0, .int .i64 0, .int .i64 0, .int .i64 0, .int .i64 0, .int .u64 0, .int .u64 0, .int .i64 0, .int .u64 0]) (.agg (#[.int .i64 0, .int .i64 0, .int .i64 0, .int .i64 0, .int .i64 0, .int .i64 0, .int .i64 0, .int .u64 0, .int .u64 0, .int .i64 0, .int .u64 0])) fun V1 gr egr h2 kV1 => ?_
  have n3 : w.heap.size ≤ gr := egr ▸ K0.size
  have K4 := K0.nn kV1
  have z5 := kV1.size
  refine eqr_ [0, 1] <| pkq (.agg chPar.cells) <| psk 45 gr chPar.cells h2 fun V6 h7 kV6 => ?_
  have K8 := K4.nO kV6
  have z9 := kV6.size
  refine eu_ <| sy_out (.agg chPar.cells) rfl (results_cell_row (p := 0) (ty := 45) (by kernel_rfl) _ _ gr 45 chPar.cells (0, 0) _ (by kernel_rfl) h7 Tryz.underlying45 rfl (by kernel_rfl)) ?_
  exact ⟨rfl, K8⟩
noncomputable def qc80_5 (n : Nat) : Code := partOf Tryz.f28 n
theorem leis_ok (m : Msg) (c h : Int) (w : World) (ho : m.Ok) (hoff : offe chPar m = (⟨1, c, h⟩, 0)) :
    Calls Tryz.prog 28 #[.agg (Msg.c m), .int .i64 c, .int .i64 h] w (fun e w' => e = .returned (.bool true) ∧ Keeps Nob w w') := by
  have hr := ho.R
  have K0 : Keeps Nob w w := Keeps.refl _ _
  refine sy_enter (qc80_5 1) ⟨#[.agg (Msg.c m), .int .i64 c, .int .i64 h, ud, ud, ud, ud, ud, ud, ud, ud, ud, ud, ud, ud, ud, ud, ud, ud, ud, ud, ud, ud, ud], []⟩ Tryz.func28 (by kernel_rfl) (by kernel_rfl) <| qr_ [0, 1] <| pbx 38 ((Msg.c m)) (.agg (Msg.c m)) fun V1 gm egm h2 kV1 => ?_
  have n3 : w.heap.size ≤ gm := egm ▸ K0.size
  have K4 := K0.nn kV1
  have z5 := kV1.size
  refine pkq (.bool false) <| eq_ ?_
  refine sy_cut (fun aQ VQ => ∃ (go : Nat), (aQ = ⟨#[.agg (Msg.c m), .int .i64 c, .int .i64 h, .pointer (some ⟨gm, 0, none⟩), ud, ud, .bool false, .pointer (some ⟨go, 0, none⟩), .int .i64 0, .tuple #[.agg (Off.cs ⟨1, c, h⟩), .int .i64 0], .agg chPar.cells, .agg (Msg.c m), .tuple #[.agg (Off.cs ⟨1, c, h⟩), .int .i64 0], .agg (Off.cs ⟨1, c, h⟩), .int .i64 0, ud, ud, ud, ud, ud, ud, ud, ud, ud], []⟩) ∧ (VQ.heap[gm]? = some (.cells (Msg.c m) 38 (0, 0))) ∧ (VQ.heap[go]? = some (.cells (Off.cs (⟨1, c, h⟩)) 49 (0, 0))) ∧ (go ≠ gm ∧ w.heap.size ≤ go ∧ V1.heap.size ≤ go) ∧ (Keeps Nob w VQ)) ?_ ?_
  · refine sy_np <| sy_reg <| an_begin 1 9 (opsAt (qc80_5 6)) (fun W => (W.heap[gm]? = some (.cells (Msg.c m) 38 (0, 0)))) #[false, false, false, false, false, false, false, false, false] (by kernel_rfl) (by kernel_rfl) (by kernel_rfl) (by kernel_rfl) ?_
    obtain ⟨V6, eV6, kV6⟩ := drew_step V1
    rw [eV6]
    clear eV6
    have h7 := kV6.bk h2
    have K8 := K4.nn kV6
    have z9 := kV6.size
    refine avq 1 (.agg (Msg.c m)) (fun W hS => ldr 38 gm (hS) (by rw [Msg.c_size hr]; kernel_rfl)) h7 ?_
    refine an_two 0 6 (by kernel_rfl) ?_ ?_
    · refine ncq 30 #[] Tryz.func30 ((lechapter_ok _).mono ?_)
      rintro e V10 ⟨rfl, kV10⟩
      refine ⟨_, rfl, ?_⟩
      have h11 := kV10.bk h7
      have K12 := K8.nn kV10
      have z13 := kV10.size
      refine ⟨h11, ?_⟩
      refine an_two 2 6 (by kernel_rfl) ?_ ?_
      · refine ncq 18 #[.agg chPar.cells, .agg (Msg.c m)] Tryz.func18 ((eOffence_is _ chPar_ok ho hoff).mono ?_)
        rintro e V14 ⟨rfl, kV14⟩
        refine ⟨_, rfl, ?_⟩
        have h15 := kV14.bk h11
        have K16 := K12.nn kV14
        have z17 := kV14.size
        refine ⟨h15, ?_⟩
        refine akq 3 (.tuple #[.agg (Off.cs ⟨1, c, h⟩), .int .i64 0]) h15 <| akq 4 (.agg (Off.cs ⟨1, c, h⟩)) h15 <| akq 5 (.int .i64 0) h15 <| an_o 6 <| nal 49 (#[.int .i64 0, .int .i64 0, .int .i64 0]) (.agg (#[.int .i64 0, .int .i64 0, .int .i64 0])) fun V18 go ego h19 kV18 => ?_
        have n20 : gm < go := ego ▸ lt_of_block h15
        have n21 : w.heap.size ≤ go := ego ▸ K16.size
        have h22 := kV18.bk h15
        have K23 := K16.nn kV18
        have z24 := kV18.size
        refine ⟨h22, ?_⟩
        refine an_o 7 <| nst 49 go ((Off.cs ⟨1, c, h⟩)) h19 (by kernel_rfl) rfl (by kernel_rfl) fun V25 h26 kV25 => ?_
        have h27 := kV25.bO h22
        have K28 := K23.nO kV25
        have z29 := kV25.size
        refine ⟨h27, ?_⟩
        refine an_o 8 <| nrq (.int .i64 0) (w' := V25) (by kernel_rfl) ?_
        refine ⟨h27, ?_⟩
        refine an_end (by kernel_rfl) ?_
        exact ⟨rfl, go, by kernel_rfl, h27, h26, by omega, K28⟩
      · refine nal 49 (#[.int .i64 0, .int .i64 0, .int .i64 0]) (.agg (#[.int .i64 0, .int .i64 0, .int .i64 0])) fun V30 go ego h31 kV30 => ?_
        have n32 : gm < go := ego ▸ lt_of_block h11
        have n33 : w.heap.size ≤ go := ego ▸ K12.size
        have h34 := kV30.bk h11
        have K35 := K12.nn kV30
        have z36 := kV30.size
        refine ⟨h34, ?_⟩
        refine an_o 2 ?_
        refine ncq 18 #[.agg chPar.cells, .agg (Msg.c m)] Tryz.func18 ((eOffence_is _ chPar_ok ho hoff).mono ?_)
        rintro e V37 ⟨rfl, kV37⟩
        refine ⟨_, rfl, ?_⟩
        have h38 := kV37.bk h34
        have h39 := kV37.bk h31
        have K40 := K35.nn kV37
        have z41 := kV37.size
        refine ⟨h38, ?_⟩
        refine akq 3 (.tuple #[.agg (Off.cs ⟨1, c, h⟩), .int .i64 0]) h38 <| akq 4 (.agg (Off.cs ⟨1, c, h⟩)) h38 <| akq 5 (.int .i64 0) h38 <| an_o 7 <| nst 49 go ((Off.cs ⟨1, c, h⟩)) h39 (by kernel_rfl) rfl (by kernel_rfl) fun V42 h43 kV42 => ?_
        have h44 := kV42.bO h38
        have K45 := K40.nO kV42
        have z46 := kV42.size
        refine ⟨h44, ?_⟩
        refine an_o 8 <| nrq (.int .i64 0) (w' := V42) (by kernel_rfl) ?_
        refine ⟨h44, ?_⟩
        refine an_end (by kernel_rfl) ?_
        exact ⟨rfl, go, by kernel_rfl, h44, h43, by omega, K45⟩
    · refine nal 49 (#[.int .i64 0, .int .i64 0, .int .i64 0]) (.agg (#[.int .i64 0, .int .i64 0, .int .i64 0])) fun V47 go ego h48 kV47 => ?_
      have n49 : gm < go := ego ▸ lt_of_block h7
      have n50 : w.heap.size ≤ go := ego ▸ K8.size
      have h51 := kV47.bk h7
      have K52 := K8.nn kV47
      have z53 := kV47.size
      refine ⟨h51, ?_⟩
      refine an_o 0 ?_
      refine ncq 30 #[] Tryz.func30 ((lechapter_ok _).mono ?_)
      rintro e V54 ⟨rfl, kV54⟩
      refine ⟨_, rfl, ?_⟩
      have h55 := kV54.bk h51
      have h56 := kV54.bk h48
      have K57 := K52.nn kV54
      have z58 := kV54.size
      refine ⟨h55, ?_⟩
      refine an_o 2 ?_
      refine ncq 18 #[.agg chPar.cells, .agg (Msg.c m)] Tryz.func18 ((eOffence_is _ chPar_ok ho hoff).mono ?_)
      rintro e V59 ⟨rfl, kV59⟩
      refine ⟨_, rfl, ?_⟩
      have h60 := kV59.bk h55
      have h61 := kV59.bk h56
      have K62 := K57.nn kV59
      have z63 := kV59.size
      refine ⟨h60, ?_⟩
      refine akq 3 (.tuple #[.agg (Off.cs ⟨1, c, h⟩), .int .i64 0]) h60 <| akq 4 (.agg (Off.cs ⟨1, c, h⟩)) h60 <| akq 5 (.int .i64 0) h60 <| an_o 7 <| nst 49 go ((Off.cs ⟨1, c, h⟩)) h61 (by kernel_rfl) rfl (by kernel_rfl) fun V64 h65 kV64 => ?_
      have h66 := kV64.bO h60
      have K67 := K62.nO kV64
      have z68 := kV64.size
      refine ⟨h66, ?_⟩
      refine an_o 8 <| nrq (.int .i64 0) (w' := V64) (by kernel_rfl) ?_
      refine ⟨h66, ?_⟩
      refine an_end (by kernel_rfl) ?_
      exact ⟨rfl, go, by kernel_rfl, h66, h65, by omega, K67⟩
  rintro aQ V69 ⟨go, rfl, h70, h71, hd72, K73⟩
  have z74 := lt_of_block h71
  refine tqr_ [0, 1, 2, 3, 4, 5, 6, 7, 8, 9] <| pkq (.int .i64 0) <| pkq (.bool true) <| pkq (.bool true) <| ppq (.agg (Off.cs (⟨1, c, h⟩))) (ldr 49 go (h71) (by kernel_rfl)) <| pkq (.int .i64 c) <| pkq (.int .i64 h) <| pkq (.agg (Off.cs ⟨1, c, h⟩)) <| ppq (.bool true) (exec_cast (congrArg Value.bool (by simp)) (exec_binop .eql 49 49 (.tmp 18) (.tmp 21) (by kernel_rfl) (.agg (Off.cs ⟨1, c, h⟩)) (.agg (Off.cs ⟨1, c, h⟩)) _ (by kernel_rfl) (by kernel_rfl) (run_eqGuard_agg _ _ _ _ _ _ _ off_guard) (off_eq _ _ _))) <| pkq (.bool true) <| pkq (.bool true) <| eu_ <| so_ (.bool true) ?_
  exact ⟨rfl, K73⟩
noncomputable def qc80_2 (n : Nat) : Code := partOf Tryz.f16 n
theorem leawake_ok (w : World) :
    Calls Tryz.prog 16 #[] w (fun e w' => e = .returned (.bool true) ∧ Keeps Nob w w') := by
  have K0 : Keeps Nob w w := Keeps.refl _ _
  refine sy_enter (qc80_2 1) ⟨#[ud, ud, ud, ud, ud, ud, ud, ud, ud, ud, ud, ud, ud, ud, ud, ud, ud, ud, ud, ud, ud, ud, ud, ud, ud, ud, ud, ud, ud, ud, ud, ud, ud, ud, ud, ud, ud, ud, ud, ud], []⟩ Tryz.func16 (by kernel_rfl) (by kernel_rfl) <| qr_ [0] <| pkq (.bool false) <| eqr_ [0, 1, 2, 3, 4, 5, 6, 7, 8] ?_
  refine pcq 25 #[.int .i64 2, .int .i64 3, .int .u64 5] Tryz.func25 ((leone_ok 2 3 5 _).mono ?_)
  rintro e V1 ⟨rfl, kV1⟩
  refine ⟨_, rfl, ?_⟩
  have K2 := K0.nn kV1
  have z3 := kV1.size
  refine pcq 25 #[.int .i64 1, .int .i64 3, .int .u64 6] Tryz.func25 ((leone_ok 1 3 6 _).mono ?_)
  rintro e V4 ⟨rfl, kV4⟩
  refine ⟨_, rfl, ?_⟩
  have K5 := K2.nn kV4
  have z6 := kV4.size
  refine pcq 12 #[.agg (Att.c (one 2 3 5)), .agg (Att.c (one 1 3 6))] Tryz.func12 ((eProve_is _ a_Ok b_Ok proves_ab).mono ?_)
  rintro e V7 ⟨rfl, kV7⟩
  refine ⟨_, rfl, ?_⟩
  have K8 := K5.nn kV7
  have z9 := kV7.size
  refine pkq (.tuple #[.agg (Msg.c exD), .bool true]) <| pkq (.agg (Msg.c exD)) <| pkq (.bool true) <| pal 38 ((Msg.c msgZ)) (.agg ((Msg.c msgZ))) fun V10 gd egd h11 kV10 => ?_
  have n12 : w.heap.size ≤ gd := egd ▸ K8.size
  have K13 := K8.nn kV10
  have z14 := kV10.size
  refine pst 38 gd ((Msg.c exD)) h11 (by kernel_rfl) (by kernel_rfl) (Msg.c_one _) fun V15 h16 kV15 => ?_
  have K17 := K13.nO kV15
  have z18 := kV15.size
  refine pkq (.bool true) <| eqr_ [0, 1, 2, 3, 4, 5, 6, 7, 8] ?_
  refine pcq 25 #[.int .i64 2, .int .i64 3, .int .u64 5] Tryz.func25 ((leone_ok 2 3 5 _).mono ?_)
  rintro e V19 ⟨rfl, kV19⟩
  refine ⟨_, rfl, ?_⟩
  have h20 := kV19.bk h16
  have K21 := K17.nn kV19
  have z22 := kV19.size
  refine pcq 25 #[.int .i64 1, .int .i64 4, .int .u64 7] Tryz.func25 ((leone_ok 1 4 7 _).mono ?_)
  rintro e V23 ⟨rfl, kV23⟩
  refine ⟨_, rfl, ?_⟩
  have h24 := kV23.bk h20
  have K25 := K21.nn kV23
  have z26 := kV23.size
  refine pcq 12 #[.agg (Att.c (one 2 3 5)), .agg (Att.c (one 1 4 7))] Tryz.func12 ((eProve_is _ a_Ok w_Ok proves_aw).mono ?_)
  rintro e V27 ⟨rfl, kV27⟩
  refine ⟨_, rfl, ?_⟩
  have h28 := kV27.bk h24
  have K29 := K25.nn kV27
  have z30 := kV27.size
  refine pkq (.tuple #[.agg (Msg.c exW), .bool true]) <| pkq (.agg (Msg.c exW)) <| pkq (.bool true) <| pal 38 ((Msg.c msgZ)) (.agg ((Msg.c msgZ))) fun V31 gw egw h32 kV31 => ?_
  have n33 : gd < gw := egw ▸ lt_of_block h28
  have n34 : w.heap.size ≤ gw := egw ▸ K29.size
  have h35 := kV31.bk h28
  have K36 := K29.nn kV31
  have z37 := kV31.size
  refine pst 38 gw ((Msg.c exW)) h32 (by kernel_rfl) (by kernel_rfl) (Msg.c_one _) fun V38 h39 kV38 => ?_
  have h40 := kV38.bO h35
  have K41 := K36.nO kV38
  have z42 := kV38.size
  refine pkq (.bool true) <| eq_ <| sy_np <| sy_reg <| an_begin 3 24 (opsAt (qc80_2 30)) (fun W => (W.heap[gd]? = some (.cells (Msg.c exD) 38 (0, 0))) ∧ (W.heap[gw]? = some (.cells (Msg.c exW) 38 (0, 0)))) #[false, false, false, false, false, false, false, false, false, false, false, false, false, false, false, false, false, false, false, false, false, false, false, false] (by kernel_rfl) (by kernel_rfl) (by kernel_rfl) (by kernel_rfl) ?_
  obtain ⟨V43, eV43, kV43⟩ := drew_step V38
  rw [eV43]
  clear eV43
  have h44 := kV43.bk h40
  have h45 := kV43.bk h39
  have K46 := K41.nn kV43
  have z47 := kV43.size
  refine akq 0 (.bool true) ⟨h44, h45⟩ <| akq 1 (.bool true) ⟨h44, h45⟩ <| akq 2 (.bool true) ⟨h44, h45⟩ <| akq 3 (.bool true) ⟨h44, h45⟩ <| akq 4 (.bool true) ⟨h44, h45⟩ <| akq 5 (pT gw 12) ⟨h44, h45⟩ <| avq 6 (.agg (Att.c (one 1 4 7))) (fun W hS => exec_load_seg 26 (.tmp 22) (by kernel_rfl) gw 12 (by kernel_rfl) (Att.c exW.a).toList _ _ _ hS.2 (Msg.seg_A exW_Ok.R) Tryz.underlying26 rfl (by kernel_rfl)) ⟨h44, h45⟩ <| an_o 7 ?_
  refine ncq 25 #[.int .i64 1, .int .i64 4, .int .u64 7] Tryz.func25 ((leone_ok 1 4 7 _).mono ?_)
  rintro e V48 ⟨rfl, kV48⟩
  refine ⟨_, rfl, ?_⟩
  have h49 := kV48.bk h44
  have h50 := kV48.bk h45
  have K51 := K46.nn kV48
  have z52 := kV48.size
  refine ⟨⟨h49, h50⟩, ?_⟩
  refine avq 8 (.bool true) (fun W hS => exec_cast (congrArg Value.bool (by simp)) (exec_binop .eql 26 26 (.tmp 23) (.tmp 24) (by kernel_rfl) (.agg (Att.c (one 1 4 7))) (.agg (Att.c (one 1 4 7))) _ (by kernel_rfl) (by kernel_rfl) (run_eqGuard_agg _ _ _ _ _ _ _ att_guard) (att_eq (one 1 4 7) (one 1 4 7) rfl rfl _))) ⟨h49, h50⟩ <| akq 9 (.bool true) ⟨h49, h50⟩ <| akq 10 (.bool true) ⟨h49, h50⟩ <| avq 11 (.agg (Msg.c exD)) (fun W hS => ldr 38 gd (hS.1) (by rw [Msg.c_size exD_Ok.R]; kernel_rfl)) ⟨h49, h50⟩ <| an_o 12 ?_
  refine ncq 28 #[.agg (Msg.c exD), .int .i64 1, .int .i64 31] Tryz.func28 ((leis_ok exD 1 31 _ exD_Ok exD_off).mono ?_)
  rintro e V53 ⟨rfl, kV53⟩
  refine ⟨_, rfl, ?_⟩
  have h54 := kV53.bk h49
  have h55 := kV53.bk h50
  have K56 := K51.nn kV53
  have z57 := kV53.size
  refine ⟨⟨h54, h55⟩, ?_⟩
  refine akq 13 (.bool true) ⟨h54, h55⟩ <| akq 14 (.bool true) ⟨h54, h55⟩ <| avq 15 (.agg (Msg.c exW)) (fun W hS => ldr 38 gw (hS.2) (by rw [Msg.c_size exW_Ok.R]; kernel_rfl)) ⟨h54, h55⟩ <| an_o 16 ?_
  refine ncq 28 #[.agg (Msg.c exW), .int .i64 1, .int .i64 41] Tryz.func28 ((leis_ok exW 1 41 _ exW_Ok exW_off).mono ?_)
  rintro e V58 ⟨rfl, kV58⟩
  refine ⟨_, rfl, ?_⟩
  have h59 := kV58.bk h54
  have h60 := kV58.bk h55
  have K61 := K56.nn kV58
  have z62 := kV58.size
  refine ⟨⟨h59, h60⟩, ?_⟩
  refine akq 17 (.bool true) ⟨h59, h60⟩ <| akq 18 (.bool true) ⟨h59, h60⟩ <| avq 19 (.agg (Msg.c exD)) (fun W hS => ldr 38 gd (hS.1) (by rw [Msg.c_size exD_Ok.R]; kernel_rfl)) ⟨h59, h60⟩ <| an_o 20 ?_
  refine ncq 22 #[.slice none 0 0, .agg (Msg.c exD)] Tryz.func22 ((eSigned_nil _ exD_Ok exD_sg).mono ?_)
  rintro e V63 ⟨rfl, kV63⟩
  refine ⟨_, rfl, ?_⟩
  have h64 := kV63.bk h59
  have h65 := kV63.bk h60
  have K66 := K61.nn kV63
  have z67 := kV63.size
  refine ⟨⟨h64, h65⟩, ?_⟩
  refine akq 21 (.bool true) ⟨h64, h65⟩ <| akq 22 (.bool true) ⟨h64, h65⟩ <| an_o 23 <| nrq (.bool true) (w' := V63) (by kernel_rfl) ?_
  refine ⟨⟨h64, h65⟩, ?_⟩
  refine an_end (by kernel_rfl) <| sy_a ⟨#[.bool true, pT gd 0, .bool true, pT gw 0, .bool true, .tuple #[.agg (Msg.c exD), .bool true], .agg (Att.c (one 2 3 5)), .agg (Att.c (one 1 3 6)), .tuple #[.agg (Msg.c exD), .bool true], .agg (Msg.c exD), .bool true, .tuple #[.agg (Msg.c exW), .bool true], .agg (Att.c (one 2 3 5)), .agg (Att.c (one 1 4 7)), .tuple #[.agg (Msg.c exW), .bool true], .agg (Msg.c exW), .bool true, .bool true, .bool true, .bool true, .bool true, .bool true, pT gw 12, .agg (Att.c (one 1 4 7)), .agg (Att.c (one 1 4 7)), .bool true, .bool true, .bool true, .agg (Msg.c exD), .bool true, .bool true, .bool true, .agg (Msg.c exW), .bool true, .bool true, .bool true, .agg (Msg.c exD), .int .i64 15, .bool true, .bool true], []⟩ <| then_n <| u_ <| so_ (.bool true) ?_
  exact ⟨rfl, K66⟩
end Go.Proofs.YtcbfnflnokoacaaGreat
namespace Go.Proofs.YtcbfnflnokoacaaGreat
set_option maxRecDepth 100000
set_option maxHeartbeats 4000000
open Go Go.RowKit Go.Own Go.Shelf
def Att.cl (a : Att) : List Value := a.c.toList
def Pro.cl (a : Pro) : List Value := a.c.toList
theorem Att.cl_len {a : Att} (h : a.Ok) : a.cl.length = 36 := by have := Att.c_size a h.r; simpa [Att.cl] using this
theorem Pro.cl_len {a : Pro} (h : a.Ok) : a.cl.length = 35 := by have := Pro.c_size a h.r; simpa [Pro.cl] using this
theorem sl_cases {α : Type} (l : List α) (p : α → Prop) [DecidablePred p] (i : Nat) (hi : i ≤ l.length) : (∃ x, i < l.length ∧ l[i]? = some x ∧ p x) ∨ (∃ x, i < l.length ∧ l[i]? = some x ∧ ¬ p x) ∨ i = l.length := by
  by_cases h : i < l.length
  · by_cases e : p l[i]
    · exact .inl ⟨_, h, List.getElem?_eq_getElem h, e⟩
    · exact .inr (.inl ⟨_, h, List.getElem?_eq_getElem h, e⟩)
  · exact .inr (.inr (by omega))
end Go.Proofs.YtcbfnflnokoacaaGreat
namespace Go.Kec
set_option maxRecDepth 100000
set_option maxHeartbeats 4000000
end Go.Kec
namespace Go.Proofs.YtcbfnflnokoacaaGreat
set_option maxRecDepth 100000
set_option maxHeartbeats 4000000
open Go Go.RowKit Go.Own Go.Shelf
theorem eJudge_is {p : Par} {l : List Sel} {n : Int} {m : Msg} {o : Off} {x : Int} {v : Value} (w : World) (hp : p.Ok) (ho : m.Ok) (hl : SelsAt w v l) (hlr : ∀ y ∈ l, y.r.length = 32) (h : jud p l n m = (o, x)) : Calls Tryz.prog 20 #[.agg p.cells, v, .int .i64 n, .agg (Msg.c m)] w fun e w' => e = .returned (.tuple #[.agg o.cs, .int .i64 x]) ∧ Keeps Nob w w' := by
  obtain ⟨A, cap, rfl, _⟩ := hl.form
  have := eJudge_ok p n A cap l m w hp ho hl hlr; rw [h] at this; exact this
theorem eSigned_is {l : List Sel} {m : Msg} {x : Int} {v : Value} (w : World) (ho : m.Ok) (hl : SelsAt w v l) (hlr : ∀ y ∈ l, y.r.length = 32) (h : sgnd l m = x) : Calls Tryz.prog 22 #[v, .agg (Msg.c m)] w fun e w' => e = .returned (.int .i64 x) ∧ Keeps Nob w w' := by
  subst h
  obtain ⟨A, cap, rfl, _⟩ := hl.form
  exact eSigned_ok A cap l m w ho hl hlr
end Go.Proofs.YtcbfnflnokoacaaGreat
namespace Go.Proofs.YtcbfnflnokoacaaGreat
set_option maxRecDepth 100000
set_option maxHeartbeats 4000000
open Go Go.RowKit Go.Own Go.Shelf
def In (ns : List Int) : List Value := ns.map fun x => .int .i64 x
theorem In_get {ns : List Int} {i : Nat} {x : Int} (h : ns[i]? = some x) : (In ns).toArray[i]? = some (.int .i64 x) := by simp [In, h]
def nT (ns : List Int) : List Thg := ns.map .n
theorem nT_get {ns : List Int} {i : Nat} {x : Int} (h : ns[i]? = some x) : (nT ns)[i]? = some (.n x) := by simp [nT, h]
theorem wrapNat {x : Int} (h0 : 0 ≤ x) (h1 : x ≤ 9223372036854775807) : IntKind.u64.wrap x = ((x.toNat : Nat) : Int) := by
  have e : x = ((x.toNat : Nat) : Int) := (Int.toNat_of_nonneg h0).symm
  have := wrapU x.toNat (by omega)
  rwa [← e] at this ⊢
theorem att_bare (a : Att) : allb (nT [1, a.v, a.s, a.t]) ++ a.r = a.bare := by simp [Att.bare, attT, nT, allb, Thg.by]
theorem pro_bare (a : Pro) : allb (nT [2, a.v, a.h]) ++ a.r = a.bare := by simp [Pro.bare, proT, nT, allb, Thg.by]
theorem Att.split (a : Att) : a.bytes = a.bare ++ Cod.enc a.g := by simp [Att.bytes, Att.bare, allb, Thg.by]
theorem Pro.split (a : Pro) : a.bytes = a.bare ++ Cod.enc a.g := by simp [Pro.bytes, Pro.bare, allb, Thg.by]
theorem byt_nT (ns : List Int) : byt (nT ns) ns.length = allb (nT ns) := by rw [← byt_all, nT, List.length_map]
theorem nT_len (ns : List Int) (i : Nat) : (byt (nT ns) i).length ≤ (allb (nT ns)).length := byt_le _ _
noncomputable def qc84_1 (n : Nat) : Code := partOf Tryz.f104 n
noncomputable abbrev qo84_1 (n k : Nat) : Oper := (opsAt (qc84_1 n)).getD k default
theorem rnumbers_ok (r : List UInt8) (g : Nat) (ns : List Int) (w : World) (h0 : w.heap[g]? = some (.cells (In ns).toArray 3 (0, 0))) (hr : r.length = 32) (hns : ∀ (k : Nat) (x : Int), ns[k]? = some x → 0 ≤ x ∧ x ≤ 9223372036854775807) (hl : (allb (nT ns)).length ≤ 1000) (hmax : ns.length ≤ 1000) :
    Calls Tryz.prog 104 #[.agg (B r).toArray, .slice (some ⟨g, 0, none⟩) ns.length ns.length] w (fun e w' => ∃ X, e = .returned X ∧ Row w' 5 1 X (allb (nT ns) ++ r).length (B (allb (nT ns) ++ r)) ∧ NewFrom w.heap.size X ∧ Keeps Nob w w') := by
  obtain ⟨i0, hi0, hz0, hz1, hz2⟩ := info_parts u8_info0
  have r0 : Row w 5 1 (.slice none 0 0) (byt (nT ns) 0).length (B (byt (nT ns) 0)) := World.ownsRow_nil _ _ _ _
  have K0 : Keeps Nob w w := Keeps.refl _ _
  refine sy_enter (qc84_1 1) ⟨#[.agg (B r).toArray, .slice (some ⟨g, 0, none⟩) ns.length ns.length, ud, ud, ud, ud, ud, ud, ud, ud, ud, ud, ud, ud, ud, ud, ud, ud, ud, ud, ud, ud, ud, ud], []⟩ Tryz.func104 (by kernel_rfl) (by kernel_rfl) <| qr_ [0, 1] <| pbx 23 ((B r).toArray) (.agg (B r).toArray) fun V1 gh egh h2 kV1 => ?_
  have n3 : w.heap.size ≤ gh := egh ▸ K0.size
  have h4 : Row V1 5 1 (.slice none 0 0) ((byt (nT ns) 0).length) (B (byt (nT ns) 0)) := r0.keeps kV1 (fun _ _ x => x)
  have K5 := K0.nn kV1
  have z6 := kV1.size
  refine pkq (.slice none 0 0) <| eqr_ [0] <| pkq (.slice none 0 0) <| eq_ <| qr_ [0] <| pkq (.int .i64 0) <| et_ <| b_ 0 ?_
  refine sy_loop (qc84_1 116) (fun a V => ∃ (i : Nat) (v : Value) (u7 u8 u9 u10 u11 u12 u13 u14 u15 u16 u17 u18 u19 u20 : Value), (a = ⟨#[.agg (B r).toArray, .slice (some ⟨g, 0, none⟩) ns.length ns.length, pT gh 0, ud, .slice none 0 0, v, iN i, u7, u8, u9, u10, u11, u12, u13, u14, u15, u16, u17, u18, u19, u20, ud, ud, ud], []⟩) ∧ (i ≤ ns.length) ∧ (Row V 5 1 v ((byt (nT ns) i).length) (B (byt (nT ns) i))) ∧ (V.heap[gh]? = some (.cells ((B r).toArray) 23 (0, 0))) ∧ (Keeps Nob w V) ∧ (NewFrom (gh + 1) v)) (fun a _ => ns.length - (intOf (a.tmps.getD 6 undef)).toNat) (by kernel_rfl) ?_ ?_
  · exact ⟨0, .slice none 0 0, undef, undef, undef, undef, undef, undef, undef, undef, undef, undef, undef, undef, undef, undef, by kernel_rfl, by omega, h4, h2, K5, NewFrom.nil _⟩
  · rintro a V7 ⟨i, v, u7, u8, u9, u10, u11, u12, u13, u14, u15, u16, u17, u18, u19, u20, rfl, hi, h8, h9, K10, hnw⟩
    by_cases lt_i : i < ns.length
    · obtain ⟨x, hx⟩ : ∃ x, ns[i]? = some x := ⟨_, List.getElem?_eq_getElem lt_i⟩
      have hx0 := hns i x hx
      have hbl := nT_len ns i
      have hen := Cod.enc_length x.toNat
      refine q_ <| qr_ [0, 1, 2, 3] <| pkq (iN i) <| pkq (.slice (some ⟨g, 0, none⟩) ns.length ns.length) <| ppq (iN ns.length) (exec_len (.tmp 8) 121 _ (by kernel_rfl) Tryz.underlying121 (some ⟨g, 0, none⟩) ns.length ns.length (by kernel_rfl)) <| ppq (.bool true) (dct ((((i : Nat) : Int)) < (((ns.length : Nat) : Int))) (by omega)) <| ey_ <| s_ <| tq_ <| b_ 1 <| r_ [0, 1, 2, 3, 4, 5, 6, 7, 8] <| pkq (v) <| pkq (.slice (some ⟨g, 0, none⟩) ns.length ns.length) <| pkq (iN i) ?_
      refine ppq (pT g i) (exec_cast (v := pT g (0 + i * 1)) (by simp) (exec_indexAt_slice 121 (.tmp 14) (.tmp 15) (by kernel_rfl) g 0 ns.length ns.length (by kernel_rfl) .i64 i (by kernel_rfl) _ 1 Tryz.underlying121 (by kernel_rfl) (by omega))) <| ppq (.int .i64 x) (ldc 3 g i ((cell_of_row _ _ _ _ _ _ ((K10.block g (lt_of_block h0) (fun x => x)).trans h0)).trans (In_get hx))) <| ppq (uN x.toNat) (exec_cast (congrArg (Value.int .u64) (wrapNat hx0.1 hx0.2)) (by kernel_rfl)) ?_
      refine pcq 138 #[uN x.toNat] Tryz.func138 ((rPut_ok x.toNat (by omega) _).mono ?_)
      rintro e V11 ⟨v8, rfl, hV11, hn8, hz8, kV11⟩
      refine ⟨_, rfl, ?_⟩
      have h12 : Row V11 5 1 v ((byt (nT ns) i).length) (B (byt (nT ns) i)) := h8.keeps kV11 (fun _ _ x => x)
      have h13 := kV11.bk h9
      have K14 := K10.nn kV11
      have z15 := kV11.size
      obtain ⟨v16, V17, hr18, h19, hg20, hn21, ha22⟩ := run_append_any (P := Tryz.prog) (w := V11) 114 (Oper.type (qo84_1 932 7)) 5 i0 (.int .u8 0) 1 1 Tryz.underlying114 hi0 hz0 hz1 hz2 rfl (by decide) v ((byt (nT ns) i).length) (B (byt (nT ns) i)) h12 v8 ((Cod.enc x.toNat).length) (B (Cod.enc x.toNat)) (Row.src hV11 (B_one _)) (by unfold maxLen; omega) (by omega)
      have kV17 : Keeps (fun j => v.ownBlock = some j) V11 V17 := Keeps.rowAdd hg20
      have hw23 : NewFrom (gh + 1) v16 := hnw.next (lt_of_block h13) ha22
      refine prq v16 (w' := V17) (exec_append (.tmp 13) (.tmp 19) 114 (by kernel_rfl) v v8 (by kernel_rfl) (by kernel_rfl) hr18) ?_
      have h24 : Row V17 5 1 v16 ((byt (nT ns) (i + 1)).length) (B (byt (nT ns) (i + 1))) := row_cast h19 (byt_succ (nT_get hx)).symm (by rw [byt_succ (nT_get hx), List.length_append]; rfl)
      have h25 : V17.heap[gh]? = some (.cells ((B r).toArray) 23 (0, 0)) := (kV17.block gh (lt_of_block h13) (fun e => by have := hnw _ e; omega)).trans h13
      have K26 : Keeps Nob w V17 := K14.then kV17 (fun i hi hm => absurd hi (by have := hnw i hm; omega))
      have z27 := kV17.size
      refine pkq (v16) <| ps_end <| blk_n <| tr_ [0, 1, 2] <| pkq (iN i) <| ppq (iN (i + 1)) (exec_cast (congrArg (Value.int .i64) (wrapN (i + 1) (by omega))) (by kernel_rfl)) <| pkq (iN (i + 1)) <| et_ ?_
      refine ⟨⟨i + 1, v16, (iN i), (.slice (some ⟨g, 0, none⟩) ns.length ns.length), (iN ns.length), (.bool true), (iN i), (iN (i + 1)), v, (.slice (some ⟨g, 0, none⟩) ns.length ns.length), (iN i), (pT g i), (.int .i64 x), (uN x.toNat), v8, v16, by kernel_rfl, by omega, h24, h25, K26, hw23⟩, ?_⟩
      exact lt_meas (x := ns.length - (i + 1)) (y := ns.length - i) (by kernel_rfl) (by kernel_rfl) (by omega)
    · have eq_i : i = ns.length := by omega
      have hbl := nT_len ns i
      refine q_ <| qr_ [0, 1, 2, 3] <| pkq (iN i) <| pkq (.slice (some ⟨g, 0, none⟩) ns.length ns.length) <| ppq (iN ns.length) (exec_len (.tmp 8) 121 _ (by kernel_rfl) Tryz.underlying121 (some ⟨g, 0, none⟩) ns.length ns.length (by kernel_rfl)) <| ppq (.bool false) (dcf ((((i : Nat) : Int)) < (((ns.length : Nat) : Int))) (by omega)) <| en_ <| sy_exit 0 (by kernel_rfl) <| then_e <| then_e <| blk_e <| tqr_ [0, 1, 2, 3] <| pkq (v) <| ppq (.slice (some ⟨gh, 0, none⟩) 32 32) (exec_slice_all 23 (.tmp 2) (by kernel_rfl) gh 0 (by kernel_rfl) 32 5 Tryz.underlying23 (by kernel_rfl)) ?_
      obtain ⟨v28, V29, hr30, h31, hg32, hn33, ha34⟩ := run_append_any (P := Tryz.prog) (w := V7) 114 (Oper.type (qo84_1 30 2)) 5 i0 (.int .u8 0) 1 1 Tryz.underlying114 hi0 hz0 hz1 hz2 rfl (by decide) v ((byt (nT ns) i).length) (B (byt (nT ns) i)) h8 (.slice (some ⟨gh, 0, none⟩) 32 32) 32 (B r) (src_block h9 1 32 (by simp [B_length, hr]) (by simpa using List.all_eq_true.2 (B_one r))) (by unfold maxLen; omega) (by omega)
      have kV29 : Keeps (fun j => v.ownBlock = some j) V7 V29 := Keeps.rowAdd hg32
      have hw35 : NewFrom (gh + 1) v28 := hnw.next (lt_of_block h9) ha34
      refine prq v28 (w' := V29) (exec_append (.tmp 21) (.tmp 22) 114 (by kernel_rfl) v (.slice (some ⟨gh, 0, none⟩) 32 32) (by kernel_rfl) (by kernel_rfl) hr30) ?_
      have h36 : Row V29 5 1 v28 ((allb (nT ns) ++ r).length) (B (allb (nT ns) ++ r)) := row_cast h31 (by rw [eq_i, byt_nT]) (by rw [eq_i, byt_nT, List.length_append, hr])
      have K38 : Keeps Nob w V29 := K10.then kV29 (fun i hi hm => absurd hi (by have := hnw i hm; omega))
      have z39 := kV29.size
      refine pkq (v28) <| eu_ <| so_ (v28) ?_
      exact ⟨_, rfl, h36, fun j hj => by have := hw35 j hj; omega, K38⟩
theorem numbers_Att (a : Att) {g : Nat} (w : World) (h0 : w.heap[g]? = some (.cells (In [1, a.v, a.s, a.t]).toArray 3 (0, 0))) (ha : a.Ok) (hf : a.fine) : Calls Tryz.prog 104 #[.agg (B a.r).toArray, .slice (some ⟨g, 0, none⟩) 4 4] w fun e w' => ∃ X, e = .returned X ∧ Row w' 5 1 X a.bare.length (B a.bare) ∧ NewFrom w.heap.size X ∧ Keeps Nob w w' := by
  have hl := (att_len ha.r).2
  rw [← att_bare, List.length_append, ha.r] at hl
  have := rnumbers_ok a.r g [1, a.v, a.s, a.t] w h0 ha.r (fun k x hx => att_okT ha hf k (.n x) (by match k, hx with | 0, hx => cases hx; rfl | 1, hx => cases hx; rfl | 2, hx => cases hx; rfl | 3, hx => cases hx; rfl | k + 4, hx => cases hx)) (by omega) (by simp)
  rwa [att_bare] at this
noncomputable def qc84_2 (n : Nat) : Code := partOf Tryz.f79 n
theorem rbare_ok (a : Att) (w : World) (ha : a.Ok) (hf : a.fine) :
    Calls Tryz.prog 79 #[.agg (Att.c a)] w (fun e w' => ∃ X, e = .returned X ∧ Row w' 5 1 X a.bare.length (B a.bare) ∧ NewFrom w.heap.size X ∧ Keeps Nob w w') := by
  have hr := ha.r
  have K0 : Keeps Nob w w := Keeps.refl _ _
  refine sy_enter (qc84_2 1) ⟨#[.agg (Att.c a), ud, ud, ud, ud, ud, ud, ud, ud, ud, ud, ud, ud], []⟩ Tryz.func79 (by kernel_rfl) (by kernel_rfl) <| qr_ [0, 1] <| pbx 26 ((Att.c a)) (.agg (Att.c a)) fun V1 ga ega h2 kV1 => ?_
  have n3 : w.heap.size ≤ ga := ega ▸ K0.size
  have K4 := K0.nn kV1
  have z5 := kV1.size
  refine pkq (.slice none 0 0) <| eqr_ [0, 1, 2, 3, 4, 5, 6, 7, 8, 9, 10] <| pkq (pT ga 3) <| ppq (.agg (B a.r).toArray) (exec_load_seg 23 (.tmp 3) (by kernel_rfl) ga 3 (by kernel_rfl) (B a.r) _ _ _ h2 (Att.c_seg _) Tryz.underlying23 rfl (by rw [B_length, hr]; kernel_rfl)) <| pkq (pT ga 0) <| ppq (.int .i64 a.v) (ldc 3 ga 0 (rc (h2) (Att.c_0 _))) <| pkq (pT ga 1) <| ppq (.int .i64 a.s) (ldc 3 ga 1 (rc (h2) (Att.c_1 _))) <| pkq (pT ga 2) <| ppq (.int .i64 a.t) (ldc 3 ga 2 (rc (h2) (Att.c_2 _))) ?_
  obtain ⟨V6, eV6, gl, egl, h7, kV6⟩ := alloc_step V1 (#[.int .i64 1, .int .i64 a.v, .int .i64 a.s, .int .i64 a.t]) 3
  have n8 : ga < gl := egl ▸ lt_of_block h2
  have n9 : w.heap.size ≤ gl := egl ▸ K4.size
  refine prq (.slice (some ⟨gl, 0, none⟩) 4 4) (w' := V6) (by rw [← eV6, ← egl]; kernel_rfl) ?_
  have K11 := K4.nn kV6
  have z12 := kV6.size
  refine pcq 104 #[.agg (B a.r).toArray, .slice (some ⟨gl, 0, none⟩) 4 4] Tryz.func104 ((numbers_Att a _ h7 ha hf).mono ?_)
  rintro e V13 ⟨X, rfl, hX, hnX, kV13⟩
  refine ⟨_, rfl, ?_⟩
  have K16 := K11.nn kV13
  have z17 := kV13.size
  refine pkq (X) <| eu_ <| so_ (X) ?_
  exact ⟨X, rfl, hX, fun j hj => by have := hnX j hj; omega, K16⟩
theorem rvCheck_is (a : Att) {x : Int} (w : World) (hr : a.r.length = 32) (hx : a.err = x) : Calls Tryz.prog 77 #[.agg (Att.c a)] w fun e w' => e = .returned (.int .i64 x) ∧ Keeps Nob w w' := by
  subst hx; exact rvCheck_ok a w hr
theorem numbers_Pro (a : Pro) {g : Nat} (w : World) (h0 : w.heap[g]? = some (.cells (In [2, a.v, a.h]).toArray 3 (0, 0))) (ha : a.Ok) (hf : a.fine) : Calls Tryz.prog 104 #[.agg (B a.r).toArray, .slice (some ⟨g, 0, none⟩) 3 3] w fun e w' => ∃ X, e = .returned X ∧ Row w' 5 1 X a.bare.length (B a.bare) ∧ NewFrom w.heap.size X ∧ Keeps Nob w w' := by
  have hl := (pro_len ha.r).2
  rw [← pro_bare, List.length_append, ha.r] at hl
  have := rnumbers_ok a.r g [2, a.v, a.h] w h0 ha.r (fun k x hx => pro_okT ha hf k (.n x) (by match k, hx with | 0, hx => cases hx; rfl | 1, hx => cases hx; rfl | 2, hx => cases hx; rfl | k + 3, hx => cases hx)) (by omega) (by simp)
  rwa [pro_bare] at this
noncomputable def qc84_0 (n : Nat) : Code := partOf Tryz.f81 n
theorem rbareBlock_ok (a : Pro) (w : World) (ha : a.Ok) (hf : a.fine) :
    Calls Tryz.prog 81 #[.agg (Pro.c a)] w (fun e w' => ∃ X, e = .returned X ∧ Row w' 5 1 X a.bare.length (B a.bare) ∧ NewFrom w.heap.size X ∧ Keeps Nob w w') := by
  have hr := ha.r
  have K0 : Keeps Nob w w := Keeps.refl _ _
  refine sy_enter (qc84_0 1) ⟨#[.agg (Pro.c a), ud, ud, ud, ud, ud, ud, ud, ud, ud, ud], []⟩ Tryz.func81 (by kernel_rfl) (by kernel_rfl) <| qr_ [0, 1] <| pbx 28 ((Pro.c a)) (.agg (Pro.c a)) fun V1 ga ega h2 kV1 => ?_
  have n3 : w.heap.size ≤ ga := ega ▸ K0.size
  have K4 := K0.nn kV1
  have z5 := kV1.size
  refine pkq (.slice none 0 0) <| eqr_ [0, 1, 2, 3, 4, 5, 6, 7, 8] <| pkq (pT ga 2) <| ppq (.agg (B a.r).toArray) (exec_load_seg 23 (.tmp 3) (by kernel_rfl) ga 2 (by kernel_rfl) (B a.r) _ _ _ h2 (Pro.c_seg _) Tryz.underlying23 rfl (by rw [B_length, hr]; kernel_rfl)) <| pkq (pT ga 0) <| ppq (.int .i64 a.v) (ldc 3 ga 0 (rc (h2) (Pro.c_0 _))) <| pkq (pT ga 1) <| ppq (.int .i64 a.h) (ldc 3 ga 1 (rc (h2) (Pro.c_1 _))) ?_
  obtain ⟨V6, eV6, gl, egl, h7, kV6⟩ := alloc_step V1 (#[.int .i64 2, .int .i64 a.v, .int .i64 a.h]) 3
  have n8 : ga < gl := egl ▸ lt_of_block h2
  have n9 : w.heap.size ≤ gl := egl ▸ K4.size
  refine prq (.slice (some ⟨gl, 0, none⟩) 3 3) (w' := V6) (by rw [← eV6, ← egl]; kernel_rfl) ?_
  have K11 := K4.nn kV6
  have z12 := kV6.size
  refine pcq 104 #[.agg (B a.r).toArray, .slice (some ⟨gl, 0, none⟩) 3 3] Tryz.func104 ((numbers_Pro a _ h7 ha hf).mono ?_)
  rintro e V13 ⟨X, rfl, hX, hnX, kV13⟩
  refine ⟨_, rfl, ?_⟩
  have K16 := K11.nn kV13
  have z17 := kV13.size
  refine pkq (X) <| eu_ <| so_ (X) ?_
  exact ⟨X, rfl, hX, fun j hj => by have := hnX j hj; omega, K16⟩
theorem rvCheckBlock_is (a : Pro) {x : Int} (w : World) (hr : a.r.length = 32) (hx : a.err = x) : Calls Tryz.prog 80 #[.agg (Pro.c a)] w fun e w' => e = .returned (.int .i64 x) ∧ Keeps Nob w w' := by
  subst hx; exact rvCheckBlock_ok a w hr
end Go.Proofs.YtcbfnflnokoacaaGreat
namespace Go.Proofs.YtcbfnflnokoacaaGreat
set_option maxRecDepth 100000
set_option maxHeartbeats 4000000
open Go Go.RowKit Go.Own Go.Shelf
theorem rot_zero (x : Nat) (h : x < Kec.W) : Kec.rot x 0 = x := by
  unfold Kec.rot
  rw [Nat.shiftLeft_zero, Nat.mod_eq_of_lt h, Nat.shiftRight_eq_div_pow, Nat.div_eq_of_lt (by rw [Kec.W_eq] at h; exact h), Nat.or_zero]
/-- Columns' sums, word by word. -/
def ccn (s : List Nat) (n : Nat) : List Nat := (List.range n).foldl (fun t i => t.set (i / 5) (Kec.g t (i / 5) ^^^ Kec.g s (Kec.at_ (i / 5) (i % 5)))) [0, 0, 0, 0, 0]
theorem ccn_succ (s : List Nat) (x y : Nat) (hy : y < 5) : (ccn s (5 * x + y)).set x (Kec.g (ccn s (5 * x + y)) x ^^^ Kec.g s (Kec.at_ x y)) = ccn s (5 * x + (y + 1)) := by
  show _ = ccn s (5 * x + y + 1)
  conv => rhs; unfold ccn
  rw [List.range_succ, List.foldl_append]
  show _ = List.set (ccn s (5 * x + y)) _ (Kec.g (ccn s (5 * x + y)) _ ^^^ _)
  rw [show (5 * x + y) / 5 = x by omega, show (5 * x + y) % 5 = y by omega]
theorem ccn_len (s : List Nat) (n : Nat) : (ccn s n).length = 5 := by
  induction n with
  | zero => rfl
  | succ n ih => unfold ccn at *; rw [List.range_succ, List.foldl_append]; simpa using ih
theorem ws_ccn {s : List Nat} (ws : Kec.Ws s) (n : Nat) : Kec.Ws (ccn s n) := by
  induction n with
  | zero => intro i; show Kec.g [0, 0, 0, 0, 0] i < Kec.W; by_cases h : i < 5
            · have : ∀ j : Fin 5, Kec.g [0, 0, 0, 0, 0] j.val < Kec.W := by decide
              exact this ⟨i, h⟩
            · rw [Kec.g_big _ _ (by simp; omega)]; exact Kec.W_pos
  | succ n ih => unfold ccn at *; rw [List.range_succ, List.foldl_append]; exact Kec.ws_set ih _ _ (Kec.xor_lt (ih _) (ws _))
theorem ccn_all (s : List Nat) : ccn s 25 = (List.range 5).map (Kec.col s) := by
  have h : ccn s 25 = (List.range 5).map fun x => 0 ^^^ Kec.g s x ^^^ Kec.g s (x + 5) ^^^ Kec.g s (x + 10) ^^^ Kec.g s (x + 15) ^^^ Kec.g s (x + 20) := by kernel_rfl
  rw [h]
  refine List.map_congr_left fun x _ => ?_
  unfold Kec.col
  rw [Nat.zero_xor]
/-- Words moved, one by one. -/
def mmn (s : List Nat) (n : Nat) : List Nat := (List.range n).foldl (fun t i => t.set (Kec.at_ (i % 5) (2 * (i / 5) + 3 * (i % 5))) (Kec.rot (Kec.g s (Kec.at_ (i / 5) (i % 5)) ^^^ Kec.dd s (i / 5)) (Kec.g Kec.R (Kec.at_ (i / 5) (i % 5))))) Kec.zero
theorem mmn_succ (s : List Nat) (x y : Nat) (hy : y < 5) : (mmn s (5 * x + y)).set (Kec.at_ y (2 * x + 3 * y)) (Kec.rot (Kec.g s (Kec.at_ x y) ^^^ Kec.dd s x) (Kec.g Kec.R (Kec.at_ x y))) = mmn s (5 * x + (y + 1)) := by
  show _ = mmn s (5 * x + y + 1)
  conv => rhs; unfold mmn
  rw [List.range_succ, List.foldl_append]
  show _ = List.set (mmn s (5 * x + y)) _ _
  rw [show (5 * x + y) / 5 = x by omega, show (5 * x + y) % 5 = y by omega]
theorem mmn_len (s : List Nat) (n : Nat) : (mmn s n).length = 25 := by
  induction n with
  | zero => rfl
  | succ n ih => unfold mmn at *; rw [List.range_succ, List.foldl_append]; simpa using ih
theorem mmn_all (s : List Nat) : mmn s 25 = Kec.moves (Kec.columns s) := by kernel_rfl
/-- Words mixed, one by one. -/
def xxn (b : List Nat) (n : Nat) : List Nat → List Nat := fun a => (List.range n).foldl (fun t i => t.set (Kec.at_ (i / 5) (i % 5)) (Kec.g b (Kec.at_ (i / 5) (i % 5)) ^^^ ((Kec.W - 1 - Kec.g b (Kec.at_ (i / 5 + 1) (i % 5))) &&& Kec.g b (Kec.at_ (i / 5 + 2) (i % 5))))) a
theorem xxn_succ (a b : List Nat) (x y : Nat) (hy : y < 5) : (xxn b (5 * x + y) a).set (Kec.at_ x y) (Kec.g b (Kec.at_ x y) ^^^ ((Kec.W - 1 - Kec.g b (Kec.at_ (x + 1) y)) &&& Kec.g b (Kec.at_ (x + 2) y))) = xxn b (5 * x + (y + 1)) a := by
  show _ = xxn b (5 * x + y + 1) a
  conv => rhs; unfold xxn
  rw [List.range_succ, List.foldl_append]
  show _ = List.set (xxn b (5 * x + y) a) _ _
  rw [show (5 * x + y) / 5 = x by omega, show (5 * x + y) % 5 = y by omega]
theorem xxn_len (a b : List Nat) (n : Nat) : (xxn b n a).length = a.length := by
  induction n with
  | zero => rfl
  | succ n ih => unfold xxn at *; rw [List.range_succ, List.foldl_append]; simpa using ih
theorem xxn_all (a b : List Nat) (ha : a.length = 25) : xxn b 25 a = Kec.mixes b := by
  match a, ha with
  | [a0, a1, a2, a3, a4, a5, a6, a7, a8, a9, b0, b1, b2, b3, b4, b5, b6, b7, b8, b9, c0, c1, c2, c3, c4], _ => show xxn b 25 [a0, a1, a2, a3, a4, a5, a6, a7, a8, a9, b0, b1, b2, b3, b4, b5, b6, b7, b8, b9, c0, c1, c2, c3, c4] = Kec.mixes b; kernel_rfl
/-- The constants' register. -/
theorem regn_small (k r : Nat) (h : r = Kec.regn k) (h2 : ¬ 255 < 2 * r) : 2 * r = Kec.regn (k + 1) := by
  subst h; rw [show Kec.regn (k + 1) = if 256 ≤ 2 * Kec.regn k then ((2 * Kec.regn k) &&& 255) ^^^ 113 else 2 * Kec.regn k from rfl, if_neg (by omega)]
theorem regn_big (k r : Nat) (h : r = Kec.regn k) (h2 : 255 < 2 * r) : (2 * r % 256) ^^^ 113 = Kec.regn (k + 1) := by
  subst h; rw [show Kec.regn (k + 1) = if 256 ≤ 2 * Kec.regn k then ((2 * Kec.regn k) &&& 255) ^^^ 113 else 2 * Kec.regn k from rfl, if_pos (by omega), show (255 : Nat) = 2 ^ 8 - 1 from rfl, Nat.and_two_pow_sub_one_eq_mod]
theorem outn_step (i j : Nat) (hj : j < 7) : Kec.outn (7 * i + (j + 1)) = (Kec.outn (7 * i + j)).set i (Kec.g (Kec.outn (7 * i + j)) i ||| (Kec.bitn (7 * i + j) <<< (1 <<< j - 1)) % Kec.W) := by
  rw [show 7 * i + (j + 1) = 7 * i + j + 1 from rfl, show Kec.outn (7 * i + j + 1) = (Kec.outn (7 * i + j)).set ((7 * i + j) / 7) (Kec.g (Kec.outn (7 * i + j)) ((7 * i + j) / 7) ||| (Kec.bitn (7 * i + j) <<< (1 <<< ((7 * i + j) % 7) - 1)) % Kec.W) from rfl,
    show (7 * i + j) / 7 = i by omega, show (7 * i + j) % 7 = j by omega]
theorem outn_odd (i j r : Nat) (hj : j < 7) (hr : r = Kec.regn (7 * i + j)) (h : r % 2 = 1) : (Kec.outn (7 * i + j)).set i (Kec.g (Kec.outn (7 * i + j)) i ||| (1 <<< (1 <<< j - 1)) % Kec.W) = Kec.outn (7 * i + (j + 1)) := by
  have hb : Kec.bitn (7 * i + j) = 1 := by unfold Kec.bitn; rw [← hr, show (1 : Nat) = 2 ^ 1 - 1 from rfl, Nat.and_two_pow_sub_one_eq_mod]; exact h
  rw [outn_step i j hj, hb]
theorem outn_even (i j r : Nat) (hi : i < 24) (hj : j < 7) (hr : r = Kec.regn (7 * i + j)) (h : ¬ r % 2 = 1) : Kec.outn (7 * i + j) = Kec.outn (7 * i + (j + 1)) := by
  have hb : Kec.bitn (7 * i + j) = 0 := by unfold Kec.bitn; rw [← hr, show (1 : Nat) = 2 ^ 1 - 1 from rfl, Nat.and_two_pow_sub_one_eq_mod]; simp; omega
  have hl : i < (Kec.outn (7 * i + j)).length := by rw [Kec.outn_len]; exact hi
  rw [outn_step i j hj, hb, Nat.zero_shiftLeft, Nat.zero_mod, Nat.or_zero]
  unfold Kec.g
  rw [List.getD_eq_getElem?_getD, List.getElem?_eq_getElem hl]
  simp
theorem xor113 (r : Nat) (h : r < 256) : Value.int .i64 (bits .xor .i64 (r : Int) 113) = .int .i64 ((r ^^^ 113 : Nat) : Int) := by
  have : ∀ j : Fin 256, bits .xor .i64 ((j.val : Nat) : Int) 113 = ((j.val ^^^ 113 : Nat) : Int) := by decide +kernel
  exact congrArg _ (this ⟨r, h⟩)
noncomputable def qc85_2 (n : Nat) : Code := partOf Tryz.f156 n
noncomputable abbrev qo85_2 (n k : Nat) : Oper := (opsAt (qc85_2 n)).getD k default
theorem hrot_zero (x n : Nat) (w : World) (hx : x < Kec.W) (h0 : n = 0) :
    Calls Tryz.prog 156 #[.int .u64 ((x : Nat) : Int), .int .i64 ((n : Nat) : Int)] w (fun e w' => e = .returned (.int .u64 ((Kec.rot x n : Nat) : Int)) ∧ Keeps Nob w w') := by
  have K0 : Keeps Nob w w := Keeps.refl _ _
  refine sy_enter (qc85_2 1) ⟨#[uN x, iN n, ud, ud, ud, ud, ud, ud, ud, ud, ud, ud, ud, ud, ud, ud], []⟩ Tryz.func156 (by kernel_rfl) (by kernel_rfl) <| qr_ [0] <| pkq (.int .u64 0) <| eq_ <| qr_ [0, 1] <| pkq (iN n) <| ppq (.bool true) (eqt (((n : Nat) : Int)) ((0) : Int) (by omega)) <| ey_ <| qr_ [0, 1] <| pkq (uN x) <| pkq (uN x) <| eu_ <| then_r <| so_ (.int .u64 ((x : Nat) : Int)) ?_
  exact ⟨by subst h0; rw [rot_zero x hx], K0⟩
theorem hrot_pos (x n : Nat) (w : World) (hx : x < Kec.W) (hn : n < 64) (h0 : ¬ n = 0) :
    Calls Tryz.prog 156 #[.int .u64 ((x : Nat) : Int), .int .i64 ((n : Nat) : Int)] w (fun e w' => e = .returned (.int .u64 ((Kec.rot x n : Nat) : Int)) ∧ Keeps Nob w w') := by
  have K0 : Keeps Nob w w := Keeps.refl _ _
  refine sy_enter (qc85_2 1) ⟨#[uN x, iN n, ud, ud, ud, ud, ud, ud, ud, ud, ud, ud, ud, ud, ud, ud], []⟩ Tryz.func156 (by kernel_rfl) (by kernel_rfl) <| qr_ [0] <| pkq (.int .u64 0) <| eq_ <| qr_ [0, 1] <| pkq (iN n) <| ppq (.bool false) (eqf (((n : Nat) : Int)) ((0) : Int) (by omega)) <| en_ <| s_ <| tq_ <| sy_reg <| rg_still 3 8 (opsAt (qc85_2 14)) [qo85_2 14 0, qo85_2 14 1, qo85_2 14 2, qo85_2 14 3, qo85_2 14 4, qo85_2 14 5, qo85_2 14 6, qo85_2 14 7] [qo85_2 14 8] (by kernel_rfl) (by kernel_rfl) (by kernel_rfl) (by kernel_rfl) (by kernel_rfl) ?_
  obtain ⟨V2, eV2, kV2⟩ := drew_step w
  rw [eV2]
  clear eV2
  have K3 := K0.nn kV2
  refine skq (uN x) <| skq (iN n) <| spq (uN ((x <<< n) % Kec.W)) (exec_binop .shl 24 3 (.tmp 8) (.tmp 9) (by kernel_rfl) (uN x) (iN n) _ (by kernel_rfl) (by kernel_rfl) (by kernel_rfl) (run_shlU _ _ x n (by omega))) <| skq (uN x) <| skq (iN n) <| spq (iN (64 - n)) (exec_cast (v := .int .i64 (IntKind.i64.wrap ((64 : Int) - ((n : Nat) : Int)))) (congrArg (Value.int .i64) (by rw [show (64 : Int) - ((n : Nat) : Int) = ((64 - n : Nat) : Int) by omega]; exact wrapN _ (by omega))) (by kernel_rfl)) <| spq (uN (x >>> (64 - n))) (exec_binop .shr 24 3 (.tmp 11) (.tmp 13) (by kernel_rfl) (uN x) (iN (64 - n)) _ (by kernel_rfl) (by kernel_rfl) (by kernel_rfl) (run_shrU _ _ x (64 - n) (by omega))) <| spq (uN (((x <<< n) % Kec.W) ||| (x >>> (64 - n)))) (exec_cast (orU ((x <<< n) % Kec.W) (x >>> (64 - n)) (Nat.mod_lt _ Kec.W_pos) (Kec.shr_lt hx _)) (by kernel_rfl)) <| st_end <| ls_run (qo85_2 14 8) (uN (((x <<< n) % Kec.W) ||| (x >>> (64 - n)))) (w' := V2) (by kernel_rfl) (by kernel_rfl) <| ls_end <| then_n <| u_ <| so_ (.int .u64 ((((x <<< n) % Kec.W) ||| (x >>> (64 - n)) : Nat) : Int)) ?_
  exact ⟨rfl, K3⟩
theorem hrot_ok (x n : Nat) (w : World) (hx : x < Kec.W) (hn : n < 64) : Calls Tryz.prog 156 #[.int .u64 ((x : Nat) : Int), .int .i64 ((n : Nat) : Int)] w fun e w' => e = .returned (.int .u64 ((Kec.rot x n : Nat) : Int)) ∧ Keeps Nob w w' := by
  by_cases h0 : n = 0
  · exact hrot_zero x n w hx h0
  · exact hrot_pos x n w hx hn h0
noncomputable def part_hat (n : Nat) : Code := partOf Tryz.f154 n
theorem hat_ok (x y r : Nat) (w : World) (hx : x ≤ 1000) (hy : y ≤ 1000) (h : Kec.at_ x y = r) :
    Calls Tryz.prog 154 #[.int .i64 ((x : Nat) : Int), .int .i64 ((y : Nat) : Int)] w (fun e w' => e = .returned (.int .i64 ((r : Nat) : Int)) ∧ w = w') := by
  have K0 : Keeps Nob w w := Keeps.refl _ _
  refine sy_enter (part_hat 1) ⟨#[iN x, iN y, ud, ud, ud, ud, ud, ud, ud, ud, ud], []⟩ Tryz.func154 (by kernel_rfl) (by kernel_rfl) <| qr_ [0] <| pkq (.int .i64 0) <| eqr_ [0, 1, 2, 3, 4, 5, 6] <| pkq (iN x) <| pkq (iN (x % 5)) <| pkq (iN y) <| pkq (iN (y % 5)) <| ppq (iN (5 * (y % 5))) (exec_cast (congrArg (Value.int .i64) (wrapN (5 * (y % 5)) (by omega))) (by kernel_rfl)) <| ppq (iN ((x % 5) + (5 * (y % 5)))) (exec_cast (congrArg (Value.int .i64) (wrapN ((x % 5) + (5 * (y % 5))) (by omega))) (by kernel_rfl)) <| pkq (iN ((x % 5) + (5 * (y % 5)))) <| eu_ <| so_ (.int .i64 (((x % 5) + (5 * (y % 5)) : Nat) : Int)) ?_
  exact ⟨congrArg (fun n : Nat => Ending.returned (.int .i64 (n : Int))) h, rfl⟩
noncomputable def qc85_1 (n : Nat) : Code := partOf Tryz.f155 n
theorem hturns_ok (w : World) :
    Calls Tryz.prog 155 #[] w (fun e w' => e = .returned (.agg Rz) ∧ Keeps Nob w w') := by
  have K0 : Keeps Nob w w := Keeps.refl _ _
  refine sy_enter (qc85_1 1) ⟨#[ud, ud], []⟩ Tryz.func155 (by kernel_rfl) (by kernel_rfl) <| qr_ [0] <| pal 189 (zr_i64_25) (.agg (zr_i64_25)) fun V1 g eg h2 kV1 => ?_
  have n3 : w.heap.size ≤ g := eg ▸ K0.size
  have K4 := K0.nn kV1
  refine eqr_ [0, 1] <| pkq (.agg #[.int .i64 0, .int .i64 1, .int .i64 62, .int .i64 28, .int .i64 27, .int .i64 36, .int .i64 44, .int .i64 6, .int .i64 55, .int .i64 20, .int .i64 3, .int .i64 10, .int .i64 43, .int .i64 25, .int .i64 39, .int .i64 41, .int .i64 45, .int .i64 15, .int .i64 21, .int .i64 8, .int .i64 18, .int .i64 2, .int .i64 61, .int .i64 56, .int .i64 14]) <| psk 189 g (#[.int .i64 0, .int .i64 1, .int .i64 62, .int .i64 28, .int .i64 27, .int .i64 36, .int .i64 44, .int .i64 6, .int .i64 55, .int .i64 20, .int .i64 3, .int .i64 10, .int .i64 43, .int .i64 25, .int .i64 39, .int .i64 41, .int .i64 45, .int .i64 15, .int .i64 21, .int .i64 8, .int .i64 18, .int .i64 2, .int .i64 61, .int .i64 56, .int .i64 14]) h2 fun V5 h6 kV5 => ?_
  have K7 := K4.nO kV5
  refine eu_ <| sy_out (.agg (#[.int .i64 0, .int .i64 1, .int .i64 62, .int .i64 28, .int .i64 27, .int .i64 36, .int .i64 44, .int .i64 6, .int .i64 55, .int .i64 20, .int .i64 3, .int .i64 10, .int .i64 43, .int .i64 25, .int .i64 39, .int .i64 41, .int .i64 45, .int .i64 15, .int .i64 21, .int .i64 8, .int .i64 18, .int .i64 2, .int .i64 61, .int .i64 56, .int .i64 14])) rfl (results_cell_row (p := 0) (ty := 189) (by kernel_rfl) _ _ g 189 (#[.int .i64 0, .int .i64 1, .int .i64 62, .int .i64 28, .int .i64 27, .int .i64 36, .int .i64 44, .int .i64 6, .int .i64 55, .int .i64 20, .int .i64 3, .int .i64 10, .int .i64 43, .int .i64 25, .int .i64 39, .int .i64 41, .int .i64 45, .int .i64 15, .int .i64 21, .int .i64 8, .int .i64 18, .int .i64 2, .int .i64 61, .int .i64 56, .int .i64 14]) (0, 0) _ (by kernel_rfl) h6 Tryz.underlying189 rfl (by kernel_rfl)) ?_
  exact ⟨congrArg Ending.returned (show _ = Value.agg Rz by kernel_rfl), K7⟩
noncomputable def qc85_0 (n : Nat) : Code := partOf Tryz.f136 n
noncomputable abbrev qo85_0 (n k : Nat) : Oper := (opsAt (qc85_0 n)).getD k default
theorem hconstants_ok (w : World) :
    Calls Tryz.prog 136 #[] w (fun e w' => e = .returned (.agg (Wz Kec.K)) ∧ Keeps Nob w w') := by
  have K0 : Keeps Nob w w := Keeps.refl _ _
  refine sy_enter (qc85_0 1) ⟨#[ud, ud, ud, ud, ud, ud, ud, ud, ud, ud, ud, ud, ud, ud, ud, ud, ud, ud, ud, ud, ud, ud, ud, ud, ud, ud, ud, ud, ud, ud, ud, ud, ud, ud], []⟩ Tryz.func136 (by kernel_rfl) (by kernel_rfl) <| qr_ [0] <| pal 169 (zr_u64_24) (.agg (zr_u64_24)) fun V1 gr egr h2 kV1 => ?_
  have n3 : w.heap.size ≤ gr := egr ▸ K0.size
  have K4 := K0.nn kV1
  refine eqr_ [0] <| pal 169 (zr_u64_24) (.agg (zr_u64_24)) fun V5 go ego h6 kV5 => ?_
  have n7 : gr < go := ego ▸ lt_of_block h2
  have n8 : w.heap.size ≤ go := ego ▸ K4.size
  have h9 := kV5.bk h2
  have K10 := K4.nn kV5
  refine eqr_ [0] <| pkq (.int .i64 1) <| eq_ <| qr_ [0] <| pkq (.int .i64 0) <| et_ <| b_ 0 ?_
  refine sy_loop (qc85_0 244) (fun a V => ∃ (i : Nat) (r : Nat) (u4 u5 u6 u7 u8 u9 u10 u11 u12 u13 u14 u15 u16 u17 u18 u19 u20 u21 u22 u23 u24 u25 u26 u27 u28 u29 u30 u31 u32 : Value), (a = ⟨#[pT gr 0, pT go 0, iN r, iN i, u4, u5, u6, u7, u8, u9, u10, u11, u12, u13, u14, u15, u16, u17, u18, u19, u20, u21, u22, u23, u24, u25, u26, u27, u28, u29, u30, u31, u32, ud], []⟩) ∧ (i ≤ 24) ∧ (r = Kec.regn (7 * i)) ∧ (V.heap[gr]? = some (.cells (zr_u64_24) 169 (0, 0))) ∧ (V.heap[go]? = some (.cells (Wz (Kec.outn (7 * i))) 169 (0, 0))) ∧ (Keeps Nob w V)) (fun a _ => 24 - (intOf (a.tmps.getD 3 undef)).toNat) (by kernel_rfl) ?_ ?_
  · exact ⟨0, 1, undef, undef, undef, undef, undef, undef, undef, undef, undef, undef, undef, undef, undef, undef, undef, undef, undef, undef, undef, undef, undef, undef, undef, undef, undef, undef, undef, undef, undef, by kernel_rfl, by omega, rfl, h9, h6.trans (by kernel_rfl), K10⟩
  · rintro a V11 ⟨i, r, u4, u5, u6, u7, u8, u9, u10, u11, u12, u13, u14, u15, u16, u17, u18, u19, u20, u21, u22, u23, u24, u25, u26, u27, u28, u29, u30, u31, u32, rfl, hi, hr, h12, h13, K14⟩
    by_cases lt_i : i < 24
    · show _
      refine q_ <| qr_ [0, 1] <| pkq (iN i) <| ppq (.bool true) (dct ((((i : Nat) : Int)) < ((24) : Int)) (by omega)) <| ey_ <| s_ <| tq_ <| b_ 1 <| qr_ [0] <| pkq (.int .i64 0) <| et_ <| b_ 2 ?_
      refine sy_loop (qc85_0 15652) (fun a V => ∃ (j : Nat) (r2 : Nat) (u9 u10 u11 u12 u13 u14 u15 u16 u17 u18 u19 u20 u21 u22 u23 u24 u25 u26 u27 u28 u29 u30 u31 u32 : Value), (a = ⟨#[pT gr 0, pT go 0, iN r2, iN i, iN j, iN i, .bool true, u7, u8, u9, u10, u11, u12, u13, u14, u15, u16, u17, u18, u19, u20, u21, u22, u23, u24, u25, u26, u27, u28, u29, u30, u31, u32, ud], []⟩) ∧ (j ≤ 7) ∧ (r2 = Kec.regn (7 * i + j)) ∧ (V.heap[gr]? = some (.cells (zr_u64_24) 169 (0, 0))) ∧ (V.heap[go]? = some (.cells (Wz (Kec.outn (7 * i + j))) 169 (0, 0))) ∧ (Keeps Nob w V)) (fun a _ => 7 - (intOf (a.tmps.getD 4 undef)).toNat) (by kernel_rfl) ?_ ?_
      · exact ⟨0, r, u9, u10, u11, u12, u13, u14, u15, u16, u17, u18, u19, u20, u21, u22, u23, u24, u25, u26, u27, u28, u29, u30, u31, u32, by kernel_rfl, by omega, hr, h12, h13, K14⟩
      · rintro a V15 ⟨j, r2, u9, u10, u11, u12, u13, u14, u15, u16, u17, u18, u19, u20, u21, u22, u23, u24, u25, u26, u27, u28, u29, u30, u31, u32, rfl, hj, hr2, h16, h17, K18⟩
        rcases (show (j < 7 ∧ r2 % 2 = 1 ∧ 255 < 2 * r2) ∨ (j < 7 ∧ r2 % 2 = 1 ∧ ¬ 255 < 2 * r2) ∨ (j < 7 ∧ ¬ r2 % 2 = 1 ∧ 255 < 2 * r2) ∨ (j < 7 ∧ ¬ r2 % 2 = 1 ∧ ¬ 255 < 2 * r2) ∨ ¬ j < 7 by omega) with ⟨lt_j, hodd, hbig⟩ | ⟨lt_j, hodd, hbig⟩ | ⟨lt_j, hodd, hbig⟩ | ⟨lt_j, hodd, hbig⟩ | ge_j
        · have hr3 : r2 < 256 := by rw [hr2]; exact Kec.regn_lt _
          have s1 := shl1 j lt_j
          obtain ⟨_, s2, s3⟩ := s1
          refine q_ <| qr_ [0, 1] <| pkq (iN j) <| ppq (.bool true) (dct ((((j : Nat) : Int)) < ((7) : Int)) (by omega)) <| ey_ <| s_ <| tq_ <| b_ 3 <| q_ <| qr_ [0, 1, 2] <| pkq (iN r2) <| pkq (iN (r2 % 2)) <| ppq (.bool true) (eqt (((r2 % 2 : Nat) : Int)) ((1) : Int) (by omega)) <| ey_ ?_
          refine sy_reg <| rg_still 10 10 (opsAt (qc85_0 1001762)) [qo85_0 1001762 0, qo85_0 1001762 1, qo85_0 1001762 2, qo85_0 1001762 3, qo85_0 1001762 4, qo85_0 1001762 5, qo85_0 1001762 6, qo85_0 1001762 7, qo85_0 1001762 8, qo85_0 1001762 9] [qo85_0 1001762 10] (by kernel_rfl) (by kernel_rfl) (by kernel_rfl) (by kernel_rfl) (by kernel_rfl) ?_
          obtain ⟨V20, eV20, kV20⟩ := drew_step V15
          rw [eV20]
          clear eV20
          have h21 := kV20.bk h16
          have h22 := kV20.bk h17
          have K23 := K18.nn kV20
          refine skq (iN i) <| skq (iN i) <| spq (pT go i) (exec_cast (v := pT go (0 + i * 1)) (by simp) (exec_indexAt_arr 169 (.tmp 1) (.tmp 17) (by kernel_rfl) go 0 (by kernel_rfl) .i64 i (by kernel_rfl) _ _ 1 Tryz.underlying169 (by kernel_rfl) (by omega))) <| spq (uN (Kec.g (Kec.outn (7 * i + j)) i)) (ldc 24 go i (rc (h22) (Wz_get _ i (by rw [Kec.outn_len]; omega)))) <| skq (iN j) <| spq (uN (1 <<< j)) (exec_cast (congrArg (fun n : Nat => Value.int .u64 (n : Int)) (shl1 j (by omega)).1) (exec_binop .shl 186 3 (.const (.int .u64 1)) (.tmp 20) (by kernel_rfl) (uN 1) (iN j) _ (by kernel_rfl) (by kernel_rfl) (by kernel_rfl) (run_shlU _ _ 1 j (by omega)))) <| spq (uN (1 <<< j - 1)) (exec_cast (v := .int .u64 (IntKind.u64.wrap (((1 <<< j : Nat) : Int) - 1))) (congrArg (Value.int .u64) (by rw [show ((1 <<< j : Nat) : Int) - (1 : Int) = ((1 <<< j - 1 : Nat) : Int) by omega]; exact wrapU _ (by omega))) (by kernel_rfl)) <| spq (uN ((1 <<< (1 <<< j - 1)) % Kec.W)) (exec_binop .shl 24 186 (.const (.int .u64 1)) (.tmp 22) (by kernel_rfl) (uN 1) (uN (1 <<< j - 1)) _ (by kernel_rfl) (by kernel_rfl) (by kernel_rfl) (run_shlU _ _ 1 _ (by omega))) <| spq (uN ((Kec.g (Kec.outn (7 * i + j)) i) ||| ((1 <<< (1 <<< j - 1)) % Kec.W))) (exec_cast (orU (Kec.g (Kec.outn (7 * i + j)) i) ((1 <<< (1 <<< j - 1)) % Kec.W) (Kec.ws_outn _ _) (Nat.mod_lt _ Kec.W_pos)) (by kernel_rfl)) <| spq (pT go i) (exec_cast (v := pT go (0 + i * 1)) (by simp) (exec_indexAt_arr 169 (.tmp 1) (.tmp 16) (by kernel_rfl) go 0 (by kernel_rfl) .i64 i (by kernel_rfl) _ _ 1 Tryz.underlying169 (by kernel_rfl) (by omega))) <| st_end ?_
          obtain ⟨V24, eV24, kV24⟩ := cell_step V20 go i (.int .u64 (((Kec.g (Kec.outn (7 * i + j)) i) ||| ((1 <<< (1 <<< j - 1)) % Kec.W) : Nat) : Int))
          have h25 : V24.heap[go]? = some (.cells (Wz (Kec.outn (7 * i + (j + 1)))) 169 (0, 0)) := eV24 ▸ ((heap_setCell_same _ go i _ _ (.int .u64 (((Kec.g (Kec.outn (7 * i + j)) i) ||| ((1 <<< (1 <<< j - 1)) % Kec.W) : Nat) : Int)) h22).trans (congrArg (fun c => some (Obj.cells c 169 (0, 0))) (show (Wz (Kec.outn (7 * i + j)) : Array Value).setIfInBounds i (.int .u64 (((Kec.g (Kec.outn (7 * i + j)) i) ||| ((1 <<< (1 <<< j - 1)) % Kec.W) : Nat) : Int)) = Wz (Kec.outn (7 * i + (j + 1))) from by rw [Wz_set]; exact congrArg Wz (outn_odd i j r2 lt_j hr2 hodd))))
          refine ls_skip (qo85_0 1001762 10) (w' := V24) (by kernel_rfl) (by rw [← eV24]; exact exec_store_cell 24 (.tmp 25) (.tmp 24) (by kernel_rfl) go i (by kernel_rfl) (.int .u64 (((Kec.g (Kec.outn (7 * i + j)) i) ||| ((1 <<< (1 <<< j - 1)) % Kec.W) : Nat) : Int)) (by kernel_rfl) (by kernel_rfl) (by kernel_rfl) (.int .u64 ((Kec.g (Kec.outn (7 * i + j)) i : Nat) : Int)) (rc (h22) (Wz_get _ i (by rw [Kec.outn_len]; omega))) (frozen_of_row _ _ _ _ _ h22) (by kernel_rfl)) ?_
          clear eV24
          have h26 := kV24.bO h21
          have K27 := K23.nO kV24
          refine ls_end <| tqr_ [0, 1, 2] <| pkq (iN r2) <| ppq (iN (2 * r2)) (exec_cast (congrArg (Value.int .i64) (wrapN (2 * r2) (by omega))) (by kernel_rfl)) <| pkq (iN (2 * r2)) <| eqr_ [0, 1] <| pkq (iN (2 * r2)) <| ppq (.bool true) (dct ((((2 * r2 : Nat) : Int)) > ((255) : Int)) (by omega)) <| ey_ <| r_ [0, 1, 2, 3] <| pkq (iN (2 * r2)) <| pkq (iN ((2 * r2) % 256)) <| ppq (iN (2 * r2 % 256 ^^^ 113)) (exec_cast (xor113 (2 * r2 % 256) (by omega)) (by kernel_rfl)) <| pkq (iN (2 * r2 % 256 ^^^ 113)) ?_
          refine ps_end <| sy_a ⟨#[pT gr 0, pT go 0, iN (2 * r2 % 256 ^^^ 113), iN i, iN j, iN i, .bool true, u7, u8, iN j, .bool true, u11, u12, iN r2, iN (r2 % 2), .bool true, iN i, iN i, pT go i, uN (Kec.g (Kec.outn (7 * i + j)) i), iN j, uN (1 <<< j), uN (1 <<< j - 1), uN ((1 <<< (1 <<< j - 1)) % Kec.W), uN ((Kec.g (Kec.outn (7 * i + j)) i) ||| ((1 <<< (1 <<< j - 1)) % Kec.W)), pT go i, iN r2, iN (2 * r2), iN (2 * r2), .bool true, iN (2 * r2), iN ((2 * r2) % 256), iN (2 * r2 % 256 ^^^ 113), ud], []⟩ <| blk_n <| tr_ [0, 1, 2] <| pkq (iN j) <| ppq (iN (j + 1)) (exec_cast (congrArg (Value.int .i64) (wrapN (j + 1) (by omega))) (by kernel_rfl)) <| pkq (iN (j + 1)) <| et_ ?_
          refine ⟨⟨j + 1, 2 * r2 % 256 ^^^ 113, (iN j), (.bool true), (iN j), (iN (j + 1)), (iN r2), (iN (r2 % 2)), (.bool true), (iN i), (iN i), (pT go i), (uN (Kec.g (Kec.outn (7 * i + j)) i)), (iN j), (uN (1 <<< j)), (uN (1 <<< j - 1)), (uN ((1 <<< (1 <<< j - 1)) % Kec.W)), (uN ((Kec.g (Kec.outn (7 * i + j)) i) ||| ((1 <<< (1 <<< j - 1)) % Kec.W))), (pT go i), (iN r2), (iN (2 * r2)), (iN (2 * r2)), (.bool true), (iN (2 * r2)), (iN ((2 * r2) % 256)), (iN (2 * r2 % 256 ^^^ 113)), by kernel_rfl, by omega, (by first | exact regn_big _ _ hr2 hbig | exact regn_small _ _ hr2 hbig), h26, h25, K27⟩, ?_⟩
          exact lt_meas (x := 7 - (j + 1)) (y := 7 - j) (by kernel_rfl) (by kernel_rfl) (by omega)
        · have hr3 : r2 < 256 := by rw [hr2]; exact Kec.regn_lt _
          have s1 := shl1 j lt_j
          obtain ⟨_, s2, s3⟩ := s1
          refine q_ <| qr_ [0, 1] <| pkq (iN j) <| ppq (.bool true) (dct ((((j : Nat) : Int)) < ((7) : Int)) (by omega)) <| ey_ <| s_ <| tq_ <| b_ 3 <| q_ <| qr_ [0, 1, 2] <| pkq (iN r2) <| pkq (iN (r2 % 2)) <| ppq (.bool true) (eqt (((r2 % 2 : Nat) : Int)) ((1) : Int) (by omega)) <| ey_ ?_
          refine sy_reg <| rg_still 10 10 (opsAt (qc85_0 1001762)) [qo85_0 1001762 0, qo85_0 1001762 1, qo85_0 1001762 2, qo85_0 1001762 3, qo85_0 1001762 4, qo85_0 1001762 5, qo85_0 1001762 6, qo85_0 1001762 7, qo85_0 1001762 8, qo85_0 1001762 9] [qo85_0 1001762 10] (by kernel_rfl) (by kernel_rfl) (by kernel_rfl) (by kernel_rfl) (by kernel_rfl) ?_
          obtain ⟨V29, eV29, kV29⟩ := drew_step V15
          rw [eV29]
          clear eV29
          have h30 := kV29.bk h16
          have h31 := kV29.bk h17
          have K32 := K18.nn kV29
          refine skq (iN i) <| skq (iN i) <| spq (pT go i) (exec_cast (v := pT go (0 + i * 1)) (by simp) (exec_indexAt_arr 169 (.tmp 1) (.tmp 17) (by kernel_rfl) go 0 (by kernel_rfl) .i64 i (by kernel_rfl) _ _ 1 Tryz.underlying169 (by kernel_rfl) (by omega))) <| spq (uN (Kec.g (Kec.outn (7 * i + j)) i)) (ldc 24 go i (rc (h31) (Wz_get _ i (by rw [Kec.outn_len]; omega)))) <| skq (iN j) <| spq (uN (1 <<< j)) (exec_cast (congrArg (fun n : Nat => Value.int .u64 (n : Int)) (shl1 j (by omega)).1) (exec_binop .shl 186 3 (.const (.int .u64 1)) (.tmp 20) (by kernel_rfl) (uN 1) (iN j) _ (by kernel_rfl) (by kernel_rfl) (by kernel_rfl) (run_shlU _ _ 1 j (by omega)))) <| spq (uN (1 <<< j - 1)) (exec_cast (v := .int .u64 (IntKind.u64.wrap (((1 <<< j : Nat) : Int) - 1))) (congrArg (Value.int .u64) (by rw [show ((1 <<< j : Nat) : Int) - (1 : Int) = ((1 <<< j - 1 : Nat) : Int) by omega]; exact wrapU _ (by omega))) (by kernel_rfl)) <| spq (uN ((1 <<< (1 <<< j - 1)) % Kec.W)) (exec_binop .shl 24 186 (.const (.int .u64 1)) (.tmp 22) (by kernel_rfl) (uN 1) (uN (1 <<< j - 1)) _ (by kernel_rfl) (by kernel_rfl) (by kernel_rfl) (run_shlU _ _ 1 _ (by omega))) <| spq (uN ((Kec.g (Kec.outn (7 * i + j)) i) ||| ((1 <<< (1 <<< j - 1)) % Kec.W))) (exec_cast (orU (Kec.g (Kec.outn (7 * i + j)) i) ((1 <<< (1 <<< j - 1)) % Kec.W) (Kec.ws_outn _ _) (Nat.mod_lt _ Kec.W_pos)) (by kernel_rfl)) <| spq (pT go i) (exec_cast (v := pT go (0 + i * 1)) (by simp) (exec_indexAt_arr 169 (.tmp 1) (.tmp 16) (by kernel_rfl) go 0 (by kernel_rfl) .i64 i (by kernel_rfl) _ _ 1 Tryz.underlying169 (by kernel_rfl) (by omega))) <| st_end ?_
          obtain ⟨V33, eV33, kV33⟩ := cell_step V29 go i (.int .u64 (((Kec.g (Kec.outn (7 * i + j)) i) ||| ((1 <<< (1 <<< j - 1)) % Kec.W) : Nat) : Int))
          have h34 : V33.heap[go]? = some (.cells (Wz (Kec.outn (7 * i + (j + 1)))) 169 (0, 0)) := eV33 ▸ ((heap_setCell_same _ go i _ _ (.int .u64 (((Kec.g (Kec.outn (7 * i + j)) i) ||| ((1 <<< (1 <<< j - 1)) % Kec.W) : Nat) : Int)) h31).trans (congrArg (fun c => some (Obj.cells c 169 (0, 0))) (show (Wz (Kec.outn (7 * i + j)) : Array Value).setIfInBounds i (.int .u64 (((Kec.g (Kec.outn (7 * i + j)) i) ||| ((1 <<< (1 <<< j - 1)) % Kec.W) : Nat) : Int)) = Wz (Kec.outn (7 * i + (j + 1))) from by rw [Wz_set]; exact congrArg Wz (outn_odd i j r2 lt_j hr2 hodd))))
          refine ls_skip (qo85_0 1001762 10) (w' := V33) (by kernel_rfl) (by rw [← eV33]; exact exec_store_cell 24 (.tmp 25) (.tmp 24) (by kernel_rfl) go i (by kernel_rfl) (.int .u64 (((Kec.g (Kec.outn (7 * i + j)) i) ||| ((1 <<< (1 <<< j - 1)) % Kec.W) : Nat) : Int)) (by kernel_rfl) (by kernel_rfl) (by kernel_rfl) (.int .u64 ((Kec.g (Kec.outn (7 * i + j)) i : Nat) : Int)) (rc (h31) (Wz_get _ i (by rw [Kec.outn_len]; omega))) (frozen_of_row _ _ _ _ _ h31) (by kernel_rfl)) ?_
          clear eV33
          have h35 := kV33.bO h30
          have K36 := K32.nO kV33
          refine ls_end <| tqr_ [0, 1, 2] <| pkq (iN r2) <| ppq (iN (2 * r2)) (exec_cast (congrArg (Value.int .i64) (wrapN (2 * r2) (by omega))) (by kernel_rfl)) <| pkq (iN (2 * r2)) <| eqr_ [0, 1] <| pkq (iN (2 * r2)) <| ppq (.bool false) (dcf ((((2 * r2 : Nat) : Int)) > ((255) : Int)) (by omega)) <| en_ <| s_ <| blk_n <| tr_ [0, 1, 2] <| pkq (iN j) <| ppq (iN (j + 1)) (exec_cast (congrArg (Value.int .i64) (wrapN (j + 1) (by omega))) (by kernel_rfl)) ?_
          refine pkq (iN (j + 1)) <| ps_end <| sy_a ⟨#[pT gr 0, pT go 0, iN (2 * r2), iN i, iN (j + 1), iN i, .bool true, u7, u8, iN j, .bool true, iN j, iN (j + 1), iN r2, iN (r2 % 2), .bool true, iN i, iN i, pT go i, uN (Kec.g (Kec.outn (7 * i + j)) i), iN j, uN (1 <<< j), uN (1 <<< j - 1), uN ((1 <<< (1 <<< j - 1)) % Kec.W), uN ((Kec.g (Kec.outn (7 * i + j)) i) ||| ((1 <<< (1 <<< j - 1)) % Kec.W)), pT go i, iN r2, iN (2 * r2), iN (2 * r2), .bool false, u30, u31, u32, ud], []⟩ <| then_n ?_
          refine ⟨⟨j + 1, 2 * r2, (iN j), (.bool true), (iN j), (iN (j + 1)), (iN r2), (iN (r2 % 2)), (.bool true), (iN i), (iN i), (pT go i), (uN (Kec.g (Kec.outn (7 * i + j)) i)), (iN j), (uN (1 <<< j)), (uN (1 <<< j - 1)), (uN ((1 <<< (1 <<< j - 1)) % Kec.W)), (uN ((Kec.g (Kec.outn (7 * i + j)) i) ||| ((1 <<< (1 <<< j - 1)) % Kec.W))), (pT go i), (iN r2), (iN (2 * r2)), (iN (2 * r2)), (.bool false), u30, u31, u32, by kernel_rfl, by omega, (by first | exact regn_big _ _ hr2 hbig | exact regn_small _ _ hr2 hbig), h35, h34, K36⟩, ?_⟩
          exact lt_meas (x := 7 - (j + 1)) (y := 7 - j) (by kernel_rfl) (by kernel_rfl) (by omega)
        · have hr3 : r2 < 256 := by rw [hr2]; exact Kec.regn_lt _
          have s1 := shl1 j lt_j
          obtain ⟨_, s2, s3⟩ := s1
          refine q_ <| qr_ [0, 1] <| pkq (iN j) <| ppq (.bool true) (dct ((((j : Nat) : Int)) < ((7) : Int)) (by omega)) <| ey_ <| s_ <| tq_ <| b_ 3 <| q_ <| qr_ [0, 1, 2] <| pkq (iN r2) <| pkq (iN (r2 % 2)) <| ppq (.bool false) (eqf (((r2 % 2 : Nat) : Int)) ((1) : Int) (by omega)) <| en_ ?_
          refine s_ <| tqr_ [0, 1, 2] <| pkq (iN r2) <| ppq (iN (2 * r2)) (exec_cast (congrArg (Value.int .i64) (wrapN (2 * r2) (by omega))) (by kernel_rfl)) <| pkq (iN (2 * r2)) <| eqr_ [0, 1] <| pkq (iN (2 * r2)) <| ppq (.bool true) (dct ((((2 * r2 : Nat) : Int)) > ((255) : Int)) (by omega)) <| ey_ <| r_ [0, 1, 2, 3] <| pkq (iN (2 * r2)) <| pkq (iN ((2 * r2) % 256)) <| ppq (iN (2 * r2 % 256 ^^^ 113)) (exec_cast (xor113 (2 * r2 % 256) (by omega)) (by kernel_rfl)) <| pkq (iN (2 * r2 % 256 ^^^ 113)) ?_
          refine ps_end <| blk_n <| tr_ [0, 1, 2] <| pkq (iN j) <| ppq (iN (j + 1)) (exec_cast (congrArg (Value.int .i64) (wrapN (j + 1) (by omega))) (by kernel_rfl)) <| pkq (iN (j + 1)) <| et_ ?_
          refine ⟨⟨j + 1, 2 * r2 % 256 ^^^ 113, (iN j), (.bool true), (iN j), (iN (j + 1)), (iN r2), (iN (r2 % 2)), (.bool false), u16, u17, u18, u19, u20, u21, u22, u23, u24, u25, (iN r2), (iN (2 * r2)), (iN (2 * r2)), (.bool true), (iN (2 * r2)), (iN ((2 * r2) % 256)), (iN (2 * r2 % 256 ^^^ 113)), by kernel_rfl, by omega, (by first | exact regn_big _ _ hr2 hbig | exact regn_small _ _ hr2 hbig), h16, h17.trans (by rw [outn_even i j r2 lt_i lt_j hr2 hodd]), K18⟩, ?_⟩
          exact lt_meas (x := 7 - (j + 1)) (y := 7 - j) (by kernel_rfl) (by kernel_rfl) (by omega)
        · have hr3 : r2 < 256 := by rw [hr2]; exact Kec.regn_lt _
          have s1 := shl1 j lt_j
          obtain ⟨_, s2, s3⟩ := s1
          refine q_ <| qr_ [0, 1] <| pkq (iN j) <| ppq (.bool true) (dct ((((j : Nat) : Int)) < ((7) : Int)) (by omega)) <| ey_ <| s_ <| tq_ <| b_ 3 <| q_ <| qr_ [0, 1, 2] <| pkq (iN r2) <| pkq (iN (r2 % 2)) <| ppq (.bool false) (eqf (((r2 % 2 : Nat) : Int)) ((1) : Int) (by omega)) <| en_ ?_
          refine s_ <| tqr_ [0, 1, 2] <| pkq (iN r2) <| ppq (iN (2 * r2)) (exec_cast (congrArg (Value.int .i64) (wrapN (2 * r2) (by omega))) (by kernel_rfl)) <| pkq (iN (2 * r2)) <| eqr_ [0, 1] <| pkq (iN (2 * r2)) <| ppq (.bool false) (dcf ((((2 * r2 : Nat) : Int)) > ((255) : Int)) (by omega)) <| en_ <| s_ <| blk_n <| tr_ [0, 1, 2] <| pkq (iN j) <| ppq (iN (j + 1)) (exec_cast (congrArg (Value.int .i64) (wrapN (j + 1) (by omega))) (by kernel_rfl)) ?_
          refine pkq (iN (j + 1)) <| et_ ?_
          refine ⟨⟨j + 1, 2 * r2, (iN j), (.bool true), (iN j), (iN (j + 1)), (iN r2), (iN (r2 % 2)), (.bool false), u16, u17, u18, u19, u20, u21, u22, u23, u24, u25, (iN r2), (iN (2 * r2)), (iN (2 * r2)), (.bool false), u30, u31, u32, by kernel_rfl, by omega, (by first | exact regn_big _ _ hr2 hbig | exact regn_small _ _ hr2 hbig), h16, h17.trans (by rw [outn_even i j r2 lt_i lt_j hr2 hodd]), K18⟩, ?_⟩
          exact lt_meas (x := 7 - (j + 1)) (y := 7 - j) (by kernel_rfl) (by kernel_rfl) (by omega)
        · have eq_j : j = 7 := by omega
          refine q_ <| qr_ [0, 1] <| pkq (iN j) <| ppq (.bool false) (dcf ((((j : Nat) : Int)) < ((7) : Int)) (by omega)) <| en_ <| sy_exit 2 (by kernel_rfl) <| then_e <| then_e <| blk_e <| blk_n <| tr_ [0, 1, 2] <| pkq (iN i) <| ppq (iN (i + 1)) (exec_cast (congrArg (Value.int .i64) (wrapN (i + 1) (by omega))) (by kernel_rfl)) <| pkq (iN (i + 1)) ?_
          refine et_ ?_
          refine ⟨⟨i + 1, r2, (iN j), (iN i), (.bool true), (iN i), (iN (i + 1)), (iN j), (.bool false), u11, u12, u13, u14, u15, u16, u17, u18, u19, u20, u21, u22, u23, u24, u25, u26, u27, u28, u29, u30, u31, u32, by kernel_rfl, by omega, hr2.trans (congrArg Kec.regn (by omega)), h16, h17.trans (congrArg (fun n => some (Obj.cells (Wz (Kec.outn n)) 169 (0, 0))) (by omega)), K18⟩, ?_⟩
          exact lt_meas (x := 24 - (i + 1)) (y := 24 - i) (by kernel_rfl) (by kernel_rfl) (by omega)
    · have eq_i : i = 24 := by omega
      have h37 : V11.heap[go]? = some (.cells (Wz Kec.K) 169 (0, 0)) := (h13.trans (congrArg (fun n => some (Obj.cells (Wz (Kec.outn n)) 169 (0, 0))) (show 7 * i = 168 by omega))).trans (congrArg (fun l => some (Obj.cells (Wz l) 169 (0, 0))) Kec.outn_K)
      refine q_ <| qr_ [0, 1] <| pkq (iN i) <| ppq (.bool false) (dcf ((((i : Nat) : Int)) < ((24) : Int)) (by omega)) <| en_ <| sy_exit 0 (by kernel_rfl) <| then_e <| then_e <| blk_e <| tqr_ [0, 1] <| ppq (.agg (Wz Kec.K)) (ldr 169 go (h37) (by rw [Wz_size, K_len]; kernel_rfl)) <| pst 169 gr ((Wz Kec.K)) h12 (by kernel_rfl) (by kernel_rfl) (Wz_one _) fun V38 h39 kV38 => ?_
      have K41 := K14.nO kV38
      refine eu_ <| sy_out (.agg (Wz Kec.K)) rfl (results_cell_row (p := 0) (ty := 169) (by kernel_rfl) _ _ gr 169 (Wz Kec.K) (0, 0) _ (by kernel_rfl) h39 Tryz.underlying169 rfl (by rw [Wz_size, K_len]; kernel_rfl)) ?_
      exact ⟨rfl, K41⟩
end Go.Proofs.YtcbfnflnokoacaaGreat
namespace Go.Proofs.YtcbfnflnokoacaaGreat
set_option maxRecDepth 100000
set_option maxHeartbeats 4000000
open Go Go.RowKit Go.Own Go.Shelf
noncomputable def qc86_1 (n : Nat) : Code := partOf Tryz.f137 n
noncomputable abbrev qo86_1 (n k : Nat) : Oper := (opsAt (qc86_1 n)).getD k default
theorem hround_ok (s : List Nat) (k : Nat) (w : World) (hs : s.length = 25) (ws : Kec.Ws s) (hk : k < Kec.W) :
    Calls Tryz.prog 137 #[.agg (Wz s), .int .u64 ((k : Nat) : Int)] w (fun e w' => e = .returned (.agg (Wz (Kec.round s k))) ∧ Keeps Nob w w') := by
  have K0 : Keeps Nob w w := Keeps.refl _ _
  refine sy_enter (qc86_1 1) ⟨#[.agg (Wz s), uN k, ud, ud, ud, ud, ud, ud, ud, ud, ud, ud, ud, ud, ud, ud, ud, ud, ud, ud, ud, ud, ud, ud, ud, ud, ud, ud, ud, ud, ud, ud, ud, ud, ud, ud, ud, ud, ud, ud, ud, ud, ud, ud, ud, ud, ud, ud, ud, ud, ud, ud, ud, ud, ud, ud, ud, ud, ud, ud, ud, ud, ud, ud, ud, ud, ud, ud, ud, ud, ud, ud, ud, ud, ud, ud, ud, ud, ud, ud, ud, ud, ud, ud, ud, ud, ud, ud, ud, ud, ud, ud, ud, ud, ud, ud, ud, ud, ud, ud, ud, ud, ud, ud, ud, ud, ud, ud, ud, ud, ud, ud, ud, ud], []⟩ Tryz.func137 (by kernel_rfl) (by kernel_rfl) <| qr_ [0, 1] <| pbx 148 ((Wz s)) (.agg (Wz s)) fun V1 ga ega h2 kV1 => ?_
  have n3 : w.heap.size ≤ ga := ega ▸ K0.size
  have K4 := K0.nn kV1
  refine pal 148 (zr_u64_25) (.agg (zr_u64_25)) fun V5 gr egr h6 kV5 => ?_
  have n7 : ga < gr := egr ▸ lt_of_block h2
  have n8 : w.heap.size ≤ gr := egr ▸ K4.size
  have h9 := kV5.bk h2
  have K10 := K4.nn kV5
  refine eqr_ [0] <| pal 187 (zr_u64_5) (.agg (zr_u64_5)) fun V11 gc egc h12 kV11 => ?_
  have n13 : ga < gc := egc ▸ lt_of_block h9
  have n14 : gr < gc := egc ▸ lt_of_block h6
  have n15 : w.heap.size ≤ gc := egc ▸ K10.size
  have h16 := kV11.bk h9
  have h17 := kV11.bk h6
  have K18 := K10.nn kV11
  refine eq_ <| qr_ [0] <| pkq (.int .i64 0) <| et_ <| b_ 0 ?_
  refine sy_loop (qc86_1 116) (fun a V => ∃ (x : Nat) (u7 u15 u16 u17 u18 u19 u20 u21 u22 u23 u24 u25 u26 u27 u28 u29 u30 u31 u32 u33 : Value), (a = ⟨#[.agg (Wz s), uN k, pT ga 0, ud, pT gr 0, pT gc 0, iN x, u7, ud, ud, ud, ud, ud, ud, ud, u15, u16, u17, u18, u19, u20, u21, u22, u23, u24, u25, u26, u27, u28, u29, u30, u31, u32, u33, ud, ud, ud, ud, ud, ud, ud, ud, ud, ud, ud, ud, ud, ud, ud, ud, ud, ud, ud, ud, ud, ud, ud, ud, ud, ud, ud, ud, ud, ud, ud, ud, ud, ud, ud, ud, ud, ud, ud, ud, ud, ud, ud, ud, ud, ud, ud, ud, ud, ud, ud, ud, ud, ud, ud, ud, ud, ud, ud, ud, ud, ud, ud, ud, ud, ud, ud, ud, ud, ud, ud, ud, ud, ud, ud, ud, ud, ud, ud, ud], []⟩) ∧ (x ≤ 5) ∧ (V.heap[ga]? = some (.cells (Wz s) 148 (0, 0))) ∧ (V.heap[gr]? = some (.cells (zr_u64_25) 148 (0, 0))) ∧ (V.heap[gc]? = some (.cells (Wz (ccn s (5 * x))) 187 (0, 0))) ∧ (Keeps Nob w V)) (fun a _ => 5 - (intOf (a.tmps.getD 6 undef)).toNat) (by kernel_rfl) ?_ ?_
  · exact ⟨0, undef, undef, undef, undef, undef, undef, undef, undef, undef, undef, undef, undef, undef, undef, undef, undef, undef, undef, undef, undef, by kernel_rfl, by omega, h16, h17, h12.trans (by kernel_rfl), K18⟩
  · rintro a V19 ⟨x, u7, u15, u16, u17, u18, u19, u20, u21, u22, u23, u24, u25, u26, u27, u28, u29, u30, u31, u32, u33, rfl, hx, h20, h21, h22, K23⟩
    by_cases lt_x : x < 5
    · show _
      refine q_ <| qr_ [0, 1] <| pkq (iN x) <| ppq (.bool true) (dct ((((x : Nat) : Int)) < ((5) : Int)) (by omega)) <| ey_ <| s_ <| tq_ <| b_ 1 <| qr_ [0] <| pkq (.int .i64 0) <| et_ <| b_ 2 ?_
      refine sy_loop (qc86_1 7460) (fun a V => ∃ (y : Nat) (u19 u20 u21 u22 u23 u24 u25 u26 u27 u28 u29 u30 u31 u32 u33 : Value), (a = ⟨#[.agg (Wz s), uN k, pT ga 0, ud, pT gr 0, pT gc 0, iN x, iN y, ud, ud, ud, ud, ud, ud, ud, iN x, .bool true, u17, u18, u19, u20, u21, u22, u23, u24, u25, u26, u27, u28, u29, u30, u31, u32, u33, ud, ud, ud, ud, ud, ud, ud, ud, ud, ud, ud, ud, ud, ud, ud, ud, ud, ud, ud, ud, ud, ud, ud, ud, ud, ud, ud, ud, ud, ud, ud, ud, ud, ud, ud, ud, ud, ud, ud, ud, ud, ud, ud, ud, ud, ud, ud, ud, ud, ud, ud, ud, ud, ud, ud, ud, ud, ud, ud, ud, ud, ud, ud, ud, ud, ud, ud, ud, ud, ud, ud, ud, ud, ud, ud, ud, ud, ud, ud, ud], []⟩) ∧ (y ≤ 5) ∧ (V.heap[ga]? = some (.cells (Wz s) 148 (0, 0))) ∧ (V.heap[gr]? = some (.cells (zr_u64_25) 148 (0, 0))) ∧ (V.heap[gc]? = some (.cells (Wz (ccn s (5 * x + y))) 187 (0, 0))) ∧ (Keeps Nob w V)) (fun a _ => 5 - (intOf (a.tmps.getD 7 undef)).toNat) (by kernel_rfl) ?_ ?_
      · exact ⟨0, u19, u20, u21, u22, u23, u24, u25, u26, u27, u28, u29, u30, u31, u32, u33, by kernel_rfl, by omega, h20, h21, h22, K23⟩
      · rintro a V24 ⟨y, u19, u20, u21, u22, u23, u24, u25, u26, u27, u28, u29, u30, u31, u32, u33, rfl, hy, h25, h26, h27, K28⟩
        by_cases lt_y : y < 5
        · have ha1 := Kec.at_lt x y
          refine q_ <| qr_ [0, 1] <| pkq (iN y) <| ppq (.bool true) (dct ((((y : Nat) : Int)) < ((5) : Int)) (by omega)) <| ey_ <| s_ <| tq_ <| b_ 3 <| sy_reg <| rg_still 8 11 (opsAt (qc86_1 59684)) [qo86_1 59684 0, qo86_1 59684 1, qo86_1 59684 2, qo86_1 59684 3, qo86_1 59684 4, qo86_1 59684 5, qo86_1 59684 6, qo86_1 59684 7, qo86_1 59684 8, qo86_1 59684 9, qo86_1 59684 10] [qo86_1 59684 11] (by kernel_rfl) (by kernel_rfl) (by kernel_rfl) (by kernel_rfl) (by kernel_rfl) ?_
          obtain ⟨V30, eV30, kV30⟩ := drew_step V24
          rw [eV30]
          clear eV30
          have h31 := kV30.bk h25
          have h32 := kV30.bk h26
          have h33 := kV30.bk h27
          have K34 := K28.nn kV30
          refine skq (iN x) <| skq (iN x) <| spq (pT gc x) (exec_cast (v := pT gc (0 + x * 1)) (by simp) (exec_indexAt_arr 187 (.tmp 5) (.tmp 24) (by kernel_rfl) gc 0 (by kernel_rfl) .i64 x (by kernel_rfl) _ _ 1 Tryz.underlying187 (by kernel_rfl) (by omega))) <| spq (uN (Kec.g (ccn s (5 * x + y)) x)) (ldc 24 gc x (rc (h33) (Wz_get _ x (by rw [ccn_len]; omega)))) <| skq (iN x) <| skq (iN y) <| scq 154 #[iN x, iN y] (iN (Kec.at_ x y)) Tryz.func154 (hat_ok x y _ _ (by omega) (by omega) rfl) <| spq (.pointer (some ⟨ga, Kec.at_ x y, none⟩)) (exec_cast (v := .pointer (some ⟨ga, 0 + (Kec.at_ x y) * 1, none⟩)) (by simp) (exec_indexAt_arr 148 (.tmp 2) (.tmp 29) (by kernel_rfl) ga 0 (by kernel_rfl) .i64 (Kec.at_ x y) (by kernel_rfl) _ _ 1 Tryz.underlying148 (by kernel_rfl) (by omega))) <| spq (uN (Kec.g s (Kec.at_ x y))) (ldc 24 ga (Kec.at_ x y) (rc (h31) (Wz_get _ (Kec.at_ x y) (by rw [hs]; omega)))) <| spq (uN ((Kec.g (ccn s (5 * x + y)) x) ^^^ (Kec.g s (Kec.at_ x y)))) (exec_cast (xorU (Kec.g (ccn s (5 * x + y)) x) (Kec.g s (Kec.at_ x y)) (ws_ccn ws _ _) (ws _)) (by kernel_rfl)) <| spq (pT gc x) (exec_cast (v := pT gc (0 + x * 1)) (by simp) (exec_indexAt_arr 187 (.tmp 5) (.tmp 23) (by kernel_rfl) gc 0 (by kernel_rfl) .i64 x (by kernel_rfl) _ _ 1 Tryz.underlying187 (by kernel_rfl) (by omega))) <| st_end ?_
          obtain ⟨V35, eV35, kV35⟩ := cell_step V30 gc x (.int .u64 (((Kec.g (ccn s (5 * x + y)) x) ^^^ (Kec.g s (Kec.at_ x y)) : Nat) : Int))
          have h36 : V35.heap[gc]? = some (.cells (Wz (ccn s (5 * x + (y + 1)))) 187 (0, 0)) := eV35 ▸ ((heap_setCell_same _ gc x _ _ (.int .u64 (((Kec.g (ccn s (5 * x + y)) x) ^^^ (Kec.g s (Kec.at_ x y)) : Nat) : Int)) h33).trans (congrArg (fun c => some (Obj.cells c 187 (0, 0))) (show (Wz (ccn s (5 * x + y)) : Array Value).setIfInBounds x (.int .u64 (((Kec.g (ccn s (5 * x + y)) x) ^^^ (Kec.g s (Kec.at_ x y)) : Nat) : Int)) = Wz (ccn s (5 * x + (y + 1))) from by rw [Wz_set]; exact congrArg Wz (ccn_succ s x y lt_y))))
          refine ls_skip (qo86_1 59684 11) (w' := V35) (by kernel_rfl) (by rw [← eV35]; exact exec_store_cell 24 (.tmp 33) (.tmp 32) (by kernel_rfl) gc x (by kernel_rfl) (.int .u64 (((Kec.g (ccn s (5 * x + y)) x) ^^^ (Kec.g s (Kec.at_ x y)) : Nat) : Int)) (by kernel_rfl) (by kernel_rfl) (by kernel_rfl) (.int .u64 ((Kec.g (ccn s (5 * x + y)) x : Nat) : Int)) (rc (h33) (Wz_get _ x (by rw [ccn_len]; omega))) (frozen_of_row _ _ _ _ _ h33) (by kernel_rfl)) ?_
          clear eV35
          have h37 := kV35.bO h31
          have h38 := kV35.bO h32
          have K39 := K34.nO kV35
          refine ls_end <| blk_n <| tr_ [0, 1, 2] <| pkq (iN y) <| ppq (iN (y + 1)) (exec_cast (congrArg (Value.int .i64) (wrapN (y + 1) (by omega))) (by kernel_rfl)) <| pkq (iN (y + 1)) <| et_ ?_
          refine ⟨⟨y + 1, (iN y), (.bool true), (iN y), (iN (y + 1)), (iN x), (iN x), (pT gc x), (uN (Kec.g (ccn s (5 * x + y)) x)), (iN x), (iN y), (iN (Kec.at_ x y)), (.pointer (some ⟨ga, Kec.at_ x y, none⟩)), (uN (Kec.g s (Kec.at_ x y))), (uN ((Kec.g (ccn s (5 * x + y)) x) ^^^ (Kec.g s (Kec.at_ x y)))), (pT gc x), by kernel_rfl, by omega, h37, h38, h36, K39⟩, ?_⟩
          exact lt_meas (x := 5 - (y + 1)) (y := 5 - y) (by kernel_rfl) (by kernel_rfl) (by omega)
        · have eq_y : y = 5 := by omega
          refine q_ <| qr_ [0, 1] <| pkq (iN y) <| ppq (.bool false) (dcf ((((y : Nat) : Int)) < ((5) : Int)) (by omega)) <| en_ <| sy_exit 2 (by kernel_rfl) <| then_e <| then_e <| blk_e <| blk_n <| tr_ [0, 1, 2] <| pkq (iN x) <| ppq (iN (x + 1)) (exec_cast (congrArg (Value.int .i64) (wrapN (x + 1) (by omega))) (by kernel_rfl)) <| pkq (iN (x + 1)) ?_
          refine et_ ?_
          refine ⟨⟨x + 1, (iN y), (iN x), (.bool true), (iN x), (iN (x + 1)), (iN y), (.bool false), u21, u22, u23, u24, u25, u26, u27, u28, u29, u30, u31, u32, u33, by kernel_rfl, by omega, h25, h26, h27.trans (congrArg (fun n => some (Obj.cells (Wz (ccn s n)) 187 (0, 0))) (show 5 * x + y = 5 * (x + 1) by omega)), K28⟩, ?_⟩
          exact lt_meas (x := 5 - (x + 1)) (y := 5 - x) (by kernel_rfl) (by kernel_rfl) (by omega)
    · have eq_x : x = 5 := by omega
      have h40 : V19.heap[gc]? = some (.cells (Wz ((List.range 5).map (Kec.col s))) 187 (0, 0)) := (h22.trans (congrArg (fun n => some (Obj.cells (Wz (ccn s n)) 187 (0, 0))) (show 5 * x = 25 by omega))).trans (congrArg (fun l => some (Obj.cells (Wz l) 187 (0, 0))) (ccn_all s))
      refine q_ <| qr_ [0, 1] <| pkq (iN x) <| ppq (.bool false) (dcf ((((x : Nat) : Int)) < ((5) : Int)) (by omega)) <| en_ <| sy_exit 0 (by kernel_rfl) <| then_e <| then_e <| blk_e <| tqr_ [0, 1, 2] ?_
      refine pcq 155 #[] Tryz.func155 ((hturns_ok _).mono ?_)
      rintro e V41 ⟨rfl, kV41⟩
      refine ⟨_, rfl, ?_⟩
      have h42 := kV41.bk h20
      have h43 := kV41.bk h21
      have h44 := kV41.bk h40
      have K45 := K23.nn kV41
      refine pal 189 (zr_i64_25) (.agg (zr_i64_25)) fun V46 gt egt h47 kV46 => ?_
      have n48 : ga < gt := egt ▸ lt_of_block h42
      have n49 : gr < gt := egt ▸ lt_of_block h43
      have n50 : gc < gt := egt ▸ lt_of_block h44
      have n51 : w.heap.size ≤ gt := egt ▸ K45.size
      have h52 := kV46.bk h42
      have h53 := kV46.bk h43
      have h54 := kV46.bk h44
      have K55 := K45.nn kV46
      refine psk 189 gt Rz h47 fun V56 h57 kV56 => ?_
      have h58 := kV56.bO h52
      have h59 := kV56.bO h53
      have h60 := kV56.bO h54
      have K61 := K55.nO kV56
      refine eqr_ [0] <| pal 148 (zr_u64_25) (.agg (zr_u64_25)) fun V62 gb egb h63 kV62 => ?_
      have n64 : ga < gb := egb ▸ lt_of_block h58
      have n65 : gr < gb := egb ▸ lt_of_block h59
      have n66 : gc < gb := egb ▸ lt_of_block h60
      have n67 : gt < gb := egb ▸ lt_of_block h57
      have n68 : w.heap.size ≤ gb := egb ▸ K61.size
      have h69 := kV62.bk h58
      have h70 := kV62.bk h59
      have h71 := kV62.bk h60
      have h72 := kV62.bk h57
      have K73 := K61.nn kV62
      refine eq_ <| qr_ [0] <| pkq (.int .i64 0) <| et_ <| b_ 4 ?_
      refine sy_loop (qc86_1 1012) (fun a V => ∃ (x2 : Nat) (u11 u12 u35 u36 u37 u38 u39 u40 u41 u42 u43 u44 u45 u46 u47 u48 u49 u50 u51 u52 u53 u54 u55 u56 u57 u58 u59 u60 u61 u62 u63 u64 u65 u66 u67 u68 u69 u70 u71 u72 u73 u74 u75 : Value), (a = ⟨#[.agg (Wz s), uN k, pT ga 0, ud, pT gr 0, pT gc 0, iN x, u7, pT gt 0, pT gb 0, iN x2, u11, u12, ud, ud, iN x, .bool false, u17, u18, u19, u20, u21, u22, u23, u24, u25, u26, u27, u28, u29, u30, u31, u32, u33, .agg Rz, u35, u36, u37, u38, u39, u40, u41, u42, u43, u44, u45, u46, u47, u48, u49, u50, u51, u52, u53, u54, u55, u56, u57, u58, u59, u60, u61, u62, u63, u64, u65, u66, u67, u68, u69, u70, u71, u72, u73, u74, u75, ud, ud, ud, ud, ud, ud, ud, ud, ud, ud, ud, ud, ud, ud, ud, ud, ud, ud, ud, ud, ud, ud, ud, ud, ud, ud, ud, ud, ud, ud, ud, ud, ud, ud, ud, ud, ud, ud], []⟩) ∧ (x2 ≤ 5) ∧ (V.heap[ga]? = some (.cells (Wz s) 148 (0, 0))) ∧ (V.heap[gr]? = some (.cells (zr_u64_25) 148 (0, 0))) ∧ (V.heap[gc]? = some (.cells (Wz ((List.range 5).map (Kec.col s))) 187 (0, 0))) ∧ (V.heap[gt]? = some (.cells Rz 189 (0, 0))) ∧ (V.heap[gb]? = some (.cells (Wz (mmn s (5 * x2))) 148 (0, 0))) ∧ (Keeps Nob w V)) (fun a _ => 5 - (intOf (a.tmps.getD 10 undef)).toNat) (by kernel_rfl) ?_ ?_
      · exact ⟨0, undef, undef, undef, undef, undef, undef, undef, undef, undef, undef, undef, undef, undef, undef, undef, undef, undef, undef, undef, undef, undef, undef, undef, undef, undef, undef, undef, undef, undef, undef, undef, undef, undef, undef, undef, undef, undef, undef, undef, undef, undef, undef, undef, by kernel_rfl, by omega, h69, h70, h71, h72, h63.trans (by kernel_rfl), K73⟩
      · rintro a V74 ⟨x2, u11, u12, u35, u36, u37, u38, u39, u40, u41, u42, u43, u44, u45, u46, u47, u48, u49, u50, u51, u52, u53, u54, u55, u56, u57, u58, u59, u60, u61, u62, u63, u64, u65, u66, u67, u68, u69, u70, u71, u72, u73, u74, u75, rfl, hx2, h75, h76, h77, h78, h79, K80⟩
        by_cases lt_x2 : x2 < 5
        · show _
          refine q_ <| qr_ [0, 1] <| pkq (iN x2) <| ppq (.bool true) (dct ((((x2 : Nat) : Int)) < ((5) : Int)) (by omega)) <| ey_ <| s_ <| tq_ <| b_ 5 <| q_ <| sy_np <| sy_reg <| an_begin 14 13 (opsAt (qc86_1 16200)) (fun W => (W.heap[gc]? = some (.cells (Wz ((List.range 5).map (Kec.col s))) 187 (0, 0)))) #[false, false, false, false, false, false, false, false, false, false, false, false, false] (by kernel_rfl) (by kernel_rfl) (by kernel_rfl) (by kernel_rfl) ?_
          obtain ⟨V81, eV81, kV81⟩ := drew_step V74
          rw [eV81]
          clear eV81
          have h82 := kV81.bk h75
          have h83 := kV81.bk h76
          have h84 := kV81.bk h77
          have h85 := kV81.bk h78
          have h86 := kV81.bk h79
          have K87 := K80.nn kV81
          refine akq 0 (iN x2) h84 <| avq 1 (iN (x2 + 4)) (fun W hS => exec_cast (congrArg (Value.int .i64) (wrapN (x2 + 4) (by omega))) (by kernel_rfl)) h84 <| akq 2 (iN ((x2 + 4) % 5)) h84 <| avq 3 (.pointer (some ⟨gc, (x2 + 4) % 5, none⟩)) (fun W hS => exec_cast (v := .pointer (some ⟨gc, 0 + ((x2 + 4) % 5) * 1, none⟩)) (by simp) (exec_indexAt_arr 187 (.tmp 5) (.tmp 41) (by kernel_rfl) gc 0 (by kernel_rfl) .i64 ((x2 + 4) % 5) (by kernel_rfl) _ _ 1 Tryz.underlying187 (by kernel_rfl) (by omega))) h84 <| avq 4 (uN (Kec.col s ((x2 + 4) % 5))) (fun W hS => exec_ld 24 (.tmp 42) gc ((x2 + 4) % 5) Tryz.underlying24 (rc (hS) (Wz_get' _ ((x2 + 4) % 5) _ (by rw [List.length_map, List.length_range]; omega) (g_map5 _ _ (by omega))))) h84 <| akq 5 (iN x2) h84 <| avq 6 (iN (x2 + 1)) (fun W hS => exec_cast (congrArg (Value.int .i64) (wrapN (x2 + 1) (by omega))) (by kernel_rfl)) h84 <| akq 7 (iN ((x2 + 1) % 5)) h84 <| avq 8 (.pointer (some ⟨gc, (x2 + 1) % 5, none⟩)) (fun W hS => exec_cast (v := .pointer (some ⟨gc, 0 + ((x2 + 1) % 5) * 1, none⟩)) (by simp) (exec_indexAt_arr 187 (.tmp 5) (.tmp 46) (by kernel_rfl) gc 0 (by kernel_rfl) .i64 ((x2 + 1) % 5) (by kernel_rfl) _ _ 1 Tryz.underlying187 (by kernel_rfl) (by omega))) h84 <| avq 9 (uN (Kec.col s ((x2 + 1) % 5))) (fun W hS => exec_ld 24 (.tmp 47) gc ((x2 + 1) % 5) Tryz.underlying24 (rc (hS) (Wz_get' _ ((x2 + 1) % 5) _ (by rw [List.length_map, List.length_range]; omega) (g_map5 _ _ (by omega))))) h84 <| an_o 10 ?_
          refine ncq 156 #[uN (Kec.col s ((x2 + 1) % 5)), .int .i64 1] Tryz.func156 ((hrot_ok (Kec.col s ((x2 + 1) % 5)) 1 _ (Kec.col_lt ws _) (by omega)).mono ?_)
          rintro e V88 ⟨rfl, kV88⟩
          refine ⟨_, rfl, ?_⟩
          have h89 := kV88.bk h82
          have h90 := kV88.bk h83
          have h91 := kV88.bk h84
          have h92 := kV88.bk h85
          have h93 := kV88.bk h86
          have K94 := K87.nn kV88
          refine ⟨h91, ?_⟩
          refine avq 11 (uN ((Kec.col s ((x2 + 4) % 5)) ^^^ (Kec.rot (Kec.col s ((x2 + 1) % 5)) 1))) (fun W hS => exec_cast (xorU (Kec.col s ((x2 + 4) % 5)) (Kec.rot (Kec.col s ((x2 + 1) % 5)) 1) (Kec.col_lt ws _) (Kec.rot_lt (Kec.col_lt ws _) _)) (by kernel_rfl)) h91 <| an_o 12 <| nrq (uN ((Kec.col s ((x2 + 4) % 5)) ^^^ (Kec.rot (Kec.col s ((x2 + 1) % 5)) 1))) (w' := V88) (by kernel_rfl) ?_
          refine ⟨h91, ?_⟩
          refine an_end (by kernel_rfl) <| tqr_ [0] <| pkq (.int .i64 0) <| et_ <| b_ 6 ?_
          refine sy_loop (qc86_1 129612) (fun a V => ∃ (y2 : Nat) (u51 u52 u53 u54 u55 u56 u57 u58 u59 u60 u61 u62 u63 u64 u65 u66 u67 u68 u69 u70 u71 u72 u73 u74 u75 : Value), (a = ⟨#[.agg (Wz s), uN k, pT ga 0, ud, pT gr 0, pT gc 0, iN x, u7, pT gt 0, pT gb 0, iN x2, uN ((Kec.col s ((x2 + 4) % 5)) ^^^ (Kec.rot (Kec.col s ((x2 + 1) % 5)) 1)), iN y2, ud, ud, iN x, .bool false, u17, u18, u19, u20, u21, u22, u23, u24, u25, u26, u27, u28, u29, u30, u31, u32, u33, .agg Rz, iN x2, .bool true, u37, u38, iN x2, iN (x2 + 4), iN ((x2 + 4) % 5), .pointer (some ⟨gc, (x2 + 4) % 5, none⟩), uN (Kec.col s ((x2 + 4) % 5)), iN x2, iN (x2 + 1), iN ((x2 + 1) % 5), .pointer (some ⟨gc, (x2 + 1) % 5, none⟩), uN (Kec.col s ((x2 + 1) % 5)), uN (Kec.rot (Kec.col s ((x2 + 1) % 5)) 1), uN ((Kec.col s ((x2 + 4) % 5)) ^^^ (Kec.rot (Kec.col s ((x2 + 1) % 5)) 1)), u51, u52, u53, u54, u55, u56, u57, u58, u59, u60, u61, u62, u63, u64, u65, u66, u67, u68, u69, u70, u71, u72, u73, u74, u75, ud, ud, ud, ud, ud, ud, ud, ud, ud, ud, ud, ud, ud, ud, ud, ud, ud, ud, ud, ud, ud, ud, ud, ud, ud, ud, ud, ud, ud, ud, ud, ud, ud, ud, ud, ud, ud, ud], []⟩) ∧ (y2 ≤ 5) ∧ (V.heap[ga]? = some (.cells (Wz s) 148 (0, 0))) ∧ (V.heap[gr]? = some (.cells (zr_u64_25) 148 (0, 0))) ∧ (V.heap[gc]? = some (.cells (Wz ((List.range 5).map (Kec.col s))) 187 (0, 0))) ∧ (V.heap[gt]? = some (.cells Rz 189 (0, 0))) ∧ (V.heap[gb]? = some (.cells (Wz (mmn s (5 * x2 + y2))) 148 (0, 0))) ∧ (Keeps Nob w V)) (fun a _ => 5 - (intOf (a.tmps.getD 12 undef)).toNat) (by kernel_rfl) ?_ ?_
          · exact ⟨0, u51, u52, u53, u54, u55, u56, u57, u58, u59, u60, u61, u62, u63, u64, u65, u66, u67, u68, u69, u70, u71, u72, u73, u74, u75, by kernel_rfl, by omega, h89, h90, h91, h92, h93, K94⟩
          · rintro a V95 ⟨y2, u51, u52, u53, u54, u55, u56, u57, u58, u59, u60, u61, u62, u63, u64, u65, u66, u67, u68, u69, u70, u71, u72, u73, u74, u75, rfl, hy2, h96, h97, h98, h99, h100, K101⟩
            by_cases lt_y2 : y2 < 5
            · have ha1 := Kec.at_lt x2 y2
              have ha2 := Kec.at_lt y2 (2 * x2 + 3 * y2)
              refine q_ <| qr_ [0, 1] <| pkq (iN y2) <| ppq (.bool true) (dct ((((y2 : Nat) : Int)) < ((5) : Int)) (by omega)) <| ey_ <| s_ <| tq_ <| b_ 7 <| sy_np <| sy_reg <| an_begin 18 22 (opsAt (qc86_1 1036900)) (fun W => (W.heap[ga]? = some (.cells (Wz s) 148 (0, 0))) ∧ (W.heap[gt]? = some (.cells Rz 189 (0, 0)))) #[false, false, false, false, false, false, false, false, false, false, false, false, false, false, false, false, false, false, false, false, false, false] (by kernel_rfl) (by kernel_rfl) (by kernel_rfl) (by kernel_rfl) ?_
              obtain ⟨V102, eV102, kV102⟩ := drew_step V95
              rw [eV102]
              clear eV102
              have h103 := kV102.bk h96
              have h104 := kV102.bk h97
              have h105 := kV102.bk h98
              have h106 := kV102.bk h99
              have h107 := kV102.bk h100
              have K108 := K101.nn kV102
              refine akq 0 (iN y2) ⟨h103, h106⟩ <| akq 1 (iN x2) ⟨h103, h106⟩ <| avq 2 (iN (2 * x2)) (fun W hS => exec_cast (congrArg (Value.int .i64) (wrapN (2 * x2) (by omega))) (by kernel_rfl)) ⟨h103, h106⟩ <| akq 3 (iN y2) ⟨h103, h106⟩ <| avq 4 (iN (3 * y2)) (fun W hS => exec_cast (congrArg (Value.int .i64) (wrapN (3 * y2) (by omega))) (by kernel_rfl)) ⟨h103, h106⟩ <| avq 5 (iN ((2 * x2) + (3 * y2))) (fun W hS => exec_cast (congrArg (Value.int .i64) (wrapN ((2 * x2) + (3 * y2)) (by omega))) (by kernel_rfl)) ⟨h103, h106⟩ <| akq 7 (iN x2) ⟨h103, h106⟩ <| akq 8 (iN y2) ⟨h103, h106⟩ <| akq 12 (uN ((Kec.col s ((x2 + 4) % 5)) ^^^ (Kec.rot (Kec.col s ((x2 + 1) % 5)) 1))) ⟨h103, h106⟩ <| akq 14 (iN x2) ⟨h103, h106⟩ <| akq 15 (iN y2) ⟨h103, h106⟩ <| an_o 6 ?_
              refine ncq 154 #[iN y2, iN ((2 * x2) + (3 * y2))] Tryz.func154 ((hat_ok y2 ((2 * x2) + (3 * y2)) _ _ (by omega) (by omega) rfl).mono ?_)
              rintro e w1 ⟨rfl, rfl⟩
              refine ⟨_, rfl, ?_⟩
              refine ⟨⟨h103, h106⟩, ?_⟩
              refine an_o 9 ?_
              refine ncq 154 #[iN x2, iN y2] Tryz.func154 ((hat_ok x2 y2 _ _ (by omega) (by omega) rfl).mono ?_)
              rintro e w1 ⟨rfl, rfl⟩
              refine ⟨_, rfl, ?_⟩
              refine ⟨⟨h103, h106⟩, ?_⟩
              refine avq 10 (.pointer (some ⟨ga, Kec.at_ x2 y2, none⟩)) (fun W hS => exec_cast (v := .pointer (some ⟨ga, 0 + (Kec.at_ x2 y2) * 1, none⟩)) (by simp) (exec_indexAt_arr 148 (.tmp 2) (.tmp 64) (by kernel_rfl) ga 0 (by kernel_rfl) .i64 (Kec.at_ x2 y2) (by kernel_rfl) _ _ 1 Tryz.underlying148 (by kernel_rfl) (by omega))) ⟨h103, h106⟩ <| avq 11 (uN (Kec.g s (Kec.at_ x2 y2))) (fun W hS => ldc 24 ga (Kec.at_ x2 y2) (rc (hS.1) (Wz_get _ (Kec.at_ x2 y2) (by rw [hs]; omega)))) ⟨h103, h106⟩ <| avq 13 (uN ((Kec.g s (Kec.at_ x2 y2)) ^^^ ((Kec.col s ((x2 + 4) % 5)) ^^^ (Kec.rot (Kec.col s ((x2 + 1) % 5)) 1)))) (fun W hS => exec_cast (xorU (Kec.g s (Kec.at_ x2 y2)) ((Kec.col s ((x2 + 4) % 5)) ^^^ (Kec.rot (Kec.col s ((x2 + 1) % 5)) 1)) (ws _) (Kec.xor_lt (Kec.col_lt ws _) (Kec.rot_lt (Kec.col_lt ws _) _))) (by kernel_rfl)) ⟨h103, h106⟩ <| an_o 16 ?_
              refine ncq 154 #[iN x2, iN y2] Tryz.func154 ((hat_ok x2 y2 _ _ (by omega) (by omega) rfl).mono ?_)
              rintro e w1 ⟨rfl, rfl⟩
              refine ⟨_, rfl, ?_⟩
              refine ⟨⟨h103, h106⟩, ?_⟩
              refine avq 17 (.pointer (some ⟨gt, Kec.at_ x2 y2, none⟩)) (fun W hS => exec_cast (v := .pointer (some ⟨gt, 0 + (Kec.at_ x2 y2) * 1, none⟩)) (by simp) (exec_indexAt_arr 189 (.tmp 8) (.tmp 71) (by kernel_rfl) gt 0 (by kernel_rfl) .i64 (Kec.at_ x2 y2) (by kernel_rfl) _ _ 1 Tryz.underlying189 (by kernel_rfl) (by omega))) ⟨h103, h106⟩ <| avq 18 (iN (Kec.g Kec.R (Kec.at_ x2 y2))) (fun W hS => ldc 3 gt (Kec.at_ x2 y2) (rc (hS.2) (Rz_get (Kec.at_ x2 y2) (by omega)))) ⟨h103, h106⟩ <| an_o 19 ?_
              refine ncq 156 #[uN ((Kec.g s (Kec.at_ x2 y2)) ^^^ ((Kec.col s ((x2 + 4) % 5)) ^^^ (Kec.rot (Kec.col s ((x2 + 1) % 5)) 1))), iN (Kec.g Kec.R (Kec.at_ x2 y2))] Tryz.func156 ((hrot_ok ((Kec.g s (Kec.at_ x2 y2)) ^^^ ((Kec.col s ((x2 + 4) % 5)) ^^^ (Kec.rot (Kec.col s ((x2 + 1) % 5)) 1))) (Kec.g Kec.R (Kec.at_ x2 y2)) _ (Kec.xor_lt (ws _) (Kec.xor_lt (Kec.col_lt ws _) (Kec.rot_lt (Kec.col_lt ws _) _))) (Kec.R_lt' _ (by omega))).mono ?_)
              rintro e V109 ⟨rfl, kV109⟩
              refine ⟨_, rfl, ?_⟩
              have h110 := kV109.bk h103
              have h111 := kV109.bk h104
              have h112 := kV109.bk h105
              have h113 := kV109.bk h106
              have h114 := kV109.bk h107
              have K115 := K108.nn kV109
              refine ⟨⟨h110, h113⟩, ?_⟩
              refine avq 20 (.pointer (some ⟨gb, Kec.at_ y2 ((2 * x2) + (3 * y2)), none⟩)) (fun W hS => exec_cast (v := .pointer (some ⟨gb, 0 + (Kec.at_ y2 ((2 * x2) + (3 * y2))) * 1, none⟩)) (by simp) (exec_indexAt_arr 148 (.tmp 9) (.tmp 61) (by kernel_rfl) gb 0 (by kernel_rfl) .i64 (Kec.at_ y2 ((2 * x2) + (3 * y2))) (by kernel_rfl) _ _ 1 Tryz.underlying148 (by kernel_rfl) (by omega))) ⟨h110, h113⟩ <| an_o 21 <| nce 24 gb (Kec.at_ y2 ((2 * x2) + (3 * y2))) (uN (Kec.rot ((Kec.g s (Kec.at_ x2 y2)) ^^^ ((Kec.col s ((x2 + 4) % 5)) ^^^ (Kec.rot (Kec.col s ((x2 + 1) % 5)) 1))) (Kec.g Kec.R (Kec.at_ x2 y2)))) (Wz (mmn s (5 * x2 + (y2 + 1)))) h114 (rc (h114) (Wz_get _ (Kec.at_ y2 ((2 * x2) + (3 * y2))) (by rw [mmn_len]; omega))) (by rw [Wz_set]; exact congrArg Wz (mmn_succ s x2 y2 lt_y2)) fun V116 h117 kV116 => ?_
              have h118 := kV116.bO h110
              have h119 := kV116.bO h111
              have h120 := kV116.bO h112
              have h121 := kV116.bO h113
              have K122 := K115.nO kV116
              refine ⟨⟨h118, h121⟩, ?_⟩
              refine an_end (by kernel_rfl) <| sy_a ⟨#[.agg (Wz s), uN k, pT ga 0, ud, pT gr 0, pT gc 0, iN x, u7, pT gt 0, pT gb 0, iN x2, uN ((Kec.col s ((x2 + 4) % 5)) ^^^ (Kec.rot (Kec.col s ((x2 + 1) % 5)) 1)), iN y2, ud, ud, iN x, .bool false, u17, u18, u19, u20, u21, u22, u23, u24, u25, u26, u27, u28, u29, u30, u31, u32, u33, .agg Rz, iN x2, .bool true, u37, u38, iN x2, iN (x2 + 4), iN ((x2 + 4) % 5), .pointer (some ⟨gc, (x2 + 4) % 5, none⟩), uN (Kec.col s ((x2 + 4) % 5)), iN x2, iN (x2 + 1), iN ((x2 + 1) % 5), .pointer (some ⟨gc, (x2 + 1) % 5, none⟩), uN (Kec.col s ((x2 + 1) % 5)), uN (Kec.rot (Kec.col s ((x2 + 1) % 5)) 1), uN ((Kec.col s ((x2 + 4) % 5)) ^^^ (Kec.rot (Kec.col s ((x2 + 1) % 5)) 1)), iN y2, .bool true, u53, u54, iN y2, iN x2, iN (2 * x2), iN y2, iN (3 * y2), iN ((2 * x2) + (3 * y2)), iN (Kec.at_ y2 ((2 * x2) + (3 * y2))), iN x2, iN y2, iN (Kec.at_ x2 y2), .pointer (some ⟨ga, Kec.at_ x2 y2, none⟩), uN (Kec.g s (Kec.at_ x2 y2)), uN ((Kec.col s ((x2 + 4) % 5)) ^^^ (Kec.rot (Kec.col s ((x2 + 1) % 5)) 1)), uN ((Kec.g s (Kec.at_ x2 y2)) ^^^ ((Kec.col s ((x2 + 4) % 5)) ^^^ (Kec.rot (Kec.col s ((x2 + 1) % 5)) 1))), iN x2, iN y2, iN (Kec.at_ x2 y2), .pointer (some ⟨gt, Kec.at_ x2 y2, none⟩), iN (Kec.g Kec.R (Kec.at_ x2 y2)), uN (Kec.rot ((Kec.g s (Kec.at_ x2 y2)) ^^^ ((Kec.col s ((x2 + 4) % 5)) ^^^ (Kec.rot (Kec.col s ((x2 + 1) % 5)) 1))) (Kec.g Kec.R (Kec.at_ x2 y2))), .pointer (some ⟨gb, Kec.at_ y2 ((2 * x2) + (3 * y2)), none⟩), ud, ud, ud, ud, ud, ud, ud, ud, ud, ud, ud, ud, ud, ud, ud, ud, ud, ud, ud, ud, ud, ud, ud, ud, ud, ud, ud, ud, ud, ud, ud, ud, ud, ud, ud, ud, ud, ud], []⟩ <| blk_n <| tr_ [0, 1, 2] <| pkq (iN y2) <| ppq (iN (y2 + 1)) (exec_cast (congrArg (Value.int .i64) (wrapN (y2 + 1) (by omega))) (by kernel_rfl)) <| pkq (iN (y2 + 1)) <| et_ ?_
              refine ⟨⟨y2 + 1, (iN y2), (.bool true), (iN y2), (iN (y2 + 1)), (iN y2), (iN x2), (iN (2 * x2)), (iN y2), (iN (3 * y2)), (iN ((2 * x2) + (3 * y2))), (iN (Kec.at_ y2 ((2 * x2) + (3 * y2)))), (iN x2), (iN y2), (iN (Kec.at_ x2 y2)), (.pointer (some ⟨ga, Kec.at_ x2 y2, none⟩)), (uN (Kec.g s (Kec.at_ x2 y2))), (uN ((Kec.col s ((x2 + 4) % 5)) ^^^ (Kec.rot (Kec.col s ((x2 + 1) % 5)) 1))), (uN ((Kec.g s (Kec.at_ x2 y2)) ^^^ ((Kec.col s ((x2 + 4) % 5)) ^^^ (Kec.rot (Kec.col s ((x2 + 1) % 5)) 1)))), (iN x2), (iN y2), (iN (Kec.at_ x2 y2)), (.pointer (some ⟨gt, Kec.at_ x2 y2, none⟩)), (iN (Kec.g Kec.R (Kec.at_ x2 y2))), (uN (Kec.rot ((Kec.g s (Kec.at_ x2 y2)) ^^^ ((Kec.col s ((x2 + 4) % 5)) ^^^ (Kec.rot (Kec.col s ((x2 + 1) % 5)) 1))) (Kec.g Kec.R (Kec.at_ x2 y2)))), (.pointer (some ⟨gb, Kec.at_ y2 ((2 * x2) + (3 * y2)), none⟩)), by kernel_rfl, by omega, h118, h119, h120, h121, h117, K122⟩, ?_⟩
              exact lt_meas (x := 5 - (y2 + 1)) (y := 5 - y2) (by kernel_rfl) (by kernel_rfl) (by omega)
            · have eq_y2 : y2 = 5 := by omega
              refine q_ <| qr_ [0, 1] <| pkq (iN y2) <| ppq (.bool false) (dcf ((((y2 : Nat) : Int)) < ((5) : Int)) (by omega)) <| en_ <| sy_exit 6 (by kernel_rfl) <| then_e <| then_e <| blk_e <| blk_n <| tr_ [0, 1, 2] <| pkq (iN x2) <| ppq (iN (x2 + 1)) (exec_cast (congrArg (Value.int .i64) (wrapN (x2 + 1) (by omega))) (by kernel_rfl)) <| pkq (iN (x2 + 1)) ?_
              refine et_ ?_
              refine ⟨⟨x2 + 1, (uN ((Kec.col s ((x2 + 4) % 5)) ^^^ (Kec.rot (Kec.col s ((x2 + 1) % 5)) 1))), (iN y2), (iN x2), (.bool true), (iN x2), (iN (x2 + 1)), (iN x2), (iN (x2 + 4)), (iN ((x2 + 4) % 5)), (.pointer (some ⟨gc, (x2 + 4) % 5, none⟩)), (uN (Kec.col s ((x2 + 4) % 5))), (iN x2), (iN (x2 + 1)), (iN ((x2 + 1) % 5)), (.pointer (some ⟨gc, (x2 + 1) % 5, none⟩)), (uN (Kec.col s ((x2 + 1) % 5))), (uN (Kec.rot (Kec.col s ((x2 + 1) % 5)) 1)), (uN ((Kec.col s ((x2 + 4) % 5)) ^^^ (Kec.rot (Kec.col s ((x2 + 1) % 5)) 1))), (iN y2), (.bool false), u53, u54, u55, u56, u57, u58, u59, u60, u61, u62, u63, u64, u65, u66, u67, u68, u69, u70, u71, u72, u73, u74, u75, by kernel_rfl, by omega, h96, h97, h98, h99, h100.trans (congrArg (fun n => some (Obj.cells (Wz (mmn s n)) 148 (0, 0))) (show 5 * x2 + y2 = 5 * (x2 + 1) by omega)), K101⟩, ?_⟩
              exact lt_meas (x := 5 - (x2 + 1)) (y := 5 - x2) (by kernel_rfl) (by kernel_rfl) (by omega)
        · have eq_x2 : x2 = 5 := by omega
          have h123 : V74.heap[gb]? = some (.cells (Wz (Kec.moves (Kec.columns s))) 148 (0, 0)) := (h79.trans (congrArg (fun n => some (Obj.cells (Wz (mmn s n)) 148 (0, 0))) (show 5 * x2 = 25 by omega))).trans (congrArg (fun l => some (Obj.cells (Wz l) 148 (0, 0))) (mmn_all s))
          refine q_ <| qr_ [0, 1] <| pkq (iN x2) <| ppq (.bool false) (dcf ((((x2 : Nat) : Int)) < ((5) : Int)) (by omega)) <| en_ <| sy_exit 4 (by kernel_rfl) <| then_e <| then_e <| blk_e <| tq_ <| qr_ [0] <| pkq (.int .i64 0) <| et_ <| b_ 8 ?_
          refine sy_loop (qc86_1 2036) (fun a V => ∃ (x3 : Nat) (u14 u76 u77 u78 u79 u80 u81 u82 u83 u84 u85 u86 u87 u88 u89 u90 u91 u92 u93 u94 u95 u96 u97 u98 u99 u100 u101 u102 u103 u104 u105 u106 u107 : Value), (a = ⟨#[.agg (Wz s), uN k, pT ga 0, ud, pT gr 0, pT gc 0, iN x, u7, pT gt 0, pT gb 0, iN x2, u11, u12, iN x3, u14, iN x, .bool false, u17, u18, u19, u20, u21, u22, u23, u24, u25, u26, u27, u28, u29, u30, u31, u32, u33, .agg Rz, iN x2, .bool false, u37, u38, u39, u40, u41, u42, u43, u44, u45, u46, u47, u48, u49, u50, u51, u52, u53, u54, u55, u56, u57, u58, u59, u60, u61, u62, u63, u64, u65, u66, u67, u68, u69, u70, u71, u72, u73, u74, u75, u76, u77, u78, u79, u80, u81, u82, u83, u84, u85, u86, u87, u88, u89, u90, u91, u92, u93, u94, u95, u96, u97, u98, u99, u100, u101, u102, u103, u104, u105, u106, u107, ud, ud, ud, ud, ud, ud], []⟩) ∧ (x3 ≤ 5) ∧ (V.heap[ga]? = some (.cells (Wz (xxn (Kec.moves (Kec.columns s)) (5 * x3) s)) 148 (0, 0))) ∧ (V.heap[gr]? = some (.cells (zr_u64_25) 148 (0, 0))) ∧ (V.heap[gc]? = some (.cells (Wz ((List.range 5).map (Kec.col s))) 187 (0, 0))) ∧ (V.heap[gt]? = some (.cells Rz 189 (0, 0))) ∧ (V.heap[gb]? = some (.cells (Wz (Kec.moves (Kec.columns s))) 148 (0, 0))) ∧ (Keeps Nob w V)) (fun a _ => 5 - (intOf (a.tmps.getD 13 undef)).toNat) (by kernel_rfl) ?_ ?_
          · exact ⟨0, undef, undef, undef, undef, undef, undef, undef, undef, undef, undef, undef, undef, undef, undef, undef, undef, undef, undef, undef, undef, undef, undef, undef, undef, undef, undef, undef, undef, undef, undef, undef, undef, undef, by kernel_rfl, by omega, h75, h76, h77, h78, h123, K80⟩
          · rintro a V124 ⟨x3, u14, u76, u77, u78, u79, u80, u81, u82, u83, u84, u85, u86, u87, u88, u89, u90, u91, u92, u93, u94, u95, u96, u97, u98, u99, u100, u101, u102, u103, u104, u105, u106, u107, rfl, hx3, h125, h126, h127, h128, h129, K130⟩
            by_cases lt_x3 : x3 < 5
            · show _
              refine q_ <| qr_ [0, 1] <| pkq (iN x3) <| ppq (.bool true) (dct ((((x3 : Nat) : Int)) < ((5) : Int)) (by omega)) <| ey_ <| s_ <| tq_ <| b_ 9 <| qr_ [0] <| pkq (.int .i64 0) <| et_ <| b_ 10 ?_
              refine sy_loop (qc86_1 130340) (fun a V => ∃ (y3 : Nat) (u80 u81 u82 u83 u84 u85 u86 u87 u88 u89 u90 u91 u92 u93 u94 u95 u96 u97 u98 u99 u100 u101 u102 u103 u104 u105 u106 u107 : Value), (a = ⟨#[.agg (Wz s), uN k, pT ga 0, ud, pT gr 0, pT gc 0, iN x, u7, pT gt 0, pT gb 0, iN x2, u11, u12, iN x3, iN y3, iN x, .bool false, u17, u18, u19, u20, u21, u22, u23, u24, u25, u26, u27, u28, u29, u30, u31, u32, u33, .agg Rz, iN x2, .bool false, u37, u38, u39, u40, u41, u42, u43, u44, u45, u46, u47, u48, u49, u50, u51, u52, u53, u54, u55, u56, u57, u58, u59, u60, u61, u62, u63, u64, u65, u66, u67, u68, u69, u70, u71, u72, u73, u74, u75, iN x3, .bool true, u78, u79, u80, u81, u82, u83, u84, u85, u86, u87, u88, u89, u90, u91, u92, u93, u94, u95, u96, u97, u98, u99, u100, u101, u102, u103, u104, u105, u106, u107, ud, ud, ud, ud, ud, ud], []⟩) ∧ (y3 ≤ 5) ∧ (V.heap[ga]? = some (.cells (Wz (xxn (Kec.moves (Kec.columns s)) (5 * x3 + y3) s)) 148 (0, 0))) ∧ (V.heap[gr]? = some (.cells (zr_u64_25) 148 (0, 0))) ∧ (V.heap[gc]? = some (.cells (Wz ((List.range 5).map (Kec.col s))) 187 (0, 0))) ∧ (V.heap[gt]? = some (.cells Rz 189 (0, 0))) ∧ (V.heap[gb]? = some (.cells (Wz (Kec.moves (Kec.columns s))) 148 (0, 0))) ∧ (Keeps Nob w V)) (fun a _ => 5 - (intOf (a.tmps.getD 14 undef)).toNat) (by kernel_rfl) ?_ ?_
              · exact ⟨0, u80, u81, u82, u83, u84, u85, u86, u87, u88, u89, u90, u91, u92, u93, u94, u95, u96, u97, u98, u99, u100, u101, u102, u103, u104, u105, u106, u107, by kernel_rfl, by omega, h125, h126, h127, h128, h129, K130⟩
              · rintro a V131 ⟨y3, u80, u81, u82, u83, u84, u85, u86, u87, u88, u89, u90, u91, u92, u93, u94, u95, u96, u97, u98, u99, u100, u101, u102, u103, u104, u105, u106, u107, rfl, hy3, h132, h133, h134, h135, h136, K137⟩
                by_cases lt_y3 : y3 < 5
                · have ha1 := Kec.at_lt x3 y3
                  have ha2 := Kec.at_lt (x3 + 1) y3
                  have ha3 := Kec.at_lt (x3 + 2) y3
                  refine q_ <| qr_ [0, 1] <| pkq (iN y3) <| ppq (.bool true) (dct ((((y3 : Nat) : Int)) < ((5) : Int)) (by omega)) <| ey_ <| s_ <| tq_ <| b_ 11 <| sy_reg <| rg_still 25 24 (opsAt (qc86_1 1042724)) [qo86_1 1042724 0, qo86_1 1042724 1, qo86_1 1042724 2, qo86_1 1042724 3, qo86_1 1042724 4, qo86_1 1042724 5, qo86_1 1042724 6, qo86_1 1042724 7, qo86_1 1042724 8, qo86_1 1042724 9, qo86_1 1042724 10, qo86_1 1042724 11, qo86_1 1042724 12, qo86_1 1042724 13, qo86_1 1042724 14, qo86_1 1042724 15, qo86_1 1042724 16, qo86_1 1042724 17, qo86_1 1042724 18, qo86_1 1042724 19, qo86_1 1042724 20, qo86_1 1042724 21, qo86_1 1042724 22, qo86_1 1042724 23] [qo86_1 1042724 24] (by kernel_rfl) (by kernel_rfl) (by kernel_rfl) (by kernel_rfl) (by kernel_rfl) ?_
                  obtain ⟨V139, eV139, kV139⟩ := drew_step V131
                  rw [eV139]
                  clear eV139
                  have h140 := kV139.bk h132
                  have h141 := kV139.bk h133
                  have h142 := kV139.bk h134
                  have h143 := kV139.bk h135
                  have h144 := kV139.bk h136
                  have K145 := K137.nn kV139
                  refine skq (iN x3) <| skq (iN y3) <| scq 154 #[iN x3, iN y3] (iN (Kec.at_ x3 y3)) Tryz.func154 (hat_ok x3 y3 _ _ (by omega) (by omega) rfl) <| skq (iN x3) <| skq (iN y3) <| scq 154 #[iN x3, iN y3] (iN (Kec.at_ x3 y3)) Tryz.func154 (hat_ok x3 y3 _ _ (by omega) (by omega) rfl) <| spq (.pointer (some ⟨gb, Kec.at_ x3 y3, none⟩)) (exec_cast (v := .pointer (some ⟨gb, 0 + (Kec.at_ x3 y3) * 1, none⟩)) (by simp) (exec_indexAt_arr 148 (.tmp 9) (.tmp 89) (by kernel_rfl) gb 0 (by kernel_rfl) .i64 (Kec.at_ x3 y3) (by kernel_rfl) _ _ 1 Tryz.underlying148 (by kernel_rfl) (by omega))) <| spq (uN (Kec.g (Kec.moves (Kec.columns s)) (Kec.at_ x3 y3))) (ldc 24 gb (Kec.at_ x3 y3) (rc (h144) (Wz_get _ (Kec.at_ x3 y3) (by rw [Kec.len_moves]; omega)))) <| skq (iN x3) <| spq (iN (x3 + 1)) (exec_cast (congrArg (Value.int .i64) (wrapN (x3 + 1) (by omega))) (by kernel_rfl)) <| skq (iN y3) <| scq 154 #[iN (x3 + 1), iN y3] (iN (Kec.at_ (x3 + 1) y3)) Tryz.func154 (hat_ok (x3 + 1) y3 _ _ (by omega) (by omega) rfl) <| spq (.pointer (some ⟨gb, Kec.at_ (x3 + 1) y3, none⟩)) (exec_cast (v := .pointer (some ⟨gb, 0 + (Kec.at_ (x3 + 1) y3) * 1, none⟩)) (by simp) (exec_indexAt_arr 148 (.tmp 9) (.tmp 95) (by kernel_rfl) gb 0 (by kernel_rfl) .i64 (Kec.at_ (x3 + 1) y3) (by kernel_rfl) _ _ 1 Tryz.underlying148 (by kernel_rfl) (by omega))) <| spq (uN (Kec.g (Kec.moves (Kec.columns s)) (Kec.at_ (x3 + 1) y3))) (exec_ld 24 (.tmp 96) gb (Kec.at_ (x3 + 1) y3) Tryz.underlying24 (rc (h144) (Wz_get _ (Kec.at_ (x3 + 1) y3) (by rw [Kec.len_moves]; omega)))) ?_
                  refine spq (uN (Kec.W - 1 - (Kec.g (Kec.moves (Kec.columns s)) (Kec.at_ (x3 + 1) y3)))) (exec_cast (notU (Kec.g (Kec.moves (Kec.columns s)) (Kec.at_ (x3 + 1) y3)) (Kec.ws_moves (Kec.ws_columns ws) _)) (by kernel_rfl)) <| skq (iN x3) <| spq (iN (x3 + 2)) (exec_cast (congrArg (Value.int .i64) (wrapN (x3 + 2) (by omega))) (by kernel_rfl)) <| skq (iN y3) <| scq 154 #[iN (x3 + 2), iN y3] (iN (Kec.at_ (x3 + 2) y3)) Tryz.func154 (hat_ok (x3 + 2) y3 _ _ (by omega) (by omega) rfl) <| spq (.pointer (some ⟨gb, Kec.at_ (x3 + 2) y3, none⟩)) (exec_cast (v := .pointer (some ⟨gb, 0 + (Kec.at_ (x3 + 2) y3) * 1, none⟩)) (by simp) (exec_indexAt_arr 148 (.tmp 9) (.tmp 102) (by kernel_rfl) gb 0 (by kernel_rfl) .i64 (Kec.at_ (x3 + 2) y3) (by kernel_rfl) _ _ 1 Tryz.underlying148 (by kernel_rfl) (by omega))) <| spq (uN (Kec.g (Kec.moves (Kec.columns s)) (Kec.at_ (x3 + 2) y3))) (exec_ld 24 (.tmp 103) gb (Kec.at_ (x3 + 2) y3) Tryz.underlying24 (rc (h144) (Wz_get _ (Kec.at_ (x3 + 2) y3) (by rw [Kec.len_moves]; omega)))) <| spq (uN ((Kec.W - 1 - (Kec.g (Kec.moves (Kec.columns s)) (Kec.at_ (x3 + 1) y3))) &&& (Kec.g (Kec.moves (Kec.columns s)) (Kec.at_ (x3 + 2) y3)))) (exec_cast (andU (Kec.W - 1 - (Kec.g (Kec.moves (Kec.columns s)) (Kec.at_ (x3 + 1) y3))) (Kec.g (Kec.moves (Kec.columns s)) (Kec.at_ (x3 + 2) y3)) (Kec.sub_lt _) (Kec.ws_moves (Kec.ws_columns ws) _)) (by kernel_rfl)) <| spq (uN ((Kec.g (Kec.moves (Kec.columns s)) (Kec.at_ x3 y3)) ^^^ ((Kec.W - 1 - (Kec.g (Kec.moves (Kec.columns s)) (Kec.at_ (x3 + 1) y3))) &&& (Kec.g (Kec.moves (Kec.columns s)) (Kec.at_ (x3 + 2) y3))))) (exec_cast (xorU (Kec.g (Kec.moves (Kec.columns s)) (Kec.at_ x3 y3)) ((Kec.W - 1 - (Kec.g (Kec.moves (Kec.columns s)) (Kec.at_ (x3 + 1) y3))) &&& (Kec.g (Kec.moves (Kec.columns s)) (Kec.at_ (x3 + 2) y3))) (Kec.ws_moves (Kec.ws_columns ws) _) (Kec.and_lt (Kec.ws_moves (Kec.ws_columns ws) _))) (by kernel_rfl)) <| spq (.pointer (some ⟨ga, Kec.at_ x3 y3, none⟩)) (exec_cast (v := .pointer (some ⟨ga, 0 + (Kec.at_ x3 y3) * 1, none⟩)) (by simp) (exec_indexAt_arr 148 (.tmp 2) (.tmp 86) (by kernel_rfl) ga 0 (by kernel_rfl) .i64 (Kec.at_ x3 y3) (by kernel_rfl) _ _ 1 Tryz.underlying148 (by kernel_rfl) (by omega))) <| st_end ?_
                  obtain ⟨V146, eV146, kV146⟩ := cell_step V139 ga (Kec.at_ x3 y3) (.int .u64 (((Kec.g (Kec.moves (Kec.columns s)) (Kec.at_ x3 y3)) ^^^ ((Kec.W - 1 - (Kec.g (Kec.moves (Kec.columns s)) (Kec.at_ (x3 + 1) y3))) &&& (Kec.g (Kec.moves (Kec.columns s)) (Kec.at_ (x3 + 2) y3))) : Nat) : Int))
                  have h147 : V146.heap[ga]? = some (.cells (Wz (xxn (Kec.moves (Kec.columns s)) (5 * x3 + (y3 + 1)) s)) 148 (0, 0)) := eV146 ▸ ((heap_setCell_same _ ga (Kec.at_ x3 y3) _ _ (.int .u64 (((Kec.g (Kec.moves (Kec.columns s)) (Kec.at_ x3 y3)) ^^^ ((Kec.W - 1 - (Kec.g (Kec.moves (Kec.columns s)) (Kec.at_ (x3 + 1) y3))) &&& (Kec.g (Kec.moves (Kec.columns s)) (Kec.at_ (x3 + 2) y3))) : Nat) : Int)) h140).trans (congrArg (fun c => some (Obj.cells c 148 (0, 0))) (show (Wz (xxn (Kec.moves (Kec.columns s)) (5 * x3 + y3) s) : Array Value).setIfInBounds (Kec.at_ x3 y3) (.int .u64 (((Kec.g (Kec.moves (Kec.columns s)) (Kec.at_ x3 y3)) ^^^ ((Kec.W - 1 - (Kec.g (Kec.moves (Kec.columns s)) (Kec.at_ (x3 + 1) y3))) &&& (Kec.g (Kec.moves (Kec.columns s)) (Kec.at_ (x3 + 2) y3))) : Nat) : Int)) = Wz (xxn (Kec.moves (Kec.columns s)) (5 * x3 + (y3 + 1)) s) from by rw [Wz_set]; exact congrArg Wz (xxn_succ s (Kec.moves (Kec.columns s)) x3 y3 lt_y3))))
                  refine ls_skip (qo86_1 1042724 24) (w' := V146) (by kernel_rfl) (by rw [← eV146]; exact exec_store_cell 24 (.tmp 107) (.tmp 106) (by kernel_rfl) ga (Kec.at_ x3 y3) (by kernel_rfl) (.int .u64 (((Kec.g (Kec.moves (Kec.columns s)) (Kec.at_ x3 y3)) ^^^ ((Kec.W - 1 - (Kec.g (Kec.moves (Kec.columns s)) (Kec.at_ (x3 + 1) y3))) &&& (Kec.g (Kec.moves (Kec.columns s)) (Kec.at_ (x3 + 2) y3))) : Nat) : Int)) (by kernel_rfl) (by kernel_rfl) (by kernel_rfl) (.int .u64 ((Kec.g (xxn (Kec.moves (Kec.columns s)) (5 * x3 + y3) s) (Kec.at_ x3 y3) : Nat) : Int)) (rc (h140) (Wz_get _ (Kec.at_ x3 y3) (by rw [xxn_len, hs]; omega))) (frozen_of_row _ _ _ _ _ h140) (by kernel_rfl)) ?_
                  clear eV146
                  have h148 := kV146.bO h141
                  have h149 := kV146.bO h142
                  have h150 := kV146.bO h143
                  have h151 := kV146.bO h144
                  have K152 := K145.nO kV146
                  refine ls_end <| sy_a ⟨#[.agg (Wz s), uN k, pT ga 0, ud, pT gr 0, pT gc 0, iN x, u7, pT gt 0, pT gb 0, iN x2, u11, u12, iN x3, iN y3, iN x, .bool false, u17, u18, u19, u20, u21, u22, u23, u24, u25, u26, u27, u28, u29, u30, u31, u32, u33, .agg Rz, iN x2, .bool false, u37, u38, u39, u40, u41, u42, u43, u44, u45, u46, u47, u48, u49, u50, u51, u52, u53, u54, u55, u56, u57, u58, u59, u60, u61, u62, u63, u64, u65, u66, u67, u68, u69, u70, u71, u72, u73, u74, u75, iN x3, .bool true, u78, u79, iN y3, .bool true, u82, u83, iN x3, iN y3, iN (Kec.at_ x3 y3), iN x3, iN y3, iN (Kec.at_ x3 y3), .pointer (some ⟨gb, Kec.at_ x3 y3, none⟩), uN (Kec.g (Kec.moves (Kec.columns s)) (Kec.at_ x3 y3)), iN x3, iN (x3 + 1), iN y3, iN (Kec.at_ (x3 + 1) y3), .pointer (some ⟨gb, Kec.at_ (x3 + 1) y3, none⟩), uN (Kec.g (Kec.moves (Kec.columns s)) (Kec.at_ (x3 + 1) y3)), uN (Kec.W - 1 - (Kec.g (Kec.moves (Kec.columns s)) (Kec.at_ (x3 + 1) y3))), iN x3, iN (x3 + 2), iN y3, iN (Kec.at_ (x3 + 2) y3), .pointer (some ⟨gb, Kec.at_ (x3 + 2) y3, none⟩), uN (Kec.g (Kec.moves (Kec.columns s)) (Kec.at_ (x3 + 2) y3)), uN ((Kec.W - 1 - (Kec.g (Kec.moves (Kec.columns s)) (Kec.at_ (x3 + 1) y3))) &&& (Kec.g (Kec.moves (Kec.columns s)) (Kec.at_ (x3 + 2) y3))), uN ((Kec.g (Kec.moves (Kec.columns s)) (Kec.at_ x3 y3)) ^^^ ((Kec.W - 1 - (Kec.g (Kec.moves (Kec.columns s)) (Kec.at_ (x3 + 1) y3))) &&& (Kec.g (Kec.moves (Kec.columns s)) (Kec.at_ (x3 + 2) y3)))), .pointer (some ⟨ga, Kec.at_ x3 y3, none⟩), ud, ud, ud, ud, ud, ud], []⟩ <| blk_n <| tr_ [0, 1, 2] <| pkq (iN y3) <| ppq (iN (y3 + 1)) (exec_cast (congrArg (Value.int .i64) (wrapN (y3 + 1) (by omega))) (by kernel_rfl)) <| pkq (iN (y3 + 1)) <| et_ ?_
                  refine ⟨⟨y3 + 1, (iN y3), (.bool true), (iN y3), (iN (y3 + 1)), (iN x3), (iN y3), (iN (Kec.at_ x3 y3)), (iN x3), (iN y3), (iN (Kec.at_ x3 y3)), (.pointer (some ⟨gb, Kec.at_ x3 y3, none⟩)), (uN (Kec.g (Kec.moves (Kec.columns s)) (Kec.at_ x3 y3))), (iN x3), (iN (x3 + 1)), (iN y3), (iN (Kec.at_ (x3 + 1) y3)), (.pointer (some ⟨gb, Kec.at_ (x3 + 1) y3, none⟩)), (uN (Kec.g (Kec.moves (Kec.columns s)) (Kec.at_ (x3 + 1) y3))), (uN (Kec.W - 1 - (Kec.g (Kec.moves (Kec.columns s)) (Kec.at_ (x3 + 1) y3)))), (iN x3), (iN (x3 + 2)), (iN y3), (iN (Kec.at_ (x3 + 2) y3)), (.pointer (some ⟨gb, Kec.at_ (x3 + 2) y3, none⟩)), (uN (Kec.g (Kec.moves (Kec.columns s)) (Kec.at_ (x3 + 2) y3))), (uN ((Kec.W - 1 - (Kec.g (Kec.moves (Kec.columns s)) (Kec.at_ (x3 + 1) y3))) &&& (Kec.g (Kec.moves (Kec.columns s)) (Kec.at_ (x3 + 2) y3)))), (uN ((Kec.g (Kec.moves (Kec.columns s)) (Kec.at_ x3 y3)) ^^^ ((Kec.W - 1 - (Kec.g (Kec.moves (Kec.columns s)) (Kec.at_ (x3 + 1) y3))) &&& (Kec.g (Kec.moves (Kec.columns s)) (Kec.at_ (x3 + 2) y3))))), (.pointer (some ⟨ga, Kec.at_ x3 y3, none⟩)), by kernel_rfl, by omega, h147, h148, h149, h150, h151, K152⟩, ?_⟩
                  exact lt_meas (x := 5 - (y3 + 1)) (y := 5 - y3) (by kernel_rfl) (by kernel_rfl) (by omega)
                · have eq_y3 : y3 = 5 := by omega
                  refine q_ <| qr_ [0, 1] <| pkq (iN y3) <| ppq (.bool false) (dcf ((((y3 : Nat) : Int)) < ((5) : Int)) (by omega)) <| en_ <| sy_exit 10 (by kernel_rfl) <| then_e <| then_e <| blk_e <| blk_n <| tr_ [0, 1, 2] <| pkq (iN x3) <| ppq (iN (x3 + 1)) (exec_cast (congrArg (Value.int .i64) (wrapN (x3 + 1) (by omega))) (by kernel_rfl)) <| pkq (iN (x3 + 1)) ?_
                  refine et_ ?_
                  refine ⟨⟨x3 + 1, (iN y3), (iN x3), (.bool true), (iN x3), (iN (x3 + 1)), (iN y3), (.bool false), u82, u83, u84, u85, u86, u87, u88, u89, u90, u91, u92, u93, u94, u95, u96, u97, u98, u99, u100, u101, u102, u103, u104, u105, u106, u107, by kernel_rfl, by omega, h132.trans (congrArg (fun n => some (Obj.cells (Wz (xxn (Kec.moves (Kec.columns s)) n s)) 148 (0, 0))) (show 5 * x3 + y3 = 5 * (x3 + 1) by omega)), h133, h134, h135, h136, K137⟩, ?_⟩
                  exact lt_meas (x := 5 - (x3 + 1)) (y := 5 - x3) (by kernel_rfl) (by kernel_rfl) (by omega)
            · have eq_x3 : x3 = 5 := by omega
              have h153 : V124.heap[ga]? = some (.cells (Wz (Kec.mixes (Kec.moves (Kec.columns s)))) 148 (0, 0)) := (h125.trans (congrArg (fun n => some (Obj.cells (Wz (xxn (Kec.moves (Kec.columns s)) n s)) 148 (0, 0))) (show 5 * x3 = 25 by omega))).trans (congrArg (fun l => some (Obj.cells (Wz l) 148 (0, 0))) (xxn_all s (Kec.moves (Kec.columns s)) hs))
              refine q_ <| qr_ [0, 1] <| pkq (iN x3) <| ppq (.bool false) (dcf ((((x3 : Nat) : Int)) < ((5) : Int)) (by omega)) <| en_ <| sy_exit 8 (by kernel_rfl) <| then_e <| then_e <| blk_e <| tqr_ [0, 1, 2, 3, 4, 5] <| ppq (pT ga 0) (exec_cast (v := pT ga (0 + 0 * 1)) (by simp) (exec_indexAt_arr 148 (.tmp 2) (.const (.int .i64 0)) (by kernel_rfl) ga 0 (by kernel_rfl) .i64 0 (by kernel_rfl) _ _ 1 Tryz.underlying148 (by kernel_rfl) (by omega))) <| ppq (uN (Kec.g (Kec.mixes (Kec.moves (Kec.columns s))) 0)) (ldc 24 ga 0 (rc (h153) (Wz_get _ 0 (by rw [Kec.len_mixes]; omega)))) <| pkq (uN k) <| ppq (uN ((Kec.g (Kec.mixes (Kec.moves (Kec.columns s))) 0) ^^^ k)) (exec_cast (xorU (Kec.g (Kec.mixes (Kec.moves (Kec.columns s))) 0) k (Kec.ws_mixes (Kec.ws_moves (Kec.ws_columns ws)) _) hk) (by kernel_rfl)) ?_
              refine ppq (pT ga 0) (exec_cast (v := pT ga (0 + 0 * 1)) (by simp) (exec_indexAt_arr 148 (.tmp 2) (.const (.int .i64 0)) (by kernel_rfl) ga 0 (by kernel_rfl) .i64 0 (by kernel_rfl) _ _ 1 Tryz.underlying148 (by kernel_rfl) (by omega))) <| pce 24 ga 0 (uN ((Kec.g (Kec.mixes (Kec.moves (Kec.columns s))) 0) ^^^ k)) (Wz (Kec.round s k)) h153 (rc (h153) (Wz_get _ 0 (by rw [Kec.len_mixes]; omega))) (by rw [Wz_set]; exact congrArg Wz (rfl)) fun V154 h155 kV154 => ?_
              have h156 := kV154.bO h126
              have K160 := K130.nO kV154
              refine eqr_ [0, 1] <| ppq (.agg (Wz (Kec.round s k))) (ldr 148 ga (h155) (by rw [Wz_size, Kec.len_round]; kernel_rfl)) <| pst 148 gr ((Wz (Kec.round s k))) h156 (by rw [Wz_size, Kec.len_round]; kernel_rfl) (by rw [Wz_size, Kec.len_round]; rfl) (Wz_one _) fun V161 h162 kV161 => ?_
              have K167 := K160.nO kV161
              refine eu_ <| sy_out (.agg (Wz (Kec.round s k))) rfl (results_cell_row (p := 4) (ty := 148) (by kernel_rfl) _ _ gr 148 (Wz (Kec.round s k)) (0, 0) _ (by kernel_rfl) h162 Tryz.underlying148 rfl (by rw [Wz_size, (Kec.len_round _ _)]; kernel_rfl)) ?_
              exact ⟨rfl, K167⟩
theorem hround_as (s : List Nat) (r : Nat) (w : World) (hs : s.length = 25) (ws : Kec.Ws s) (hr : r < 24) : Calls Tryz.prog 137 #[.agg (Wz (permn s r)), .int .u64 ((Kec.g Kec.K r : Nat) : Int)] w fun e w' => e = .returned (.agg (Wz (permn s (r + 1)))) ∧ Keeps Nob w w' := by
  rw [permn_succ s r hr]; exact hround_ok (permn s r) (Kec.g Kec.K r) w (permn_len s hs r) (permn_ws s ws r) (ws_K r)
noncomputable def qc86_0 (n : Nat) : Code := partOf Tryz.f102 n
theorem hPermute_ok (s : List Nat) (w : World) (hs : s.length = 25) (ws : Kec.Ws s) :
    Calls Tryz.prog 102 #[.agg (Wz s)] w (fun e w' => e = .returned (.agg (Wz (Kec.perm s))) ∧ Keeps Nob w w') := by
  have K0 : Keeps Nob w w := Keeps.refl _ _
  refine sy_enter (qc86_0 1) ⟨#[.agg (Wz s), ud, ud, ud, ud, ud, ud, ud, ud, ud, ud, ud, ud, ud, ud, ud], []⟩ Tryz.func102 (by kernel_rfl) (by kernel_rfl) <| qr_ [0, 1] <| pbx 148 ((Wz s)) (.agg (Wz s)) fun V1 gb egb h2 kV1 => ?_
  have n3 : w.heap.size ≤ gb := egb ▸ K0.size
  have K4 := K0.nn kV1
  refine pal 148 (zr_u64_25) (.agg (zr_u64_25)) fun V5 gr egr h6 kV5 => ?_
  have n7 : gb < gr := egr ▸ lt_of_block h2
  have n8 : w.heap.size ≤ gr := egr ▸ K4.size
  have h9 := kV5.bk h2
  have K10 := K4.nn kV5
  refine eqr_ [0, 1, 2] ?_
  refine pcq 136 #[] Tryz.func136 ((hconstants_ok _).mono ?_)
  rintro e V11 ⟨rfl, kV11⟩
  refine ⟨_, rfl, ?_⟩
  have h12 := kV11.bk h9
  have h13 := kV11.bk h6
  have K14 := K10.nn kV11
  refine pal 169 (zr_u64_24) (.agg (zr_u64_24)) fun V15 gk egk h16 kV15 => ?_
  have n17 : gb < gk := egk ▸ lt_of_block h12
  have n18 : gr < gk := egk ▸ lt_of_block h13
  have n19 : w.heap.size ≤ gk := egk ▸ K14.size
  have h20 := kV15.bk h12
  have h21 := kV15.bk h13
  have K22 := K14.nn kV15
  refine psk 169 gk ((Wz Kec.K)) h16 fun V23 h24 kV23 => ?_
  have h25 := kV23.bO h20
  have h26 := kV23.bO h21
  have K27 := K22.nO kV23
  refine eq_ <| qr_ [0] <| pkq (.int .i64 0) <| et_ <| b_ 0 ?_
  refine sy_loop (qc86_0 116) (fun a V => ∃ (r : Nat) (u6 u7 u8 u9 u10 u11 u12 u13 u14 : Value), (a = ⟨#[.agg (Wz s), pT gb 0, pT gr 0, pT gk 0, iN r, .agg (Wz Kec.K), u6, u7, u8, u9, u10, u11, u12, u13, u14, ud], []⟩) ∧ (r ≤ 24) ∧ (V.heap[gb]? = some (.cells (Wz (permn s r)) 148 (0, 0))) ∧ (V.heap[gr]? = some (.cells (zr_u64_25) 148 (0, 0))) ∧ (V.heap[gk]? = some (.cells (Wz Kec.K) 169 (0, 0))) ∧ (Keeps Nob w V)) (fun a _ => 24 - (intOf (a.tmps.getD 4 undef)).toNat) (by kernel_rfl) ?_ ?_
  · exact ⟨0, undef, undef, undef, undef, undef, undef, undef, undef, undef, by kernel_rfl, by omega, h25, h26, h24, K27⟩
  · rintro a V28 ⟨r, u6, u7, u8, u9, u10, u11, u12, u13, u14, rfl, hr, h29, h30, h31, K32⟩
    by_cases lt_r : r < 24
    · show _
      refine q_ <| qr_ [0, 1] <| pkq (iN r) <| ppq (.bool true) (dct ((((r : Nat) : Int)) < ((24) : Int)) (by omega)) <| ey_ <| s_ <| tq_ <| b_ 1 <| sy_np <| sy_reg <| an_begin 5 6 (opsAt (qc86_0 932)) (fun W => (W.heap[gk]? = some (.cells (Wz Kec.K) 169 (0, 0)))) #[false, false, false, false, false, false] (by kernel_rfl) (by kernel_rfl) (by kernel_rfl) (by kernel_rfl) ?_
      obtain ⟨V33, eV33, kV33⟩ := drew_step V28
      rw [eV33]
      clear eV33
      have h34 := kV33.bk h29
      have h35 := kV33.bk h30
      have h36 := kV33.bk h31
      have K37 := K32.nn kV33
      refine akq 1 (iN r) h36 <| avq 2 (pT gk r) (fun W hS => exec_cast (v := pT gk (0 + r * 1)) (by simp) (exec_indexAt_arr 169 (.tmp 3) (.tmp 11) (by kernel_rfl) gk 0 (by kernel_rfl) .i64 r (by kernel_rfl) _ _ 1 Tryz.underlying169 (by kernel_rfl) (by omega))) h36 <| avq 3 (uN (Kec.g Kec.K r)) (fun W hS => ldc 24 gk r (rc (hS) (Wz_get _ r (by rw [K_len]; omega)))) h36 <| an_o 0 <| nrq (.agg (Wz (permn s r))) (w' := V33) (ldr 148 gb (h34) (by rw [Wz_size, permn_len s hs]; kernel_rfl)) ?_
      refine ⟨h36, ?_⟩
      refine an_o 4 ?_
      refine ncq 137 #[.agg (Wz (permn s r)), uN (Kec.g Kec.K r)] Tryz.func137 ((hround_as s r _ hs ws lt_r).mono ?_)
      rintro e V38 ⟨rfl, kV38⟩
      refine ⟨_, rfl, ?_⟩
      have h39 := kV38.bk h34
      have h40 := kV38.bk h35
      have h41 := kV38.bk h36
      have K42 := K37.nn kV38
      refine ⟨h41, ?_⟩
      refine an_o 5 <| nst 148 gb ((Wz (permn s (r + 1)))) h39 (by rw [Wz_size]; first | (rw [permn_len s hs]; kernel_rfl) | (rw [Kec.len_perm hs]; kernel_rfl)) (by simp only [Wz_size, permn_len s hs, Kec.len_perm hs] <;> rfl) (Wz_one _) fun V43 h44 kV43 => ?_
      have h45 := kV43.bO h40
      have h46 := kV43.bO h41
      have K47 := K42.nO kV43
      refine ⟨h46, ?_⟩
      refine an_end (by kernel_rfl) <| blk_n <| tr_ [0, 1, 2] <| pkq (iN r) <| ppq (iN (r + 1)) (exec_cast (congrArg (Value.int .i64) (wrapN (r + 1) (by omega))) (by kernel_rfl)) <| pkq (iN (r + 1)) <| et_ ?_
      refine ⟨⟨r + 1, (iN r), (.bool true), (iN r), (iN (r + 1)), (.agg (Wz (permn s r))), (iN r), (pT gk r), (uN (Kec.g Kec.K r)), (.agg (Wz (permn s (r + 1)))), by kernel_rfl, by omega, h44, h45, h46, K47⟩, ?_⟩
      exact lt_meas (x := 24 - (r + 1)) (y := 24 - r) (by kernel_rfl) (by kernel_rfl) (by omega)
    · have eq_r : r = 24 := by omega
      have h48 : V28.heap[gb]? = some (.cells (Wz (Kec.perm s)) 148 (0, 0)) := h29.trans (by rw [eq_r, permn_all])
      refine q_ <| qr_ [0, 1] <| pkq (iN r) <| ppq (.bool false) (dcf ((((r : Nat) : Int)) < ((24) : Int)) (by omega)) <| en_ <| sy_exit 0 (by kernel_rfl) <| then_e <| then_e <| blk_e <| tqr_ [0, 1] <| ppq (.agg (Wz (Kec.perm s))) (ldr 148 gb (h48) (by rw [Wz_size, Kec.len_perm hs]; kernel_rfl)) <| pst 148 gr ((Wz (Kec.perm s))) h30 (by rw [Wz_size]; first | (rw [permn_len s hs]; kernel_rfl) | (rw [Kec.len_perm hs]; kernel_rfl)) (by simp only [Wz_size, permn_len s hs, Kec.len_perm hs] <;> rfl) (Wz_one _) fun V49 h50 kV49 => ?_
      have K53 := K32.nO kV49
      refine eu_ <| sy_out (.agg (Wz (Kec.perm s))) rfl (results_cell_row (p := 2) (ty := 148) (by kernel_rfl) _ _ gr 148 (Wz (Kec.perm s)) (0, 0) _ (by kernel_rfl) h50 Tryz.underlying148 rfl (by rw [Wz_size, Kec.len_perm hs]; kernel_rfl)) ?_
      exact ⟨rfl, K53⟩
end Go.Proofs.YtcbfnflnokoacaaGreat
namespace Go.Proofs.YtcbfnflnokoacaaGreat
set_option maxRecDepth 100000
set_option maxHeartbeats 4000000
open Go Go.RowKit Go.Own Go.Shelf
/-- The word of the bytes from m to 8. -/
def wd8 (l : List UInt8) (m : Nat) : Nat := Kec.word ((l.take 8).drop m)
theorem wd8_lt (l : List UInt8) (m : Nat) (h : 0 < m) : 256 * wd8 l m + 256 ≤ Kec.W := by
  have h1 := Kec.word_lt ((l.take 8).drop m)
  have h2 : ((l.take 8).drop m).length ≤ 7 := by rw [List.length_drop, List.length_take]; omega
  have h3 : (256 : Nat) ^ ((l.take 8).drop m).length ≤ 256 ^ 7 := Nat.pow_le_pow_right (by decide) h2
  have h4 : (256 : Nat) ^ 7 * 256 = Kec.W := by decide
  unfold wd8
  omega
theorem wd8_step (l : List UInt8) (m : Nat) (h : 0 < m) (h8 : m ≤ 8) (hl : 8 ≤ l.length) : 256 * wd8 l m + (l.getD (m - 1) 0).toNat = wd8 l (m - 1) := by
  have hlt : m - 1 < (l.take 8).length := by rw [List.length_take]; omega
  unfold wd8
  rw [List.drop_eq_getElem_cons hlt, show m - 1 + 1 = m by omega, Kec.word, List.getElem_take, List.getD_eq_getElem?_getD, List.getElem?_eq_getElem (by omega)]
  show _ = _ + _
  rw [Nat.add_comm]; rfl
theorem wd8_none (l : List UInt8) : wd8 l 8 = 0 := by unfold wd8; rw [List.drop_of_length_le (by rw [List.length_take]; omega)]; rfl
theorem eight_snoc (n k : Nat) : B ((List.range (k + 1)).map fun i => UInt8.ofNat (n / 256 ^ i)) = B ((List.range k).map fun i => UInt8.ofNat (n / 256 ^ i)) ++ [.int .u8 (((UInt8.ofNat (n / 256 ^ k)).toNat : Nat) : Int)] := by
  rw [List.range_succ, List.map_append, B_append]; rfl
noncomputable def qc87_1 (n : Nat) : Code := partOf Tryz.f101 n
theorem hword_ok (g o n cap : Nat) (l : List UInt8) (w : World) (hn : l.length = n) (h8 : 8 ≤ n) (hc : n ≤ cap) (hv : BytesAt w (.slice (some ⟨g, o, none⟩) n cap) l) :
    Calls Tryz.prog 101 #[.slice (some ⟨g, o, none⟩) n cap] w (fun e w' => e = .returned (.int .u64 ((Kec.word (l.take 8) : Nat) : Int)) ∧ w = w') := by
  have hW : Kec.W = 18446744073709551616 := rfl
  have K0 : Keeps Nob w w := Keeps.refl _ _
  refine sy_enter (qc87_1 1) ⟨#[.slice (some ⟨g, o, none⟩) n cap, ud, ud, ud, ud, ud, ud, ud, ud, ud, ud, ud, ud, ud, ud, ud, ud, ud], []⟩ Tryz.func101 (by kernel_rfl) (by kernel_rfl) <| qr_ [0] <| pkq (.int .u64 0) <| eqr_ [0] <| pkq (.int .u64 0) <| eq_ <| qr_ [0] <| pkq (.int .i64 7) <| et_ <| b_ 0 ?_
  refine sy_loop (qc87_1 116) (fun a V => ∃ (m : Nat) (r : Nat) (u5 u6 u7 u8 u9 u10 u11 u12 u13 u14 u15 u16 : Value), (a = ⟨#[.slice (some ⟨g, o, none⟩) n cap, ud, .int .u64 0, uN r, .int .i64 (((m : Nat) : Int) - 1), u5, u6, u7, u8, u9, u10, u11, u12, u13, u14, u15, u16, ud], []⟩) ∧ (m ≤ 8) ∧ (r = wd8 l m) ∧ (w = V)) (fun a _ => (intOf (a.tmps.getD 4 undef) + 1).toNat) (by kernel_rfl) ?_ ?_
  · exact ⟨8, 0, undef, undef, undef, undef, undef, undef, undef, undef, undef, undef, undef, undef, by kernel_rfl, by omega, (wd8_none l).symm, rfl⟩
  · rintro a V1 ⟨m, r, u5, u6, u7, u8, u9, u10, u11, u12, u13, u14, u15, u16, rfl, hm, hr, rfl⟩
    by_cases pos_m : 0 < m
    · show _
      refine q_ <| qr_ [0, 1] <| pkq (.int .i64 (((m : Nat) : Int) - 1)) <| ppq (.bool true) (dct ((((((m : Nat) : Int) - 1)) : Int) ≥ ((0) : Int)) (by omega)) <| ey_ <| s_ <| tq_ <| b_ 1 <| r_ [0, 1, 2, 3, 4, 5, 6, 7, 8] <| pkq (uN r) <| ppq (uN (256 * r)) (exec_cast (v := .int .u64 (IntKind.u64.wrap (256 * ((r : Nat) : Int)))) (congrArg (Value.int .u64) (by rw [show (256 : Int) * ((r : Nat) : Int) = ((256 * r : Nat) : Int) by omega]; exact wrapU _ (by have := wd8_lt l m pos_m; omega))) (by kernel_rfl)) <| pkq (.slice (some ⟨g, o, none⟩) n cap) <| ppq (iN (m - 1)) (exec_cast (v := .int .i64 (((m : Nat) : Int) - 1)) (congrArg (Value.int .i64) (by omega)) (by kernel_rfl)) <| ppq (.pointer (some ⟨g, o + (m - 1), none⟩)) (exec_cast (v := .pointer (some ⟨g, o + (m - 1) * 1, none⟩)) (by simp) (exec_indexAt_slice 114 (.tmp 11) (.tmp 12) (by kernel_rfl) g o n cap (by kernel_rfl) .i64 (m - 1) (by kernel_rfl) _ 1 Tryz.underlying114 (by kernel_rfl) (by omega))) ?_
      refine ppq (cN ((l.getD (m - 1) 0).toNat)) (exec_ld 5 (.tmp 13) g (o + (m - 1)) Tryz.underlying5 (bytes_cell hv (m - 1) (by rw [hn]; omega))) <| ppq (uN ((l.getD (m - 1) 0).toNat)) (exec_cast (congrArg (Value.int .u64) (wrapU (l.getD (m - 1) 0).toNat (by have := (l.getD (m - 1) 0).toNat_lt; omega))) (by kernel_rfl)) <| ppq (uN (wd8 l (m - 1))) (exec_cast (v := .int .u64 (IntKind.u64.wrap (((256 * r : Nat) : Int) + (((l.getD (m - 1) 0).toNat : Nat) : Int)))) (congrArg (Value.int .u64) (by rw [show ((256 * r : Nat) : Int) + (((l.getD (m - 1) 0).toNat : Nat) : Int) = ((256 * r + (l.getD (m - 1) 0).toNat : Nat) : Int) by omega, hr, wd8_step l m pos_m hm (by omega)]; exact wrapU _ (by have := wd8_lt l m pos_m; have := (l.getD (m - 1) 0).toNat_lt; have := wd8_step l m pos_m hm (by omega); omega))) (by kernel_rfl)) <| pkq (uN (wd8 l (m - 1))) <| ps_end <| blk_n <| tr_ [0, 1, 2] <| pkq (.int .i64 (((m : Nat) : Int) - 1)) <| ppq (.int .i64 (((m - 1 : Nat) : Int) - 1)) (exec_cast (v := .int .i64 (IntKind.i64.wrap ((((m : Nat) : Int) - 1) - 1))) (congrArg (Value.int .i64) (wrapI _ _ (by omega) (by omega) (by omega))) (by kernel_rfl)) <| pkq (.int .i64 (((m - 1 : Nat) : Int) - 1)) <| et_ ?_
      refine ⟨⟨m - 1, wd8 l (m - 1), (.int .i64 (((m : Nat) : Int) - 1)), (.bool true), (.int .i64 (((m : Nat) : Int) - 1)), (.int .i64 (((m - 1 : Nat) : Int) - 1)), (uN r), (uN (256 * r)), (.slice (some ⟨g, o, none⟩) n cap), (iN (m - 1)), (.pointer (some ⟨g, o + (m - 1), none⟩)), (cN ((l.getD (m - 1) 0).toNat)), (uN ((l.getD (m - 1) 0).toNat)), (uN (wd8 l (m - 1))), by kernel_rfl, by omega, rfl, rfl⟩, ?_⟩
      exact lt_meas (x := ((((m - 1 : Nat) : Int) - 1) + 1).toNat) (y := ((((m : Nat) : Int) - 1) + 1).toNat) (by kernel_rfl) (by kernel_rfl) (by omega)
    · have eq_m : m = 0 := by omega
      refine q_ <| qr_ [0, 1] <| pkq (.int .i64 (((m : Nat) : Int) - 1)) <| ppq (.bool false) (dcf ((((((m : Nat) : Int) - 1)) : Int) ≥ ((0) : Int)) (by omega)) <| en_ <| sy_exit 0 (by kernel_rfl) <| then_e <| then_e <| blk_e <| tqr_ [0, 1] <| pkq (uN r) <| pkq (uN r) <| eu_ <| so_ (.int .u64 ((r : Nat) : Int)) ?_
      subst eq_m; subst hr; exact ⟨rfl, rfl⟩
noncomputable def qc87_0 (n : Nat) : Code := partOf Tryz.f103 n
noncomputable abbrev qo87_0 (n k : Nat) : Oper := (opsAt (qc87_0 n)).getD k default
theorem hbytes_ok (n : Nat) (w : World) (hn : n < Kec.W) :
    Calls Tryz.prog 103 #[.int .u64 ((n : Nat) : Int)] w (fun e w' => ∃ v, e = .returned v ∧ Row w' 5 1 v 8 (B (Kec.eight n)) ∧ NewFrom w.heap.size v ∧ Keeps Nob w w') := by
  obtain ⟨i0, hi, hz0, hz1, hz2⟩ := info_parts u8_infoK
  have r0 : Row w 5 1 (.slice none 0 0) 0 (B ((List.range 0).map (fun i => UInt8.ofNat (n / 256 ^ i)))) := World.ownsRow_nil _ _ _ _
  have nw0 := NewFrom.nil w.heap.size
  have hW : Kec.W = 18446744073709551616 := rfl
  have K0 : Keeps Nob w w := Keeps.refl _ _
  refine sy_enter (qc87_0 1) ⟨#[uN n, ud, ud, ud, ud, ud, ud, ud, ud, ud, ud, ud, ud, ud, ud, ud, ud, ud], []⟩ Tryz.func103 (by kernel_rfl) (by kernel_rfl) <| qr_ [0] <| pkq (.slice none 0 0) <| eqr_ [0] <| pkq (.slice none 0 0) <| eq_ <| qr_ [0] <| pkq (.int .i64 0) <| et_ <| b_ 0 ?_
  refine sy_loop (qc87_0 116) (fun a V => ∃ (k : Nat) (v : Value) (q : Nat) (u5 u6 u7 u8 u9 u10 u11 u12 u13 u14 u15 u16 : Value), (a = ⟨#[uN q, ud, .slice none 0 0, v, iN k, u5, u6, u7, u8, u9, u10, u11, u12, u13, u14, u15, u16, ud], []⟩) ∧ (k ≤ 8) ∧ (q = n / 256 ^ k) ∧ (Row V 5 1 v k (B ((List.range k).map (fun i => UInt8.ofNat (n / 256 ^ i))))) ∧ (Keeps Nob w V) ∧ (NewFrom w.heap.size v)) (fun a _ => 8 - (intOf (a.tmps.getD 4 undef)).toNat) (by kernel_rfl) ?_ ?_
  · exact ⟨0, .slice none 0 0, n, undef, undef, undef, undef, undef, undef, undef, undef, undef, undef, undef, undef, by kernel_rfl, by omega, by simp, r0, K0, NewFrom.nil _⟩
  · rintro a V1 ⟨k, v, q, u5, u6, u7, u8, u9, u10, u11, u12, u13, u14, u15, u16, rfl, hk, hq, h2, K3, hnw⟩
    by_cases lt_k : k < 8
    · have hqn : q ≤ n := by rw [hq]; exact Nat.div_le_self _ _
      refine q_ <| qr_ [0, 1] <| pkq (iN k) <| ppq (.bool true) (dct ((((k : Nat) : Int)) < ((8) : Int)) (by omega)) <| ey_ <| s_ <| tq_ <| b_ 1 <| qr_ [0, 1, 2, 3, 4, 5, 6] <| pkq (v) <| pkq (uN q) <| pkq (uN (q % 256)) <| ppq (cN ((UInt8.ofNat (n / 256 ^ k)).toNat)) (exec_cast (v := .int .u8 (IntKind.u8.wrap ((q % 256 : Nat) : Int))) (congrArg (Value.int .u8) ((wrap8 (q % 256)).trans (by rw [← hq, UInt8.toNat_ofNat', UInt8.toNat_ofNat', Nat.mod_mod]))) (by kernel_rfl)) ?_
      obtain ⟨V4, eV4, gs, egs, h5, kV4⟩ := alloc_step V1 (#[.int .u8 (((UInt8.ofNat (n / 256 ^ k)).toNat : Nat) : Int)]) 5
      have n6 : w.heap.size ≤ gs := egs ▸ K3.size
      refine prq (.slice (some ⟨gs, 0, none⟩) 1 1) (w' := V4) (by rw [← eV4, ← egs]; kernel_rfl) ?_
      have h7 : Row V4 5 1 v k (B ((List.range k).map (fun i => UInt8.ofNat (n / 256 ^ i)))) := h2.keeps kV4 (fun _ _ x => x)
      have K8 := K3.nn kV4
      obtain ⟨v9, V10, hr11, h12, hg13, hn14, ha15⟩ := run_append_any (P := Tryz.prog) (w := V4) 114 (Oper.type (qo87_0 1864 5)) 5 i0 (.int .u8 0) 1 1 Tryz.underlying114 hi hz0 hz1 hz2 rfl (by decide) v k (B ((List.range k).map (fun i => UInt8.ofNat (n / 256 ^ i)))) h7 (.slice (some ⟨gs, 0, none⟩) 1 1) 1 (#[.int .u8 (((UInt8.ofNat (n / 256 ^ k)).toNat : Nat) : Int)].toList) (src_block h5 1 1 rfl (by kernel_rfl)) (by unfold maxLen; omega) (by omega)
      have kV10 : Keeps (fun j => v.ownBlock = some j) V4 V10 := Keeps.rowAdd hg13
      have hw16 : NewFrom w.heap.size v9 := hnw.next K8.size ha15
      refine prq v9 (w' := V10) (exec_append (.tmp 9) (.tmp 13) 114 (by kernel_rfl) v (.slice (some ⟨gs, 0, none⟩) 1 1) (by kernel_rfl) (by kernel_rfl) hr11) ?_
      have h17 : Row V10 5 1 v9 (k + 1) (B ((List.range (k + 1)).map (fun i => UInt8.ofNat (n / 256 ^ i)))) := (by rw [eight_snoc]; exact h12)
      have K18 : Keeps Nob w V10 := K8.then kV10 (fun i hi hm => absurd hi (by have := hnw i hm; omega))
      refine pkq (v9) <| er_ [0, 1, 2] <| pkq (uN q) <| ppq (uN (q / 256)) (exec_cast (v := .int .u64 (IntKind.u64.wrap ((q / 256 : Nat) : Int))) (congrArg (Value.int .u64) (wrapU _ (by omega))) (by kernel_rfl)) <| pkq (uN (q / 256)) <| ps_end <| blk_n <| tr_ [0, 1, 2] <| pkq (iN k) <| ppq (iN (k + 1)) (exec_cast (congrArg (Value.int .i64) (wrapN (k + 1) (by omega))) (by kernel_rfl)) <| pkq (iN (k + 1)) <| et_ ?_
      refine ⟨⟨k + 1, v9, q / 256, (iN k), (.bool true), (iN k), (iN (k + 1)), v, (uN q), (uN (q % 256)), (cN ((UInt8.ofNat (n / 256 ^ k)).toNat)), (.slice (some ⟨gs, 0, none⟩) 1 1), v9, (uN q), (uN (q / 256)), by kernel_rfl, by omega, by rw [hq, Nat.div_div_eq_div_mul, ← Nat.pow_succ], h17, K18, hw16⟩, ?_⟩
      exact lt_meas (x := 8 - (k + 1)) (y := 8 - k) (by kernel_rfl) (by kernel_rfl) (by omega)
    · have eq_k : k = 8 := by omega
      refine q_ <| qr_ [0, 1] <| pkq (iN k) <| ppq (.bool false) (dcf ((((k : Nat) : Int)) < ((8) : Int)) (by omega)) <| en_ <| sy_exit 0 (by kernel_rfl) <| then_e <| then_e <| blk_e <| tqr_ [0, 1] <| pkq (v) <| pkq (v) <| eu_ <| so_ (v) ?_
      exact ⟨v, rfl, by have e := h2; rw [eq_k] at e; exact e, hnw, K3⟩
end Go.Proofs.YtcbfnflnokoacaaGreat
