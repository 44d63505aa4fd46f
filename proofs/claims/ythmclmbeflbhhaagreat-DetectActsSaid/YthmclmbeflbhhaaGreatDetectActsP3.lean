import Derived.Test.YthmclmbeflbhhaaGreatDetectActsP2
set_option maxRecDepth 100000
set_option maxHeartbeats 4000000
noncomputable section
open Go.Proofs.Tryz
namespace Go.Proofs.YthmclmbeflbhhaaGreat
section
open Go Go.RowKit Go.Own Go.Shelf
theorem get_ok (p : Par) (hp : p.Ok) (i b k : Nat) (hi : i < 11) (V : World) (hbox : V.cell? ⟨k, 0, none⟩ = some (pT b i)) (hc : ∀ x, p.cells[i]? = some x → V.cell? ⟨b, i, none⟩ = some x) :
  Calls prog (parGet[i]?.getD 0) #[pT k 0] V fun e w' => e = .returned (.tuple #[.int .u64 (max (p.l[i]?.getD 0) 0), .bool (decide (0 ≤ p.l[i]?.getD 0))]) ∧ Keeps Nob V w' := by
 have h' : i = 0 ∨ i = 1 ∨ i = 2 ∨ i = 3 ∨ i = 4 ∨ i = 5 ∨ i = 6 ∨ i = 7 ∨ i = 8 ∨ i = 9 ∨ i = 10 := by omega
 rcases h' with rfl | rfl | rfl | rfl | rfl | rfl | rfl | rfl | rfl | rfl | rfl
 ·exact of1_ok k ⟨b, 0, none⟩ p.unb V hbox (hc _ rfl) hp.unb.1 hp.unb.2
 ·exact of1_ok k ⟨b, 1, none⟩ p.mage V hbox (hc _ rfl) hp.mage.1 hp.mage.2
 ·exact of1_ok k ⟨b, 2, none⟩ p.elen V hbox (hc _ rfl) hp.elen.1 hp.elen.2
 ·exact of1_ok k ⟨b, 3, none⟩ p.win V hbox (hc _ rfl) hp.win.1 hp.win.2
 ·exact of1_ok k ⟨b, 4, none⟩ p.ent V hbox (hc _ rfl) hp.ent.1 hp.ent.2
 ·exact of1_ok k ⟨b, 5, none⟩ p.act V hbox (hc _ rfl) hp.act.1 hp.act.2
 ·exact of1_ok k ⟨b, 6, none⟩ p.jail V hbox (hc _ rfl) hp.jail.1 hp.jail.2
 ·have h0 := hp.base.1
  have := word1_ok k ⟨b, 7, none⟩ p.base V hbox (hc _ rfl)
  simpa [parGet, Par.l, h0, Int.max_eq_left h0] using this
 ·have h0 := hp.mult.1
  have := word1_ok k ⟨b, 8, none⟩ p.mult V hbox (hc _ rfl)
  simpa [parGet, Par.l, h0, Int.max_eq_left h0] using this
 ·exact of1_ok k ⟨b, 9, none⟩ p.corr V hbox (hc _ rfl) hp.corr.1 hp.corr.2
 ·have h0 := hp.rew.1
  have := word1_ok k ⟨b, 10, none⟩ p.rew V hbox (hc _ rfl)
  simpa [parGet, Par.l, h0, Int.max_eq_left h0] using this
theorem get_enters (i : Nat) (hi : i < 11) : ∀ args w, (callFunc (parGet[i]?.getD 0) args).run prog w = .ok (.enter (parGet[i]?.getD 0) args) w := by
 have h' : i = 0 ∨ i = 1 ∨ i = 2 ∨ i = 3 ∨ i = 4 ∨ i = 5 ∨ i = 6 ∨ i = 7 ∨ i = 8 ∨ i = 9 ∨ i = 10 := by omega
 have e1 : ∀ args w, (callFunc 145 args).run prog w = .ok (.enter 145 args) w := enters_of func145 (by kernel_rfl) rfl
 have e2 : ∀ args w, (callFunc 147 args).run prog w = .ok (.enter 147 args) w := enters_of func147 (by kernel_rfl) rfl
 rcases h' with rfl | rfl | rfl | rfl | rfl | rfl | rfl | rfl | rfl | rfl | rfl <;> first | exact e1 | exact e2
theorem good_iff (p : Par) (i : Nat) (hi : i < 11) : p.good i ↔ 0 ≤ p.l[i]?.getD 0 ∧ parLoU[i]?.getD 0 ≤ max (p.l[i]?.getD 0) 0 ∧ max (p.l[i]?.getD 0) 0 ≤ parHiU[i]?.getD 0 := by
 have h' : i = 0 ∨ i = 1 ∨ i = 2 ∨ i = 3 ∨ i = 4 ∨ i = 5 ∨ i = 6 ∨ i = 7 ∨ i = 8 ∨ i = 9 ∨ i = 10 := by omega
 rcases h' with rfl | rfl | rfl | rfl | rfl | rfl | rfl | rfl | rfl | rfl | rfl <;> simp [Par.good, Par.l, parLo, parHi, parLoU, parHiU] <;> omega
theorem pCheck_ok (p : Par) (hp : p.Ok) (w : World) :
  Calls prog 42 #[p.v] w (RK w (.tuple #[iI p.check.1, iI p.check.2])) := by
 obtain ⟨ce, hce⟩ : ∃ c, p.check = c := ⟨_, rfl⟩
 rw [hce]
 have HCE := Lib.hid hce; clear hce
 obtain ⟨cs, hcs⟩ : ∃ cs, p.cells = cs := ⟨_, rfl⟩
 have hv : p.v = .agg cs := by rw [← hcs]; rfl
 rw [hv]
 have hcz : cs.size = 11 := by rw [← hcs]; rfl
 have hc0 : cs[0]? = some (iI p.unb) := by rw [← hcs]; rfl
 have hc1 : cs[1]? = some (iI p.mage) := by rw [← hcs]; rfl
 have HCS := Lib.hid hcs
 clear hcs hv
 go_enter func42, ntmps42
 go_wp2_with (go_at_call 78; refine (fields_ok _ _).mono ?_; rintro e V ⟨g, ks, rfl, hF, hg, hk⟩; have HF := Lib.hid hF; clear hF)
 have hk0 := ((Keeps.refl Nob w).alloc (.cells cs 47)).trans hk
 have hb : w.heap.size < (w.alloc (.cells cs 47)).heap.size := by simp
 have HP : Hid (∀ i x, cs[i]? = some x → V.cell? ⟨w.heap.size, i, none⟩ = some x) := Lib.hid (fun i x hx => (hk.cell (i := i) hb (fun x => x)).trans ((World.cell?_alloc_at _ _ _ _ rfl).trans hx))
 have q0 := HP.out 0 _ hc0
 have q1 := HP.out 1 _ hc1
 have hsz : w.heap.size < V.heap.size := Nat.lt_of_lt_of_le hb hk.size
 clear hk hb hc0 hc1
 go_loopg [10] 11 (fun g i V1 => ∃ k : Nat, k ≤ 11 ∧ g = 11 - k ∧ i = iI k ∧ Hid (∀ j, j < k → p.good j) ∧ Keeps Nob V V1)
 case atStart => exact ⟨0, by omega, rfl, rfl, Lib.hid (fun j hj => by omega), Keeps.refl _ _⟩
 case round =>
  obtain ⟨k, hk, hgf, rfl, HG, hkp⟩ := hrel
  by_cases hlt : k < 11
  ·have hfc : ∀ j v, j < 5 → (parField k (ks k)).cells[j]? = some v → wr.cell? ⟨g, k * 5 + j, none⟩ = some v := fun j v hj hv => (hkp.cell (i := k * 5 + j) hg (fun x => x)).trans ((HF.out.cell k j hlt hj).trans hv)
   have f0 : wr.cell? ⟨g, k * 5, none⟩ = some (.string (parName[k]?.getD ⟨#[]⟩)) := hfc 0 _ (by omega) rfl
   have f1 : wr.cell? ⟨g, k * 5 + 1, none⟩ = some (.int .u64 (parLoU[k]?.getD 0)) := hfc 1 _ (by omega) rfl
   have f2 : wr.cell? ⟨g, k * 5 + 2, none⟩ = some (.int .u64 (parHiU[k]?.getD 0)) := hfc 2 _ (by omega) rfl
   have f3 : wr.cell? ⟨g, k * 5 + 3, none⟩ = some (.func (.func (parGet[k]?.getD 0)) #[] #[pT (ks k) 0]) := hfc 3 _ (by omega) rfl
   have f4 : wr.cell? ⟨g, k * 5 + 4, none⟩ = some (.func (.func (parSet[k]?.getD 0)) #[] #[pT (ks k) 0]) := hfc 4 _ (by omega) rfl
   clear hfc
   have hent := get_enters k hlt
   have hks : ks k < V.heap.size := World.block_lt_of_cell? V _ (HF.out.box k hlt)
   have GETH : Hid (∀ W, Keeps Nob V W → Calls prog (parGet[k]?.getD 0) #[pT (ks k) 0] W fun e w' => e = .returned (.tuple #[.int .u64 (max (p.l[k]?.getD 0) 0), .bool (decide (0 ≤ p.l[k]?.getD 0))]) ∧ Keeps Nob W w') :=
    Lib.hid (fun W hW => get_ok p hp k w.heap.size (ks k) hlt W ((hW.cell hks (fun x => x)).trans (HF.out.box k hlt)) (fun x hx => (hW.cell hsz (fun x => x)).trans (HP.out k x (by rw [← HCS.out]; exact hx))))
   have hgi := good_iff p k hlt
   generalize parName[k]?.getD ⟨#[]⟩ = nm at *
   generalize parLoU[k]?.getD 0 = lo at *
   generalize parHiU[k]?.getD 0 = hi at *
   generalize parGet[k]?.getD 0 = gk at *
   generalize parSet[k]?.getD 0 = sk at *
   generalize max (p.l[k]?.getD 0) 0 = x at *
   by_cases h1 : 0 ≤ p.l[k]?.getD 0
   ·have hd := decide_eq_true h1
    rw [hd] at GETH
    by_cases h2 : lo ≤ x ∧ x ≤ hi
    ·have hw : (decide (lo ≤ x) && decide (x ≤ hi)) = true := by simp; exact h2
     have hgood := hgi.2 ⟨h1, h2⟩
     have HG1 := Lib.hid (fun j hj => (Nat.lt_succ_iff_lt_or_eq.1 hj).elim (HG.out j) (fun e => e ▸ hgood) : ∀ j, j < k + 1 → p.good j)
     have WI := Lib.hid (fun nm f g W => within_ok nm f g lo hi x W)
     rw [hw] at WI
     clear hgi hgood hd h1 h2 hw
     go_wp2_with fail
     refine (GETH.out _ (hkp.alloc _)).mono ?_
     rintro e W1 ⟨rfl, k1⟩
     have c0 := (k1.cell (k := wr.heap.size) (i := 0) (by simp) (fun x => x)).trans ((World.cell?_alloc_at _ _ _ _ rfl).trans rfl)
     have c1 := (k1.cell (k := wr.heap.size) (i := 1) (by simp) (fun x => x)).trans ((World.cell?_alloc_at _ _ _ _ rfl).trans rfl)
     have c2 := (k1.cell (k := wr.heap.size) (i := 2) (by simp) (fun x => x)).trans ((World.cell?_alloc_at _ _ _ _ rfl).trans rfl)
     have c3 := (k1.cell (k := wr.heap.size) (i := 3) (by simp) (fun x => x)).trans ((World.cell?_alloc_at _ _ _ _ rfl).trans rfl)
     have c4 := (k1.cell (k := wr.heap.size) (i := 4) (by simp) (fun x => x)).trans ((World.cell?_alloc_at _ _ _ _ rfl).trans rfl)
     go_wp2_with fail
     refine (WI.out _ _ _ _).mono ?_
     rintro e W2 ⟨rfl, k2⟩
     clear c0 c1 c2 c3 c4
     go_wp2_with fail
     go_roundg (11 - (k + 1))
     case measure => omega
     case rel => exact ⟨k + 1, by omega, rfl, by go_num, HG1, ((hkp.alloc _).trans k1).trans k2⟩
    ·have hw : (decide (lo ≤ x) && decide (x ≤ hi)) = false := by
      rw [Bool.and_eq_false_iff]; simp; omega
     obtain rfl : ce = (3, (k : Int)) := HCE.out.symm.trans (p.check_bad k hlt HG.out (fun h => h2 (hgi.1 h).2))
     have WI := Lib.hid (fun nm f g W => within_ok nm f g lo hi x W)
     rw [hw] at WI
     clear hgi hd h1 h2 hw
     go_wp2_with fail
     refine (GETH.out _ (hkp.alloc _)).mono ?_
     rintro e W1 ⟨rfl, k1⟩
     have c0 := (k1.cell (k := wr.heap.size) (i := 0) (by simp) (fun x => x)).trans ((World.cell?_alloc_at _ _ _ _ rfl).trans rfl)
     have c1 := (k1.cell (k := wr.heap.size) (i := 1) (by simp) (fun x => x)).trans ((World.cell?_alloc_at _ _ _ _ rfl).trans rfl)
     have c2 := (k1.cell (k := wr.heap.size) (i := 2) (by simp) (fun x => x)).trans ((World.cell?_alloc_at _ _ _ _ rfl).trans rfl)
     have c3 := (k1.cell (k := wr.heap.size) (i := 3) (by simp) (fun x => x)).trans ((World.cell?_alloc_at _ _ _ _ rfl).trans rfl)
     have c4 := (k1.cell (k := wr.heap.size) (i := 4) (by simp) (fun x => x)).trans ((World.cell?_alloc_at _ _ _ _ rfl).trans rfl)
     go_wp2_with fail
     refine (WI.out _ _ _ _).mono ?_
     rintro e W2 ⟨rfl, k2⟩
     clear c0 c1 c2 c3 c4
     go_wp2_with fail
     go_ret2
     exact ⟨rfl, hk0.trans (((hkp.alloc _).trans k1).trans k2)⟩
   ·have hd := decide_eq_false h1
    rw [hd] at GETH
    obtain rfl : ce = (3, (k : Int)) := HCE.out.symm.trans (p.check_bad k hlt HG.out (fun h => h1 (hgi.1 h).1))
    clear hgi hd h1
    go_wp2_with fail
    refine (GETH.out _ (hkp.alloc _)).mono ?_
    rintro e W1 ⟨rfl, k1⟩
    go_wp2_with fail
    go_ret2
    exact ⟨rfl, hk0.trans ((hkp.alloc _).trans k1)⟩
  ·have h1 : decide ((k : Int) < 11) = false := by simp; omega
   have hk11 : k = 11 := by omega
   have q0 := (hkp.cell (i := 0) hsz (fun x => x)).trans q0
   have q1 := (hkp.cell (i := 1) hsz (fun x => x)).trans q1
   have hce := HCE.out.symm.trans (p.check_good (fun j hj => HG.out j (by omega)))
   by_cases hm : p.unb < p.mage
   ·rw [if_pos hm] at hce
    subst hce
    clear HCE
    go_wp2_with fail
    go_ret2
    exact ⟨rfl, hk0.trans hkp⟩
   ·rw [if_neg hm] at hce
    subst hce
    clear HCE
    have hmd : decide (p.unb < p.mage) = false := by simpa using hm
    go_wp2_with fail
    go_ret2
    exact ⟨rfl, hk0.trans hkp⟩
theorem r7within_ok (i : Nat) (n : Int) (w : World) (hi : i < 11) :
  Calls prog 104 #[iI i, iI n] w fun e w' => e = .returned (.bool (decide (parLo[i]?.getD 0 ≤ n ∧ n ≤ parHi[i]?.getD 0))) ∧ Keeps Nob w w' := by
 obtain ⟨lo, hlo⟩ : ∃ lo, parLo[i]?.getD 0 = lo := ⟨_, rfl⟩
 obtain ⟨hh, hhi⟩ : ∃ h, parHi[i]?.getD 0 = h := ⟨_, rfl⟩
 rw [hlo, hhi]
 by_cases h1 : lo ≤ n
 ·go_enter func104, ntmps104
  go_wp2_with (first
   | (go_at_call 133; refine (least_ok _).mono ?_; rintro e V ⟨cap, rfl, hc, hk, hs⟩; have c1 := hc i hi; rw [hlo] at c1)
   | (go_at_call 134; refine (most_ok _).mono ?_; rintro e V2 ⟨cap2, rfl, hc2, hk2, hs2⟩; have c2 := hc2 i hi; rw [hhi] at c2))
  go_ret
  exact ⟨by simp [h1], hk.trans hk2⟩
 ·have h2 : decide (lo ≤ n) = false := by simpa using h1
  go_enter func104, ntmps104
  go_wp2_with (first
   | (go_at_call 133; refine (least_ok _).mono ?_; rintro e V ⟨cap, rfl, hc, hk, hs⟩; have c1 := hc i hi; rw [hlo] at c1))
  go_ret
  exact ⟨by simp; intro h; exact absurd h (by omega), hk⟩
theorem kFields_ok (p : Par) (hp : p.Ok) (w : World) :
  Calls prog 103 #[p.v] w fun e w' => ∃ g, (∃ cap, e = .returned (sS g 11 cap)) ∧ (∀ i : Nat, i < 11 → w'.cell? ⟨g, i, none⟩ = some (iI (p.r[i]?.getD 0))) ∧ g < w'.heap.size ∧ Keeps Nob w w' := by
 obtain ⟨b1, b2⟩ := hp.base
 obtain ⟨m1, m2⟩ := hp.mult
 obtain ⟨r1, r2⟩ := hp.rew
 unfold Par.v Par.cells Par.r
 obtain ⟨unb, mage, elen, win, ent, act, jail, base, mult, corr, rew⟩ := p
 simp only at b1 b2 m1 m2 r1 r2 ⊢
 clear hp
 have key : ∀ x : Int, (x ≤ 1099511627776 ∧ min x 1099511627776 = x) ∨ (¬ x ≤ 1099511627776 ∧ min x 1099511627776 = 1099511627776) := fun x => by omega
 rcases key base with ⟨k1, e1⟩ | ⟨k1, e1⟩ <;> rcases key mult with ⟨k2, e2⟩ | ⟨k2, e2⟩ <;> rcases key rew with ⟨k3, e3⟩ | ⟨k3, e3⟩
 all_goals
  rw [e1, e2, e3]
  clear key e1 e2 e3
  go_enter func103, ntmps103
  go_wp2
  go_ret
  refine ⟨w.heap.size + 1, ⟨_, rfl⟩, fun i hi => ?_, by simp, ((Keeps.refl _ _).alloc _).alloc _⟩
  refine (World.cell?_alloc_at _ _ _ _ (by simp)).trans ?_
  have h : i = 0 ∨ i = 1 ∨ i = 2 ∨ i = 3 ∨ i = 4 ∨ i = 5 ∨ i = 6 ∨ i = 7 ∨ i = 8 ∨ i = 9 ∨ i = 10 := by omega
  rcases h with rfl | rfl | rfl | rfl | rfl | rfl | rfl | rfl | rfl | rfl | rfl <;> rfl
theorem r7Check_ok (p : Par) (hp : p.Ok) (w : World) :
  Calls prog 63 #[p.v] w (RK w (.tuple #[iI p.check.1, iI p.check.2])) := by
 have FL := fun V => kFields_ok p hp V
 obtain ⟨ce, hce⟩ : ∃ c, p.check = c := ⟨_, rfl⟩
 rw [hce]
 have HCE := Lib.hid hce; clear hce
 obtain ⟨cs, hcs⟩ : ∃ cs, p.cells = cs := ⟨_, rfl⟩
 have hv : p.v = .agg p.cells := rfl
 rw [hv] at FL ⊢
 unfold Par.cells at FL ⊢
 have FLH := Lib.hid FL; clear FL hv hcs
 go_enter func63, ntmps63
 go_wp2_with (go_at_call 103; refine (FLH.out _).mono ?_; rintro e V ⟨g, ⟨cap, rfl⟩, hc, hg, hk⟩)
 have hk0 := ((Keeps.refl Nob w).alloc (.cells p.cells 47)).trans hk
 have hb : w.heap.size < (w.alloc (.cells p.cells 47)).heap.size := by simp
 have c0 : (w.alloc (.cells p.cells 47)).cell? ⟨w.heap.size, 0, none⟩ = some (iI p.unb) := (World.cell?_alloc_at _ _ _ _ rfl).trans rfl
 have c1 : (w.alloc (.cells p.cells 47)).cell? ⟨w.heap.size, 1, none⟩ = some (iI p.mage) := (World.cell?_alloc_at _ _ _ _ rfl).trans rfl
 have q0 := (hk.cell (i := 0) hb (fun x => x)).trans c0
 have q1 := (hk.cell (i := 1) hb (fun x => x)).trans c1
 have hsz : w.heap.size < V.heap.size := Nat.lt_of_lt_of_le hb hk.size
 clear hk c0 c1 hb
 go_loopg [5] 11 (fun g i V1 => ∃ k : Nat, k ≤ 11 ∧ g = 11 - k ∧ i = iI k ∧ Hid (∀ j, j < k → p.good j) ∧ Keeps Nob V V1)
 case atStart => exact ⟨0, by omega, rfl, rfl, Lib.hid (fun j hj => by omega), Keeps.refl _ _⟩
 case round =>
  obtain ⟨k, hk, hgf, rfl, HG, hkp⟩ := hrel
  by_cases hlt : k < 11
  ·have c1 := (hkp.cell (i := k) hg (fun x => x)).trans (hc k hlt)
   have hgr := p.good_r k hlt
   obtain ⟨n, hn⟩ : ∃ n, p.r[k]?.getD 0 = n := ⟨_, rfl⟩
   rw [hn] at c1 hgr
   have RW := fun V => r7within_ok k n V hlt
   by_cases hgood : p.good k
   ·have hd := decide_eq_true (hgr.1 hgood)
    rw [hd] at RW
    have RWH := Lib.hid RW
    have HG1 := Lib.hid (fun j hj => (Nat.lt_succ_iff_lt_or_eq.1 hj).elim (HG.out j) (fun e => e ▸ hgood) : ∀ j, j < k + 1 → p.good j)
    clear RW hd hgr hgood hc
    go_wp2_with (go_at_call 104; refine (RWH.out _).mono ?_; rintro e V1 ⟨rfl, hk1⟩)
    go_roundg (11 - (k + 1))
    case measure => omega
    case rel => exact ⟨k + 1, by omega, rfl, by go_num, HG1, hkp.trans hk1⟩
   ·have hd := decide_eq_false (fun x => hgood (hgr.2 x))
    rw [hd] at RW
    have RWH := Lib.hid RW
    obtain rfl : ce = (3, (k : Int)) := HCE.out.symm.trans (p.check_bad k hlt HG.out hgood)
    clear RW hd hgr hgood hc
    go_wp2_with (go_at_call 104; refine (RWH.out _).mono ?_; rintro e V1 ⟨rfl, hk1⟩)
    go_ret2
    exact ⟨rfl, (hk0.trans hkp).trans hk1⟩
  ·have h1 : decide ((k : Int) < 11) = false := by simp; omega
   have hk11 : k = 11 := by omega
   have q0 := (hkp.cell (i := 0) hsz (fun x => x)).trans q0
   have q1 := (hkp.cell (i := 1) hsz (fun x => x)).trans q1
   have hce := HCE.out.symm.trans (p.check_good (fun j hj => HG.out j (by omega)))
   by_cases hm : p.unb < p.mage
   ·rw [if_pos hm] at hce
    subst hce
    clear hc HCE
    go_wp2_with fail
    go_ret2
    exact ⟨rfl, hk0.trans hkp⟩
   ·rw [if_neg hm] at hce
    subst hce
    clear hc HCE
    have hmd : decide (p.unb < p.mage) = false := by simpa using hm
    go_wp2_with fail
    go_ret2
    exact ⟨rfl, hk0.trans hkp⟩
def hOk (h : Int) : Prop := 1 ≤ h ∧ h ≤ 4294967296
instance (h : Int) : Decidable (hOk h) := by unfold hOk; infer_instance
def Par.fine (p : Par) (l : List Int) : Int := if p.check.1 = 0 then (if l.all (fun h => decide (hOk h)) then 0 else 3) else p.check.1
theorem Par.fine_bad (p : Par) (l : List Int) (k : Nat) (h : Int) (hk : l[k]? = some h) (hb : ¬ hOk h) (hp : p.check.1 = 0) : p.fine l = 3 := by
 have : l.all (fun h => decide (hOk h)) = false := by
  rw [List.all_eq_false]
  exact ⟨h, List.mem_of_getElem? hk, by simpa using hb⟩
 unfold Par.fine; rw [if_pos hp, this]; rfl
theorem Par.fine_ok (p : Par) (l : List Int) (h : ∀ (k : Nat) x, l[k]? = some x → hOk x) (hp : p.check.1 = 0) : p.fine l = 0 := by
 have : l.all (fun h => decide (hOk h)) = true := by
  rw [List.all_eq_true]
  intro x hx
  obtain ⟨k, hk⟩ := List.getElem?_of_mem hx
  simpa using h k x hk
 unfold Par.fine; rw [if_pos hp, this]; rfl
theorem rfine_ok (p : Par) (hp : p.Ok) (v : Value) (l : List Int) (w : World) (hl : l.length ≤ 1000) (hv : IntsAt w v l) :
  Calls prog 155 #[p.v, v] w (RK w (iI (p.fine l))) := by
 obtain ⟨a0, cap, rfl⟩ := hv.len
 have HV := Lib.hid hv; clear hv
 have CH := fun V => r7Check_ok p hp V
 obtain ⟨er, her⟩ : ∃ c, p.fine l = c := ⟨_, rfl⟩
 rw [her]
 have HER := Lib.hid her; clear her
 obtain ⟨ce, hce⟩ : ∃ c, p.check.1 = c := ⟨_, rfl⟩
 obtain ⟨ci, hci⟩ : ∃ c, p.check.2 = c := ⟨_, rfl⟩
 rw [hce, hci] at CH
 clear hci
 have hpv : p.v = .agg p.cells := rfl
 rw [hpv] at CH ⊢
 unfold Par.cells at CH ⊢
 have CHH := Lib.hid CH; clear CH hpv
 by_cases hc : ce = 0
 ·subst hc
  have HP := Lib.hid hce; clear hce
  go_enter func155, ntmps155
  go_wp2_with (go_at_call 63; refine (CHH.out _).mono ?_; rintro e V ⟨rfl, hk⟩)
  have hk0 : Keeps Nob w V := ((Keeps.refl Nob w).alloc _).trans hk
  clear hk
  go_loopg [7] l.length (fun g i V1 => ∃ k : Nat, k ≤ l.length ∧ g = l.length - k ∧ i = iI k ∧ Hid (∀ j x, j < k → l[j]? = some x → hOk x) ∧ Keeps Nob w V1)
  case atStart => exact ⟨0, by omega, rfl, rfl, Lib.hid (fun j x hj => by omega), hk0⟩
  case round =>
   obtain ⟨k, hk, hg, rfl, HG, hkp⟩ := hrel
   by_cases hlt : k < l.length
   ·obtain ⟨x, hx⟩ : ∃ x, l[k]? = some x := ⟨l[k], List.getElem?_eq_getElem hlt⟩
    obtain ⟨bx1, bx2, bl, ol, cl, hvl, hbl, q0⟩ := HV.out.at_ k _ hx
    simp only [Value.slice.injEq, true_and] at hvl
    obtain ⟨rfl, rfl⟩ := hvl
    have p0 := (hkp.cell hbl (fun x => x)).trans q0
    have HX := Lib.hid hx
    clear q0 hx
    by_cases h1 : x < 1
    ·obtain rfl : er = 3 := HER.out.symm.trans (p.fine_bad l k x HX.out (fun h => by unfold hOk at h; omega) HP.out)
     go_wp2_with fail
     go_ret
     exact ⟨rfl, hkp⟩
    ·have h1d : decide (x < 1) = false := by simpa using h1
     by_cases h2 : 4294967296 < x
     ·obtain rfl : er = 3 := HER.out.symm.trans (p.fine_bad l k x HX.out (fun h => by unfold hOk at h; omega) HP.out)
      go_wp2_with fail
      go_ret
      exact ⟨rfl, hkp⟩
     ·have h2d : decide (4294967296 < x) = false := by simpa using h2
      have HG1 : Hid (∀ j y, j < k + 1 → l[j]? = some y → hOk y) := Lib.hid (fun j y hj hy => (Nat.lt_succ_iff_lt_or_eq.1 hj).elim (fun h => HG.out j y h hy) (fun e => by subst e; have e2 := HX.out.symm.trans hy; simp at e2; subst e2; unfold hOk; omega))
      go_wp2_with fail
      go_roundg (l.length - (k + 1))
      case measure => omega
      case rel => exact ⟨k + 1, by omega, rfl, by go_num, HG1, hkp⟩
   ·have h1 : decide ((k : Int) < (l.length : Int)) = false := by simp; omega
    obtain rfl : er = 0 := HER.out.symm.trans (p.fine_ok l (fun j x hx => HG.out j x (by have := (List.getElem?_eq_some_iff.1 hx).1; omega) hx) HP.out)
    go_wp2_with fail
    go_ret
    exact ⟨rfl, hkp⟩
 ·have hcd : (ce == 0) = false := by simpa using hc
  obtain rfl : ce = er := by rw [← HER.out]; unfold Par.fine; rw [hce, if_neg hc]
  go_enter func155, ntmps155
  go_wp2_with (go_at_call 63; refine (CHH.out _).mono ?_; rintro e V ⟨rfl, hk⟩)
  go_ret
  exact ⟨rfl, ((Keeps.refl Nob w).alloc _).trans hk⟩
theorem Par.bounds (p : Par) (h : p.check.1 = 0) : (1 ≤ p.unb ∧ p.unb ≤ 1048576) ∧ (0 ≤ p.mage ∧ p.mage ≤ 1048576) ∧ (1 ≤ p.elen ∧ p.elen ≤ 1000) ∧ (1 ≤ p.win ∧ p.win ≤ 256) ∧ (1 ≤ p.jail ∧ p.jail ≤ 1048576) ∧ (1 ≤ p.corr ∧ p.corr ≤ 1048576) ∧ p.mage ≤ p.unb := by
 unfold Par.check at h
 split at h
 ·simp at h
 ·rename_i hn
  rw [List.find?_eq_none] at hn
  have g : ∀ i, i < 11 → p.good i := fun i hi => by simpa using hn i (by simpa using hi)
  have g0 := g 0 (by omega); have g1 := g 1 (by omega); have g2 := g 2 (by omega); have g3 := g 3 (by omega); have g6 := g 6 (by omega); have g9 := g 9 (by omega)
  simp [Par.good, parLo, parHi, Par.l] at g0 g1 g2 g3 g6 g9
  refine ⟨g0, g1, g2, g3, g6, g9, ?_⟩
  split at h
  ·simp at h
  ·omega
theorem Par.fine_zero (p : Par) (l : List Int) (h : p.fine l = 0) : p.check.1 = 0 ∧ ∀ x ∈ l, hOk x := by
 unfold Par.fine at h
 split at h
 ·rename_i hc
  refine ⟨hc, ?_⟩
  split at h
  ·rename_i ha
   rw [List.all_eq_true] at ha
   intro x hx; simpa using ha x hx
  ·simp at h
 ·rename_i hc; exact absurd h hc
def Par.epoch (p : Par) (h : Int) : Int × Int := if p.fine [h] = 0 then ((h - 1) / p.elen, 0) else (0, p.fine [h])
theorem ints_one (w : World) (x : Int) (b1 : -9223372036854775808 ≤ x) (b2 : x ≤ 9223372036854775807) (t : TypeId) : IntsAt (w.alloc (.cells #[iI x] t)) (sS w.heap.size 1 1) [x] :=
 ⟨⟨_, _, rfl⟩, fun k y hk => by
  match k, hk with
  | 0, hk => simp at hk; subst hk; exact ⟨b1, b2, _, _, _, rfl, by simp, (World.cell?_alloc_at _ _ _ _ rfl).trans rfl⟩⟩
theorem par_cell (p : Par) (w w' : World) (t : TypeId) (hk : Keeps Nob (w.alloc (.cells p.cells t)) w') (i : Nat) (x : Value) (hx : p.cells[i]? = some x) : w'.cell? ⟨w.heap.size, i, none⟩ = some x :=
 (hk.cell (by simp) (fun x => x)).trans ((World.cell?_alloc_at _ _ _ _ rfl).trans hx)
theorem rEpoch_ok (p : Par) (hp : p.Ok) (h : Int) (hh : i64ok h) (w : World) :
  Calls prog 136 #[p.v, iI h] w (RK w (.tuple #[iI (p.epoch h).1, iI (p.epoch h).2])) := by
 have FN := fun V v hv => rfine_ok p hp v [h] V (by simp) hv
 have hb := fun hc => p.bounds (p.fine_zero [h] hc).1
 have hr := fun hc => (p.fine_zero [h] hc).2 h (by simp)
 unfold Par.epoch
 generalize p.fine [h] = er at *
 have hpv : p.v = .agg p.cells := rfl
 rw [hpv] at FN ⊢
 unfold Par.cells at FN ⊢
 have FH := Lib.hid FN; clear FN hpv
 obtain ⟨hh1, hh2⟩ := hh
 by_cases hc : er = 0
 ·subst hc
  obtain ⟨_, _, ⟨e1, e2⟩, _⟩ := hb rfl
  obtain ⟨r1, r2⟩ := hr rfl
  clear hb hr
  have hne : p.elen ≠ 0 := by omega
  have hq0 : 0 ≤ (h - 1) / p.elen := Int.ediv_nonneg (by omega) (by omega)
  have hq1 : (h - 1) / p.elen ≤ h - 1 := Int.ediv_le_self _ (by omega)
  try simp only [if_true, if_pos rfl]
  go_enter func136, ntmps136
  go_wp2_with (go_at_call 155; refine (FH.out _ _ (by have := ints_one (w.alloc (.cells p.cells 47)) h hh1 hh2 3; simpa [Par.cells] using this)).mono ?_; rintro e V ⟨rfl, hk⟩; have q2 := par_cell p w V 47 (((Keeps.refl _ _).alloc _).trans hk) 2 (iI p.elen) rfl)
  go_ret2
  exact ⟨rfl, (((Keeps.refl Nob w).alloc _).alloc _).trans hk⟩
 ·have hcd : (er == 0) = false := by simpa using hc
  rw [if_neg hc]
  clear hb hr
  go_enter func136, ntmps136
  go_wp2_with (go_at_call 155; refine (FH.out _ _ (by have := ints_one (w.alloc (.cells p.cells 47)) h hh1 hh2 3; simpa [Par.cells] using this)).mono ?_; rintro e V ⟨rfl, hk⟩)
  go_ret2
  exact ⟨rfl, (((Keeps.refl Nob w).alloc _).alloc _).trans hk⟩
def Par.floor (p : Par) (h : Int) : Int × Int := if p.fine [h] = 0 then (max 1 (h - p.win * p.elen + 1), 0) else (0, p.fine [h])
theorem rFloor_ok (p : Par) (hp : p.Ok) (h : Int) (hh : i64ok h) (w : World) :
  Calls prog 137 #[p.v, iI h] w (RK w (.tuple #[iI (p.floor h).1, iI (p.floor h).2])) := by
 have FN := fun V v hv => rfine_ok p hp v [h] V (by simp) hv
 have hb := fun hc => p.bounds (p.fine_zero [h] hc).1
 have hr2 := fun hc => (p.fine_zero [h] hc).2 h (by simp)
 unfold Par.floor
 generalize p.fine [h] = er at *
 have hpv : p.v = .agg p.cells := rfl
 rw [hpv] at FN ⊢
 unfold Par.cells at FN ⊢
 have FH := Lib.hid FN; clear FN hpv
 by_cases hc : er = 0
 ·subst hc
  obtain ⟨r3, r4⟩ := hr2 rfl
  obtain ⟨⟨x1, x2⟩, ⟨x3, x4⟩, ⟨x5, x6⟩, ⟨x7, x8⟩, ⟨x9, x10⟩, ⟨x11, x12⟩, _⟩ := hb rfl
  clear hb hr2
  simp only [if_true]
  have m1 : 1 ≤ p.win * p.elen := by have := Int.mul_le_mul x7 x5 (by omega) (by omega); omega
  have m2 : p.win * p.elen ≤ 256000 := by have := Int.mul_le_mul x8 x6 (by omega) (by omega); omega
  by_cases k1 : h - p.win * p.elen + 1 ≤ 1
  ·have hm : max 1 (h - p.win * p.elen + 1) = 1 := by omega
   rw [hm]
   go_enter func137, ntmps137
   go_wp2_with (go_at_call 155; refine (FH.out _ _ (by have := ints_one (w.alloc (.cells p.cells 47)) h hh.1 hh.2 3; simpa [Par.cells] using this)).mono ?_; rintro e V ⟨rfl, hk⟩; have q3 := par_cell p w V 47 (((Keeps.refl _ _).alloc _).trans hk) 3 (iI p.win) rfl; have q2 := par_cell p w V 47 (((Keeps.refl _ _).alloc _).trans hk) 2 (iI p.elen) rfl)
   go_ret2
   exact ⟨rfl, (((Keeps.refl Nob w).alloc _).alloc _).trans hk⟩
  ·have hm : max 1 (h - p.win * p.elen + 1) = h - p.win * p.elen + 1 := by omega
   rw [hm]
   go_enter func137, ntmps137
   go_wp2_with (go_at_call 155; refine (FH.out _ _ (by have := ints_one (w.alloc (.cells p.cells 47)) h hh.1 hh.2 3; simpa [Par.cells] using this)).mono ?_; rintro e V ⟨rfl, hk⟩; have q3 := par_cell p w V 47 (((Keeps.refl _ _).alloc _).trans hk) 3 (iI p.win) rfl; have q2 := par_cell p w V 47 (((Keeps.refl _ _).alloc _).trans hk) 2 (iI p.elen) rfl)
   go_ret2
   exact ⟨rfl, (((Keeps.refl Nob w).alloc _).alloc _).trans hk⟩
 ·have hcd : (er == 0) = false := by simpa using hc
  have hdd : decide (er = 0) = false := by simpa using hc
  clear hb hr2
  try rw [if_neg hc]
  go_enter func137, ntmps137
  go_wp2_with (go_at_call 155; refine (FH.out _ _ (by have := ints_one (w.alloc (.cells p.cells 47)) h hh.1 hh.2 3; simpa [Par.cells] using this)).mono ?_; rintro e V ⟨rfl, hk⟩)
  go_ret2
  exact ⟨rfl, (((Keeps.refl Nob w).alloc _).alloc _).trans hk⟩
def Par.low (p : Par) (h : Int) : Int × Int := if p.fine [h] = 0 then (max 0 ((h - 1) / p.elen - p.win + 1), 0) else (0, p.fine [h])
def Par.first (p : Par) (e : Int) : Int × Int := if p.fine [] = 0 then (if 0 ≤ e ∧ e ≤ 4294967296 ∧ e * p.elen + 1 ≤ 4294967296 then (e * p.elen + 1, 0) else (0, 3)) else (0, p.fine [])
theorem rLow_ok (p : Par) (hp : p.Ok) (h : Int) (hh : i64ok h) (w : World) :
  Calls prog 135 #[p.v, iI h] w (RK w (.tuple #[iI (p.low h).1, iI (p.low h).2])) := by
 have FN := fun V => rEpoch_ok p hp h hh V
 have hb := fun hc => p.bounds (p.fine_zero [h] hc).1
 have hr2 := fun hc => (p.fine_zero [h] hc).2 h (by simp)
 unfold Par.low
 unfold Par.epoch at FN
 generalize p.fine [h] = er at *
 have hpv : p.v = .agg p.cells := rfl
 rw [hpv] at FN ⊢
 unfold Par.cells at FN ⊢
 by_cases hc : er = 0
 ·subst hc
  obtain ⟨r3, r4⟩ := hr2 rfl
  obtain ⟨⟨x1, x2⟩, ⟨x3, x4⟩, ⟨x5, x6⟩, ⟨x7, x8⟩, ⟨x9, x10⟩, ⟨x11, x12⟩, _⟩ := hb rfl
  clear hb hr2
  simp only [if_true] at FN ⊢
  have FH := Lib.hid FN; clear FN hpv
  have q0 : 0 ≤ (h - 1) / p.elen := Int.ediv_nonneg (by omega) (by omega)
  have q1 : (h - 1) / p.elen ≤ h - 1 := Int.ediv_le_self _ (by omega)
  generalize (h - 1) / p.elen = e at *
  by_cases k1 : e - p.win + 1 ≤ 0
  ·have hm : max 0 (e - p.win + 1) = 0 := by omega
   rw [hm]
   go_enter func135, ntmps135
   go_wp2_with (go_at_call 136; refine (FH.out _).mono ?_; rintro e V ⟨rfl, hk⟩; have q3 := par_cell p w V 47 hk 3 (iI p.win) rfl)
   go_ret2
   exact ⟨rfl, ((Keeps.refl Nob w).alloc _).trans hk⟩
  ·have hm : max 0 (e - p.win + 1) = e - p.win + 1 := by omega
   rw [hm]
   go_enter func135, ntmps135
   go_wp2_with (go_at_call 136; refine (FH.out _).mono ?_; rintro e V ⟨rfl, hk⟩; have q3 := par_cell p w V 47 hk 3 (iI p.win) rfl)
   go_ret2
   exact ⟨rfl, ((Keeps.refl Nob w).alloc _).trans hk⟩
 ·have hcd : (er == 0) = false := by simpa using hc
  rw [if_neg hc]
  simp only [if_neg hc] at FN
  have FH := Lib.hid FN; clear FN hpv hb hr2
  go_enter func135, ntmps135
  go_wp2_with (go_at_call 136; refine (FH.out _).mono ?_; rintro e V ⟨rfl, hk⟩)
  go_ret2
  exact ⟨rfl, ((Keeps.refl Nob w).alloc _).trans hk⟩
theorem ints_none (w : World) : IntsAt w (.slice none 0 0) [] := ⟨⟨_, _, rfl⟩, fun k x hk => by simp at hk⟩
theorem rFirst_ok (p : Par) (hp : p.Ok) (e : Int) (he : i64ok e) (w : World) :
  Calls prog 157 #[p.v, iI e] w fun x w' => x = .returned (.tuple #[iI (p.first e).1, iI (p.first e).2]) ∧ Keeps Nob w w' := by
 have FN := fun V v hv => rfine_ok p hp v [] V (by simp) hv
 have hb := fun hc => p.bounds (p.fine_zero [] hc).1
 unfold Par.first
 generalize p.fine [] = er at *
 have hpv : p.v = .agg p.cells := rfl
 rw [hpv] at FN ⊢
 unfold Par.cells at FN ⊢
 have FH := Lib.hid FN; clear FN hpv
 obtain ⟨he1, he2⟩ := he
 by_cases hc : er = 0
 ·subst hc
  obtain ⟨_, _, ⟨x5, x6⟩, _⟩ := hb rfl
  clear hb
  rw [if_pos rfl]
  by_cases k1 : e < 0
  ·rw [if_neg (by omega)]
   go_enter func157, ntmps157
   go_wp2_with (go_at_call 155; refine (FH.out _ _ (ints_none _)).mono ?_; rintro x V ⟨rfl, hk⟩)
   go_ret2
   exact ⟨rfl, ((Keeps.refl Nob w).alloc _).trans hk⟩
  ·have k1d : decide (e < 0) = false := by simpa using k1
   by_cases k2 : 4294967296 < e
   ·rw [if_neg (by omega)]
    go_enter func157, ntmps157
    go_wp2_with (go_at_call 155; refine (FH.out _ _ (ints_none _)).mono ?_; rintro x V ⟨rfl, hk⟩)
    go_ret2
    exact ⟨rfl, ((Keeps.refl Nob w).alloc _).trans hk⟩
   ·have k2d : decide (4294967296 < e) = false := by simpa using k2
    have m1 : 0 ≤ e * p.elen := Int.mul_nonneg (by omega) (by omega)
    have m2 : e * p.elen ≤ 4294967296000 := by have := Int.mul_le_mul (show e ≤ 4294967296 by omega) x6 (by omega) (by omega); omega
    by_cases k3 : e * p.elen + 1 ≤ 4294967296
    ·rw [if_pos ⟨by omega, by omega, k3⟩]
     have k3d : decide (4294967296 < e * p.elen + 1) = false := by simp; omega
     go_enter func157, ntmps157
     go_wp2_with (go_at_call 155; refine (FH.out _ _ (ints_none _)).mono ?_; rintro x V ⟨rfl, hk⟩; have q2 := par_cell p w V 47 hk 2 (iI p.elen) rfl)
     go_ret2
     exact ⟨rfl, ((Keeps.refl Nob w).alloc _).trans hk⟩
    ·rw [if_neg (by omega)]
     have k3d : 4294967296 < e * p.elen + 1 := by omega
     go_enter func157, ntmps157
     go_wp2_with (go_at_call 155; refine (FH.out _ _ (ints_none _)).mono ?_; rintro x V ⟨rfl, hk⟩; have q2 := par_cell p w V 47 hk 2 (iI p.elen) rfl)
     go_ret2
     exact ⟨rfl, ((Keeps.refl Nob w).alloc _).trans hk⟩
 ·have hcd : (er == 0) = false := by simpa using hc
  rw [if_neg hc]
  clear hb
  go_enter func157, ntmps157
  go_wp2_with (go_at_call 155; refine (FH.out _ _ (ints_none _)).mono ?_; rintro x V ⟨rfl, hk⟩)
  go_ret2
  exact ⟨rfl, ((Keeps.refl Nob w).alloc _).trans hk⟩
def Par.last (p : Par) (e : Int) : Int × Int := if (p.first e).2 = 0 then (min 4294967296 ((e + 1) * p.elen), 0) else (0, (p.first e).2)
def errFirst (l : List Int) : Int := (l.find? (fun x => decide (x ≠ 0))).getD 0
theorem errFirst_hit (l : List Int) (k : Nat) (x : Int) (hx : l[k]? = some x) (h0 : x ≠ 0) (h : ∀ j y, j < k → l[j]? = some y → y = 0) : errFirst l = x := by
 unfold errFirst
 have : l.find? (fun x => decide (x ≠ 0)) = some x := by
  rw [List.find?_eq_some_iff_getElem]
  obtain ⟨hk, e⟩ := List.getElem?_eq_some_iff.1 hx
  refine ⟨by simpa using h0, k, hk, e, fun j hj => ?_⟩
  simpa using h j _ hj (List.getElem?_eq_getElem (by omega))
 rw [this]; rfl
theorem errFirst_none (l : List Int) (h : ∀ (j : Nat) y, l[j]? = some y → y = 0) : errFirst l = 0 := by
 unfold errFirst
 have : l.find? (fun x => decide (x ≠ 0)) = none := by
  rw [List.find?_eq_none]
  intro x hx
  obtain ⟨j, hj⟩ := List.getElem?_of_mem hx
  simpa using h j x hj
 rw [this]; rfl
def errOf (h : Int) : Int := if hOk h then 0 else 3
theorem errOf_ok (h : Int) (x : hOk h) : errOf h = 0 := if_pos x
theorem errOf_bad (h : Int) (x : ¬ hOk h) : errOf h = 3 := if_neg x
theorem errFirst_cons (x : Int) (l : List Int) : errFirst (x :: l) = if x = 0 then errFirst l else x := by
 unfold errFirst
 rw [List.find?_cons]
 by_cases h : x = 0
 ·simp [h]
 ·simp [h]
theorem errFirst_map (l : List Int) : errFirst (l.map errOf) = if l.all (fun h => decide (hOk h)) then 0 else 3 := by
 induction l with
 | nil => rfl
 | cons h t ih =>
  rw [List.map_cons, errFirst_cons, ih]
  by_cases hh : hOk h
  ·rw [errOf_ok h hh]; simp [hh]
  ·rw [errOf_bad h hh]; simp [hh]
theorem fine_eq (p : Par) (l : List Int) : p.fine l = errFirst (p.check.1 :: l.map errOf) := by
 rw [errFirst_cons, errFirst_map]
 rfl
theorem pfine_ok (h : Int) (w : World) : Calls prog 60 #[iI h] w fun e w' => e = .returned (iI (errOf h)) ∧ w = w' := by
 by_cases h1 : h < 1
 ·have he : errOf h = 3 := errOf_bad h (fun x => by unfold hOk at x; omega)
  rw [he]
  go_enter func60, ntmps60
  go_wp2
  go_ret
  exact ⟨rfl, rfl⟩
 ·have h1d : decide (h < 1) = false := by simpa using h1
  by_cases h2 : 4294967296 < h
  ·have he : errOf h = 3 := errOf_bad h (fun x => by unfold hOk at x; omega)
   rw [he]
   go_enter func60, ntmps60
   go_wp2
   go_ret
   exact ⟨rfl, rfl⟩
  ·have h2d : decide (4294967296 < h) = false := by simpa using h2
   have he : errOf h = 0 := errOf_ok h (by unfold hOk; omega)
   rw [he]
   go_enter func60, ntmps60
   go_wp2
   go_ret
   exact ⟨rfl, rfl⟩
def E (l : List Int) : List Value := l.map fun x => iI x
theorem E_get (l : List Int) (k : Nat) (x : Int) (h : l[k]? = some x) : (E l)[k]? = some (iI x) := by simp [E, h]
theorem first_ok (v : Value) (l : List Int) (w : World) (hv : Row w 30 1 v l.length (E l)) (hl : l.length ≤ 1000) :
  Calls prog 101 #[v] w fun e w' => e = .returned (iI (errFirst l)) ∧ w = w' := by
 obtain ⟨er, her⟩ : ∃ c, errFirst l = c := ⟨_, rfl⟩
 rw [her]
 have HER := Lib.hid her; clear her
 have hform : ∃ A cap, v = .slice A l.length cap := by
  rcases hv.2 with ⟨rfl, h0⟩ | ⟨g, cap, cur, rfl, _⟩
  ·exact ⟨none, 0, by rw [h0]⟩
  ·exact ⟨_, _, rfl⟩
 obtain ⟨A, cap, rfl⟩ := hform
 have HV := Lib.hid hv; clear hv
 go_enter func101, ntmps101
 go_wp2_with fail
 go_loop [7] (fun i => ∃ k : Nat, k ≤ l.length ∧ i = iI k ∧ Hid (∀ j y, j < k → l[j]? = some y → y = 0)) (fun i => l.length - (intOf i).toNat)
 case atStart => exact ⟨0, Nat.zero_le _, rfl, Lib.hid (fun j y hj => by omega)⟩
 case round =>
  obtain ⟨k, hk, rfl, HK⟩ := hrel
  by_cases hlt : k < l.length
  ·obtain ⟨x, hx⟩ : ∃ x, l[k]? = some x := ⟨_, List.getElem?_eq_getElem hlt⟩
   obtain ⟨g, cap', hv, hg⟩ := HV.out.spell (by omega)
   simp only [Value.slice.injEq, true_and] at hv
   obtain ⟨rfl, rfl⟩ := hv
   have c0 : w.cell? ⟨g, k, none⟩ = some (iI x) := (World.ownsRow.cellAt HV.out k (by omega)).trans (E_get l k x hx)
   have HX := Lib.hid hx
   clear hx
   by_cases h0 : x = 0
   ·have hb : (x != 0) = false := by simpa using h0
    have HK1 : Hid (∀ j y, j < k + 1 → l[j]? = some y → y = 0) := Lib.hid (fun j y hj hy => (Nat.lt_succ_iff_lt_or_eq.1 hj).elim (fun h => HK.out j y h hy) (fun e => by subst e; have := HX.out.symm.trans hy; simp at this; omega))
    clear h0
    go_wp2_with fail
    go_round
    case rel => exact ⟨k + 1, by omega, by go_num, HK1⟩
    case measure => simp [intOf]; omega
   ·have hb : (x != 0) = true := by simpa using h0
    obtain rfl : er = x := HER.out.symm.trans (errFirst_hit l k x HX.out h0 HK.out)
    go_wp2_with fail
    go_ret
    exact ⟨rfl, rfl⟩
  ·have hd : decide ((k : Int) < (l.length : Int)) = false := by simp; omega
   obtain rfl : er = 0 := HER.out.symm.trans (errFirst_none l (fun j y hy => HK.out j y (by have := (List.getElem?_eq_some_iff.1 hy).1; omega) hy))
   go_wp2_with fail
   go_ret
   exact ⟨rfl, rfl⟩
noncomputable def opsGood : Array Oper := opsOf f58 8
theorem err_info : (prog.info? 30).map (fun i => (i.zero, i.size, i.bytes)) = some (some (iI 0), 1, 8) := by kernel_rfl
theorem E_append (l m : List Int) : E (l ++ m) = E l ++ E m := by simp [E]
theorem Row.newE (w : World) (x : Int) : Row (w.alloc (.cells #[iI x] 30)) 30 1 (sS w.heap.size 1 1) 1 (E [x]) :=
 ⟨rfl, .inr ⟨_, _, _, rfl, Nat.zero_le _, heap_alloc_new _ _, Nat.le_refl _, by unfold maxLen; omega, rfl, rfl⟩⟩
theorem good_ok (p : Par) (hp : p.Ok) (v : Value) (l : List Int) (w : World) (hl : l.length ≤ 900) (hv : IntsAt w v l) :
  Calls prog 58 #[p.v, v] w (RK w (.tuple #[p.v, iI (p.fine l)])) := by
 obtain ⟨i0, hi, hz0, hz1, hz2⟩ := info_parts err_info
 obtain ⟨a0, cap, rfl⟩ := hv.len
 have HV := Lib.hid hv; clear hv
 have CH := fun V => pCheck_ok p hp V
 obtain ⟨er, her⟩ : ∃ c, p.fine l = c := ⟨_, rfl⟩
 rw [her]
 have HER := Lib.hid ((fine_eq p l).symm.trans her); clear her
 obtain ⟨ce, hce⟩ : ∃ c, p.check.1 = c := ⟨_, rfl⟩
 obtain ⟨ci, hci⟩ : ∃ c, p.check.2 = c := ⟨_, rfl⟩
 rw [hce, hci] at CH
 rw [hce] at HER
 clear hci hce
 have hpv : p.v = .agg p.cells := rfl
 rw [hpv] at CH ⊢
 unfold Par.cells at CH ⊢
 have CHH := Lib.hid CH; clear CH hpv
 go_enter func58, ntmps58
 go_wp2_with (go_at_call 42; refine (CHH.out _).mono ?_; rintro e V ⟨rfl, hk⟩)
 obtain ⟨W2, hW2⟩ : ∃ W2, ((w.alloc (.cells #[iI p.unb, iI p.mage, iI p.elen, iI p.win, iI p.ent, iI p.act, iI p.jail, .int .u64 p.base, .int .u64 p.mult, iI p.corr, .int .u64 p.rew] 47)).alloc (.cells zl5_ 106)) = W2 := ⟨_, rfl⟩
 rw [hW2] at hk
 have hb1 : HP W2 w.heap.size #[iI p.unb, iI p.mage, iI p.elen, iI p.win, iI p.ent, iI p.act, iI p.jail, .int .u64 p.base, .int .u64 p.mult, iI p.corr, .int .u64 p.rew] 47 := by
  rw [← hW2]; exact (Below.heap_alloc _ _ _ (by simp)).trans (heap_alloc_new _ _)
 have hb2 : W2.heap[w.heap.size + 1]? = some (.cells zl5_ 106 (0, 0)) := by
  rw [← hW2]; have := heap_alloc_new (w.alloc (.cells #[iI p.unb, iI p.mage, iI p.elen, iI p.win, iI p.ent, iI p.act, iI p.jail, .int .u64 p.base, .int .u64 p.mult, iI p.corr, .int .u64 p.rew] 47)) (.cells zl5_ 106)
  simpa using this
 have hkw : Keeps Nob w W2 := by rw [← hW2]; exact ((Keeps.refl _ _).alloc _).alloc _
 have hs2 : W2.heap.size = w.heap.size + 2 := by rw [← hW2]; simp
 have HB := Lib.hid (And.intro hb1 hb2)
 clear hW2 hb1 hb2
 have hVs := hk.size
 go_loopw [8, 20] (fun v i wr => ∃ k A c, k ≤ l.length ∧ i = iI k ∧ v = .slice A (k + 1) c ∧ Hid (Row wr 30 1 (.slice A (k + 1) c) (k + 1) (E (ce :: (l.take k).map errOf))) ∧ Hid (∀ j, (Value.slice A (k + 1) c).ownBlock = some j → V.heap.size ≤ j) ∧ Keeps Nob V wr) (fun _ i _ => l.length - (intOf i).toNat)
 case atStart =>
  exact ⟨0, some ⟨V.heap.size, 0, none⟩, 1, Nat.zero_le _, rfl, rfl, Lib.hid (Row.newE V ce), Lib.hid (fun j hj => by simp [Value.ownBlock] at hj; omega), (Keeps.refl _ _).alloc _⟩
 case round =>
  obtain ⟨k, A, c, hkl, rfl, rfl, HR, HN, hkp⟩ := hrel
  by_cases hlt : k < l.length
  ·obtain ⟨x, hx⟩ : ∃ x, l[k]? = some x := ⟨l[k], List.getElem?_eq_getElem hlt⟩
   obtain ⟨bx1, bx2, bl, ol, cl, hvl, hbl, q0⟩ := HV.out.at_ k _ hx
   simp only [Value.slice.injEq, true_and] at hvl
   obtain ⟨rfl, rfl⟩ := hvl
   have p0 := ((hkw.trans (hk.trans hkp)).cell hbl (fun x => x)).trans q0
   have HT : Hid (l.take (k + 1) = l.take k ++ [x]) := Lib.hid (by rw [List.take_add_one, hx]; rfl)
   clear q0 hx
   have hown := HR.out.keeps ((Keeps.refl Nob wr).alloc (.cells #[iI (errOf x)] 30)) (fun _ _ x => x)
   have hsrc := SrcO.new wr 1 1 [iI (errOf x)] 30 rfl (by simp [Value.oneCell']) 1
   have HO := Lib.hid hown
   have HS := Lib.hid hsrc
   clear hown hsrc
   go_wp2_with (first
    | (go_at_call 60; refine (pfine_ok x _).mono ?_; rintro e w' ⟨rfl, rfl⟩)
    | (at_builtin; refine own_append2 rfl _ _ 173 rfl 30 i0 (iI 0) 1 8 underlying173 hi hz0 hz1 hz2 rfl (by decide) (.slice A (k + 1) c) (k + 1) _ rfl HO.out (sS wr.heap.size 1 1) 1 _ rfl HS.out (by unfold maxLen; omega) (by omega) ?_; intro v' w1 hown' hgrow hnil hat; obtain ⟨g', cap', rfl, hg'⟩ := hown'.spell (by omega); have HW := Lib.hid hown'; have HT2 := Lib.hid hat; have HGr := Lib.hid hgrow; clear hown' hat hgrow hnil))
   go_roundw
   case rel =>
    refine ⟨k + 1, some ⟨g', 0, none⟩, cap', by omega, by go_num, rfl, Lib.hid ?_, Lib.hid (fun j hj => ?_), ?_⟩
    ·rw [HT.out, List.map_append, ← List.cons_append, E_append]; exact HW.out
    ·rcases HT2.out j hj with h | ⟨h, _⟩
     ·exact HN.out j h
     ·have := hkp.size; simp at h; omega
    ·exact (hkp.alloc _).grown HGr.out (fun j hj hlt => by have := HN.out j hj; omega)
   case measure => simp [intOf]; omega
  ·have hd : decide ((k : Int) < (l.length : Int)) = false := by simp; omega
   have hkk : k = l.length := by omega
   have hR := HR.out
   have hn1 : (ce :: (l.take k).map errOf).length = k + 1 := by simp; omega
   rw [← hn1] at hR
   have FO := fun W hW => first_ok _ _ W (hR.keeps (w' := W) hW (fun _ _ x => x)) (by rw [hn1]; omega)
   rw [hn1, show (l.take k) = l by rw [hkk]; exact List.take_of_length_le (Nat.le_refl _), HER.out] at FO
   have FOH := Lib.hid FO
   obtain ⟨hb1, hb2⟩ := HB.out
   have j2 := hk.trans hkp
   have e1 := (j2.block w.heap.size (by omega) (fun x => x)).trans hb1
   have e2 := (j2.block (w.heap.size + 1) (by omega) (fun x => x)).trans hb2
   clear FO hR hn1 hb1 hb2
   go_wp2_with fail
   refine wp_region_noPanic <| region_named (R := opsGood) (by kernel_rfl) <| wp_regionH_fuel (fun W => HP W w.heap.size p.cells 47) 6 #[false, false, false, false, false, false] (by kernel_rfl) (by kernel_rfl) rfl <| wpAnyH_val (i := 0) (opsGood.getD 0 default) (.agg p.cells) (by kernel_rfl) (fun _ _ _ _ _ h => h) (by kernel_rfl) (by kernel_rfl) (by kernel_rfl) (by kernel_rfl) (fun W hW => exec_load_row 47 (.tmp 2) (by kernel_rfl) w.heap.size (by kernel_rfl) 47 p.cells (0, 0) _ hW underlying47 rfl (by kernel_rfl)) e1 <| wpAnyH_val (i := 1) (opsGood.getD 1 default) (.agg p.cells) (by kernel_rfl) (fun _ _ _ _ _ h => h) (by kernel_rfl) (by kernel_rfl) (by kernel_rfl) (by kernel_rfl) (fun W hW => by kernel_rfl) e1 <| wpAnyH_val (i := 2) (opsGood.getD 2 default) (.slice A (k + 1) c) (by kernel_rfl) (fun _ _ _ _ _ h => h) (by kernel_rfl) (by kernel_rfl) (by kernel_rfl) (by kernel_rfl) (fun W hW => by kernel_rfl) e1 ?_
   refine wpAnyH_call (i := 3) (opsGood.getD 3 default) 101 #[.slice A (k + 1) c] (by kernel_rfl) (by kernel_rfl) (by kernel_rfl) (by kernel_rfl) (by kernel_rfl) (enters_of func101 (by kernel_rfl) rfl) ((FOH.out _ ((Keeps.refl _ _).drew)).mono ?_)
   rintro e w' ⟨rfl, rfl⟩
   refine ⟨_, rfl, e1, ?_⟩
   have eS : (wr.drew.setRow (w.heap.size + 1) p.cells).heap[w.heap.size]? = some (.cells p.cells 47 (0, 0)) := (setRow_other wr.drew (w.heap.size + 1) w.heap.size p.cells (by omega)).trans e1
   refine wpAnyH_run (i := 4) (opsGood.getD 4 default) undef (w' := wr.drew.setRow (w.heap.size + 1) p.cells) (by kernel_rfl) (by kernel_rfl) (by kernel_rfl) (.inr ⟨exec_store_row 106 (.tmp 4) (.tmp 31) (by kernel_rfl) (w.heap.size + 1) p.cells (by kernel_rfl) (by kernel_rfl) 106 _ e2 (by kernel_rfl) rfl (by kernel_rfl), rfl⟩) eS <| wpAnyH_run (i := 5) (opsGood.getD 5 default) (iI er) (w' := wr.drew.setRow (w.heap.size + 1) p.cells) (by kernel_rfl) (by kernel_rfl) (by kernel_rfl) (.inl (by kernel_rfl)) eS ?_
   refine wpAnyH_done (by kernel_rfl) ?_ _
   refine NoPanic.normal ?_
   refine state_eq (b := ⟨#[.agg p.cells, .slice a0 l.length cap, pT w.heap.size 0, undef, pT (w.heap.size + 1) 0, iI er, iI ce, iI ci, .slice A (k + 1) c, undef, u10,
    .tuple #[iI ce, iI ci], .agg p.cells, .tuple #[iI ce, iI ci], iI ce, iI ci, iI ce, sS V.heap.size 1 1, .slice a0 l.length cap, iI l.length, iI k, .bool false, u22, u23, u24, u25, u26, u27, u28, u29,
    .agg p.cells, .agg p.cells, .slice A (k + 1) c, iI er], []⟩) (by kernel_rfl) ?_
   have eR : (wr.drew.setRow (w.heap.size + 1) p.cells).heap[w.heap.size + 1]? = some (.cells p.cells 106 (0, 0)) := setRow_heap _ _ _ _ _ _ e2
   have hfin : Keeps Nob w (wr.drew.setRow (w.heap.size + 1) p.cells) := ((hkw.trans j2).drew).setRow (fun x => absurd x (by omega)) _
   generalize wr.drew.setRow (w.heap.size + 1) p.cells = WF at *
   have eld := fun (t : TypeId) => run_loadVar_row (P := prog) WF (w.heap.size + 1) 106 106 p.cells (0, 0) _ eR underlying106 rfl (by kernel_rfl)
   go_wp2
   refine bodyPost_ret (v := .tuple #[.agg p.cells, iI er]) ?_ rfl ⟨rfl, hfin⟩
   simp [results, Tryz.results58, asAddr, eld 0]
theorem hepoch_ok (p : Par) (h : Int) (w : World) (h1 : 1 ≤ h) (h2 : h ≤ 4294967296) (e1 : 1 ≤ p.elen) (e2 : p.elen ≤ 1000) :
  Calls prog 59 #[iI h, p.v] w fun e w' => e = .returned (iI ((h - 1) / p.elen)) ∧ Keeps Nob w w' := by
 have hpv : p.v = .agg p.cells := rfl
 rw [hpv]
 unfold Par.cells
 have hne : p.elen ≠ 0 := by omega
 have hq0 : 0 ≤ (h - 1) / p.elen := Int.ediv_nonneg (by omega) (by omega)
 have hq1 : (h - 1) / p.elen ≤ h - 1 := Int.ediv_le_self _ (by omega)
 go_enter func59, ntmps59
 go_wp2
 go_ret
 exact ⟨rfl, (Keeps.refl _ _).alloc _⟩
theorem down_ok (h n : Int) (w : World) (h1 : 1 ≤ h) (h2 : h ≤ 4294967296) (e1 : -4294967296 ≤ n) (e2 : n ≤ 4294967296) :
  Calls prog 80 #[iI h, iI n] w fun e w' => e = .returned (iI (h - n)) ∧ w = w' := by
 go_enter func80, ntmps80
 go_wp2
 go_ret
 exact ⟨rfl, rfl⟩
theorem pEpoch_ok (p : Par) (hp : p.Ok) (h : Int) (hh : i64ok h) (w : World) :
  Calls prog 27 #[p.v, iI h] w (RK w (.tuple #[iI (p.epoch h).1, iI (p.epoch h).2])) := by
 have FN := fun V v hv => good_ok p hp v [h] V (by simp) hv
 have hb := fun hc => p.bounds (p.fine_zero [h] hc).1
 have EP := fun W a b c d => hepoch_ok p h W a b c d
 have hr2 := fun hc => (p.fine_zero [h] hc).2 h (by simp)
 unfold Par.epoch
 generalize p.fine [h] = er at *
 have hpv : p.v = .agg p.cells := rfl
 rw [hpv] at FN EP ⊢
 unfold Par.cells at FN EP ⊢
 have FH := Lib.hid FN; clear FN hpv
 by_cases hc : er = 0
 ·subst hc
  obtain ⟨r3, r4⟩ := hr2 rfl
  obtain ⟨⟨x1, x2⟩, ⟨x3, x4⟩, ⟨x5, x6⟩, ⟨x7, x8⟩, ⟨x9, x10⟩, ⟨x11, x12⟩, _⟩ := hb rfl
  have EH := Lib.hid (fun W => EP W r3 r4 x5 x6)
  clear hb EP hr2
  try simp only [if_true, if_pos rfl]
  go_enter func27, ntmps27
  go_wp2_with (first | (go_at_call 58; refine (FH.out _ _ (by have := ints_one (w.alloc (.cells p.cells 47)) h hh.1 hh.2 3; simpa [Par.cells] using this)).mono ?_; rintro e V ⟨rfl, hk⟩) | (go_at_call 59; refine (EH.out _).mono ?_; rintro e V2 ⟨rfl, hk2⟩))
  go_ret2
  exact ⟨rfl, (((((Keeps.refl Nob w).alloc _).alloc _).trans hk).alloc _).trans hk2⟩
 ·have hcd : (er == 0) = false := by simpa using hc
  have hce : (er != 0) = true := by simpa using hc
  clear hb EP hr2
  try rw [if_neg hc]
  go_enter func27, ntmps27
  go_wp2_with (first | (go_at_call 58; refine (FH.out _ _ (by have := ints_one (w.alloc (.cells p.cells 47)) h hh.1 hh.2 3; simpa [Par.cells] using this)).mono ?_; rintro e V ⟨rfl, hk⟩))
  go_ret2
  exact ⟨rfl, ((((Keeps.refl Nob w).alloc _).alloc _).trans hk).alloc _⟩
theorem pFloor_ok (p : Par) (hp : p.Ok) (h : Int) (hh : i64ok h) (w : World) :
  Calls prog 44 #[p.v, iI h] w (RK w (.tuple #[iI (p.floor h).1, iI (p.floor h).2])) := by
 have FN := fun V v hv => good_ok p hp v [h] V (by simp) hv
 have hb := fun hc => p.bounds (p.fine_zero [h] hc).1
 have EP := fun W a b c d => hepoch_ok p h W a b c d
 have hr2 := fun hc => (p.fine_zero [h] hc).2 h (by simp)
 unfold Par.floor
 generalize p.fine [h] = er at *
 have hpv : p.v = .agg p.cells := rfl
 rw [hpv] at FN EP ⊢
 unfold Par.cells at FN EP ⊢
 have FH := Lib.hid FN; clear FN hpv
 by_cases hc : er = 0
 ·subst hc
  obtain ⟨r3, r4⟩ := hr2 rfl
  obtain ⟨⟨x1, x2⟩, ⟨x3, x4⟩, ⟨x5, x6⟩, ⟨x7, x8⟩, ⟨x9, x10⟩, ⟨x11, x12⟩, _⟩ := hb rfl
  have EH := Lib.hid (fun W => EP W r3 r4 x5 x6)
  clear hb EP hr2
  simp only [if_true]
  have m1 : 1 ≤ p.win * p.elen := by have := Int.mul_le_mul x7 x5 (by omega) (by omega); omega
  have m2 : p.win * p.elen ≤ 256000 := by have := Int.mul_le_mul x8 x6 (by omega) (by omega); omega
  by_cases k1 : h - p.win * p.elen + 1 ≤ 1
  ·have hm : max 1 (h - p.win * p.elen + 1) = 1 := by omega
   rw [hm]
   go_enter func44, ntmps44
   go_wp2_with (first | (go_at_call 58; refine (FH.out _ _ (by have := ints_one (w.alloc (.cells p.cells 47)) h hh.1 hh.2 3; simpa [Par.cells] using this)).mono ?_; rintro e V ⟨rfl, hk⟩) | (go_at_call 80; refine (down_ok _ _ _ (by omega) (by omega) (by omega) (by omega)).mono ?_; rintro e w' ⟨rfl, rfl⟩))
   go_ret2
   exact ⟨rfl, ((((Keeps.refl Nob w).alloc _).alloc _).trans hk).alloc _⟩
  ·have hm : max 1 (h - p.win * p.elen + 1) = h - p.win * p.elen + 1 := by omega
   rw [hm]
   go_enter func44, ntmps44
   go_wp2_with (first | (go_at_call 58; refine (FH.out _ _ (by have := ints_one (w.alloc (.cells p.cells 47)) h hh.1 hh.2 3; simpa [Par.cells] using this)).mono ?_; rintro e V ⟨rfl, hk⟩) | (go_at_call 80; refine (down_ok _ _ _ (by omega) (by omega) (by omega) (by omega)).mono ?_; rintro e w' ⟨rfl, rfl⟩))
   go_ret2
   exact ⟨rfl, ((((Keeps.refl Nob w).alloc _).alloc _).trans hk).alloc _⟩
 ·have hcd : (er == 0) = false := by simpa using hc
  have hce : (er != 0) = true := by simpa using hc
  clear hb EP hr2
  try rw [if_neg hc]
  go_enter func44, ntmps44
  go_wp2_with (first | (go_at_call 58; refine (FH.out _ _ (by have := ints_one (w.alloc (.cells p.cells 47)) h hh.1 hh.2 3; simpa [Par.cells] using this)).mono ?_; rintro e V ⟨rfl, hk⟩))
  go_ret2
  exact ⟨rfl, ((((Keeps.refl Nob w).alloc _).alloc _).trans hk).alloc _⟩
theorem pFirst_ok (p : Par) (hp : p.Ok) (e : Int) (he : i64ok e) (w : World) :
  Calls prog 29 #[p.v, iI e] w fun x w' => x = .returned (.tuple #[iI (p.first e).1, iI (p.first e).2]) ∧ Keeps Nob w w' := by
 have FN := fun V v hv => good_ok p hp v [] V (by simp) hv
 have hb := fun hc => p.bounds (p.fine_zero [] hc).1
 unfold Par.first
 generalize p.fine [] = er at *
 have hpv : p.v = .agg p.cells := rfl
 rw [hpv] at FN ⊢
 unfold Par.cells at FN ⊢
 have FH := Lib.hid FN; clear FN hpv
 obtain ⟨he1, he2⟩ := he
 by_cases hc : er = 0
 ·subst hc
  obtain ⟨_, _, ⟨x5, x6⟩, _⟩ := hb rfl
  clear hb
  rw [if_pos rfl]
  by_cases k1 : e < 0
  ·rw [if_neg (by omega)]
   go_enter func29, ntmps29
   go_wp2_with (go_at_call 58; refine (FH.out _ _ (ints_none _)).mono ?_; rintro x V ⟨rfl, hk⟩)
   go_ret2
   exact ⟨rfl, (((Keeps.refl Nob w).alloc _).trans hk).alloc _⟩
  ·have k1d : decide (e < 0) = false := by simpa using k1
   by_cases k2 : 4294967296 < e
   ·rw [if_neg (by omega)]
    go_enter func29, ntmps29
    go_wp2_with (go_at_call 58; refine (FH.out _ _ (ints_none _)).mono ?_; rintro x V ⟨rfl, hk⟩)
    go_ret2
    exact ⟨rfl, (((Keeps.refl Nob w).alloc _).trans hk).alloc _⟩
   ·have k2d : decide (4294967296 < e) = false := by simpa using k2
    have m1 : 0 ≤ e * p.elen := Int.mul_nonneg (by omega) (by omega)
    have m2 : e * p.elen ≤ 4294967296000 := by have := Int.mul_le_mul (show e ≤ 4294967296 by omega) x6 (by omega) (by omega); omega
    by_cases k3 : e * p.elen + 1 ≤ 4294967296
    ·rw [if_pos ⟨by omega, by omega, k3⟩]
     have hf := fun W => pfine_ok (e * p.elen + 1) W
     rw [errOf_ok _ (by unfold hOk; omega)] at hf
     have HF := Lib.hid hf; clear hf
     go_enter func29, ntmps29
     go_wp2_with (first
      | (go_at_call 58; refine (FH.out _ _ (ints_none _)).mono ?_; rintro x V ⟨rfl, hk⟩)
      | (go_at_call 60; refine (HF.out _).mono ?_; rintro e w' ⟨rfl, rfl⟩))
     go_ret2
     exact ⟨rfl, (((Keeps.refl Nob w).alloc _).trans hk).alloc _⟩
    ·rw [if_neg (by omega)]
     have hf := fun W => pfine_ok (e * p.elen + 1) W
     rw [errOf_bad _ (by unfold hOk; omega)] at hf
     have HF := Lib.hid hf; clear hf
     go_enter func29, ntmps29
     go_wp2_with (first
      | (go_at_call 58; refine (FH.out _ _ (ints_none _)).mono ?_; rintro x V ⟨rfl, hk⟩)
      | (go_at_call 60; refine (HF.out _).mono ?_; rintro e w' ⟨rfl, rfl⟩))
     go_ret2
     exact ⟨rfl, (((Keeps.refl Nob w).alloc _).trans hk).alloc _⟩
 ·have hcd : (er != 0) = true := by simpa using hc
  rw [if_neg hc]
  clear hb
  go_enter func29, ntmps29
  go_wp2_with (go_at_call 58; refine (FH.out _ _ (ints_none _)).mono ?_; rintro x V ⟨rfl, hk⟩)
  go_ret2
  exact ⟨rfl, (((Keeps.refl Nob w).alloc _).trans hk).alloc _⟩
noncomputable def opsLow : Array Oper := opsOf f26 4
theorem pLow_ok (p : Par) (hp : p.Ok) (h : Int) (hh : i64ok h) (w : World) :
  Calls prog 26 #[p.v, iI h] w (RK w (.tuple #[iI (p.low h).1, iI (p.low h).2])) := by
 have FN := fun V v hv => good_ok p hp v [h] V (by simp) hv
 have hb := fun hc => p.bounds (p.fine_zero [h] hc).1
 have EP := fun W a b c d => hepoch_ok p h W a b c d
 have hr2 := fun hc => (p.fine_zero [h] hc).2 h (by simp)
 unfold Par.low
 generalize p.fine [h] = er at *
 have hpv : p.v = .agg p.cells := rfl
 rw [hpv] at FN EP ⊢
 unfold Par.cells at FN EP ⊢
 have FH := Lib.hid FN; clear FN hpv
 by_cases hc : er = 0
 ·subst hc
  obtain ⟨r3, r4⟩ := hr2 rfl
  obtain ⟨⟨x1, x2⟩, ⟨x3, x4⟩, ⟨x5, x6⟩, ⟨x7, x8⟩, ⟨x9, x10⟩, ⟨x11, x12⟩, _⟩ := hb rfl
  have EH := Lib.hid (fun W => EP W r3 r4 x5 x6)
  clear hb EP hr2
  simp only [if_true]
  have q0 : 0 ≤ (h - 1) / p.elen := Int.ediv_nonneg (by omega) (by omega)
  have q1 : (h - 1) / p.elen ≤ h - 1 := Int.ediv_le_self _ (by omega)
  generalize (h - 1) / p.elen = e at *
  go_enter func26, ntmps26
  go_wp2_with (first | (go_at_call 58; refine (FH.out _ _ (by have := ints_one (w.alloc (.cells p.cells 47)) h hh.1 hh.2 3; simpa [Par.cells] using this)).mono ?_; rintro e V ⟨rfl, hk⟩))
  have hkA : Keeps Nob w V := (((Keeps.refl Nob w).alloc _).alloc _).trans hk
  have hb0 : (V.alloc (.cells p.cells 106)).heap[V.heap.size]? = some (.cells p.cells 106 (0, 0)) := heap_alloc_new _ _
  have hkB : Keeps Nob w (V.alloc (.cells p.cells 106)) := hkA.alloc _
  have w1 : IntKind.i64.wrap (e - p.win) = e - p.win := by rw [IntKind.wrap_i64]; omega
  have w2 : IntKind.i64.wrap (e - p.win + 1) = e - p.win + 1 := by rw [IntKind.wrap_i64]; omega
  have hs1 : V.heap.size < (V.alloc (.cells p.cells 106)).heap.size := by simp
  refine wp_region_noPanic <| region_named (R := opsLow) (by kernel_rfl) <| wp_regionH_fuel (fun W => HP W V.heap.size p.cells 106) 11 #[false, false, false, false, false, false, false, false, false, false, false] (by kernel_rfl) (by kernel_rfl) rfl <| wpAnyH_val (i := 0) (opsLow.getD 0 default) (iI h) (by kernel_rfl) (fun _ _ _ _ _ h => h) (by kernel_rfl) (by kernel_rfl) (by kernel_rfl) (by kernel_rfl) (fun W hW => by kernel_rfl) hb0 <| wpAnyH_val (i := 1) (opsLow.getD 1 default) (.agg p.cells) (by kernel_rfl) (fun _ _ _ _ _ h => h) (by kernel_rfl) (by kernel_rfl) (by kernel_rfl) (by kernel_rfl) (fun W hW => exec_load_row 106 (.tmp 6) (by kernel_rfl) V.heap.size (by kernel_rfl) 106 p.cells (0, 0) _ hW underlying106 rfl (by kernel_rfl)) hb0 <| wpAnyH_val (i := 3) (opsLow.getD 3 default) (pT V.heap.size 0) (by kernel_rfl) (fun _ _ _ _ _ h => h) (by kernel_rfl) (by kernel_rfl) (by kernel_rfl) (by kernel_rfl) (fun W hW => by kernel_rfl) hb0 <| wpAnyH_val (i := 4) (opsLow.getD 4 default) (pT V.heap.size 3) (by kernel_rfl) (fun _ _ _ _ _ h => h) (by kernel_rfl) (by kernel_rfl) (by kernel_rfl) (by kernel_rfl) (fun W hW => by kernel_rfl) hb0 <| wpAnyH_val (i := 5) (opsLow.getD 5 default) (iI p.win) (by kernel_rfl) (fun _ _ _ _ _ h => h) (by kernel_rfl) (by kernel_rfl) (by kernel_rfl) (by kernel_rfl) (fun W hW => exec_load_int 3 (.tmp 22) (by kernel_rfl) ⟨V.heap.size, 3, none⟩ (by kernel_rfl) .i64 _ underlying3 ((cell_of_row W V.heap.size 3 p.cells 106 (0, 0) hW).trans rfl)) hb0 ?_
  refine wpAnyH_call (i := 2) (opsLow.getD 2 default) 59 #[iI h, .agg p.cells] (by kernel_rfl) (by kernel_rfl) (by kernel_rfl) (by kernel_rfl) (by kernel_rfl) (enters_of func59 (by kernel_rfl) rfl) ((EH.out _).mono ?_)
  rintro x V2 ⟨rfl, hk2⟩
  have hb2 : HP V2 V.heap.size p.cells 106 := (hk2.block V.heap.size hs1 (fun x => x)).trans hb0
  refine ⟨_, rfl, hb2, ?_⟩
  refine wpAnyH_run (i := 6) (opsLow.getD 6 default) (iI (e - p.win)) (w' := V2) (by kernel_rfl) (by kernel_rfl) (by kernel_rfl) (.inl (Eq.trans (b := .ok (.value (iI (IntKind.i64.wrap (e - p.win)))) V2) (by kernel_rfl) (by rw [w1]))) hb2 <| wpAnyH_run (i := 7) (opsLow.getD 7 default) (iI (e - p.win + 1)) (w' := V2) (by kernel_rfl) (by kernel_rfl) (by kernel_rfl) (.inl (Eq.trans (b := .ok (.value (iI (IntKind.i64.wrap (e - p.win + 1)))) V2) (by kernel_rfl) (by rw [w2]))) hb2 <| wpAnyH_run (i := 8) (opsLow.getD 8 default) (iI (max 0 (e - p.win + 1))) (w' := V2) (by kernel_rfl) (by kernel_rfl) (by kernel_rfl) (.inl (exec_max (.const (iI 0)) (.tmp 25) #[3, 3] (by kernel_rfl) .i64 0 _ (by kernel_rfl) (by kernel_rfl))) hb2 <| wpAnyH_run (i := 9) (opsLow.getD 9 default) (iI (max 0 (e - p.win + 1))) (w' := V2) (by kernel_rfl) (by kernel_rfl) (by kernel_rfl) (.inl (by kernel_rfl)) hb2 <| wpAnyH_run (i := 10) (opsLow.getD 10 default) (iI 0) (w' := V2) (by kernel_rfl) (by kernel_rfl) (by kernel_rfl) (.inl (by kernel_rfl)) hb2 ?_
  refine wpAnyH_done (by kernel_rfl) ?_ _
  refine NoPanic.normal ?_
  refine state_eq (b := ⟨#[.agg p.cells, iI h, pT w.heap.size 0, undef, iI (max 0 (e - p.win + 1)), iI 0, pT V.heap.size 0, iI 0,
   .tuple #[.agg p.cells, iI 0], .agg p.cells, iI h, .slice (some ⟨w.heap.size + 1, 0, none⟩) 1 1, .tuple #[.agg p.cells, iI 0], .agg p.cells, iI 0, iI 0, .bool false, undef,
   iI h, .agg p.cells, iI e, pT V.heap.size 0, pT V.heap.size 3, iI p.win, iI (e - p.win), iI (e - p.win + 1), iI (max 0 (e - p.win + 1))], []⟩) (by kernel_rfl) ?_
  go_wp2
  go_ret2
  exact ⟨rfl, (hkB.drew).trans hk2⟩
 ·have hcd : (er == 0) = false := by simpa using hc
  have hce : (er != 0) = true := by simpa using hc
  clear hb EP hr2
  try rw [if_neg hc]
  go_enter func26, ntmps26
  go_wp2_with (first | (go_at_call 58; refine (FH.out _ _ (by have := ints_one (w.alloc (.cells p.cells 47)) h hh.1 hh.2 3; simpa [Par.cells] using this)).mono ?_; rintro e V ⟨rfl, hk⟩))
  go_ret2
  exact ⟨rfl, ((((Keeps.refl Nob w).alloc _).alloc _).trans hk).alloc _⟩
end
end Go.Proofs.YthmclmbeflbhhaaGreat
namespace Go.Proofs.YthmclmbeflbhhaaGreat.Sp
section
open Go Go.RowKit Go.Own
structure SpanAt (w : World) (b : Nat) (W E : Int) (r : Nat → Int × Value × Value) : Prop where
  shape : ∃ cs : Array Value, HP w b cs 161 ∧ cs.size = 770 ∧ cs.all (·.oneCell') = true
  win : w.cell? ⟨b, 0, none⟩ = some (iI W)
  ep : w.cell? ⟨b, 1, none⟩ = some (iI E)
  c0 : ∀ i, i < 256 → w.cell? ⟨b, 2 + i * 3, none⟩ = some (iI (r i).1)
  c1 : ∀ i, i < 256 → w.cell? ⟨b, 2 + i * 3 + 1, none⟩ = some (r i).2.1
  c2 : ∀ i, i < 256 → w.cell? ⟨b, 2 + i * 3 + 2, none⟩ = some (r i).2.2
theorem SpanAt.unfrozen {w : World} {b : Nat} {W E : Int} {r : Nat → Int × Value × Value} (h : SpanAt w b W E r) (o : Nat) : w.frozen? ⟨b, o, none⟩ = false := by
  obtain ⟨cs, h1, _⟩ := h.shape
  simp [World.frozen?, h1]
theorem span_none (b : Nat) (W : Int) (w : World) (h : w.cell? ⟨b, 0, none⟩ = some (iI W)) (hW : (W == 0) = false) :
    Calls prog 92 #[pT b 0] w fun e w' => e = .returned (.bool false) ∧ w = w' := by
  go_enter func92, ntmps92
  go_wp2
  go_ret
  exact ⟨rfl, rfl⟩
theorem span_low (b : Nat) (W E : Int) (w : World) (h : w.cell? ⟨b, 0, none⟩ = some (iI W)) (h1 : w.cell? ⟨b, 1, none⟩ = some (iI E)) (hW : (W == 0) = false)
   (w0 : 1 ≤ W) (w1 : W ≤ 256) (e0 : 0 ≤ E) (e1 : E ≤ 4294967296) :
    Calls prog 93 #[pT b 0] w fun e w' => e = .returned (iI (max 0 (E - W + 1))) ∧ w.drew = w' := by
  go_enter func93, ntmps93
  go_wp2_with (go_at_call 92; refine (span_none b W _ h hW).mono ?_; rintro e w' ⟨rfl, rfl⟩)
  go_region
  go_wp2
  all_goals (go_ret; exact ⟨ret_int (by omega), rfl⟩)
theorem place_in (p W : Int) (w : World) (w0 : 1 ≤ W) (w1 : W ≤ 256) (p0 : 0 ≤ p) (p1 : p ≤ 4294967296) :
    Calls prog 129 #[iI p, iI W] w fun e w' => e = .returned (iI (p % W)) ∧ w = w' := by
  go_enter func129, ntmps129
  go_wp2
  go_ret
  exact ⟨rfl, rfl⟩
theorem span_told_nil (w : World) :
    Calls prog 150 #[.pointer none] w fun e w' => e = .returned (.tuple #[iI 0, .bool false]) ∧ w = w' := by
  go_enter func150, ntmps150
  go_wp2
  go_ret2
  exact ⟨rfl, rfl⟩
theorem span_told (k : Nat) (n : Int) (w : World) (h : w.cell? ⟨k, 0, none⟩ = some (iI n)) :
    Calls prog 150 #[pT k 0] w fun e w' => e = .returned (.tuple #[iI n, .bool true]) ∧ w = w' := by
  go_enter func150, ntmps150
  go_wp2
  go_ret2
  exact ⟨rfl, rfl⟩
def spanCell (v : Value) (j : Nat) : Value := if j = 0 then v else if j = 1 then iI 0 else if j % 3 = 2 then iI 0 else .pointer none
def spanCells (v : Value) : Array Value := ((List.range 770).map (spanCell v)).toArray
theorem spanCells_get (v : Value) (j : Nat) (h : j < 770) : (spanCells v)[j]? = some (spanCell v j) := by simp [spanCells, h]
theorem spanCells_one (v : Value) (h : v.oneCell' = true) : (spanCells v).all (·.oneCell') = true := by
  simp only [Array.all_eq_true_iff_forall_mem]
  intro x hx
  simp only [spanCells, List.mem_toArray, List.mem_map] at hx
  obtain ⟨j, _, rfl⟩ := hx
  unfold spanCell
  repeat' split
  all_goals first | exact h | rfl
theorem spanCells_size (v : Value) : (spanCells v).size = 770 := by simp [spanCells]
theorem span_build (n : Int) (w : World) : (Instr.build 161 #[(0, iI n)]).run prog w = .ok (.agg (spanCells (iI n))) w := by kernel_rfl
theorem span_new (n : Int) (w : World) (h1 : 1 ≤ n) (h2 : n ≤ 256) :
    Calls prog 90 #[iI n] w fun e w' => e = .returned (.tuple #[pT w.heap.size 0, iI 0]) ∧ w' = w.alloc (.cells (spanCells (iI n)) 161) := by
  have hb := span_build n w
  go_enter func90, ntmps90
  go_wp2_with (first | (refine own_build rfl 161 _ rfl #[(0, iI n)] ?_ hb ?_; · simp [Act.eval]) | (refine own_box rfl 161 _ rfl ?_))
  go_ret2
  exact ⟨rfl, rfl⟩
end
section
open Go Go.RowKit Go.Own Go.Shelf
attribute [local go_sem] Oper.semAt_some
def epochs (lo E : Int) : List Int := (List.range (E + 1 - lo).toNat).map (fun (j : Nat) => lo + (j : Int))
theorem epochs_get (lo E : Int) (k : Nat) (h : lo + (k : Int) ≤ E) : (epochs lo E)[k]? = some (lo + (k : Int)) := by
  have : k < (E + 1 - lo).toNat := by omega
  simp [epochs, this]
theorem epochs_len (lo E : Int) : (epochs lo E).length = (E + 1 - lo).toNat := by simp [epochs]
theorem epochs_mem (lo E : Int) (k : Nat) (x : Int) (h : (epochs lo E)[k]? = some x) : x = lo + (k : Int) ∧ x ≤ E := by
  obtain ⟨hk, he⟩ := List.getElem?_eq_some_iff.1 h
  rw [epochs_len] at hk
  simp [epochs] at he
  omega
def AllS (Bn b : Nat) (W E : Int) (_ : Nat) (w : World) : Prop :=
  w.cell? ⟨Bn, 0, none⟩ = some (pT b 0) ∧ w.cell? ⟨b, 0, none⟩ = some (iI W) ∧ w.cell? ⟨b, 1, none⟩ = some (iI E)
theorem all1_seq (n : Nat) (hn : 1 ≤ n) (Bn b : Nat) (W E : Int) (hW : (W == 0) = false) (w0 : 1 ≤ W) (w1 : W ≤ 256) (e0 : 0 ≤ E) (e1 : E ≤ 4294967296) :
    SeqOwn Fence.wide n prog 128 #[pT Bn 0] (fun x : Int => #[iI x]) (epochs (max 0 (E - W + 1)) E) Nob (AllS Bn b W E) := by
  intro l J Jx W0 hJ hJx hY h0 hS0
  have HY := Lib.hid hY; clear hY
  refine callsIn_of_wp func128 rfl trivial ?_ rfl
  simp only [ntmps128, List.size_toArray, List.length_cons, List.length_nil, Nat.reduceAdd, Nat.reduceSub, Array.replicate_succ, Array.replicate_zero, List.push_toArray, List.append_toArray, List.nil_append, List.cons_append]
  obtain ⟨hb, hw, he⟩ := hS0
  gi_wp2_with (refine ⟨trivial, ?_⟩; gi_at_call 93; refine (callsIn_wide.2 (span_low b W E _ hw he hW w0 w1 e0 e1)).mono ?_; rintro e w' ⟨rfl, rfl⟩)
  gi_loopw [3] (fun e wr => ∃ k : Nat, (k : Int) ≤ E + 1 - max 0 (E - W + 1) ∧ e = iI (max 0 (E - W + 1) + k) ∧ J k wr ∧ AllS Bn b W E k wr) (fun e _ => (E + 1 - intOf e).toNat)
  case atStart => exact ⟨0, by omega, by simp, hJ _ _ _ h0 (Keeps.refl _ _).drew, hb, hw, he⟩
  case round =>
    obtain ⟨k, hk, rfl, hj, hs⟩ := hrel
    obtain ⟨hb', hw', he'⟩ := hs
    have hlo : 0 ≤ max 0 (E - W + 1) := by omega
    by_cases hlt : max 0 (E - W + 1) + (k : Int) ≤ E
    · obtain ⟨fn, tmps, assign, body, hy, hR⟩ := HY.out k (max 0 (E - W + 1) + k) wr (epochs_get _ _ _ hlt) hj ⟨hb', hw', he'⟩
      gi_wp2
      refine hR.mono ?_
      rintro e W3 (⟨rfl, hj3, hb3, hw3, he3⟩ | ⟨rfl, hx3⟩)
      · gi_wp2
        go_roundw
        case rel => exact ⟨k + 1, by omega, by go_num, hj3, hb3, hw3, he3⟩
        case measure => simp [intOf]; omega
      · gi_wp2
        refine bodyPost_ret (results_none rfl _ _ _) rfl ?_
        exact ⟨⟨_, rfl⟩, .inr hx3⟩
    · gi_wp2
      go_end0
      refine ⟨⟨_, rfl⟩, .inl ?_⟩
      rw [epochs_len]
      have : k = (E + 1 - max 0 (E - W + 1)).toNat := by omega
      rw [← this]; exact hj
theorem span_all (b : Nat) (w : World) :
    Calls prog 94 #[pT b 0] w fun e w' => e = .returned (.func (.func 128) #[] #[pT w.heap.size 0]) ∧ w.alloc (.cells #[pT b 0] 82) = w' := by
  have hmf : ∀ (fn : Fn) (first cap : Array Value) (w : World), (Instr.makeFunc fn first cap).run prog w = .ok (.func fn first cap) w := fun _ _ _ _ => rfl
  go_enter func94, ntmps94
  go_wp2
  go_ret
  exact ⟨rfl, rfl⟩
theorem span_has_out (b : Nat) (W E e : Int) (w : World) (h : w.cell? ⟨b, 0, none⟩ = some (iI W)) (h1 : w.cell? ⟨b, 1, none⟩ = some (iI E)) (hW : (W == 0) = false)
   (w0 : 1 ≤ W) (w1 : W ≤ 256) (e0 : 0 ≤ E) (e1 : E ≤ 4294967296) (hout : e < max 0 (E - W + 1) ∨ ¬ e < max 0 (E - W + 1) ∧ E < e) :
    Calls prog 149 #[pT b 0, iI e] w fun v w' => v = .returned (.bool false) ∧ Keeps Nob w w' := by
  have hb : b < w.heap.size := World.block_lt_of_cell? w _ h
  rcases hout with hlt | ⟨hge, hgt⟩
  all_goals
    go_enter func149, ntmps149
    go_wp2_with fail
    have hk := ((Keeps.refl Nob w).alloc (.cells #[iI e] 3)).alloc (.cells #[.bool false] 4)
    have g0 := (hk.cell (i := 0) hb (fun x => x)).trans h
    have g1 := (hk.cell (i := 1) hb (fun x => x)).trans h1
    have g3 : ((w.alloc (.cells #[iI e] 3)).alloc (.cells #[.bool false] 4)).cell? ⟨w.heap.size, 0, none⟩ = some (iI e) := by simp [go_sem]
    have g4 : ((w.alloc (.cells #[iI e] 3)).alloc (.cells #[.bool false] 4)).cell? ⟨w.heap.size + 1, 0, none⟩ = some (.bool false) := by simp [go_sem]
    have f4 : ((w.alloc (.cells #[iI e] 3)).alloc (.cells #[.bool false] 4)).frozen? ⟨w.heap.size + 1, 0, none⟩ = false := by simp [go_sem]
    have hs : w.heap.size + 2 ≤ ((w.alloc (.cells #[iI e] 3)).alloc (.cells #[.bool false] 4)).heap.size := by simp
    generalize (w.alloc (.cells #[iI e] 3)).alloc (.cells #[.bool false] 4) = W1 at *
    go_quiet (first | (go_at_call 92; exact Calls.quiet_eq (span_none b W _ g0 hW)) | (go_at_call 93; exact Calls.quiet_drew (span_low b W E _ g0 g1 hW w0 w1 e0 e1)))
    go_wp2
    refine bodyPost_ret (v := .bool false) ?_ rfl ⟨rfl, (hk.setCell_new (p := ⟨w.heap.size + 1, 0, none⟩) (by simp) _).drewN _⟩
    simp [results, Tryz.results149, go_sem, g4]
theorem span_has_in (b : Nat) (W E e : Int) (w : World) (h : w.cell? ⟨b, 0, none⟩ = some (iI W)) (h1 : w.cell? ⟨b, 1, none⟩ = some (iI E)) (hW : (W == 0) = false)
   (w0 : 1 ≤ W) (w1 : W ≤ 256) (e0 : 0 ≤ E) (e1 : E ≤ 4294967296) (hge : ¬ e < max 0 (E - W + 1)) (hle : ¬ E < e) :
    Calls prog 149 #[pT b 0, iI e] w fun v w' => v = .returned (.bool true) ∧ Keeps Nob w w' := by
  have hb : b < w.heap.size := World.block_lt_of_cell? w _ h
  refine calls_marks 3 func149 rfl ?_
  simp only [ntmps149, List.size_toArray, List.length_cons, List.length_nil, Nat.reduceAdd, Nat.reduceSub, Array.replicate_succ, Array.replicate_zero, List.push_toArray, List.append_toArray, List.nil_append, List.cons_append]
  go_wp2_with fail
  have hk := ((Keeps.refl Nob w).alloc (.cells #[iI e] 3)).alloc (.cells #[.bool false] 4)
  have g0 := (hk.cell (i := 0) hb (fun x => x)).trans h
  have g1 := (hk.cell (i := 1) hb (fun x => x)).trans h1
  have g3 : ((w.alloc (.cells #[iI e] 3)).alloc (.cells #[.bool false] 4)).cell? ⟨w.heap.size, 0, none⟩ = some (iI e) := by simp [go_sem]
  have g4 : ((w.alloc (.cells #[iI e] 3)).alloc (.cells #[.bool false] 4)).cell? ⟨w.heap.size + 1, 0, none⟩ = some (.bool false) := by simp [go_sem]
  have f4 : ((w.alloc (.cells #[iI e] 3)).alloc (.cells #[.bool false] 4)).frozen? ⟨w.heap.size + 1, 0, none⟩ = false := by simp [go_sem]
  have hs : w.heap.size + 2 ≤ ((w.alloc (.cells #[iI e] 3)).alloc (.cells #[.bool false] 4)).heap.size := by simp
  generalize (w.alloc (.cells #[iI e] 3)).alloc (.cells #[.bool false] 4) = W1 at *
  go_quiet (first | (go_at_call 92; exact Calls.quiet_eq (span_none b W _ g0 hW)) | (go_at_call 93; exact Calls.quiet_drew (span_low b W E _ g0 g1 hW w0 w1 e0 e1)))
  go_wp2_with (go_at_call 94; refine (span_all b _).mono ?_; rintro e w' ⟨rfl, rfl⟩)
  have hk2 : Keeps Nob w ((W1.drewN nq).alloc (.cells #[pT b 0] 82)) := (hk.drewN _).alloc _
  have k0 := (hk2.cell (i := 0) hb (fun x => x)).trans h
  have k1 := (hk2.cell (i := 1) hb (fun x => x)).trans h1
  have k5 : ((W1.drewN nq).alloc (.cells #[pT b 0] 82)).cell? ⟨W1.heap.size, 0, none⟩ = some (pT b 0) := (World.cell?_alloc_at _ _ _ _ rfl).trans rfl
  have hk3 : Keeps Nob W1 ((W1.drewN nq).alloc (.cells #[pT b 0] 82)) := ((Keeps.refl _ _).drewN _).alloc _
  have k3 := (hk3.cell (k := w.heap.size) (i := 0) (by omega) (fun x => x)).trans g3
  have k4 := (hk3.cell (k := w.heap.size + 1) (i := 0) (by omega) (fun x => x)).trans g4
  have kf := (hk3.frozen (k := w.heap.size + 1) (i := 0) (by omega) (fun x => x)).trans f4
  have ks : W1.heap.size + 1 ≤ ((W1.drewN nq).alloc (.cells #[pT b 0] 82)).heap.size := by simp
  have hB : W1.heap.size ≠ w.heap.size ∧ W1.heap.size ≠ w.heap.size + 1 ∧ b ≠ w.heap.size ∧ b ≠ w.heap.size + 1 := by omega
  generalize (W1.drewN nq).alloc (.cells #[pT b 0] 82) = W2 at *
  refine wp_range1 3 (gf := 128) (lb := #[pT W1.heap.size 0]) rfl (enters_of func128 (by kernel_rfl) rfl) (encs := fun x : Int => #[iI x]) (fun _ => rfl)
    (Mi := Nob) (fun _ x => x.elim) (all1_seq 5 (by omega) W1.heap.size b W E hW w0 w1 e0 e1)
    (fun k A B ⟨a1, a2, a3⟩ t => ⟨t.cell a1 (fun x => x), t.cell a2 (fun x => x), t.cell a3 (fun x => x)⟩) ⟨k5, k0, k1⟩
    (fun k V => (k : Int) ≤ e - max 0 (E - W + 1) ∧ Keeps Nob w V ∧ V.cell? ⟨w.heap.size, 0, none⟩ = some (iI e) ∧ V.cell? ⟨w.heap.size + 1, 0, none⟩ = some (.bool false) ∧ V.frozen? ⟨w.heap.size + 1, 0, none⟩ = false)
    (fun c V => c = .ret ∧ Keeps Nob w V ∧ V.cell? ⟨w.heap.size + 1, 0, none⟩ = some (.bool true))
    ?hI ?hIx ⟨by omega, hk2, k3, k4, kf⟩ ?f ?assign ?body ?done ?stop
  case assign =>
    intro l k x V K hx hi hs hK
    gi_wp2
    exact hK
  case hI =>
    rintro k A B ⟨a1, a2, a3, a4, a5⟩ t
    exact ⟨a1, t.keeps a2 (by omega), t.cell a3 (fun x => x), t.cell a4 (fun x => x), (t.frozen a4 (fun x => x)).trans a5⟩
  case hIx =>
    rintro c A B ⟨a1, a2, a3⟩ t
    exact ⟨a1, t.keeps a2 (by omega), t.cell a3 (fun x => x)⟩
  case body =>
    rintro l k x V hl hr hx ⟨a1, a2, a3, a4, a5⟩ ⟨s1, s2, s3⟩
    have hxk := epochs_mem _ _ _ _ hx
    have HX := Lib.hid hxk; clear hxk
    gi_wp2
    · exact ⟨(KeepsOthers.setCell _ _ _).from _, rfl, a2.setCell_new (p := ⟨w.heap.size + 1, 0, none⟩) (by simp) _, World.cell?_setCell_same _ _ _ a4⟩
    · have hne : (x == e) = false := by assumption
      have hxk := HX.out
      refine ⟨KeepsFrom.refl _ _, ⟨?_, a2, a3, a4, a5⟩, s1, s2, s3⟩
      simp at hne
      omega
  case done =>
    rintro D V hD ⟨a1, _⟩ _
    exact absurd a1 (by rw [epochs_len]; omega)
  case stop =>
    rintro D c V hD ⟨rfl, a2, a3⟩ hK
    go_wp2
    have ht : Turn W2.heap.size Nob V (V.putObj D (.deferred none)) := Turn.put _ _ _ _ hD hK rfl
    have hc := ht.cell a3 (fun x => x)
    refine marks_ret hK (v := .bool true) ?_ ⟨rfl, ht.keeps a2 (by omega)⟩
    simp [results, Tryz.results149, go_sem, hc]
end
section
open Go Go.RowKit Go.Own
def ValIs (w : World) (FP : Nat → Prop) (v : Value) (o : Option Int) : Prop :=
  match o with
  | none => v = .pointer none
  | some n => ∃ k, FP k ∧ v = .pointer (some ⟨k, 0, none⟩) ∧ w.cell? ⟨k, 0, none⟩ = some (iI n)
theorem ValIs.mono {w w' : World} {FP FP' : Nat → Prop} {v : Value} {o : Option Int} (h : ValIs w FP v o) (hf : ∀ k, FP k → FP' k) (hc : ∀ k x, FP k → w.cell? ⟨k, 0, none⟩ = some x → w'.cell? ⟨k, 0, none⟩ = some x) : ValIs w' FP' v o := by
  cases o with
  | none => exact h
  | some n => obtain ⟨k, a, b, c⟩ := h; exact ⟨k, hf k a, b, hc k _ a c⟩
theorem ValIs.one {w : World} {FP : Nat → Prop} {v : Value} {o : Option Int} (h : ValIs w FP v o) : v.oneCell' = true := by
  cases o with
  | none => rw [show v = .pointer none from h]; rfl
  | some n => obtain ⟨k, _, rfl, _⟩ := h; rfl
def lowOf (W E : Int) : Int := max 0 (E - W + 1)
def slotOf (W e : Int) : Nat := (e % W).toNat
def upd {α : Type} (r : Nat → α) (i : Nat) (x : α) : Nat → α := fun j => if j = i then x else r j
structure SpanView (w : World) (FP : Nat → Prop) (b : Nat) (W E : Int) (view : Int → Option Int × Option Int) : Prop where
  w1 : 1 ≤ W
  w2 : W ≤ 256
  e1 : 0 ≤ E
  e2 : E ≤ 4294967296
  nb : ¬ FP b
  fp : ∀ k, FP k → k < w.heap.size
  ring : ∃ r, SpanAt w b W E r ∧ (∀ i, i < 256 → (r i).1 ≤ E) ∧
    ∀ e, lowOf W E ≤ e → e ≤ E → ((r (slotOf W e)).1 = e ∧ ValIs w FP (r (slotOf W e)).2.1 (view e).1 ∧ ValIs w FP (r (slotOf W e)).2.2 (view e).2) ∨ ((r (slotOf W e)).1 ≠ e ∧ view e = (none, none))
theorem slot_lt {W e : Int} (h1 : 1 ≤ W) (h2 : W ≤ 256) : slotOf W e < 256 := by
  have := Int.emod_nonneg e (show W ≠ 0 by omega)
  have := Int.emod_lt_of_pos e (show 0 < W by omega)
  unfold slotOf; omega
theorem slot_inj {W E e e' : Int} (h1 : 1 ≤ W) (a1 : lowOf W E ≤ e) (a2 : e ≤ E) (b1 : lowOf W E ≤ e') (b2 : e' ≤ E) (h : slotOf W e = slotOf W e') : e = e' := by
  have p1 := Int.emod_nonneg e (show W ≠ 0 by omega)
  have p2 := Int.emod_nonneg e' (show W ≠ 0 by omega)
  have hm : e % W = e' % W := by unfold slotOf at h; omega
  have hd := Int.emod_emod_of_dvd (e - e') (Int.dvd_refl W)
  have : (e - e') % W = 0 := by rw [Int.sub_emod, hm]; simp
  obtain ⟨q, hq⟩ := Int.dvd_of_emod_eq_zero this
  unfold lowOf at *
  have hq0 : q = 0 := by
    rcases Int.lt_trichotomy q 0 with h | h | h
    · have : W * q ≤ W * (-1) := Int.mul_le_mul_of_nonneg_left (by omega) (by omega)
      omega
    · exact h
    · have : W * 1 ≤ W * q := Int.mul_le_mul_of_nonneg_left (by omega) (by omega)
      omega
  subst hq0; omega
theorem SpanAt.of_keeps {w w' : World} {M : Nat → Prop} {b : Nat} {W E : Int} {r : Nat → Int × Value × Value} (h : SpanAt w b W E r) (k : Keeps M w w') (hb : ¬ M b) : SpanAt w' b W E r := by
  have hs : b < w.heap.size := World.block_lt_of_cell? w _ h.win
  obtain ⟨cs, hc, hn, ho⟩ := h.shape
  exact ⟨⟨cs, (k.block b hs hb).trans hc, hn, ho⟩, (k.cell hs hb).trans h.win, (k.cell hs hb).trans h.ep, fun i hi => (k.cell hs hb).trans (h.c0 i hi), fun i hi => (k.cell hs hb).trans (h.c1 i hi), fun i hi => (k.cell hs hb).trans (h.c2 i hi)⟩
theorem SpanView.of_keeps {w w' : World} {M FP FP' : Nat → Prop} {b : Nat} {W E : Int} {view : Int → Option Int × Option Int} (h : SpanView w FP b W E view) (k : Keeps M w w') (hb : ¬ M b) (hm : ∀ j, FP j → ¬ M j)
    (hf : ∀ j, FP j → FP' j) (hn : ¬ FP' b) (hs : ∀ j, FP' j → j < w'.heap.size) : SpanView w' FP' b W E view := by
  obtain ⟨r, ha, hr, hv⟩ := h.ring
  refine ⟨h.w1, h.w2, h.e1, h.e2, hn, hs, r, ha.of_keeps k hb, hr, fun e h1 h2 => ?_⟩
  have hc : ∀ (k' : Nat) (x : Value), FP k' → w.cell? ⟨k', 0, none⟩ = some x → w'.cell? ⟨k', 0, none⟩ = some x := fun k' x hk hx => (k.cell (h.fp k' hk) (hm k' hk)).trans hx
  rcases hv e h1 h2 with ⟨a, p, q⟩ | h'
  · exact .inl ⟨a, p.mono hf hc, q.mono hf hc⟩
  · exact .inr h'
theorem all_set (cs : Array Value) (a : Nat) (v : Value) (h : cs.all (·.oneCell') = true) (hv : v.oneCell' = true) : (cs.setIfInBounds a v).all (·.oneCell') = true := by
  rw [Array.all_eq_true] at h ⊢
  intro i hi
  simp only [Array.size_setIfInBounds] at hi
  rw [Array.getElem_setIfInBounds hi]
  split
  · exact hv
  · exact h i hi
theorem shape_set {w : World} {b : Nat} {a : Nat} {v : Value} (h : ∃ cs : Array Value, w.heap[b]? = some (.cells cs 161 (0, 0)) ∧ cs.size = 770 ∧ cs.all (·.oneCell') = true) (hv : v.oneCell' = true) : ∃ cs : Array Value, (w.setCell ⟨b, a, none⟩ v).heap[b]? = some (.cells cs 161 (0, 0)) ∧ cs.size = 770 ∧ cs.all (·.oneCell') = true := by
  obtain ⟨cs, hc, hn, ho⟩ := h
  refine ⟨cs.setIfInBounds a v, ?_, by simpa using hn, all_set _ _ _ ho hv⟩
  simp [World.setCell, Array.getElem?_modify, hc]
theorem SpanAt.set0 {w : World} {b i : Nat} {W E x : Int} {r : Nat → Int × Value × Value} (h : SpanAt w b W E r) (hi : i < 256) : SpanAt (w.setCell ⟨b, 2 + i * 3, none⟩ (iI x)) b W E (upd r i (x, (r i).2.1, (r i).2.2)) := by
  refine ⟨shape_set h.shape rfl, ?_, ?_, fun j hj => ?_, fun j hj => ?_, fun j hj => ?_⟩
  · rw [World.cell?_setCell_other _ _ _ _ (by simp)]; exact h.win
  · rw [World.cell?_setCell_other _ _ _ _ (by simp <;> omega)]; exact h.ep
  · by_cases e : j = i
    · subst e; simp only [upd, if_pos]; exact World.cell?_setCell_same _ _ _ (h.c0 j hj)
    · rw [World.cell?_setCell_other _ _ _ _ (by simp <;> omega)]; simp only [upd, if_neg e]; exact h.c0 j hj
  · rw [World.cell?_setCell_other _ _ _ _ (by simp <;> omega)]; rw [h.c1 j hj]; simp only [upd]; split <;> simp_all
  · rw [World.cell?_setCell_other _ _ _ _ (by simp <;> omega)]; rw [h.c2 j hj]; simp only [upd]; split <;> simp_all
theorem SpanAt.set1 {w : World} {b i : Nat} {W E : Int} {x : Value} {r : Nat → Int × Value × Value} (h : SpanAt w b W E r) (hx : x.oneCell' = true) (hi : i < 256) : SpanAt (w.setCell ⟨b, 2 + i * 3 + 1, none⟩ x) b W E (upd r i ((r i).1, x, (r i).2.2)) := by
  refine ⟨shape_set h.shape hx, ?_, ?_, fun j hj => ?_, fun j hj => ?_, fun j hj => ?_⟩
  · rw [World.cell?_setCell_other _ _ _ _ (by simp)]; exact h.win
  · rw [World.cell?_setCell_other _ _ _ _ (by simp <;> omega)]; exact h.ep
  · rw [World.cell?_setCell_other _ _ _ _ (by simp <;> omega)]; rw [h.c0 j hj]; simp only [upd]; split <;> simp_all
  · by_cases e : j = i
    · subst e; simp only [upd, if_pos]; exact World.cell?_setCell_same _ _ _ (h.c1 j hj)
    · rw [World.cell?_setCell_other _ _ _ _ (by simp <;> omega)]; simp only [upd, if_neg e]; exact h.c1 j hj
  · rw [World.cell?_setCell_other _ _ _ _ (by simp <;> omega)]; rw [h.c2 j hj]; simp only [upd]; split <;> simp_all
theorem SpanAt.set2 {w : World} {b i : Nat} {W E : Int} {x : Value} {r : Nat → Int × Value × Value} (h : SpanAt w b W E r) (hx : x.oneCell' = true) (hi : i < 256) : SpanAt (w.setCell ⟨b, 2 + i * 3 + 2, none⟩ x) b W E (upd r i ((r i).1, (r i).2.1, x)) := by
  refine ⟨shape_set h.shape hx, ?_, ?_, fun j hj => ?_, fun j hj => ?_, fun j hj => ?_⟩
  · rw [World.cell?_setCell_other _ _ _ _ (by simp)]; exact h.win
  · rw [World.cell?_setCell_other _ _ _ _ (by simp <;> omega)]; exact h.ep
  · rw [World.cell?_setCell_other _ _ _ _ (by simp <;> omega)]; rw [h.c0 j hj]; simp only [upd]; split <;> simp_all
  · rw [World.cell?_setCell_other _ _ _ _ (by simp <;> omega)]; rw [h.c1 j hj]; simp only [upd]; split <;> simp_all
  · by_cases e : j = i
    · subst e; simp only [upd, if_pos]; exact World.cell?_setCell_same _ _ _ (h.c2 j hj)
    · rw [World.cell?_setCell_other _ _ _ _ (by simp <;> omega)]; simp only [upd, if_neg e]; exact h.c2 j hj
theorem ValIs.set {w : World} {FP : Nat → Prop} {b a : Nat} {x v : Value} {o : Option Int} (h : ValIs w FP v o) (hb : ¬ FP b) : ValIs (w.setCell ⟨b, a, none⟩ x) FP v o :=
  h.mono (fun _ h => h) (fun k y hk hy => by rw [World.cell?_setCell_other _ _ _ _ (by simp; intro e; exact absurd (e ▸ hk) hb)]; exact hy)
theorem SpanView.reset {w : World} {FP : Nat → Prop} {b : Nat} {W E e : Int} {view : Int → Option Int × Option Int} (h : SpanView w FP b W E view) (h1 : lowOf W E ≤ e) (h2 : e ≤ E)
    (hne : ∀ r, SpanAt w b W E r → (r (slotOf W e)).1 ≠ e) :
    SpanView (((w.setCell ⟨b, 2 + slotOf W e * 3, none⟩ (iI e)).setCell ⟨b, 2 + slotOf W e * 3 + 1, none⟩ (.pointer none)).setCell ⟨b, 2 + slotOf W e * 3 + 2, none⟩ (.pointer none)) FP b W E view ∧ view e = (none, none) := by
  obtain ⟨r, ha, hr, hv⟩ := h.ring
  have hi := slot_lt (e := e) h.w1 h.w2
  have hn := hne r ha
  have hve : view e = (none, none) := by
    rcases hv e h1 h2 with ⟨a, _⟩ | ⟨_, a⟩
    · exact absurd a hn
    · exact a
  refine ⟨⟨h.w1, h.w2, h.e1, h.e2, h.nb, fun k hk => by simpa using h.fp k hk, _, ((ha.set0 (x := e) hi).set1 (x := .pointer none) rfl hi).set2 (x := .pointer none) rfl hi, ?_, ?_⟩, hve⟩
  · intro i hi'
    have := hr i hi'
    simp only [upd]; split <;> (try split) <;> (try split) <;> simp_all
  · intro e' g1 g2
    by_cases he : e' = e
    · subst he
      left
      simp [upd, hve, ValIs]
    · have hs : slotOf W e' ≠ slotOf W e := fun x => he (slot_inj h.w1 g1 g2 h1 h2 x)
      simp only [upd, if_neg hs]
      rcases hv e' g1 g2 with ⟨a, p, q⟩ | h'
      · exact .inl ⟨a, ((p.set h.nb).set h.nb).set h.nb, ((q.set h.nb).set h.nb).set h.nb⟩
      · exact .inr h'
theorem SpanView.set1 {w : World} {FP : Nat → Prop} {b : Nat} {W E e : Int} {view : Int → Option Int × Option Int} {v : Value} {o : Option Int} (h : SpanView w FP b W E view) (h1 : lowOf W E ≤ e) (h2 : e ≤ E)
    (hc : w.cell? ⟨b, 2 + slotOf W e * 3, none⟩ = some (iI e)) (hv : ValIs w FP v o) :
    SpanView (w.setCell ⟨b, 2 + slotOf W e * 3 + 1, none⟩ v) FP b W E (fun x => if x = e then (o, (view e).2) else view x) := by
  obtain ⟨r, ha, hr, hview⟩ := h.ring
  have hi := slot_lt (e := e) h.w1 h.w2
  have he : (r (slotOf W e)).1 = e := by have := (ha.c0 _ hi).symm.trans hc; simpa using this
  refine ⟨h.w1, h.w2, h.e1, h.e2, h.nb, fun k hk => by simpa using h.fp k hk, _, ha.set1 (x := v) hv.one hi, ?_, ?_⟩
  · intro i hi'
    have := hr i hi'
    simp only [upd]; split <;> simp_all
  · intro e' g1 g2
    by_cases hee : e' = e
    · subst hee
      left
      rcases hview e' g1 g2 with ⟨a, p, q⟩ | ⟨h', _⟩
      · simp only [upd, if_pos]; exact ⟨a, hv.set h.nb, q.set h.nb⟩
      · exact absurd he h'
    · have hs : slotOf W e' ≠ slotOf W e := fun x => hee (slot_inj h.w1 g1 g2 h1 h2 x)
      simp only [upd, if_neg hs, if_neg hee]
      rcases hview e' g1 g2 with ⟨a, p, q⟩ | h'
      · exact .inl ⟨a, p.set h.nb, q.set h.nb⟩
      · exact .inr h'
theorem SpanView.set2 {w : World} {FP : Nat → Prop} {b : Nat} {W E e : Int} {view : Int → Option Int × Option Int} {v : Value} {o : Option Int} (h : SpanView w FP b W E view) (h1 : lowOf W E ≤ e) (h2 : e ≤ E)
    (hc : w.cell? ⟨b, 2 + slotOf W e * 3, none⟩ = some (iI e)) (hv : ValIs w FP v o) :
    SpanView (w.setCell ⟨b, 2 + slotOf W e * 3 + 2, none⟩ v) FP b W E (fun x => if x = e then ((view e).1, o) else view x) := by
  obtain ⟨r, ha, hr, hview⟩ := h.ring
  have hi := slot_lt (e := e) h.w1 h.w2
  have he : (r (slotOf W e)).1 = e := by have := (ha.c0 _ hi).symm.trans hc; simpa using this
  refine ⟨h.w1, h.w2, h.e1, h.e2, h.nb, fun k hk => by simpa using h.fp k hk, _, ha.set2 (x := v) hv.one hi, ?_, ?_⟩
  · intro i hi'
    have := hr i hi'
    simp only [upd]; split <;> simp_all
  · intro e' g1 g2
    by_cases hee : e' = e
    · subst hee
      left
      rcases hview e' g1 g2 with ⟨a, p, q⟩ | ⟨h', _⟩
      · simp only [upd, if_pos]; exact ⟨a, p.set h.nb, hv.set h.nb⟩
      · exact absurd he h'
    · have hs : slotOf W e' ≠ slotOf W e := fun x => hee (slot_inj h.w1 g1 g2 h1 h2 x)
      simp only [upd, if_neg hs, if_neg hee]
      rcases hview e' g1 g2 with ⟨a, p, q⟩ | h'
      · exact .inl ⟨a, p.set h.nb, q.set h.nb⟩
      · exact .inr h'
theorem SpanView.congr {w : World} {FP : Nat → Prop} {b : Nat} {W E : Int} {view view' : Int → Option Int × Option Int} (h : SpanView w FP b W E view) (hv : ∀ e, lowOf W E ≤ e → e ≤ E → view e = view' e) : SpanView w FP b W E view' := by
  obtain ⟨r, ha, hr, hview⟩ := h.ring
  refine ⟨h.w1, h.w2, h.e1, h.e2, h.nb, h.fp, r, ha, hr, fun e g1 g2 => ?_⟩
  rw [← hv e g1 g2]; exact hview e g1 g2
theorem SpanView.here {w : World} {FP : Nat → Prop} {b : Nat} {W E e : Int} {view : Int → Option Int × Option Int} (h : SpanView w FP b W E view) (h1 : lowOf W E ≤ e) (h2 : e ≤ E)
    (hc : w.cell? ⟨b, 2 + slotOf W e * 3, none⟩ = some (iI e)) :
    ∃ mn mx, w.cell? ⟨b, 2 + slotOf W e * 3 + 1, none⟩ = some mn ∧ w.cell? ⟨b, 2 + slotOf W e * 3 + 2, none⟩ = some mx ∧ ValIs w FP mn (view e).1 ∧ ValIs w FP mx (view e).2 := by
  obtain ⟨r, ha, hr, hview⟩ := h.ring
  have hi := slot_lt (e := e) h.w1 h.w2
  have he : (r (slotOf W e)).1 = e := by have := (ha.c0 _ hi).symm.trans hc; simpa using this
  rcases hview e h1 h2 with ⟨a, p, q⟩ | ⟨h', _⟩
  · exact ⟨_, _, ha.c1 _ hi, ha.c2 _ hi, p, q⟩
  · exact absurd he h'
end
section
open Go Go.RowKit Go.Own Go.Shelf
attribute [local go_sem] Oper.semAt_some
theorem span_at_view (b : Nat) (W E e : Int) (w : World) (FP : Nat → Prop) (view : Int → Option Int × Option Int) (h : SpanView w FP b W E view) (h1 : lowOf W E ≤ e) (h2 : e ≤ E) :
  Calls prog 95 #[pT b 0, iI e] w fun v w' => v = .returned (pT b (2 + slotOf W e * 3)) ∧
   SpanView w' FP b W E view ∧ w'.cell? ⟨b, 2 + slotOf W e * 3, none⟩ = some (iI e) ∧ Keeps (One b) w w' := by
 obtain ⟨r, ha, hr, hv⟩ := h.ring
 have w0 := h.w1; have w1 := h.w2; have e0 : 0 ≤ e := by unfold lowOf at h1; omega
 have e1 : e ≤ 4294967296 := by have := h.e2; omega
 have hW : (W == 0) = false := by simp; omega
 have hc0 := ha.win
 have hi2 : 0 ≤ e % W := Int.emod_nonneg _ (by omega)
 have hi3 : e % W < W := Int.emod_lt_of_pos _ (by omega)
 have hi : (e % W).toNat < 256 := by omega
 have hr0 := ha.c0 _ hi
 have hr1 := ha.c1 _ hi
 have hr2 := ha.c2 _ hi
 have hf := ha.unfrozen
 by_cases heq : (r (slotOf W e)).1 = e
 ·have hne : ((r (e % W).toNat).1 != e) = false := by simpa [slotOf] using heq
  have HV := Lib.hid h; have HR := Lib.hid hr; have HQ := Lib.hid heq
  clear h hr hv heq
  go_enter func95, ntmps95
  go_wp2_with fail
  go_quiet ((go_at_call 129; exact Calls.quiet_eq (place_in e W _ w0 w1 e0 e1)))
  go_wp2
  go_ret
  have k := (Keeps.refl (One b) w).drewN nq
  exact ⟨rfl, HV.out.of_keeps ((Keeps.refl Nob w).drewN nq) (fun x => x) (fun _ _ x => x) (fun _ x => x) HV.out.nb HV.out.fp, hr0.trans (congrArg (fun z => some (Value.int .i64 z)) HQ.out), k⟩
 ·have hne : ((r (e % W).toNat).1 != e) = true := by simpa [slotOf] using heq
  have HV := Lib.hid h; have HR := Lib.hid hr; have HQ := Lib.hid heq
  clear h hr hv heq
  go_enter func95, ntmps95
  go_wp2_with fail
  go_quiet ((go_at_call 129; exact Calls.quiet_eq (place_in e W _ w0 w1 e0 e1)))
  go_wp2
  go_ret
  refine ⟨rfl, ?_⟩
  have hd : SpanView (w.drewN nq) FP b W E view := HV.out.of_keeps ((Keeps.refl Nob w).drewN nq) (fun x => x) (fun _ _ x => x) (fun _ x => x) HV.out.nb HV.out.fp
  have hres := hd.reset h1 h2 (fun r' ha' hx => HQ.out (by
   have c := (ha'.c0 _ hi).symm.trans hr0
   simp at c
   unfold slotOf at hx ⊢
   rw [← c]; exact hx))
  refine ⟨hres.1, ?_, ?_⟩
  ·rw [World.cell?_setCell_other _ _ _ _ (by simp [slotOf]), World.cell?_setCell_other _ _ _ _ (by simp [slotOf])]
   exact World.cell?_setCell_same _ _ _ hr0
  ·exact ((((Keeps.refl (One b) w).drewN nq).setOne _).setOne _).setOne _
theorem span_told_any (v : Value) (o : Option Int) (FP : Nat → Prop) (w : World) (h : ValIs w FP v o) :
  Calls prog 150 #[v] w fun e w' => e = .returned (.tuple #[iI (o.getD 0), .bool o.isSome]) ∧ w = w' := by
 cases o with
 | none => obtain rfl : v = .pointer none := h; exact span_told_nil w
 | some n => obtain ⟨k, _, rfl, hc⟩ := h; exact span_told k n w hc
theorem SpanView.cells {w : World} {FP : Nat → Prop} {b : Nat} {W E : Int} {view : Int → Option Int × Option Int} (h : SpanView w FP b W E view) :
  w.cell? ⟨b, 0, none⟩ = some (iI W) ∧ w.cell? ⟨b, 1, none⟩ = some (iI E) ∧ (W == 0) = false ∧ b < w.heap.size ∧ ∀ o, w.frozen? ⟨b, o, none⟩ = false := by
 obtain ⟨r, ha, _⟩ := h.ring
 refine ⟨ha.win, ha.ep, ?_, World.block_lt_of_cell? w _ ha.win, ha.unfrozen⟩
 have := h.w1
 simp; omega
def tellOf (W E e : Int) (o : Option Int) : Int × Bool := if lowOf W E ≤ e ∧ e ≤ E then (o.getD 0, o.isSome) else (0, false)
theorem span_min (b : Nat) (W E e : Int) (w : World) (FP : Nat → Prop) (view : Int → Option Int × Option Int) (h : SpanView w FP b W E view) :
  Calls prog 122 #[pT b 0, iI e] w fun v w' => v = .returned (.tuple #[iI (tellOf W E e (view e).1).1, .bool (tellOf W E e (view e).1).2]) ∧
   SpanView w' FP b W E view ∧ Keeps (One b) w w' := by
 obtain ⟨c0, c1, hW, hb, _⟩ := h.cells
 have w0 := h.w1; have w1 := h.w2; have e0 := h.e1; have e1 := h.e2
 by_cases hin : lowOf W E ≤ e ∧ e ≤ E
 ·have ht : tellOf W E e (view e).1 = ((view e).1.getD 0, (view e).1.isSome) := by simp [tellOf, hin]
  rw [ht]; clear ht
  go_enter func122, ntmps122
  go_wp2_with (go_at_call 149; refine (span_has_in b W E e _ c0 c1 hW w0 w1 e0 e1 (by unfold lowOf at hin; omega) (by omega)).mono ?_; rintro v V1 ⟨rfl, hk1⟩)
  have h1 := h.of_keeps hk1 (fun x => x) (fun _ _ x => x) (fun _ x => x) h.nb (fun j hj => Nat.lt_of_lt_of_le (h.fp j hj) hk1.size)
  go_wp2_with (first
   | (go_at_call 95; refine (span_at_view b W E e _ FP view h1 hin.1 hin.2).mono ?_; rintro v V2 ⟨rfl, hv2, hc2, hk2⟩; obtain ⟨mn, mx, d1, d2, v1, v2⟩ := hv2.here hin.1 hin.2 hc2)
   | (go_at_call 150; refine (span_told_any mn _ FP _ v1).mono ?_; rintro v V3 ⟨rfl, rfl⟩))
  go_ret2
  exact ⟨rfl, hv2, (hk1.mono (fun _ _ x => x.elim)).trans hk2⟩
 ·have ht : tellOf W E e (view e).1 = (0, false) := by simp [tellOf, hin]
  rw [ht]; clear ht
  go_enter func122, ntmps122
  go_wp2_with (go_at_call 149; refine (span_has_out b W E e _ c0 c1 hW w0 w1 e0 e1 (by unfold lowOf at hin; omega)).mono ?_; rintro v V1 ⟨rfl, hk1⟩)
  go_ret2
  exact ⟨rfl, h.of_keeps hk1 (fun x => x) (fun _ _ x => x) (fun _ x => x) h.nb (fun j hj => Nat.lt_of_lt_of_le (h.fp j hj) hk1.size), hk1.mono (fun _ _ x => x.elim)⟩
theorem span_max (b : Nat) (W E e : Int) (w : World) (FP : Nat → Prop) (view : Int → Option Int × Option Int) (h : SpanView w FP b W E view) :
  Calls prog 123 #[pT b 0, iI e] w fun v w' => v = .returned (.tuple #[iI (tellOf W E e (view e).2).1, .bool (tellOf W E e (view e).2).2]) ∧
   SpanView w' FP b W E view ∧ Keeps (One b) w w' := by
 obtain ⟨c0, c1, hW, hb, _⟩ := h.cells
 have w0 := h.w1; have w1 := h.w2; have e0 := h.e1; have e1 := h.e2
 by_cases hin : lowOf W E ≤ e ∧ e ≤ E
 ·have ht : tellOf W E e (view e).2 = ((view e).2.getD 0, (view e).2.isSome) := by simp [tellOf, hin]
  rw [ht]; clear ht
  go_enter func123, ntmps123
  go_wp2_with (go_at_call 149; refine (span_has_in b W E e _ c0 c1 hW w0 w1 e0 e1 (by unfold lowOf at hin; omega) (by omega)).mono ?_; rintro v V1 ⟨rfl, hk1⟩)
  have h1 := h.of_keeps hk1 (fun x => x) (fun _ _ x => x) (fun _ x => x) h.nb (fun j hj => Nat.lt_of_lt_of_le (h.fp j hj) hk1.size)
  go_wp2_with (first
   | (go_at_call 95; refine (span_at_view b W E e _ FP view h1 hin.1 hin.2).mono ?_; rintro v V2 ⟨rfl, hv2, hc2, hk2⟩; obtain ⟨mn, mx, d1, d2, v1, v2⟩ := hv2.here hin.1 hin.2 hc2)
   | (go_at_call 150; refine (span_told_any mx _ FP _ v2).mono ?_; rintro v V3 ⟨rfl, rfl⟩))
  go_ret2
  exact ⟨rfl, hv2, (hk1.mono (fun _ _ x => x.elim)).trans hk2⟩
 ·have ht : tellOf W E e (view e).2 = (0, false) := by simp [tellOf, hin]
  rw [ht]; clear ht
  go_enter func123, ntmps123
  go_wp2_with (go_at_call 149; refine (span_has_out b W E e _ c0 c1 hW w0 w1 e0 e1 (by unfold lowOf at hin; omega)).mono ?_; rintro v V1 ⟨rfl, hk1⟩)
  go_ret2
  exact ⟨rfl, h.of_keeps hk1 (fun x => x) (fun _ _ x => x) (fun _ x => x) h.nb (fun j hj => Nat.lt_of_lt_of_le (h.fp j hj) hk1.size), hk1.mono (fun _ _ x => x.elim)⟩
end
section
open Go Go.RowKit Go.Own Go.Shelf
attribute [local go_sem] Oper.semAt_some
theorem SpanAt.of_turn {w w' : World} {M : Nat → Prop} {B b : Nat} {W E : Int} {r : Nat → Int × Value × Value} (h : SpanAt w b W E r) (k : Turn B M w w') (hb : ¬ M b) : SpanAt w' b W E r := by
 obtain ⟨cs, hc, hn, ho⟩ := h.shape
 exact ⟨⟨cs, k.same _ _ hc hb (.inr rfl), hn, ho⟩, k.cell h.win hb, k.cell h.ep hb, fun i hi => k.cell (h.c0 i hi) hb, fun i hi => k.cell (h.c1 i hi) hb, fun i hi => k.cell (h.c2 i hi) hb⟩
theorem SpanView.of_turn {w w' : World} {M FP : Nat → Prop} {B b : Nat} {W E : Int} {view : Int → Option Int × Option Int} (h : SpanView w FP b W E view) (k : Turn B M w w') (hb : ¬ M b) (hm : ∀ j, FP j → ¬ M j) :
  SpanView w' FP b W E view := by
 obtain ⟨r, ha, hr, hv⟩ := h.ring
 refine ⟨h.w1, h.w2, h.e1, h.e2, h.nb, fun j hj => Nat.lt_of_lt_of_le (h.fp j hj) k.size, r, ha.of_turn k hb, hr, fun e h1 h2 => ?_⟩
 have hc : ∀ (k' : Nat) (x : Value), FP k' → w.cell? ⟨k', 0, none⟩ = some x → w'.cell? ⟨k', 0, none⟩ = some x := fun k' x hk hx => k.cell hx (hm k' hk)
 rcases hv e h1 h2 with ⟨a, p, q⟩ | h'
 ·exact .inl ⟨a, p.mono (fun _ h => h) hc, q.mono (fun _ h => h) hc⟩
 ·exact .inr h'
def optMin (o : Option Int) (t : Int) : Option Int := match o with | none => some t | some m => if t < m then some t else some m
def optMax (o : Option Int) (t : Int) : Option Int := match o with | none => some t | some m => if m < t then some t else some m
def putAt (s t e : Int) (v : Option Int × Option Int) : Option Int × Option Int :=
 if e < s then (optMin v.1 t, v.2) else if s < e ∧ e < t then (v.1, optMax v.2 t) else v
def putErr (W E s t : Int) : Int := if s < 0 then 3 else if t < s then 9 else if t < lowOf W E then 16 else if E < t then 17 else 0
end
section
open Go Go.RowKit Go.Own Go.Shelf
attribute [local go_sem] Oper.semAt_some
theorem SpanView.step {w : World} {FP : Nat → Prop} {b k : Nat} {W E s t : Int} {view : Int → Option Int × Option Int} {v : Int → Option Int × Option Int} (h : SpanView w FP b W E v)
  (hv : ∀ e, lowOf W E ≤ e → e ≤ E → v e = if e < lowOf W E + (k : Int) + 1 then putAt s t e (view e) else view e) :
  SpanView w FP b W E (fun e => if e < lowOf W E + ((k + 1 : Nat) : Int) then putAt s t e (view e) else view e) :=
 h.congr fun e h1 h2 => by rw [hv e h1 h2]; simp only [Int.natCast_add, Int.natCast_one, Int.add_assoc]
theorem put_close {w V W' : World} {FP : Nat → Prop} {b k B Bn : Nat} {W E s t : Int} {view : Int → Option Int × Option Int} (hk' : Keeps (Own.One b) V W') (hbB : b < B) (hb : b < w.heap.size) (hn : Bn ≠ b) (hBV : B ≤ V.heap.size) (hBn : Bn < B)
  (hw : w.heap.size + 3 ≤ B)
  (hsv : SpanView W' FP b W E (fun e => if e < lowOf W E + ((k + 1 : Nat) : Int) then putAt s t e (view e) else view e))
  (a2 : Keeps (Own.One b) w V) (a3 : V.cell? ⟨w.heap.size, 0, none⟩ = some (pT b 0)) (a4 : V.cell? ⟨w.heap.size + 1, 0, none⟩ = some (iI s)) (a5 : V.cell? ⟨w.heap.size + 1 + 1, 0, none⟩ = some (iI t))
  (s1 : V.cell? ⟨Bn, 0, none⟩ = some (pT b 0)) :
  KeepsFrom B V W' ∧ (SpanView W' FP b W E (fun e => if e < lowOf W E + ((k + 1 : Nat) : Int) then putAt s t e (view e) else view e) ∧ Keeps (Own.One b) w W' ∧
   W'.cell? ⟨w.heap.size, 0, none⟩ = some (pT b 0) ∧ W'.cell? ⟨w.heap.size + 1, 0, none⟩ = some (iI s) ∧ W'.cell? ⟨w.heap.size + 1 + 1, 0, none⟩ = some (iI t) ∧ B ≤ W'.heap.size) ∧ AllS Bn b W E k W' := by
 have hs := hk'.size
 have m3 := (hk'.cell (k := w.heap.size) (i := 0) (by omega) (by unfold Own.One; omega)).trans a3
 have m4 := (hk'.cell (k := w.heap.size + 1) (i := 0) (by omega) (by unfold Own.One; omega)).trans a4
 have m5 := (hk'.cell (k := w.heap.size + 1 + 1) (i := 0) (by omega) (by unfold Own.One; omega)).trans a5
 have mb := (hk'.cell (k := Bn) (i := 0) (by omega) (by unfold Own.One; omega)).trans s1
 exact ⟨hk'.from (fun j hj => by unfold Own.One at hj; omega), ⟨hsv, a2.trans hk', m3, m4, m5, by omega⟩, mb, hsv.cells.1, hsv.cells.2.1⟩
theorem SpanView.drewN {w : World} {FP : Nat → Prop} {b : Nat} {W E : Int} {v : Int → Option Int × Option Int} (h : SpanView w FP b W E v) (n : Nat) : SpanView (w.drewN n) FP b W E v :=
 h.of_keeps ((Keeps.refl Nob w).drewN n) (fun x => x) (fun _ _ x => x) (fun _ x => x) h.nb h.fp
theorem view_none {V2 : World} {FP : Nat → Prop} {b k : Nat} {W E s t x : Int} {view : Int → Option Int × Option Int} (h : SpanView V2 FP b W E (fun e => if e < lowOf W E + (k : Int) then putAt s t e (view e) else view e)) (hx : x = lowOf W E + (k : Int))
  (hp : putAt s t x (view x) = view x) (n : Nat) : SpanView (V2.drewN n) FP b W E (fun e => if e < lowOf W E + ((k + 1 : Nat) : Int) then putAt s t e (view e) else view e) := by
 refine (h.drewN n).congr fun e _ _ => ?_
 by_cases he : e = x
 ·subst he; rw [if_neg (by omega), if_pos (by omega), hp]
 ·by_cases h1 : e < lowOf W E + (k : Int)
  ·rw [if_pos h1, if_pos (by omega)]
  ·rw [if_neg h1, if_neg (by omega)]
theorem view_set1 {V2 : World} {FP : Nat → Prop} {b k c : Nat} {W E s t x : Int} {view : Int → Option Int × Option Int} (h : SpanView V2 FP b W E (fun e => if e < lowOf W E + (k : Int) then putAt s t e (view e) else view e)) (hx : x = lowOf W E + (k : Int)) (hxE : x ≤ E)
  (hc : V2.cell? ⟨b, 2 + slotOf W x * 3, none⟩ = some (iI x)) (hfp : FP c) (hcc : V2.cell? ⟨c, 0, none⟩ = some (iI t)) (hp : putAt s t x (view x) = (some t, (view x).2)) (n : Nat) :
  SpanView ((V2.drewN n).setCell ⟨b, 2 + slotOf W x * 3 + 1, none⟩ (pT c 0)) FP b W E (fun e => if e < lowOf W E + ((k + 1 : Nat) : Int) then putAt s t e (view e) else view e) := by
 have hv : ValIs (V2.drewN n) FP (pT c 0) (some t) := ⟨c, hfp, rfl, hcc⟩
 refine ((h.drewN n).set1 (e := x) (by omega) hxE hc hv).congr fun e _ _ => ?_
 by_cases he : e = x
 ·subst he; rw [if_pos rfl, if_neg (by omega), if_pos (by omega), hp]
 ·rw [if_neg he]
  by_cases h1 : e < lowOf W E + (k : Int)
  ·rw [if_pos h1, if_pos (by omega)]
  ·rw [if_neg h1, if_neg (by omega)]
theorem view_set2 {V2 : World} {FP : Nat → Prop} {b k c : Nat} {W E s t x : Int} {view : Int → Option Int × Option Int} (h : SpanView V2 FP b W E (fun e => if e < lowOf W E + (k : Int) then putAt s t e (view e) else view e)) (hx : x = lowOf W E + (k : Int)) (hxE : x ≤ E)
  (hc : V2.cell? ⟨b, 2 + slotOf W x * 3, none⟩ = some (iI x)) (hfp : FP c) (hcc : V2.cell? ⟨c, 0, none⟩ = some (iI t)) (hp : putAt s t x (view x) = ((view x).1, some t)) (n : Nat) :
  SpanView ((V2.drewN n).setCell ⟨b, 2 + slotOf W x * 3 + 2, none⟩ (pT c 0)) FP b W E (fun e => if e < lowOf W E + ((k + 1 : Nat) : Int) then putAt s t e (view e) else view e) := by
 have hv : ValIs (V2.drewN n) FP (pT c 0) (some t) := ⟨c, hfp, rfl, hcc⟩
 refine ((h.drewN n).set2 (e := x) (by omega) hxE hc hv).congr fun e _ _ => ?_
 by_cases he : e = x
 ·subst he; rw [if_pos rfl, if_neg (by omega), if_pos (by omega), hp]
 ·rw [if_neg he]
  by_cases h1 : e < lowOf W E + (k : Int)
  ·rw [if_pos h1, if_pos (by omega)]
  ·rw [if_neg h1, if_neg (by omega)]
theorem span_put_ok (b : Nat) (W E s t : Int) (w : World) (FP : Nat → Prop) (view : Int → Option Int × Option Int) (h : SpanView w FP b W E view) (h1 : ¬ s < 0) (h2 : ¬ t < s) (h3 : ¬ t < lowOf W E) (h4 : ¬ E < t) :
  Calls prog 49 #[pT b 0, iI s, iI t] w fun v w' => v = .returned (iI 0) ∧
   SpanView w' (fun j => FP j ∨ j = w.heap.size + 1 + 1) b W E (fun e => putAt s t e (view e)) ∧ Keeps (One b) w w' := by
 obtain ⟨c0, c1, hW, hb, _⟩ := h.cells
 have w0 := h.w1; have w1 := h.w2; have e0 := h.e1; have e1 := h.e2
 have hk := (((Keeps.refl Nob w).alloc (.cells #[pT b 0] 82)).alloc (.cells #[iI s] 3)).alloc (.cells #[iI t] 3)
 have g0 := (hk.cell (i := 0) hb (fun x => x)).trans c0
 have g1 := (hk.cell (i := 1) hb (fun x => x)).trans c1
 have k0 : (((w.alloc (.cells #[pT b 0] 82)).alloc (.cells #[iI s] 3)).alloc (.cells #[iI t] 3)).cell? ⟨w.heap.size, 0, none⟩ = some (pT b 0) := by simp [go_sem]
 have k1 : (((w.alloc (.cells #[pT b 0] 82)).alloc (.cells #[iI s] 3)).alloc (.cells #[iI t] 3)).cell? ⟨w.heap.size + 1, 0, none⟩ = some (iI s) := by simp [go_sem]
 have k2 : (((w.alloc (.cells #[pT b 0] 82)).alloc (.cells #[iI s] 3)).alloc (.cells #[iI t] 3)).cell? ⟨w.heap.size + 1 + 1, 0, none⟩ = some (iI t) := by simp [go_sem]
 have hs1 : w.heap.size + 3 ≤ (((w.alloc (.cells #[pT b 0] 82)).alloc (.cells #[iI s] 3)).alloc (.cells #[iI t] 3)).heap.size := by simp
 have H := Lib.hid h; clear h
 have HL : Hid (lowOf W E = max 0 (E - W + 1)) := rfl
 unfold lowOf at h3
 refine calls_marks 3 func49 rfl ?_
 simp only [ntmps49, List.size_toArray, List.length_cons, List.length_nil, Nat.reduceAdd, Nat.reduceSub, Array.replicate_succ, Array.replicate_zero, List.push_toArray, List.append_toArray, List.nil_append, List.cons_append]
 go_wp2_with (go_at_call 92; refine (span_none b W _ g0 hW).mono ?_; rintro e w' ⟨rfl, rfl⟩)
 generalize ((w.alloc (.cells #[pT b 0] 82)).alloc (.cells #[iI s] 3)).alloc (.cells #[iI t] 3) = W1 at *
 go_quiet ((go_at_call 93; exact Calls.quiet_drew (span_low b W E _ g0 g1 hW w0 w1 e0 e1)))
 revert nq; intro n1
 go_wp2
 go_quiet (fail)
 go_wp2_with (go_at_call 94; refine (span_all b _).mono ?_; rintro e w' ⟨rfl, rfl⟩)
 have hk2 : Keeps Nob W1 ((W1.drewN (n1 + nq)).alloc (.cells #[pT b 0] 82)) := ((Keeps.refl _ _).drewN _).alloc _
 have k5 : ((W1.drewN (n1 + nq)).alloc (.cells #[pT b 0] 82)).cell? ⟨W1.heap.size, 0, none⟩ = some (pT b 0) := (World.cell?_alloc_at _ _ _ _ rfl).trans rfl
 have ks : W1.heap.size + 1 ≤ ((W1.drewN (n1 + nq)).alloc (.cells #[pT b 0] 82)).heap.size := by simp [World.drewN]
 generalize (W1.drewN (n1 + nq)).alloc (.cells #[pT b 0] 82) = W2 at *
 have q0 := (hk2.cell (i := 0) (by omega) (fun x => x)).trans g0
 have q1 := (hk2.cell (i := 1) (by omega) (fun x => x)).trans g1
 have l0 := (hk2.cell (i := 0) (by omega) (fun x => x)).trans k0
 have l1 := (hk2.cell (i := 0) (by omega) (fun x => x)).trans k1
 have l2 := (hk2.cell (i := 0) (by omega) (fun x => x)).trans k2
 have hk3 : Keeps Nob w W2 := hk.trans hk2
 have H2 : SpanView W2 (fun j => FP j ∨ j = w.heap.size + 1 + 1) b W E view := H.out.of_keeps hk3 (fun x => x) (fun _ _ x => x) (fun _ x => .inl x) (fun x => x.elim H.out.nb (by omega))
  (fun j hj => hj.elim (fun x => by have := H.out.fp j x; omega) (by omega))
 clear hk hk2 g0 g1 k0 k1 k2
 refine wp_range1 3 (gf := 128) (lb := #[pT W1.heap.size 0]) rfl (enters_of func128 (by kernel_rfl) rfl) (encs := fun x : Int => #[iI x]) (fun _ => rfl)
  (Mi := Nob) (fun _ x => x.elim) (all1_seq 5 (by omega) W1.heap.size b W E hW w0 w1 e0 e1)
  (fun k A B ⟨a1, a2, a3⟩ t => ⟨t.cell a1 (fun x => x), t.cell a2 (fun x => x), t.cell a3 (fun x => x)⟩) ⟨k5, q0, q1⟩
  (fun k V => SpanView V (fun j => FP j ∨ j = w.heap.size + 1 + 1) b W E (fun e => if e < lowOf W E + (k : Int) then putAt s t e (view e) else view e) ∧ Keeps (One b) w V ∧
   V.cell? ⟨w.heap.size, 0, none⟩ = some (pT b 0) ∧ V.cell? ⟨w.heap.size + 1, 0, none⟩ = some (iI s) ∧ V.cell? ⟨w.heap.size + 1 + 1, 0, none⟩ = some (iI t) ∧ W2.heap.size ≤ V.heap.size)
  (fun c V => False)
  ?hI (fun _ _ _ x _ => x) ?h0 ?f ?assign ?body ?done ?stop
 case assign =>
  intro l k x V K hx hi hs hK
  gi_wp2
  exact hK
 case h0 =>
  exact ⟨H2.congr fun e a1 a2 => by rw [if_neg (by omega)], hk3.mono (fun _ _ x => x.elim), l0, l1, l2, Nat.le_refl _⟩
 case hI =>
  rintro k A B ⟨a1, a2, a3, a4, a5, a6⟩ t
  exact ⟨a1.of_turn t (fun x => x) (fun _ _ x => x), t.keepsN a2 (by omega), t.cell a3 (fun x => x), t.cell a4 (fun x => x), t.cell a5 (fun x => x), Nat.le_trans a6 t.size⟩
 case body =>
  rintro l k x V hl hr hx ⟨a1, a2, a3, a4, a5, a6⟩ ⟨s1, s2, s3⟩
  have hxk := epochs_mem _ _ _ _ hx
  have x1 : lowOf W E ≤ x := by unfold lowOf; omega
  have x2 : x ≤ E := hxk.2
  have HX : Hid (x = lowOf W E + (k : Int)) := hxk.1
  have A1 := Lib.hid a1
  clear hxk a1 hx H2 q0 q1 l0 l1 l2 k5
  gi_wp2_with (refine ⟨trivial, ?_⟩; gi_at_call 95; refine (CallsIn.inRound l (callsIn_wide.2 (span_at_view b W E x _ _ _ A1.out x1 x2))).mono ?_; rintro v V2 ⟨rfl, hv2, hc2, hkk⟩)
  have hf2 := hv2.cells
  obtain ⟨mn, mx, d1, d2, v1, v2⟩ := hv2.here x1 x2 hc2
  have hlen := hkk.size
  have hbV : b < V.heap.size := by omega
  have m3 := (hkk.cell (k := w.heap.size) (i := 0) (by omega) (by unfold Own.One; omega)).trans a3
  have m4 := (hkk.cell (k := w.heap.size + 1) (i := 0) (by omega) (by unfold Own.One; omega)).trans a4
  have m5 := (hkk.cell (k := w.heap.size + 1 + 1) (i := 0) (by omega) (by unfold Own.One; omega)).trans a5
  have mb := (hkk.cell (k := W1.heap.size) (i := 0) (by omega) (by unfold Own.One; omega)).trans s1
  obtain ⟨y0, y1, _, _, yf⟩ := hf2
  have hold : (if x < lowOf W E + (k : Int) then putAt s t x (view x) else view x) = view x := by rw [if_neg (by have := HX.out; omega)]
  rw [hold] at v1 v2
  have HV2 := Lib.hid hv2
  clear hv2 hold
  by_cases c1 : x < s
  ·cases hvw : (view x).1 with
   | none =>
    rw [hvw] at v1
    obtain rfl : mn = .pointer none := v1
    have HP : Hid (putAt s t x (view x) = (some t, (view x).2)) := by unfold Hid; simp [putAt, c1, hvw, optMin]
    clear hvw
    gi_wp2
    refine round_quiet (by kernel_rfl) (by kernel_rfl) (by kernel_rfl) ?_
    repeat (go_big_quiet_step (fail))
    refine wpQuiet_nil ?_
    intro _ hw'
    obtain ⟨nq, hw''⟩ := hw'
    subst hw''
    revert nq; intro n2
    gi_wp2
    exact put_close (((hkk.drewN _).setOne _)) (by omega) hb (by omega) (by omega) (by omega) (by omega) (view_set1 HV2.out HX.out x2 hc2 (.inr rfl) m5 HP.out _) a2 a3 a4 a5 s1
   | some m =>
    rw [hvw] at v1
    obtain ⟨km, hkm, rfl, hcm⟩ := v1
    by_cases c2 : t < m
    ·have HP : Hid (putAt s t x (view x) = (some t, (view x).2)) := by unfold Hid; simp [putAt, c1, hvw, optMin, c2]
     clear hvw
     gi_wp2
     refine round_quiet (by kernel_rfl) (by kernel_rfl) (by kernel_rfl) ?_
     repeat (go_big_quiet_step (fail))
     refine wpQuiet_nil ?_
     intro _ hw'
     obtain ⟨nq, hw''⟩ := hw'
     subst hw''
     revert nq; intro n2
     gi_wp2
     exact put_close (((hkk.drewN _).setOne _)) (by omega) hb (by omega) (by omega) (by omega) (by omega) (view_set1 HV2.out HX.out x2 hc2 (.inr rfl) m5 HP.out _) a2 a3 a4 a5 s1
    ·have c3 : ¬ s < x := by omega
     have d3 : decide (s < x) = false := by simpa using c3
     have HP : Hid (putAt s t x (view x) = view x) := by unfold Hid; simp only [putAt, c1, hvw, optMin, c2, if_true, if_false]; rw [← hvw]
     clear hvw
     gi_wp2
     refine round_quiet (by kernel_rfl) (by kernel_rfl) (by kernel_rfl) ?_
     repeat (go_big_quiet_step (fail))
     refine wpQuiet_nil ?_
     intro _ hw'
     obtain ⟨nq, hw''⟩ := hw'
     subst hw''
     revert nq; intro n2
     gi_wp2
     refine round_quiet (by kernel_rfl) (by kernel_rfl) (by kernel_rfl) ?_
     repeat (go_big_quiet_step (fail))
     refine wpQuiet_nil ?_
     intro _ hw'
     obtain ⟨nq, hw''⟩ := hw'
     subst hw''
     revert nq; intro n3
     gi_wp2
     try rw [World.drewN_drewN]
     exact put_close ((hkk.drewN _)) (by omega) hb (by omega) (by omega) (by omega) (by omega) (view_none HV2.out HX.out HP.out _) a2 a3 a4 a5 s1
  ·have e1 : decide (x < s) = false := by simpa using c1
   by_cases c3 : s < x
   ·by_cases c4 : x < t
    ·cases hvw : (view x).2 with
     | none =>
      rw [hvw] at v2
      obtain rfl : mx = .pointer none := v2
      have HP : Hid (putAt s t x (view x) = ((view x).1, some t)) := by unfold Hid; simp [putAt, c1, c3, c4, hvw, optMax]
      clear hvw
      gi_wp2
      refine round_quiet (by kernel_rfl) (by kernel_rfl) (by kernel_rfl) ?_
      repeat (go_big_quiet_step (fail))
      refine wpQuiet_nil ?_
      intro _ hw'
      obtain ⟨nq, hw''⟩ := hw'
      subst hw''
      revert nq; intro n2
      gi_wp2
      refine round_quiet (by kernel_rfl) (by kernel_rfl) (by kernel_rfl) ?_
      repeat (go_big_quiet_step (fail))
      refine wpQuiet_nil ?_
      intro _ hw'
      obtain ⟨nq, hw''⟩ := hw'
      subst hw''
      revert nq; intro n3
      gi_wp2
      try rw [World.drewN_drewN]
      exact put_close (((hkk.drewN _).setOne _)) (by omega) hb (by omega) (by omega) (by omega) (by omega) (view_set2 HV2.out HX.out x2 hc2 (.inr rfl) m5 HP.out _) a2 a3 a4 a5 s1
     | some m =>
      rw [hvw] at v2
      obtain ⟨km, hkm, rfl, hcm⟩ := v2
      by_cases c2 : m < t
      ·have HP : Hid (putAt s t x (view x) = ((view x).1, some t)) := by unfold Hid; simp [putAt, c1, c3, c4, hvw, optMax, c2]
       clear hvw
       gi_wp2
       refine round_quiet (by kernel_rfl) (by kernel_rfl) (by kernel_rfl) ?_
       repeat (go_big_quiet_step (fail))
       refine wpQuiet_nil ?_
       intro _ hw'
       obtain ⟨nq, hw''⟩ := hw'
       subst hw''
       revert nq; intro n2
       gi_wp2
       refine round_quiet (by kernel_rfl) (by kernel_rfl) (by kernel_rfl) ?_
       repeat (go_big_quiet_step (fail))
       refine wpQuiet_nil ?_
       intro _ hw'
       obtain ⟨nq, hw''⟩ := hw'
       subst hw''
       revert nq; intro n3
       gi_wp2
       try rw [World.drewN_drewN]
       exact put_close (((hkk.drewN _).setOne _)) (by omega) hb (by omega) (by omega) (by omega) (by omega) (view_set2 HV2.out HX.out x2 hc2 (.inr rfl) m5 HP.out _) a2 a3 a4 a5 s1
      ·have HP : Hid (putAt s t x (view x) = view x) := by unfold Hid; simp only [putAt, c1, c3, c4, hvw, optMax, c2, if_true, if_false, and_self]; rw [← hvw]
       clear hvw
       gi_wp2
       refine round_quiet (by kernel_rfl) (by kernel_rfl) (by kernel_rfl) ?_
       repeat (go_big_quiet_step (fail))
       refine wpQuiet_nil ?_
       intro _ hw'
       obtain ⟨nq, hw''⟩ := hw'
       subst hw''
       revert nq; intro n2
       gi_wp2
       refine round_quiet (by kernel_rfl) (by kernel_rfl) (by kernel_rfl) ?_
       repeat (go_big_quiet_step (fail))
       refine wpQuiet_nil ?_
       intro _ hw'
       obtain ⟨nq, hw''⟩ := hw'
       subst hw''
       revert nq; intro n3
       gi_wp2
       try rw [World.drewN_drewN]
       exact put_close ((hkk.drewN _)) (by omega) hb (by omega) (by omega) (by omega) (by omega) (view_none HV2.out HX.out HP.out _) a2 a3 a4 a5 s1
    ·have e4 : decide (x < t) = false := by simpa using c4
     have HP : Hid (putAt s t x (view x) = view x) := by unfold Hid; simp [putAt, c1, c3, c4]
     gi_wp2
     refine round_quiet (by kernel_rfl) (by kernel_rfl) (by kernel_rfl) ?_
     repeat (go_big_quiet_step (fail))
     refine wpQuiet_nil ?_
     intro _ hw'
     obtain ⟨nq, hw''⟩ := hw'
     subst hw''
     revert nq; intro n2
     gi_wp2
     refine round_quiet (by kernel_rfl) (by kernel_rfl) (by kernel_rfl) ?_
     repeat (go_big_quiet_step (fail))
     refine wpQuiet_nil ?_
     intro _ hw'
     obtain ⟨nq, hw''⟩ := hw'
     subst hw''
     revert nq; intro n3
     gi_wp2
     try rw [World.drewN_drewN]
     exact put_close ((hkk.drewN _)) (by omega) hb (by omega) (by omega) (by omega) (by omega) (view_none HV2.out HX.out HP.out _) a2 a3 a4 a5 s1
   ·have e3 : decide (s < x) = false := by simpa using c3
    have HP : Hid (putAt s t x (view x) = view x) := by unfold Hid; simp [putAt, c1, c3]
    gi_wp2
    refine round_quiet (by kernel_rfl) (by kernel_rfl) (by kernel_rfl) ?_
    repeat (go_big_quiet_step (fail))
    refine wpQuiet_nil ?_
    intro _ hw'
    obtain ⟨nq, hw''⟩ := hw'
    subst hw''
    revert nq; intro n2
    gi_wp2
    refine round_quiet (by kernel_rfl) (by kernel_rfl) (by kernel_rfl) ?_
    repeat (go_big_quiet_step (fail))
    refine wpQuiet_nil ?_
    intro _ hw'
    obtain ⟨nq, hw''⟩ := hw'
    subst hw''
    revert nq; intro n3
    gi_wp2
    try rw [World.drewN_drewN]
    exact put_close ((hkk.drewN _)) (by omega) hb (by omega) (by omega) (by omega) (by omega) (view_none HV2.out HX.out HP.out _) a2 a3 a4 a5 s1
 case done =>
  rintro D V hD ⟨a1, a2, _⟩ hK
  go_wp2
  have ht : Turn W2.heap.size Nob V (V.putObj D (.deferred none)) := Turn.put _ _ _ _ hD hK rfl
  refine marks_ret hK (v := iI 0) ?_ ⟨rfl, ?_, ht.keepsN a2 (by omega)⟩
  ·simp [results, Tryz.results49, go_sem]
  ·refine (a1.of_turn ht (fun x => x) (fun _ _ x => x)).congr fun e p1 p2 => ?_
   rw [if_pos (by rw [epochs_len]; unfold lowOf at p1 ⊢; omega)]
 case stop =>
  rintro D c V hD x
  exact x.elim
end
section
open Go Go.RowKit Go.Own Go.Shelf
theorem span_new_view (n : Int) (w : World) (h1 : 1 ≤ n) (h2 : n ≤ 256) :
  Calls prog 90 #[iI n] w fun e w' => e = .returned (.tuple #[pT w.heap.size 0, iI 0]) ∧
   SpanView w' Nob w.heap.size n 0 (fun _ => (none, none)) ∧ Keeps Nob w w' ∧ w'.heap.size = w.heap.size + 1 := by
 refine (span_new n w h1 h2).mono ?_
 rintro e w' ⟨rfl, rfl⟩
 refine ⟨rfl, ⟨h1, h2, by omega, by omega, fun x => x, fun k hk => hk.elim, fun _ => (0, .pointer none, .pointer none), ⟨⟨_, World.alloc_heap_new w _, spanCells_size _, spanCells_one _ rfl⟩, ?_, ?_, fun i hi => ?_, fun i hi => ?_, fun i hi => ?_⟩, fun _ _ => by simp, fun e a1 a2 => ?_⟩, (Keeps.refl _ _).alloc _, by simp⟩
 ·rw [World.cell?_alloc_at _ _ _ _ rfl, spanCells_get _ _ (by omega)]; rfl
 ·rw [World.cell?_alloc_at _ _ _ _ rfl, spanCells_get _ _ (by omega)]; rfl
 ·rw [World.cell?_alloc_at _ _ _ _ rfl, spanCells_get _ _ (by omega)]
  unfold spanCell; rw [if_neg (by omega), if_neg (by omega), if_pos (by omega)]
 ·rw [World.cell?_alloc_at _ _ _ _ rfl, spanCells_get _ _ (by omega)]
  unfold spanCell; rw [if_neg (by omega), if_neg (by omega), if_neg (by omega)]
 ·rw [World.cell?_alloc_at _ _ _ _ rfl, spanCells_get _ _ (by omega)]
  unfold spanCell; rw [if_neg (by omega), if_neg (by omega), if_neg (by omega)]
 ·have he : e = 0 := by unfold lowOf at a1; omega
  subst he
  exact .inl ⟨rfl, rfl, rfl⟩
def moveErr (E e : Int) : Int := if e < 0 ∨ 4294967296 < e then 3 else if e < E then 9 else 0
theorem span_move (b : Nat) (W E e : Int) (w : World) (FP : Nat → Prop) (view : Int → Option Int × Option Int) (h : SpanView w FP b W E view) (hv : ∀ x, E < x → view x = (none, none)) :
  Calls prog 76 #[pT b 0, iI e] w fun v w' => v = .returned (iI (moveErr E e)) ∧
   SpanView w' FP b W (if moveErr E e = 0 then e else E) view ∧ Keeps (One b) w w' := by
 obtain ⟨c0, c1, hW, hb, hf⟩ := h.cells
 have w0 := h.w1; have w1 := h.w2; have e0 := h.e1; have e1 := h.e2
 have H := Lib.hid h; clear h
 have HV := Lib.hid hv; clear hv
 by_cases h1 : e < 0
 ·have hm : moveErr E e = 3 := by simp [moveErr, h1]
  rw [hm]; clear hm
  go_enter func76, ntmps76
  go_wp2_with (go_at_call 92; refine (span_none b W _ c0 hW).mono ?_; rintro e w' ⟨rfl, rfl⟩)
  go_ret
  exact ⟨rfl, H.out, Keeps.refl _ _⟩
 by_cases h2 : 4294967296 < e
 ·have hm : moveErr E e = 3 := by simp [moveErr, h2]
  rw [hm]; clear hm
  go_enter func76, ntmps76
  go_wp2_with (go_at_call 92; refine (span_none b W _ c0 hW).mono ?_; rintro e w' ⟨rfl, rfl⟩)
  go_ret
  exact ⟨rfl, H.out, Keeps.refl _ _⟩
 by_cases h3 : e < E
 ·have hm : moveErr E e = 9 := by simp [moveErr, h1, h2, h3]
  rw [hm]; clear hm
  go_enter func76, ntmps76
  go_wp2_with (go_at_call 92; refine (span_none b W _ c0 hW).mono ?_; rintro e w' ⟨rfl, rfl⟩)
  go_ret
  exact ⟨rfl, H.out, Keeps.refl _ _⟩
 ·have hm : moveErr E e = 0 := by simp [moveErr, h1, h2, h3]
  rw [hm, if_pos rfl]; clear hm
  go_enter func76, ntmps76
  go_wp2_with (go_at_call 92; refine (span_none b W _ c0 hW).mono ?_; rintro e w' ⟨rfl, rfl⟩)
  go_ret
  refine ⟨rfl, ?_, (Keeps.refl _ _).setOne _⟩
  have h := H.out
  obtain ⟨r, ha, hr, hview⟩ := h.ring
  refine ⟨w0, w1, by omega, by omega, h.nb, fun k hk => by simpa using h.fp k hk, r, ⟨shape_set ha.shape rfl, ?_, ?_, fun i hi => ?_, fun i hi => ?_, fun i hi => ?_⟩, fun i hi => by have := hr i hi; omega, fun x a1 a2 => ?_⟩
  ·rw [World.cell?_setCell_other _ _ _ _ (by simp)]; exact c0
  ·exact World.cell?_setCell_same _ _ _ c1
  ·rw [World.cell?_setCell_other _ _ _ _ (by simp <;> omega)]; exact ha.c0 i hi
  ·rw [World.cell?_setCell_other _ _ _ _ (by simp <;> omega)]; exact ha.c1 i hi
  ·rw [World.cell?_setCell_other _ _ _ _ (by simp <;> omega)]; exact ha.c2 i hi
  ·by_cases hx : x ≤ E
   ·rcases hview x (by unfold lowOf at a1 ⊢; omega) hx with ⟨a, p, q⟩ | h'
    ·exact .inl ⟨a, p.set h.nb, q.set h.nb⟩
    ·exact .inr h'
   ·exact .inr ⟨fun heq => by have := hr _ (slot_lt (e := x) w0 w1); omega, HV.out x (by omega)⟩
def clashOf (W E s t : Int) (view : Int → Option Int × Option Int) : Int × Int :=
 if (tellOf W E s (view s).1).2 = true ∧ (tellOf W E s (view s).1).1 < t then (3, (tellOf W E s (view s).1).1)
 else if (tellOf W E s (view s).2).2 = true ∧ t < (tellOf W E s (view s).2).1 then (4, (tellOf W E s (view s).2).1) else (0, 0)
theorem span_clash (b : Nat) (W E s t : Int) (w : World) (FP : Nat → Prop) (view : Int → Option Int × Option Int) (h : SpanView w FP b W E view) :
  Calls prog 89 #[pT b 0, iI s, iI t] w fun v w' => v = .returned (.tuple #[iI (clashOf W E s t view).1, iI (clashOf W E s t view).2]) ∧
   SpanView w' FP b W E view ∧ Keeps (One b) w w' := by
 obtain ⟨b1, hb1⟩ : ∃ x, x = (tellOf W E s (view s).1).2 := ⟨_, rfl⟩
 obtain ⟨n1, hn1⟩ : ∃ x, x = (tellOf W E s (view s).1).1 := ⟨_, rfl⟩
 obtain ⟨b2, hb2⟩ : ∃ x, x = (tellOf W E s (view s).2).2 := ⟨_, rfl⟩
 obtain ⟨n2, hn2⟩ : ∃ x, x = (tellOf W E s (view s).2).1 := ⟨_, rfl⟩
 have hmin := fun V (hV : SpanView V FP b W E view) => span_min b W E s V FP view hV
 have hmax := fun V (hV : SpanView V FP b W E view) => span_max b W E s V FP view hV
 rw [← hb1, ← hn1] at hmin
 rw [← hb2, ← hn2] at hmax
 have hc : clashOf W E s t view = if b1 = true ∧ n1 < t then (3, n1) else if b2 = true ∧ t < n2 then (4, n2) else (0, 0) := by rw [hb1, hn1, hb2, hn2]; rfl
 rw [hc]
 clear hb1 hb2 hn1 hn2 hc
 have HM := Lib.hid hmin; have HX := Lib.hid hmax
 clear hmin hmax
 cases b1 <;> cases b2 <;> by_cases c1 : n1 < t <;> by_cases c2 : t < n2 <;> simp only [c1, c2, true_and, false_and, if_true, if_false, Bool.false_eq_true, and_true, and_false] <;>
 ·go_enter func89, ntmps89
  go_wp2_with (first
   | (go_at_call 122; refine (HM.out _ h).mono ?_; rintro v V1 ⟨rfl, hv1, hk1⟩)
   | (go_at_call 123; refine (HX.out _ hv1).mono ?_; rintro v V2 ⟨rfl, hv2, hk2⟩))
  go_ret2
  first
   | exact ⟨rfl, hv2, hk1.trans hk2⟩
   | exact ⟨rfl, hv1, hk1⟩
theorem span_zero (w : World) : (zeroValue 161).run prog w = .ok (.agg (spanCells (iI 0))) w := by kernel_rfl
theorem span_info : (prog.info? 161).map (·.size) = some 770 := by kernel_rfl
theorem span_copy (b : Nat) (W E : Int) (w : World) (FP : Nat → Prop) (view : Int → Option Int × Option Int) (h : SpanView w FP b W E view) :
  Calls prog 70 #[pT b 0] w fun v w' => v = .returned (pT w.heap.size 0) ∧
   SpanView w' FP w.heap.size W E view ∧ SpanView w' FP b W E view ∧ Keeps Nob w w' ∧ w.heap.size < w'.heap.size := by
 obtain ⟨c0, c1, hW, hb, hf⟩ := h.cells
 obtain ⟨r, ha, hr, hv⟩ := h.ring
 obtain ⟨cs, hcs, hsz, hone⟩ := ha.shape
 have H := Lib.hid h; clear h
 have HR := Lib.hid hr; have HV := Lib.hid hv; clear hr hv
 have HS := Lib.hid hsz; clear hsz
 have HO := Lib.hid hone; clear hone
 go_enter func70, ntmps70
 go_wp2_with (first
  | (go_at_call 92; refine (span_none b W _ c0 hW).mono ?_; rintro e w' ⟨rfl, rfl⟩)
  | (refine wpList_load_row rfl 161 _ rfl b rfl 161 cs (0, 0) _ hcs underlying161 rfl (by rw [HS.out]; exact span_info) ?_)
  | (refine own_alloc rfl 161 rfl (span_zero _) ?_)
  | (refine wpList_store_row rfl 161 _ _ rfl w.heap.size cs rfl rfl 161 _ (World.alloc_heap_new w _) (by rw [HS.out]; exact span_info) (by rw [HS.out]; exact spanCells_size _) HO.out ?_))
 go_ret
 have hk : Keeps Nob w ((w.alloc (.cells (spanCells (iI 0)) 161)).setRow w.heap.size cs) := ((Keeps.refl Nob w).alloc _).setRow (fun x => absurd x (by omega)) cs
 have hh := setRow_heap _ _ _ cs _ _ (World.alloc_heap_new w (.cells (spanCells (iI 0)) 161))
 have hcell : ∀ o, ((w.alloc (.cells (spanCells (iI 0)) 161)).setRow w.heap.size cs).cell? ⟨w.heap.size, o, none⟩ = w.cell? ⟨b, o, none⟩ := fun o => by
  simp only [World.cell?, hh, hcs]
 have hsz : w.heap.size < ((w.alloc (.cells (spanCells (iI 0)) 161)).setRow w.heap.size cs).heap.size := by simp
 generalize (w.alloc (.cells (spanCells (iI 0)) 161)).setRow w.heap.size cs = W1 at *
 have h := H.out
 refine ⟨rfl, ⟨h.w1, h.w2, h.e1, h.e2, fun x => by have := h.fp _ x; omega, fun k hk' => by have := h.fp _ hk'; omega, r,
  ⟨⟨cs, hh, HS.out, HO.out⟩, (hcell _).trans ha.win, (hcell _).trans ha.ep, fun i hi => (hcell _).trans (ha.c0 i hi), fun i hi => (hcell _).trans (ha.c1 i hi), fun i hi => (hcell _).trans (ha.c2 i hi)⟩, HR.out, fun e a1 a2 => ?_⟩,
  h.of_keeps hk (fun x => x) (fun _ _ x => x) (fun _ x => x) h.nb (fun j hj => by have := h.fp _ hj; omega), hk, hsz⟩
 have hc : ∀ (k' : Nat) (x : Value), FP k' → w.cell? ⟨k', 0, none⟩ = some x → W1.cell? ⟨k', 0, none⟩ = some x := fun k' x hk' hx => (hk.cell (h.fp k' hk') (fun x => x)).trans hx
 rcases HV.out e a1 a2 with ⟨a, p, q⟩ | h'
 ·exact .inl ⟨a, p.mono (fun _ h => h) hc, q.mono (fun _ h => h) hc⟩
 ·exact .inr h'
end
section
open Go Go.RowKit Go.Own
def viewOf (L : List (Int × Int)) (e : Int) : Option Int × Option Int := L.foldl (fun p v => putAt v.1 v.2 e p) (none, none)
theorem viewOf_snoc (L : List (Int × Int)) (s t e : Int) : viewOf (L ++ [(s, t)]) e = putAt s t e (viewOf L e) := by simp [viewOf, List.foldl_append]
def MinOf (o : Option Int) (S : Int → Prop) : Prop := match o with | none => ∀ t, ¬ S t | some m => S m ∧ ∀ t, S t → m ≤ t
def MaxOf (o : Option Int) (S : Int → Prop) : Prop := match o with | none => ∀ t, ¬ S t | some m => S m ∧ ∀ t, S t → t ≤ m
theorem MinOf.eq {o o' : Option Int} {S S' : Int → Prop} (h : MinOf o S) (h' : MinOf o' S') (hs : ∀ t, S t ↔ S' t) : o = o' := by
  cases o with
  | none =>
    cases o' with
    | none => rfl
    | some m => exact absurd ((hs m).2 h'.1) (h m)
  | some m =>
    cases o' with
    | none => exact absurd ((hs m).1 h.1) (h' m)
    | some m' => have a := h.2 m' ((hs m').2 h'.1); have b := h'.2 m ((hs m).1 h.1); rw [show m = m' by omega]
theorem MaxOf.eq {o o' : Option Int} {S S' : Int → Prop} (h : MaxOf o S) (h' : MaxOf o' S') (hs : ∀ t, S t ↔ S' t) : o = o' := by
  cases o with
  | none =>
    cases o' with
    | none => rfl
    | some m => exact absurd ((hs m).2 h'.1) (h m)
  | some m =>
    cases o' with
    | none => exact absurd ((hs m).1 h.1) (h' m)
    | some m' => have a := h.2 m' ((hs m').2 h'.1); have b := h'.2 m ((hs m).1 h.1); rw [show m = m' by omega]
theorem MinOf.add {o : Option Int} {S : Int → Prop} (h : MinOf o S) (t : Int) : MinOf (optMin o t) (fun x => S x ∨ x = t) := by
  cases o with
  | none => exact ⟨.inr rfl, fun x hx => hx.elim (fun y => absurd y (h x)) (fun y => by omega)⟩
  | some m =>
    unfold optMin
    by_cases c : t < m
    · simp only [c, if_true]; exact ⟨.inr rfl, fun x hx => hx.elim (fun y => by have := h.2 x y; omega) (fun y => by omega)⟩
    · simp only [c, if_false]; exact ⟨.inl h.1, fun x hx => hx.elim (fun y => h.2 x y) (fun y => by omega)⟩
theorem MaxOf.add {o : Option Int} {S : Int → Prop} (h : MaxOf o S) (t : Int) : MaxOf (optMax o t) (fun x => S x ∨ x = t) := by
  cases o with
  | none => exact ⟨.inr rfl, fun x hx => hx.elim (fun y => absurd y (h x)) (fun y => by omega)⟩
  | some m =>
    unfold optMax
    by_cases c : m < t
    · simp only [c, if_true]; exact ⟨.inr rfl, fun x hx => hx.elim (fun y => by have := h.2 x y; omega) (fun y => by omega)⟩
    · simp only [c, if_false]; exact ⟨.inl h.1, fun x hx => hx.elim (fun y => h.2 x y) (fun y => by omega)⟩
theorem MinOf.to {o : Option Int} {S S' : Int → Prop} (h : MinOf o S) (hs : ∀ t, S t ↔ S' t) : MinOf o S' := by
  have : S = S' := funext fun t => propext (hs t)
  rw [← this]; exact h
theorem MaxOf.to {o : Option Int} {S S' : Int → Prop} (h : MaxOf o S) (hs : ∀ t, S t ↔ S' t) : MaxOf o S' := by
  have : S = S' := funext fun t => propext (hs t)
  rw [← this]; exact h
theorem view_fold (e : Int) : ∀ (L : List (Int × Int)) (p : Option Int × Option Int) (S T : Int → Prop), MinOf p.1 S → MaxOf p.2 T →
    MinOf (L.foldl (fun p v => putAt v.1 v.2 e p) p).1 (fun t => S t ∨ ∃ v ∈ L, e < v.1 ∧ v.2 = t) ∧ MaxOf (L.foldl (fun p v => putAt v.1 v.2 e p) p).2 (fun t => T t ∨ ∃ v ∈ L, v.1 < e ∧ e < v.2 ∧ v.2 = t)
  | [], p, S, T, h1, h2 => ⟨h1.to fun t => by simp, h2.to fun t => by simp⟩
  | v :: L, p, S, T, h1, h2 => by
    rw [List.foldl_cons]
    by_cases c1 : e < v.1
    · have hp : putAt v.1 v.2 e p = (optMin p.1 v.2, p.2) := by simp [putAt, c1]
      rw [hp]
      obtain ⟨a, b⟩ := view_fold e L (optMin p.1 v.2, p.2) _ T (h1.add v.2) h2
      refine ⟨a.to fun t => ?_, b.to fun t => ?_⟩
      · constructor
        · rintro ((x | x) | ⟨u, hu, x⟩)
          · exact .inl x
          · exact .inr ⟨v, by simp, c1, x.symm⟩
          · exact .inr ⟨u, by simp [hu], x⟩
        · rintro (x | ⟨u, hu, x⟩)
          · exact .inl (.inl x)
          · rcases List.mem_cons.1 hu with rfl | hu
            · exact .inl (.inr x.2.symm)
            · exact .inr ⟨u, hu, x⟩
      · constructor
        · rintro (x | ⟨u, hu, x⟩)
          · exact .inl x
          · exact .inr ⟨u, by simp [hu], x⟩
        · rintro (x | ⟨u, hu, x⟩)
          · exact .inl x
          · rcases List.mem_cons.1 hu with rfl | hu
            · omega
            · exact .inr ⟨u, hu, x⟩
    · by_cases c2 : v.1 < e ∧ e < v.2
      · have hp : putAt v.1 v.2 e p = (p.1, optMax p.2 v.2) := by simp [putAt, c1, c2]
        rw [hp]
        obtain ⟨a, b⟩ := view_fold e L (p.1, optMax p.2 v.2) S _ h1 (h2.add v.2)
        refine ⟨a.to fun t => ?_, b.to fun t => ?_⟩
        · constructor
          · rintro (x | ⟨u, hu, x⟩)
            · exact .inl x
            · exact .inr ⟨u, by simp [hu], x⟩
          · rintro (x | ⟨u, hu, x⟩)
            · exact .inl x
            · rcases List.mem_cons.1 hu with rfl | hu
              · omega
              · exact .inr ⟨u, hu, x⟩
        · constructor
          · rintro ((x | x) | ⟨u, hu, x⟩)
            · exact .inl x
            · exact .inr ⟨v, by simp, c2.1, c2.2, x.symm⟩
            · exact .inr ⟨u, by simp [hu], x⟩
          · rintro (x | ⟨u, hu, x⟩)
            · exact .inl (.inl x)
            · rcases List.mem_cons.1 hu with rfl | hu
              · exact .inl (.inr x.2.2.symm)
              · exact .inr ⟨u, hu, x⟩
      · have hp : putAt v.1 v.2 e p = p := by simp [putAt, c1, c2]
        rw [hp]
        obtain ⟨a, b⟩ := view_fold e L p S T h1 h2
        refine ⟨a.to fun t => ?_, b.to fun t => ?_⟩
        all_goals
          constructor
          · rintro (x | ⟨u, hu, x⟩)
            · exact .inl x
            · exact .inr ⟨u, by simp [hu], x⟩
          · rintro (x | ⟨u, hu, x⟩)
            · exact .inl x
            · rcases List.mem_cons.1 hu with rfl | hu
              · omega
              · exact .inr ⟨u, hu, x⟩
theorem putAt_above {s t e : Int} {v : Option Int × Option Int} (h1 : s ≤ e) (h2 : t ≤ e) : putAt s t e v = v := by
  unfold putAt; rw [if_neg (by omega), if_neg (by omega)]
theorem viewOf_above (L : List (Int × Int)) (E x : Int) (h : ∀ v ∈ L, v.1 ≤ v.2 ∧ v.2 ≤ E) (hx : E < x) : viewOf L x = (none, none) := by
  unfold viewOf
  suffices ∀ p, L.foldl (fun p v => putAt v.1 v.2 x p) p = p from this _
  induction L with
  | nil => intro p; rfl
  | cons v L ih =>
    intro p
    have := h v (by simp)
    rw [List.foldl_cons, putAt_above (by omega) (by omega)]
    exact ih (fun u hu => h u (by simp [hu])) p
end
end Go.Proofs.YthmclmbeflbhhaaGreat.Sp
namespace Go.Proofs.YthmclmbeflbhhaaGreat
section
open Go Go.RowKit Go.Own Go.Shelf
def dep (p : Par) (h : Int) : Int := (h - 1) / p.elen
def dlo (p : Par) (h : Int) : Int := max 0 (dep p h - p.win + 1)
def dfl (p : Par) (h : Int) : Int := max 1 (h - p.win * p.elen + 1)
def DOk (p : Par) (h : Int) : Prop := p.Ok ∧ p.check.1 = 0 ∧ 1 ≤ h ∧ h ≤ 4294967296
def prs (A : List Att) (v : Int) : List (Int × Int) := (A.filter fun a => decide (a.v = v)).map fun a => (a.s, a.t)
def vaOf (A : List Att) (v lo : Int) : Int → Option Att := fun t => if t < lo then none else A.find? fun a => decide (a.v = v ∧ a.t = t)
def vbOf (Q : List Pro) (v lo : Int) : Int → Option Pro := fun t => if t < lo then none else Q.find? fun a => decide (a.v = v ∧ a.h = t)
structure DInv (p : Par) (h : Int) (A : List Att) (Q : List Pro) : Prop where
  ok : DOk p h
  a : ∀ a ∈ A, a.Ok ∧ a.fine ∧ a.s ≤ a.t ∧ a.t ≤ dep p h
  q : ∀ q ∈ Q, q.Ok ∧ q.fine ∧ q.h ≤ h
  ua : A.Pairwise fun a b => ¬ (a.v = b.v ∧ a.t = b.t)
  uq : Q.Pairwise fun a b => ¬ (a.v = b.v ∧ a.h = b.h)
theorem DOk.bnd {p : Par} {h : Int} (q : DOk p h) : 1 ≤ p.elen ∧ p.elen ≤ 1000 ∧ 1 ≤ p.win ∧ p.win ≤ 256 := by
  obtain ⟨_, _, ⟨a, b⟩, ⟨c, d⟩, _⟩ := Par.bounds p q.2.1
  exact ⟨a, b, c, d⟩
theorem DOk.ep {p : Par} {h : Int} (q : DOk p h) : 0 ≤ dep p h ∧ dep p h ≤ 4294967295 := by
  obtain ⟨e1, e2, _, _⟩ := q.bnd
  obtain ⟨_, _, h1, h2⟩ := q
  unfold dep
  refine ⟨Int.ediv_nonneg (by omega) (by omega), ?_⟩
  have h3 : (h - 1) / p.elen ≤ h - 1 := by
    rcases Int.lt_or_le (h - 1) 0 with a | a
    · omega
    · exact Int.ediv_le_self _ a
  omega
theorem DOk.lo {p : Par} {h : Int} (q : DOk p h) : 0 ≤ dlo p h ∧ dlo p h ≤ dep p h := by
  have := q.ep
  have := q.bnd
  unfold dlo; omega
theorem DOk.mulb {p : Par} {h : Int} (q : DOk p h) : 1 ≤ p.win * p.elen ∧ p.win * p.elen ≤ 256000 := by
  obtain ⟨e1, e2, w1, w2⟩ := q.bnd
  have a := Int.mul_le_mul_of_nonneg_right w2 (show 0 ≤ p.elen by omega)
  have b : 256 * p.elen ≤ 256 * 1000 := by omega
  have c := Int.mul_le_mul w1 e1 (by decide) (by omega)
  omega
theorem DOk.fl {p : Par} {h : Int} (q : DOk p h) : 1 ≤ dfl p h ∧ dfl p h ≤ h ∧ h < dfl p h + p.win * p.elen := by
  have := q.mulb
  obtain ⟨_, _, h1, h2⟩ := q
  unfold dfl; omega
theorem dlow_is (p : Par) (h : Int) : Sp.lowOf p.win (dep p h) = dlo p h := rfl
theorem dep_mono {p : Par} {h h' : Int} (q : DOk p h) (hh : h ≤ h') : dep p h ≤ dep p h' := by
  obtain ⟨e1, _⟩ := q.bnd
  exact Int.ediv_le_ediv (by omega) (by omega)
theorem dlo_mono {p : Par} {h h' : Int} (q : DOk p h) (hh : h ≤ h') : dlo p h ≤ dlo p h' := by
  have := dep_mono q hh
  unfold dlo; omega
theorem dfl_mono {p : Par} {h h' : Int} (hh : h ≤ h') : dfl p h ≤ dfl p h' := by unfold dfl; omega
theorem vaOf_move (A : List Att) (v : Int) {l l' : Int} (h : l ≤ l') : mvV (vaOf A v l) l' = vaOf A v l' := by
  funext j
  unfold mvV vaOf
  by_cases a : j < l'
  · rw [if_pos a, if_pos a]
  · rw [if_neg a, if_neg a, if_neg (by omega)]
theorem vbOf_move (Q : List Pro) (v : Int) {l l' : Int} (h : l ≤ l') : mvV (vbOf Q v l) l' = vbOf Q v l' := by
  funext j
  unfold mvV vbOf
  by_cases a : j < l'
  · rw [if_pos a, if_pos a]
  · rw [if_neg a, if_neg a, if_neg (by omega)]
theorem vaOf_none {A : List Att} {v lo : Int} (h : ∀ a ∈ A, a.v ≠ v) : vaOf A v lo = fun _ => none := by
  funext t
  unfold vaOf
  split
  · rfl
  · rw [List.find?_eq_none]; intro a ha; simp [h a ha]
theorem vbOf_none {A : List Pro} {v lo : Int} (h : ∀ a ∈ A, a.v ≠ v) : vbOf A v lo = fun _ => none := by
  funext t
  unfold vbOf
  split
  · rfl
  · rw [List.find?_eq_none]; intro a ha; simp [h a ha]
theorem vaOf_other {A : List Att} {a : Att} {v lo : Int} (h : a.v ≠ v) : vaOf (A ++ [a]) v lo = vaOf A v lo := by
  funext t
  unfold vaOf
  split
  · rfl
  · rw [List.find?_append]; simp [h]
theorem vbOf_other {A : List Pro} {a : Pro} {v lo : Int} (h : a.v ≠ v) : vbOf (A ++ [a]) v lo = vbOf A v lo := by
  funext t
  unfold vbOf
  split
  · rfl
  · rw [List.find?_append]; simp [h]
theorem vaOf_put {A : List Att} {a : Att} {lo : Int} (hl : lo ≤ a.t) (hn : vaOf A a.v lo a.t = none) : upV (vaOf A a.v lo) a.t a = vaOf (A ++ [a]) a.v lo := by
  funext t
  unfold upV
  by_cases e : t = a.t
  · subst e
    rw [if_pos rfl]
    unfold vaOf at hn ⊢
    rw [if_neg (by omega)] at hn ⊢
    rw [List.find?_append, hn]; simp
  · rw [if_neg e]
    unfold vaOf
    split
    · rfl
    · rw [List.find?_append]
      have : ¬ a.t = t := fun x => e x.symm
      simp [this]
theorem vbOf_put {A : List Pro} {a : Pro} {lo : Int} (hl : lo ≤ a.h) (hn : vbOf A a.v lo a.h = none) : upV (vbOf A a.v lo) a.h a = vbOf (A ++ [a]) a.v lo := by
  funext t
  unfold upV
  by_cases e : t = a.h
  · subst e
    rw [if_pos rfl]
    unfold vbOf at hn ⊢
    rw [if_neg (by omega)] at hn ⊢
    rw [List.find?_append, hn]; simp
  · rw [if_neg e]
    unfold vbOf
    split
    · rfl
    · rw [List.find?_append]
      have : ¬ a.h = t := fun x => e x.symm
      simp [this]
theorem prs_none {A : List Att} {v : Int} (h : ∀ a ∈ A, a.v ≠ v) : prs A v = [] := by
  unfold prs
  rw [List.filter_eq_nil_iff.2 (fun a ha => by simp [h a ha])]; rfl
theorem prs_other {A : List Att} {a : Att} {v : Int} (h : a.v ≠ v) : prs (A ++ [a]) v = prs A v := by
  unfold prs; rw [List.filter_append, List.filter_cons_of_neg (by simp [h])]; simp
theorem prs_put (A : List Att) (a : Att) : prs (A ++ [a]) a.v = prs A a.v ++ [(a.s, a.t)] := by
  unfold prs; rw [List.filter_append, List.map_append, List.filter_cons_of_pos (by simp)]; rfl
theorem view_put (A : List Att) (a : Att) : (fun e => Sp.putAt a.s a.t e (Sp.viewOf (prs A a.v) e)) = Sp.viewOf (prs (A ++ [a]) a.v) := by
  funext e; rw [prs_put, Sp.viewOf_snoc]
theorem DInv.top {p : Par} {h : Int} {A : List Att} {Q : List Pro} (q : DInv p h A Q) (v x : Int) (hx : dep p h < x) : Sp.viewOf (prs A v) x = (none, none) :=
  Sp.viewOf_above _ _ _ (fun y hy => by
    unfold prs at hy
    obtain ⟨a, ha, rfl⟩ := List.mem_map.1 hy
    exact ⟨(q.a a (List.mem_filter.1 ha).1).2.2.1, (q.a a (List.mem_filter.1 ha).1).2.2.2⟩) hx
theorem DInv.mono {p : Par} {h h' : Int} {A : List Att} {Q : List Pro} (q : DInv p h A Q) (hh : h ≤ h') (h2 : h' ≤ 4294967296) : DInv p h' A Q :=
  ⟨⟨q.ok.1, q.ok.2.1, by have := q.ok.2.2.1; omega, h2⟩, fun a ha => by
    obtain ⟨x, y, z, u⟩ := q.a a ha
    exact ⟨x, y, z, Int.le_trans u (dep_mono q.ok hh)⟩, fun a ha => by
    obtain ⟨x, y, z⟩ := q.q a ha
    exact ⟨x, y, by omega⟩, q.ua, q.uq⟩
end
end Go.Proofs.YthmclmbeflbhhaaGreat
namespace Go.Own
section
open Go Go.RowKit
def Step (w w' : World) (F F' : Nat → Prop) : Prop := Keeps F w w' ∧ ∀ j, F' j → F j ∨ (w.heap.size ≤ j ∧ j < w'.heap.size)
def Dis (F G : Nat → Prop) : Prop := ∀ j, F j → ¬ G j
def Lt (F : Nat → Prop) (w : World) : Prop := ∀ j, F j → j < w.heap.size
def Ge (F : Nat → Prop) (w : World) : Prop := ∀ j, F j → w.heap.size ≤ j
section
variable {w0 w w' w'' : World} {F F' F'' G M : Nat → Prop}
theorem Dis.symm (h : Dis F G) : Dis G F := fun j hg hf => h j hf hg
theorem Lt.mono (h : Lt F w) (k : w.heap.size ≤ w'.heap.size) : Lt F w' := fun j hj => Nat.lt_of_lt_of_le (h j hj) k
theorem Lt.keeps (h : Lt F w) (k : Keeps M w w') : Lt F w' := h.mono k.size
theorem Ge.keeps (h : Ge F w') (k : Keeps M w w') : Ge F w := fun j hj => Nat.le_trans k.size (h j hj)
theorem Step.refl (w : World) (F : Nat → Prop) : Step w w F F := ⟨Keeps.refl _ _, fun _ h => .inl h⟩
theorem Step.nob (k : Keeps Nob w w') : Step w w' F F := ⟨k.mono (fun _ _ x => x.elim), fun _ h => .inl h⟩
theorem Step.trans (h : Step w w' F F') (k : Step w' w'' F' F'') : Step w w'' F F'' :=
  ⟨h.1.then k.1 (fun i hi hm => (h.2 i hm).elim id (fun x => absurd x.1 (by omega))), fun j hj => by
    rcases k.2 j hj with h1 | ⟨h1, h2⟩
    · rcases h.2 j h1 with h3 | ⟨h3, h4⟩
      · exact .inl h3
      · exact .inr ⟨h3, Nat.lt_of_lt_of_le h4 k.1.size⟩
    · exact .inr ⟨Nat.le_trans h.1.size h1, h2⟩⟩
theorem Step.size (h : Step w w' F F') : w.heap.size ≤ w'.heap.size := h.1.size
theorem Step.ge (h : Step w w' F F') (g : Ge F w0) (k : w0.heap.size ≤ w.heap.size) : Ge F' w0 := fun j hj => by
  rcases h.2 j hj with h1 | ⟨h1, _⟩
  · exact g j h1
  · omega
theorem Step.keeps (h : Step w w' F F') (k : Keeps Nob w0 w) (g : Ge F w0) : Keeps Nob w0 w' := k.then h.1 (fun i hi hm => by have := g i hm; omega)
theorem Step.lt (h : Step w w' F F') (l : Lt F w) : Lt F' w' := fun j hj => by
  rcases h.2 j hj with h1 | ⟨_, h1⟩
  · exact Nat.lt_of_lt_of_le (l j h1) h.1.size
  · exact h1
end
end
end Go.Own
namespace Go.Proofs.YthmclmbeflbhhaaGreat
section
open Go Go.RowKit Go.Own Go.Shelf
structure PD where
  (q sp r : Nat) (A : RD Att) (B : RD Pro) (FP : Nat → Prop)
def PD.own (x : PD) : Nat → Prop := fun j => j = x.sp ∨ FR x.A x.B j
structure PartAt (w : World) (x : PD) (v W E : Int) (view : Int → Option Int × Option Int) : Prop where
  blk : w.heap[x.q]? = some (.cells #[.pointer (some ⟨x.sp, 0, none⟩), .pointer (some ⟨x.r, 0, none⟩)] 85 (0, 0))
  span : Sp.SpanView w x.FP x.sp W E view
  rec_ : RecAt w x.r v x.A x.B
def Still (w : World) (M : Nat → Prop) : Prop := Odd w M 85 ∧ Odd w M 122 ∧ Odd w M 28 ∧ Odd w M 37
section
variable {w w' : World} {x : PD} {v W E : Int} {view : Int → Option Int × Option Int} {M : Nat → Prop}
theorem SpanView.blk {w : World} {FP : Nat → Prop} {b : Nat} (h : Sp.SpanView w FP b W E view) : ∃ cs, w.heap[b]? = some (.cells cs 161 (0, 0)) := by
  obtain ⟨r, ha, _⟩ := h.ring
  obtain ⟨cs, hc, _⟩ := ha.shape
  exact ⟨cs, hc⟩
theorem PartAt.keeps (h : PartAt w x v W E view) (k : Keeps M w w') (h1 : ∀ j, x.own j → ¬ M j) (h2 : ∀ j, x.FP j → ¬ M j) (o : Still w M) : PartAt w' x v W E view :=
  ⟨k.odd o.1 h.blk, h.span.of_keeps k (h1 _ (.inl rfl)) h2 (fun _ h => h) h.span.nb (fun j hj => Nat.lt_of_lt_of_le (h.span.fp j hj) k.size),
    h.rec_.mono fun j cs T hj e => by
      rcases hj with hj | rfl | rfl | rfl
      · exact (k.block j (lt_of_block e) (h1 _ (.inr hj))).trans e
      · exact k.odd o.2.2.1 e
      · exact k.odd o.2.2.2 e
      · exact k.odd o.2.1 e⟩
theorem Still.nob : Still w Nob := ⟨Odd.nob _, Odd.nob _, Odd.nob _, Odd.nob _⟩
theorem PartAt.keepsN (h : PartAt w x v W E view) (k : Keeps Nob w w') : PartAt w' x v W E view := h.keeps k (fun _ _ e => e) (fun _ _ e => e) Still.nob
theorem PartAt.odd (h : PartAt w x v W E view) {T : TypeId} (h0 : 161 ≠ T) (h1 : 184 ≠ T) (h2 : 185 ≠ T) (h3 : 192 ≠ T) (h4 : 168 ≠ T) : Odd w x.own T := fun j cs fr hj e => by
  rcases hj with rfl | hj
  · obtain ⟨cs', hc⟩ := SpanView.blk h.span
    exact Odd.one hc h0 _ _ _ rfl e
  · exact h.rec_.odd h1 h2 h3 h4 _ _ _ hj e
theorem PartAt.still (h : PartAt w x v W E view) : Still w x.own := ⟨h.odd (by decide) (by decide) (by decide) (by decide) (by decide), h.odd (by decide) (by decide) (by decide) (by decide) (by decide), h.odd (by decide) (by decide) (by decide) (by decide) (by decide), h.odd (by decide) (by decide) (by decide) (by decide) (by decide)⟩
theorem PartAt.lt (h : PartAt w x v W E view) : ∀ j, x.own j → j < w.heap.size := fun j hj => by
  rcases hj with rfl | rfl | rfl | rfl | rfl
  · obtain ⟨cs', hc⟩ := SpanView.blk h.span
    exact lt_of_block hc
  · exact lt_of_block h.rec_.a.ring
  · exact lt_of_block h.rec_.a.slots
  · exact lt_of_block h.rec_.b.ring
  · exact lt_of_block h.rec_.b.slots
end
def detL (p : Par) (h : Int) (P : Nat → Option Nat) : List Value := p.cells.toList ++ iI h :: (List.range 32).map fun v => ptrV (P v)
def detC (p : Par) (h : Int) (P : Nat → Option Nat) : Array Value := (detL p h P).toArray
theorem detC_h (p : Par) (h : Int) (P : Nat → Option Nat) : (detC p h P)[11]? = some (iI h) := by simp [detC, detL, Par.cells]
theorem detC_p (p : Par) (h : Int) (P : Nat → Option Nat) {k : Nat} (hk : k < 11) : (detC p h P)[k]? = p.cells[k]? := by
  unfold detC detL
  rw [List.getElem?_toArray, List.getElem?_append_left (by simp [Par.cells]; omega)]; simp
theorem detC_at (p : Par) (h : Int) (P : Nat → Option Nat) {v : Nat} (hv : v < 32) : (detC p h P)[12 + v]? = some (ptrV (P v)) := by
  unfold detC detL
  have e : p.cells.toList.length = 11 := rfl
  rw [List.getElem?_toArray, List.getElem?_append_right (by omega), e, show 12 + v - 11 = v + 1 by omega, List.getElem?_cons_succ, List.getElem?_map, List.getElem?_range hv]; rfl
theorem detC_seth (p : Par) (h h' : Int) (P : Nat → Option Nat) : (detC p h P).setIfInBounds 11 (iI h') = detC p h' P := by
  unfold detC detL
  apply Array.toList_inj.1
  have e : p.cells.toList.length = 11 := rfl
  rw [Array.toList_setIfInBounds, List.set_append_right _ _ (by omega), e]; rfl
def upP (P : Nat → Option Nat) (v : Nat) (q : Option Nat) : Nat → Option Nat := fun u => if u = v then q else P u
theorem detC_setp (p : Par) (h : Int) (P : Nat → Option Nat) {v : Nat} (q : Option Nat) (hv : v < 32) : (detC p h P).setIfInBounds (12 + v) (ptrV q) = detC p h (upP P v q) := by
  unfold detC detL
  apply Array.toList_inj.1
  have e : p.cells.toList.length = 11 := rfl
  rw [Array.toList_setIfInBounds, List.set_append_right _ _ (by omega), e, show 12 + v - 11 = v + 1 by omega, List.set_cons_succ]
  congr 2
  apply List.ext_getElem?
  intro j
  rw [List.getElem?_set, List.getElem?_map, List.getElem?_map]
  by_cases hj : j < 32
  · rw [List.getElem?_range hj]
    by_cases e2 : v = j
    · subst e2; simp [hj, upP]
    · have : ¬ j = v := fun x => e2 x.symm
      simp [e2, upP, this]
  · rw [List.getElem?_eq_none (by simp; omega)]
    by_cases e2 : v = j
    · omega
    · simp [e2]
def Pq (P : Nat → Option PD) : Nat → Option Nat := fun v => (P v).map PD.q
theorem detC_pseg (p : Par) (h : Int) (P : Nat → Option Nat) : ∀ (j : Nat) (u : Value), p.cells.toList[j]? = some u → (detC p h P)[0 + j]? = some u := fun j u hj => by
  have hl : j < 11 := (List.getElem?_eq_some_iff.1 hj).1
  rw [Nat.zero_add, detC_p p h P hl]; simpa using hj
structure DetP (w : World) (d : Nat) (p : Par) (h : Int) (g : Nat → Int) (A : List Att) (Q : List Pro) (P : Nat → Option PD) (who : Nat → Nat) : Prop where
  blk : w.heap[d]? = some (.cells (detC p h (Pq P)) 79 (0, 0))
  part : ∀ v x, v < 32 → P v = some x → PartAt w x (v : Int) p.win (dep p (g v)) (Sp.viewOf (prs A v)) ∧ ((x.A.low : Int) = dlo p (g v) ∧ (x.A.n : Int) = p.win ∧ x.A.V = vaOf A v (dlo p (g v))) ∧ ((x.B.low : Int) = dfl p (g v) ∧ (x.B.n : Int) = p.win * p.elen ∧ x.B.V = vbOf Q v (dfl p (g v)))
  none_ : ∀ v, v < 32 → P v = none → (∀ a ∈ A, a.v ≠ (v : Int)) ∧ ∀ q ∈ Q, q.v ≠ (v : Int)
  who0 : who d = 0
  who1 : ∀ v x, v < 32 → P v = some x → ∀ j, x.own j → who j = v + 1
  who2 : ∀ v x, v < 32 → P v = some x → ∀ j, x.FP j → who j = 40
def DF (d : Nat) (P : Nat → Option PD) : Nat → Prop := fun j => j = d ∨ ∃ v x, v < 32 ∧ P v = some x ∧ x.own j
def DR (P : Nat → Option PD) : Nat → Prop := fun j => ∃ v x, v < 32 ∧ P v = some x ∧ x.FP j
section
variable {w w' : World} {d : Nat} {p : Par} {h : Int} {g : Nat → Int} {A : List Att} {Q : List Pro} {P : Nat → Option PD} {who : Nat → Nat} {M : Nat → Prop}
theorem DetP.keeps (s : DetP w d p h g A Q P who) (k : Keeps M w w') (h1 : ∀ j, DF d P j → ¬ M j) (h2 : ∀ j, DR P j → ¬ M j) (o : Still w M) : DetP w' d p h g A Q P who :=
  ⟨(k.block d (lt_of_block s.blk) (h1 _ (.inl rfl))).trans s.blk, fun v x hv hx => by
    obtain ⟨a, b, c⟩ := s.part v x hv hx
    exact ⟨a.keeps k (fun j hj => h1 j (.inr ⟨v, x, hv, hx, hj⟩)) (fun j hj => h2 j ⟨v, x, hv, hx, hj⟩) o, b, c⟩, s.none_, s.who0, s.who1, s.who2⟩
theorem DetP.keepsN (s : DetP w d p h g A Q P who) (k : Keeps Nob w w') : DetP w' d p h g A Q P who := s.keeps k (fun _ _ e => e) (fun _ _ e => e) Still.nob
theorem DetP.odd (s : DetP w d p h g A Q P who) {T : TypeId} (h5 : 79 ≠ T) (h0 : 161 ≠ T) (h1 : 184 ≠ T) (h2 : 185 ≠ T) (h3 : 192 ≠ T) (h4 : 168 ≠ T) : Odd w (DF d P) T := fun j cs fr hj e => by
  rcases hj with rfl | ⟨v, x, hv, hx, hj⟩
  · exact Odd.one s.blk h5 _ _ _ rfl e
  · exact (s.part v x hv hx).1.odd h0 h1 h2 h3 h4 _ _ _ hj e
theorem DetP.lt (s : DetP w d p h g A Q P who) : Lt (DF d P) w := fun j hj => by
  rcases hj with rfl | ⟨v, x, hv, hx, hj⟩
  · exact lt_of_block s.blk
  · exact (s.part v x hv hx).1.lt j hj
theorem DetP.ltR (s : DetP w d p h g A Q P who) : Lt (DR P) w := fun j ⟨v, x, hv, hx, hj⟩ => (s.part v x hv hx).1.span.fp j hj
theorem DetP.apart (s : DetP w d p h g A Q P who) {v u : Nat} {x y : PD} (hv : v < 32) (hx : P v = some x) (hu : u < 32) (hy : P u = some y) (hne : u ≠ v) : (∀ j, y.own j → ¬ x.own j) ∧ (∀ j, y.FP j → ¬ x.own j) ∧ ¬ x.own d := by
  refine ⟨fun j h1 h2 => ?_, fun j h1 h2 => ?_, fun h2 => ?_⟩
  · have a := s.who1 u y hu hy j h1; have b := s.who1 v x hv hx j h2; omega
  · have a := s.who2 u y hu hy j h1; have b := s.who1 v x hv hx j h2; omega
  · have a := s.who0; have b := s.who1 v x hv hx d h2; omega
theorem DetP.self (s : DetP w d p h g A Q P who) {v : Nat} {x : PD} (hv : v < 32) (hx : P v = some x) : (∀ j, x.FP j → ¬ x.own j) ∧ ¬ x.own d := by
  refine ⟨fun j h1 h2 => ?_, fun h2 => ?_⟩
  · have a := s.who2 v x hv hx j h1; have b := s.who1 v x hv hx j h2; omega
  · have a := s.who0; have b := s.who1 v x hv hx d h2; omega
theorem DetP.turn (s : DetP w d p h g A Q P who) {v : Nat} {x x' : PD} (hv : v < 32) (hx : P v = some x) (k : Keeps x.own w w') (hq : x'.q = x.q) (ho : ∀ j, x'.own j → x.own j) (hf : ∀ j, x'.FP j → x.FP j ∨ w.heap.size ≤ j) {g' : Nat → Int} (hg : ∀ u, u ≠ v → g' u = g u) {A' : List Att} {Q' : List Pro}
    (hA : ∀ u : Nat, u ≠ v → prs A' u = prs A u ∧ (∀ lo, vaOf A' u lo = vaOf A u lo) ∧ (∀ lo, vbOf Q' u lo = vbOf Q u lo) ∧ ((∀ a ∈ A, a.v ≠ (u : Int)) → ∀ a ∈ A', a.v ≠ (u : Int)) ∧ ((∀ a ∈ Q, a.v ≠ (u : Int)) → ∀ a ∈ Q', a.v ≠ (u : Int)))
    (h2 : PartAt w' x' (v : Int) p.win (dep p (g' v)) (Sp.viewOf (prs A' v)) ∧ ((x'.A.low : Int) = dlo p (g' v) ∧ (x'.A.n : Int) = p.win ∧ x'.A.V = vaOf A' v (dlo p (g' v))) ∧ ((x'.B.low : Int) = dfl p (g' v) ∧ (x'.B.n : Int) = p.win * p.elen ∧ x'.B.V = vbOf Q' v (dfl p (g' v)))) :
    ∃ who', DetP w' d p h g' A' Q' (fun u => if u = v then some x' else P u) who' := by
  have hne : ∀ j, x'.FP j → ¬ x.own j ∧ j ≠ d ∧ ∀ u y, u < 32 → P u = some y → ¬ y.own j := fun j hj => by
    rcases hf j hj with h | h
    · have w1 := s.who2 v x hv hx j h
      refine ⟨fun e => ?_, fun e => ?_, fun u y hu hy e => ?_⟩
      · have := s.who1 v x hv hx j e; omega
      · have := s.who0; rw [e] at w1; omega
      · have := s.who1 u y hu hy j e; omega
    · refine ⟨fun e => ?_, fun e => ?_, fun u y hu hy e => ?_⟩
      · have := (s.part v x hv hx).1.lt j e; omega
      · have := lt_of_block s.blk; omega
      · have := (s.part u y hu hy).1.lt j e; omega
  have hst := (s.part v x hv hx).1.still
  refine ⟨fun j => @ite _ (x'.FP j) (Classical.propDecidable _) 40 (who j), ?_, fun u y hu hy => ?_, fun u hu hy => ?_, ?_, fun u y hu hy j hj => ?_, fun u y hu hy j hj => ?_⟩
  · have e : Pq (fun u => if u = v then some x' else P u) = Pq P := by
      funext u; show Option.map PD.q _ = Option.map PD.q _
      by_cases hu : u = v
      · subst hu; simp only [if_true, hx, Option.map_some, hq]
      · simp only [if_neg hu]
    rw [e]
    exact (k.block d (lt_of_block s.blk) (s.self hv hx).2).trans s.blk
  · by_cases e : u = v
    · subst e
      simp only [if_true, Option.some.injEq] at hy
      subst hy; exact h2
    · simp only [if_neg e] at hy
      obtain ⟨a1, a2, a3, _, _⟩ := hA u e
      obtain ⟨b1, b2, b3⟩ := s.part u y hu hy
      obtain ⟨c1, c2, _⟩ := s.apart hv hx hu hy e
      rw [hg u e, a1, a2, a3]
      exact ⟨b1.keeps k c1 c2 hst, b2, b3⟩
  · by_cases e : u = v
    · subst e; simp only [if_true] at hy; cases hy
    · simp only [if_neg e] at hy
      obtain ⟨_, _, _, a4, a5⟩ := hA u e
      exact ⟨a4 (s.none_ u hu hy).1, a5 (s.none_ u hu hy).2⟩
  · rw [if_neg (fun e => (hne d e).2.1 rfl)]; exact s.who0
  · by_cases e : u = v
    · subst e
      simp only [if_true, Option.some.injEq] at hy
      subst hy
      rw [if_neg (fun e => (hne j e).1 (ho j hj))]; exact s.who1 u x hv hx j (ho j hj)
    · simp only [if_neg e] at hy
      rw [if_neg (fun e => (hne j e).2.2 u y hu hy hj)]; exact s.who1 u y hu hy j hj
  · by_cases e : u = v
    · subst e
      simp only [if_true, Option.some.injEq] at hy
      subst hy
      rw [if_pos hj]
    · simp only [if_neg e] at hy
      by_cases hz : x'.FP j
      · rw [if_pos hz]
      · rw [if_neg hz]; exact s.who2 u y hu hy j hj
end
theorem DOk.low_is {p : Par} {h : Int} (q : DOk p h) : p.low h = (dlo p h, 0) ∧ p.epoch h = (dep p h, 0) ∧ p.floor h = (dfl p h, 0) := by
 have e : p.fine [h] = 0 := Par.fine_ok p [h] (fun k x hx => by
  match k, hx with
  | 0, hx => simp only [List.getElem?_cons_zero, Option.some.injEq] at hx; subst hx; exact ⟨q.2.2.1, q.2.2.2⟩
  | k + 1, hx => simp at hx) q.2.1
 unfold Par.low Par.epoch Par.floor
 rw [if_pos e, if_pos e, if_pos e]
 exact ⟨rfl, rfl, rfl⟩
theorem dpLow_is {p : Par} {h x : Int} (q : DOk p h) (hx : dlo p h = x) (w : World) : Calls prog 26 #[.agg p.cells, iI h] w (RK w (.tuple #[iI x, iI 0])) := by
 have hc := pLow_ok p q.1 h (by have := q.2.2; unfold i64ok; omega) w
 rw [q.low_is.1] at hc; exact hx ▸ hc
theorem dpEpoch_is {p : Par} {h x : Int} (q : DOk p h) (hx : dep p h = x) (w : World) : Calls prog 27 #[.agg p.cells, iI h] w (RK w (.tuple #[iI x, iI 0])) := by
 have hc := pEpoch_ok p q.1 h (by have := q.2.2; unfold i64ok; omega) w
 rw [q.low_is.2.1] at hc; exact hx ▸ hc
theorem dpFloor_is {p : Par} {h x : Int} (q : DOk p h) (hx : dfl p h = x) (w : World) : Calls prog 44 #[.agg p.cells, iI h] w (RK w (.tuple #[iI x, iI 0])) := by
 have hc := pFloor_ok p q.1 h (by have := q.2.2; unfold i64ok; omega) w
 rw [q.low_is.2.2] at hc; exact hx ▸ hc
def qc63_2 (n : Nat) : Code := partOf f38 n
theorem dnone_no (d : Nat) (p : Par) (h : Int) (P : Nat → Option Nat) (w : World) (hd : HP w d (detC p h P) 79) (hh : ¬ h = 0) :
  Calls prog 38 #[pT d 0] w (fun e w' => e = .returned (.bool false) ∧ w = w') := by
 have K0 := kz0 w
 refine sf_ (qc63_2 1) func38 <| qr_ [0] <| kk 1 <| eqr_ nl10_ <| kk 6 <| pP (lc (hd) (detC_h _ _ _)) <| ppq (.bool false) (cbo (show ((((h) : Int) == ((0) : Int))) = false from by simpa using hh)) <| kk 2 <| eu_ <| so_ (.bool false) ?_
 exact ⟨rfl, rfl⟩
def qc63_1 (n : Nat) : Code := partOf f12 n
theorem dHeight_ok (d : Nat) (p : Par) (h : Int) (P : Nat → Option Nat) (w : World) (hd : HP w d (detC p h P) 79) (hh : ¬ h = 0) :
  Calls prog 12 #[pT d 0] w (fun e w' => e = .returned (iI h) ∧ w = w') := by
 have K0 := kz0 w
 refine sf_ (qc63_1 1) func12 <| qr_ [0] <| kk 1 <| eq_ <| qr_ [0, 1] <| kk 1 ?_
 refine pct ((dnone_no d p h P _ hd hh).mono ?_)
 rintro e w1 ⟨rfl, rfl⟩
 refine ⟨_, rfl, ?_⟩
 refine en_ <| s_ <| tqr_ nl5_ <| kk 3 <| pP (lc (hd) (detC_h _ _ _)) <| kk 1 <| eu_ <| so_ (iI h) ?_
 exact ⟨rfl, rfl⟩
def qc63_0 (n : Nat) : Code := partOf f45 n
theorem dwindow_ok (d : Nat) (p : Par) (h : Int) (P : Nat → Option Nat) (w : World) (hd : HP w d (detC p h P) 79) (q : DOk p h) (lo ee ff : Int) (hlo : dlo p h = lo) (hee : dep p h = ee) (hff : dfl p h = ff) :
  Calls prog 45 #[pT d 0] w (RK w (.tuple #[iI lo, iI ee, iI ff])) := by
 have K0 := kz0 w
 refine sf_ (qc63_0 1) func45 <| qr_ [0, 1, 2] <| kk 3 <| eq_ <| anp 13 (fun W => (HP W d (detC p h P) 79)) fun V1 j1 => ?_
 have ⟨K3, z4, h2⟩ := j1.z1 K0 hd
 refine kA [0, 1, 2] <| aV 3 (.agg p.cells) (fun W hS => exec_cast (v := .agg p.cells.toList.toArray) rfl (exec_load_seg 47 (.tmp 8) (by kernel_rfl) d 0 (by kernel_rfl) p.cells.toList _ _ _ hS (detC_pseg _ _ _) underlying47 rfl (by kernel_rfl))) <| kA [4, 5, 6] <| aV 7 _ (fun W hS => lc hS (detC_h _ _ _)) <| an_o 8 <| ncs (dpLow_is q hlo _) fun V5 j5 => ?_
 have ⟨K7, z8, h6⟩ := j5.z1 K3 h2
 refine ⟨h6, ?_⟩
 refine kA [9, 10, 11] <| ako 12 ?_
 refine ane <| tq_ <| anp 13 (fun W => (HP W d (detC p h P) 79)) fun V9 j9 => ?_
 have ⟨K11, z12, h10⟩ := j9.z1 K7 h6
 refine kA [0, 1, 2] <| aV 3 (.agg p.cells) (fun W hS => exec_cast (v := .agg p.cells.toList.toArray) rfl (exec_load_seg 47 (.tmp 20) (by kernel_rfl) d 0 (by kernel_rfl) p.cells.toList _ _ _ hS (detC_pseg _ _ _) underlying47 rfl (by kernel_rfl))) <| kA [4, 5, 6] <| aV 7 _ (fun W hS => lc hS (detC_h _ _ _)) <| an_o 8 <| ncs (dpEpoch_is q hee _) fun V13 j13 => ?_
 have ⟨K15, z16, h14⟩ := j13.z1 K11 h10
 refine ⟨h14, ?_⟩
 refine kA [9, 10, 11] <| ako 12 ?_
 refine ane <| tq_ <| anp 13 (fun W => (HP W d (detC p h P) 79)) fun V17 j17 => ?_
 have ⟨K19, z20, h18⟩ := j17.z1 K15 h14
 refine kA [0, 1, 2] <| aV 3 (.agg p.cells) (fun W hS => exec_cast (v := .agg p.cells.toList.toArray) rfl (exec_load_seg 47 (.tmp 32) (by kernel_rfl) d 0 (by kernel_rfl) p.cells.toList _ _ _ hS (detC_pseg _ _ _) underlying47 rfl (by kernel_rfl))) <| kA [4, 5, 6] <| aV 7 _ (fun W hS => lc hS (detC_h _ _ _)) <| an_o 8 <| ncs (dpFloor_is q hff _) fun V21 j21 => ?_
 have ⟨K23, z24, h22⟩ := j21.z1 K19 h18
 refine ⟨h22, ?_⟩
 refine kA [9, 10, 11] <| ako 12 ?_
 refine ane <| tqr_ nl6_ <| kk 6 <| eu_ <| so_ (.tuple #[iI lo, iI ee, iI ff]) ?_
 exact ⟨rfl, K23⟩
theorem span_nob {w w' : World} {FP : Nat → Prop} {b : Nat} {W E : Int} {view : Int → Option Int × Option Int} (h : Sp.SpanView w FP b W E view) (k : Keeps Nob w w') : Sp.SpanView w' FP b W E view := h.of_keeps k (fun e => e) (fun _ _ e => e) (fun _ h => h) h.nb (fun j hj => Nat.lt_of_lt_of_le (h.fp j hj) k.size)
theorem rec_one {w w' : World} {FP : Nat → Prop} {b r : Nat} {W E v : Int} {view : Int → Option Int × Option Int} {A : RD Att} {B : RD Pro} (h : RecAt w r v A B) (hs : Sp.SpanView w FP b W E view) (k : Keeps (One b) w w') : RecAt w' r v A B := by
 obtain ⟨cs, hc⟩ := SpanView.blk hs
 have hne : ∀ j, FR A B j → j ≠ b := fun j hj e => h.odd (T := 161) (by decide) (by decide) (by decide) (by decide) j cs (0, 0) hj (by rw [e]; exact hc)
 exact h.mono fun j cs' T hj e => by
  rcases hj with hj | rfl | rfl | rfl
  ·exact (k.block j (lt_of_block e) (fun e2 => hne j hj e2)).trans e
  ·exact k.odd (Odd.one hc (by decide)) e
  ·exact k.odd (Odd.one hc (by decide)) e
  ·exact k.odd (Odd.one hc (by decide)) e
theorem span_rec {w w' : World} {FP : Nat → Prop} {b r : Nat} {W E v : Int} {view : Int → Option Int × Option Int} {A : RD Att} {B : RD Pro} (h : RecAt w r v A B) (hs : Sp.SpanView w FP b W E view) (hf : ∀ j, FP j → ¬ FR A B j) (k : Keeps (FR A B) w w') : Sp.SpanView w' FP b W E view := by
 obtain ⟨cs, hc⟩ := SpanView.blk hs
 exact hs.of_keeps k (fun e => h.odd (T := 161) (by decide) (by decide) (by decide) (by decide) b cs (0, 0) e hc) hf (fun _ h => h) hs.nb (fun j hj => Nat.lt_of_lt_of_le (hs.fp j hj) k.size)
theorem part_ne {w : World} {FP : Nat → Prop} {b q : Nat} {W E : Int} {view : Int → Option Int × Option Int} {cs : Array Value} (hs : Sp.SpanView w FP b W E view) (h : HP w q cs 85) : q ≠ b := fun e => by
 obtain ⟨cs', hc⟩ := SpanView.blk hs
 exact Odd.one hc (T' := 85) (by decide) q cs (0, 0) e h
theorem span_on {w : World} {FP : Nat → Prop} {b : Nat} {W E e : Int} {view : Int → Option Int × Option Int} (h : Sp.SpanView w FP b W E view) (hv : ∀ x, E < x → view x = (none, none)) (h0 : 0 ≤ e ∧ e ≤ 4294967296) (h1 : E ≤ e) : Calls prog 76 #[pT b 0, iI e] w fun v w' => v = .returned (iI 0) ∧ Sp.SpanView w' FP b W e view ∧ Keeps (One b) w w' := by
 have hc := Sp.span_move b W E e w FP view h hv
 have h2 : Sp.moveErr E e = 0 := by unfold Sp.moveErr; rw [if_neg (by omega), if_neg (by omega)]
 rw [h2, if_pos rfl] at hc; exact hc
theorem rec_on {w : World} {r : Nat} {v l f : Int} {A : RD Att} {B : RD Pro} (h : RecAt w r v A B) (h0 : 0 ≤ l ∧ l ≤ 4294967296 ∧ 1 ≤ f ∧ f ≤ 4294967296) (h1 : (A.low : Int) ≤ l) (h2 : (B.low : Int) ≤ f) : Calls prog 77 #[pT r 0, iI l, iI f] w fun e w' => e = .returned (iI 0) ∧ (∃ S1 S2, RecAt w' r v { A with low := l.toNat, V := mvV A.V l, S := S1 } { B with low := f.toNat, V := mvV B.V f, S := S2 }) ∧ Keeps (FR A B) w w' := by
 have e : qMoveErr A B l f = 0 := by unfold qMoveErr; rw [if_neg (by omega), if_neg (by omega)]
 exact (qMove_ok r v A B l f w h).mono fun x w' ⟨a, _, c, k⟩ => ⟨by rw [a, e], c e, k⟩
def qc64_0 (n : Nat) : Code := partOf f41 n
theorem dgoes_core (d q sp r : Nat) (p : Par) (h : Int) (P : Nat → Option Nat) (FP : Nat → Prop) (WW EE v : Int) (view : Int → Option Int × Option Int) (A : RD Att) (B : RD Pro) (w : World) (hd : HP w d (detC p h P) 79) (hq : HP w q #[pT sp 0, pT r 0] 85) (hs : Sp.SpanView w FP sp WW EE view) (hr : RecAt w r v A B) (hf : ∀ j, FP j → ¬ FR A B j) (hk : DOk p h) (hv : ∀ x, EE < x → view x = (none, none)) (lo ee ff : Int) (hlo : dlo p h = lo) (hee : dep p h = ee) (hff : dfl p h = ff) (heE : EE ≤ ee) (hlA : (A.low : Int) ≤ lo) (hfB : (B.low : Int) ≤ ff) :
  Calls prog 41 #[pT d 0, pT q 0] w (fun e w' => e = .returned (.tuple #[]) ∧ ∃ S1 S2, Sp.SpanView w' FP sp WW ee view ∧ RecAt w' r v { A with low := lo.toNat, V := mvV A.V lo, S := S1 } { B with low := ff.toNat, V := mvV B.V ff, S := S2 } ∧ Keeps (fun j => j = sp ∨ FR A B j) w w') := by
 have hb1 := hk.ep
 have hb2 := hk.lo
 have hb3 := hk.fl
 have hb4 := hk.2.2
 rw [hee] at hb1 hb2
 rw [hlo] at hb2
 rw [hff] at hb3
 have he0 : 0 ≤ ee ∧ ee ≤ 4294967296 := by omega
 have hl0 : 0 ≤ lo ∧ lo ≤ 4294967296 ∧ 1 ≤ ff ∧ ff ≤ 4294967296 := by omega
 have hne := part_ne hs hq
 have K0 := Keeps.refl ((fun j => j = sp ∨ FR A B j)) w
 refine sf_ (qc64_0 1) func41 <| qr_ nl9_ <| kk 1 <| pcs (dwindow_ok d p h P _ hd hk lo ee ff hlo hee hff) fun V1 j1 => ?_
 have h3 := j1.bk hq
 have h4 : Sp.SpanView V1 FP sp WW EE view := span_nob hs j1
 have h5 := hr.keepsN j1
 have ⟨K6, z7⟩ := j1.z0 K0
 refine kk 7 <| eqr_ nl6_ <| kk 3 <| pP (lk h3) <| kk 1 ?_
 refine pct ((span_on h4 hv he0 heE).mono ?_)
 rintro e V8 ⟨rfl, hSV8, j8⟩
 have hRV8 := rec_one h5 h4 j8
 refine ⟨_, rfl, ?_⟩
 have h9 := j8.bO h3
 have K10 : Keeps ((fun j => j = sp ∨ FR A B j)) w V8 := K6.then j8 (fun i hi hm => .inl hm)
 have z11 := j8.size
 refine er_ nl7_ <| kk 3 <| pP (lk h9) <| kk 2 ?_
 refine pct ((rec_on hRV8 hl0 hlA hfB).mono ?_)
 rintro e V12 ⟨rfl, ⟨S1, S2, hRV12⟩, j12⟩
 have hSV12 := span_rec hRV8 hSV8 hf j12
 refine ⟨_, rfl, ?_⟩
 have K13 : Keeps ((fun j => j = sp ∨ FR A B j)) w V12 := K10.then j12 (fun i hi hm => .inr hm)
 have z14 := j12.size
 refine ps_end <| sy_fall (.tuple #[]) rfl (by kernel_rfl) ?_
 exact ⟨rfl, S1, S2, hSV12, hRV12, K13⟩
theorem dgoes_ok {w : World} {d : Nat} {p : Par} {h : Int} {g : Nat → Int} {A : List Att} {Q : List Pro} {P : Nat → Option PD} {who : Nat → Nat} (s : DetP w d p h g A Q P who) (hk : DOk p h) {v : Nat} {x : PD} (hv : v < 32) (hx : P v = some x) (hg : DOk p (g v)) (hgh : g v ≤ h) (htop : ∀ y, dep p (g v) < y → Sp.viewOf (prs A v) y = (none, none)) :
  Calls prog 41 #[pT d 0, pT x.q 0] w fun e w' => e = .returned (.tuple #[]) ∧ ∃ x' who', x'.q = x.q ∧ x'.own = x.own ∧ x'.FP = x.FP ∧ DetP w' d p h (fun u => if u = v then h else g u) A Q (fun u => if u = v then some x' else P u) who' ∧ Keeps x.own w w' := by
 obtain ⟨hp, ⟨a1, a2, a3⟩, b1, b2, b3⟩ := s.part v x hv hx
 have hs := s.self hv hx
 refine (dgoes_core d x.q x.sp x.r p h (Pq P) x.FP p.win (dep p (g v)) v (Sp.viewOf (prs A v)) x.A x.B w s.blk hp.blk hp.span hp.rec_ (fun j h1 h2 => hs.1 j h1 (.inr h2)) hk htop _ _ _ rfl rfl rfl (dep_mono hg hgh) (by rw [a1]; exact dlo_mono hg hgh) (by rw [b1]; exact dfl_mono hgh)).mono ?_
 rintro e w' ⟨rfl, S1, S2, hS, hR, k⟩
 have hl := hk.lo
 have hf := hk.fl
 have k2 : Keeps x.own w w' := k
 obtain ⟨who', hw⟩ := s.turn hv hx (x' := ⟨x.q, x.sp, x.r, { x.A with low := (dlo p h).toNat, V := mvV x.A.V (dlo p h), S := S1 }, { x.B with low := (dfl p h).toNat, V := mvV x.B.V (dfl p h), S := S2 }, x.FP⟩) k2 rfl (fun j hj => hj) (fun j hj => .inl hj) (g' := fun u => if u = v then h else g u) (fun u hu => if_neg hu) (A' := A) (Q' := Q) (fun u hu => ⟨rfl, fun _ => rfl, fun _ => rfl, id, id⟩)
  (by
   simp only [if_true]
   refine ⟨⟨k2.odd hp.still.1 hp.blk, hS, hR⟩, ⟨?_, a2, ?_⟩, ⟨?_, b2, ?_⟩⟩
   ·show (((dlo p h).toNat : Nat) : Int) = _; omega
   ·show mvV x.A.V (dlo p h) = _; rw [a3, vaOf_move _ _ (dlo_mono hg hgh)]
   ·show (((dfl p h).toNat : Nat) : Int) = _; omega
   ·show mvV x.B.V (dfl p h) = _; rw [b3, vbOf_move _ _ (dfl_mono hgh)])
 refine ⟨rfl, _, who', ?_, ?_, ?_, hw, k2⟩ <;> rfl
theorem upP_self (P : Nat → Option Nat) (v : Nat) (q : Option Nat) : upP P v q v = q := by unfold upP; rw [if_pos rfl]
theorem span_made (n : Int) (w : World) (h1 : 1 ≤ n) (h2 : n ≤ 256) :
  Calls prog 90 #[iI n] w fun e w' => ∃ sp, e = .returned (.tuple #[pT sp 0, iI 0]) ∧ Sp.SpanView w' Nob sp n 0 (fun _ => (none, none)) ∧ Keeps Nob w w' ∧ w.heap.size ≤ sp :=
 (Sp.span_new_view n w h1 h2).mono fun e w' ⟨a, b, c, _⟩ => ⟨_, a, b, c, Nat.le_refl _⟩
theorem rec_made (v a b : Int) (w : World) (h0 : 0 ≤ v ∧ v < 32) (h1 : 1 ≤ a ∧ a ≤ 256) (h2 : 1 ≤ b ∧ b ≤ 256000) :
  Calls prog 91 #[iI v, iI a, iI b] w (fun e w' => ∃ r A B, e = .returned (.tuple #[pT r 0, iI 0]) ∧ RecAt w' r v A B ∧ (A.low = 0 ∧ (A.n : Int) = a ∧ A.V = (fun _ => none) ∧ B.low = 1 ∧ (B.n : Int) = b ∧ B.V = (fun _ => none)) ∧ (∀ j, FR A B j → w.heap.size ≤ j) ∧ w.heap.size ≤ r ∧ Keeps Nob w w') := by
 have hc := qNew_fine v a.toNat b.toNat w (by omega) (by omega) (by omega) (by omega) (by omega) (by omega)
 rw [show (a.toNat : Int) = a by omega, show (b.toNat : Int) = b by omega] at hc
 exact hc.mono fun e w' ⟨r, A, B, a1, a2, a3, a4, a5, a6, a7, a8, a9, a10, k⟩ => ⟨r, A, B, a1, a2, ⟨a3, by omega, a5, a6, by omega, a8⟩, a9, a10, k⟩
theorem mvV_none {α : Type} (l : Int) : mvV (fun _ => (none : Option α)) l = fun _ => none := by funext j; unfold mvV; split <;> rfl
theorem out_of {w : World} {b r j : Nat} {FP : Nat → Prop} {W E v : Int} {view : Int → Option Int × Option Int} {A : RD Att} {B : RD Pro} {T : TypeId} {cs : Array Value} (hS : Sp.SpanView w FP b W E view) (hR : RecAt w r v A B) (hc : HP w j cs T) (h0 : 161 ≠ T) (h1 : 184 ≠ T) (h2 : 185 ≠ T) (h3 : 192 ≠ T) (h4 : 168 ≠ T) : ¬ (j = b ∨ FR A B j) := fun e => by
 rcases e with rfl | e
 ·obtain ⟨cs', hc'⟩ := SpanView.blk hS
  exact Odd.one hc' h0 _ _ _ rfl hc
 ·exact hR.odd h1 h2 h3 h4 _ _ _ e hc
theorem span_det {w w' : World} {b d : Nat} {W E : Int} {view : Int → Option Int × Option Int} {cs : Array Value} (h : Sp.SpanView w Nob b W E view) (hd : HP w d cs 79) (k : Keeps (One d) w w') : Sp.SpanView w' Nob b W E view :=
 h.of_keeps k (fun e => by
  obtain ⟨cs', hc⟩ := SpanView.blk h
  exact Odd.one hd (by decide) b cs' (0, 0) e hc) (fun j hj => hj.elim) (fun _ h => h) h.nb (fun j hj => hj.elim)
theorem rec_det {w w' : World} {r d : Nat} {v : Int} {A : RD Att} {B : RD Pro} {cs : Array Value} (h : RecAt w r v A B) (hd : HP w d cs 79) (k : Keeps (One d) w w') : RecAt w' r v A B := h.mono fun j cs' T hj e => by
 rcases hj with hj | rfl | rfl | rfl
 ·exact (k.block j (lt_of_block e) (fun e2 => h.odd (T := 79) (by decide) (by decide) (by decide) (by decide) j cs (0, 0) hj (e2 ▸ hd))).trans e
 ·exact k.odd (Odd.one hd (by decide)) e
 ·exact k.odd (Odd.one hd (by decide)) e
 ·exact k.odd (Odd.one hd (by decide)) e
def part_dof (n : Nat) : Code := partOf f48 n
theorem dof_found (d v q : Nat) (p : Par) (h : Int) (P : Nat → Option Nat) (w : World) (hd : HP w d (detC p h P) 79) (hv : v < 32) (hPv : P v = some q) :
  Calls prog 48 #[pT d 0, iI (v : Int)] w (fun e w' => e = .returned (pT q 0) ∧ w = w') := by
 have K0 := kz0 w
 refine sf_ (part_dof 1) func48 <| qr_ [0] <| kk 1 <| eq_ <| qr_ nl7_ <| kk 4 <| ppq (pT d (12 + v)) (exec_cast (v := pT d (12 + v * 1)) (by simp) (ixa d 12 .i64 v 1 underlying77 (by omega))) <| ppq (pT q 0) (lc (hd) ((detC_at _ _ _ (by omega)).trans (congrArg (fun o => some (ptrV o)) hPv)) (k := 12 + v)) <| kk 1 <| en_ <| s_ <| tqr_ nl7_ <| kk 4 <| ppq (pT d (12 + v)) (exec_cast (v := pT d (12 + v * 1)) (by simp) (ixa d 12 .i64 v 1 underlying77 (by omega))) <| ppq (pT q 0) (lc (hd) ((detC_at _ _ _ (by omega)).trans (congrArg (fun o => some (ptrV o)) hPv)) (k := 12 + v)) <| kk 1 <| eu_ <| so_ (pT q 0) ?_
 exact ⟨rfl, rfl⟩
theorem dof_made (d v : Nat) (p : Par) (h : Int) (P : Nat → Option Nat) (w : World) (hd : HP w d (detC p h P) 79) (hv : v < 32) (hPv : P v = none) (hk : DOk p h) :
  Calls prog 48 #[pT d 0, iI (v : Int)] w (fun e w' => ∃ q sp r A B, e = .returned (pT q 0) ∧ HP w' d (detC p h (upP P v (some q))) 79 ∧ PartAt w' ⟨q, sp, r, A, B, Nob⟩ (v : Int) p.win (dep p h) (fun _ => (none, none)) ∧ ((A.low : Int) = dlo p h ∧ (A.n : Int) = p.win ∧ A.V = fun _ => none) ∧ ((B.low : Int) = dfl p h ∧ (B.n : Int) = p.win * p.elen ∧ B.V = fun _ => none) ∧ (∀ j, PD.own ⟨q, sp, r, A, B, Nob⟩ j → w.heap.size ≤ j) ∧ Keeps (One d) w w') := by
 have hb := hk.bnd
 have hm := hk.mulb
 have hlo := hk.lo
 have hfl := hk.fl
 have hep := hk.ep
 have K0 := Keeps.refl (One d) w
 refine sf_ (part_dof 1) func48 <| qr_ [0] <| kk 1 <| eq_ <| qr_ nl7_ <| kk 4 <| ppq (pT d (12 + v)) (exec_cast (v := pT d (12 + v * 1)) (by simp) (ixa d 12 .i64 v 1 underlying77 (by omega))) <| ppq (.pointer none) (lc (hd) ((detC_at _ _ _ (by omega)).trans (congrArg (fun o => some (ptrV o)) hPv)) (k := 12 + v)) <| kk 1 <| ey_ <| qr_ nl11_ <| kk 4 <| ppq (iI p.win) (lc (hd) ((detC_p _ _ _ (by decide)).trans rfl) (k := 3)) ?_
 refine pct ((span_made p.win _ (by omega) (by omega)).mono ?_)
 rintro e V1 ⟨sp, rfl, hSV1, j1, gSV1⟩
 refine ⟨_, rfl, ?_⟩
 have ⟨K3, z4, h2⟩ := j1.z1 K0 hd
 refine kk 5 <| eq_ <| anp 23 (fun W => (HP W d (detC p h P) 79)) fun V5 j5 => ?_
 have h6 := j5.bk h2
 have h7 : Sp.SpanView V5 Nob sp p.win 0 (fun _ => (none, none)) := span_nob hSV1 j5
 have ⟨K8, z9⟩ := j5.z0 K3
 refine kA [0, 1, 2, 3, 4] <| aV 5 (iI p.win) (fun W hS => lc hS ((detC_p _ _ _ (by decide)).trans rfl) (k := 3)) <| kA [6, 7, 8, 9] <| aV 10 (iI p.win) (fun W hS => lc hS ((detC_p _ _ _ (by decide)).trans rfl) (k := 3)) <| kA [11, 12, 13] <| kA [14] <| aV 15 (iI p.elen) (fun W hS => lc hS ((detC_p _ _ _ (by decide)).trans rfl) (k := 2)) <| aV 16 _ (fun W hS => cwI (x := p.win * p.elen)) <| an_o 17 ?_
 refine nct ((rec_made v p.win (p.win * p.elen) _ (by omega) (by omega) (by omega)).mono ?_)
 rintro e V10 ⟨r, A, B, rfl, hRV10, ⟨aa, ab, ac, ba, bb, bc⟩, gFV10, gRV10, j10⟩
 refine ⟨_, rfl, ?_⟩
 have h11 := j10.bk h6
 have h12 : Sp.SpanView V10 Nob sp p.win 0 (fun _ => (none, none)) := span_nob h7 j10
 have ⟨K13, z14⟩ := j10.z0 K8
 refine ⟨h11, ?_⟩
 refine kA [18, 19, 20] <| ako 21 ?_
 refine ako 22 ?_
 refine ane <| tqr_ nl10_ <| kk 5 <| pbg 85 (#[pT sp 0, pT r 0]) fun V15 q eq h16 j15 => ?_
 have := nqk1 eq h11 K13
 have h19 := j15.bk h11
 have h20 : Sp.SpanView V15 Nob sp p.win 0 (fun _ => (none, none)) := span_nob h12 j15
 have h21 := hRV10.keepsN j15
 have ⟨K22, z23⟩ := j15.z0 K13
 refine kk 2 <| ppq (pT d (12 + v)) (exec_cast (v := pT d (12 + v * 1)) (by simp) (ixa d 12 .i64 v 1 underlying77 (by omega))) <| pce 76 d (12 + v) (pT q 0) (detC p h ((upP P v (some q)))) h19 (rc h19 ((detC_at _ _ _ (by omega)).trans (congrArg (fun o => some (ptrV o)) hPv))) (detC_setp _ _ _ (some q) (by omega)) fun V24 h25 j24 => ?_
 have h26 : Sp.SpanView V24 Nob sp p.win 0 (fun _ => (none, none)) := span_det h20 h19 j24
 have h27 : RecAt V24 r v A B := rec_det h21 h19 j24
 have h28 := j24.bO h16
 have K29 := K22.nw j24 (rfl)
 have z30 := j24.size
 refine er_ nl8_ <| kk 5 <| ppq (pT d (12 + v)) (exec_cast (v := pT d (12 + v * 1)) (by simp) (ixa d 12 .i64 v 1 underlying77 (by omega))) <| ppq (pT q 0) (lc h25 ((detC_at _ _ _ (by omega)).trans (congrArg (fun o => some (ptrV o)) (upP_self _ _ _))) (k := 12 + v)) ?_
 refine pcq 41 #[pT d 0, pT q 0] func41 ((dgoes_core d q sp r p h (upP P v (some q)) Nob p.win 0 v (fun _ => (none, none)) A B _ h25 h28 h26 h27 (fun _ e _ => e.elim) hk (fun _ _ => rfl) _ _ _ rfl rfl rfl (by omega) (by omega) (by omega)).mono ?_)
 rintro e V31 ⟨rfl, S1, S2, hSV31, hRV31, j31⟩
 refine ⟨_, rfl, ?_⟩
 have h32 : HP V31 q (#[pT sp 0, pT r 0]) 85 := (j31.block q (lt_of_block h28) (fun e => out_of h26 h27 h28 (by decide) (by decide) (by decide) (by decide) (by decide) e)).trans h28
 have h33 : HP V31 d (detC p h ((upP P v (some q)))) 79 := (j31.block d (lt_of_block h25) (fun e => out_of h26 h27 h25 (by decide) (by decide) (by decide) (by decide) (by decide) e)).trans h25
 have K34 : Keeps (One d) w V31 := K29.then j31 (fun i hi hm => absurd hi (hm.elim (fun hm => by omega) (fun hm => by have := gFV10 _ hm; omega)))
 have z35 := j31.size
 refine eqr_ nl7_ <| kk 4 <| ppq (pT d (12 + v)) (exec_cast (v := pT d (12 + v * 1)) (by simp) (ixa d 12 .i64 v 1 underlying77 (by omega))) <| ppq (pT q 0) (lc h33 ((detC_at _ _ _ (by omega)).trans (congrArg (fun o => some (ptrV o)) (upP_self _ _ _))) (k := 12 + v)) <| kk 1 <| ps_end <| then_n <| u_ <| so_ (pT q 0) ?_
 exact ⟨q, sp, r, _, _, rfl, h33, ⟨h32, hSV31, hRV31⟩, ⟨(show (((dlo p h).toNat : Nat) : Int) = _ by omega), ab, (show mvV A.V _ = _ by rw [ac, mvV_none])⟩, ⟨(show (((dfl p h).toNat : Nat) : Int) = _ by omega), bb, (show mvV B.V _ = _ by rw [bc, mvV_none])⟩, fun j hj => hj.elim (fun hj => by have e : j = sp := hj; omega) (fun hj => by have := gFV10 j hj; omega), K34⟩
theorem DetP.made {w w' : World} {d : Nat} {p : Par} {h : Int} {g : Nat → Int} {A : List Att} {Q : List Pro} {P : Nat → Option PD} {who : Nat → Nat} (s : DetP w d p h g A Q P who) {v : Nat} {x : PD} (hv : v < 32) (hn : P v = none) (k : Keeps (One d) w w') (hd : HP w' d (detC p h (upP (Pq P) v (some x.q))) 79)
  (hp : PartAt w' x (v : Int) p.win (dep p (g v)) (Sp.viewOf (prs A v)) ∧ ((x.A.low : Int) = dlo p (g v) ∧ (x.A.n : Int) = p.win ∧ x.A.V = vaOf A v (dlo p (g v))) ∧ ((x.B.low : Int) = dfl p (g v) ∧ (x.B.n : Int) = p.win * p.elen ∧ x.B.V = vbOf Q v (dfl p (g v))))
  (ho : ∀ j, x.own j → w.heap.size ≤ j) (hf : ∀ j, ¬ x.FP j) : ∃ who', DetP w' d p h g A Q (fun u => if u = v then some x else P u) who' := by
 have hst : Still w (One d) := ⟨Odd.one s.blk (by decide), Odd.one s.blk (by decide), Odd.one s.blk (by decide), Odd.one s.blk (by decide)⟩
 refine ⟨fun j => @ite _ (x.own j) (Classical.propDecidable _) (v + 1) (who j), ?_, fun u y hu hy => ?_, fun u hu hy => ?_, ?_, fun u y hu hy j hj => ?_, fun u y hu hy j hj => ?_⟩
 ·have e : Pq (fun u => if u = v then some x else P u) = upP (Pq P) v (some x.q) := by
   funext u; show Option.map PD.q _ = upP _ _ _ u
   unfold upP
   by_cases hu : u = v
   ·subst hu; simp only [if_true, Option.map_some]
   ·simp only [if_neg hu]; rfl
  rw [e]; exact hd
 ·by_cases e : u = v
  ·subst e
   simp only [if_true, Option.some.injEq] at hy
   subst hy; exact hp
  ·simp only [if_neg e] at hy
   obtain ⟨b1, b2, b3⟩ := s.part u y hu hy
   refine ⟨b1.keeps k (fun j hj e2 => ?_) (fun j hj e2 => ?_) hst, b2, b3⟩
   ·have a := s.who1 u y hu hy j hj; have b := s.who0; rw [show j = d from e2] at a; omega
   ·have a := s.who2 u y hu hy j hj; have b := s.who0; rw [show j = d from e2] at a; omega
 ·by_cases e : u = v
  ·subst e; simp only [if_true] at hy; cases hy
  ·simp only [if_neg e] at hy
   exact s.none_ u hu hy
 ·rw [if_neg (fun e => by have := ho d e; have := lt_of_block s.blk; omega)]; exact s.who0
 ·by_cases e : u = v
  ·subst e
   simp only [if_true, Option.some.injEq] at hy
   subst hy
   rw [if_pos hj]
  ·simp only [if_neg e] at hy
   rw [if_neg (fun e => by have := ho j e; have := (s.part u y hu hy).1.lt j hj; omega)]; exact s.who1 u y hu hy j hj
 ·by_cases e : u = v
  ·subst e
   simp only [if_true, Option.some.injEq] at hy
   subst hy
   exact (hf j hj).elim
  ·simp only [if_neg e] at hy
   rw [if_neg (fun e => by have := ho j e; have := (s.part u y hu hy).1.span.fp j hj; omega)]; exact s.who2 u y hu hy j hj
theorem dof_ok {w : World} {d : Nat} {p : Par} {h : Int} {A : List Att} {Q : List Pro} {P : Nat → Option PD} {who : Nat → Nat} (s : DetP w d p h (fun _ => h) A Q P who) (hk : DOk p h) {v : Nat} (hv : v < 32) :
  Calls prog 48 #[pT d 0, iI (v : Int)] w fun e w' => ∃ x P' who', e = .returned (pT x.q 0) ∧ P' v = some x ∧ (∀ u, u ≠ v → P' u = P u) ∧ (P v = some x ∨ (P v = none ∧ (∀ j, x.own j → w.heap.size ≤ j) ∧ x.FP = Nob)) ∧ DetP w' d p h (fun _ => h) A Q P' who' ∧ Keeps (One d) w w' := by
 cases hP : P v with
 | some x =>
  refine (dof_found d v x.q p h (Pq P) w s.blk hv (by unfold Pq; rw [hP]; rfl)).mono ?_
  rintro e w' ⟨rfl, rfl⟩
  exact ⟨x, P, who, rfl, hP, fun _ _ => rfl, .inl rfl, s, Keeps.refl _ _⟩
 | none =>
  refine (dof_made d v p h (Pq P) w s.blk hv (by unfold Pq; rw [hP]; rfl) hk).mono ?_
  rintro e w' ⟨q, sp, r, X, Y, rfl, hd, hp, ⟨a1, a2, a3⟩, ⟨b1, b2, b3⟩, ho, k⟩
  obtain ⟨n1, n2⟩ := s.none_ v hv hP
  obtain ⟨who', hw⟩ := s.made (x := ⟨q, sp, r, X, Y, Nob⟩) hv hP k hd ⟨by rw [prs_none n1]; exact hp, ⟨a1, a2, a3.trans (vaOf_none n1).symm⟩, ⟨b1, b2, b3.trans (vbOf_none n2).symm⟩⟩ ho (fun _ e => e)
  exact ⟨_, _, who', rfl, if_pos rfl, fun u hu => if_neg hu, .inr ⟨rfl, ho, rfl⟩, hw, k⟩
theorem exec_index_ptr {P : Program} {ρ : Operand → Value} {o : Oper} {w : World} (t : TypeId) (x y : Operand) (ho : o.op = .index t x y) (cs : Array Value) (hx : ρ x = .agg cs) (kd : IntKind) (k : Nat) (hy : ρ y = .int kd (k : Int)) (n : Nat) (e : TypeId) (hu : P.underlying t = some (.array n e)) (he : ∃ e2, P.underlying e = some (.pointer e2))
  (hs : (P.info? e).map (·.size) = some 1) (hk : k < n) (v : Value) (hv : cs[k]? = some v) : (execOp ρ o).run P w = .ok (.value v) w := by
 obtain ⟨i, hi, h1⟩ := Option.map_eq_some_iff.1 hs
 obtain ⟨e2, he⟩ := he
 have hp : (part e cs k).run P w = .ok v w := by simp [part, isAgg, run_underlying he, hv]
 have h0 : (0 : Int) ≤ (k : Int) ∧ (k : Int) < (n : Int) := by omega
 unfold execOp
 simp only [ho, hx, hy, Instr.index, asIntOf, Sem.run_bind, Sem.run_pure, Result.andThen_ok, run_underlying hu, if_pos h0]
 rw [show (sizeOf e).run P w = .ok 1 w by simp [go_sem, sizeOf, typeInfo, hi, h1]]
 simp only [Result.andThen_ok, Int.toNat_natCast, Nat.mul_one, hp]
def prt (P : Nat → Option Nat) : List Value := (List.range 32).map fun v => ptrV (P v)
theorem prt_get (P : Nat → Option Nat) {k : Nat} (hk : k < 32) {o : Option Nat} (h : P k = o) : (prt P).toArray[k]? = some (ptrV o) := by
 unfold prt; rw [List.getElem?_toArray, List.getElem?_map, List.getElem?_range hk, ← h]; rfl
theorem detC_seg (p : Par) (h : Int) (P : Nat → Option Nat) : ∀ (j : Nat) (u : Value), (prt P)[j]? = some u → (detC p h P)[12 + j]? = some u := fun j u hj => by
 unfold detC detL
 have e : p.cells.toList.length = 11 := rfl
 rw [List.getElem?_toArray, List.getElem?_append_right (by omega), e, show 12 + j - 11 = j + 1 by omega, List.getElem?_cons_succ]; exact hj
theorem three (P : Nat → Option Nat) (k : Nat) : 32 ≤ k ∨ (k < 32 ∧ P k = none) ∨ (k < 32 ∧ ∃ q, P k = some q) := by
 by_cases h : k < 32
 ·cases hP : P k with
  | none => exact .inr (.inl ⟨h, rfl⟩)
  | some q => exact .inr (.inr ⟨h, q, rfl⟩)
 ·exact .inl (by omega)
def qc66_0 (n : Nat) : Code := partOf f17 n
theorem dMove_low (d : Nat) (p : Par) (h : Int) (P : Nat → Option Nat) (w : World) (hd : HP w d (detC p h P) 79) (x : Int) (hh0 : ¬ h = 0) (q1 : x < 1) :
  Calls prog 17 #[pT d 0, iI x] w (fun e w' => e = .returned (iI 3) ∧ w = w') := by
 have K0 := kz0 w
 refine sf_ (qc66_0 1) func17 <| qr_ [0] <| kk 1 <| eq_ <| bl_ 0 <| qr_ [0, 1, 2] <| kk 1 ?_
 refine pct ((dnone_no d p h P _ hd hh0).mono ?_)
 rintro e w1 ⟨rfl, rfl⟩
 refine ⟨_, rfl, ?_⟩
 refine kk 1 <| en_ <| qr_ nl7_ <| kk 1 <| pP (dtT (((x) : Int) < ((1) : Int))) <| kk 5 <| ey_ <| qr_ [0] <| kk 1 <| eu_ <| blk_r <| then_r <| so_ (iI 3) ?_
 exact ⟨rfl, rfl⟩
theorem dMove_high (d : Nat) (p : Par) (h : Int) (P : Nat → Option Nat) (w : World) (hd : HP w d (detC p h P) 79) (x : Int) (hh0 : ¬ h = 0) (q1 : 1 ≤ x) (q2 : 4294967296 < x) :
  Calls prog 17 #[pT d 0, iI x] w (fun e w' => e = .returned (iI 3) ∧ w = w') := by
 have K0 := kz0 w
 refine sf_ (qc66_0 1) func17 <| qr_ [0] <| kk 1 <| eq_ <| bl_ 0 <| qr_ [0, 1, 2] <| kk 1 ?_
 refine pct ((dnone_no d p h P _ hd hh0).mono ?_)
 rintro e w1 ⟨rfl, rfl⟩
 refine ⟨_, rfl, ?_⟩
 refine kk 1 <| en_ <| qr_ nl7_ <| kk 1 <| pP (dtF (((x) : Int) < ((1) : Int))) <| kk 2 <| pP (dtT (((x) : Int) > ((4294967296) : Int))) <| kk 2 <| ey_ <| qr_ [0] <| kk 1 <| eu_ <| blk_r <| then_r <| so_ (iI 3) ?_
 exact ⟨rfl, rfl⟩
theorem dMove_back (d : Nat) (p : Par) (h : Int) (P : Nat → Option Nat) (w : World) (hd : HP w d (detC p h P) 79) (x : Int) (hh0 : ¬ h = 0) (q1 : 1 ≤ x) (q2 : x ≤ 4294967296) (q3 : x < h) :
  Calls prog 17 #[pT d 0, iI x] w (fun e w' => e = .returned (iI 9) ∧ w = w') := by
 have K0 := kz0 w
 refine sf_ (qc66_0 1) func17 <| qr_ [0] <| kk 1 <| eq_ <| bl_ 0 <| qr_ [0, 1, 2] <| kk 1 ?_
 refine pct ((dnone_no d p h P _ hd hh0).mono ?_)
 rintro e w1 ⟨rfl, rfl⟩
 refine ⟨_, rfl, ?_⟩
 refine kk 1 <| en_ <| qr_ nl7_ <| kk 1 <| pP (dtF (((x) : Int) < ((1) : Int))) <| kk 2 <| pP (dtF (((x) : Int) > ((4294967296) : Int))) <| kk 2 <| en_ <| qr_ nl7_ <| kk 2 <| kk 2 <| pP (lc (hd) (detC_h _ _ _)) <| pP (dtT (((x) : Int) < ((h) : Int))) <| kk 1 <| ey_ <| qr_ [0] <| kk 1 <| eu_ <| blk_r <| then_r <| so_ (iI 9) ?_
 exact ⟨rfl, rfl⟩
theorem dMove_core (d : Nat) (p : Par) (h : Int) (P : Nat → Option Nat) (w : World) (hd : HP w d (detC p h P) 79) (x : Int) (hh0 : ¬ h = 0) (q1 : 1 ≤ x) (q2 : x ≤ 4294967296) (q3 : h ≤ x) (MM : Nat → Prop) (Inv : Nat → World → Prop) (hMd : MM d) (h0 : ∀ W : World, HP W d (detC p x P) 79 → Keeps (One d) w W → Inv 0 W) (hst : ∀ (k q : Nat) (W : World), k < 32 → P k = some q → Inv k W → Calls prog 41 #[pT d 0, pT q 0] W fun e W' => e = .returned (.tuple #[]) ∧ Inv (k + 1) W' ∧ Keeps MM W W') (hsk : ∀ (k : Nat) (W : World), k < 32 → P k = none → Inv k W → Inv (k + 1) W) (hnb : ∀ (k : Nat) (W W' : World), Inv k W → Keeps Nob W W' → Inv k W') :
  Calls prog 17 #[pT d 0, iI x] w (fun e w' => e = .returned (iI 0) ∧ Inv 32 w' ∧ Keeps MM w w') := by
 have K0 : Keeps MM w w := Keeps.refl _ _
 refine sf_ (qc66_0 1) func17 <| qr_ [0] <| kk 1 <| eq_ <| bl_ 0 <| qr_ [0, 1, 2] <| kk 1 ?_
 refine pct ((dnone_no d p h P _ hd hh0).mono ?_)
 rintro e w1 ⟨rfl, rfl⟩
 refine ⟨_, rfl, ?_⟩
 refine kk 1 <| en_ <| qr_ nl7_ <| kk 1 <| pP (dtF (((x) : Int) < ((1) : Int))) <| kk 2 <| pP (dtF (((x) : Int) > ((4294967296) : Int))) <| kk 2 <| en_ <| qr_ nl7_ <| kk 2 <| kk 2 <| pP (lc (hd) (detC_h _ _ _)) <| pP (dtF (((x) : Int) < ((h) : Int))) <| kk 1 <| en_ <| s_ <| blk_n <| tqr_ nl5_ <| kk 4 <| pce 3 d 11 (iI x) (detC p x P) hd (rc (hd) (detC_h _ _ _)) (detC_seth _ _ _ _) fun V1 h2 j1 => ?_
 have h3 : Keeps (One d) w V1 := (Keeps.refl _ _).trans j1
 have K4 : Keeps MM w V1 := K0.then j1 (fun i hi hm => by unfold Own.One at hm; subst hm; exact hMd)
 have z5 := j1.size
 refine eq_ <| qr_ nl5_ <| kk 3 <| ppq (.agg (prt P).toArray) (exec_cast (v := .agg (prt P).toArray) rfl (exec_load_seg 77 (.tmp 30) (by kernel_rfl) d 12 (by kernel_rfl) (prt P) _ _ _ h2 (detC_seg _ _ _) underlying77 rfl (by kernel_rfl))) <| kk 1 <| et_ <| bl_ 1 ?_
 refine sy_loop (qc66_0 244) (fun a V => ∃ (k : Nat), (Fr 41 [(0, pT d 0), (31, .agg (prt P).toArray), (32, iN k)] [] a) ∧ (k ≤ 32) ∧ (Inv k V) ∧ (Keeps MM w V)) (fun a _ => 32 - (intOf (a.tmps.getD 32 undef)).toNat) (by kernel_rfl) ?_ ?_
 ·exact ⟨0, fq, by omega, (h0 _ h2 h3), K4⟩
 ·rintro a V6 ⟨k, hfr, hk_, h7, K8⟩
  obtain ⟨uu9, rfl⟩ := Fr.open hfr
  rcases three P k with ge_k | ⟨lt_k, hPk⟩ | ⟨lt_k, q, hPk⟩
  ·have eq_k : k = 32 := by omega
   refine qr_ [0] <| pP (dtF ((k : Int) < ((32) : Int))) <| eq_ <| n_ <| sy_exit 1 (by kernel_rfl) <| then_e <| then_e <| blk_e <| tqr_ [0] <| kk 1 <| eu_ <| so_ (iI 0) ?_
   exact ⟨rfl, eq_k ▸ h7, K8⟩
  ·show _
   refine qr_ [0] <| pP (dtT ((k : Int) < ((32) : Int))) <| eq_ <| y_ <| s_ <| tq_ <| bl_ 2 <| qr_ [0, 1] <| ppq (.pointer none) (exec_index_ptr 77 (.tmp 31) (.tmp 32) (by kernel_rfl) (prt P).toArray (by kernel_rfl) .i64 k (by kernel_rfl) 32 76 underlying77 ⟨_, underlying76⟩ (by kernel_rfl) (by omega) _ (prt_get P lt_k hPk)) <| kk 1 <| eqr_ [0, 1] <| kk 2 <| en_ <| s_ <| blk_n <| tr_ [0, 1] <| pP (cwN (n := k + 1)) <| kk 1 <| et_ ?_
   refine ⟨⟨k + 1, fq, by omega, hsk k _ lt_k hPk h7, K8⟩, ?_⟩
   exact ltm (32 - (k + 1)) (32 - k)
  ·show _
   refine qr_ [0] <| pP (dtT ((k : Int) < ((32) : Int))) <| eq_ <| y_ <| s_ <| tq_ <| bl_ 2 <| qr_ [0, 1] <| ppq (pT q 0) (exec_index_ptr 77 (.tmp 31) (.tmp 32) (by kernel_rfl) (prt P).toArray (by kernel_rfl) .i64 k (by kernel_rfl) 32 76 underlying77 ⟨_, underlying76⟩ (by kernel_rfl) (by omega) _ (prt_get P lt_k hPk)) <| kk 1 <| eqr_ [0, 1] <| kk 2 <| ey_ <| r_ [0, 1, 2] <| kk 2 ?_
   refine pct ((hst k q _ lt_k hPk h7).mono ?_)
   rintro e V10 ⟨rfl, hIV10, j10⟩
   refine ⟨_, rfl, ?_⟩
   have K11 : Keeps MM w V10 := K8.then j10 (fun i hi hm => hm)
   have z12 := j10.size
   refine ps_end <| blk_n <| tr_ [0, 1] <| pP (cwN (n := k + 1)) <| kk 1 <| et_ ?_
   refine ⟨⟨k + 1, fq, by omega, hIV10, K11⟩, ?_⟩
   exact ltm (32 - (k + 1)) (32 - k)
def DetM (d : Nat) (p : Par) (h h' : Int) (A : List Att) (Q : List Pro) (P0 : Nat → Option PD) (k : Nat) (w : World) : Prop :=
 ∃ P who, Pq P = Pq P0 ∧ (∀ j, DF d P j → DF d P0 j) ∧ (∀ j, DR P j → DR P0 j) ∧ DetP w d p h' (fun u => if u < k then h' else h) A Q P who
theorem DetP.rise {w w' : World} {d : Nat} {p : Par} {h h' : Int} {g : Nat → Int} {A : List Att} {Q : List Pro} {P : Nat → Option PD} {who : Nat → Nat} (s : DetP w d p h g A Q P who) (k : Keeps (One d) w w') (hd : HP w' d (detC p h' (Pq P)) 79) : DetP w' d p h' g A Q P who := by
 have hst : Still w (One d) := ⟨Odd.one s.blk (by decide), Odd.one s.blk (by decide), Odd.one s.blk (by decide), Odd.one s.blk (by decide)⟩
 refine ⟨hd, fun u y hu hy => ?_, s.none_, s.who0, s.who1, s.who2⟩
 obtain ⟨b1, b2, b3⟩ := s.part u y hu hy
 refine ⟨b1.keeps k (fun j hj e2 => ?_) (fun j hj e2 => ?_) hst, b2, b3⟩
 ·have a := s.who1 u y hu hy j hj; have b := s.who0; rw [show j = d from e2] at a; omega
 ·have a := s.who2 u y hu hy j hj; have b := s.who0; rw [show j = d from e2] at a; omega
theorem step_g {h h' : Int} {k : Nat} : (fun u => if u = k then h' else if u < k then h' else h) = (fun u : Nat => if u < k + 1 then h' else h) := by
 funext u
 by_cases a : u = k
 ·rw [if_pos a, if_pos (by omega)]
 ·rw [if_neg a]
  by_cases b : u < k
  ·rw [if_pos b, if_pos (by omega)]
  ·rw [if_neg b, if_neg (by omega)]
theorem dMove_on {w : World} {d : Nat} {p : Par} {h x : Int} {A : List Att} {Q : List Pro} {P : Nat → Option PD} {who : Nat → Nat} (s : DetP w d p h (fun _ => h) A Q P who) (hk : DOk p h) (hi : DInv p h A Q) (q2 : x ≤ 4294967296) (q3 : h ≤ x) :
  Calls prog 17 #[pT d 0, iI x] w fun e w' => e = .returned (iI 0) ∧ (∃ P' who', (∀ j, DF d P' j → DF d P j) ∧ (∀ j, DR P' j → DR P j) ∧ DetP w' d p x (fun _ => x) A Q P' who') ∧ Keeps (DF d P) w w' := by
 have hx : DOk p x := ⟨hk.1, hk.2.1, by have := hk.2.2; omega, q2⟩
 refine (dMove_core d p h (Pq P) w s.blk x (by have := hk.2.2; omega) hx.2.2.1 q2 q3 (DF d P) (DetM d p h x A Q P) (.inl rfl) (fun W hd k => ⟨P, who, rfl, fun _ e => e, fun _ e => e, ?_⟩) (fun k q W hlt hP hI => ?_) (fun k W hlt hP hI => ?_) (fun k W W' hI hK => ?_)).mono ?_
 ·have e : (fun u : Nat => if u < 0 then x else h) = fun _ => h := by funext u; exact if_neg (by omega)
  rw [e]; exact s.rise k hd
 ·obtain ⟨P1, who1, e1, e2, e3, t⟩ := hI
  obtain ⟨y, hy, rfl⟩ : ∃ y, P1 k = some y ∧ y.q = q := by
   rw [← e1] at hP
   unfold Pq at hP
   cases hc : P1 k with
   | none => rw [hc] at hP; cases hP
   | some y => rw [hc] at hP; exact ⟨y, rfl, Option.some.inj hP⟩
  have eg : (if k < k then x else h) = h := if_neg (by omega)
  refine (dgoes_ok t hx hlt hy (by simp only [eg]; exact hk) (by simp only [eg]; exact q3) (by simp only [eg]; exact fun y hy => hi.top (k : Int) y hy)).mono ?_
  rintro e w' ⟨rfl, x', who', a1, a2, a3, a4, a5⟩
  refine ⟨rfl, ⟨_, who', ?_, fun j hj => e2 j ?_, fun j hj => e3 j ?_, by rw [← step_g]; exact a4⟩, a5.mono fun j _ hj => e2 j (.inr ⟨k, y, hlt, hy, hj⟩)⟩
  ·rw [← e1]; funext u; unfold Pq
   by_cases hu : u = k
   ·subst hu; simp only [if_true, hy, Option.map_some, a1]
   ·simp only [if_neg hu]
  ·rcases hj with rfl | ⟨u, z, hu, hz, hj⟩
   ·exact .inl rfl
   ·by_cases hc : u = k
    ·subst hc
     simp only [if_true, Option.some.injEq] at hz
     subst hz; exact .inr ⟨u, y, hlt, hy, a2 ▸ hj⟩
    ·simp only [if_neg hc] at hz; exact .inr ⟨u, z, hu, hz, hj⟩
  ·obtain ⟨u, z, hu, hz, hj⟩ := hj
   by_cases hc : u = k
   ·subst hc
    simp only [if_true, Option.some.injEq] at hz
    subst hz; exact ⟨u, y, hlt, hy, a3 ▸ hj⟩
   ·simp only [if_neg hc] at hz; exact ⟨u, z, hu, hz, hj⟩
 ·obtain ⟨P1, who1, e1, e2, e3, t⟩ := hI
  have hn : P1 k = none := by
   rw [← e1] at hP
   unfold Pq at hP
   cases hc : P1 k with
   | none => rfl
   | some y => rw [hc] at hP; cases hP
  refine ⟨P1, who1, e1, e2, e3, t.blk, fun u y hu hy => ?_, t.none_, t.who0, t.who1, t.who2⟩
  have hne : u ≠ k := fun e => by rw [e, hn] at hy; cases hy
  have hc := t.part u y hu hy
  have eg : (if u < k then x else h) = (if u < k + 1 then x else h) := by
   by_cases b : u < k
   ·rw [if_pos b, if_pos (by omega)]
   ·rw [if_neg b, if_neg (by omega)]
  simp only [eg] at hc
  exact hc
 ·obtain ⟨P1, who1, e1, e2, e3, t⟩ := hI
  exact ⟨P1, who1, e1, e2, e3, t.keepsN hK⟩
 ·rintro e w' ⟨rfl, ⟨P1, who1, e1, e2, e3, t⟩, k⟩
  refine ⟨rfl, ⟨P1, who1, e2, e3, t.blk, fun u y hu hy => ?_, t.none_, t.who0, t.who1, t.who2⟩, k⟩
  have hc := t.part u y hu hy
  simp only [if_pos hu] at hc
  exact hc
theorem check_at (p : Par) (hp : p.Ok) {c y : Int} (hc : p.check = (c, y)) (w : World) : Calls prog 42 #[.agg p.cells] w (RK w (.tuple #[iI c, iI y])) := by
 have h := pCheck_ok p hp w
 rw [hc] at h; exact h
def qc67_0 (n : Nat) : Code := partOf f19 n
theorem dNew_bad (p : Par) (w : World) (hp : p.Ok) (c y : Int) (hc : p.check = (c, y)) (hc0 : ¬ c = 0) :
  Calls prog 19 #[.agg p.cells] w (RK w (.tuple #[.pointer none, iI c])) := by
 have K0 := kz0 w
 refine sf_ (qc67_0 1) func19 <| qr_ [0, 1, 2] <| pbg 47 p.cells fun V1 g eg h2 j1 => ?_
 have n3 := nk eg K0
 have ⟨K4, z5⟩ := j1.z0 K0
 refine kk 2 <| eq_ <| qr_ nl7_ <| ppq (.agg p.cells) (exec_load_row 47 (.tmp 1) (by kernel_rfl) _ (by kernel_rfl) 47 p.cells (0, 0) _ h2 underlying47 rfl (by kernel_rfl)) <| pcs (check_at p hp hc _) fun V6 j6 => ?_
 have ⟨K8, z9⟩ := j6.z0 K4
 refine kk 5 <| eqr_ [0, 1] <| kk 1 <| pP (nqT ((c) : Int) ((0) : Int)) <| ey_ <| qr_ [0, 1, 2] <| kk 3 <| eu_ <| then_r <| so_ (.tuple #[.pointer none, iI c]) ?_
 exact ⟨rfl, K8⟩
theorem dNew_fine (p : Par) (w : World) (hp : p.Ok) (y : Int) (hc : p.check = (0, y)) :
  Calls prog 19 #[.agg p.cells] w (fun e w' => ∃ d, e = .returned (.tuple #[pT d 0, iI 0]) ∧ HP w' d (detC p 1 fun _ => none) 79 ∧ w.heap.size ≤ d ∧ Keeps Nob w w') := by
 have K0 := kz0 w
 refine sf_ (qc67_0 1) func19 <| qr_ [0, 1, 2] <| pbg 47 p.cells fun V1 g eg h2 j1 => ?_
 have n3 := nk eg K0
 have ⟨K4, z5⟩ := j1.z0 K0
 refine kk 2 <| eq_ <| qr_ nl7_ <| ppq (.agg p.cells) (exec_load_row 47 (.tmp 1) (by kernel_rfl) _ (by kernel_rfl) 47 p.cells (0, 0) _ h2 underlying47 rfl (by kernel_rfl)) <| pcs (check_at p hp hc _) fun V6 j6 => ?_
 have ⟨K8, z9, h7⟩ := j6.z1 K4 h2
 refine kk 5 <| eqr_ [0, 1] <| kk 2 <| en_ <| s_ <| tqr_ nl5_ <| ppq (.agg p.cells) (exec_load_row 47 (.tmp 1) (by kernel_rfl) _ (by kernel_rfl) 47 p.cells (0, 0) _ h7 underlying47 rfl (by kernel_rfl)) <| kk 1 <| pbg 79 (detC p 1 fun _ => none) fun V10 d ed h11 j10 => ?_
 have := nqk1 ed h7 K8
 have ⟨K15, z16⟩ := j10.z0 K8
 refine kk 2 <| eu_ <| so_ (.tuple #[pT d 0, iI 0]) ?_
 exact ⟨_, rfl, h11, by omega, K15⟩
theorem Att.tl {a : Att} (h : a.r.length = 32) : a.cl.length = 36 := by show a.c.toList.length = 36; have := Att.c_size a h; simpa using this
theorem Pro.tl {a : Pro} (h : a.r.length = 32) : a.cl.length = 35 := by show a.c.toList.length = 35; have := Pro.c_size a h; simpa using this
def vdC (k : Int) (a b : List Value) (f : Int) : Array Value := (iI k :: (a ++ (b ++ [iI f]))).toArray
section
variable {k f : Int} {a b : List Value} (la : a.length = 36) (lb : b.length = 35)
include la lb
theorem vdC_size : (vdC k a b f).size = 73 := by simp [vdC, la, lb]
theorem vdC_first : (vdC k a b f)[72]? = some (iI f) := by
 unfold vdC
 rw [List.getElem?_toArray, List.getElem?_cons_succ, List.getElem?_append_right (by omega), List.getElem?_append_right (by omega), la, lb]; rfl
theorem vdC_setf (x : Int) : (vdC k a b f).setIfInBounds 72 (iI x) = vdC k a b x := by
 unfold vdC
 apply Array.toList_inj.1
 rw [Array.toList_setIfInBounds, List.set_cons_succ, List.set_append_right _ _ (by omega), List.set_append_right _ _ (by omega), la, lb]; rfl
omit lb in
theorem vdC_seta (_lb : b.length = 35) {x : List Value} (lx : x.length = 36) : seg (vdC k a b f) 1 x = vdC k x b f := by
 unfold vdC seg
 simp only [List.take_succ_cons, List.take_zero, lx, List.drop_succ_cons, show 1 + 36 = 36 + 1 from rfl]
 rw [List.drop_left' la]; simp
theorem vdC_setb {x : List Value} (lx : x.length = 35) : seg (vdC k a b f) 37 x = vdC k a x f := by
 unfold vdC seg
 simp only [List.take_succ_cons, lx, show 37 + 35 = 72 from rfl, List.drop_succ_cons, show (37 : Nat) = 36 + 1 from rfl]
 rw [List.take_left' la, List.drop_append, la, List.drop_of_length_le (by omega), List.nil_append, List.drop_left' (by omega)]; simp
end
def qc68_2 (n : Nat) : Code := partOf f120 n
theorem dby1_ok (bv g : Nat) (k f : Int) (x y : List Value) (la : x.length = 36) (lb : y.length = 35) (x0 : Att) (hr_x0 : x0.r.length = 32) (hne : g ≠ bv) (w : World) (hg : HP w g (Att.c x0) 28) (hb : HP w bv (vdC k x y f) 57) :
  Calls prog 120 #[pT bv 0, pT g 0] w (fun e w' => e = .returned (.tuple #[]) ∧ HP w' bv (vdC k x0.cl y f) 57 ∧ Keeps (One bv) w w') := by
 have K0 := Keeps.refl (One bv) w
 refine sf_ (qc68_2 1) func120 <| r_ nl5_ <| kk 1 <| pP (ldz 28 g (hg) (Att.c_size _ hr_x0)) <| kk 2 ?_
 obtain ⟨V1, eV1⟩ : ∃ V, w.setCells bv 1 (Att.c x0).toList = V := ⟨_, rfl⟩
 have j1 : Keeps (One bv) w V1 := eV1 ▸ Keeps.setCells _ _ _ _
 have h2 : HP V1 bv (vdC k x0.cl y f) 57 := eV1 ▸ (heap_setCells _ _ (Att.c x0).toList 1 _ _ hb (by rw [vdC_size la lb, show (Att.c x0).toList.length = 36 from Att.tl hr_x0]; decide)).trans (congrArg (fun c => some (Obj.cells c 57 (0, 0))) (vdC_seta la lb (Att.tl hr_x0)))
 refine pzq (w' := V1) (by rw [← eV1]; exact exec_store_mid 28 (.tmp 6) (.tmp 4) (by kernel_rfl) bv 1 (by kernel_rfl) (Att.c x0) (by kernel_rfl) _ _ hb (by rw [vdC_size la lb, Att.c_size _ hr_x0]; decide) (by rw [Att.c_size _ hr_x0]; kernel_rfl) (Att.c_one _)) ?_
 clear eV1
 have K4 := K0.nw j1 (rfl)
 have z5 := j1.size
 refine ps_end <| sy_fall (.tuple #[]) rfl (by kernel_rfl) ?_
 exact ⟨rfl, h2, K4⟩
def qc68_1 (n : Nat) : Code := partOf f53 n
theorem dPropose1_ok (bv g : Nat) (k f : Int) (x y : List Value) (la : x.length = 36) (lb : y.length = 35) (x0 : Pro) (hr_x0 : x0.r.length = 32) (hne : g ≠ bv) (w : World) (hg : HP w g (Pro.c x0) 37) (hb : HP w bv (vdC k x y f) 57) :
  Calls prog 53 #[pT bv 0, pT g 0] w (fun e w' => e = .returned (.tuple #[]) ∧ HP w' bv (vdC k x x0.cl f) 57 ∧ Keeps (One bv) w w') := by
 have K0 := Keeps.refl (One bv) w
 refine sf_ (qc68_1 1) func53 <| r_ nl5_ <| kk 1 <| pP (ldz 37 g (hg) (Pro.c_size _ hr_x0)) <| kk 2 ?_
 obtain ⟨V1, eV1⟩ : ∃ V, w.setCells bv 37 (Pro.c x0).toList = V := ⟨_, rfl⟩
 have j1 : Keeps (One bv) w V1 := eV1 ▸ Keeps.setCells _ _ _ _
 have h2 : HP V1 bv (vdC k x x0.cl f) 57 := eV1 ▸ (heap_setCells _ _ (Pro.c x0).toList 37 _ _ hb (by rw [vdC_size la lb, show (Pro.c x0).toList.length = 35 from Pro.tl hr_x0]; decide)).trans (congrArg (fun c => some (Obj.cells c 57 (0, 0))) (vdC_setb la lb (Pro.tl hr_x0)))
 refine pzq (w' := V1) (by rw [← eV1]; exact exec_store_mid 37 (.tmp 6) (.tmp 4) (by kernel_rfl) bv 37 (by kernel_rfl) (Pro.c x0) (by kernel_rfl) _ _ hb (by rw [vdC_size la lb, Pro.c_size _ hr_x0]; decide) (by rw [Pro.c_size _ hr_x0]; kernel_rfl) (Pro.c_one _)) ?_
 clear eV1
 have K4 := K0.nw j1 (rfl)
 have z5 := j1.size
 refine ps_end <| sy_fall (.tuple #[]) rfl (by kernel_rfl) ?_
 exact ⟨rfl, h2, K4⟩
def qc68_0 (n : Nat) : Code := partOf f57 n
theorem dPropose2_ok (bv g : Nat) (k f : Int) (x y : List Value) (la : x.length = 36) (lb : y.length = 35) (x0 : Pro) (hr_x0 : x0.r.length = 32) (hne : g ≠ bv) (w : World) (hg : HP w g (Pro.c x0) 37) (hb : HP w bv (vdC k x y f) 57) :
  Calls prog 57 #[pT bv 0, pT g 0] w (fun e w' => e = .returned (.tuple #[]) ∧ HP w' bv (vdC k x y x0.h) 57 ∧ Keeps (One bv) w w') := by
 have K0 := Keeps.refl (One bv) w
 refine sf_ (qc68_0 1) func57 <| r_ nl6_ <| kk 2 <| pP (lc (hg) (Pro.c_1 _)) <| kk 2 <| pce 3 bv 72 (iI x0.h) (vdC k x y x0.h) hb (rc (hb) (vdC_first la lb)) (vdC_setf la lb _) fun V1 h2 j1 => ?_
 have K4 := K0.nw j1 (rfl)
 have z5 := j1.size
 refine ps_end <| sy_fall (.tuple #[]) rfl (by kernel_rfl) ?_
 exact ⟨rfl, h2, K4⟩
def part_dby (n : Nat) : Code := partOf f86 n
theorem dby_ok (x0 : Att) (w : World) :
  Calls prog 86 #[.agg (Att.c x0)] w (fun e w' => ∃ g, e = .returned (.func (.func 120) #[] #[pT g 0]) ∧ HP w' g (Att.c x0) 28 ∧ w.heap.size ≤ g ∧ Keeps Nob w w') := by
 have K0 := kz0 w
 refine sf_ (part_dby 1) func86 <| qr_ [0, 1] <| pbg 28 (Att.c x0) fun V1 g eg h2 j1 => ?_
 have n3 := nk eg K0
 have ⟨K4, z5⟩ := j1.z0 K0
 refine kk 1 <| eqr_ [0, 1] <| kk 2 <| eu_ <| so_ (.func (.func 120) #[] #[pT g 0]) ?_
 exact ⟨g, rfl, h2, by omega, K4⟩
def part_dat (n : Nat) : Code := partOf f87 n
theorem dat_ok (d gl n : Nat) (w : World) :
  Calls prog 87 #[pT d 0, sS gl n n] w (fun e w' => ∃ gs gd, e = .returned (.func (.func 121) #[] #[pT gs 0, pT gd 0]) ∧ HP w' gs #[sS gl n n] 50 ∧ HP w' gd #[pT d 0] 22 ∧ w.heap.size ≤ gs ∧ w.heap.size ≤ gd ∧ Keeps Nob w w') := by
 have K0 := kz0 w
 refine sf_ (part_dat 1) func87 <| qr_ [0, 1, 2] <| pbx 22 (#[pT d 0]) (pT d 0) fun V1 gd egd h2 j1 => ?_
 have n3 := nk egd K0
 have ⟨K4, z5⟩ := j1.z0 K0
 refine pbx 50 (#[sS gl n n]) (sS gl n n) fun V6 gs egs h7 j6 => ?_
 have := nqk1 egs h2 K4
 have ⟨K11, z12, h10⟩ := j6.z1 K4 h2
 refine kk 1 <| eqr_ [0, 1] <| kk 2 <| eu_ <| so_ (.func (.func 121) #[] #[pT gs 0, pT gd 0]) ?_
 exact ⟨gs, gd, rfl, h7, h10, by omega, by omega, K11⟩
def qc69_0 (n : Nat) : Code := partOf f121 n
theorem dat1_1 (bv gs gd gl d : Nat) (x0 : Int) (k f : Int) (x y : List Value) (la : x.length = 36) (lb : y.length = 35) (p : Par) (hp : p.Ok) (h : Int) (P : Nat → Option Nat) (w : World) (hmx : i64ok (max 0 x0)) (hb : HP w bv (vdC k x y f) 57) (hs : HP w gs #[sS gl 1 1] 50) (hgd : HP w gd #[pT d 0] 22) (hl : HP w gl #[iI x0] 3) (hd : HP w d (detC p h P) 79) :
  Calls prog 121 #[pT bv 0, pT gs 0, pT gd 0] w (fun e w' => e = .returned (.tuple #[]) ∧ HP w' bv (vdC k x y (p.first (max 0 x0)).1) 57 ∧ Keeps (One bv) w w') := by
 have n1 : gs ≠ bv := fun e => by subst e; have hb := hs.symm.trans hb; injection hb with hb; injection hb with _ hb; exact absurd hb (by decide)
 have n2 : gd ≠ bv := fun e => by subst e; have hb := hgd.symm.trans hb; injection hb with hb; injection hb with _ hb; exact absurd hb (by decide)
 have n3 : gl ≠ bv := fun e => by subst e; have hb := hl.symm.trans hb; injection hb with hb; injection hb with _ hb; exact absurd hb (by decide)
 have n4 : d ≠ bv := fun e => by subst e; have hb := hd.symm.trans hb; injection hb with hb; injection hb with _ hb; exact absurd hb (by decide)
 have K0 := Keeps.refl (One bv) w
 refine sf_ (qc69_0 1) func121 <| qr_ [0] <| kk 1 <| eq_ <| qr_ [0, 1, 2] <| pP (lk hs) <| pP (len_ (some ⟨gl, 0, none⟩) 1 1 underlying50) <| kk 1 <| et_ <| bl_ 0 <| sy_rounds 2 (qc69_0 52) (by kernel_rfl) <| rd_step <| qr_ [0] <| kk 1 <| eq_ <| y_ <| s_ <| tq_ <| bl_ 1 <| qr_ [0, 1, 2] <| ppq (pT gl 0) (exec_cast (v := pT gl (0 + 0 * 1)) (by simp) (ixs gl 0 1 1 .i64 0 1 underlying50 (by omega))) <| pP (lk hl) <| kk 1 <| er_ [0, 1, 2, 3] <| kk 2 <| ppq (iI (max 0 x0)) (exec_max (.tmp 13) (.tmp 14) #[3, 3] (by kernel_rfl) .i64 0 x0 (by kernel_rfl) (by kernel_rfl)) <| kk 1 ?_
 refine ps_end <| blk_n <| tr_ [0, 1] <| kk 2 <| et_ <| rd_step <| qr_ [0] <| kk 1 <| eq_ <| n_ <| sy_exit 0 (by kernel_rfl) <| then_e <| then_e <| blk_e <| tr_ nl13_ <| kk 1 <| pP (lk hgd) <| kk 2 <| ppq (.agg p.cells) (exec_cast (v := .agg p.cells.toList.toArray) rfl (exec_load_seg 47 (.tmp 21) (by kernel_rfl) d 0 (by kernel_rfl) p.cells.toList _ _ _ hd (detC_pseg _ _ _) underlying47 rfl (by kernel_rfl))) <| kk 1 <| pcs (pFirst_ok p hp (max 0 x0) hmx _) fun V1 j1 => ?_
 have ⟨K7, z8, h2⟩ := j1.z1 K0 hb
 refine kk 5 <| pce 3 bv 72 (iI (p.first (max 0 x0)).1) (vdC k x y ((p.first (max 0 x0)).1)) h2 (rc h2 (vdC_first la lb)) (vdC_setf la lb _) fun V9 h10 j9 => ?_
 have K15 := K7.nw j9 (rfl)
 have z16 := j9.size
 refine ps_end <| sy_fall (.tuple #[]) rfl (by kernel_rfl) ?_
 exact ⟨rfl, h10, K15⟩
theorem dat1_2 (bv gs gd gl d : Nat) (x0 x1 : Int) (k f : Int) (x y : List Value) (la : x.length = 36) (lb : y.length = 35) (p : Par) (hp : p.Ok) (h : Int) (P : Nat → Option Nat) (w : World) (hmx : i64ok (max (max 0 x0) x1)) (hb : HP w bv (vdC k x y f) 57) (hs : HP w gs #[sS gl 2 2] 50) (hgd : HP w gd #[pT d 0] 22) (hl : HP w gl #[iI x0, iI x1] 3) (hd : HP w d (detC p h P) 79) :
  Calls prog 121 #[pT bv 0, pT gs 0, pT gd 0] w (fun e w' => e = .returned (.tuple #[]) ∧ HP w' bv (vdC k x y (p.first (max (max 0 x0) x1)).1) 57 ∧ Keeps (One bv) w w') := by
 have n1 : gs ≠ bv := fun e => by subst e; have hb := hs.symm.trans hb; injection hb with hb; injection hb with _ hb; exact absurd hb (by decide)
 have n2 : gd ≠ bv := fun e => by subst e; have hb := hgd.symm.trans hb; injection hb with hb; injection hb with _ hb; exact absurd hb (by decide)
 have n3 : gl ≠ bv := fun e => by subst e; have hb := hl.symm.trans hb; injection hb with hb; injection hb with _ hb; exact absurd hb (by decide)
 have n4 : d ≠ bv := fun e => by subst e; have hb := hd.symm.trans hb; injection hb with hb; injection hb with _ hb; exact absurd hb (by decide)
 have K0 := Keeps.refl (One bv) w
 refine sf_ (qc69_0 1) func121 <| qr_ [0] <| kk 1 <| eq_ <| qr_ [0, 1, 2] <| pP (lk hs) <| pP (len_ (some ⟨gl, 0, none⟩) 2 2 underlying50) <| kk 1 <| et_ <| bl_ 0 <| sy_rounds 3 (qc69_0 52) (by kernel_rfl) <| rd_step <| qr_ [0] <| kk 1 <| eq_ <| y_ <| s_ <| tq_ <| bl_ 1 <| qr_ [0, 1, 2] <| ppq (pT gl 0) (exec_cast (v := pT gl (0 + 0 * 1)) (by simp) (ixs gl 0 2 2 .i64 0 1 underlying50 (by omega))) <| pP (lk hl) <| kk 1 <| er_ [0, 1, 2, 3] <| kk 2 <| ppq (iI (max 0 x0)) (exec_max (.tmp 13) (.tmp 14) #[3, 3] (by kernel_rfl) .i64 0 x0 (by kernel_rfl) (by kernel_rfl)) <| kk 1 ?_
 refine ps_end <| blk_n <| tr_ [0, 1] <| kk 2 <| et_ <| rd_step <| qr_ [0] <| kk 1 <| eq_ <| y_ <| s_ <| tq_ <| bl_ 1 <| qr_ [0, 1, 2] <| ppq (pT gl 1) (exec_cast (v := pT gl (0 + 1 * 1)) (by simp) (ixs gl 0 2 2 .i64 1 1 underlying50 (by omega))) <| pP (lk hl) <| kk 1 <| er_ [0, 1, 2, 3] <| kk 2 <| ppq (iI (max (max 0 x0) x1)) (exec_max (.tmp 13) (.tmp 14) #[3, 3] (by kernel_rfl) .i64 (max 0 x0) x1 (by kernel_rfl) (by kernel_rfl)) <| kk 1 <| ps_end <| blk_n <| tr_ [0, 1] <| kk 2 ?_
 refine ps_end <| then_n <| rd_step <| qr_ [0] <| kk 1 <| eq_ <| n_ <| sy_exit 0 (by kernel_rfl) <| then_e <| then_e <| blk_e <| tr_ nl13_ <| kk 1 <| pP (lk hgd) <| kk 2 <| ppq (.agg p.cells) (exec_cast (v := .agg p.cells.toList.toArray) rfl (exec_load_seg 47 (.tmp 21) (by kernel_rfl) d 0 (by kernel_rfl) p.cells.toList _ _ _ hd (detC_pseg _ _ _) underlying47 rfl (by kernel_rfl))) <| kk 1 <| pcs (pFirst_ok p hp (max (max 0 x0) x1) hmx _) fun V1 j1 => ?_
 have ⟨K7, z8, h2⟩ := j1.z1 K0 hb
 refine kk 5 <| pce 3 bv 72 (iI (p.first (max (max 0 x0) x1)).1) (vdC k x y ((p.first (max (max 0 x0) x1)).1)) h2 (rc h2 (vdC_first la lb)) (vdC_setf la lb _) fun V9 h10 j9 => ?_
 have K15 := K7.nw j9 (rfl)
 have z16 := j9.size
 refine ps_end <| sy_fall (.tuple #[]) rfl (by kernel_rfl) ?_
 exact ⟨rfl, h10, K15⟩
def attZ : List Value := [iI 0, iI 0, iI 0, .int .u8 0, .int .u8 0, .int .u8 0, .int .u8 0, .int .u8 0, .int .u8 0, .int .u8 0, .int .u8 0, .int .u8 0, .int .u8 0, .int .u8 0, .int .u8 0, .int .u8 0, .int .u8 0, .int .u8 0, .int .u8 0, .int .u8 0, .int .u8 0, .int .u8 0, .int .u8 0, .int .u8 0, .int .u8 0, .int .u8 0, .int .u8 0, .int .u8 0, .int .u8 0, .int .u8 0, .int .u8 0, .int .u8 0, .int .u8 0, .int .u8 0, .int .u8 0, .int .u64 0]
def proZ : List Value := [iI 0, iI 0, .int .u8 0, .int .u8 0, .int .u8 0, .int .u8 0, .int .u8 0, .int .u8 0, .int .u8 0, .int .u8 0, .int .u8 0, .int .u8 0, .int .u8 0, .int .u8 0, .int .u8 0, .int .u8 0, .int .u8 0, .int .u8 0, .int .u8 0, .int .u8 0, .int .u8 0, .int .u8 0, .int .u8 0, .int .u8 0, .int .u8 0, .int .u8 0, .int .u8 0, .int .u8 0, .int .u8 0, .int .u8 0, .int .u8 0, .int .u8 0, .int .u8 0, .int .u8 0, .int .u64 0]
theorem attZ_len : attZ.length = 36 := rfl
theorem proZ_len : proZ.length = 35 := rfl
def qc70_0 (n : Nat) : Code := partOf f56 n
theorem dverdict_one (kd : Int) (F0 : FuncId) (A00 : Value) (x1 y1 : List Value) (f1 : Int) (lx1 : x1.length = 36) (ly1 : y1.length = 35) (hone : (vdC kd x1 y1 f1).all (·.oneCell') = true) (g : Nat) (w : World) (hg : HP w g #[.func (.func (F0)) #[] #[A00]] 144) (hE0 : ∀ args w, (callFunc F0 args).run prog w = .ok (.enter F0 args) w) (hc0 : ∀ (bv : Nat) (W : World), w.heap.size ≤ bv → Keeps Nob w W → HP W bv (vdC kd attZ proZ 0) 57 → Calls prog F0 #[pT bv 0, A00] W fun e W' => e = .returned (.tuple #[]) ∧ HP W' bv (vdC kd x1 y1 f1) 57 ∧ Keeps (One bv) W W') :
  Calls prog 56 #[iI kd, sS g 1 1] w (RK w (.agg (vdC kd x1 y1 f1))) := by
 have K0 := kz0 w
 refine sf_ (qc70_0 1) func56 <| qr_ [0] <| pag 57 (zl0_) fun V1 res eres h2 j1 => ?_
 have := nqk1 eres hg K0
 have ⟨K6, z7, h5⟩ := j1.z1 K0 hg
 refine eqr_ [0, 1, 2, 3] <| kk 2 <| pag 57 (zl0_) fun V8 bv ebv h9 j8 => ?_
 have := nqk2 ebv h5 h2 K6
 have ⟨K15, z16, h13, h14⟩ := j8.z2 K6 h5 h2
 obtain ⟨V17, eV17, j17⟩ := rowset_step V8 bv ((zl2_ (iI kd)))
 have h18 : HP V17 bv (vdC kd attZ proZ 0) 57 := eV17 ▸ setRow_heap _ _ _ _ _ _ h9
 refine pzq (w' := V17) (by rw [← eV17]; exact exec_store_row 57 (.tmp 5) (.tmp 9) (by kernel_rfl) bv ((zl2_ (iI kd))) (by kernel_rfl) (by kernel_rfl) 57 (zl0_) h9 (by kernel_rfl) rfl (by kernel_rfl)) ?_
 clear eV17
 have ⟨K21, z22, h19, h20⟩ := j17.zo2 K15 h13 h14
 refine eq_ <| qr_ [0, 1, 2] <| kk 1 <| pP (len_ (some ⟨g, 0, none⟩) 1 1 underlying172) <| kk 1 <| et_ <| bl_ 0 <| sy_rounds 2 (qc70_0 116) (by kernel_rfl) <| rd_step <| qr_ [0] <| kk 1 <| eq_ <| y_ <| s_ <| tq_ <| bl_ 1 <| qr_ [0, 1, 2] <| ppq (pT g 0) (exec_cast (v := pT g (0 + 0 * 1)) (by simp) (ixs g 0 1 1 .i64 0 1 underlying172 (by omega))) <| pP (lk h19) <| kk 1 <| er_ [0, 1] <| kk 1 ?_
 refine pcv (F0) #[] #[A00] #[pT bv 0, A00] hE0 ((hc0 bv _ (by omega) K21 h18).mono ?_)
 rintro e V23 ⟨rfl, hbV23, j23⟩
 refine ⟨_, rfl, ?_⟩
 have ⟨K26, z27, h25⟩ := j23.zo1 K21 h20
 refine ps_end <| blk_n <| tr_ [0, 1] <| kk 2 <| et_ <| rd_step <| qr_ [0] <| kk 1 <| eq_ <| n_ <| sy_exit 0 (by kernel_rfl) <| then_e <| then_e <| blk_e <| tqr_ [0, 1] <| pP (ldz 57 bv (hbV23) (vdC_size lx1 ly1)) <| pst 57 res ((vdC kd x1 y1 f1)) h25 (by rw [vdC_size lx1 ly1]; kernel_rfl) (by rw [vdC_size lx1 ly1]; rfl) hone fun V28 h29 j28 => ?_
 have ⟨K32, z33⟩ := j28.zo0 K26
 refine eu_ <| sor 57 res h29 underlying57 (by rw [vdC_size lx1 ly1]; kernel_rfl) ?_
 exact ⟨rfl, K32⟩
theorem dverdict_two (kd : Int) (F0 : FuncId) (A00 : Value) (x1 y1 : List Value) (f1 : Int) (lx1 : x1.length = 36) (ly1 : y1.length = 35) (F1 : FuncId) (A10 A11 : Value) (x2 y2 : List Value) (f2 : Int) (lx2 : x2.length = 36) (ly2 : y2.length = 35) (hone : (vdC kd x2 y2 f2).all (·.oneCell') = true) (g : Nat) (w : World) (hg : HP w g #[.func (.func (F0)) #[] #[A00], .func (.func (F1)) #[] #[A10, A11]] 144) (hE0 : ∀ args w, (callFunc F0 args).run prog w = .ok (.enter F0 args) w) (hc0 : ∀ (bv : Nat) (W : World), w.heap.size ≤ bv → Keeps Nob w W → HP W bv (vdC kd attZ proZ 0) 57 → Calls prog F0 #[pT bv 0, A00] W fun e W' => e = .returned (.tuple #[]) ∧ HP W' bv (vdC kd x1 y1 f1) 57 ∧ Keeps (One bv) W W') (hE1 : ∀ args w, (callFunc F1 args).run prog w = .ok (.enter F1 args) w) (hc1 : ∀ (bv : Nat) (W : World), w.heap.size ≤ bv → Keeps Nob w W → HP W bv (vdC kd x1 y1 f1) 57 → Calls prog F1 #[pT bv 0, A10, A11] W fun e W' => e = .returned (.tuple #[]) ∧ HP W' bv (vdC kd x2 y2 f2) 57 ∧ Keeps (One bv) W W') :
  Calls prog 56 #[iI kd, sS g 2 2] w (RK w (.agg (vdC kd x2 y2 f2))) := by
 have K0 := kz0 w
 refine sf_ (qc70_0 1) func56 <| qr_ [0] <| pag 57 (zl0_) fun V1 res eres h2 j1 => ?_
 have := nqk1 eres hg K0
 have ⟨K6, z7, h5⟩ := j1.z1 K0 hg
 refine eqr_ [0, 1, 2, 3] <| kk 2 <| pag 57 (zl0_) fun V8 bv ebv h9 j8 => ?_
 have := nqk2 ebv h5 h2 K6
 have ⟨K15, z16, h13, h14⟩ := j8.z2 K6 h5 h2
 obtain ⟨V17, eV17, j17⟩ := rowset_step V8 bv ((zl2_ (iI kd)))
 have h18 : HP V17 bv (vdC kd attZ proZ 0) 57 := eV17 ▸ setRow_heap _ _ _ _ _ _ h9
 refine pzq (w' := V17) (by rw [← eV17]; exact exec_store_row 57 (.tmp 5) (.tmp 9) (by kernel_rfl) bv ((zl2_ (iI kd))) (by kernel_rfl) (by kernel_rfl) 57 (zl0_) h9 (by kernel_rfl) rfl (by kernel_rfl)) ?_
 clear eV17
 have ⟨K21, z22, h19, h20⟩ := j17.zo2 K15 h13 h14
 refine eq_ <| qr_ [0, 1, 2] <| kk 1 <| pP (len_ (some ⟨g, 0, none⟩) 2 2 underlying172) <| kk 1 <| et_ <| bl_ 0 <| sy_rounds 3 (qc70_0 116) (by kernel_rfl) <| rd_step <| qr_ [0] <| kk 1 <| eq_ <| y_ <| s_ <| tq_ <| bl_ 1 <| qr_ [0, 1, 2] <| ppq (pT g 0) (exec_cast (v := pT g (0 + 0 * 1)) (by simp) (ixs g 0 2 2 .i64 0 1 underlying172 (by omega))) <| pP (lk h19) <| kk 1 <| er_ [0, 1] <| kk 1 ?_
 refine pcv (F0) #[] #[A00] #[pT bv 0, A00] hE0 ((hc0 bv _ (by omega) K21 h18).mono ?_)
 rintro e V23 ⟨rfl, hbV23, j23⟩
 refine ⟨_, rfl, ?_⟩
 have ⟨K26, z27, h24, h25⟩ := j23.zo2 K21 h19 h20
 refine ps_end <| blk_n <| tr_ [0, 1] <| kk 2 <| et_ <| rd_step <| qr_ [0] <| kk 1 <| eq_ <| y_ <| s_ <| tq_ <| bl_ 1 <| qr_ [0, 1, 2] <| ppq (pT g 1) (exec_cast (v := pT g (0 + 1 * 1)) (by simp) (ixs g 0 2 2 .i64 1 1 underlying172 (by omega))) <| pP (lk h24) <| kk 1 <| er_ [0, 1] <| kk 1 ?_
 refine pcv (F1) #[] #[A10, A11] #[pT bv 0, A10, A11] hE1 ((hc1 bv _ (by omega) K26 hbV23).mono ?_)
 rintro e V28 ⟨rfl, hbV28, j28⟩
 refine ⟨_, rfl, ?_⟩
 have ⟨K31, z32, h30⟩ := j28.zo1 K26 h25
 refine ps_end <| blk_n <| tr_ [0, 1] <| kk 2 <| ps_end <| then_n <| rd_step <| qr_ [0] <| kk 1 <| eq_ <| n_ <| sy_exit 0 (by kernel_rfl) <| then_e <| then_e <| blk_e <| tqr_ [0, 1] <| pP (ldz 57 bv (hbV28) (vdC_size lx2 ly2)) <| pst 57 res ((vdC kd x2 y2 f2)) h30 (by rw [vdC_size lx2 ly2]; kernel_rfl) (by rw [vdC_size lx2 ly2]; rfl) hone fun V33 h34 j33 => ?_
 have ⟨K37, z38⟩ := j33.zo0 K31
 refine eu_ <| sor 57 res h34 underlying57 (by rw [vdC_size lx2 ly2]; kernel_rfl) ?_
 exact ⟨rfl, K37⟩
theorem dverdict_twin (kd : Int) (F0 : FuncId) (A00 : Value) (x1 y1 : List Value) (f1 : Int) (lx1 : x1.length = 36) (ly1 : y1.length = 35) (F1 : FuncId) (A10 : Value) (x2 y2 : List Value) (f2 : Int) (lx2 : x2.length = 36) (ly2 : y2.length = 35) (hone : (vdC kd x2 y2 f2).all (·.oneCell') = true) (g : Nat) (w : World) (hg : HP w g #[.func (.func (F0)) #[] #[A00], .func (.func (F1)) #[] #[A10]] 144) (hE0 : ∀ args w, (callFunc F0 args).run prog w = .ok (.enter F0 args) w) (hc0 : ∀ (bv : Nat) (W : World), w.heap.size ≤ bv → Keeps Nob w W → HP W bv (vdC kd attZ proZ 0) 57 → Calls prog F0 #[pT bv 0, A00] W fun e W' => e = .returned (.tuple #[]) ∧ HP W' bv (vdC kd x1 y1 f1) 57 ∧ Keeps (One bv) W W') (hE1 : ∀ args w, (callFunc F1 args).run prog w = .ok (.enter F1 args) w) (hc1 : ∀ (bv : Nat) (W : World), w.heap.size ≤ bv → Keeps Nob w W → HP W bv (vdC kd x1 y1 f1) 57 → Calls prog F1 #[pT bv 0, A10] W fun e W' => e = .returned (.tuple #[]) ∧ HP W' bv (vdC kd x2 y2 f2) 57 ∧ Keeps (One bv) W W') :
  Calls prog 56 #[iI kd, sS g 2 2] w (RK w (.agg (vdC kd x2 y2 f2))) := by
 have K0 := kz0 w
 refine sf_ (qc70_0 1) func56 <| qr_ [0] <| pag 57 (zl0_) fun V1 res eres h2 j1 => ?_
 have := nqk1 eres hg K0
 have ⟨K6, z7, h5⟩ := j1.z1 K0 hg
 refine eqr_ [0, 1, 2, 3] <| kk 2 <| pag 57 (zl0_) fun V8 bv ebv h9 j8 => ?_
 have := nqk2 ebv h5 h2 K6
 have ⟨K15, z16, h13, h14⟩ := j8.z2 K6 h5 h2
 obtain ⟨V17, eV17, j17⟩ := rowset_step V8 bv ((zl2_ (iI kd)))
 have h18 : HP V17 bv (vdC kd attZ proZ 0) 57 := eV17 ▸ setRow_heap _ _ _ _ _ _ h9
 refine pzq (w' := V17) (by rw [← eV17]; exact exec_store_row 57 (.tmp 5) (.tmp 9) (by kernel_rfl) bv ((zl2_ (iI kd))) (by kernel_rfl) (by kernel_rfl) 57 (zl0_) h9 (by kernel_rfl) rfl (by kernel_rfl)) ?_
 clear eV17
 have ⟨K21, z22, h19, h20⟩ := j17.zo2 K15 h13 h14
 refine eq_ <| qr_ [0, 1, 2] <| kk 1 <| pP (len_ (some ⟨g, 0, none⟩) 2 2 underlying172) <| kk 1 <| et_ <| bl_ 0 <| sy_rounds 3 (qc70_0 116) (by kernel_rfl) <| rd_step <| qr_ [0] <| kk 1 <| eq_ <| y_ <| s_ <| tq_ <| bl_ 1 <| qr_ [0, 1, 2] <| ppq (pT g 0) (exec_cast (v := pT g (0 + 0 * 1)) (by simp) (ixs g 0 2 2 .i64 0 1 underlying172 (by omega))) <| pP (lk h19) <| kk 1 <| er_ [0, 1] <| kk 1 ?_
 refine pcv (F0) #[] #[A00] #[pT bv 0, A00] hE0 ((hc0 bv _ (by omega) K21 h18).mono ?_)
 rintro e V23 ⟨rfl, hbV23, j23⟩
 refine ⟨_, rfl, ?_⟩
 have ⟨K26, z27, h24, h25⟩ := j23.zo2 K21 h19 h20
 refine ps_end <| blk_n <| tr_ [0, 1] <| kk 2 <| et_ <| rd_step <| qr_ [0] <| kk 1 <| eq_ <| y_ <| s_ <| tq_ <| bl_ 1 <| qr_ [0, 1, 2] <| ppq (pT g 1) (exec_cast (v := pT g (0 + 1 * 1)) (by simp) (ixs g 0 2 2 .i64 1 1 underlying172 (by omega))) <| pP (lk h24) <| kk 1 <| er_ [0, 1] <| kk 1 ?_
 refine pcv (F1) #[] #[A10] #[pT bv 0, A10] hE1 ((hc1 bv _ (by omega) K26 hbV23).mono ?_)
 rintro e V28 ⟨rfl, hbV28, j28⟩
 refine ⟨_, rfl, ?_⟩
 have ⟨K31, z32, h30⟩ := j28.zo1 K26 h25
 refine ps_end <| blk_n <| tr_ [0, 1] <| kk 2 <| ps_end <| then_n <| rd_step <| qr_ [0] <| kk 1 <| eq_ <| n_ <| sy_exit 0 (by kernel_rfl) <| then_e <| then_e <| blk_e <| tqr_ [0, 1] <| pP (ldz 57 bv (hbV28) (vdC_size lx2 ly2)) <| pst 57 res ((vdC kd x2 y2 f2)) h30 (by rw [vdC_size lx2 ly2]; kernel_rfl) (by rw [vdC_size lx2 ly2]; rfl) hone fun V33 h34 j33 => ?_
 have ⟨K37, z38⟩ := j33.zo0 K31
 refine eu_ <| sor 57 res h34 underlying57 (by rw [vdC_size lx2 ly2]; kernel_rfl) ?_
 exact ⟨rfl, K37⟩
end
section
open Go Go.RowKit Go.Own
theorem len_small (n m : Nat) (h : n + m ≤ 100000000) : n + m ≤ maxLen := by unfold maxLen; omega
theorem len_bytes (n m : Nat) (h : n + m ≤ 100000000) : (n + m) * 1 ≤ 140737488355328 := by omega
end
end Go.Proofs.YthmclmbeflbhhaaGreat
namespace Go.Own.Cod
section
def encF : Nat → Nat → List UInt8
  | 0, _ => []
  | f + 1, n => if n < 128 then [UInt8.ofNat n] else UInt8.ofNat (n % 128 + 128) :: encF f (n / 128)
def enc (n : Nat) : List UInt8 := encF 10 n
theorem toNat_ofNat (n : Nat) (h : n < 256) : (UInt8.ofNat n).toNat = n := by simp; omega
theorem encF_more (f n : Nat) (h : 128 ≤ n) : encF (f + 1) n = UInt8.ofNat (n % 128 + 128) :: encF f (n / 128) := by
  rw [encF, if_neg (by omega)]
theorem encF_last (f n : Nat) (h : n < 128) : encF (f + 1) n = [UInt8.ofNat n] := by
  rw [encF, if_pos h]
theorem small_step (k m : Nat) (hk : k ≤ 9) (h : m < 2 ^ (64 - 7 * k)) (hm : 128 ≤ m) : k < 9 ∧ m / 128 < 2 ^ (64 - 7 * (k + 1)) := by
  have hk9 : k < 9 := by
    rcases Nat.lt_or_ge k 9 with h9 | h9
    · exact h9
    · obtain rfl : k = 9 := by omega
      simp at h; omega
  refine ⟨hk9, ?_⟩
  apply Nat.div_lt_of_lt_mul
  have : 64 - 7 * k = (64 - 7 * (k + 1)) + 7 := by omega
  rw [this, Nat.pow_add] at h
  omega
theorem encF_pos (f n : Nat) : 0 < (encF (f + 1) n).length := by
  rw [encF]; split <;> simp
theorem encF_length (f n : Nat) : (encF f n).length ≤ f := by
  induction f generalizing n with
  | zero => simp [encF]
  | succ f ih =>
    rw [encF]; split
    · simp
    · simp; exact ih _
theorem enc_pos (n : Nat) : 0 < (enc n).length := encF_pos _ _
theorem enc_length (n : Nat) : (enc n).length ≤ 10 := encF_length _ _
end
end Go.Own.Cod
namespace Go.Proofs.YthmclmbeflbhhaaGreat
section
open Go Go.RowKit Go.Own Go.Shelf
attribute [local go_sem] Oper.semAt_some
theorem mf_run0 : ∀ (fn : Fn) (first cap : Array Value) (w : World), (Instr.makeFunc fn first cap).run prog w = .ok (.func fn first cap) w := fun _ _ _ _ => rfl
theorem digits_ok (n : Int) (w : World) :
  Calls prog 193 #[.int .u64 n] w fun e w' => e = .returned (.func (.func 199) #[] #[pT w.heap.size 0]) ∧ w.alloc (.cells #[.int .u64 n] 26) = w' := by
 have hmf := mf_run0
 go_enter func193, ntmps193
 go_wp2
 go_ret
 exact ⟨rfl, rfl⟩
def DigS (n : Nat) (Bn : Nat) (k : Nat) (w : World) : Prop :=
 ∃ pre m, m = n / 128 ^ k ∧ pre.length = k ∧ Cod.enc n = pre ++ Cod.encF (10 - k) m ∧ k ≤ 9 ∧ m < 2 ^ (64 - 7 * k) ∧ w.cell? ⟨Bn, 0, none⟩ = some (.int .u64 (m : Int)) ∧ w.frozen? ⟨Bn, 0, none⟩ = false
theorem or128_fin : ∀ r : Fin 256, bits .or .u8 (r.val : Int) 128 = ((r.val % 128 + 128 : Nat) : Int) := by decide +kernel
theorem or128 (m : Nat) : bits .or .u8 ((m : Int) % 256) 128 = ((m % 128 + 128 : Nat) : Int) := by
 have h := or128_fin ⟨m % 256, Nat.mod_lt _ (by omega)⟩
 have e1 : ((m % 256 : Nat) : Int) = (m : Int) % 256 := by omega
 have e2 : m % 256 % 128 = m % 128 := by omega
 simp only [e1, e2] at h
 exact h
theorem digits_seq (n : Nat) (hn : 1 ≤ n) (Bn : Nat) (x : Nat) (hx : x < 2 ^ 64) :
  SeqOwn Fence.wide n prog 199 #[pT Bn 0] (fun x : UInt8 => #[.int .u8 (x.toNat : Int)]) (Cod.enc x) (One Bn) (DigS x Bn) := by
 intro l J Jx W0 hJ hJx hY h0 hS0
 have HY := Lib.hid hY; clear hY
 refine callsIn_of_wp func199 rfl trivial ?_ rfl
 simp only [ntmps199, List.size_toArray, List.length_cons, List.length_nil, Nat.reduceAdd, Nat.reduceSub, Array.replicate_succ, Array.replicate_zero, List.push_toArray, List.append_toArray, List.nil_append, List.cons_append]
 gi_wp2_with fail
 gi_loopg [3] 10 (fun g e wr => ∃ k : Nat, k ≤ 9 ∧ g = 10 - k ∧ J k wr ∧ DigS x Bn k wr)
 case atStart => exact ⟨0, by omega, by omega, h0, hS0⟩
 case round =>
  obtain ⟨k, hk, hg, hj, hs⟩ := hrel
  have hs' := hs
  obtain ⟨pre, m, hmd, hp, he, _, hm, hc, hf⟩ := hs'
  have HD := Lib.hid hmd
  have HS := Lib.hid hs
  have HE := Lib.hid he
  have HM := Lib.hid hm
  have HP := Lib.hid hp
  have HX := Lib.hid hx
  clear he hm hp hs hS0 hx hmd
  by_cases hlt : m < 128
  ·have hget : (Cod.enc x)[k]? = some (UInt8.ofNat m) ∧ (Cod.enc x).length = k + 1 := by
    have h1 : 10 - k = (9 - k) + 1 := by omega
    have h2 := HE.out
    rw [h1, Cod.encF_last _ _ (by omega)] at h2
    rw [h2, List.getElem?_append_right (by have := HP.out; omega), HP.out]; simp [HP.out]
   have HL := Lib.hid hget.2
   obtain ⟨fn, tmps, assign, body, hy, hR⟩ := HY.out k _ wr hget.1 hj HS.out
   rw [Cod.toNat_ofNat _ (by omega)] at hy
   have hb : ((m : Int) % 256) = (m : Int) := by omega
   have hd : decide (128 ≤ (m : Int)) = false := by simp; omega
   clear hget
   gi_wp2_with fail
   refine hR.mono ?_
   rintro e W3 (⟨rfl, hj3, hs3⟩ | ⟨rfl, hx3⟩)
   ·gi_wp2
    go_end0
    exact ⟨⟨_, rfl⟩, .inl (by rw [HL.out]; exact hj3)⟩
   ·gi_wp2
    go_end0
    exact ⟨⟨_, rfl⟩, .inr hx3⟩
  ·have hget : (Cod.enc x)[k]? = some (UInt8.ofNat (m % 128 + 128)) := by
    have h1 : 10 - k = (9 - k) + 1 := by omega
    have h2 := HE.out
    rw [h1, Cod.encF_more _ _ (by omega)] at h2
    rw [h2, List.getElem?_append_right (by have := HP.out; omega), HP.out]; simp
   obtain ⟨fn, tmps, assign, body, hy, hR⟩ := HY.out k _ wr hget hj HS.out
   rw [Cod.toNat_ofNat _ (by omega)] at hy
   have hb := or128 m
   generalize hz : m % 128 + 128 = z at hy hb
   clear hz hget
   gi_wp2_with fail
   refine hR.mono ?_
   rintro e W3 (⟨rfl, hj3, hs3⟩ | ⟨rfl, hx3⟩)
   ·obtain ⟨pre3, m3, hmd3, _, _, _, _, hc3, hf3⟩ := hs3
    obtain rfl : m3 = m := hmd3.trans HD.out.symm
    have HE1 : Hid (Cod.enc x = (pre ++ [UInt8.ofNat (m3 % 128 + 128)]) ++ Cod.encF (10 - (k + 1)) (m3 / 128)) := Lib.hid (by
     have h1 : 10 - k = (9 - k) + 1 := by omega
     have h2 := HE.out
     rw [h1, Cod.encF_more _ _ (by omega)] at h2
     rw [h2, show 10 - (k + 1) = 9 - k by omega]; simp)
    have HM1 := Lib.hid (Cod.small_step k m3 hk HM.out (by omega))
    clear hmd3 hc hf
    gi_wp2_with fail
    have hk9 := HM1.out.1
    gi_roundg (10 - (k + 1))
    case measure => omega
    case rel => exact ⟨k + 1, by omega, rfl, hJ _ _ _ hj3 ((Keeps.refl _ _).setOne _), pre ++ [UInt8.ofNat (m3 % 128 + 128)], m3 / 128, by rw [HD.out, Nat.pow_succ, Nat.div_div_eq_div_mul], by simp [HP.out], HE1.out, by omega, HM1.out.2, (World.cell?_setCell_same _ _ _ hc3).trans (by simp), by simpa using hf3⟩
   ·gi_wp2
    refine bodyPost_ret (results_none rfl _ _ _) rfl ?_
    exact ⟨⟨_, rfl⟩, .inr hx3⟩
end
end Go.Proofs.YthmclmbeflbhhaaGreat
end
