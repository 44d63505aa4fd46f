/-
  Params: Check. Conditions: none.
-/
import Derived.Test.YtpflmldmbpnllaaDoorParG
import Derived.Test.YtpflmldmbpnllaaDoorParD
import Derived.Deep.LoopGhost
import Derived.Laws.EntriesVeiled
namespace Go.Proofs.YtpflmldmbpnllaaDoor
set_option maxRecDepth 100000
open Go Go.RowKit Go.Own Go.Shelf

/-- A field's reader tells its number. -/
theorem get_ok (p : Par) (hp : p.Ok) (i b k : Nat) (hi : i < 11) (V : World) (hbox : V.cell? ⟨k, 0, none⟩ = some (.pointer (some ⟨b, i, none⟩))) (hc : ∀ x, p.cells[i]? = some x → V.cell? ⟨b, i, none⟩ = some x) :
    Calls Tryd.prog (parGet[i]?.getD 0) #[.pointer (some ⟨k, 0, none⟩)] V fun e w' => e = .returned (.tuple #[.int .u64 (max (p.l[i]?.getD 0) 0), .bool (decide (0 ≤ p.l[i]?.getD 0))]) ∧ Keeps Nob V w' := by
  have h' : i = 0 ∨ i = 1 ∨ i = 2 ∨ i = 3 ∨ i = 4 ∨ i = 5 ∨ i = 6 ∨ i = 7 ∨ i = 8 ∨ i = 9 ∨ i = 10 := by omega
  rcases h' with rfl | rfl | rfl | rfl | rfl | rfl | rfl | rfl | rfl | rfl | rfl
  · exact of1_ok k ⟨b, 0, none⟩ p.unb V hbox (hc _ rfl) hp.unb.1 hp.unb.2
  · exact of1_ok k ⟨b, 1, none⟩ p.mage V hbox (hc _ rfl) hp.mage.1 hp.mage.2
  · exact of1_ok k ⟨b, 2, none⟩ p.elen V hbox (hc _ rfl) hp.elen.1 hp.elen.2
  · exact of1_ok k ⟨b, 3, none⟩ p.win V hbox (hc _ rfl) hp.win.1 hp.win.2
  · exact of1_ok k ⟨b, 4, none⟩ p.ent V hbox (hc _ rfl) hp.ent.1 hp.ent.2
  · exact of1_ok k ⟨b, 5, none⟩ p.act V hbox (hc _ rfl) hp.act.1 hp.act.2
  · exact of1_ok k ⟨b, 6, none⟩ p.jail V hbox (hc _ rfl) hp.jail.1 hp.jail.2
  · have h0 := hp.base.1
    have := word1_ok k ⟨b, 7, none⟩ p.base V hbox (hc _ rfl)
    simpa [parGet, Par.l, h0, Int.max_eq_left h0] using this
  · have h0 := hp.mult.1
    have := word1_ok k ⟨b, 8, none⟩ p.mult V hbox (hc _ rfl)
    simpa [parGet, Par.l, h0, Int.max_eq_left h0] using this
  · exact of1_ok k ⟨b, 9, none⟩ p.corr V hbox (hc _ rfl) hp.corr.1 hp.corr.2
  · have h0 := hp.rew.1
    have := word1_ok k ⟨b, 10, none⟩ p.rew V hbox (hc _ rfl)
    simpa [parGet, Par.l, h0, Int.max_eq_left h0] using this
theorem get_enters (i : Nat) (hi : i < 11) : ∀ args w, (callFunc (parGet[i]?.getD 0) args).run Tryd.prog w = .ok (.enter (parGet[i]?.getD 0) args) w := by
  have h' : i = 0 ∨ i = 1 ∨ i = 2 ∨ i = 3 ∨ i = 4 ∨ i = 5 ∨ i = 6 ∨ i = 7 ∨ i = 8 ∨ i = 9 ∨ i = 10 := by omega
  have e1 : ∀ args w, (callFunc 82 args).run Tryd.prog w = .ok (.enter 82 args) w := enters_of Tryd.func82 (by kernel_rfl) rfl
  have e2 : ∀ args w, (callFunc 84 args).run Tryd.prog w = .ok (.enter 84 args) w := enters_of Tryd.func84 (by kernel_rfl) rfl
  rcases h' with rfl | rfl | rfl | rfl | rfl | rfl | rfl | rfl | rfl | rfl | rfl <;> first | exact e1 | exact e2
theorem good_iff (p : Par) (i : Nat) (hi : i < 11) : p.good i ↔ 0 ≤ p.l[i]?.getD 0 ∧ parLoU[i]?.getD 0 ≤ max (p.l[i]?.getD 0) 0 ∧ max (p.l[i]?.getD 0) 0 ≤ parHiU[i]?.getD 0 := by
  have h' : i = 0 ∨ i = 1 ∨ i = 2 ∨ i = 3 ∨ i = 4 ∨ i = 5 ∨ i = 6 ∨ i = 7 ∨ i = 8 ∨ i = 9 ∨ i = 10 := by omega
  rcases h' with rfl | rfl | rfl | rfl | rfl | rfl | rfl | rfl | rfl | rfl | rfl <;> simp [Par.good, Par.l, parLo, parHi, parLoU, parHiU] <;> omega

set_option maxRecDepth 100000 in
set_option maxHeartbeats 4000000 in
theorem pCheck_ok (p : Par) (hp : p.Ok) (w : World) :
    Calls Tryd.prog 9 #[p.v] w fun e w' => e = .returned (.tuple #[.int .i64 p.check.1, .int .i64 p.check.2]) ∧ Keeps Nob w w' := by
  obtain ⟨ce, hce⟩ : ∃ c, p.check = c := ⟨_, rfl⟩
  rw [hce]
  have HCE := Lib.hid hce; clear hce
  obtain ⟨cs, hcs⟩ : ∃ cs, p.cells = cs := ⟨_, rfl⟩
  have hv : p.v = .agg cs := by rw [← hcs]; rfl
  rw [hv]
  have hcz : cs.size = 11 := by rw [← hcs]; rfl
  have hc0 : cs[0]? = some (.int .i64 p.unb) := by rw [← hcs]; rfl
  have hc1 : cs[1]? = some (.int .i64 p.mage) := by rw [← hcs]; rfl
  have HCS := Lib.hid hcs
  clear hcs hv
  go_enter Tryd.func9, Tryd.ntmps9
  go_wp2_with (go_at_call 37; refine (fields_ok _ _).mono ?_; rintro e V ⟨g, ks, rfl, hF, hg, hk⟩; have HF := Lib.hid hF; clear hF)
  have hk0 := ((Keeps.refl Nob w).alloc (.cells cs 24)).trans hk
  have hb : w.heap.size < (w.alloc (.cells cs 24)).heap.size := by simp
  have HP : Hid (∀ i x, cs[i]? = some x → V.cell? ⟨w.heap.size, i, none⟩ = some x) := Lib.hid (fun i x hx => (hk.cell (i := i) hb (fun x => x)).trans ((World.cell?_alloc_at _ _ _ _ rfl).trans hx))
  have q0 := HP.out 0 _ hc0
  have q1 := HP.out 1 _ hc1
  have hsz : w.heap.size < V.heap.size := Nat.lt_of_lt_of_le hb hk.size
  clear hk hb hc0 hc1
  go_loopg [10] 11 (fun g i V1 => ∃ k : Nat, k ≤ 11 ∧ g = 11 - k ∧ i = .int .i64 k ∧ Hid (∀ j, j < k → p.good j) ∧ Keeps Nob V V1)
  case atStart => exact ⟨0, by omega, rfl, rfl, Lib.hid (fun j hj => by omega), Keeps.refl _ _⟩
  case round =>
    obtain ⟨k, hk, hgf, rfl, HG, hkp⟩ := hrel
    by_cases hlt : k < 11
    · have hfc : ∀ j v, j < 5 → (parField k (ks k)).cells[j]? = some v → wr.cell? ⟨g, k * 5 + j, none⟩ = some v := fun j v hj hv => (hkp.cell (i := k * 5 + j) hg (fun x => x)).trans ((HF.out.cell k j hlt hj).trans hv)
      have f0 : wr.cell? ⟨g, k * 5, none⟩ = some (.string (parName[k]?.getD ⟨#[]⟩)) := hfc 0 _ (by omega) rfl
      have f1 : wr.cell? ⟨g, k * 5 + 1, none⟩ = some (.int .u64 (parLoU[k]?.getD 0)) := hfc 1 _ (by omega) rfl
      have f2 : wr.cell? ⟨g, k * 5 + 2, none⟩ = some (.int .u64 (parHiU[k]?.getD 0)) := hfc 2 _ (by omega) rfl
      have f3 : wr.cell? ⟨g, k * 5 + 3, none⟩ = some (.func (.func (parGet[k]?.getD 0)) #[] #[.pointer (some ⟨ks k, 0, none⟩)]) := hfc 3 _ (by omega) rfl
      have f4 : wr.cell? ⟨g, k * 5 + 4, none⟩ = some (.func (.func (parSet[k]?.getD 0)) #[] #[.pointer (some ⟨ks k, 0, none⟩)]) := hfc 4 _ (by omega) rfl
      clear hfc
      have hent := get_enters k hlt
      have hks : ks k < V.heap.size := World.block_lt_of_cell? V _ (HF.out.box k hlt)
      have GETH : Hid (∀ W, Keeps Nob V W → Calls Tryd.prog (parGet[k]?.getD 0) #[.pointer (some ⟨ks k, 0, none⟩)] W fun e w' => e = .returned (.tuple #[.int .u64 (max (p.l[k]?.getD 0) 0), .bool (decide (0 ≤ p.l[k]?.getD 0))]) ∧ Keeps Nob W w') :=
        Lib.hid (fun W hW => get_ok p hp k w.heap.size (ks k) hlt W ((hW.cell hks (fun x => x)).trans (HF.out.box k hlt)) (fun x hx => (hW.cell hsz (fun x => x)).trans (HP.out k x (by rw [← HCS.out]; exact hx))))
      have hgi := good_iff p k hlt
      generalize parName[k]?.getD ⟨#[]⟩ = nm at *
      generalize parLoU[k]?.getD 0 = lo at *
      generalize parHiU[k]?.getD 0 = hi at *
      generalize parGet[k]?.getD 0 = gk at *
      generalize parSet[k]?.getD 0 = sk at *
      generalize max (p.l[k]?.getD 0) 0 = x at *
      by_cases h1 : 0 ≤ p.l[k]?.getD 0
      · have hd := decide_eq_true h1
        rw [hd] at GETH
        by_cases h2 : lo ≤ x ∧ x ≤ hi
        · have hw : (decide (lo ≤ x) && decide (x ≤ hi)) = true := by simp; exact h2
          have hgood := hgi.2 ⟨h1, h2⟩
          have HG1 := Lib.hid (fun j hj => (Nat.lt_succ_iff_lt_or_eq.1 hj).elim (HG.out j) (fun e => e ▸ hgood) : ∀ j, j < k + 1 → p.good j)
          have WI := Lib.hid (fun nm f g W => within_ok nm f g lo hi x W)
          rw [hw] at WI
          clear hgi hgood hd h1 h2 hw
          go_wp2_with fail
          refine (GETH.out _ (hkp.alloc _)).mono ?_
          rintro e W1 ⟨rfl, k1⟩
          have c0 := (k1.cell (k := wr.heap.size) (i := 0) (by simp) (fun x => x)).trans ((World.cell?_alloc_at _ _ _ _ rfl).trans rfl)
          have c1 := (k1.cell (k := wr.heap.size) (i := 1) (by simp) (fun x => x)).trans ((World.cell?_alloc_at _ _ _ _ rfl).trans rfl)
          have c2 := (k1.cell (k := wr.heap.size) (i := 2) (by simp) (fun x => x)).trans ((World.cell?_alloc_at _ _ _ _ rfl).trans rfl)
          have c3 := (k1.cell (k := wr.heap.size) (i := 3) (by simp) (fun x => x)).trans ((World.cell?_alloc_at _ _ _ _ rfl).trans rfl)
          have c4 := (k1.cell (k := wr.heap.size) (i := 4) (by simp) (fun x => x)).trans ((World.cell?_alloc_at _ _ _ _ rfl).trans rfl)
          go_wp2_with fail
          refine (WI.out _ _ _ _).mono ?_
          rintro e W2 ⟨rfl, k2⟩
          clear c0 c1 c2 c3 c4
          go_wp2_with fail
          go_roundg (11 - (k + 1))
          case measure => omega
          case rel => exact ⟨k + 1, by omega, rfl, by go_num, HG1, ((hkp.alloc _).trans k1).trans k2⟩
        · have hw : (decide (lo ≤ x) && decide (x ≤ hi)) = false := by
            rw [Bool.and_eq_false_iff]; simp; omega
          obtain rfl : ce = (3, (k : Int)) := HCE.out.symm.trans (p.check_bad k hlt HG.out (fun h => h2 (hgi.1 h).2))
          have WI := Lib.hid (fun nm f g W => within_ok nm f g lo hi x W)
          rw [hw] at WI
          clear hgi hd h1 h2 hw
          go_wp2_with fail
          refine (GETH.out _ (hkp.alloc _)).mono ?_
          rintro e W1 ⟨rfl, k1⟩
          have c0 := (k1.cell (k := wr.heap.size) (i := 0) (by simp) (fun x => x)).trans ((World.cell?_alloc_at _ _ _ _ rfl).trans rfl)
          have c1 := (k1.cell (k := wr.heap.size) (i := 1) (by simp) (fun x => x)).trans ((World.cell?_alloc_at _ _ _ _ rfl).trans rfl)
          have c2 := (k1.cell (k := wr.heap.size) (i := 2) (by simp) (fun x => x)).trans ((World.cell?_alloc_at _ _ _ _ rfl).trans rfl)
          have c3 := (k1.cell (k := wr.heap.size) (i := 3) (by simp) (fun x => x)).trans ((World.cell?_alloc_at _ _ _ _ rfl).trans rfl)
          have c4 := (k1.cell (k := wr.heap.size) (i := 4) (by simp) (fun x => x)).trans ((World.cell?_alloc_at _ _ _ _ rfl).trans rfl)
          go_wp2_with fail
          refine (WI.out _ _ _ _).mono ?_
          rintro e W2 ⟨rfl, k2⟩
          clear c0 c1 c2 c3 c4
          go_wp2_with fail
          go_ret2
          exact ⟨rfl, hk0.trans (((hkp.alloc _).trans k1).trans k2)⟩
      · have hd := decide_eq_false h1
        rw [hd] at GETH
        obtain rfl : ce = (3, (k : Int)) := HCE.out.symm.trans (p.check_bad k hlt HG.out (fun h => h1 (hgi.1 h).1))
        clear hgi hd h1
        go_wp2_with fail
        refine (GETH.out _ (hkp.alloc _)).mono ?_
        rintro e W1 ⟨rfl, k1⟩
        go_wp2_with fail
        go_ret2
        exact ⟨rfl, hk0.trans ((hkp.alloc _).trans k1)⟩
    · have h1 : decide ((k : Int) < 11) = false := by simp; omega
      have hk11 : k = 11 := by omega
      have q0 := (hkp.cell (i := 0) hsz (fun x => x)).trans q0
      have q1 := (hkp.cell (i := 1) hsz (fun x => x)).trans q1
      have hce := HCE.out.symm.trans (p.check_good (fun j hj => HG.out j (by omega)))
      by_cases hm : p.unb < p.mage
      · rw [if_pos hm] at hce
        subst hce
        clear HCE
        go_wp2_with fail
        go_ret2
        exact ⟨rfl, hk0.trans hkp⟩
      · rw [if_neg hm] at hce
        subst hce
        clear HCE
        have hmd : decide (p.unb < p.mage) = false := by simpa using hm
        go_wp2_with fail
        go_ret2
        exact ⟨rfl, hk0.trans hkp⟩
end Go.Proofs.YtpflmldmbpnllaaDoor
