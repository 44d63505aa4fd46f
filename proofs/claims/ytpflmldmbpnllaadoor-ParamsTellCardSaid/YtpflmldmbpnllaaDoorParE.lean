/-
  The document's params: Check. Conditions: none.
-/
import Derived.Test.YtpflmldmbpnllaaDoorParD
import Derived.Deep.LoopGhost
namespace Go.Proofs.YtpflmldmbpnllaaDoor
open Go Go.RowKit Go.Own Go.Shelf

set_option maxHeartbeats 1000000 in
theorem r7within_ok (i : Nat) (n : Int) (w : World) (hi : i < 11) :
    Calls Tryd.prog 39 #[.int .i64 i, .int .i64 n] w fun e w' => e = .returned (.bool (decide (parLo[i]?.getD 0 ≤ n ∧ n ≤ parHi[i]?.getD 0))) ∧ Keeps Nob w w' := by
  obtain ⟨lo, hlo⟩ : ∃ lo, parLo[i]?.getD 0 = lo := ⟨_, rfl⟩
  obtain ⟨hh, hhi⟩ : ∃ h, parHi[i]?.getD 0 = h := ⟨_, rfl⟩
  rw [hlo, hhi]
  by_cases h1 : lo ≤ n
  · go_enter Tryd.func39, Tryd.ntmps39
    go_wp2_with (first
      | (go_at_call 61; refine (least_ok _).mono ?_; rintro e V ⟨cap, rfl, hc, hk, hs⟩; have c1 := hc i hi; rw [hlo] at c1)
      | (go_at_call 62; refine (most_ok _).mono ?_; rintro e V2 ⟨cap2, rfl, hc2, hk2, hs2⟩; have c2 := hc2 i hi; rw [hhi] at c2))
    go_ret
    exact ⟨by simp [h1], hk.trans hk2⟩
  · have h2 : decide (lo ≤ n) = false := by simpa using h1
    go_enter Tryd.func39, Tryd.ntmps39
    go_wp2_with (first
      | (go_at_call 61; refine (least_ok _).mono ?_; rintro e V ⟨cap, rfl, hc, hk, hs⟩; have c1 := hc i hi; rw [hlo] at c1))
    go_ret
    exact ⟨by simp; intro h; exact absurd h (by omega), hk⟩

set_option maxHeartbeats 2000000 in
theorem kFields_ok (p : Par) (hp : p.Ok) (w : World) :
    Calls Tryd.prog 36 #[p.v] w fun e w' => ∃ g, (∃ cap, e = .returned (.slice (some ⟨g, 0, none⟩) 11 cap)) ∧ (∀ i : Nat, i < 11 → w'.cell? ⟨g, i, none⟩ = some (.int .i64 (p.r[i]?.getD 0))) ∧ g < w'.heap.size ∧ Keeps Nob w w' := by
  obtain ⟨b1, b2⟩ := hp.base
  obtain ⟨m1, m2⟩ := hp.mult
  obtain ⟨r1, r2⟩ := hp.rew
  unfold Par.v Par.cells Par.r
  obtain ⟨unb, mage, elen, win, ent, act, jail, base, mult, corr, rew⟩ := p
  simp only at b1 b2 m1 m2 r1 r2 ⊢
  clear hp
  have key : ∀ x : Int, (x ≤ 1099511627776 ∧ min x 1099511627776 = x) ∨ (¬ x ≤ 1099511627776 ∧ min x 1099511627776 = 1099511627776) := fun x => by omega
  rcases key base with ⟨k1, e1⟩ | ⟨k1, e1⟩ <;> rcases key mult with ⟨k2, e2⟩ | ⟨k2, e2⟩ <;> rcases key rew with ⟨k3, e3⟩ | ⟨k3, e3⟩
  all_goals
    rw [e1, e2, e3]
    clear key e1 e2 e3
    go_enter Tryd.func36, Tryd.ntmps36
    go_wp2
    go_ret
    refine ⟨w.heap.size + 1, ⟨_, rfl⟩, fun i hi => ?_, by simp, ((Keeps.refl _ _).alloc _).alloc _⟩
    refine (World.cell?_alloc_at _ _ _ _ (by simp)).trans ?_
    have h : i = 0 ∨ i = 1 ∨ i = 2 ∨ i = 3 ∨ i = 4 ∨ i = 5 ∨ i = 6 ∨ i = 7 ∨ i = 8 ∨ i = 9 ∨ i = 10 := by omega
    rcases h with rfl | rfl | rfl | rfl | rfl | rfl | rfl | rfl | rfl | rfl | rfl <;> rfl

set_option maxRecDepth 100000 in
set_option maxHeartbeats 4000000 in
theorem r7Check_ok (p : Par) (hp : p.Ok) (w : World) :
    Calls Tryd.prog 10 #[p.v] w fun e w' => e = .returned (.tuple #[.int .i64 p.check.1, .int .i64 p.check.2]) ∧ Keeps Nob w w' := by
  have FL := fun V => kFields_ok p hp V
  obtain ⟨ce, hce⟩ : ∃ c, p.check = c := ⟨_, rfl⟩
  rw [hce]
  have HCE := Lib.hid hce; clear hce
  obtain ⟨cs, hcs⟩ : ∃ cs, p.cells = cs := ⟨_, rfl⟩
  have hv : p.v = .agg p.cells := rfl
  rw [hv] at FL ⊢
  unfold Par.cells at FL ⊢
  have FLH := Lib.hid FL; clear FL hv hcs
  go_enter Tryd.func10, Tryd.ntmps10
  go_wp2_with (go_at_call 36; refine (FLH.out _).mono ?_; rintro e V ⟨g, ⟨cap, rfl⟩, hc, hg, hk⟩)
  have hk0 := ((Keeps.refl Nob w).alloc (.cells p.cells 24)).trans hk
  have hb : w.heap.size < (w.alloc (.cells p.cells 24)).heap.size := by simp
  have c0 : (w.alloc (.cells p.cells 24)).cell? ⟨w.heap.size, 0, none⟩ = some (.int .i64 p.unb) := (World.cell?_alloc_at _ _ _ _ rfl).trans rfl
  have c1 : (w.alloc (.cells p.cells 24)).cell? ⟨w.heap.size, 1, none⟩ = some (.int .i64 p.mage) := (World.cell?_alloc_at _ _ _ _ rfl).trans rfl
  have q0 := (hk.cell (i := 0) hb (fun x => x)).trans c0
  have q1 := (hk.cell (i := 1) hb (fun x => x)).trans c1
  have hsz : w.heap.size < V.heap.size := Nat.lt_of_lt_of_le hb hk.size
  clear hk c0 c1 hb
  go_loopg [5] 11 (fun g i V1 => ∃ k : Nat, k ≤ 11 ∧ g = 11 - k ∧ i = .int .i64 k ∧ Hid (∀ j, j < k → p.good j) ∧ Keeps Nob V V1)
  case atStart => exact ⟨0, by omega, rfl, rfl, Lib.hid (fun j hj => by omega), Keeps.refl _ _⟩
  case round =>
    obtain ⟨k, hk, hgf, rfl, HG, hkp⟩ := hrel
    by_cases hlt : k < 11
    · have c1 := (hkp.cell (i := k) hg (fun x => x)).trans (hc k hlt)
      have hgr := p.good_r k hlt
      obtain ⟨n, hn⟩ : ∃ n, p.r[k]?.getD 0 = n := ⟨_, rfl⟩
      rw [hn] at c1 hgr
      have RW := fun V => r7within_ok k n V hlt
      by_cases hgood : p.good k
      · have hd := decide_eq_true (hgr.1 hgood)
        rw [hd] at RW
        have RWH := Lib.hid RW
        have HG1 := Lib.hid (fun j hj => (Nat.lt_succ_iff_lt_or_eq.1 hj).elim (HG.out j) (fun e => e ▸ hgood) : ∀ j, j < k + 1 → p.good j)
        clear RW hd hgr hgood hc
        go_wp2_with (go_at_call 39; refine (RWH.out _).mono ?_; rintro e V1 ⟨rfl, hk1⟩)
        go_roundg (11 - (k + 1))
        case measure => omega
        case rel => exact ⟨k + 1, by omega, rfl, by go_num, HG1, hkp.trans hk1⟩
      · have hd := decide_eq_false (fun x => hgood (hgr.2 x))
        rw [hd] at RW
        have RWH := Lib.hid RW
        obtain rfl : ce = (3, (k : Int)) := HCE.out.symm.trans (p.check_bad k hlt HG.out hgood)
        clear RW hd hgr hgood hc
        go_wp2_with (go_at_call 39; refine (RWH.out _).mono ?_; rintro e V1 ⟨rfl, hk1⟩)
        go_ret2
        exact ⟨rfl, (hk0.trans hkp).trans hk1⟩
    · have h1 : decide ((k : Int) < 11) = false := by simp; omega
      have hk11 : k = 11 := by omega
      have q0 := (hkp.cell (i := 0) hsz (fun x => x)).trans q0
      have q1 := (hkp.cell (i := 1) hsz (fun x => x)).trans q1
      have hce := HCE.out.symm.trans (p.check_good (fun j hj => HG.out j (by omega)))
      by_cases hm : p.unb < p.mage
      · rw [if_pos hm] at hce
        subst hce
        clear hc HCE
        go_wp2_with fail
        go_ret2
        exact ⟨rfl, hk0.trans hkp⟩
      · rw [if_neg hm] at hce
        subst hce
        clear hc HCE
        have hmd : decide (p.unb < p.mage) = false := by simpa using hm
        go_wp2_with fail
        go_ret2
        exact ⟨rfl, hk0.trans hkp⟩
end Go.Proofs.YtpflmldmbpnllaaDoor
