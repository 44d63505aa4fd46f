/-
  Period: the document's test of params and heights. Conditions: none.
-/
import Derived.Test.YthoaoknggdohpaaParE
import Derived.Test.YthoaoknggdohpaaLaw
namespace Go.Proofs.Ythoaoknggdohpaa
open Go Go.RowKit Go.Own Go.Shelf

def hOk (h : Int) : Prop := 1 ≤ h ∧ h ≤ 4294967296
instance (h : Int) : Decidable (hOk h) := by unfold hOk; infer_instance
/-- May params, and heights, be? -/
def Par.fine (p : Par) (l : List Int) : Int := if p.check.1 = 0 then (if l.all (fun h => decide (hOk h)) then 0 else 3) else p.check.1
theorem Par.fine_bad (p : Par) (l : List Int) (k : Nat) (h : Int) (hk : l[k]? = some h) (hb : ¬ hOk h) (hp : p.check.1 = 0) : p.fine l = 3 := by
  have : l.all (fun h => decide (hOk h)) = false := by
    rw [List.all_eq_false]
    exact ⟨h, List.mem_of_getElem? hk, by simpa using hb⟩
  unfold Par.fine; rw [if_pos hp, this]; rfl
theorem Par.fine_ok (p : Par) (l : List Int) (h : ∀ (k : Nat) x, l[k]? = some x → hOk x) (hp : p.check.1 = 0) : p.fine l = 0 := by
  have : l.all (fun h => decide (hOk h)) = true := by
    rw [List.all_eq_true]
    intro x hx
    obtain ⟨k, hk⟩ := List.getElem?_of_mem hx
    simpa using h k x hk
  unfold Par.fine; rw [if_pos hp, this]; rfl

set_option maxRecDepth 100000 in
set_option maxHeartbeats 4000000 in
theorem rfine_ok (p : Par) (hp : p.Ok) (v : Value) (l : List Int) (w : World) (hl : l.length ≤ 1000) (hv : IntsAt w v l) :
    Calls Try.prog 35 #[p.v, v] w fun e w' => e = .returned (.int .i64 (p.fine l)) ∧ Keeps Nob w w' := by
  obtain ⟨a0, cap, rfl⟩ := hv.len
  have HV := Lib.hid hv; clear hv
  have CH := fun V => r7Check_ok p hp V
  obtain ⟨er, her⟩ : ∃ c, p.fine l = c := ⟨_, rfl⟩
  rw [her]
  have HER := Lib.hid her; clear her
  obtain ⟨ce, hce⟩ : ∃ c, p.check.1 = c := ⟨_, rfl⟩
  obtain ⟨ci, hci⟩ : ∃ c, p.check.2 = c := ⟨_, rfl⟩
  rw [hce, hci] at CH
  clear hci
  have hpv : p.v = .agg p.cells := rfl
  rw [hpv] at CH ⊢
  unfold Par.cells at CH ⊢
  have CHH := Lib.hid CH; clear CH hpv
  by_cases hc : ce = 0
  · subst hc
    have HP := Lib.hid hce; clear hce
    go_enter Try.func35, Try.ntmps35
    go_wp2_with (go_at_call 42; refine (CHH.out _).mono ?_; rintro e V ⟨rfl, hk⟩)
    have hk0 : Keeps Nob w V := ((Keeps.refl Nob w).alloc _).trans hk
    clear hk
    go_loopg [7] l.length (fun g i V1 => ∃ k : Nat, k ≤ l.length ∧ g = l.length - k ∧ i = .int .i64 k ∧ Hid (∀ j x, j < k → l[j]? = some x → hOk x) ∧ Keeps Nob w V1)
    case atStart => exact ⟨0, by omega, rfl, rfl, Lib.hid (fun j x hj => by omega), hk0⟩
    case round =>
      obtain ⟨k, hk, hg, rfl, HG, hkp⟩ := hrel
      by_cases hlt : k < l.length
      · obtain ⟨x, hx⟩ : ∃ x, l[k]? = some x := ⟨l[k], List.getElem?_eq_getElem hlt⟩
        obtain ⟨bx1, bx2, bl, ol, cl, hvl, hbl, q0⟩ := HV.out.at_ k _ hx
        simp only [Value.slice.injEq, true_and] at hvl
        obtain ⟨rfl, rfl⟩ := hvl
        have p0 := (hkp.cell hbl (fun x => x)).trans q0
        have HX := Lib.hid hx
        clear q0 hx
        by_cases h1 : x < 1
        · obtain rfl : er = 3 := HER.out.symm.trans (p.fine_bad l k x HX.out (fun h => by unfold hOk at h; omega) HP.out)
          go_wp2_with fail
          go_ret
          exact ⟨rfl, hkp⟩
        · have h1d : decide (x < 1) = false := by simpa using h1
          by_cases h2 : 4294967296 < x
          · obtain rfl : er = 3 := HER.out.symm.trans (p.fine_bad l k x HX.out (fun h => by unfold hOk at h; omega) HP.out)
            go_wp2_with fail
            go_ret
            exact ⟨rfl, hkp⟩
          · have h2d : decide (4294967296 < x) = false := by simpa using h2
            have HG1 : Hid (∀ j y, j < k + 1 → l[j]? = some y → hOk y) := Lib.hid (fun j y hj hy => (Nat.lt_succ_iff_lt_or_eq.1 hj).elim (fun h => HG.out j y h hy) (fun e => by subst e; have e2 := HX.out.symm.trans hy; simp at e2; subst e2; unfold hOk; omega))
            go_wp2_with fail
            go_roundg (l.length - (k + 1))
            case measure => omega
            case rel => exact ⟨k + 1, by omega, rfl, by go_num, HG1, hkp⟩
      · have h1 : decide ((k : Int) < (l.length : Int)) = false := by simp; omega
        obtain rfl : er = 0 := HER.out.symm.trans (p.fine_ok l (fun j x hx => HG.out j x (by have := (List.getElem?_eq_some_iff.1 hx).1; omega) hx) HP.out)
        go_wp2_with fail
        go_ret
        exact ⟨rfl, hkp⟩
  · have hcd : (ce == 0) = false := by simpa using hc
    obtain rfl : ce = er := by rw [← HER.out]; unfold Par.fine; rw [hce, if_neg hc]
    go_enter Try.func35, Try.ntmps35
    go_wp2_with (go_at_call 42; refine (CHH.out _).mono ?_; rintro e V ⟨rfl, hk⟩)
    go_ret
    exact ⟨rfl, ((Keeps.refl Nob w).alloc _).trans hk⟩
end Go.Proofs.Ythoaoknggdohpaa
