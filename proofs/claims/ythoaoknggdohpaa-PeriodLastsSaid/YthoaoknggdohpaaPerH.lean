/-
  Period: the program's test of params and heights. Conditions: none.
-/
import Derived.Test.YthoaoknggdohpaaParH
import Derived.Test.YthoaoknggdohpaaPerG
import Derived.Test.YthoaoknggdohpaaOwnRow
import Derived.Deep.RegionHeld3
namespace Go.Proofs.Ythoaoknggdohpaa
open Go Go.RowKit Go.Own Go.Shelf

def errFirst (l : List Int) : Int := (l.find? (fun x => decide (x ≠ 0))).getD 0
theorem errFirst_hit (l : List Int) (k : Nat) (x : Int) (hx : l[k]? = some x) (h0 : x ≠ 0) (h : ∀ j y, j < k → l[j]? = some y → y = 0) : errFirst l = x := by
  unfold errFirst
  have : l.find? (fun x => decide (x ≠ 0)) = some x := by
    rw [List.find?_eq_some_iff_getElem]
    obtain ⟨hk, e⟩ := List.getElem?_eq_some_iff.1 hx
    refine ⟨by simpa using h0, k, hk, e, fun j hj => ?_⟩
    simpa using h j _ hj (List.getElem?_eq_getElem (by omega))
  rw [this]; rfl
theorem errFirst_none (l : List Int) (h : ∀ (j : Nat) y, l[j]? = some y → y = 0) : errFirst l = 0 := by
  unfold errFirst
  have : l.find? (fun x => decide (x ≠ 0)) = none := by
    rw [List.find?_eq_none]
    intro x hx
    obtain ⟨j, hj⟩ := List.getElem?_of_mem hx
    simpa using h j x hj
  rw [this]; rfl
def errOf (h : Int) : Int := if hOk h then 0 else 3
theorem errOf_ok (h : Int) (x : hOk h) : errOf h = 0 := if_pos x
theorem errOf_bad (h : Int) (x : ¬ hOk h) : errOf h = 3 := if_neg x
theorem errFirst_cons (x : Int) (l : List Int) : errFirst (x :: l) = if x = 0 then errFirst l else x := by
  unfold errFirst
  rw [List.find?_cons]
  by_cases h : x = 0
  · simp [h]
  · simp [h]
theorem errFirst_map (l : List Int) : errFirst (l.map errOf) = if l.all (fun h => decide (hOk h)) then 0 else 3 := by
  induction l with
  | nil => rfl
  | cons h t ih =>
    rw [List.map_cons, errFirst_cons, ih]
    by_cases hh : hOk h
    · rw [errOf_ok h hh]; simp [hh]
    · rw [errOf_bad h hh]; simp [hh]
theorem fine_eq (p : Par) (l : List Int) : p.fine l = errFirst (p.check.1 :: l.map errOf) := by
  rw [errFirst_cons, errFirst_map]
  rfl

set_option maxHeartbeats 1000000 in
theorem pfine_ok (h : Int) (w : World) : Calls Try.prog 38 #[.int .i64 h] w fun e w' => e = .returned (.int .i64 (errOf h)) ∧ w = w' := by
  by_cases h1 : h < 1
  · have he : errOf h = 3 := errOf_bad h (fun x => by unfold hOk at x; omega)
    rw [he]
    go_enter Try.func38, Try.ntmps38
    go_wp2
    go_ret
    exact ⟨rfl, rfl⟩
  · have h1d : decide (h < 1) = false := by simpa using h1
    by_cases h2 : 4294967296 < h
    · have he : errOf h = 3 := errOf_bad h (fun x => by unfold hOk at x; omega)
      rw [he]
      go_enter Try.func38, Try.ntmps38
      go_wp2
      go_ret
      exact ⟨rfl, rfl⟩
    · have h2d : decide (4294967296 < h) = false := by simpa using h2
      have he : errOf h = 0 := errOf_ok h (by unfold hOk; omega)
      rw [he]
      go_enter Try.func38, Try.ntmps38
      go_wp2
      go_ret
      exact ⟨rfl, rfl⟩

/-- Errors that the call laid itself. -/
def E (l : List Int) : List Value := l.map fun x => .int .i64 x
theorem E_get (l : List Int) (k : Nat) (x : Int) (h : l[k]? = some x) : (E l)[k]? = some (.int .i64 x) := by simp [E, h]
theorem E_one (l : List Int) : ∀ u ∈ E l, u.oneCell' = true := by
  intro u hu
  simp only [E, List.mem_map] at hu
  obtain ⟨x, _, rfl⟩ := hu
  rfl

set_option maxRecDepth 100000 in
set_option maxHeartbeats 2000000 in
theorem first_ok (v : Value) (l : List Int) (w : World) (hv : Row w 25 1 v l.length (E l)) (hl : l.length ≤ 1000) :
    Calls Try.prog 41 #[v] w fun e w' => e = .returned (.int .i64 (errFirst l)) ∧ w = w' := by
  obtain ⟨er, her⟩ : ∃ c, errFirst l = c := ⟨_, rfl⟩
  rw [her]
  have HER := Lib.hid her; clear her
  have hform : ∃ A cap, v = .slice A l.length cap := by
    rcases hv.2 with ⟨rfl, h0⟩ | ⟨g, cap, cur, rfl, _⟩
    · exact ⟨none, 0, by rw [h0]⟩
    · exact ⟨_, _, rfl⟩
  obtain ⟨A, cap, rfl⟩ := hform
  have HV := Lib.hid hv; clear hv
  go_enter Try.func41, Try.ntmps41
  go_wp2_with fail
  go_loop [7] (fun i => ∃ k : Nat, k ≤ l.length ∧ i = .int .i64 k ∧ Hid (∀ j y, j < k → l[j]? = some y → y = 0)) (fun i => l.length - (intOf i).toNat)
  case atStart => exact ⟨0, Nat.zero_le _, rfl, Lib.hid (fun j y hj => by omega)⟩
  case round =>
    obtain ⟨k, hk, rfl, HK⟩ := hrel
    by_cases hlt : k < l.length
    · obtain ⟨x, hx⟩ : ∃ x, l[k]? = some x := ⟨_, List.getElem?_eq_getElem hlt⟩
      obtain ⟨g, cap', hv, hg⟩ := HV.out.spell (by omega)
      simp only [Value.slice.injEq, true_and] at hv
      obtain ⟨rfl, rfl⟩ := hv
      have c0 : w.cell? ⟨g, k, none⟩ = some (.int .i64 x) := (World.ownsRow.cellAt HV.out k (by omega)).trans (E_get l k x hx)
      have HX := Lib.hid hx
      clear hx
      by_cases h0 : x = 0
      · have hb : (x != 0) = false := by simpa using h0
        have HK1 : Hid (∀ j y, j < k + 1 → l[j]? = some y → y = 0) := Lib.hid (fun j y hj hy => (Nat.lt_succ_iff_lt_or_eq.1 hj).elim (fun h => HK.out j y h hy) (fun e => by subst e; have := HX.out.symm.trans hy; simp at this; omega))
        clear h0
        go_wp2_with fail
        go_round
        case rel => exact ⟨k + 1, by omega, by go_num, HK1⟩
        case measure => simp [intOf]; omega
      · have hb : (x != 0) = true := by simpa using h0
        obtain rfl : er = x := HER.out.symm.trans (errFirst_hit l k x HX.out h0 HK.out)
        go_wp2_with fail
        go_ret
        exact ⟨rfl, rfl⟩
    · have hd : decide ((k : Int) < (l.length : Int)) = false := by simp; omega
      obtain rfl : er = 0 := HER.out.symm.trans (errFirst_none l (fun j y hy => HK.out j y (by have := (List.getElem?_eq_some_iff.1 hy).1; omega) hy))
      go_wp2_with fail
      go_ret
      exact ⟨rfl, rfl⟩
end Go.Proofs.Ythoaoknggdohpaa
