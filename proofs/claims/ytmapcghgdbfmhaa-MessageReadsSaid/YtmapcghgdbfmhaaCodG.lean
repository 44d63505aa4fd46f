/-
  Codec: the document's Get. Conditions: none.
-/
import Derived.Test.YtmapcghgdbfmhaaCodF
namespace Go.Proofs.Ytmapcghgdbfmhaa
open Go Go.RowKit Go.Own Go.Shelf

set_option maxRecDepth 100000 in
set_option maxHeartbeats 8000000 in
theorem rGet_ok (v : Value) (l : List UInt8) (at_ : Int) (w : World) (hv : BytesAt w v l) :
    Calls Try.prog 99 #[v, .int .i64 at_] w fun e w' => e = .returned (getV (getAt l at_)) ∧ Keeps Nob w w' := by
  have hlen := hv.length_le
  obtain ⟨A, cap, rfl, hlc, hcm, _⟩ := hv.form
  by_cases h1 : at_ < 0
  · rw [getAt_out _ _ (.inl h1)]
    go_enter Try.func99, Try.ntmps99
    go_wp2
    exact bodyPost_ret (v := getV (0, 0, 3, 0)) (by simp [results, Try.results99, go_sem, getV]) rfl ⟨rfl, (Keeps.refl _ _).alloc _⟩
  · have h1d : decide (at_ < 0) = false := by simpa using h1
    by_cases h2 : (l.length : Int) < at_
    · rw [getAt_out _ _ (.inr h2)]
      go_enter Try.func99, Try.ntmps99
      go_wp2
      exact bodyPost_ret (v := getV (0, 0, 3, 0)) (by simp [results, Try.results99, go_sem, getV]) rfl ⟨rfl, (Keeps.refl _ _).alloc _⟩
    · obtain ⟨a, rfl⟩ : ∃ k : Nat, at_ = k := ⟨at_.toNat, by omega⟩
      have hal : a ≤ l.length := by omega
      have HV := Lib.hid hv
      clear hv
      obtain ⟨gg, hgg⟩ : ∃ g, getAt l a = g := ⟨_, rfl⟩
      rw [hgg]
      have HG := Lib.hid hgg
      clear hgg
      unfold maxLen at hcm
      go_enter Try.func99, Try.ntmps99
      go_wp2_with fail
      go_loop [7, 8] (fun n i => ∃ k m : Nat, a + k ≤ l.length ∧ i = .int .i64 k ∧ n = .int .u64 (m : Int) ∧ Hid (NumAt (l.drop a) k m) ∧ k ≤ 9) (fun _ i => l.length - (intOf i).toNat)
      case atStart => exact ⟨0, 0, by omega, rfl, rfl, Lib.hid (NumAt.zero _), by omega⟩
      case round =>
        obtain ⟨k, m, hk, rfl, rfl, HK, hk9⟩ := hrel
        have hk10 : decide ((k : Int) < 10) = true := by simp; omega
        by_cases hlt : a + k < l.length
        · obtain ⟨c, hc⟩ : ∃ c, l[a + k]? = some c := ⟨_, List.getElem?_eq_getElem hlt⟩
          obtain ⟨b, o, cap', hv, hb, c00⟩ := HV.out.at_ (a + k) c hc
          simp only [Value.slice.injEq, true_and] at hv
          obtain ⟨rfl, rfl⟩ := hv
          have c0 : (w.alloc (.cells #[.int .i64 0, .int .i64 0] 38)).cell? ⟨b, o + (a + k), none⟩ = some (.int .u8 (c.toNat : Int)) := (World.cell?_alloc_lt _ _ _ hb).trans c00
          clear c00
          have HC : Hid ((l.drop a)[k]? = some c) := Lib.hid (by rw [List.getElem?_drop]; exact hc)
          clear hc
          have hc256 : c.toNat < 256 := c.toNat_lt
          obtain ⟨z, hz⟩ : ∃ z, c.toNat = z := ⟨_, rfl⟩
          rw [hz] at c0 hc256
          have HZ := Lib.hid hz; clear hz
          have key : ((k = 9 ∧ 1 < z) ∨ (0 < k ∧ z = 0)) ∨ ¬ ((k = 9 ∧ 1 < z) ∨ (0 < k ∧ z = 0)) := Decidable.em _
          rcases key with hf | hf
          · have hn := HK.out.form HC.out HZ.out hf
            obtain rfl : gg = (0, 0, 5, (a : Int)) := HG.out.symm.trans (by rw [getAt_bad _ _ hal (by rw [hn]; decide), hn])
            have kinds : (((k : Int) == 9) = true ∧ (k == 9) = true ∧ decide (1 < (z : Int)) = true ∧ decide (1 < z) = true) ∨ (((k : Int) == 9) = false ∧ (k == 9) = false ∧ decide (0 < (k : Int)) = true ∧ decide (0 < k) = true ∧ ((z : Int) == 0) = true ∧ (z == 0) = true) ∨ (((k : Int) == 9) = true ∧ (k == 9) = true ∧ decide (1 < (z : Int)) = false ∧ decide (1 < z) = false ∧ decide (0 < (k : Int)) = true ∧ decide (0 < k) = true ∧ ((z : Int) == 0) = true ∧ (z == 0) = true) := by
              simp; omega
            clear hf hn
            rcases kinds with ⟨b0, b1, b2, b3⟩ | ⟨b0, b1, b2, b3, b4, b5⟩ | ⟨b0, b1, b2, b3, b4, b5, b6, b7⟩
            all_goals
              go_wp2_with fail
              exact bodyPost_ret (v := getV (0, 0, 5, (a : Int))) (by simp [results, Try.results99, go_sem, getV]) rfl ⟨rfl, (Keeps.refl _ _).alloc _⟩
          · have h9 : k = 9 → z ≤ 1 := fun h => by omega
            have hacc := acc_mod z m k hk9 h9 HK.out.2.1 (Nat.lt_of_lt_of_le HK.out.2.1 (Nat.le_trans (pow128_le k hk9) (by omega)))
            rw [wrap_u64_nat (z % 128) (by omega)] at hacc
            rw [show (((z % 128 : Nat)) : Int) = (z : Int) % 128 by omega] at hacc
            clear h9
            have kinds : (((k : Int) == 9) = false ∧ (k == 9) = false ∧ decide (0 < (k : Int)) = false ∧ decide (0 < k) = false) ∨ (((k : Int) == 9) = false ∧ (k == 9) = false ∧ decide (0 < (k : Int)) = true ∧ decide (0 < k) = true ∧ ((z : Int) == 0) = false ∧ (z == 0) = false) ∨ (((k : Int) == 9) = true ∧ (k == 9) = true ∧ decide (1 < (z : Int)) = false ∧ decide (1 < z) = false ∧ decide (0 < (k : Int)) = true ∧ decide (0 < k) = true ∧ ((z : Int) == 0) = false ∧ (z == 0) = false) := by
              simp; omega
            by_cases hlt2 : z < 128
            · have hn := HK.out.done HC.out HZ.out hf hlt2
              clear hf
              generalize m + z % 128 * 128 ^ k = m' at hacc hn
              obtain rfl : gg = (m', (a : Int) + ((k + 1 : Nat) : Int), 0, 0) := HG.out.symm.trans (by rw [getAt_ok _ _ hal (by rw [hn]), hn])
              clear hn
              rcases kinds with ⟨b0, b1, b2, b3⟩ | ⟨b0, b1, b2, b3, b4, b5⟩ | ⟨b0, b1, b2, b3, b4, b5, b6, b7⟩
              all_goals
                go_wp2_with fail
                exact bodyPost_ret (v := getV (m', (a : Int) + ((k + 1 : Nat) : Int), 0, 0)) (by simp [results, Try.results99, go_sem, getV]) rfl ⟨rfl, (Keeps.refl _ _).alloc _⟩
            · have HN := Lib.hid (HK.out.more HC.out HZ.out hf hlt2)
              have h91 := HN.out.2.2
              clear hf
              generalize m + z % 128 * 128 ^ k = m' at hacc HN
              rcases kinds with ⟨b0, b1, b2, b3⟩ | ⟨b0, b1, b2, b3, b4, b5⟩ | ⟨b0, b1, b2, b3, b4, b5, b6, b7⟩
              all_goals
                go_wp2_with fail
                go_round
                case rel => exact ⟨k + 1, m', by omega, by go_num, rfl, HN, h91⟩
                case measure => simp [intOf]; omega
        · have hn := HK.out.end_ (by rw [List.length_drop]; omega)
          obtain rfl : gg = (0, 0, 6, (a : Int)) := HG.out.symm.trans (by rw [getAt_bad _ _ hal (by rw [hn]; decide), hn])
          clear hn
          go_wp2_with fail
          exact bodyPost_ret (v := getV (0, 0, 6, (a : Int))) (by simp [results, Try.results99, go_sem, getV]) rfl ⟨rfl, (Keeps.refl _ _).alloc _⟩
end Go.Proofs.Ytmapcghgdbfmhaa
