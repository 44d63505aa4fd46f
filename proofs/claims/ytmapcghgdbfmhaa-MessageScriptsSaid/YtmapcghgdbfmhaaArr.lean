/-
  Arrays of bytes compared: 'a == b', 'a != b'. Conditions: none.
-/
import Derived.Test.YtmapcghgdbfmhaaBytes
import Derived.ChangeKeysEq
import Derived.Laws.StructEq
namespace Go.Own
open Go Go.RowKit
variable {P : Program}
theorem run_eqItems_bytes {e : TypeId} (he : P.plainKey e = true) (hu : P.underlying e = some (.int .u8)) (d : Nat) (l m : List UInt8) (w : World) :
    ∀ (n k : Nat), k + n = l.length → k + n = m.length → (Op.eqItems (d + 1) e 1 (B l).toArray (B m).toArray (List.range' k n)).run P w = .ok (l.drop k == m.drop k) w := by
  intro n
  induction n with
  | zero =>
    intro k h1 h2
    rw [List.drop_of_length_le (by omega), List.drop_of_length_le (by omega)]
    rfl
  | succ n ih =>
    intro k h1 h2
    obtain ⟨x, hx⟩ : ∃ x, l[k]? = some x := ⟨_, List.getElem?_eq_getElem (by omega)⟩
    obtain ⟨y, hy⟩ : ∃ y, m[k]? = some y := ⟨_, List.getElem?_eq_getElem (by omega)⟩
    have e1 := run_part_plain (P := P) w he (xs := (B l).toArray) (off := k) (by simpa using B_get l k x hx)
    have e2 := run_part_plain (P := P) w he (xs := (B m).toArray) (off := k) (by simpa using B_get m k y hy)
    have e3 := run_equalIn_int (P := P) w d e .u8 .u8 (x.toNat : Int) (y.toNat : Int) hu
    rw [List.range'_succ]
    unfold Op.eqItems
    simp only [Nat.mul_one, Sem.run_bind, e1, e2, e3, Result.andThen_ok]
    obtain ⟨hk1, hx'⟩ := List.getElem?_eq_some_iff.1 hx
    obtain ⟨hk2, hy'⟩ := List.getElem?_eq_some_iff.1 hy
    rw [List.drop_eq_getElem_cons hk1, List.drop_eq_getElem_cons hk2, hx', hy']
    by_cases hxy : x = y
    · subst hxy
      simp only [beq_self_eq_true, Bool.not_true, Bool.false_eq_true, if_false]
      rw [ih (k + 1) (by omega) (by omega)]
      simp
    · have hne : ((x.toNat : Int) == (y.toNat : Int)) = false := by
        simp only [beq_eq_false_iff_ne, ne_eq]
        intro h; exact hxy (UInt8.toNat_inj.1 (by omega))
      simp only [hne, Bool.not_false, if_true]
      have h0 : ((x :: l.drop (k + 1)) == (y :: m.drop (k + 1))) = false := by
        simp only [beq_eq_false_iff_ne, ne_eq, List.cons.injEq, not_and]
        intro h; exact absurd h hxy
      rw [h0]
      rfl
theorem run_equalIn_bytes {t e : TypeId} {n : Nat} {i : TypeInfo} (hu : P.underlying t = some (.array n e)) (hi : P.info? e = some i) (he : P.plainKey e = true) (hue : P.underlying e = some (.int .u8)) (hC : P.cellsOf e = 1) (d : Nat) (l m : List UInt8) (w : World)
    (h1 : l.length = n) (h2 : m.length = n) : (Op.equalIn (d + 2) t (.agg (B l).toArray) (.agg (B m).toArray)).run P w = .ok (l == m) w := by
  rw [run_equalIn_array w (d + 1) _ _ hu hi, hC, List.range_eq_range', run_eqItems_bytes he hue d l m w n 0 (by omega) (by omega)]
  rfl
end Go.Own
