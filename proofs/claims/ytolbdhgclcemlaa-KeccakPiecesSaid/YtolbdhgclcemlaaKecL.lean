/-
  Keccak: arrays that come in, arrays of words compared. Conditions: none.
-/
import Derived.Test.YtolbdhgclcemlaaKecH
import Derived.Test.YtolbdhgclcemlaaKecI
import Derived.Test.YtolbdhgclcemlaaLaw
import Derived.Test.YtolbdhgclcemlaaPickOk
namespace Go.Proofs.Ytolbdhgclcemlaa
open Go Go.RowKit Go.Own Go.ChangeShapes Go.WideShapes Go.ChangeAt Go.WideElems

theorem okWide_array {W : World} {R : Reach} {base : Nat} {t : TypeId} {n : Nat} {e : TypeId} {v : Value} (ht : Try.prog.underlying t = some (.array n e)) (h : Value.okWide Try.prog W R base t v) : ∃ cs, v = .agg cs ∧ cs.size = Try.prog.cellsOf t := by
  simp only [Value.okWide, ht] at h
  obtain ⟨cs, h1, h2, _⟩ := h
  exact ⟨cs, h1, h2⟩

theorem open_w25 {H : Type} {enc : TypeId × Value → H} {W : World} {sp : Nat → Bool} {held : Bool} {v : Value} {d : DataW H} {ps : List MemPlace} {R : Reach} {base : Nat} (h : DataW.Trod enc Try.prog W 0 sp held 46 v d ps) (hv : Value.okWide Try.prog W R base 46 v) :
    ∃ s : List Nat, v = .agg (Wz s) ∧ s.length = 25 ∧ Kec.Ws s := by
  obtain ⟨cs, rfl, hsz⟩ := okWide_array Try.underlying46 hv
  have hC : Try.prog.cellsOf 46 = 25 := by kernel_rfl
  have hu : Try.prog.cellsOf 45 = 1 := by kernel_rfl
  rw [hC] at hsz
  obtain ⟨fuel, ht⟩ := h
  have ht : DataW.trod enc Try.prog W 0 sp held fuel 46 cs.toList = some (d, ps) := ht
  have hlen : cs.toList.length = 25 := by simpa using hsz
  have hcs : cs = cs.toList.toArray := by simp
  generalize cs.toList = c at *
  obtain ⟨xs, m, _, _, hc, hxl, hel⟩ := DataW.trod_array Try.underlying46 ht
  rw [hu] at hel
  obtain ⟨l, hl, hq⟩ := list_of (fun i (x : Nat) => x < Kec.W ∧ c[i]? = some (.int .u64 (x : Int))) 25 (fun i hlt => by
    have h1 := hel i hlt
    rw [List.getElem?_eq_getElem (show i < xs.length by omega)] at h1
    obtain ⟨q, e1, _, e3⟩ := DataW.trod_int Try.underlying45 h1
    obtain ⟨n, hn, rfl⟩ := u64_nat e3
    refine ⟨n, hn, ?_⟩
    have h2 : ((c.drop (i * 1)).take 1)[0]? = some (.int .u64 (n : Int)) := by rw [e1]; rfl
    rw [List.getElem?_take_of_lt (by omega), List.getElem?_drop] at h2
    simpa using h2)
  refine ⟨l, ?_, hl, fun i => ?_⟩
  · rw [hcs]
    refine congrArg Value.agg ?_
    unfold Wz
    refine congrArg List.toArray (List.ext_getElem? fun i => ?_)
    by_cases hi : i < 25
    · obtain ⟨x, hx⟩ : ∃ x, l[i]? = some x := ⟨_, List.getElem?_eq_getElem (by omega)⟩
      rw [(hq i x hx).2, List.getElem?_map, hx]; rfl
    · rw [List.getElem?_eq_none (by omega), List.getElem?_eq_none (by rw [List.length_map]; omega)]
  · unfold Kec.g
    by_cases hi : i < 25
    · obtain ⟨x, hx⟩ : ∃ x, l[i]? = some x := ⟨_, List.getElem?_eq_getElem (by omega)⟩
      rw [List.getD_eq_getElem?_getD, hx]; exact (hq i x hx).1
    · rw [List.getD_eq_getElem?_getD, List.getElem?_eq_none (by omega)]; exact Kec.W_pos

theorem open_hash {H : Type} {enc : TypeId × Value → H} {W : World} {sp : Nat → Bool} {held : Bool} {v : Value} {d : DataW H} {ps : List MemPlace} {R : Reach} {base : Nat} (h : DataW.Trod enc Try.prog W 0 sp held 29 v d ps) (hv : Value.okWide Try.prog W R base 29 v) :
    ∃ l : List UInt8, v = .agg (B l).toArray ∧ l.length = 32 := by
  obtain ⟨cs, rfl, hsz⟩ := okWide_array Try.underlying29 hv
  have hC : Try.prog.cellsOf 29 = 32 := by kernel_rfl
  have hu : Try.prog.cellsOf 5 = 1 := by kernel_rfl
  rw [hC] at hsz
  obtain ⟨fuel, ht⟩ := h
  have ht : DataW.trod enc Try.prog W 0 sp held fuel 29 cs.toList = some (d, ps) := ht
  have hlen : cs.toList.length = 32 := by simpa using hsz
  have hcs : cs = cs.toList.toArray := by simp
  generalize cs.toList = c at *
  obtain ⟨xs, m, _, _, hc, hxl, hel⟩ := DataW.trod_array Try.underlying29 ht
  rw [hu] at hel
  obtain ⟨l, hl, hq⟩ := list_of (fun i (x : UInt8) => c[i]? = some (.int .u8 (x.toNat : Int))) 32 (fun i hlt => by
    have h1 := hel i hlt
    rw [List.getElem?_eq_getElem (show i < xs.length by omega)] at h1
    obtain ⟨q, e1, _, e3⟩ := DataW.trod_int Try.underlying5 h1
    obtain ⟨n, rfl⟩ := u8_nat e3
    refine ⟨n, ?_⟩
    have h2 : ((c.drop (i * 1)).take 1)[0]? = some (.int .u8 (n.toNat : Int)) := by rw [e1]; rfl
    rw [List.getElem?_take_of_lt (by omega), List.getElem?_drop] at h2
    simpa using h2)
  refine ⟨l, ?_, hl⟩
  rw [hcs]
  refine congrArg Value.agg (congrArg List.toArray (List.ext_getElem? fun i => ?_))
  by_cases hi : i < 32
  · obtain ⟨x, hx⟩ : ∃ x, l[i]? = some x := ⟨_, List.getElem?_eq_getElem (by omega)⟩
    rw [hq i x hx, B_get _ _ _ hx]
  · rw [List.getElem?_eq_none (by omega), List.getElem?_eq_none (by rw [B_length]; omega)]

theorem u64_info : (Try.prog.info? 45).map (fun i => (i.zero, i.size, i.bytes)) = some (some (.int .u64 0), 1, 8) := by kernel_rfl
/-- The cells of words. -/
def Wl (s : List Nat) : List Value := s.map fun (x : Nat) => Value.int .u64 (x : Int)
theorem run_eqItems_words {e : TypeId} (he : Try.prog.plainKey e = true) (hu : Try.prog.underlying e = some (.int .u64)) (d : Nat) (l m : List Nat) (w : World) :
    ∀ (n k : Nat), k + n = l.length → k + n = m.length → (Op.eqItems (d + 1) e 1 (Wz l) (Wz m) (List.range' k n)).run Try.prog w = .ok (l.drop k == m.drop k) w := by
  intro n
  induction n with
  | zero =>
    intro k h1 h2
    rw [List.drop_of_length_le (by omega), List.drop_of_length_le (by omega)]
    rfl
  | succ n ih =>
    intro k h1 h2
    have hk1 : k < l.length := by omega
    have hk2 : k < m.length := by omega
    have e1 := run_part_plain (P := Try.prog) w he (xs := Wz l) (off := k) (v := .int .u64 ((l[k] : Nat) : Int)) (by simp [Wz, List.getElem?_eq_getElem hk1])
    have e2 := run_part_plain (P := Try.prog) w he (xs := Wz m) (off := k) (v := .int .u64 ((m[k] : Nat) : Int)) (by simp [Wz, List.getElem?_eq_getElem hk2])
    have e3 := run_equalIn_int (P := Try.prog) w d e .u64 .u64 ((l[k] : Nat) : Int) ((m[k] : Nat) : Int) hu
    rw [List.range'_succ]
    unfold Op.eqItems
    simp only [Nat.mul_one, Sem.run_bind, e1, e2, e3, Result.andThen_ok]
    rw [List.drop_eq_getElem_cons hk1, List.drop_eq_getElem_cons hk2]
    by_cases hxy : l[k] = m[k]
    · rw [hxy]
      simp only [beq_self_eq_true, Bool.not_true, Bool.false_eq_true, if_false]
      rw [ih (k + 1) (by omega) (by omega), List.cons_beq_cons, beq_self_eq_true, Bool.true_and]
    · have hne : (((l[k] : Nat) : Int) == ((m[k] : Nat) : Int)) = false := by
        simp only [beq_eq_false_iff_ne, ne_eq]
        intro h; exact hxy (by omega)
      simp only [hne, Bool.not_false, if_true]
      have h0 : ((l[k] :: l.drop (k + 1)) == (m[k] :: m.drop (k + 1))) = false := by
        simp only [beq_eq_false_iff_ne, ne_eq, List.cons.injEq, not_and]
        intro h; exact absurd h hxy
      rw [h0]
      rfl
theorem run_equal25 (l m : List Nat) (w : World) (h1 : l.length = 25) (h2 : m.length = 25) : (Op.equalIn 10000 46 (.agg (Wz l)) (.agg (Wz m))).run Try.prog w = .ok (l == m) w := by
  obtain ⟨i0, hi, _, _, _⟩ := info_parts u64_info
  have hC : Try.prog.cellsOf 45 = 1 := by kernel_rfl
  rw [run_equalIn_array (P := Try.prog) w 9999 _ _ Try.underlying46 hi, hC, List.range_eq_range', run_eqItems_words (by kernel_rfl) Try.underlying45 9998 l m w 25 0 (by omega) (by omega)]
  rfl
theorem eql25 (l m : List Nat) (h1 : l.length = 25) (h2 : m.length = 25) (w : World) : (binOp .eql 46 (.agg (Wz l)) (.agg (Wz m))).run Try.prog w = .ok (.bool (l == m)) w := by
  rw [run_eql_struct, run_equal25 l m w h1 h2]; rfl
theorem neq25 (l m : List Nat) (h1 : l.length = 25) (h2 : m.length = 25) (w : World) : (binOp .neq 46 (.agg (Wz l)) (.agg (Wz m))).run Try.prog w = .ok (.bool (!(l == m))) w := by
  rw [run_neq_struct, run_equal25 l m w h1 h2]; rfl
theorem w25_guard : Try.prog.eqGuardType Try.prog.depth 46 = false := by kernel_rfl
theorem pick1600 (x : Int) (w : World) (hx : -9223372036854775808 ≤ x ∧ x ≤ 9223372036854775807) : Calls Try.prog 16 #[.int .i64 x, .int .i64 1600] w fun e w' => ∃ tn : Nat, tn < 1600 ∧ e = .returned (.int .i64 ((tn : Nat) : Int)) ∧ w = w' :=
  (pick_ok x 1600 w hx (by omega)).mono fun e w' ⟨h1, h2⟩ => by
    rw [if_neg (by omega)] at h1
    have h3 := Int.emod_nonneg x (show (1600 : Int) ≠ 0 by omega)
    have h4 := Int.emod_lt_of_pos x (show (0 : Int) < 1600 by omega)
    exact ⟨(x % 1600).toNat, by omega, by rw [h1, Int.toNat_of_nonneg h3], h2⟩
theorem perm_beq {s u : List Nat} (hs : s.length = 25) (hu : u.length = 25) (ws : Kec.Ws s) (wu : Kec.Ws u) : (Kec.perm s == Kec.perm u) = (s == u) := by
  by_cases h : s = u
  · subst h; simp
  · have h2 : Kec.perm s ≠ Kec.perm u := fun e => h (Kec.perm_inj hs hu ws wu e)
    rw [beq_eq_false_iff_ne.2 h, beq_eq_false_iff_ne.2 h2]
theorem shl_one (j : Nat) (h : j < 64) : (1 <<< j) % Kec.W = 2 ^ j ∧ 2 ^ j < Kec.W := by
  have h2 : 2 ^ j < Kec.W := Nat.pow_lt_pow_right (by omega) h
  rw [Nat.one_shiftLeft, Nat.mod_eq_of_lt h2]; exact ⟨rfl, h2⟩
theorem xor_ne (x j : Nat) : x ^^^ 2 ^ j ≠ x := by
  intro h
  have h1 : (x ^^^ 2 ^ j).testBit j = x.testBit j := by rw [h]
  rw [Nat.testBit_xor, Nat.testBit_two_pow_self] at h1
  cases hb : x.testBit j <;> simp [hb] at h1
theorem flip_ne {s : List Nat} (hs : s.length = 25) (i j : Nat) (hi : i < 25) : s ≠ s.set i (Kec.g s i ^^^ 2 ^ j) := by
  intro h
  have h1 : Kec.g s i = Kec.g (s.set i (Kec.g s i ^^^ 2 ^ j)) i := congrArg (fun l => Kec.g l i) h
  rw [Kec.g_set s i i _ (by omega), if_pos rfl] at h1
  exact xor_ne _ _ h1.symm
theorem eq_bools (b : Bool) (w : World) : (binOp .eql 4 (.bool b) (.bool b)).run Try.prog w = .ok (.bool true) w := by
  cases b <;> kernel_rfl
end Go.Proofs.Ytolbdhgclcemlaa
