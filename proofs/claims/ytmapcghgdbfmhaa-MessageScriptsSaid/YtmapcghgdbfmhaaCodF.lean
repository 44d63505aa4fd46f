/-
  Codec: which number bytes begin with. Conditions: none.
  Codec: the number that stands at a place. Conditions: none.
  Codec: the document's Put. Conditions: none.
-/
import Derived.Test.YtmapcghgdbfmhaaCodC
import Derived.Laws.BitsAllLaws
namespace Go.Proofs.Ytmapcghgdbfmhaa
open Go Go.RowKit Go.Own Go.Shelf

theorem and127_fin : ∀ r : Fin 256, bits .and .u8 ((r.val : Nat) : Int) 127 = ((r.val % 128 : Nat) : Int) := by decide +kernel
theorem and127 (z : Nat) (hz : z < 256) : bits .and .u8 (z : Int) 127 = ((z % 128 : Nat) : Int) := and127_fin ⟨z, hz⟩
theorem pow128 (k : Nat) : 2 ^ (7 * k) = 128 ^ k := by rw [Nat.pow_mul]
theorem acc_small (z m k : Nat) (hk : k ≤ 9) (h9 : k = 9 → z ≤ 1) : z % 128 * 128 ^ k < 18446744073709551616 := by
  have h : k = 0 ∨ k = 1 ∨ k = 2 ∨ k = 3 ∨ k = 4 ∨ k = 5 ∨ k = 6 ∨ k = 7 ∨ k = 8 ∨ k = 9 := by omega
  rcases h with rfl | rfl | rfl | rfl | rfl | rfl | rfl | rfl | rfl | rfl <;> simp <;> omega
theorem acc_join (x m k : Nat) (hm : m < 128 ^ k) : m ||| x * 128 ^ k = m + x * 128 ^ k := by
  rw [Nat.or_comm, nat_join (7 * k) (x * 128 ^ k) m (by rw [pow128]; exact Nat.mul_mod_left _ _) (by rw [pow128]; exact hm), Nat.add_comm]
theorem wrap_u64_nat (n : Nat) (h : n < 18446744073709551616) : IntKind.u64.wrap (n : Int) = (n : Int) := by
  simp [IntKind.wrap, IntKind.bits, IntKind.signed]; omega
/-- A byte's groups are laid to those that were there. -/
theorem acc_mod (z m k : Nat) (hk : k ≤ 9) (h9 : k = 9 → z ≤ 1) (hm : m < 128 ^ k) (hm2 : m < 18446744073709551616) :
    bits .or .u64 (m : Int) (IntKind.u64.wrap (IntKind.u64.wrap ((z % 128 : Nat) : Int) * 2 ^ (7 * k))) = ((m + z % 128 * 128 ^ k : Nat) : Int) := by
  have hs := acc_small z m k hk h9
  rw [wrap_u64_nat (z % 128) (by omega)]
  have e : ((z % 128 : Nat) : Int) * 2 ^ (7 * k) = ((z % 128 * 128 ^ k : Nat) : Int) := by
    rw [← pow128]; simp
  rw [e, wrap_u64_nat _ hs, u64_or_nat _ _ hm2 hs, acc_join _ _ _ hm]
theorem acc_and (z m k : Nat) (hz : z < 256) (hk : k ≤ 9) (h9 : k = 9 → z ≤ 1) (hm : m < 128 ^ k) (hm2 : m < 18446744073709551616) :
    bits .or .u64 (m : Int) (IntKind.u64.wrap (IntKind.u64.wrap (bits .and .u8 (z : Int) 127) * 2 ^ (7 * k))) = ((m + z % 128 * 128 ^ k : Nat) : Int) := by
  rw [and127 z hz]; exact acc_mod z m k hk h9 hm hm2
theorem acc_next (z m k : Nat) (hm : m < 128 ^ k) : m + z % 128 * 128 ^ k < 128 ^ (k + 1) := by
  rw [Nat.pow_succ, Nat.mul_comm _ 128]
  have : z % 128 ≤ 127 := by omega
  have := Nat.mul_le_mul_right (128 ^ k) this
  omega
theorem pow128_le (k : Nat) (hk : k ≤ 9) : 128 ^ k ≤ 9223372036854775808 := by
  have : 128 ^ k ≤ 128 ^ 9 := Nat.pow_le_pow_right (by omega) hk
  simpa using this

/-- What has come of the bytes ahead of place k. -/
def NumAt (l : List UInt8) (k m : Nat) : Prop := Cod.num l = Cod.numF (l.drop k) k m ∧ m < 128 ^ k ∧ k ≤ 9
theorem NumAt.zero (l : List UInt8) : NumAt l 0 0 := ⟨rfl, by omega, by omega⟩
theorem drop_cons (l : List UInt8) (k : Nat) (c : UInt8) (h : l[k]? = some c) : l.drop k = c :: l.drop (k + 1) := by
  obtain ⟨hk, e⟩ := List.getElem?_eq_some_iff.1 h
  rw [List.drop_eq_getElem_cons hk, e]
theorem NumAt.end_ {l : List UInt8} {k m : Nat} (h : NumAt l k m) (hk : l.length ≤ k) : Cod.num l = (0, 0, 6) := by
  rw [h.1, List.drop_eq_nil_of_le hk]; rfl
theorem NumAt.form {l : List UInt8} {k m z : Nat} {c : UInt8} (h : NumAt l k m) (hc : l[k]? = some c) (hz : c.toNat = z) (hf : (k = 9 ∧ 1 < z) ∨ (0 < k ∧ z = 0)) : Cod.num l = (0, 0, 5) := by
  rw [h.1, drop_cons l k c hc, Cod.numF, hz, if_pos hf]
theorem NumAt.done {l : List UInt8} {k m z : Nat} {c : UInt8} (h : NumAt l k m) (hc : l[k]? = some c) (hz : c.toNat = z) (hf : ¬ ((k = 9 ∧ 1 < z) ∨ (0 < k ∧ z = 0))) (hlt : z < 128) : Cod.num l = (m + z % 128 * 128 ^ k, k + 1, 0) := by
  rw [h.1, drop_cons l k c hc, Cod.numF, hz, if_neg hf, if_pos hlt]
theorem NumAt.more {l : List UInt8} {k m z : Nat} {c : UInt8} (h : NumAt l k m) (hc : l[k]? = some c) (hz : c.toNat = z) (hf : ¬ ((k = 9 ∧ 1 < z) ∨ (0 < k ∧ z = 0))) (hge : ¬ z < 128) : NumAt l (k + 1) (m + z % 128 * 128 ^ k) := by
  refine ⟨?_, acc_next z m k h.2.1, ?_⟩
  · rw [h.1, drop_cons l k c hc, Cod.numF, hz, if_neg hf, if_neg hge]
  · have := h.2.2; omega

theorem num_ret {l : List UInt8} {r : Nat × Nat × Int} {a b : Nat} {e : Int} (h1 : Cod.num l = r) (h2 : Cod.num l = (a, b, e)) : r = (a, b, e) := h1.symm.trans h2

set_option maxRecDepth 100000 in
set_option maxHeartbeats 4000000 in
theorem number_ok (v : Value) (l : List UInt8) (w : World) (hv : BytesAt w v l) :
    Calls Try.prog 63 #[v] w fun e w' => e = .returned (.tuple #[.int .u64 ((Cod.num l).1 : Int), .int .i64 ((Cod.num l).2.1 : Int), .int .i64 (Cod.num l).2.2]) ∧ w = w' := by
  have hlen := hv.length_le
  obtain ⟨A, cap, rfl⟩ := hv.len
  have HV := Lib.hid hv; clear hv
  obtain ⟨r, hr⟩ : ∃ r, Cod.num l = r := ⟨_, rfl⟩
  rw [hr]
  have HR := Lib.hid hr; clear hr
  go_enter Try.func63, Try.ntmps63
  go_wp2_with fail
  go_loop [5, 10] (fun n i => ∃ k m : Nat, k ≤ l.length ∧ i = .int .i64 k ∧ n = .int .u64 (m : Int) ∧ Hid (NumAt l k m) ∧ k ≤ 9) (fun _ i => l.length - (intOf i).toNat)
  case atStart => exact ⟨0, 0, Nat.zero_le _, rfl, rfl, Lib.hid (NumAt.zero l), by omega⟩
  case round =>
    obtain ⟨k, m, hk, rfl, rfl, HK, hk9⟩ := hrel
    by_cases hlt : k < l.length
    · obtain ⟨c, hc⟩ : ∃ c, l[k]? = some c := ⟨_, List.getElem?_eq_getElem hlt⟩
      obtain ⟨b, o, cap', hv, hb, c0⟩ := HV.out.at_ k c hc
      simp only [Value.slice.injEq, true_and] at hv
      obtain ⟨rfl, rfl⟩ := hv
      have HC := Lib.hid hc
      clear hc
      have hc256 : c.toNat < 256 := c.toNat_lt
      obtain ⟨z, hz⟩ : ∃ z, c.toNat = z := ⟨_, rfl⟩
      rw [hz] at c0 hc256
      have HZ := Lib.hid hz; clear hz
      have key : ((k = 9 ∧ 1 < z) ∨ (0 < k ∧ z = 0)) ∨ ¬ ((k = 9 ∧ 1 < z) ∨ (0 < k ∧ z = 0)) := Decidable.em _
      rcases key with hf | hf
      · obtain rfl := num_ret HR.out (HK.out.form HC.out HZ.out hf)
        have kinds : (((k : Int) == 9) = true ∧ (k == 9) = true ∧ decide (1 < (z : Int)) = true ∧ decide (1 < z) = true) ∨ (((k : Int) == 9) = false ∧ (k == 9) = false ∧ decide (0 < (k : Int)) = true ∧ decide (0 < k) = true ∧ ((z : Int) == 0) = true ∧ (z == 0) = true) ∨ (((k : Int) == 9) = true ∧ (k == 9) = true ∧ decide (1 < (z : Int)) = false ∧ decide (1 < z) = false ∧ decide (0 < (k : Int)) = true ∧ decide (0 < k) = true ∧ ((z : Int) == 0) = true ∧ (z == 0) = true) := by
          simp; omega
        clear hf
        rcases kinds with ⟨b0, b1, b2, b3⟩ | ⟨b0, b1, b2, b3, b4, b5⟩ | ⟨b0, b1, b2, b3, b4, b5, b6, b7⟩
        all_goals
          go_wp2_with fail
          go_ret3
          exact ⟨rfl, rfl⟩
      · have h9 : k = 9 → z ≤ 1 := fun h => by omega
        have hacc := acc_and z m k hc256 hk9 h9 HK.out.2.1 (Nat.lt_of_lt_of_le HK.out.2.1 (Nat.le_trans (pow128_le k hk9) (by omega)))
        clear h9
        have kinds : (((k : Int) == 9) = false ∧ (k == 9) = false ∧ decide (0 < (k : Int)) = false ∧ decide (0 < k) = false) ∨ (((k : Int) == 9) = false ∧ (k == 9) = false ∧ decide (0 < (k : Int)) = true ∧ decide (0 < k) = true ∧ ((z : Int) == 0) = false ∧ (z == 0) = false) ∨ (((k : Int) == 9) = true ∧ (k == 9) = true ∧ decide (1 < (z : Int)) = false ∧ decide (1 < z) = false ∧ decide (0 < (k : Int)) = true ∧ decide (0 < k) = true ∧ ((z : Int) == 0) = false ∧ (z == 0) = false) := by
          simp; omega
        by_cases hlt : z < 128
        · have hd := HK.out.done HC.out HZ.out hf hlt
          clear hf
          generalize m + z % 128 * 128 ^ k = m' at hacc hd
          obtain rfl := num_ret HR.out hd
          clear hd
          rcases kinds with ⟨b0, b1, b2, b3⟩ | ⟨b0, b1, b2, b3, b4, b5⟩ | ⟨b0, b1, b2, b3, b4, b5, b6, b7⟩
          all_goals
            go_wp2_with fail
            go_ret3
            exact ⟨rfl, rfl⟩
        · have HN := Lib.hid (HK.out.more HC.out HZ.out hf hlt)
          have h91 := HN.out.2.2
          clear hf
          generalize m + z % 128 * 128 ^ k = m' at hacc HN
          rcases kinds with ⟨b0, b1, b2, b3⟩ | ⟨b0, b1, b2, b3, b4, b5⟩ | ⟨b0, b1, b2, b3, b4, b5, b6, b7⟩
          all_goals
            go_wp2_with fail
            go_round
            case rel => exact ⟨k + 1, m', by omega, by go_num, rfl, HN, h91⟩
            case measure => simp [intOf]; omega
    · obtain rfl := num_ret HR.out (HK.out.end_ (by omega))
      go_wp2_with fail
      go_ret3
      exact ⟨rfl, rfl⟩
end Go.Proofs.Ytmapcghgdbfmhaa
namespace Go.Proofs.Ytmapcghgdbfmhaa
open Go Go.RowKit Go.Own Go.Shelf

/-- What Get tells: a number, the place behind it, an error, its place. -/
def getAt (l : List UInt8) (at_ : Int) : Nat × Int × Int × Int :=
  if at_ < 0 ∨ (l.length : Int) < at_ then (0, 0, 3, 0)
  else if (Cod.num (l.drop at_.toNat)).2.2 = 0 then ((Cod.num (l.drop at_.toNat)).1, at_ + ((Cod.num (l.drop at_.toNat)).2.1 : Int), 0, 0) else (0, 0, (Cod.num (l.drop at_.toNat)).2.2, at_)
theorem getAt_out (l : List UInt8) (at_ : Int) (h : at_ < 0 ∨ (l.length : Int) < at_) : getAt l at_ = (0, 0, 3, 0) := by unfold getAt; rw [if_pos h]
theorem getAt_ok (l : List UInt8) (k : Nat) (h : k ≤ l.length) (he : (Cod.num (l.drop k)).2.2 = 0) : getAt l k = ((Cod.num (l.drop k)).1, (k : Int) + ((Cod.num (l.drop k)).2.1 : Int), 0, 0) := by
  unfold getAt; rw [if_neg (by omega), Int.toNat_natCast, if_pos he]
theorem getAt_bad (l : List UInt8) (k : Nat) (h : k ≤ l.length) (he : (Cod.num (l.drop k)).2.2 ≠ 0) : getAt l k = (0, 0, (Cod.num (l.drop k)).2.2, (k : Int)) := by
  unfold getAt; rw [if_neg (by omega), Int.toNat_natCast, if_neg he]
/-- Its four answers as Go's three. -/
def getV (r : Nat × Int × Int × Int) : Value := .tuple #[.int .u64 (r.1 : Int), .int .i64 r.2.1, .agg #[.int .i64 r.2.2.1, .int .i64 r.2.2.2]]

theorem bytes_size : ∀ w, (Go.sizeOf (Try.prog.elem 22)).run Try.prog w = .ok 1 w := fun w => by kernel_rfl

end Go.Proofs.Ytmapcghgdbfmhaa
namespace Go.Proofs.Ytmapcghgdbfmhaa
open Go Go.RowKit Go.Own Go.Shelf

theorem or128b (m : Nat) : bits .or .u8 ((m : Int) % 128) 128 = ((m % 128 + 128 : Nat) : Int) := by
  have h := or128_fin ⟨m % 128, by omega⟩
  have e1 : ((m % 128 : Nat) : Int) = (m : Int) % 128 := by omega
  have e2 : m % 128 % 128 = m % 128 := by omega
  simp only [e1, e2] at h
  exact h

set_option maxRecDepth 100000 in
set_option maxHeartbeats 2000000 in
theorem rPut_any (f : Nat) : ∀ (i n : Nat) (w : World), f + i = 10 → i ≤ 9 → n < 2 ^ (64 - 7 * i) →
    Calls Try.prog 73 #[.int .u64 (n : Int)] w fun e w' => ∃ v, e = .returned v ∧ Row w' 5 1 v (Cod.encF f n).length (B (Cod.encF f n)) ∧ (∀ j, v.ownBlock = some j → w.heap.size ≤ j) ∧ v ≠ .slice none 0 0 ∧ Keeps Nob w w' := by
  obtain ⟨i0, hi, hz0, hz1, hz2⟩ := info_parts u8_info
  induction f with
  | zero => intro i n w h hi; omega
  | succ f ih =>
    intro i n w h hi9 hn
    by_cases hlt : n < 128
    · rw [Cod.encF_last f n hlt]
      have hm : ((n : Int) % 256) = (n : Int) := by omega
      go_enter Try.func73, Try.ntmps73
      go_wp2_with fail
      have hr := Row.newB w [UInt8.ofNat n] 5 (by simp [maxLen])
      have e1 : (B [UInt8.ofNat n]).toArray = #[.int .u8 (n : Int)] := by simp [B]; omega
      rw [e1] at hr
      go_ret
      exact ⟨_, rfl, hr, fun j hj => by simp [Value.ownBlock] at hj; omega, by simp, (Keeps.refl _ _).alloc _⟩
    · obtain ⟨hi8, hs⟩ := Cod.small_step i n hi9 hn (by omega)
      rw [Cod.encF_more f n (by omega)]
      have IH := Lib.hid (ih (i + 1) (n / 128) (w.alloc (.cells #[.int .u8 ((n % 128 + 128 : Nat) : Int)] 5)) (by omega) (by omega) hs)
      have hb := or128b n
      have HN := Lib.hid hn
      have HS := Lib.hid hs
      have hq : IntKind.u64.wrap ((n : Int) / 128) = ((n / 128 : Nat) : Int) := by
        have : n / 128 < 18446744073709551616 := Nat.lt_of_lt_of_le hs (by
          have : 2 ^ (64 - 7 * (i + 1)) ≤ 2 ^ 64 := Nat.pow_le_pow_right (by omega) (by omega)
          simpa using this)
        rw [show ((n : Int) / 128) = ((n / 128 : Nat) : Int) by omega]
        exact wrap_u64_nat _ this
      have hlen : (Cod.encF f (n / 128)).length ≤ 10 := by have := Cod.encF_length f (n / 128); omega
      clear ih hn hs
      generalize hz : n % 128 + 128 = z at hb IH ⊢
      have hz256 : z < 256 := by omega
      have hr1 := Row.newB w [UInt8.ofNat z] 5 (by simp [maxLen])
      have e1 : (B [UInt8.ofNat z]).toArray = #[.int .u8 (z : Int)] := by simp [B]; omega
      rw [e1] at hr1
      have HR1 := Lib.hid hr1
      clear hz e1 hr1
      generalize Cod.encF f (n / 128) = rest at IH hlen ⊢
      generalize n / 128 = q at hq IH
      go_enter Try.func73, Try.ntmps73
      go_wp2_with (first
        | (at_builtin; refine own_append2 rfl _ _ 22 rfl 5 i0 (.int .u8 0) 1 1 Try.underlying22 hi hz0 hz1 hz2 rfl (by decide) (.slice (some ⟨w.heap.size, 0, none⟩) 1 1) 1 _ rfl (HR1.out.keeps H4.out (fun _ _ x => x)) v rest.length (B rest) rfl (H1.out.src (B_one _)) (by unfold maxLen; omega) (by omega) ?_; intro v' w1 hown' hgrow hnil hat; obtain ⟨g', cap', rfl, hg'⟩ := hown'.spell (by omega))
        | (go_at_call 73; refine IH.out.mono ?_; rintro e w' ⟨v, rfl, h1, h2, h3, h4⟩; have H1 := Lib.hid h1; have H2 := Lib.hid h2; have H3 := Lib.hid h3; have H4 := Lib.hid h4; clear h1 h2 h3 h4))
      go_ret
      refine ⟨.slice (some ⟨g', 0, none⟩) (1 + rest.length) cap', rfl, ?_, fun j hj => ?_, by simp, ?_⟩
      · rw [show rest.length + 1 = 1 + rest.length by omega]
        exact hown'
      · have h5 := hat j (by simpa [Value.ownBlock] using hj)
        have h6 := H4.out.size
        simp at h6
        rcases h5 with h5 | ⟨h5, _⟩
        · simp [Value.ownBlock] at h5; omega
        · omega
      · exact (((Keeps.refl Nob w).alloc _).trans H4.out).grown hgrow (fun j hj hlt => by simp [Value.ownBlock] at hj; omega)

/-- The document's Put tells the same bytes, in new memory. -/
theorem rPut_ok (x : Nat) (hx : x < 2 ^ 64) (w : World) :
    Calls Try.prog 73 #[.int .u64 (x : Int)] w fun e w' => ∃ v, e = .returned v ∧ Row w' 5 1 v (Cod.enc x).length (B (Cod.enc x)) ∧ (∀ j, v.ownBlock = some j → w.heap.size ≤ j) ∧ v ≠ .slice none 0 0 ∧ Keeps Nob w w' :=
  rPut_any 10 0 x w (by omega) (by omega) (by simpa using hx)
end Go.Proofs.Ytmapcghgdbfmhaa
