/-
  Codec: the document's Put. Conditions: none.
-/
import Derived.Test.YtenaakldccjnbaaCodE
namespace Go.Proofs.Ytenaakldccjnbaa
open Go Go.RowKit Go.Own Go.Shelf

theorem or128b (m : Nat) : bits .or .u8 ((m : Int) % 128) 128 = ((m % 128 + 128 : Nat) : Int) := by
  have h := or128_fin ⟨m % 128, by omega⟩
  have e1 : ((m % 128 : Nat) : Int) = (m : Int) % 128 := by omega
  have e2 : m % 128 % 128 = m % 128 := by omega
  simp only [e1, e2] at h
  exact h

set_option maxRecDepth 100000 in
set_option maxHeartbeats 2000000 in
theorem rPut_any (f : Nat) : ∀ (i n : Nat) (w : World), f + i = 10 → i ≤ 9 → n < 2 ^ (64 - 7 * i) →
    Calls Try.prog 58 #[.int .u64 (n : Int)] w fun e w' => ∃ v, e = .returned v ∧ Row w' 5 1 v (Cod.encF f n).length (B (Cod.encF f n)) ∧ (∀ j, v.ownBlock = some j → w.heap.size ≤ j) ∧ v ≠ .slice none 0 0 ∧ Keeps Nob w w' := by
  obtain ⟨i0, hi, hz0, hz1, hz2⟩ := info_parts u8_info
  induction f with
  | zero => intro i n w h hi; omega
  | succ f ih =>
    intro i n w h hi9 hn
    by_cases hlt : n < 128
    · rw [Cod.encF_last f n hlt]
      have hm : ((n : Int) % 256) = (n : Int) := by omega
      go_enter Try.func58, Try.ntmps58
      go_wp2_with fail
      have hr := Row.newB w [UInt8.ofNat n] 5 (by simp [maxLen])
      have e1 : (B [UInt8.ofNat n]).toArray = #[.int .u8 (n : Int)] := by simp [B]; omega
      rw [e1] at hr
      go_ret
      exact ⟨_, rfl, hr, fun j hj => by simp [Value.ownBlock] at hj; omega, by simp, (Keeps.refl _ _).alloc _⟩
    · obtain ⟨hi8, hs⟩ := Cod.small_step i n hi9 hn (by omega)
      rw [Cod.encF_more f n (by omega)]
      have IH := Lib.hid (ih (i + 1) (n / 128) (w.alloc (.cells #[.int .u8 ((n % 128 + 128 : Nat) : Int)] 5)) (by omega) (by omega) hs)
      have hb := or128b n
      have HN := Lib.hid hn
      have HS := Lib.hid hs
      have hq : IntKind.u64.wrap ((n : Int) / 128) = ((n / 128 : Nat) : Int) := by
        have : n / 128 < 18446744073709551616 := Nat.lt_of_lt_of_le hs (by
          have : 2 ^ (64 - 7 * (i + 1)) ≤ 2 ^ 64 := Nat.pow_le_pow_right (by omega) (by omega)
          simpa using this)
        rw [show ((n : Int) / 128) = ((n / 128 : Nat) : Int) by omega]
        exact wrap_u64_nat _ this
      have hlen : (Cod.encF f (n / 128)).length ≤ 10 := by have := Cod.encF_length f (n / 128); omega
      clear ih hn hs
      generalize hz : n % 128 + 128 = z at hb IH ⊢
      have hz256 : z < 256 := by omega
      have hr1 := Row.newB w [UInt8.ofNat z] 5 (by simp [maxLen])
      have e1 : (B [UInt8.ofNat z]).toArray = #[.int .u8 (z : Int)] := by simp [B]; omega
      rw [e1] at hr1
      have HR1 := Lib.hid hr1
      clear hz e1 hr1
      generalize Cod.encF f (n / 128) = rest at IH hlen ⊢
      generalize n / 128 = q at hq IH
      go_enter Try.func58, Try.ntmps58
      go_wp2_with (first
        | (at_builtin; refine own_append2 rfl _ _ 22 rfl 5 i0 (.int .u8 0) 1 1 Try.underlying22 hi hz0 hz1 hz2 rfl (by decide) (.slice (some ⟨w.heap.size, 0, none⟩) 1 1) 1 _ rfl (HR1.out.keeps H4.out (fun _ _ x => x)) v rest.length (B rest) rfl (H1.out.src (B_one _)) (by unfold maxLen; omega) (by omega) ?_; intro v' w1 hown' hgrow hnil hat; obtain ⟨g', cap', rfl, hg'⟩ := hown'.spell (by omega))
        | (go_at_call 58; refine IH.out.mono ?_; rintro e w' ⟨v, rfl, h1, h2, h3, h4⟩; have H1 := Lib.hid h1; have H2 := Lib.hid h2; have H3 := Lib.hid h3; have H4 := Lib.hid h4; clear h1 h2 h3 h4))
      go_ret
      refine ⟨.slice (some ⟨g', 0, none⟩) (1 + rest.length) cap', rfl, ?_, fun j hj => ?_, by simp, ?_⟩
      · rw [show rest.length + 1 = 1 + rest.length by omega]
        exact hown'
      · have h5 := hat j (by simpa [Value.ownBlock] using hj)
        have h6 := H4.out.size
        simp at h6
        rcases h5 with h5 | ⟨h5, _⟩
        · simp [Value.ownBlock] at h5; omega
        · omega
      · exact (((Keeps.refl Nob w).alloc _).trans H4.out).grown hgrow (fun j hj hlt => by simp [Value.ownBlock] at hj; omega)

/-- The document's Put tells the same bytes, in new memory. -/
theorem rPut_ok (x : Nat) (hx : x < 2 ^ 64) (w : World) :
    Calls Try.prog 58 #[.int .u64 (x : Int)] w fun e w' => ∃ v, e = .returned v ∧ Row w' 5 1 v (Cod.enc x).length (B (Cod.enc x)) ∧ (∀ j, v.ownBlock = some j → w.heap.size ≤ j) ∧ v ≠ .slice none 0 0 ∧ Keeps Nob w w' :=
  rPut_any 10 0 x w (by omega) (by omega) (by simpa using hx)
end Go.Proofs.Ytenaakldccjnbaa
