/-
  Codec: the bytes of a number, handed on one by one. Conditions: none.
-/
import Derived.Test.YtpflmldmbpnllaaDoorBytes
import Derived.Test.YtpflmldmbpnllaaDoorRound
import Derived.Test.YtpflmldmbpnllaaDoorCodA
import Derived.Test.YtpflmldmbpnllaaDoorRows
import Derived.Lib.Hide
import Derived.Sort.LoopGhostIn
namespace Go.Proofs.YtpflmldmbpnllaaDoor
open Go Go.RowKit Go.Own Go.Shelf
attribute [local go_sem] Oper.semAt_some

theorem mf_run0 : ∀ (fn : Fn) (first cap : Array Value) (w : World), (Instr.makeFunc fn first cap).run Tryd.prog w = .ok (.func fn first cap) w := fun _ _ _ _ => rfl

set_option maxHeartbeats 400000 in
theorem digits_ok (n : Int) (w : World) :
    Calls Tryd.prog 70 #[.int .u64 n] w fun e w' => e = .returned (.func (.func 92) #[] #[.pointer (some ⟨w.heap.size, 0, none⟩)]) ∧ w.alloc (.cells #[.int .u64 n] 22) = w' := by
  have hmf := mf_run0
  go_enter Tryd.func70, Tryd.ntmps70
  go_wp2
  go_ret
  exact ⟨rfl, rfl⟩

/-- The iterator's own state: what is left of the number. -/
def DigS (n : Nat) (Bn : Nat) (k : Nat) (w : World) : Prop :=
  ∃ pre m, m = n / 128 ^ k ∧ pre.length = k ∧ Cod.enc n = pre ++ Cod.encF (10 - k) m ∧ k ≤ 9 ∧ m < 2 ^ (64 - 7 * k) ∧ w.cell? ⟨Bn, 0, none⟩ = some (.int .u64 (m : Int)) ∧ w.frozen? ⟨Bn, 0, none⟩ = false

theorem or128_fin : ∀ r : Fin 256, bits .or .u8 ((r.val : Nat) : Int) 128 = ((r.val % 128 + 128 : Nat) : Int) := by decide +kernel
theorem or128 (m : Nat) : bits .or .u8 ((m : Int) % 256) 128 = ((m % 128 + 128 : Nat) : Int) := by
  have h := or128_fin ⟨m % 256, Nat.mod_lt _ (by omega)⟩
  have e1 : ((m % 256 : Nat) : Int) = (m : Int) % 256 := by omega
  have e2 : m % 256 % 128 = m % 128 := by omega
  simp only [e1, e2] at h
  exact h

set_option maxRecDepth 100000 in
set_option maxHeartbeats 1000000 in
theorem digits_seq (n : Nat) (hn : 1 ≤ n) (Bn : Nat) (x : Nat) (hx : x < 2 ^ 64) :
    SeqOwn Fence.wide n Tryd.prog 92 #[.pointer (some ⟨Bn, 0, none⟩)] (fun x : UInt8 => #[.int .u8 (x.toNat : Int)]) (Cod.enc x) (One Bn) (DigS x Bn) := by
  intro l J Jx W0 hJ hJx hY h0 hS0
  have HY := Lib.hid hY; clear hY
  refine callsIn_of_wp Tryd.func92 rfl trivial ?_ rfl
  simp only [Tryd.ntmps92, List.size_toArray, List.length_cons, List.length_nil, Nat.reduceAdd, Nat.reduceSub, Array.replicate_succ, Array.replicate_zero, List.push_toArray, List.append_toArray, List.nil_append, List.cons_append]
  gi_wp2_with fail
  gi_loopg [3] 10 (fun g e wr => ∃ k : Nat, k ≤ 9 ∧ g = 10 - k ∧ J k wr ∧ DigS x Bn k wr)
  case atStart => exact ⟨0, by omega, by omega, h0, hS0⟩
  case round =>
    obtain ⟨k, hk, hg, hj, hs⟩ := hrel
    have hs' := hs
    obtain ⟨pre, m, hmd, hp, he, _, hm, hc, hf⟩ := hs'
    have HD := Lib.hid hmd
    have HS := Lib.hid hs
    have HE := Lib.hid he
    have HM := Lib.hid hm
    have HP := Lib.hid hp
    have HX := Lib.hid hx
    clear he hm hp hs hS0 hx hmd
    by_cases hlt : m < 128
    · have hget : (Cod.enc x)[k]? = some (UInt8.ofNat m) ∧ (Cod.enc x).length = k + 1 := by
        have h1 : 10 - k = (9 - k) + 1 := by omega
        have h2 := HE.out
        rw [h1, Cod.encF_last _ _ (by omega)] at h2
        rw [h2, List.getElem?_append_right (by have := HP.out; omega), HP.out]; simp [HP.out]
      have HL := Lib.hid hget.2
      obtain ⟨fn, tmps, assign, body, hy, hR⟩ := HY.out k _ wr hget.1 hj HS.out
      rw [Cod.toNat_ofNat _ (by omega)] at hy
      have hb : ((m : Int) % 256) = (m : Int) := by omega
      have hd : decide (128 ≤ (m : Int)) = false := by simp; omega
      clear hget
      gi_wp2_with fail
      refine hR.mono ?_
      rintro e W3 (⟨rfl, hj3, hs3⟩ | ⟨rfl, hx3⟩)
      · gi_wp2
        go_end0
        exact ⟨⟨_, rfl⟩, .inl (by rw [HL.out]; exact hj3)⟩
      · gi_wp2
        go_end0
        exact ⟨⟨_, rfl⟩, .inr hx3⟩
    · have hget : (Cod.enc x)[k]? = some (UInt8.ofNat (m % 128 + 128)) := by
        have h1 : 10 - k = (9 - k) + 1 := by omega
        have h2 := HE.out
        rw [h1, Cod.encF_more _ _ (by omega)] at h2
        rw [h2, List.getElem?_append_right (by have := HP.out; omega), HP.out]; simp
      obtain ⟨fn, tmps, assign, body, hy, hR⟩ := HY.out k _ wr hget hj HS.out
      rw [Cod.toNat_ofNat _ (by omega)] at hy
      have hb := or128 m
      generalize hz : m % 128 + 128 = z at hy hb
      clear hz hget
      gi_wp2_with fail
      refine hR.mono ?_
      rintro e W3 (⟨rfl, hj3, hs3⟩ | ⟨rfl, hx3⟩)
      · obtain ⟨pre3, m3, hmd3, _, _, _, _, hc3, hf3⟩ := hs3
        obtain rfl : m3 = m := hmd3.trans HD.out.symm
        have HE1 : Hid (Cod.enc x = (pre ++ [UInt8.ofNat (m3 % 128 + 128)]) ++ Cod.encF (10 - (k + 1)) (m3 / 128)) := Lib.hid (by
          have h1 : 10 - k = (9 - k) + 1 := by omega
          have h2 := HE.out
          rw [h1, Cod.encF_more _ _ (by omega)] at h2
          rw [h2, show 10 - (k + 1) = 9 - k by omega]; simp)
        have HM1 := Lib.hid (Cod.small_step k m3 hk HM.out (by omega))
        clear hmd3 hc hf
        gi_wp2_with fail
        have hk9 := HM1.out.1
        gi_roundg (10 - (k + 1))
        case measure => omega
        case rel => exact ⟨k + 1, by omega, rfl, hJ _ _ _ hj3 ((Keeps.refl _ _).setOne _), pre ++ [UInt8.ofNat (m3 % 128 + 128)], m3 / 128, by rw [HD.out, Nat.pow_succ, Nat.div_div_eq_div_mul], by simp [HP.out], HE1.out, by omega, HM1.out.2, (World.cell?_setCell_same _ _ _ hc3).trans (by simp), by simpa using hf3⟩
      · gi_wp2
        refine bodyPost_ret (results_none rfl _ _ _) rfl ?_
        exact ⟨⟨_, rfl⟩, .inr hx3⟩
end Go.Proofs.YtpflmldmbpnllaaDoor
