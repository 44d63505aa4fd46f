import Derived.Test.YtghohakbepeffaaGreatDoorPenaltyBackP4
namespace Go.Own
set_option maxRecDepth 100000
set_option maxHeartbeats 4000000
open Go Go.RowKit
/-- A step of an object with the blocks F; behind it has the blocks F'. -/
def Step (w w' : World) (F F' : Nat → Prop) : Prop := Keeps F w w' ∧ ∀ j, F' j → F j ∨ (w.heap.size ≤ j ∧ j < w'.heap.size)
def Dis (F G : Nat → Prop) : Prop := ∀ j, F j → ¬ G j
def Lt (F : Nat → Prop) (w : World) : Prop := ∀ j, F j → j < w.heap.size
def Ge (F : Nat → Prop) (w : World) : Prop := ∀ j, F j → w.heap.size ≤ j
section
variable {w0 w w' w'' : World} {F F' F'' G M : Nat → Prop}
theorem Dis.symm (h : Dis F G) : Dis G F := fun j hg hf => h j hf hg
theorem Lt.mono (h : Lt F w) (k : w.heap.size ≤ w'.heap.size) : Lt F w' := fun j hj => Nat.lt_of_lt_of_le (h j hj) k
theorem Lt.keeps (h : Lt F w) (k : Keeps M w w') : Lt F w' := h.mono k.size
theorem Ge.keeps (h : Ge F w') (k : Keeps M w w') : Ge F w := fun j hj => Nat.le_trans k.size (h j hj)
theorem Step.refl (w : World) (F : Nat → Prop) : Step w w F F := ⟨Keeps.refl _ _, fun _ h => .inl h⟩
theorem Step.trans (h : Step w w' F F') (k : Step w' w'' F' F'') : Step w w'' F F'' :=
  ⟨h.1.then k.1 (fun i hi hm => (h.2 i hm).elim id (fun x => absurd x.1 (by omega))), fun j hj => by
    rcases k.2 j hj with h1 | ⟨h1, h2⟩
    · rcases h.2 j h1 with h3 | ⟨h3, h4⟩
      · exact .inl h3
      · exact .inr ⟨h3, Nat.lt_of_lt_of_le h4 k.1.size⟩
    · exact .inr ⟨Nat.le_trans h.1.size h1, h2⟩⟩
theorem Step.size (h : Step w w' F F') : w.heap.size ≤ w'.heap.size := h.1.size
theorem Step.ge (h : Step w w' F F') (g : Ge F w0) (k : w0.heap.size ≤ w.heap.size) : Ge F' w0 := fun j hj => by
  rcases h.2 j hj with h1 | ⟨h1, _⟩
  · exact g j h1
  · omega
/-- What was there at the start is as it was. -/
theorem Step.keeps (h : Step w w' F F') (k : Keeps Nob w0 w) (g : Ge F w0) : Keeps Nob w0 w' := k.then h.1 (fun i hi hm => by have := g i hm; omega)
theorem Step.lt (h : Step w w' F F') (l : Lt F w) : Lt F' w' := fun j hj => by
  rcases h.2 j hj with h1 | ⟨_, h1⟩
  · exact Nat.lt_of_lt_of_le (l j h1) h.1.size
  · exact h1
end
end Go.Own
namespace Go.Proofs.YtghohakbepeffaaGreatDoor
set_option maxRecDepth 100000
set_option maxHeartbeats 4000000
open Go Go.RowKit Go.Own
theorem u8_info0 : (Tryz.prog.info? 5).map (fun i => (i.zero, i.size, i.bytes)) = some (some (.int .u8 0), 1, 1) := by kernel_rfl
theorem sameBytes_ok (a b : Value) (l m : List UInt8) (w : World) (ha : BytesAt w a l) (hb : BytesAt w b m) :
    Calls Tryz.prog 15 #[a, b] w fun e w' => e = .returned (.bool (l == m)) ∧ w = w' := by
  have h1 := ha.str (P := Tryz.prog) (src := 23) (dst := 9) (e := 5) Tryz.underlying23 Tryz.underlying5 Tryz.underlying9
  have h2 := hb.str (P := Tryz.prog) (src := 23) (dst := 9) (e := 5) Tryz.underlying23 Tryz.underlying5 Tryz.underlying9
  clear ha hb
  go_enter Tryz.func15, Tryz.ntmps15
  go_wp2_with fail
  go_ret
  exact ⟨rfl, rfl⟩
/-- The empty slice that a copy begins with. -/
theorem Row.empty (w : World) (t : TypeId) : Row (w.alloc (.cells #[] t)) t 1 (.slice (some ⟨w.heap.size, 0, none⟩) 0 0) 0 [] :=
  ⟨rfl, .inr ⟨_, _, _, rfl, Nat.zero_le _, heap_alloc_new _ _, Nat.le_refl _, by unfold maxLen; omega, rfl, rfl⟩⟩
end Go.Proofs.YtghohakbepeffaaGreatDoor
namespace Go.Proofs.YtghohakbepeffaaGreatDoor
set_option maxRecDepth 100000
set_option maxHeartbeats 4000000
open Go Go.RowKit Go.Own
theorem len_small (n m : Nat) (h : n + m ≤ 100000000) : n + m ≤ maxLen := by unfold maxLen; omega
theorem len_bytes (n m : Nat) (h : n + m ≤ 100000000) : (n + m) * 1 ≤ 140737488355328 := by omega
end Go.Proofs.YtghohakbepeffaaGreatDoor
namespace Go.Own.Cod
set_option maxRecDepth 100000
set_option maxHeartbeats 4000000
/-- The bytes of a number (at most so many). -/
def encF : Nat → Nat → List UInt8
  | 0, _ => []
  | f + 1, n => if n < 128 then [UInt8.ofNat n] else UInt8.ofNat (n % 128 + 128) :: encF f (n / 128)
def enc (n : Nat) : List UInt8 := encF 10 n
/-- Which number bytes begin with, its length, an error (0: none): from the byte at place i on, n having come so far. -/
def numF : List UInt8 → Nat → Nat → Nat × Nat × Int
  | [], _, _ => (0, 0, 6)
  | c :: r, i, n => if (i = 9 ∧ 1 < c.toNat) ∨ (0 < i ∧ c.toNat = 0) then (0, 0, 5) else if c.toNat < 128 then (n + c.toNat % 128 * 128 ^ i, i + 1, 0) else numF r (i + 1) (n + c.toNat % 128 * 128 ^ i)
def num (l : List UInt8) : Nat × Nat × Int := numF l 0 0
theorem toNat_ofNat (n : Nat) (h : n < 256) : (UInt8.ofNat n).toNat = n := by simp; omega
theorem encF_more (f n : Nat) (h : 128 ≤ n) : encF (f + 1) n = UInt8.ofNat (n % 128 + 128) :: encF f (n / 128) := by
  rw [encF, if_neg (by omega)]
theorem encF_last (f n : Nat) (h : n < 128) : encF (f + 1) n = [UInt8.ofNat n] := by
  rw [encF, if_pos h]
theorem small_step (k m : Nat) (hk : k ≤ 9) (h : m < 2 ^ (64 - 7 * k)) (hm : 128 ≤ m) : k < 9 ∧ m / 128 < 2 ^ (64 - 7 * (k + 1)) := by
  have hk9 : k < 9 := by
    rcases Nat.lt_or_ge k 9 with h9 | h9
    · exact h9
    · obtain rfl : k = 9 := by omega
      simp at h; omega
  refine ⟨hk9, ?_⟩
  apply Nat.div_lt_of_lt_mul
  have : 64 - 7 * k = (64 - 7 * (k + 1)) + 7 := by omega
  rw [this, Nat.pow_add] at h
  omega
theorem encF_pos (f n : Nat) : 0 < (encF (f + 1) n).length := by
  rw [encF]; split <;> simp
theorem encF_length (f n : Nat) : (encF f n).length ≤ f := by
  induction f generalizing n with
  | zero => simp [encF]
  | succ f ih =>
    rw [encF]; split
    · simp
    · simp; exact ih _
theorem enc_pos (n : Nat) : 0 < (enc n).length := encF_pos _ _
theorem enc_length (n : Nat) : (enc n).length ≤ 10 := encF_length _ _
/-- What a number's bytes are read as. -/
theorem numF_enc (f : Nat) : ∀ (i n m : Nat) (r : List UInt8), f + i = 10 → i ≤ 9 → m < 2 ^ (64 - 7 * i) → (0 < i → 0 < m) → numF (encF f m ++ r) i n = (n + m * 128 ^ i, i + (encF f m).length, 0) := by
  induction f with
  | zero => intro i n m r h hi; omega
  | succ f ih =>
    intro i n m r h hi hm h0
    by_cases hlt : m < 128
    · rw [encF_last f m hlt]
      simp only [List.singleton_append, numF, toNat_ofNat m (by omega), List.length_singleton]
      have h9 : ¬ ((i = 9 ∧ 1 < m) ∨ (0 < i ∧ m = 0)) := by
        rintro (⟨rfl, h1⟩ | ⟨h1, h2⟩)
        · simp at hm; omega
        · have := h0 h1; omega
      rw [if_neg h9, if_pos hlt, Nat.mod_eq_of_lt hlt]
    · obtain ⟨hi9, hs⟩ := small_step i m hi hm (by omega)
      rw [encF_more f m (by omega)]
      have hc := toNat_ofNat (m % 128 + 128) (by omega)
      simp only [List.cons_append, numF, hc, List.length_cons]
      rw [if_neg (by omega), if_neg (by omega), ih (i + 1) _ (m / 128) r (by omega) (by omega) hs (by omega)]
      have e1 : (m % 128 + 128) % 128 = m % 128 := by omega
      rw [e1]
      have e2 : n + m % 128 * 128 ^ i + m / 128 * 128 ^ (i + 1) = n + m * 128 ^ i := by
        rw [Nat.pow_succ, Nat.mul_comm (128 ^ i) 128, ← Nat.mul_assoc]
        rw [Nat.add_assoc, ← Nat.add_mul]
        congr 2; omega
      rw [e2]
      simp only [Prod.mk.injEq, and_true, true_and]
      omega
theorem num_enc (n : Nat) (r : List UInt8) (h : n < 2 ^ 64) : num (enc n ++ r) = (n, (enc n).length, 0) := by
  have := numF_enc 10 0 0 n r (by omega) (by omega) (by simpa using h) (fun h => absurd h (by omega))
  simpa [num, enc] using this
/-- What is read as a number has just that number's bytes. -/
theorem numF_one (f : Nat) : ∀ (l : List UInt8) (i n x k : Nat), f + i = 10 → i ≤ 9 → numF l i n = (x, k, 0) → ∃ m, m < 2 ^ (64 - 7 * i) ∧ (0 < i → 0 < m) ∧ x = n + m * 128 ^ i ∧ k = i + (encF f m).length ∧ ∃ r, l = encF f m ++ r := by
  induction f with
  | zero => intro l i n x k h hi; omega
  | succ f ih =>
    intro l i n x k h hi hn
    match l with
    | [] => simp [numF] at hn
    | c :: r =>
      have hcl : c.toNat < 256 := c.toNat_lt
      rw [numF] at hn
      split at hn
      · simp at hn
      · rename_i h1
        split at hn
        · rename_i h2
          simp only [Prod.mk.injEq, and_true] at hn
          refine ⟨c.toNat, ?_, fun hp => by omega, ?_, ?_, r, ?_⟩
          · rcases Nat.lt_or_ge i 9 with h9 | h9
            · have : 2 ^ 7 ≤ 2 ^ (64 - 7 * i) := Nat.pow_le_pow_right (by omega) (by omega)
              omega
            · obtain rfl : i = 9 := by omega
              simp; omega
          · rw [Nat.mod_eq_of_lt h2] at hn; exact hn.1.symm
          · rw [encF_last f _ h2]; simp; omega
          · rw [encF_last f _ h2]; simp
        · rename_i h2
          have hi9 : i < 9 := by omega
          obtain ⟨m, hm, hp, hx, hk, r', hr⟩ := ih r (i + 1) _ x k (by omega) (by omega) hn
          have hp := hp (by omega)
          refine ⟨c.toNat % 128 + m * 128, ?_, fun _ => by omega, ?_, ?_, r', ?_⟩
          · have e : 64 - 7 * i = (64 - 7 * (i + 1)) + 7 := by omega
            rw [e, Nat.pow_add]
            have : m + 1 ≤ 2 ^ (64 - 7 * (i + 1)) := hm
            have := Nat.mul_le_mul_right (2 ^ 7) this
            omega
          · rw [hx, Nat.pow_succ, Nat.mul_comm (128 ^ i) 128, ← Nat.mul_assoc, Nat.add_assoc, ← Nat.add_mul]
          · rw [encF_more f _ (by omega), hk, show (c.toNat % 128 + m * 128) / 128 = m by omega]; simp; omega
          · rw [encF_more f _ (by omega), show (c.toNat % 128 + m * 128) / 128 = m by omega, hr]
            simp only [List.cons_append, List.cons.injEq, and_true]
            apply UInt8.toNat_inj.1
            rw [toNat_ofNat _ (by omega)]; omega
theorem num_one (l : List UInt8) (x k : Nat) (h : num l = (x, k, 0)) : x < 2 ^ 64 ∧ k = (enc x).length ∧ ∃ r, l = enc x ++ r := by
  obtain ⟨m, hm, _, hx, hk, r, hr⟩ := numF_one 10 l 0 0 x k (by omega) (by omega) h
  simp only [Nat.pow_zero, Nat.mul_one, Nat.zero_add] at hx hk
  subst hx
  exact ⟨by simpa using hm, hk, r, hr⟩
theorem num_ok (l : List UInt8) (h : (num l).2.2 = 0) : (num l).1 < 2 ^ 64 ∧ 0 < (num l).2.1 ∧ (num l).2.1 ≤ l.length ∧ (num l).2.1 ≤ 10 ∧ l.take (num l).2.1 = enc (num l).1 := by
  obtain ⟨h1, h2, r, h3⟩ := num_one l (num l).1 (num l).2.1 (by rw [← h])
  generalize (num l).1 = x at *
  generalize (num l).2.1 = k at *
  have h4 := enc_pos x
  have h5 := enc_length x
  subst h2
  subst h3
  exact ⟨h1, by omega, by simp, by omega, by simp⟩
end Go.Own.Cod
namespace Go.Proofs.YtghohakbepeffaaGreatDoor
set_option maxRecDepth 100000
set_option maxHeartbeats 4000000
open Go Go.RowKit Go.Own Go.Shelf
attribute [local go_sem] Oper.semAt_some
theorem mf_run0 : ∀ (fn : Fn) (first cap : Array Value) (w : World), (Instr.makeFunc fn first cap).run Tryz.prog w = .ok (.func fn first cap) w := fun _ _ _ _ => rfl
theorem digits_ok (n : Int) (w : World) :
    Calls Tryz.prog 88 #[.int .u64 n] w fun e w' => e = .returned (.func (.func 101) #[] #[.pointer (some ⟨w.heap.size, 0, none⟩)]) ∧ w.alloc (.cells #[.int .u64 n] 40) = w' := by
  have hmf := mf_run0
  go_enter Tryz.func88, Tryz.ntmps88
  go_wp2
  go_ret
  exact ⟨rfl, rfl⟩
/-- The iterator's own state: what is left of the number. -/
def DigS (n : Nat) (Bn : Nat) (k : Nat) (w : World) : Prop :=
  ∃ pre m, m = n / 128 ^ k ∧ pre.length = k ∧ Cod.enc n = pre ++ Cod.encF (10 - k) m ∧ k ≤ 9 ∧ m < 2 ^ (64 - 7 * k) ∧ w.cell? ⟨Bn, 0, none⟩ = some (.int .u64 (m : Int)) ∧ w.frozen? ⟨Bn, 0, none⟩ = false
theorem or128_fin : ∀ r : Fin 256, bits .or .u8 ((r.val : Nat) : Int) 128 = ((r.val % 128 + 128 : Nat) : Int) := by decide +kernel
theorem or128 (m : Nat) : bits .or .u8 ((m : Int) % 256) 128 = ((m % 128 + 128 : Nat) : Int) := by
  have h := or128_fin ⟨m % 256, Nat.mod_lt _ (by omega)⟩
  have e1 : ((m % 256 : Nat) : Int) = (m : Int) % 256 := by omega
  have e2 : m % 256 % 128 = m % 128 := by omega
  simp only [e1, e2] at h
  exact h
theorem digits_seq (n : Nat) (hn : 1 ≤ n) (Bn : Nat) (x : Nat) (hx : x < 2 ^ 64) :
    SeqOwn Fence.wide n Tryz.prog 101 #[.pointer (some ⟨Bn, 0, none⟩)] (fun x : UInt8 => #[.int .u8 (x.toNat : Int)]) (Cod.enc x) (One Bn) (DigS x Bn) := by
  intro l J Jx W0 hJ hJx hY h0 hS0
  have HY := Lib.hid hY; clear hY
  refine callsIn_of_wp Tryz.func101 rfl trivial ?_ rfl
  simp only [Tryz.ntmps101, List.size_toArray, List.length_cons, List.length_nil, Nat.reduceAdd, Nat.reduceSub, Array.replicate_succ, Array.replicate_zero, List.push_toArray, List.append_toArray, List.nil_append, List.cons_append]
  gi_wp2_with fail
  gi_loopg [3] 10 (fun g e wr => ∃ k : Nat, k ≤ 9 ∧ g = 10 - k ∧ J k wr ∧ DigS x Bn k wr)
  case atStart => exact ⟨0, by omega, by omega, h0, hS0⟩
  case round =>
    obtain ⟨k, hk, hg, hj, hs⟩ := hrel
    have hs' := hs
    obtain ⟨pre, m, hmd, hp, he, _, hm, hc, hf⟩ := hs'
    have HD := Lib.hid hmd
    have HS := Lib.hid hs
    have HE := Lib.hid he
    have HM := Lib.hid hm
    have HP := Lib.hid hp
    have HX := Lib.hid hx
    clear he hm hp hs hS0 hx hmd
    by_cases hlt : m < 128
    · have hget : (Cod.enc x)[k]? = some (UInt8.ofNat m) ∧ (Cod.enc x).length = k + 1 := by
        have h1 : 10 - k = (9 - k) + 1 := by omega
        have h2 := HE.out
        rw [h1, Cod.encF_last _ _ (by omega)] at h2
        rw [h2, List.getElem?_append_right (by have := HP.out; omega), HP.out]; simp [HP.out]
      have HL := Lib.hid hget.2
      obtain ⟨fn, tmps, assign, body, hy, hR⟩ := HY.out k _ wr hget.1 hj HS.out
      rw [Cod.toNat_ofNat _ (by omega)] at hy
      have hb : ((m : Int) % 256) = (m : Int) := by omega
      have hd : decide (128 ≤ (m : Int)) = false := by simp; omega
      clear hget
      gi_wp2_with fail
      refine hR.mono ?_
      rintro e W3 (⟨rfl, hj3, hs3⟩ | ⟨rfl, hx3⟩)
      · gi_wp2
        go_end0
        exact ⟨⟨_, rfl⟩, .inl (by rw [HL.out]; exact hj3)⟩
      · gi_wp2
        go_end0
        exact ⟨⟨_, rfl⟩, .inr hx3⟩
    · have hget : (Cod.enc x)[k]? = some (UInt8.ofNat (m % 128 + 128)) := by
        have h1 : 10 - k = (9 - k) + 1 := by omega
        have h2 := HE.out
        rw [h1, Cod.encF_more _ _ (by omega)] at h2
        rw [h2, List.getElem?_append_right (by have := HP.out; omega), HP.out]; simp
      obtain ⟨fn, tmps, assign, body, hy, hR⟩ := HY.out k _ wr hget hj HS.out
      rw [Cod.toNat_ofNat _ (by omega)] at hy
      have hb := or128 m
      generalize hz : m % 128 + 128 = z at hy hb
      clear hz hget
      gi_wp2_with fail
      refine hR.mono ?_
      rintro e W3 (⟨rfl, hj3, hs3⟩ | ⟨rfl, hx3⟩)
      · obtain ⟨pre3, m3, hmd3, _, _, _, _, hc3, hf3⟩ := hs3
        obtain rfl : m3 = m := hmd3.trans HD.out.symm
        have HE1 : Hid (Cod.enc x = (pre ++ [UInt8.ofNat (m3 % 128 + 128)]) ++ Cod.encF (10 - (k + 1)) (m3 / 128)) := Lib.hid (by
          have h1 : 10 - k = (9 - k) + 1 := by omega
          have h2 := HE.out
          rw [h1, Cod.encF_more _ _ (by omega)] at h2
          rw [h2, show 10 - (k + 1) = 9 - k by omega]; simp)
        have HM1 := Lib.hid (Cod.small_step k m3 hk HM.out (by omega))
        clear hmd3 hc hf
        gi_wp2_with fail
        have hk9 := HM1.out.1
        gi_roundg (10 - (k + 1))
        case measure => omega
        case rel => exact ⟨k + 1, by omega, rfl, hJ _ _ _ hj3 ((Keeps.refl _ _).setOne _), pre ++ [UInt8.ofNat (m3 % 128 + 128)], m3 / 128, by rw [HD.out, Nat.pow_succ, Nat.div_div_eq_div_mul], by simp [HP.out], HE1.out, by omega, HM1.out.2, (World.cell?_setCell_same _ _ _ hc3).trans (by simp), by simpa using hf3⟩
      · gi_wp2
        refine bodyPost_ret (results_none rfl _ _ _) rfl ?_
        exact ⟨⟨_, rfl⟩, .inr hx3⟩
end Go.Proofs.YtghohakbepeffaaGreatDoor
namespace Go.Proofs.YtghohakbepeffaaGreatDoor
set_option maxRecDepth 100000
set_option maxHeartbeats 4000000
open Go Go.RowKit Go.Own Go.Shelf
attribute [local go_sem] Oper.semAt_some
theorem u8_info : (Tryz.prog.info? 5).map (fun i => (i.zero, i.size, i.bytes)) = some (some (.int .u8 0), 1, 1) := by kernel_rfl
/-- What is collected so far lies in a variable. -/
structure Coll (w0 : World) (Bn b : Nat) (xs : List UInt8) (k : Nat) (V : World) : Prop where
  ex : ∃ v, V.heap[b]? = some (.cells #[v] 23 (0, 0)) ∧ Row V 5 1 v k (B (xs.take k)) ∧ (∀ j, v.ownBlock = some j → w0.heap.size ≤ j) ∧ (v = .slice none 0 0 ↔ k = 0)
  keeps : Keeps (One Bn) w0 V
theorem appendSeq_ok (Bn : Nat) (x : Nat) (hx : x < 2 ^ 64) (w : World) (hc : w.cell? ⟨Bn, 0, none⟩ = some (.int .u64 (x : Int))) (hf : w.frozen? ⟨Bn, 0, none⟩ = false) :
    Calls Tryz.prog 100 #[.slice none 0 0, .func (.func 101) #[] #[.pointer (some ⟨Bn, 0, none⟩)]] w fun e w' => ∃ v, e = .returned v ∧ Row w' 5 1 v (Cod.enc x).length (B (Cod.enc x)) ∧ (∀ j, v.ownBlock = some j → w.heap.size ≤ j) ∧ v ≠ .slice none 0 0 ∧ Keeps (One Bn) w w' := by
  obtain ⟨i0, hi, hz0, hz1, hz2⟩ := info_parts u8_info
  have hBn : Bn < w.heap.size := World.block_lt_of_cell? w _ hc
  have HX := Lib.hid hx
  refine calls_marks 3 Tryz.func100 rfl ?_
  simp only [Tryz.ntmps100, List.size_toArray, List.length_cons, List.length_nil, Nat.reduceAdd, Nat.reduceSub, Array.replicate_succ, Array.replicate_zero, List.push_toArray, List.append_toArray, List.nil_append, List.cons_append]
  go_wp2_with fail
  have hk : Keeps (One Bn) w (w.alloc (.cells #[.slice none 0 0] 23)) := (Keeps.refl _ _).alloc _
  have hb : (w.alloc (.cells #[.slice none 0 0] 23)).heap[w.heap.size]? = some (.cells #[.slice none 0 0] 23 (0, 0)) := World.alloc_heap_new _ _
  have g0 : (w.alloc (.cells #[.slice none 0 0] 23)).cell? ⟨Bn, 0, none⟩ = some (.int .u64 (x : Int)) := by
    rw [World.cell?_alloc_lt _ _ _ hBn]; exact hc
  have f0 : (w.alloc (.cells #[.slice none 0 0] 23)).frozen? ⟨Bn, 0, none⟩ = false := by
    refine (World.frozen?_of_block (w := w) ?_).trans hf
    exact Below.heap_alloc _ _ _ hBn
  have hs : (w.alloc (.cells #[.slice none 0 0] 23)).heap.size = w.heap.size + 1 := by simp
  clear hc hf hx
  generalize w.alloc (.cells #[.slice none 0 0] 23) = W1 at *
  refine wp_range1 3 (gf := 101) (lb := #[.pointer (some ⟨Bn, 0, none⟩)]) rfl (enters_of Tryz.func101 (by kernel_rfl) rfl) (encs := fun x : UInt8 => #[.int .u8 (x.toNat : Int)]) (fun _ => rfl)
    (Mi := One Bn) (fun j hj => by have : j = Bn := hj; omega) (digits_seq 5 (by omega) Bn x HX.out) ?hS ?hS0
    (fun k V => k ≤ (Cod.enc x).length ∧ Coll w Bn w.heap.size (Cod.enc x) k V) (fun _ _ => False) ?hI (fun _ _ _ h => h.elim) ?h0 ?f ?assign ?body ?done ?stop
  case hS0 => exact ⟨[], x, by simp, rfl, rfl, by omega, by simpa using HX.out, g0, f0⟩
  case hS =>
    rintro k A V ⟨pre, m, a1, a2, a3, a4, a5, a6, a7⟩ t
    exact ⟨pre, m, a1, a2, a3, a4, a5, t.cell a6 (fun x => x), (t.frozen a6 (fun x => x)).trans a7⟩
  case h0 => exact ⟨Nat.zero_le _, ⟨⟨.slice none 0 0, hb, ⟨rfl, .inl ⟨rfl, rfl⟩⟩, (fun j hj => by cases hj), ⟨fun _ => rfl, fun _ => rfl⟩⟩, hk⟩⟩
  case hI =>
    rintro k A V ⟨hk, ⟨v, h1, h2, h3, h4⟩, h5⟩ t
    refine ⟨hk, ⟨v, ?_, ?_, h3, h4⟩, t.keeps h5 (by omega)⟩
    · exact t.same _ _ h1 (fun (h : w.heap.size = Bn) => by omega) (.inr rfl)
    · refine h2.heap fun j hj => ?_
      obtain ⟨cs, hcs⟩ := h2.elem hj
      rw [hcs]
      exact t.same _ _ hcs (fun (h : j = Bn) => by have := h3 j hj; omega) (.inr rfl)
  case assign =>
    intro l k y V K hx hi hs hK
    gi_wp2
    exact hK
  case body =>
    rintro l k y V hl hr hx ⟨hkl, ⟨v, h1, h2, h3, h4⟩, h5⟩ hs
    have hlt : k < (Cod.enc x).length := (List.getElem?_eq_some_iff.1 hx).1
    have hlen := Cod.enc_length x
    have hne := h2.ne h1 (by decide)
    have c1 := cell_of_one h1
    have f1 := free_of_one h1
    have hbl := lt_of_block h1
    have htake : (Cod.enc x).take (k + 1) = (Cod.enc x).take k ++ [y] := by
      rw [List.take_add_one, hx]; rfl
    have HT := Lib.hid htake
    have H4 := Lib.hid h4
    have HX := Lib.hid hx
    have HS := Lib.hid hs
    clear htake h4 hx hs
    have hown := h2.keeps ((Keeps.refl Nob V).alloc (.cells #[.int .u8 (y.toNat : Int)] 5)) (fun _ _ x => x)
    have hsrc := Src.new V 1 1 [.int .u8 (y.toNat : Int)] 5 rfl (by simp [Value.oneCell']) 1
    gi_wp2_with (gi_at_builtin; refine own_append2_in rfl _ _ 23 rfl 5 i0 (.int .u8 0) 1 1 Tryz.underlying23 hi hz0 hz1 hz2 rfl (by decide) v k _ rfl hown _ 1 _ rfl hsrc (by unfold maxLen; omega) (by omega) ?_; intro v' w1 hown' hgrow hnil hat; obtain ⟨g', cap', rfl, hg'⟩ := hown'.spell (by omega); have hb1 : w1.heap[w.heap.size]? = some (.cells #[v] 23 (0, 0)) := (hgrow.block _ (by simp; omega) (fun e => hne e.symm)).trans ((Below.heap_alloc _ _ _ hbl).trans h1); have c2 := cell_of_one hb1; have f2 := free_of_one hb1)
    have hkA : KeepsOthers V (V.alloc (.cells #[.int .u8 (y.toNat : Int)] 5)) := KeepsOthers.alloc _ _
    have hkB := hkA.trans ((hown.others hgrow).trans (KeepsOthers.setCell w1 ⟨w.heap.size, 0, none⟩ (.slice (some ⟨g', 0, none⟩) (k + 1) cap')))
    have hKp : Keeps (fun j => v.ownBlock = some j) V w1 := ((Keeps.refl _ _).alloc _).grown hgrow (fun j hj _ => hj)
    have hgne : g' ≠ w.heap.size := fun e => hown'.ne hb1 (by decide) (by rw [e]; rfl)
    have hKw : Keeps (One Bn) w w1 := h5.then hKp (fun i hi hm => by have := h3 i hm; omega)
    obtain ⟨pre, m, b1, b2, b3, b4, b5, b6, b7⟩ := HS.out
    have hvB : v.ownBlock ≠ some Bn := fun e => by have := h3 _ e; omega
    have hBV : Bn < V.heap.size := World.block_lt_of_cell? V _ b6
    have e6 := (hKp.cell (i := 0) hBV hvB).trans b6
    have e7 := (hKp.frozen (i := 0) hBV hvB).trans b7
    refine ⟨hkB.from _, ⟨hlt, ⟨⟨_, one_setCell hb1, ?_, ?_, ⟨(fun h => by cases h), (fun h => by omega)⟩⟩, hKw.setCell_new (p := ⟨w.heap.size, 0, none⟩) (Nat.le_refl _) _⟩⟩, pre, m, b1, b2, b3, b4, b5, ?_, ?_⟩
    · rw [HT.out, B_append]
      exact ownsRow_setCell_other hown' (by simp [Value.ownBlock]; exact hgne) _
    · intro j hj
      rcases hat j hj with h | ⟨h, _⟩
      · exact h3 j h
      · simp at h; omega
    · rw [World.cell?_setCell_other _ _ _ _ (fun e => by simp at e <;> omega)]; exact e6
    · simpa using e7
  case done =>
    rintro D V hD ⟨_, ⟨v, h1, h2, h3, h4⟩, h5⟩ hK
    rw [List.take_of_length_le (Nat.le_refl _)] at h2
    have hpos := Cod.enc_pos x
    obtain ⟨g, cap, rfl, hg⟩ := h2.spell hpos
    have c1 := cell_of_one h1
    have H2 := Lib.hid h2
    clear h2 h4
    go_wp2
    refine marks_ret hK (v := .slice (some ⟨g, 0, none⟩) (Cod.enc x).length cap) (by simp [results, Tryz.results100, go_sem]) ?_
    have ht : Turn W1.heap.size Nob V (V.putObj D (.deferred none)) := Turn.put _ _ _ _ hD hK rfl
    refine ⟨_, rfl, H2.out.heap fun j hj => ?_, h3, by simp, ht.keepsN h5 (by omega)⟩
    obtain ⟨cs, hcs⟩ := H2.out.elem hj
    rw [hcs]
    exact ht.same _ _ hcs (fun h => h) (.inr rfl)
  case stop =>
    rintro D c V hD hx hK
    exact hx.elim
theorem collect_ok (Bn : Nat) (x : Nat) (hx : x < 2 ^ 64) (w : World) (hc : w.cell? ⟨Bn, 0, none⟩ = some (.int .u64 (x : Int))) (hf : w.frozen? ⟨Bn, 0, none⟩ = false) :
    Calls Tryz.prog 87 #[.func (.func 101) #[] #[.pointer (some ⟨Bn, 0, none⟩)]] w fun e w' => ∃ v, e = .returned v ∧ Row w' 5 1 v (Cod.enc x).length (B (Cod.enc x)) ∧ (∀ j, v.ownBlock = some j → w.heap.size ≤ j) ∧ v ≠ .slice none 0 0 ∧ Keeps (One Bn) w w' := by
  have HA := Lib.hid (appendSeq_ok Bn x hx w hc hf)
  clear hx hc hf
  go_enter Tryz.func87, Tryz.ntmps87
  go_wp2_with (go_at_call 100; refine HA.out.mono ?_; rintro e w' ⟨v, rfl, h1, h2, h3, h4⟩; have H1 := Lib.hid h1; have H2 := Lib.hid h2; have H3 := Lib.hid h3; clear h1 h2 h3)
  go_ret
  exact ⟨_, rfl, H1.out, H2.out, H3.out, h4⟩
/-- The bytes of a number, in new memory. -/
theorem cPut_ok (x : Nat) (hx : x < 2 ^ 64) (w : World) :
    Calls Tryz.prog 68 #[.int .u64 (x : Int)] w fun e w' => ∃ v, e = .returned v ∧ Row w' 5 1 v (Cod.enc x).length (B (Cod.enc x)) ∧ (∀ j, v.ownBlock = some j → w.heap.size ≤ j) ∧ v ≠ .slice none 0 0 ∧ Keeps Nob w w' := by
  have HX := Lib.hid hx
  have c1 : (w.alloc (.cells #[.int .u64 (x : Int)] 40)).cell? ⟨w.heap.size, 0, none⟩ = some (.int .u64 (x : Int)) := (World.cell?_alloc_at _ _ _ _ rfl).trans rfl
  have f1 : (w.alloc (.cells #[.int .u64 (x : Int)] 40)).frozen? ⟨w.heap.size, 0, none⟩ = false := by simp [go_sem]
  have HA := Lib.hid (collect_ok w.heap.size x hx _ c1 f1)
  clear hx c1 f1
  go_enter Tryz.func68, Tryz.ntmps68
  go_wp2_with (first
    | (go_at_call 88; refine (digits_ok _ _).mono ?_; rintro e w' ⟨rfl, rfl⟩)
    | (go_at_call 87; refine HA.out.mono ?_; rintro e w' ⟨v, rfl, h1, h2, h3, h4⟩; have H1 := Lib.hid h1; have H2 := Lib.hid h2; have H3 := Lib.hid h3; clear h1 h2 h3))
  go_ret
  refine ⟨_, rfl, H1.out, fun j hj => ?_, H3.out, ((Keeps.refl Nob w).alloc _).then h4 (fun i hi (e : i = w.heap.size) => by omega)⟩
  have := H2.out j hj
  simp at this; omega
end Go.Proofs.YtghohakbepeffaaGreatDoor
namespace Go.Proofs.YtghohakbepeffaaGreatDoor
set_option maxRecDepth 100000
set_option maxHeartbeats 4000000
open Go Go.RowKit Go.Own Go.Shelf
theorem and127_fin : ∀ r : Fin 256, bits .and .u8 ((r.val : Nat) : Int) 127 = ((r.val % 128 : Nat) : Int) := by decide +kernel
theorem and127 (z : Nat) (hz : z < 256) : bits .and .u8 (z : Int) 127 = ((z % 128 : Nat) : Int) := and127_fin ⟨z, hz⟩
theorem pow128 (k : Nat) : 2 ^ (7 * k) = 128 ^ k := by rw [Nat.pow_mul]
theorem acc_small (z m k : Nat) (hk : k ≤ 9) (h9 : k = 9 → z ≤ 1) : z % 128 * 128 ^ k < 18446744073709551616 := by
  have h : k = 0 ∨ k = 1 ∨ k = 2 ∨ k = 3 ∨ k = 4 ∨ k = 5 ∨ k = 6 ∨ k = 7 ∨ k = 8 ∨ k = 9 := by omega
  rcases h with rfl | rfl | rfl | rfl | rfl | rfl | rfl | rfl | rfl | rfl <;> simp <;> omega
theorem acc_join (x m k : Nat) (hm : m < 128 ^ k) : m ||| x * 128 ^ k = m + x * 128 ^ k := by
  rw [Nat.or_comm, nat_join (7 * k) (x * 128 ^ k) m (by rw [pow128]; exact Nat.mul_mod_left _ _) (by rw [pow128]; exact hm), Nat.add_comm]
theorem wrap_u64_nat (n : Nat) (h : n < 18446744073709551616) : IntKind.u64.wrap (n : Int) = (n : Int) := by
  simp [IntKind.wrap, IntKind.bits, IntKind.signed]; omega
/-- A byte's groups are laid to those that were there. -/
theorem acc_mod (z m k : Nat) (hk : k ≤ 9) (h9 : k = 9 → z ≤ 1) (hm : m < 128 ^ k) (hm2 : m < 18446744073709551616) :
    bits .or .u64 (m : Int) (IntKind.u64.wrap (IntKind.u64.wrap ((z % 128 : Nat) : Int) * 2 ^ (7 * k))) = ((m + z % 128 * 128 ^ k : Nat) : Int) := by
  have hs := acc_small z m k hk h9
  rw [wrap_u64_nat (z % 128) (by omega)]
  have e : ((z % 128 : Nat) : Int) * 2 ^ (7 * k) = ((z % 128 * 128 ^ k : Nat) : Int) := by
    rw [← pow128]; simp
  rw [e, wrap_u64_nat _ hs, u64_or_nat _ _ hm2 hs, acc_join _ _ _ hm]
theorem acc_and (z m k : Nat) (hz : z < 256) (hk : k ≤ 9) (h9 : k = 9 → z ≤ 1) (hm : m < 128 ^ k) (hm2 : m < 18446744073709551616) :
    bits .or .u64 (m : Int) (IntKind.u64.wrap (IntKind.u64.wrap (bits .and .u8 (z : Int) 127) * 2 ^ (7 * k))) = ((m + z % 128 * 128 ^ k : Nat) : Int) := by
  rw [and127 z hz]; exact acc_mod z m k hk h9 hm hm2
theorem acc_next (z m k : Nat) (hm : m < 128 ^ k) : m + z % 128 * 128 ^ k < 128 ^ (k + 1) := by
  rw [Nat.pow_succ, Nat.mul_comm _ 128]
  have : z % 128 ≤ 127 := by omega
  have := Nat.mul_le_mul_right (128 ^ k) this
  omega
theorem pow128_le (k : Nat) (hk : k ≤ 9) : 128 ^ k ≤ 9223372036854775808 := by
  have : 128 ^ k ≤ 128 ^ 9 := Nat.pow_le_pow_right (by omega) hk
  simpa using this
/-- What has come of the bytes ahead of place k. -/
def NumAt (l : List UInt8) (k m : Nat) : Prop := Cod.num l = Cod.numF (l.drop k) k m ∧ m < 128 ^ k ∧ k ≤ 9
theorem NumAt.zero (l : List UInt8) : NumAt l 0 0 := ⟨rfl, by omega, by omega⟩
theorem drop_cons (l : List UInt8) (k : Nat) (c : UInt8) (h : l[k]? = some c) : l.drop k = c :: l.drop (k + 1) := by
  obtain ⟨hk, e⟩ := List.getElem?_eq_some_iff.1 h
  rw [List.drop_eq_getElem_cons hk, e]
theorem NumAt.end_ {l : List UInt8} {k m : Nat} (h : NumAt l k m) (hk : l.length ≤ k) : Cod.num l = (0, 0, 6) := by
  rw [h.1, List.drop_eq_nil_of_le hk]; rfl
theorem NumAt.form {l : List UInt8} {k m z : Nat} {c : UInt8} (h : NumAt l k m) (hc : l[k]? = some c) (hz : c.toNat = z) (hf : (k = 9 ∧ 1 < z) ∨ (0 < k ∧ z = 0)) : Cod.num l = (0, 0, 5) := by
  rw [h.1, drop_cons l k c hc, Cod.numF, hz, if_pos hf]
theorem NumAt.done {l : List UInt8} {k m z : Nat} {c : UInt8} (h : NumAt l k m) (hc : l[k]? = some c) (hz : c.toNat = z) (hf : ¬ ((k = 9 ∧ 1 < z) ∨ (0 < k ∧ z = 0))) (hlt : z < 128) : Cod.num l = (m + z % 128 * 128 ^ k, k + 1, 0) := by
  rw [h.1, drop_cons l k c hc, Cod.numF, hz, if_neg hf, if_pos hlt]
theorem NumAt.more {l : List UInt8} {k m z : Nat} {c : UInt8} (h : NumAt l k m) (hc : l[k]? = some c) (hz : c.toNat = z) (hf : ¬ ((k = 9 ∧ 1 < z) ∨ (0 < k ∧ z = 0))) (hge : ¬ z < 128) : NumAt l (k + 1) (m + z % 128 * 128 ^ k) := by
  refine ⟨?_, acc_next z m k h.2.1, ?_⟩
  · rw [h.1, drop_cons l k c hc, Cod.numF, hz, if_neg hf, if_neg hge]
  · have := h.2.2; omega
theorem num_ret {l : List UInt8} {r : Nat × Nat × Int} {a b : Nat} {e : Int} (h1 : Cod.num l = r) (h2 : Cod.num l = (a, b, e)) : r = (a, b, e) := h1.symm.trans h2
theorem number_ok (v : Value) (l : List UInt8) (w : World) (hv : BytesAt w v l) :
    Calls Tryz.prog 73 #[v] w fun e w' => e = .returned (.tuple #[.int .u64 ((Cod.num l).1 : Int), .int .i64 ((Cod.num l).2.1 : Int), .int .i64 (Cod.num l).2.2]) ∧ w = w' := by
  have hlen := hv.length_le
  obtain ⟨A, cap, rfl⟩ := hv.len
  have HV := Lib.hid hv; clear hv
  obtain ⟨r, hr⟩ : ∃ r, Cod.num l = r := ⟨_, rfl⟩
  rw [hr]
  have HR := Lib.hid hr; clear hr
  go_enter Tryz.func73, Tryz.ntmps73
  go_wp2_with fail
  go_loop [5, 10] (fun n i => ∃ k m : Nat, k ≤ l.length ∧ i = .int .i64 k ∧ n = .int .u64 (m : Int) ∧ Hid (NumAt l k m) ∧ k ≤ 9) (fun _ i => l.length - (intOf i).toNat)
  case atStart => exact ⟨0, 0, Nat.zero_le _, rfl, rfl, Lib.hid (NumAt.zero l), by omega⟩
  case round =>
    obtain ⟨k, m, hk, rfl, rfl, HK, hk9⟩ := hrel
    by_cases hlt : k < l.length
    · obtain ⟨c, hc⟩ : ∃ c, l[k]? = some c := ⟨_, List.getElem?_eq_getElem hlt⟩
      obtain ⟨b, o, cap', hv, hb, c0⟩ := HV.out.at_ k c hc
      simp only [Value.slice.injEq, true_and] at hv
      obtain ⟨rfl, rfl⟩ := hv
      have HC := Lib.hid hc
      clear hc
      have hc256 : c.toNat < 256 := c.toNat_lt
      obtain ⟨z, hz⟩ : ∃ z, c.toNat = z := ⟨_, rfl⟩
      rw [hz] at c0 hc256
      have HZ := Lib.hid hz; clear hz
      have key : ((k = 9 ∧ 1 < z) ∨ (0 < k ∧ z = 0)) ∨ ¬ ((k = 9 ∧ 1 < z) ∨ (0 < k ∧ z = 0)) := Decidable.em _
      rcases key with hf | hf
      · obtain rfl := num_ret HR.out (HK.out.form HC.out HZ.out hf)
        have kinds : (((k : Int) == 9) = true ∧ (k == 9) = true ∧ decide (1 < (z : Int)) = true ∧ decide (1 < z) = true) ∨ (((k : Int) == 9) = false ∧ (k == 9) = false ∧ decide (0 < (k : Int)) = true ∧ decide (0 < k) = true ∧ ((z : Int) == 0) = true ∧ (z == 0) = true) ∨ (((k : Int) == 9) = true ∧ (k == 9) = true ∧ decide (1 < (z : Int)) = false ∧ decide (1 < z) = false ∧ decide (0 < (k : Int)) = true ∧ decide (0 < k) = true ∧ ((z : Int) == 0) = true ∧ (z == 0) = true) := by
          simp; omega
        clear hf
        rcases kinds with ⟨b0, b1, b2, b3⟩ | ⟨b0, b1, b2, b3, b4, b5⟩ | ⟨b0, b1, b2, b3, b4, b5, b6, b7⟩
        all_goals
          go_wp2_with fail
          go_ret3
          exact ⟨rfl, rfl⟩
      · have h9 : k = 9 → z ≤ 1 := fun h => by omega
        have hacc := acc_and z m k hc256 hk9 h9 HK.out.2.1 (Nat.lt_of_lt_of_le HK.out.2.1 (Nat.le_trans (pow128_le k hk9) (by omega)))
        clear h9
        have kinds : (((k : Int) == 9) = false ∧ (k == 9) = false ∧ decide (0 < (k : Int)) = false ∧ decide (0 < k) = false) ∨ (((k : Int) == 9) = false ∧ (k == 9) = false ∧ decide (0 < (k : Int)) = true ∧ decide (0 < k) = true ∧ ((z : Int) == 0) = false ∧ (z == 0) = false) ∨ (((k : Int) == 9) = true ∧ (k == 9) = true ∧ decide (1 < (z : Int)) = false ∧ decide (1 < z) = false ∧ decide (0 < (k : Int)) = true ∧ decide (0 < k) = true ∧ ((z : Int) == 0) = false ∧ (z == 0) = false) := by
          simp; omega
        by_cases hlt : z < 128
        · have hd := HK.out.done HC.out HZ.out hf hlt
          clear hf
          generalize m + z % 128 * 128 ^ k = m' at hacc hd
          obtain rfl := num_ret HR.out hd
          clear hd
          rcases kinds with ⟨b0, b1, b2, b3⟩ | ⟨b0, b1, b2, b3, b4, b5⟩ | ⟨b0, b1, b2, b3, b4, b5, b6, b7⟩
          all_goals
            go_wp2_with fail
            go_ret3
            exact ⟨rfl, rfl⟩
        · have HN := Lib.hid (HK.out.more HC.out HZ.out hf hlt)
          have h91 := HN.out.2.2
          clear hf
          generalize m + z % 128 * 128 ^ k = m' at hacc HN
          rcases kinds with ⟨b0, b1, b2, b3⟩ | ⟨b0, b1, b2, b3, b4, b5⟩ | ⟨b0, b1, b2, b3, b4, b5, b6, b7⟩
          all_goals
            go_wp2_with fail
            go_round
            case rel => exact ⟨k + 1, m', by omega, by go_num, rfl, HN, h91⟩
            case measure => simp [intOf]; omega
    · obtain rfl := num_ret HR.out (HK.out.end_ (by omega))
      go_wp2_with fail
      go_ret3
      exact ⟨rfl, rfl⟩
end Go.Proofs.YtghohakbepeffaaGreatDoor
namespace Go.Proofs.YtghohakbepeffaaGreatDoor
set_option maxRecDepth 100000
set_option maxHeartbeats 4000000
open Go Go.RowKit Go.Own Go.Shelf
theorem bytes_size : ∀ w, (Go.sizeOf (Tryz.prog.elem 23)).run Tryz.prog w = .ok 1 w := fun w => by kernel_rfl
end Go.Proofs.YtghohakbepeffaaGreatDoor
namespace Go.Proofs.YtghohakbepeffaaGreatDoor
set_option maxRecDepth 100000
set_option maxHeartbeats 4000000
open Go Go.RowKit Go.Own Go.Shelf
end Go.Proofs.YtghohakbepeffaaGreatDoor
namespace Go.Proofs.YtghohakbepeffaaGreatDoor
set_option maxRecDepth 100000
set_option maxHeartbeats 4000000
open Go Go.RowKit Go.Own Go.Shelf
/-- A reader's state: its error (0: none) and its place, or that of its fault. -/
structure RS where
  err : Int
  pos : Int
/-- A reader at block b: its bytes' slice v, its fault's pointer fp, its own place. -/
structure RdAt (w : World) (b : Nat) (v fp : Value) (l : List UInt8) (s : RS) : Prop where
  ex : ∃ at_ : Nat, w.heap[b]? = some (.cells #[v, .int .i64 (at_ : Int), .bool true, fp] 109 (0, 0)) ∧ at_ ≤ l.length ∧
    ((s.err = 0 ∧ s.pos = at_ ∧ fp = .pointer none) ∨ (s.err ≠ 0 ∧ ∃ g, fp = .pointer (some ⟨g, 0, none⟩) ∧ g ≠ b ∧ w.heap[g]? = some (.cells #[.int .i64 s.err, .int .i64 s.pos] 31 (0, 0))))
  bytes : BytesAt w v l
  own : v.ownBlock ≠ some b
def ptrBlock : Value → Option Nat
  | .pointer (some a) => some a.block
  | _ => none
/-- Its blocks. -/
def rdBlk (b : Nat) (v fp : Value) : Nat → Prop := fun j => j = b ∨ v.ownBlock = some j ∨ ptrBlock fp = some j
theorem RdAt.keeps {w w' : World} {M : Nat → Prop} {b : Nat} {v fp : Value} {l : List UInt8} {s : RS} (h : RdAt w b v fp l s) (k : Keeps M w w') (hm : ∀ j, rdBlk b v fp j → ¬ M j) : RdAt w' b v fp l s := by
  obtain ⟨at_, hb, hl, hf⟩ := h.ex
  refine ⟨⟨at_, (k.block b (lt_of_block hb) (hm b (.inl rfl))).trans hb, hl, ?_⟩, h.bytes.keeps k (fun j hj => hm j (.inr (.inl hj))), h.own⟩
  rcases hf with hf | ⟨h0, g, rfl, hg, hc⟩
  · exact .inl hf
  · exact .inr ⟨h0, g, rfl, hg, (k.block g (lt_of_block hc) (hm g (.inr (.inr rfl)))).trans hc⟩
theorem RdAt.lt {w : World} {b : Nat} {v fp : Value} {l : List UInt8} {s : RS} (h : RdAt w b v fp l s) : b < w.heap.size := by
  obtain ⟨at_, hb, _⟩ := h.ex
  exact lt_of_block hb
theorem rnone_ok (b : Nat) (v fp : Value) (l : List UInt8) (s : RS) (w : World) (h : RdAt w b v fp l s) :
    Calls Tryz.prog 74 #[.pointer (some ⟨b, 0, none⟩)] w fun e w' => e = .returned (.bool false) ∧ w = w' := by
  obtain ⟨at_, hb, hl, hf⟩ := h.ex
  have c2 : w.cell? ⟨b, 2, none⟩ = some (.bool true) := (cell_of_row w b 2 _ _ _ hb).trans rfl
  clear h hb hf
  go_enter Tryz.func74, Tryz.ntmps74
  go_wp2
  go_ret
  exact ⟨rfl, rfl⟩
theorem rAt_ok (b : Nat) (v fp : Value) (l : List UInt8) (s : RS) (w : World) (h : RdAt w b v fp l s) :
    Calls Tryz.prog 43 #[.pointer (some ⟨b, 0, none⟩)] w fun e w' => e = .returned (.int .i64 s.pos) ∧ w = w' := by
  have HN := Lib.hid (rnone_ok b v fp l s w h)
  obtain ⟨at_, hb, hl, hf⟩ := h.ex
  have c1 : w.cell? ⟨b, 1, none⟩ = some (.int .i64 (at_ : Int)) := (cell_of_row w b 1 _ _ _ hb).trans rfl
  have c3 : w.cell? ⟨b, 3, none⟩ = some fp := (cell_of_row w b 3 _ _ _ hb).trans rfl
  clear h hb
  rcases hf with ⟨h0, hp, rfl⟩ | ⟨h0, g, rfl, hg, hc⟩
  · rw [hp]
    clear hp
    go_enter Tryz.func43, Tryz.ntmps43
    go_wp2_with (go_at_call 74; refine HN.out.mono ?_; rintro e w' ⟨rfl, rfl⟩)
    go_ret
    exact ⟨rfl, rfl⟩
  · have g1 : w.cell? ⟨g, 1, none⟩ = some (.int .i64 s.pos) := (cell_of_row w g 1 _ _ _ hc).trans rfl
    clear hc
    go_enter Tryz.func43, Tryz.ntmps43
    go_wp2_with (go_at_call 74; refine HN.out.mono ?_; rintro e w' ⟨rfl, rfl⟩)
    go_ret
    exact ⟨rfl, rfl⟩
/-- How many bytes are left. -/
def RS.left (s : RS) (l : List UInt8) : Int := if s.err = 0 then l.length - s.pos else 0
/-- What End tells. -/
def RS.fin (s : RS) (l : List UInt8) : Int × Int := if s.err = 0 then (if s.pos < l.length then (4, s.pos) else (0, 0)) else (s.err, s.pos)
theorem rEnd_ok (b : Nat) (v fp : Value) (l : List UInt8) (s : RS) (w : World) (h : RdAt w b v fp l s) :
    Calls Tryz.prog 46 #[.pointer (some ⟨b, 0, none⟩)] w fun e w' => e = .returned (.agg #[.int .i64 (s.fin l).1, .int .i64 (s.fin l).2]) ∧ Keeps Nob w w' := by
  have hk0 : Keeps Nob w (w.alloc (.cells #[.int .i64 0, .int .i64 0] 31)) := (Keeps.refl _ _).alloc _
  have hA := h.keeps hk0 (fun _ _ x => x)
  have HN := Lib.hid (rnone_ok b v fp l s _ hA)
  have hll := h.bytes.length_le
  obtain ⟨A, cap, rfl⟩ := h.bytes.len
  obtain ⟨at_, hb, hl, hf⟩ := hA.ex
  have hlt := h.lt
  have c0 := (cell_of_row _ b 0 _ _ _ hb).trans (show _ = some (.slice A l.length cap) from rfl)
  have c1 := (cell_of_row _ b 1 _ _ _ hb).trans (show _ = some (.int .i64 (at_ : Int)) from rfl)
  have c3 := (cell_of_row _ b 3 _ _ _ hb).trans (show _ = some fp from rfl)
  clear h hA hb
  rcases hf with ⟨h0, hp, rfl⟩ | ⟨h0, g, rfl, hg, hc⟩
  · by_cases h1 : at_ < l.length
    · have hs : s.fin l = (4, (at_ : Int)) := by unfold RS.fin; rw [if_pos h0, hp, if_pos (by omega)]
      rw [hs]
      clear hs h0 hp
      go_enter Tryz.func46, Tryz.ntmps46
      go_wp2_with (go_at_call 74; refine HN.out.mono ?_; rintro e w' ⟨rfl, rfl⟩)
      go_quiet (fail)
      go_wp2
      exact bodyPost_ret (v := .agg #[.int .i64 4, .int .i64 (at_ : Int)]) (by simp [results, Tryz.results46, go_sem]) rfl ⟨rfl, ((hk0.drewN _).setCell_new (p := ⟨w.heap.size, 0, none⟩) (Nat.le_refl _) _).setCell_new (p := ⟨w.heap.size, 1, none⟩) (Nat.le_refl _) _⟩
    · have hs : s.fin l = (0, 0) := by unfold RS.fin; rw [if_pos h0, hp, if_neg (by omega)]
      rw [hs]
      clear hs h0 hp
      go_enter Tryz.func46, Tryz.ntmps46
      go_wp2_with (go_at_call 74; refine HN.out.mono ?_; rintro e w' ⟨rfl, rfl⟩)
      go_quiet (fail)
      go_wp2
      exact bodyPost_ret (v := .agg #[.int .i64 0, .int .i64 0]) (by simp [results, Tryz.results46, go_sem]) rfl ⟨rfl, ((hk0.drewN _).setCell_new (p := ⟨w.heap.size, 0, none⟩) (Nat.le_refl _) _).setCell_new (p := ⟨w.heap.size, 1, none⟩) (Nat.le_refl _) _⟩
  · have g0 := (cell_of_row _ g 0 _ _ _ hc).trans (show _ = some (.int .i64 s.err) from rfl)
    have g1 := (cell_of_row _ g 1 _ _ _ hc).trans (show _ = some (.int .i64 s.pos) from rfl)
    have hs : s.fin l = (s.err, s.pos) := by unfold RS.fin; rw [if_neg h0]
    rw [hs]
    clear hs h0 hc
    go_enter Tryz.func46, Tryz.ntmps46
    go_wp2_with (go_at_call 74; refine HN.out.mono ?_; rintro e w' ⟨rfl, rfl⟩)
    exact bodyPost_ret (v := .agg #[.int .i64 s.err, .int .i64 s.pos]) (by simp [results, Tryz.results46, go_sem]) rfl ⟨rfl, (Keeps.refl _ _).alloc _⟩
/-- A fault that is laid from without. -/
def RS.fail (s : RS) (e p : Int) : RS := if s.err = 0 ∧ e ≠ 0 then ⟨e, p⟩ else s
/-- What a step may lay: a fault's new block. -/
def NewPtr (w : World) (fp fp' : Value) : Prop := fp' = fp ∨ ∃ g, fp' = .pointer (some ⟨g, 0, none⟩) ∧ w.heap.size ≤ g
theorem rFail_ok (b : Nat) (v fp : Value) (l : List UInt8) (s : RS) (e p : Int) (w : World) (h : RdAt w b v fp l s) :
    Calls Tryz.prog 44 #[.pointer (some ⟨b, 0, none⟩), .int .i64 e, .int .i64 p] w fun x w' => (∃ r, x = .returned r) ∧ (∃ fp', RdAt w' b v fp' l (s.fail e p) ∧ NewPtr w fp fp') ∧ Keeps (One b) w w' := by
  have H := Lib.hid h
  have HN := Lib.hid (rnone_ok b v fp l s w h)
  obtain ⟨at_, hb, hl, hf⟩ := h.ex
  have c3 : w.cell? ⟨b, 3, none⟩ = some fp := (cell_of_row w b 3 _ _ _ hb).trans rfl
  have f3 : w.frozen? ⟨b, 3, none⟩ = false := frozen_of_row w b 3 _ _ hb
  have hlt := h.lt
  have HBK := Lib.hid hb
  clear h hb
  rcases hf with ⟨h0, hp, rfl⟩ | ⟨h0, g, rfl, hg, hc⟩
  · by_cases he : e = 0
    · have hs : s.fail e p = s := by unfold RS.fail; rw [if_neg (by simp [he])]
      rw [hs]
      have hb : (e != 0) = false := by simpa using he
      clear hs h0 hp he
      go_enter Tryz.func44, Tryz.ntmps44
      go_wp2_with (go_at_call 74; refine HN.out.mono ?_; rintro e w' ⟨rfl, rfl⟩)
      go_end0
      exact ⟨⟨_, rfl⟩, ⟨_, H.out, .inl rfl⟩, Keeps.refl _ _⟩
    · have hs : s.fail e p = ⟨e, p⟩ := by unfold RS.fail; rw [if_pos ⟨h0, he⟩]
      rw [hs]
      have hb : (e != 0) = true := by simpa using he
      have HE := Lib.hid he
      clear hs h0 hp he
      go_enter Tryz.func44, Tryz.ntmps44
      go_wp2_with (go_at_call 74; refine HN.out.mono ?_; rintro e w' ⟨rfl, rfl⟩)
      go_end0
      have kS : Keeps (One b) w (w.setCell ⟨b, 3, none⟩ (.pointer (some ⟨w.heap.size, 0, none⟩))) := (Keeps.refl _ _).setOne _
      have hbS : (w.setCell ⟨b, 3, none⟩ (.pointer (some ⟨w.heap.size, 0, none⟩))).heap[b]? = some (.cells #[v, .int .i64 (at_ : Int), .bool true, .pointer (some ⟨w.heap.size, 0, none⟩)] 109 (0, 0)) := heap_setCell_same w b 3 _ _ _ HBK.out
      have hsz : (w.setCell ⟨b, 3, none⟩ (.pointer (some ⟨w.heap.size, 0, none⟩))).heap.size = w.heap.size := by simp
      generalize w.setCell ⟨b, 3, none⟩ (.pointer (some ⟨w.heap.size, 0, none⟩)) = WS at *
      have hg2 : (WS.alloc (.cells #[.int .i64 e, .int .i64 p] 31)).heap[w.heap.size]? = some (.cells #[.int .i64 e, .int .i64 p] 31 (0, 0)) := by rw [← hsz]; exact heap_alloc_new _ _
      have hk := kS.alloc (.cells #[.int .i64 e, .int .i64 p] 31)
      refine ⟨⟨_, rfl⟩, ⟨_, ⟨⟨at_, (Below.heap_alloc _ _ _ (by omega)).trans hbS, hl, .inr ⟨HE.out, w.heap.size, rfl, by omega, hg2⟩⟩, ?_, H.out.own⟩, .inr ⟨_, rfl, Nat.le_refl _⟩⟩, hk⟩
      exact H.out.bytes.keeps hk (fun j hj (e : j = b) => H.out.own (by rw [hj, e]))
  · have hs : s.fail e p = s := by unfold RS.fail; rw [if_neg (by simp [h0])]
    rw [hs]
    clear hs h0 hc
    go_enter Tryz.func44, Tryz.ntmps44
    go_wp2_with (go_at_call 74; refine HN.out.mono ?_; rintro e w' ⟨rfl, rfl⟩)
    go_end0
    exact ⟨⟨_, rfl⟩, ⟨_, H.out, .inl rfl⟩, Keeps.refl _ _⟩
/-- 'slices.Clone' of bytes: nil of nil, else new memory. -/
theorem u8_info1 : (Tryz.prog.info? 5).map (fun i => (i.zero, i.size, i.bytes)) = some (some (.int .u8 0), 1, 1) := by kernel_rfl
theorem clone_ok (a : Value) (l : List UInt8) (w : World) (ha : BytesAt w a l) (hl : l.length ≤ 100000000) :
    Calls Tryz.prog 69 #[a] w fun e w' => ∃ v, e = .returned v ∧ Row w' 5 1 v l.length (B l) ∧ (∀ j, v.ownBlock = some j → w.heap.size ≤ j) ∧ Keeps Nob w w' := by
  obtain ⟨i0, hi, hz0, hz1, hz2⟩ := info_parts u8_info1
  obtain ⟨A, cap, rfl, h1, h2, h3⟩ := ha.form
  cases A with
  | none =>
    have h0 : l = [] := by
      cases l with
      | nil => rfl
      | cons x r => obtain ⟨b, o, c, e, _⟩ := ha.at_ 0 x rfl; simp at e
    subst h0
    obtain rfl := h3 rfl
    clear ha
    have hn := fun W => Lib.run_eql_slice_nil (P := Tryz.prog) W 23 5 none 0 0 0 0 Tryz.underlying23
    go_enter Tryz.func69, Tryz.ntmps69
    go_wp2
    go_ret
    exact ⟨_, rfl, ⟨rfl, .inl ⟨rfl, rfl⟩⟩, (fun j hj => by cases hj), Keeps.refl _ _⟩
  | some ad =>
    have hr := Row.empty w 5
    have hs := (ha.keepsN ((Keeps.refl Nob w).alloc (.cells #[] 5))).src
    have HA := Lib.hid ha
    clear ha h3
    have hn := fun W => Lib.run_eql_slice_nil (P := Tryz.prog) W 23 5 (some ad) l.length cap 0 0 Tryz.underlying23
    go_enter Tryz.func69, Tryz.ntmps69
    go_wp2_with (at_builtin; refine own_append2 rfl _ _ 23 rfl 5 i0 (.int .u8 0) 1 1 Tryz.underlying23 hi hz0 hz1 hz2 rfl (by decide) (.slice (some ⟨w.heap.size, 0, none⟩) 0 0) 0 _ rfl hr (.slice (some ad) l.length cap) l.length (B l) rfl hs (by unfold maxLen; omega) (by omega) ?_; intro v' w1 hown' hgrow hnil hat; rw [Nat.zero_add, List.nil_append] at hown'; have H1 := Lib.hid hown'; have H3 := Lib.hid hat; have H4 := Lib.hid hgrow; clear hown' hnil hat hgrow)
    go_ret
    refine ⟨_, rfl, H1.out, fun j hj => ?_, ((Keeps.refl Nob w).alloc _).grown H4.out (fun j hj hlt => by simp [Value.ownBlock] at hj; omega)⟩
    rcases H3.out j hj with h | ⟨h, _⟩
    · simp [Value.ownBlock] at h; omega
    · simp at h; omega
theorem newReader_ok (a : Value) (l : List UInt8) (w : World) (ha : BytesAt w a l) (hl : l.length ≤ 100000000) :
    Calls Tryz.prog 41 #[a] w fun e w' => ∃ b v, e = .returned (.pointer (some ⟨b, 0, none⟩)) ∧ RdAt w' b v (.pointer none) l ⟨0, 0⟩ ∧ w.heap.size ≤ b ∧ (∀ j, v.ownBlock = some j → w.heap.size ≤ j ∧ j < w'.heap.size) ∧ Keeps Nob w w' := by
  have HC := Lib.hid (clone_ok a l w ha hl)
  clear ha
  go_enter Tryz.func41, Tryz.ntmps41
  go_wp2_with (go_at_call 69; refine HC.out.mono ?_; rintro e w' ⟨v, rfl, h1, h2, h3⟩; obtain ⟨A, cap, rfl⟩ := (Row.bytes h1).len; have H1 := Lib.hid h1; have H2 := Lib.hid h2; clear h1 h2)
  go_ret
  have hkA : Keeps Nob w' (w'.alloc (.cells #[.slice A l.length cap, .int .i64 0, .bool true, .pointer none] 109)) := (Keeps.refl _ _).alloc _
  refine ⟨w'.heap.size, .slice A l.length cap, rfl, ⟨⟨0, heap_alloc_new _ _, Nat.zero_le _, .inl ⟨rfl, rfl, rfl⟩⟩, (Row.bytes H1.out).keepsN hkA, fun h => ?_⟩, h3.size, fun j hj => ⟨H2.out j hj, Nat.lt_of_lt_of_le (H1.out.lt hj) hkA.size⟩, h3.trans hkA⟩
  exact absurd (H1.out.lt h) (by omega)
end Go.Proofs.YtghohakbepeffaaGreatDoor
namespace Go.Proofs.YtghohakbepeffaaGreatDoor
set_option maxRecDepth 100000
set_option maxHeartbeats 4000000
open Go Go.RowKit Go.Own Go.Shelf
/-- A writer's state: its limit, its bytes, its error. -/
structure WS where
  lim : Int
  out : List UInt8
  err : Int
def WS.add (s : WS) (bs : List UInt8) : WS := if s.err = 0 then (if s.lim - s.out.length < bs.length then { s with err := 4 } else { s with out := s.out ++ bs }) else s
structure WrAt (w : World) (b : Nat) (v : Value) (s : WS) : Prop where
  blk : w.heap[b]? = some (.cells #[v, .int .i64 s.lim, .bool true, .int .i64 s.err] 104 (0, 0))
  row : Row w 5 1 v s.out.length (B s.out)
  own : v.ownBlock ≠ some b
  l0 : 0 ≤ s.lim
  l1 : s.lim ≤ 1048576
  fits : (s.out.length : Int) ≤ s.lim
/-- Its blocks. -/
def WBlk (b : Nat) (v : Value) : Nat → Prop := fun j => j = b ∨ v.ownBlock = some j
theorem WrAt.lt {w : World} {b : Nat} {v : Value} {s : WS} (h : WrAt w b v s) : b < w.heap.size := lt_of_block h.blk
theorem WrAt.blk_lt {w : World} {b : Nat} {v : Value} {s : WS} (h : WrAt w b v s) : ∀ j, WBlk b v j → j < w.heap.size := fun j hj => by
  rcases hj with rfl | hj
  · exact h.lt
  · exact h.row.lt hj
theorem WrAt.keeps {w w' : World} {M : Nat → Prop} {b : Nat} {v : Value} {s : WS} (h : WrAt w b v s) (k : Keeps M w w') (hm : ∀ j, WBlk b v j → ¬ M j) : WrAt w' b v s :=
  ⟨(k.block b h.lt (hm b (.inl rfl))).trans h.blk, h.row.keeps k (fun j hj => hm j (.inr hj)), h.own, h.l0, h.l1, h.fits⟩
theorem wstate_ok (b : Nat) (v : Value) (s : WS) (w : World) (h : WrAt w b v s) :
    Calls Tryz.prog 66 #[.pointer (some ⟨b, 0, none⟩)] w fun e w' => e = .returned (.int .i64 s.err) ∧ w = w' := by
  have c2 : w.cell? ⟨b, 2, none⟩ = some (.bool true) := (cell_of_row w b 2 _ _ _ h.blk).trans rfl
  have c3 : w.cell? ⟨b, 3, none⟩ = some (.int .i64 s.err) := (cell_of_row w b 3 _ _ _ h.blk).trans rfl
  clear h
  go_enter Tryz.func66, Tryz.ntmps66
  go_wp2
  go_ret
  exact ⟨rfl, rfl⟩
theorem newWriter_ok (lim : Int) (w : World) (h0 : 0 ≤ lim) (h1 : lim ≤ 1048576) :
    Calls Tryz.prog 35 #[.int .i64 lim] w fun e w' => ∃ b, e = .returned (.tuple #[.pointer (some ⟨b, 0, none⟩), .int .i64 0]) ∧ WrAt w' b (.slice none 0 0) ⟨lim, [], 0⟩ ∧ w.heap.size ≤ b ∧ Keeps Nob w w' := by
  have d0 : decide (lim < 0) = false := by simpa using h0
  have d1 : decide (1048576 < lim) = false := by simpa using h1
  go_enter Tryz.func35, Tryz.ntmps35
  go_wp2
  go_ret2
  exact ⟨_, rfl, ⟨heap_alloc_new _ _, ⟨rfl, .inl ⟨rfl, rfl⟩⟩, by simp [Value.ownBlock], h0, h1, by simpa using h0⟩, Nat.le_refl _, (Keeps.refl _ _).alloc _⟩
/-- What a step leaves of a writer. -/
def WPost (b : Nat) (v : Value) (s : WS) (w : World) (e : Ending) (w' : World) : Prop :=
  e = .returned (.int .i64 s.err) ∧ (∃ v', WrAt w' b v' s ∧ ∀ j, v'.ownBlock = some j → v.ownBlock = some j ∨ w.heap.size ≤ j) ∧ Keeps (WBlk b v) w w'
theorem wadd_ok (b : Nat) (v : Value) (s : WS) (x : Value) (bs : List UInt8) (w : World) (h : WrAt w b v s) (hx : BytesAt w x bs) (hl : bs.length ≤ 10000000) :
    Calls Tryz.prog 67 #[.pointer (some ⟨b, 0, none⟩), x] w (WPost b v (s.add bs) w) := by
  have HS := Lib.hid (wstate_ok b v s w h)
  have H := Lib.hid h
  obtain ⟨A, cap, rfl⟩ := hx.len
  obtain ⟨Av, cv, rfl⟩ := (Row.bytes h.row).len
  have c0 : w.cell? ⟨b, 0, none⟩ = some (.slice Av s.out.length cv) := (cell_of_row w b 0 _ _ _ h.blk).trans rfl
  have c1 : w.cell? ⟨b, 1, none⟩ = some (.int .i64 s.lim) := (cell_of_row w b 1 _ _ _ h.blk).trans rfl
  have c3 : w.cell? ⟨b, 3, none⟩ = some (.int .i64 s.err) := (cell_of_row w b 3 _ _ _ h.blk).trans rfl
  have f3 : w.frozen? ⟨b, 3, none⟩ = false := frozen_of_row w b 3 _ _ h.blk
  have hlt := h.lt
  have l0 := h.l0
  have l1 := h.l1
  have hfit := h.fits
  have HX := Lib.hid hx
  clear h hx
  by_cases h0 : s.err = 0
  · have d0 : (s.err != 0) = false := by simpa using h0
    have ew : IntKind.i64.wrap (s.lim - (s.out.length : Int)) = s.lim - (s.out.length : Int) := by rw [IntKind.wrap_i64]; omega
    by_cases h1 : s.lim - (s.out.length : Int) < (bs.length : Int)
    · have e1 : s.add bs = { s with err := 4 } := by unfold WS.add; rw [if_pos h0, if_pos h1]
      rw [e1]
      have d1 : decide (s.lim - (s.out.length : Int) < (bs.length : Int)) = true := by simpa using h1
      clear e1 h0
      go_enter Tryz.func67, Tryz.ntmps67
      go_wp2_with (go_at_call 66; refine HS.out.mono ?_; rintro e w' ⟨rfl, rfl⟩)
      go_quiet (fail)
      revert nq; intro n1
      go_wp2
      go_ret
      have hb2 := heap_setCell_same (w.drewN n1) b 3 _ _ (.int .i64 4) H.out.blk
      have hk : Keeps (One b) w ((w.drewN n1).setCell ⟨b, 3, none⟩ (.int .i64 4)) := ((Keeps.refl _ _).drewN n1).setOne _
      exact ⟨rfl, ⟨_, ⟨hb2, H.out.row.keeps hk (fun j hj (e : j = b) => H.out.own (by rw [hj, e])), H.out.own, l0, l1, hfit⟩, fun j hj => .inl hj⟩, hk.mono (fun _ _ e => .inl e)⟩
    · have e1 : s.add bs = { s with out := s.out ++ bs } := by unfold WS.add; rw [if_pos h0, if_neg h1]
      rw [e1]
      have d1 : decide (s.lim - (s.out.length : Int) < (bs.length : Int)) = false := by simpa using h1
      obtain ⟨i0, hi, hz0, hz1, hz2⟩ := info_parts u8_info0
      have HI := Lib.hid hi
      have HZ0 := Lib.hid hz0
      have HZ1 := Lib.hid hz1
      have HZ2 := Lib.hid hz2
      have H0 := Lib.hid h0
      clear e1 h0 hi hz0 hz1 hz2
      go_enter Tryz.func67, Tryz.ntmps67
      go_wp2_with (go_at_call 66; refine HS.out.mono ?_; rintro e w' ⟨rfl, rfl⟩)
      go_quiet (fail)
      revert nq; intro n1
      have kd : Hid (Keeps Nob w (w.drewN n1)) := Lib.hid ((Keeps.refl _ _).drewN n1)
      have HR1 := Lib.hid (H.out.row.keeps kd.out (fun _ _ x => x))
      have HS1 := Lib.hid (HX.out.keepsN kd.out).src
      go_wp2_with (at_builtin; refine own_append2 rfl _ _ 23 rfl 5 i0 (.int .u8 0) 1 1 Tryz.underlying23 HI.out HZ0.out HZ1.out HZ2.out rfl (by decide) _ _ _ rfl HR1.out (.slice A bs.length cap) bs.length (B bs) rfl HS1.out (len_small _ _ (by omega)) (len_bytes _ _ (by omega)) ?_; intro v' w1 hown' hgrow hnil hat; rw [← B_append, ← List.length_append] at hown'; obtain ⟨Av', cv', hv'⟩ := (Row.bytes hown').len; subst hv'; have hk1 : Keeps (fun j => (Value.slice Av s.out.length cv).ownBlock = some j) (w.drewN n1) w1 := (Keeps.refl _ _).grown hgrow (fun j hj _ => hj); have hb1 := (hk1.block b hlt (fun e => H.out.own e)).trans H.out.blk; have q0 : w1.cell? ⟨b, 0, none⟩ = some (.slice Av s.out.length cv) := (cell_of_row w1 b 0 _ _ _ hb1).trans rfl; have q1 : w1.frozen? ⟨b, 0, none⟩ = false := frozen_of_row w1 b 0 _ _ hb1; have H1 := Lib.hid hown'; have H3 := Lib.hid hat; have HB := Lib.hid hb1; have HK := Lib.hid hk1; clear hown' hnil hat hgrow hb1 hk1)
      go_ret
      obtain ⟨v', hv'⟩ : ∃ v', (Value.slice Av' (s.out.length + bs.length) cv') = v' := ⟨_, rfl⟩
      rw [List.length_append, hv'] at H1 H3
      rw [hv']
      have hb2 := heap_setCell_same w1 b 0 _ _ v' HB.out
      have hkS : Keeps (One b) w1 (w1.setCell ⟨b, 0, none⟩ v') := (Keeps.refl _ _).setOne _
      have hown : ∀ j, v'.ownBlock = some j → (Value.slice Av s.out.length cv).ownBlock = some j ∨ w.heap.size ≤ j := fun j hj => by
        rcases H3.out j hj with h | ⟨h, _⟩
        · exact .inl h
        · simp at h; exact .inr (by omega)
      have hvb : v'.ownBlock ≠ some b := fun hj => by
        rcases hown b hj with h | h
        · exact H.out.own h
        · omega
      refine ⟨by show Ending.returned (.int .i64 0) = .returned (.int .i64 s.err); rw [H0.out], ⟨v', ⟨hb2, ?_, hvb, l0, l1, by simp; omega⟩, hown⟩, (((Keeps.refl _ w).drewN n1).trans (HK.out.mono (fun _ _ e => .inr e))).trans (hkS.mono (fun _ _ e => .inl e))⟩
      rw [← List.length_append] at H1
      exact H1.out.keeps hkS (fun j hj (e : j = b) => hvb (by rw [hj, e]))
  · have e1 : s.add bs = s := by unfold WS.add; rw [if_neg h0]
    rw [e1]
    have d0 : (s.err != 0) = true := by simpa using h0
    clear h0 e1
    go_enter Tryz.func67, Tryz.ntmps67
    go_wp2_with (go_at_call 66; refine HS.out.mono ?_; rintro e w' ⟨rfl, rfl⟩)
    go_ret
    exact ⟨rfl, ⟨_, H.out, fun j hj => .inl hj⟩, Keeps.refl _ _⟩
end Go.Proofs.YtghohakbepeffaaGreatDoor
namespace Go.Proofs.YtghohakbepeffaaGreatDoor
set_option maxRecDepth 100000
set_option maxHeartbeats 4000000
open Go Go.RowKit Go.Own Go.Shelf
theorem WPost.mono {b : Nat} {v : Value} {s : WS} {w w0 : World} {e : Ending} {w' : World} (h : WPost b v s w e w') (k : Keeps Nob w0 w) : WPost b v s w0 e w' := by
  obtain ⟨h1, ⟨v', h2, h3⟩, h4⟩ := h
  refine ⟨h1, ⟨v', h2, fun j hj => ?_⟩, (k.mono (fun _ _ x => x.elim)).trans h4⟩
  rcases h3 j hj with h | h
  · exact .inl h
  · exact .inr (Nat.le_trans k.size h)
theorem wU_ok (b : Nat) (v : Value) (s : WS) (n : Nat) (w : World) (h : WrAt w b v s) (hn : n < 2 ^ 64) :
    Calls Tryz.prog 37 #[.pointer (some ⟨b, 0, none⟩), .int .u64 (n : Int)] w (WPost b v (s.add (Cod.enc n)) w) := by
  have H := Lib.hid h
  have HP := Lib.hid (cPut_ok n hn w)
  clear h hn
  go_enter Tryz.func37, Tryz.ntmps37
  go_wp2_with (first
    | (go_at_call 68; refine HP.out.mono ?_; rintro e w1 ⟨x, rfl, h1, h2, h3, h4⟩; have H1 := Lib.hid h1; have H4 := Lib.hid h4; clear h1 h2 h3 h4)
    | (go_at_call 67; refine (wadd_ok b v s x (Cod.enc n) w1 (H.out.keeps H4.out (fun _ _ x => x)) (Row.bytes H1.out) (by have := Cod.enc_length n; omega)).mono ?_; rintro e w2 hp; have HQ := Lib.hid (hp.mono H4.out); obtain ⟨rfl, -, -⟩ := hp))
  go_ret
  exact HQ.out
theorem wN_ok (b : Nat) (v : Value) (s : WS) (n : Int) (w : World) (h : WrAt w b v s) (h0 : 0 ≤ n) (h1 : n ≤ 9223372036854775807) :
    Calls Tryz.prog 36 #[.pointer (some ⟨b, 0, none⟩), .int .i64 n] w (WPost b v (s.add (Cod.enc n.toNat)) w) := by
  have H := Lib.hid h
  have HS := Lib.hid (wstate_ok b v s w h)
  obtain ⟨k, rfl⟩ : ∃ k : Nat, n = (k : Int) := ⟨n.toNat, by omega⟩
  have HU := Lib.hid (wU_ok b v s k w h (by omega))
  rw [Int.toNat_natCast]
  have w1' : IntKind.u64.wrap (k : Int) = (k : Int) := by simp [IntKind.wrap, IntKind.bits, IntKind.signed]; omega
  have d0 : decide ((0 : Int) ≤ (k : Int)) = true := by simp
  clear h
  by_cases he : s.err = 0
  · have d1 : (s.err != 0) = false := by simpa using he
    clear he
    go_enter Tryz.func36, Tryz.ntmps36
    go_wp2_with (first
      | (go_at_call 66; refine HS.out.mono ?_; rintro e w' ⟨rfl, rfl⟩)
      | (go_at_call 37; refine HU.out.mono ?_; rintro e w2 hp; have HQ := Lib.hid hp; obtain ⟨rfl, -, -⟩ := hp))
    go_ret
    exact HQ.out
  · have d1 : (s.err != 0) = true := by simpa using he
    clear he
    go_enter Tryz.func36, Tryz.ntmps36
    go_wp2_with (first
      | (go_at_call 66; refine HS.out.mono ?_; rintro e w' ⟨rfl, rfl⟩)
      | (go_at_call 37; refine HU.out.mono ?_; rintro e w2 hp; have HQ := Lib.hid hp; obtain ⟨rfl, -, -⟩ := hp))
    go_ret
    exact HQ.out
/-- Done: the bytes, or why none. -/
def DPost (s : WS) (w : World) (e : Ending) (w' : World) : Prop :=
  ∃ X, e = .returned (.tuple #[X, .int .i64 s.err]) ∧ (Row w' 5 1 X (if s.err = 0 then s.out else []).length (B (if s.err = 0 then s.out else [])) ∧ ∀ j, X.ownBlock = some j → w.heap.size ≤ j) ∧ Keeps Nob w w'
theorem wDone_ok (b : Nat) (v : Value) (s : WS) (w : World) (h : WrAt w b v s) :
    Calls Tryz.prog 38 #[.pointer (some ⟨b, 0, none⟩)] w (DPost s w) := by
  have HS := Lib.hid (wstate_ok b v s w h)
  have hf := h.fits
  have hl := h.l1
  have HC := Lib.hid (clone_ok v s.out w (Row.bytes h.row) (by omega))
  have c0 : w.cell? ⟨b, 0, none⟩ = some v := (cell_of_row w b 0 _ _ _ h.blk).trans rfl
  clear h
  by_cases he : s.err = 0
  · have d1 : (s.err != 0) = false := by simpa using he
    have HE := Lib.hid he
    clear he
    go_enter Tryz.func38, Tryz.ntmps38
    go_wp2_with (first
      | (go_at_call 66; refine HS.out.mono ?_; rintro e w' ⟨rfl, rfl⟩)
      | (go_at_call 69; refine HC.out.mono ?_; rintro e w1 ⟨X, rfl, h1, h2, h3⟩; have H1 := Lib.hid h1; have H2 := Lib.hid h2; have H3 := Lib.hid h3; clear h1 h2 h3))
    go_ret2
    exact ⟨X, by rw [HE.out]; rfl, ⟨by rw [if_pos HE.out]; exact H1.out, H2.out⟩, H3.out⟩
  · have d1 : (s.err != 0) = true := by simpa using he
    have HE := Lib.hid he
    clear he
    go_enter Tryz.func38, Tryz.ntmps38
    go_wp2_with (go_at_call 66; refine HS.out.mono ?_; rintro e w' ⟨rfl, rfl⟩)
    go_ret2
    exact ⟨_, rfl, ⟨by rw [if_neg HE.out]; exact ⟨rfl, .inl ⟨rfl, rfl⟩⟩, fun j hj => by cases hj⟩, Keeps.refl _ _⟩
end Go.Proofs.YtghohakbepeffaaGreatDoor
namespace Go.Proofs.YtghohakbepeffaaGreatDoor
set_option maxRecDepth 100000
set_option maxHeartbeats 4000000
open Go Go.RowKit Go.Own Go.Shelf
def Wr (w : World) (F : Nat → Prop) (b : Nat) (s : WS) : Prop := ∃ v, WrAt w b v s ∧ F = WBlk b v
section
variable {w w' : World} {F M : Nat → Prop} {b : Nat} {t t' : WS}
theorem Wr.lt (h : Wr w F b t) : Lt F w := by
  obtain ⟨v, h1, rfl⟩ := h
  exact h1.blk_lt
theorem Wr.keeps (h : Wr w F b t) (k : Keeps M w w') (d : Dis F M) : Wr w' F b t := by
  obtain ⟨v, h1, rfl⟩ := h
  exact ⟨v, h1.keeps k d, rfl⟩
theorem Wr.keepsN (h : Wr w F b t) (k : Keeps Nob w w') : Wr w' F b t := h.keeps k (fun _ _ x => x)
theorem wr_step {v : Value} {e : Ending} (hp : WPost b v t' w e w') : e = .returned (.int .i64 t'.err) ∧ ∃ F', Wr w' F' b t' ∧ Step w w' (WBlk b v) F' := by
  obtain ⟨h1, ⟨v', h2, h3⟩, h4⟩ := hp
  refine ⟨h1, _, ⟨v', h2, rfl⟩, h4, fun j hj => ?_⟩
  rcases hj with hj | hj
  · exact .inl (.inl hj)
  · rcases h3 j hj with h | h
    · exact .inl (.inr h)
    · exact .inr ⟨h, h2.row.lt hj⟩
def WPost2 (w : World) (F : Nat → Prop) (b : Nat) (t' : WS) (e : Ending) (w' : World) : Prop := e = .returned (.int .i64 t'.err) ∧ ∃ F', Wr w' F' b t' ∧ Step w w' F F'
theorem wr_new (lim : Int) (w : World) (h0 : 0 ≤ lim) (h1 : lim ≤ 1048576) :
    Calls Tryz.prog 35 #[.int .i64 lim] w fun e w' => ∃ b F, e = .returned (.tuple #[.pointer (some ⟨b, 0, none⟩), .int .i64 0]) ∧ Wr w' F b ⟨lim, [], 0⟩ ∧ Ge F w ∧ Keeps Nob w w' :=
  (newWriter_ok lim w h0 h1).mono fun e w' ⟨b, he, hr, hb, hk⟩ => by
    refine ⟨b, _, he, ⟨_, hr, rfl⟩, ?_, hk⟩
    intro j hj
    rcases hj with rfl | hj
    · exact hb
    · cases hj
theorem Wr.u (h : Wr w F b t) (n : Nat) (hn : n < 2 ^ 64) : Calls Tryz.prog 37 #[.pointer (some ⟨b, 0, none⟩), .int .u64 (n : Int)] w (WPost2 w F b (t.add (Cod.enc n))) := by
  obtain ⟨v, h1, rfl⟩ := h
  exact (wU_ok b v t n w h1 hn).mono fun e w' hp => wr_step hp
theorem Wr.n (h : Wr w F b t) (n : Int) (h0 : 0 ≤ n) (h1 : n ≤ 9223372036854775807) : Calls Tryz.prog 36 #[.pointer (some ⟨b, 0, none⟩), .int .i64 n] w (WPost2 w F b (t.add (Cod.enc n.toNat))) := by
  obtain ⟨v, h2, rfl⟩ := h
  exact (wN_ok b v t n w h2 h0 h1).mono fun e w' hp => wr_step hp
theorem Wr.done (h : Wr w F b t) : Calls Tryz.prog 38 #[.pointer (some ⟨b, 0, none⟩)] w (DPost t w) := by
  obtain ⟨v, h1, _⟩ := h
  exact wDone_ok b v t w h1
end
end Go.Proofs.YtghohakbepeffaaGreatDoor
namespace Go.Proofs.YtghohakbepeffaaGreatDoor
set_option maxRecDepth 100000
set_option maxHeartbeats 4000000
open Go Go.RowKit Go.Own Go.Shelf
def nb1 (x : Nt) : List UInt8 := Cod.enc x.h.toNat ++ Cod.enc x.s
/-- The bytes of notes. -/
def nby (l : List Nt) : List UInt8 := Cod.enc l.length ++ l.flatMap nb1
def nbi (l : List Nt) (i : Nat) : List UInt8 := Cod.enc l.length ++ (l.take i).flatMap nb1
def nbytes (l : List Nt) : List UInt8 × Int := if (ncheck l).1 ≠ 0 then ([], (ncheck l).1) else (nby l, 0)
theorem nbi_0 (l : List Nt) : nbi l 0 = Cod.enc l.length := by simp [nbi]
theorem nbi_all (l : List Nt) : nbi l l.length = nby l := by unfold nbi nby; rw [List.take_length]
theorem nbi_succ {l : List Nt} {i : Nat} {x : Nt} (h : l[i]? = some x) : nbi l (i + 1) = (nbi l i ++ Cod.enc x.h.toNat) ++ Cod.enc x.s := by
  unfold nbi; rw [List.take_add_one, h]; simp [nb1]
theorem nbi_le (l : List Nt) (i : Nat) : (nbi l i).length ≤ 10 + 20 * i := by
  have h0 := Cod.enc_length l.length
  induction i with
  | zero => rw [nbi_0]; omega
  | succ i ih =>
    cases h : l[i]? with
    | none =>
      have : nbi l (i + 1) = nbi l i := by unfold nbi; rw [List.take_add_one, h]; simp
      rw [this]; omega
    | some x =>
      have h1 := Cod.enc_length x.h.toNat
      have h2 := Cod.enc_length x.s
      rw [nbi_succ h, List.length_append, List.length_append]; omega
theorem ws_add {o bs : List UInt8} (h : o.length + bs.length ≤ 4096) : (⟨4096, o, 0⟩ : WS).add bs = ⟨4096, o ++ bs, 0⟩ := by
  unfold WS.add; rw [if_pos rfl, if_neg (by show ¬ (4096 : Int) - (o.length : Int) < _; omega)]
theorem ws_h {l : List Nt} {i : Nat} (h : i < 64) (x : Nt) : (⟨4096, nbi l i, 0⟩ : WS).add (Cod.enc x.h.toNat) = ⟨4096, nbi l i ++ Cod.enc x.h.toNat, 0⟩ := ws_add (by have := nbi_le l i; have := Cod.enc_length x.h.toNat; omega)
theorem ws_s {l : List Nt} {i : Nat} {x : Nt} (hx : l[i]? = some x) (h : i < 64) : (⟨4096, nbi l i ++ Cod.enc x.h.toNat, 0⟩ : WS).add (Cod.enc x.s) = ⟨4096, nbi l (i + 1), 0⟩ := by
  rw [nbi_succ hx]; exact ws_add (by have := nbi_le l i; have := Cod.enc_length x.h.toNat; have := Cod.enc_length x.s; rw [List.length_append]; omega)
theorem ws_n (l : List Nt) : (⟨4096, [], 0⟩ : WS).add (Cod.enc ((l.length : Nat) : Int).toNat) = ⟨4096, nbi l 0, 0⟩ := by
  rw [nbi_0, Int.toNat_natCast]; exact ws_add (by have := Cod.enc_length l.length; simp; omega)
theorem nbytes_bad {l : List Nt} {rf : Int} (h : (ncheck l).1 = rf) (h0 : ¬ rf = 0) : nbytes l = ([], rf) := by unfold nbytes; rw [h, if_pos h0]
theorem nbytes_ok {l : List Nt} (h : (ncheck l).1 = 0) : nbytes l = (nby l, 0) := by unfold nbytes; rw [if_neg (fun e => e h)]
noncomputable def qc71_0 (n : Nat) : Code := partOf Tryz.f11 n
theorem nBytes_bad (l : List Nt) (v : Value) (w : World) (hl : Sl w 2 Nt.cl v l) (rf : Int) (hc : (ncheck l).1 = rf) (h0 : ¬ rf = 0) (het : ErrTab w) :
    Calls Tryz.prog 11 #[v] w (fun e w' => ∃ X, e = .returned (.tuple #[X, .int .i64 (nbytes l).2]) ∧ Row w' 5 1 X (nbytes l).1.length (B (nbytes l).1) ∧ NewFrom w.heap.size X ∧ Keeps Nob w w') := by
  have K0 : Keeps Nob w w := Keeps.refl _ _
  refine sy_enter (qc71_0 1) ⟨#[v, ud, ud, ud, ud, ud, ud, ud, ud, ud, ud, ud, ud, ud, ud, ud, ud, ud, ud, ud, ud, ud, ud, ud, ud, ud, ud, ud, ud, ud, ud, ud, ud, ud, ud, ud, ud, ud, ud, ud, ud, ud, ud, ud, ud], []⟩ Tryz.func11 (by kernel_rfl) (by kernel_rfl) <| qr_ [0, 1] <| pkq (.slice none 0 0) <| pkq (.int .i64 0) <| eq_ <| qr_ [0, 1, 2, 3, 4, 5, 6] <| pkq (v) ?_
  refine pcq 22 #[v] Tryz.func22 ((nCheck_is l v rf _ hl (ErrTab.keeps het K0) hc).mono ?_)
  rintro e V1 ⟨rfl, kck⟩
  refine ⟨_, rfl, ?_⟩
  have K2 := K0.nn kck
  have z3 := kck.size
  refine pkq (.tuple #[.int .i64 rf, .int .i64 (ncheck l).2]) <| pkq (.int .i64 rf) <| pkq (.int .i64 (ncheck l).2) <| pkq (.int .i64 rf) <| pkq (.int .i64 (ncheck l).2) <| eqr_ [0, 1] <| pkq (.int .i64 rf) <| ppq (.bool true) (nqt ((rf) : Int) ((0) : Int) (by omega)) <| ey_ <| qr_ [0, 1, 2] <| pkq (.int .i64 rf) <| pkq (.slice none 0 0) <| pkq (.int .i64 rf) <| eu_ ?_
  refine then_r <| so_ (.tuple #[.slice none 0 0, .int .i64 rf]) ?_
  exact ⟨_, by rw [nbytes_bad hc h0], by rw [nbytes_bad hc h0]; exact World.ownsRow_nil _ _ _ _, NewFrom.nil _, K2⟩
theorem nBytes_ok (l : List Nt) (v : Value) (w : World) (hl : Sl w 2 Nt.cl v l) (hc : (ncheck l).1 = 0) (het : ErrTab w) :
    Calls Tryz.prog 11 #[v] w (fun e w' => ∃ X, e = .returned (.tuple #[X, .int .i64 (nbytes l).2]) ∧ Row w' 5 1 X (nbytes l).1.length (B (nbytes l).1) ∧ NewFrom w.heap.size X ∧ Keeps Nob w w') := by
  obtain ⟨hl64, hbad⟩ := ncheck_fine hc
  have K0 : Keeps Nob w w := Keeps.refl _ _
  refine sy_enter (qc71_0 1) ⟨#[v, ud, ud, ud, ud, ud, ud, ud, ud, ud, ud, ud, ud, ud, ud, ud, ud, ud, ud, ud, ud, ud, ud, ud, ud, ud, ud, ud, ud, ud, ud, ud, ud, ud, ud, ud, ud, ud, ud, ud, ud, ud, ud, ud, ud], []⟩ Tryz.func11 (by kernel_rfl) (by kernel_rfl) <| qr_ [0, 1] <| pkq (.slice none 0 0) <| pkq (.int .i64 0) <| eq_ <| qr_ [0, 1, 2, 3, 4, 5, 6] <| pkq (v) ?_
  refine pcq 22 #[v] Tryz.func22 ((nCheck_is l v 0 _ hl (ErrTab.keeps het K0) hc).mono ?_)
  rintro e V1 ⟨rfl, kck⟩
  refine ⟨_, rfl, ?_⟩
  have K2 := K0.nn kck
  have z3 := kck.size
  refine pkq (.tuple #[.int .i64 0, .int .i64 (ncheck l).2]) <| pkq (.int .i64 0) <| pkq (.int .i64 (ncheck l).2) <| pkq (.int .i64 0) <| pkq (.int .i64 (ncheck l).2) <| eqr_ [0, 1] <| pkq (.int .i64 0) <| pkq (.bool false) <| en_ <| s_ <| tqr_ [0, 1, 2, 3, 4, 5] ?_
  have hK1 := K2.size
  refine pcq 35 #[.int .i64 4096] Tryz.func35 ((wr_new 4096 _ (by decide) (by decide)).mono ?_)
  rintro e V4 ⟨b, F0, rfl, hV4, hge0, kV4⟩
  have hgeA : ∀ j, F0 j → w.heap.size ≤ j := fun j h => by have := hge0 j h; omega
  refine ⟨_, rfl, ?_⟩
  have K5 := K2.nn kV4
  have z6 := kV4.size
  refine pkq (.tuple #[pT b 0, .int .i64 0]) <| pkq (pT b 0) <| pkq (.int .i64 0) <| pkq (pT b 0) <| pkq (.int .i64 0) <| eqr_ [0, 1, 2, 3] <| pkq (pT b 0) <| pkq (v) <| ppq (iN l.length) (exec_len_sl (.tmp 23) 22 46 (by kernel_rfl) Tryz.underlying22 (by kernel_rfl) (hl.keepsN K5)) ?_
  have hKs5 := K5.size
  refine pcq 36 #[pT b 0, iN l.length] Tryz.func36 (((ws_n l ▸ Wr.n hV4 ((l.length : Nat) : Int) (by omega) (by omega))).mono ?_)
  rintro e V7 ⟨rfl, F1, hV7, hS1⟩
  have hge1 : ∀ j, F1 j → w.heap.size ≤ j := fun j h => (hS1.2 j h).elim (hgeA j) (fun h => by omega)
  refine ⟨_, rfl, ?_⟩
  have K8 : Keeps Nob w V7 := K5.then hS1.1 (fun i hi hm => absurd hi (by have := hgeA i hm; omega))
  have z9 := hS1.1.size
  refine eq_ <| qr_ [0, 1, 2] <| pkq (v) <| ppq (iN l.length) (exec_len_sl (.tmp 26) 22 46 (by kernel_rfl) Tryz.underlying22 (by kernel_rfl) (hl.keepsN K8)) <| pkq (.int .i64 0) <| ps_end <| sy_a ⟨#[v, ud, .slice none 0 0, .int .i64 0, .int .i64 0, .int .i64 (ncheck l).2, pT b 0, .int .i64 0, ud, ud, .tuple #[.int .i64 0, .int .i64 (ncheck l).2], v, .tuple #[.int .i64 0, .int .i64 (ncheck l).2], .int .i64 0, .int .i64 (ncheck l).2, .int .i64 0, .bool false, ud, .tuple #[pT b 0, .int .i64 0], .tuple #[pT b 0, .int .i64 0], pT b 0, .int .i64 0, pT b 0, v, iN l.length, .int .i64 0, v, iN l.length, .int .i64 0, ud, ud, ud, ud, ud, ud, ud, ud, ud, ud, ud, ud, ud, ud, ud, ud], []⟩ <| then_n <| bl_ 0 ?_
  refine sy_loop (qc71_0 500) (fun a V => ∃ (i : Nat) (Fi : Nat → Prop) (u9 u29 u30 u31 u32 u33 u34 u35 u36 u37 u38 u39 u40 : Value), (a = ⟨#[v, ud, .slice none 0 0, .int .i64 0, .int .i64 0, .int .i64 (ncheck l).2, pT b 0, .int .i64 0, ud, u9, .tuple #[.int .i64 0, .int .i64 (ncheck l).2], v, .tuple #[.int .i64 0, .int .i64 (ncheck l).2], .int .i64 0, .int .i64 (ncheck l).2, .int .i64 0, .bool false, ud, .tuple #[pT b 0, .int .i64 0], .tuple #[pT b 0, .int .i64 0], pT b 0, .int .i64 0, pT b 0, v, iN l.length, .int .i64 0, v, iN l.length, iN i, u29, u30, u31, u32, u33, u34, u35, u36, u37, u38, u39, u40, ud, ud, ud, ud], []⟩) ∧ (i ≤ l.length) ∧ (∀ j, Fi j → w.heap.size ≤ j) ∧ (Wr V Fi b ⟨4096, nbi l i, 0⟩) ∧ (Keeps Nob w V)) (fun a _ => l.length - (intOf (a.tmps.getD 28 undef)).toNat) (by kernel_rfl) ?_ ?_
  · exact ⟨0, F1, undef, undef, undef, undef, undef, undef, undef, undef, undef, undef, undef, undef, undef, by kernel_rfl, Nat.zero_le _, hge1, hV7, K8⟩
  · rintro a V10 ⟨i, Fi, u9, u29, u30, u31, u32, u33, u34, u35, u36, u37, u38, u39, u40, rfl, hi, hgei, h11, K12⟩
    by_cases lt_i : i < l.length
    · obtain ⟨x, hx⟩ : ∃ x, l[i]? = some x := ⟨_, List.getElem?_eq_getElem lt_i⟩
      have h64 : i < 64 := by omega
      have hbx := hbad x (List.mem_of_getElem? hx)
      have hxh : 1 ≤ x.h ∧ x.h ≤ 4294967296 ∧ x.s ≤ 4611686018427387904 := by unfold Nt.bad at hbx; omega
      obtain ⟨b_, o_, c_, hv_, hb_, _⟩ := ((hl.keepsN K12)).at_ i _ hx
      have hltR := Wr.lt h11
      refine qr_ [0] <| ppq (.bool true) (dct ((((i : Nat) : Int)) < (((l.length : Nat) : Int))) (by omega)) <| eq_ <| y_ <| s_ <| tq_ <| bl_ 1 <| qr_ [0, 1, 2, 3] <| ppq (pT b_ (o_ + i * 2)) (exec_indexAt_slice 22 (.tmp 26) (.tmp 28) (by kernel_rfl) b_ o_ l.length c_ (Eq.trans (b := v) (by kernel_rfl) hv_) .i64 i (by kernel_rfl) _ 2 Tryz.underlying22 (by kernel_rfl) (by omega)) <| ppq (.agg x.c) (exec_load_mid 46 (.tmp 30) (by kernel_rfl) b_ (o_ + i * 2) (by kernel_rfl) (Nt.cl x) _ (Sl.range (hl.keepsN K12) hx hv_) Tryz.underlying46 rfl (by kernel_rfl)) <| pal 46 (#[.int .i64 0, .int .u64 0]) (.agg (#[.int .i64 0, .int .u64 0])) fun V13 gx egx h14 kV13 => ?_
      have n15 : w.heap.size ≤ gx := egx ▸ K12.size
      have h16 : Wr V13 Fi b ⟨4096, nbi l i, 0⟩ := h11.keepsN kV13
      have K17 := K12.nn kV13
      have z18 := kV13.size
      refine pst 46 gx x.c h14 (by kernel_rfl) rfl (by kernel_rfl) fun V19 h20 kV19 => ?_
      have h21 : Wr V19 Fi b ⟨4096, nbi l i, 0⟩ := h16.keeps kV19 (fun j hj e => by have := hltR j hj; unfold Own.One at e; omega)
      have K22 := K17.nO kV19
      have z23 := kV19.size
      refine eqr_ [0, 1, 2, 3] <| pkq (pT b 0) <| pkq (pT gx 0) <| ppq (.int .i64 x.h) (ldc 3 gx 0 (rc (h20) (rfl))) ?_
      have hKs9 := K22.size
      have ltx9 := lt_of_block h20
      refine pcq 36 #[pT b 0, .int .i64 x.h] Tryz.func36 (((ws_h h64 x ▸ Wr.n h21 x.h (by omega) (by omega))).mono ?_)
      rintro e V24 ⟨rfl, F2, hV24, hS2⟩
      have hge2 : ∀ j, F2 j → w.heap.size ≤ j ∧ j ≠ gx := fun j h => (hS2.2 j h).elim (fun h => by have := hgei j h; have := hltR j h; omega) (fun h => by omega)
      refine ⟨_, rfl, ?_⟩
      have h25 : V24.heap[gx]? = some (.cells x.c 46 (0, 0)) := (hS2.1.block gx (lt_of_block h20) (fun e => by have := hltR _ e; omega)).trans h20
      have K26 : Keeps Nob w V24 := K22.then hS2.1 (fun k hi hm => absurd hi (by have := hgei k hm; omega))
      have z27 := hS2.1.size
      refine er_ [0, 1, 2, 3] <| pkq (pT b 0) <| pkq (pT gx 1) <| ppq (uN x.s) (ldc 40 gx 1 (rc (h25) (rfl))) ?_
      have hKs10 := K26.size
      refine pcq 37 #[pT b 0, uN x.s] Tryz.func37 (((ws_s hx h64 ▸ Wr.u hV24 x.s (by omega))).mono ?_)
      rintro e V28 ⟨rfl, F3, hV28, hS3⟩
      have hge3 : ∀ j, F3 j → w.heap.size ≤ j := fun j h => (hS3.2 j h).elim (fun h => (hge2 j h).1) (fun h => by omega)
      refine ⟨_, rfl, ?_⟩
      have K29 : Keeps Nob w V28 := K26.then hS3.1 (fun k hi hm => absurd hi (by have := (hge2 k hm).1; omega))
      have z30 := hS3.1.size
      refine ps_end <| blk_n <| tr_ [0, 1] <| ppq (iN (i + 1)) (exec_cast (congrArg (Value.int .i64) (wrapN (i + 1) (by omega))) (by kernel_rfl)) <| pkq (iN (i + 1)) <| et_ ?_
      refine ⟨⟨i + 1, F3, (pT gx 0), (.bool true), (pT b_ (o_ + i * 2)), (.agg x.c), (pT b 0), (pT gx 0), (.int .i64 x.h), (.int .i64 0), (pT b 0), (pT gx 1), (uN x.s), (.int .i64 0), (iN (i + 1)), by kernel_rfl, by omega, hge3, hV28, K29⟩, ?_⟩
      exact lt_meas (x := l.length - (i + 1)) (y := l.length - i) (by kernel_rfl) (by kernel_rfl) (by omega)
    · have eq_i : i = l.length := by omega
      refine qr_ [0] <| ppq (.bool false) (dcf ((((i : Nat) : Int)) < (((l.length : Nat) : Int))) (by omega)) <| eq_ <| n_ <| sy_exit 0 (by kernel_rfl) <| then_e <| then_e <| blk_e <| tqr_ [0, 1, 2, 3, 4, 5] <| pkq (pT b 0) ?_
      have hK9 := K12.size
      refine pcq 38 #[pT b 0] Tryz.func38 ((Wr.done h11).mono ?_)
      rintro e V31 ⟨X, rfl, ⟨hX, hXn⟩, kV31⟩
      refine ⟨_, rfl, ?_⟩
      have K32 := K12.nn kV31
      have z33 := kV31.size
      refine pkq (X) <| pkq (.int .i64 0) <| pkq (X) <| pkq (.int .i64 0) <| eu_ <| so_ (.tuple #[X, .int .i64 0]) ?_
      exact ⟨X, by rw [nbytes_ok hc], by rw [nbytes_ok hc, ← nbi_all, ← eq_i]; exact hX, fun j hj => Nat.le_trans hK9 (hXn j hj), K32⟩
theorem nBytes_all (l : List Nt) (v : Value) (w : World) (hl : Sl w 2 Nt.cl v l) (het : ErrTab w) : Calls Tryz.prog 11 #[v] w (fun e w' => ∃ X, e = .returned (.tuple #[X, .int .i64 (nbytes l).2]) ∧ Row w' 5 1 X (nbytes l).1.length (B (nbytes l).1) ∧ NewFrom w.heap.size X ∧ Keeps Nob w w') := by
  by_cases hc : (ncheck l).1 = 0
  · exact nBytes_ok l v w hl hc het
  · exact nBytes_bad l v w hl _ rfl hc het
end Go.Proofs.YtghohakbepeffaaGreatDoor
namespace Go.Proofs.YtghohakbepeffaaGreatDoor
set_option maxRecDepth 100000
set_option maxHeartbeats 4000000
open Go Go.RowKit Go.Own Go.Shelf
theorem exec_cut {o : Oper} {ρ : Operand → Value} {w : World} (x y : Operand) (ho : o.op = .slice 23 x (some y) none none) (A : Option Addr) (n cap k : Nat) (hx : ρ x = .slice A n cap) (hy : ρ y = .int .i64 (k : Int)) (hk : k ≤ n) :
    (execOp ρ o).run Tryz.prog w = .ok (.value (cutV A n cap k)) w := by
  have hc := run_cut (P := Tryz.prog) (t := 23) rfl bytes_size A n cap k hk w
  unfold execOp
  simp only [ho, hx, hy, Option.map_some, Option.map_none, Sem.run_bind, hc, Result.andThen_ok, Sem.run_pure]
/-- What is read: as the func told it, or nothing. -/
def RdVal (s : RS) (er : Int) (PX : World → Value → Prop) (z : Value) (w : World) (V : Value) : Prop := (s.err = 0 ∧ er = 0 ∧ PX w V) ∨ (¬ (s.err = 0 ∧ er = 0) ∧ V = z)
/-- The state behind a read. -/
def RS.read (s : RS) (k : Nat) (er : Int) : RS := if s.err = 0 then (if er = 0 then ⟨0, s.pos + k⟩ else ⟨er, s.pos⟩) else s
noncomputable def opsreadU : Array Oper := opsOf Tryz.f75 4
theorem readU_core (f : FuncId) (caps : Array Value) (hent : ∀ args w, (callFunc f args).run Tryz.prog w = .ok (.enter f args) w) (b : Nat) (v fp : Value) (l : List UInt8) (s : RS) (w : World) (h : RdAt w b v fp l s) (k : Nat) (er : Int) (PX : World → Value → Prop)
    (HF0 : s.err = 0 → ∀ W A cap, v = .slice A l.length cap → Keeps Nob w W → Calls Tryz.prog f (#[cutV A l.length cap s.pos.toNat] ++ caps) W fun e W' => ∃ X, e = .returned (.tuple #[X, .int .i64 (k : Int), .int .i64 er]) ∧ PX W' X ∧ Keeps Nob W W')
    (hPX : ∀ W W' X, PX W X → Keeps (One b) W W' → PX W' X) (hk0 : s.err = 0 → er = 0 → s.pos + k ≤ l.length) :
    Calls Tryz.prog 75 #[.pointer (some ⟨b, 0, none⟩), .func (.func f) #[] caps] w fun e w' => ∃ V, e = .returned V ∧ RdVal s er PX (.int .u64 0) w' V ∧ (∃ fp', RdAt w' b v fp' l (s.read k er) ∧ NewPtr w fp fp') ∧ Keeps (One b) w w' := by
  have H := Lib.hid h
  have HN := Lib.hid (rnone_ok b v fp l s w h)
  have hll := h.bytes.length_le
  obtain ⟨A, cap, rfl⟩ := h.bytes.len
  obtain ⟨at_, hb, hl, hf⟩ := h.ex
  have hlt := h.lt
  have c3 : w.cell? ⟨b, 3, none⟩ = some fp := (cell_of_row w b 3 _ _ _ hb).trans rfl
  have HBK := Lib.hid hb
  have HPX := Lib.hid hPX
  clear h hb hPX
  rcases hf with ⟨h0, hp, rfl⟩ | ⟨h0, g, rfl, hg, hc⟩
  · have hpn : s.pos.toNat = at_ := by omega
    have HF := HF0 h0
    have hk := hk0 h0
    rw [hpn] at HF
    have e1 : s.read k er = if er = 0 then ⟨0, s.pos + k⟩ else ⟨er, s.pos⟩ := by unfold RS.read; rw [if_pos h0]
    rw [e1]
    have HFH := Lib.hid (fun W => HF W A cap rfl)
    have HP := Lib.hid hp
    have H0 := Lib.hid h0
    have HK := Lib.hid hk
    clear e1 HF hpn hp h0 hk HF0 hk0
    go_enter Tryz.func75, Tryz.ntmps75
    go_wp2_with (go_at_call 74; refine HN.out.mono ?_; rintro e w' ⟨rfl, rfl⟩)
    refine wp_region_noPanic <| region_named (R := opsreadU) (by kernel_rfl) <| wp_regionH_fuel (fun W => Keeps Nob w W) 18 #[false, false, false, false, false, false, false, false, false, false, false, false, false, false, false, false, false, false] (by kernel_rfl) (by kernel_rfl) rfl ?_
    have S0 : Keeps Nob w w.drew := (Keeps.refl _ _).drew
    have cb : ∀ W, Keeps Nob w W → W.heap[b]? = some (.cells #[.slice A l.length cap, .int .i64 (at_ : Int), .bool true, .pointer none] 109 (0, 0)) := fun W hW => (hW.block b hlt (fun x => x)).trans HBK.out
    refine wpAnyH_val (i := 0) (opsreadU.getD 0 default) (.func (.func f) #[] caps) (by kernel_rfl) (fun _ _ _ _ _ h => h) (by kernel_rfl) (by kernel_rfl) (by kernel_rfl) (by kernel_rfl) (fun W hW => by kernel_rfl) S0 <| wpAnyH_val (i := 1) (opsreadU.getD 1 default) (.pointer (some ⟨b, 0, none⟩)) (by kernel_rfl) (fun _ _ _ _ _ h => h) (by kernel_rfl) (by kernel_rfl) (by kernel_rfl) (by kernel_rfl) (fun W hW => by kernel_rfl) S0 <| wpAnyH_val (i := 2) (opsreadU.getD 2 default) (.pointer (some ⟨b, 0, none⟩)) (by kernel_rfl) (fun _ _ _ _ _ h => h) (by kernel_rfl) (by kernel_rfl) (by kernel_rfl) (by kernel_rfl) (fun W hW => by kernel_rfl) S0 <| wpAnyH_val (i := 3) (opsreadU.getD 3 default) (.pointer (some ⟨b, 0, none⟩)) (by kernel_rfl) (fun _ _ _ _ _ h => h) (by kernel_rfl) (by kernel_rfl) (by kernel_rfl) (by kernel_rfl) (fun W hW => by kernel_rfl) S0 <| wpAnyH_val (i := 4) (opsreadU.getD 4 default) (.slice A l.length cap) (by kernel_rfl) (fun _ _ _ _ _ h => h) (by kernel_rfl) (by kernel_rfl) (by kernel_rfl) (by kernel_rfl) (fun W hW => exec_load_cell 23 (.tmp 23) (by kernel_rfl) ⟨b, 0, none⟩ (by kernel_rfl) _ _ Tryz.underlying23 rfl ((cell_of_row W b 0 _ _ _ (cb W hW)).trans rfl)) S0 <| wpAnyH_val (i := 5) (opsreadU.getD 5 default) (.pointer (some ⟨b, 0, none⟩)) (by kernel_rfl) (fun _ _ _ _ _ h => h) (by kernel_rfl) (by kernel_rfl) (by kernel_rfl) (by kernel_rfl) (fun W hW => by kernel_rfl) S0 <| wpAnyH_val (i := 6) (opsreadU.getD 6 default) (.pointer (some ⟨b, 0, none⟩)) (by kernel_rfl) (fun _ _ _ _ _ h => h) (by kernel_rfl) (by kernel_rfl) (by kernel_rfl) (by kernel_rfl) (fun W hW => by kernel_rfl) S0 <| wpAnyH_val (i := 7) (opsreadU.getD 7 default) (.pointer (some ⟨b, 1, none⟩)) (by kernel_rfl) (fun _ _ _ _ _ h => h) (by kernel_rfl) (by kernel_rfl) (by kernel_rfl) (by kernel_rfl) (fun W hW => by kernel_rfl) S0 <| wpAnyH_val (i := 8) (opsreadU.getD 8 default) (.int .i64 (at_ : Int)) (by kernel_rfl) (fun _ _ _ _ _ h => h) (by kernel_rfl) (by kernel_rfl) (by kernel_rfl) (by kernel_rfl) (fun W hW => exec_load_cell 3 (.tmp 27) (by kernel_rfl) ⟨b, 1, none⟩ (by kernel_rfl) _ _ Tryz.underlying3 rfl ((cell_of_row W b 1 _ _ _ (cb W hW)).trans rfl)) S0 <| wpAnyH_val (i := 9) (opsreadU.getD 9 default) (cutV A l.length cap at_) (by kernel_rfl) (fun _ _ _ _ _ h => h) (by kernel_rfl) (by kernel_rfl) (by kernel_rfl) (by kernel_rfl) (fun W hW => exec_cut (.tmp 24) (.tmp 28) (by kernel_rfl) A l.length cap at_ (by kernel_rfl) (by kernel_rfl) hl) S0 ?_
    refine wpAnyH_callV (i := 10) (opsreadU.getD 10 default) (.tmp 20) f caps (#[cutV A l.length cap at_] ++ caps) (by kernel_rfl) (by kernel_rfl) (by kernel_rfl) (by kernel_rfl) (by kernel_rfl) (by kernel_rfl) hent ((HFH.out _ S0).mono ?_)
    rintro e W1 ⟨X, rfl, hX, k1⟩
    have S1 : Keeps Nob w W1 := S0.trans k1
    refine ⟨_, rfl, S1, ?_⟩
    refine wpAnyH_run (i := 11) (opsreadU.getD 11 default) (.tuple #[X, .int .i64 (k : Int), .int .i64 er]) (w' := W1) (by kernel_rfl) (by kernel_rfl) (by kernel_rfl) (.inl (by kernel_rfl)) S1 <| wpAnyH_val (i := 12) (opsreadU.getD 12 default) (X) (by kernel_rfl) (fun _ _ _ _ _ h => h) (by kernel_rfl) (by kernel_rfl) (by kernel_rfl) (by kernel_rfl) (fun W hW => by kernel_rfl) S1 <| wpAnyH_val (i := 13) (opsreadU.getD 13 default) (.int .i64 (k : Int)) (by kernel_rfl) (fun _ _ _ _ _ h => h) (by kernel_rfl) (by kernel_rfl) (by kernel_rfl) (by kernel_rfl) (fun W hW => by kernel_rfl) S1 <| wpAnyH_val (i := 14) (opsreadU.getD 14 default) (.int .i64 er) (by kernel_rfl) (fun _ _ _ _ _ h => h) (by kernel_rfl) (by kernel_rfl) (by kernel_rfl) (by kernel_rfl) (fun W hW => by kernel_rfl) S1 <| wpAnyH_run (i := 15) (opsreadU.getD 15 default) (X) (w' := W1) (by kernel_rfl) (by kernel_rfl) (by kernel_rfl) (.inl (by kernel_rfl)) S1 <| wpAnyH_run (i := 16) (opsreadU.getD 16 default) (.int .i64 (k : Int)) (w' := W1) (by kernel_rfl) (by kernel_rfl) (by kernel_rfl) (.inl (by kernel_rfl)) S1 <| wpAnyH_run (i := 17) (opsreadU.getD 17 default) (.int .i64 er) (w' := W1) (by kernel_rfl) (by kernel_rfl) (by kernel_rfl) (.inl (by kernel_rfl)) S1 ?_
    refine wpAnyH_done (by kernel_rfl) ?_ _
    refine NoPanic.normal <| state_eq (b := ⟨#[.pointer (some ⟨b, 0, none⟩), .func (.func f) #[] caps, ud, ud, .int .u64 0, .int .u64 0, X, .int .i64 (k : Int), .int .i64 er, .pointer (some ⟨b, 0, none⟩), .bool false, .bool false, .pointer (some ⟨b, 0, none⟩), .pointer (some ⟨b, 0, none⟩), .pointer (some ⟨b, 3, none⟩), .pointer none, .bool false, .bool false, ud, .tuple #[X, .int .i64 (k : Int), .int .i64 er], .func (.func f) #[] caps, .pointer (some ⟨b, 0, none⟩), .pointer (some ⟨b, 0, none⟩), .pointer (some ⟨b, 0, none⟩), .slice A l.length cap, .pointer (some ⟨b, 0, none⟩), .pointer (some ⟨b, 0, none⟩), .pointer (some ⟨b, 1, none⟩), .int .i64 (at_ : Int), cutV A l.length cap at_, .tuple #[X, .int .i64 (k : Int), .int .i64 er], X, .int .i64 (k : Int), .int .i64 er, ud, ud, ud, ud, ud, ud, ud, ud, ud, ud, ud, ud, ud, ud, ud, ud, ud, ud, ud], []⟩) (by kernel_rfl) ?_
    have HX := Lib.hid hX
    have hbW := cb W1 S1
    have a1 : W1.cell? ⟨b, 1, none⟩ = some (.int .i64 (at_ : Int)) := (cell_of_row W1 b 1 _ _ _ hbW).trans rfl
    have a2 : W1.frozen? ⟨b, 1, none⟩ = false := frozen_of_row W1 b 1 _ _ hbW
    have HBW := Lib.hid hbW
    clear cb hX hbW
    generalize cutV A l.length cap at_ = cv at *
    by_cases he : er = 0
    · subst he
      have hkk := HK.out rfl
      rw [HP.out] at hkk
      go_wp2_with fail
      go_ret
      try simp only [if_true]
      have hkS : Keeps (One b) W1 (W1.setCell ⟨b, 1, none⟩ (.int .i64 ((at_ : Int) + k))) := (Keeps.refl _ _).setOne _
      have hkw : Keeps (One b) w (W1.setCell ⟨b, 1, none⟩ (.int .i64 ((at_ : Int) + k))) := (S1.mono (fun _ _ x => x.elim)).trans hkS
      refine ⟨_, rfl, .inl ⟨H0.out, rfl, HPX.out _ _ _ HX.out hkS⟩, ⟨.pointer none, ⟨⟨at_ + k, ?_, by omega, .inl ⟨rfl, by rw [HP.out]; simp, rfl⟩⟩, H.out.bytes.keeps hkw (fun j hj (e : j = b) => H.out.own (by rw [hj, e])), H.out.own⟩, .inl rfl⟩, hkw⟩
      rw [show (((at_ + k : Nat)) : Int) = (at_ : Int) + k by omega]
      exact heap_setCell_same W1 b 1 _ _ _ HBW.out
    · have hb : (er != 0) = true := by simpa using he
      have HFa := Lib.hid (rFail_ok b (.slice A l.length cap) (.pointer none) l s er (at_ : Int) W1 (H.out.keeps S1 (fun _ _ x => x)))
      have hs : s.fail er (at_ : Int) = ⟨er, s.pos⟩ := by unfold RS.fail; rw [if_pos ⟨H0.out, he⟩, HP.out]
      rw [hs] at HFa
      have HE := Lib.hid he
      clear hs he
      go_wp2_with (go_at_call 44; refine HFa.out.mono ?_; rintro e w' ⟨⟨r, rfl⟩, ⟨fp', h1, h2⟩, h3⟩; have H1 := Lib.hid h1; have H2 := Lib.hid h2; clear h1 h2)
      go_ret
      try simp only [if_neg HE.out]
      refine ⟨_, rfl, .inr ⟨fun h => HE.out h.2, rfl⟩, ⟨fp', H1.out, ?_⟩, (S1.mono (fun _ _ x => x.elim)).trans h3⟩
      rcases H2.out with h | ⟨g, h, hg⟩
      · exact .inl h
      · exact .inr ⟨g, h, Nat.le_trans S1.size hg⟩
  · have e1 : s.read k er = s := by unfold RS.read; rw [if_neg h0]
    rw [e1]
    have HE := Lib.hid h0
    clear e1 h0 hc HF0 hk0
    go_enter Tryz.func75, Tryz.ntmps75
    go_wp2_with (go_at_call 74; refine HN.out.mono ?_; rintro e w' ⟨rfl, rfl⟩)
    go_ret
    exact ⟨_, rfl, .inr ⟨fun h => HE.out h.1, rfl⟩, ⟨_, H.out, .inl rfl⟩, Keeps.refl _ _⟩
noncomputable def opsreadI : Array Oper := opsOf Tryz.f71 4
theorem readI_core (f : FuncId) (caps : Array Value) (hent : ∀ args w, (callFunc f args).run Tryz.prog w = .ok (.enter f args) w) (b : Nat) (v fp : Value) (l : List UInt8) (s : RS) (w : World) (h : RdAt w b v fp l s) (k : Nat) (er : Int) (PX : World → Value → Prop)
    (HF0 : s.err = 0 → ∀ W A cap, v = .slice A l.length cap → Keeps Nob w W → Calls Tryz.prog f (#[cutV A l.length cap s.pos.toNat] ++ caps) W fun e W' => ∃ X, e = .returned (.tuple #[X, .int .i64 (k : Int), .int .i64 er]) ∧ PX W' X ∧ Keeps Nob W W')
    (hPX : ∀ W W' X, PX W X → Keeps (One b) W W' → PX W' X) (hk0 : s.err = 0 → er = 0 → s.pos + k ≤ l.length) :
    Calls Tryz.prog 71 #[.pointer (some ⟨b, 0, none⟩), .func (.func f) #[] caps] w fun e w' => ∃ V, e = .returned V ∧ RdVal s er PX (.int .i64 0) w' V ∧ (∃ fp', RdAt w' b v fp' l (s.read k er) ∧ NewPtr w fp fp') ∧ Keeps (One b) w w' := by
  have H := Lib.hid h
  have HN := Lib.hid (rnone_ok b v fp l s w h)
  have hll := h.bytes.length_le
  obtain ⟨A, cap, rfl⟩ := h.bytes.len
  obtain ⟨at_, hb, hl, hf⟩ := h.ex
  have hlt := h.lt
  have c3 : w.cell? ⟨b, 3, none⟩ = some fp := (cell_of_row w b 3 _ _ _ hb).trans rfl
  have HBK := Lib.hid hb
  have HPX := Lib.hid hPX
  clear h hb hPX
  rcases hf with ⟨h0, hp, rfl⟩ | ⟨h0, g, rfl, hg, hc⟩
  · have hpn : s.pos.toNat = at_ := by omega
    have HF := HF0 h0
    have hk := hk0 h0
    rw [hpn] at HF
    have e1 : s.read k er = if er = 0 then ⟨0, s.pos + k⟩ else ⟨er, s.pos⟩ := by unfold RS.read; rw [if_pos h0]
    rw [e1]
    have HFH := Lib.hid (fun W => HF W A cap rfl)
    have HP := Lib.hid hp
    have H0 := Lib.hid h0
    have HK := Lib.hid hk
    clear e1 HF hpn hp h0 hk HF0 hk0
    go_enter Tryz.func71, Tryz.ntmps71
    go_wp2_with (go_at_call 74; refine HN.out.mono ?_; rintro e w' ⟨rfl, rfl⟩)
    refine wp_region_noPanic <| region_named (R := opsreadI) (by kernel_rfl) <| wp_regionH_fuel (fun W => Keeps Nob w W) 18 #[false, false, false, false, false, false, false, false, false, false, false, false, false, false, false, false, false, false] (by kernel_rfl) (by kernel_rfl) rfl ?_
    have S0 : Keeps Nob w w.drew := (Keeps.refl _ _).drew
    have cb : ∀ W, Keeps Nob w W → W.heap[b]? = some (.cells #[.slice A l.length cap, .int .i64 (at_ : Int), .bool true, .pointer none] 109 (0, 0)) := fun W hW => (hW.block b hlt (fun x => x)).trans HBK.out
    refine wpAnyH_val (i := 0) (opsreadI.getD 0 default) (.func (.func f) #[] caps) (by kernel_rfl) (fun _ _ _ _ _ h => h) (by kernel_rfl) (by kernel_rfl) (by kernel_rfl) (by kernel_rfl) (fun W hW => by kernel_rfl) S0 <| wpAnyH_val (i := 1) (opsreadI.getD 1 default) (.pointer (some ⟨b, 0, none⟩)) (by kernel_rfl) (fun _ _ _ _ _ h => h) (by kernel_rfl) (by kernel_rfl) (by kernel_rfl) (by kernel_rfl) (fun W hW => by kernel_rfl) S0 <| wpAnyH_val (i := 2) (opsreadI.getD 2 default) (.pointer (some ⟨b, 0, none⟩)) (by kernel_rfl) (fun _ _ _ _ _ h => h) (by kernel_rfl) (by kernel_rfl) (by kernel_rfl) (by kernel_rfl) (fun W hW => by kernel_rfl) S0 <| wpAnyH_val (i := 3) (opsreadI.getD 3 default) (.pointer (some ⟨b, 0, none⟩)) (by kernel_rfl) (fun _ _ _ _ _ h => h) (by kernel_rfl) (by kernel_rfl) (by kernel_rfl) (by kernel_rfl) (fun W hW => by kernel_rfl) S0 <| wpAnyH_val (i := 4) (opsreadI.getD 4 default) (.slice A l.length cap) (by kernel_rfl) (fun _ _ _ _ _ h => h) (by kernel_rfl) (by kernel_rfl) (by kernel_rfl) (by kernel_rfl) (fun W hW => exec_load_cell 23 (.tmp 23) (by kernel_rfl) ⟨b, 0, none⟩ (by kernel_rfl) _ _ Tryz.underlying23 rfl ((cell_of_row W b 0 _ _ _ (cb W hW)).trans rfl)) S0 <| wpAnyH_val (i := 5) (opsreadI.getD 5 default) (.pointer (some ⟨b, 0, none⟩)) (by kernel_rfl) (fun _ _ _ _ _ h => h) (by kernel_rfl) (by kernel_rfl) (by kernel_rfl) (by kernel_rfl) (fun W hW => by kernel_rfl) S0 <| wpAnyH_val (i := 6) (opsreadI.getD 6 default) (.pointer (some ⟨b, 0, none⟩)) (by kernel_rfl) (fun _ _ _ _ _ h => h) (by kernel_rfl) (by kernel_rfl) (by kernel_rfl) (by kernel_rfl) (fun W hW => by kernel_rfl) S0 <| wpAnyH_val (i := 7) (opsreadI.getD 7 default) (.pointer (some ⟨b, 1, none⟩)) (by kernel_rfl) (fun _ _ _ _ _ h => h) (by kernel_rfl) (by kernel_rfl) (by kernel_rfl) (by kernel_rfl) (fun W hW => by kernel_rfl) S0 <| wpAnyH_val (i := 8) (opsreadI.getD 8 default) (.int .i64 (at_ : Int)) (by kernel_rfl) (fun _ _ _ _ _ h => h) (by kernel_rfl) (by kernel_rfl) (by kernel_rfl) (by kernel_rfl) (fun W hW => exec_load_cell 3 (.tmp 27) (by kernel_rfl) ⟨b, 1, none⟩ (by kernel_rfl) _ _ Tryz.underlying3 rfl ((cell_of_row W b 1 _ _ _ (cb W hW)).trans rfl)) S0 <| wpAnyH_val (i := 9) (opsreadI.getD 9 default) (cutV A l.length cap at_) (by kernel_rfl) (fun _ _ _ _ _ h => h) (by kernel_rfl) (by kernel_rfl) (by kernel_rfl) (by kernel_rfl) (fun W hW => exec_cut (.tmp 24) (.tmp 28) (by kernel_rfl) A l.length cap at_ (by kernel_rfl) (by kernel_rfl) hl) S0 ?_
    refine wpAnyH_callV (i := 10) (opsreadI.getD 10 default) (.tmp 20) f caps (#[cutV A l.length cap at_] ++ caps) (by kernel_rfl) (by kernel_rfl) (by kernel_rfl) (by kernel_rfl) (by kernel_rfl) (by kernel_rfl) hent ((HFH.out _ S0).mono ?_)
    rintro e W1 ⟨X, rfl, hX, k1⟩
    have S1 : Keeps Nob w W1 := S0.trans k1
    refine ⟨_, rfl, S1, ?_⟩
    refine wpAnyH_run (i := 11) (opsreadI.getD 11 default) (.tuple #[X, .int .i64 (k : Int), .int .i64 er]) (w' := W1) (by kernel_rfl) (by kernel_rfl) (by kernel_rfl) (.inl (by kernel_rfl)) S1 <| wpAnyH_val (i := 12) (opsreadI.getD 12 default) (X) (by kernel_rfl) (fun _ _ _ _ _ h => h) (by kernel_rfl) (by kernel_rfl) (by kernel_rfl) (by kernel_rfl) (fun W hW => by kernel_rfl) S1 <| wpAnyH_val (i := 13) (opsreadI.getD 13 default) (.int .i64 (k : Int)) (by kernel_rfl) (fun _ _ _ _ _ h => h) (by kernel_rfl) (by kernel_rfl) (by kernel_rfl) (by kernel_rfl) (fun W hW => by kernel_rfl) S1 <| wpAnyH_val (i := 14) (opsreadI.getD 14 default) (.int .i64 er) (by kernel_rfl) (fun _ _ _ _ _ h => h) (by kernel_rfl) (by kernel_rfl) (by kernel_rfl) (by kernel_rfl) (fun W hW => by kernel_rfl) S1 <| wpAnyH_run (i := 15) (opsreadI.getD 15 default) (X) (w' := W1) (by kernel_rfl) (by kernel_rfl) (by kernel_rfl) (.inl (by kernel_rfl)) S1 <| wpAnyH_run (i := 16) (opsreadI.getD 16 default) (.int .i64 (k : Int)) (w' := W1) (by kernel_rfl) (by kernel_rfl) (by kernel_rfl) (.inl (by kernel_rfl)) S1 <| wpAnyH_run (i := 17) (opsreadI.getD 17 default) (.int .i64 er) (w' := W1) (by kernel_rfl) (by kernel_rfl) (by kernel_rfl) (.inl (by kernel_rfl)) S1 ?_
    refine wpAnyH_done (by kernel_rfl) ?_ _
    refine NoPanic.normal <| state_eq (b := ⟨#[.pointer (some ⟨b, 0, none⟩), .func (.func f) #[] caps, ud, ud, .int .i64 0, .int .i64 0, X, .int .i64 (k : Int), .int .i64 er, .pointer (some ⟨b, 0, none⟩), .bool false, .bool false, .pointer (some ⟨b, 0, none⟩), .pointer (some ⟨b, 0, none⟩), .pointer (some ⟨b, 3, none⟩), .pointer none, .bool false, .bool false, ud, .tuple #[X, .int .i64 (k : Int), .int .i64 er], .func (.func f) #[] caps, .pointer (some ⟨b, 0, none⟩), .pointer (some ⟨b, 0, none⟩), .pointer (some ⟨b, 0, none⟩), .slice A l.length cap, .pointer (some ⟨b, 0, none⟩), .pointer (some ⟨b, 0, none⟩), .pointer (some ⟨b, 1, none⟩), .int .i64 (at_ : Int), cutV A l.length cap at_, .tuple #[X, .int .i64 (k : Int), .int .i64 er], X, .int .i64 (k : Int), .int .i64 er, ud, ud, ud, ud, ud, ud, ud, ud, ud, ud, ud, ud, ud, ud, ud, ud, ud, ud, ud], []⟩) (by kernel_rfl) ?_
    have HX := Lib.hid hX
    have hbW := cb W1 S1
    have a1 : W1.cell? ⟨b, 1, none⟩ = some (.int .i64 (at_ : Int)) := (cell_of_row W1 b 1 _ _ _ hbW).trans rfl
    have a2 : W1.frozen? ⟨b, 1, none⟩ = false := frozen_of_row W1 b 1 _ _ hbW
    have HBW := Lib.hid hbW
    clear cb hX hbW
    generalize cutV A l.length cap at_ = cv at *
    by_cases he : er = 0
    · subst he
      have hkk := HK.out rfl
      rw [HP.out] at hkk
      go_wp2_with fail
      go_ret
      try simp only [if_true]
      have hkS : Keeps (One b) W1 (W1.setCell ⟨b, 1, none⟩ (.int .i64 ((at_ : Int) + k))) := (Keeps.refl _ _).setOne _
      have hkw : Keeps (One b) w (W1.setCell ⟨b, 1, none⟩ (.int .i64 ((at_ : Int) + k))) := (S1.mono (fun _ _ x => x.elim)).trans hkS
      refine ⟨_, rfl, .inl ⟨H0.out, rfl, HPX.out _ _ _ HX.out hkS⟩, ⟨.pointer none, ⟨⟨at_ + k, ?_, by omega, .inl ⟨rfl, by rw [HP.out]; simp, rfl⟩⟩, H.out.bytes.keeps hkw (fun j hj (e : j = b) => H.out.own (by rw [hj, e])), H.out.own⟩, .inl rfl⟩, hkw⟩
      rw [show (((at_ + k : Nat)) : Int) = (at_ : Int) + k by omega]
      exact heap_setCell_same W1 b 1 _ _ _ HBW.out
    · have hb : (er != 0) = true := by simpa using he
      have HFa := Lib.hid (rFail_ok b (.slice A l.length cap) (.pointer none) l s er (at_ : Int) W1 (H.out.keeps S1 (fun _ _ x => x)))
      have hs : s.fail er (at_ : Int) = ⟨er, s.pos⟩ := by unfold RS.fail; rw [if_pos ⟨H0.out, he⟩, HP.out]
      rw [hs] at HFa
      have HE := Lib.hid he
      clear hs he
      go_wp2_with (go_at_call 44; refine HFa.out.mono ?_; rintro e w' ⟨⟨r, rfl⟩, ⟨fp', h1, h2⟩, h3⟩; have H1 := Lib.hid h1; have H2 := Lib.hid h2; clear h1 h2)
      go_ret
      try simp only [if_neg HE.out]
      refine ⟨_, rfl, .inr ⟨fun h => HE.out h.2, rfl⟩, ⟨fp', H1.out, ?_⟩, (S1.mono (fun _ _ x => x.elim)).trans h3⟩
      rcases H2.out with h | ⟨g, h, hg⟩
      · exact .inl h
      · exact .inr ⟨g, h, Nat.le_trans S1.size hg⟩
  · have e1 : s.read k er = s := by unfold RS.read; rw [if_neg h0]
    rw [e1]
    have HE := Lib.hid h0
    clear e1 h0 hc HF0 hk0
    go_enter Tryz.func71, Tryz.ntmps71
    go_wp2_with (go_at_call 74; refine HN.out.mono ?_; rintro e w' ⟨rfl, rfl⟩)
    go_ret
    exact ⟨_, rfl, .inr ⟨fun h => HE.out h.1, rfl⟩, ⟨_, H.out, .inl rfl⟩, Keeps.refl _ _⟩
end Go.Proofs.YtghohakbepeffaaGreatDoor
namespace Go.Proofs.YtghohakbepeffaaGreatDoor
set_option maxRecDepth 100000
set_option maxHeartbeats 4000000
open Go Go.RowKit Go.Own Go.Shelf
/-- The number that stands at a reader's place. -/
def RS.num (s : RS) (l : List UInt8) : Nat × Nat × Int := Cod.num (l.drop s.pos.toNat)
theorem RS.num_le (s : RS) (l : List UInt8) (h0 : 0 ≤ s.pos) (hl : s.pos ≤ l.length) (he : (s.num l).2.2 = 0) : s.pos + (s.num l).2.1 ≤ l.length := by
  have := (Cod.num_ok _ he).2.2.1
  rw [List.length_drop] at this
  unfold RS.num
  omega
theorem RdAt.pos {w : World} {b : Nat} {v fp : Value} {l : List UInt8} {s : RS} (h : RdAt w b v fp l s) (h0 : s.err = 0) : 0 ≤ s.pos ∧ s.pos ≤ l.length := by
  obtain ⟨at_, hb, hl, hf⟩ := h.ex
  rcases hf with ⟨_, hp, _⟩ | ⟨h1, _⟩
  · omega
  · exact absurd h0 h1
/-- U: what is told, and the state behind. -/
def rdU (l : List UInt8) (s : RS) : Int × RS := (if s.err = 0 ∧ (s.num l).2.2 = 0 then ((s.num l).1 : Int) else 0, s.read (s.num l).2.1 (s.num l).2.2)
theorem rU_ok (b : Nat) (v fp : Value) (l : List UInt8) (s : RS) (w : World) (h : RdAt w b v fp l s) :
    Calls Tryz.prog 45 #[.pointer (some ⟨b, 0, none⟩)] w fun e w' => e = .returned (.int .u64 (rdU l s).1) ∧ (∃ fp', RdAt w' b v fp' l (rdU l s).2 ∧ NewPtr w fp fp') ∧ Keeps (One b) w w' := by
  have HC := Lib.hid (readU_core 73 #[] (enters_of Tryz.func73 (by kernel_rfl) rfl) b v fp l s w h (s.num l).2.1 (s.num l).2.2 (fun _ X => X = .int .u64 ((s.num l).1 : Int))
    (fun h0 W A cap hv hW => by
      subst hv
      refine (number_ok _ _ W ((h.bytes.drop s.pos.toNat (by have := h.pos h0; omega) _ _ _ rfl).keepsN hW)).mono ?_
      rintro e W' ⟨rfl, rfl⟩
      exact ⟨_, rfl, rfl, Keeps.refl _ _⟩)
    (fun _ _ _ h _ => h) (fun h0 he => s.num_le l (h.pos h0).1 (h.pos h0).2 he))
  clear h
  go_enter Tryz.func45, Tryz.ntmps45
  go_wp2_with (go_at_call 75; refine HC.out.mono ?_; rintro e w' ⟨V, rfl, h1, h2, h3⟩; have H1 := Lib.hid h1; have H2 := Lib.hid h2; clear h1 h2)
  go_ret
  unfold rdU
  refine ⟨?_, H2.out, h3⟩
  rcases H1.out with ⟨a, b, rfl⟩ | ⟨a, rfl⟩
  · rw [if_pos ⟨a, b⟩]; rfl
  · rw [if_neg a]; rfl
/-- Is a number out of bounds? -/
def outN (n : Nat) (least most : Int) : Prop := most < 0 ∨ most < (n : Int) ∨ (0 < least ∧ (n : Int) < least)
instance (n : Nat) (least most : Int) : Decidable (outN n least most) := by unfold outN; infer_instance
def errN (r : Nat × Nat × Int) (least most : Int) : Int := if r.2.2 = 0 ∧ outN r.1 least most then 3 else r.2.2
theorem rN1_ok (v : Value) (l : List UInt8) (least most : Int) (b1 b2 : Nat) (w : World) (hv : BytesAt w v l) (h1 : w.cell? ⟨b1, 0, none⟩ = some (.int .i64 most)) (h2 : w.cell? ⟨b2, 0, none⟩ = some (.int .i64 least))
   (m1 : -9223372036854775808 ≤ most ∧ most ≤ 9223372036854775807) (m2 : -9223372036854775808 ≤ least ∧ least ≤ 9223372036854775807) :
    Calls Tryz.prog 72 #[v, .pointer (some ⟨b1, 0, none⟩), .pointer (some ⟨b2, 0, none⟩)] w fun e w' => e = .returned (.tuple #[.int .i64 (wrap64 ((Cod.num l).1 : Int)), .int .i64 ((Cod.num l).2.1 : Int), .int .i64 (errN (Cod.num l) least most)]) ∧ w = w' := by
  have HN := Lib.hid (number_ok v l w hv)
  have hn64 : (Cod.num l).2.2 = 0 → (Cod.num l).1 < 18446744073709551616 := fun h => by have := (Cod.num_ok l h).1; simpa using this
  clear hv
  obtain ⟨er, her⟩ : ∃ er, errN (Cod.num l) least most = er := ⟨_, rfl⟩
  rw [her]
  unfold errN outN at her
  generalize Cod.num l = r at *
  obtain ⟨n, k, e⟩ := r
  simp only at her hn64 HN ⊢
  obtain ⟨m1a, m1b⟩ := m1
  obtain ⟨m2a, m2b⟩ := m2
  by_cases he : e = 0
  · subst he
    have hn := hn64 rfl
    clear hn64
    by_cases a1 : most < 0
    · obtain rfl : er = 3 := by rw [← her, if_pos ⟨rfl, .inl a1⟩]
      clear her
      go_enter Tryz.func72, Tryz.ntmps72
      go_wp2_with (go_at_call 73; refine HN.out.mono ?_; rintro e w' ⟨rfl, rfl⟩)
      go_ret3
      exact ⟨rfl, rfl⟩
    · have d1 : decide (most < 0) = false := by simpa using a1
      have w1 : IntKind.u64.wrap most = most := by simp [IntKind.wrap, IntKind.bits, IntKind.signed]; omega
      by_cases a2 : most < (n : Int)
      · obtain rfl : er = 3 := by rw [← her, if_pos ⟨rfl, .inr (.inl a2)⟩]
        clear her
        have d2 : decide (most < (n : Int)) = true := by simpa using a2
        go_enter Tryz.func72, Tryz.ntmps72
        go_wp2_with (go_at_call 73; refine HN.out.mono ?_; rintro e w' ⟨rfl, rfl⟩)
        go_ret3
        exact ⟨rfl, rfl⟩
      · have d2 : decide (most < (n : Int)) = false := by simpa using a2
        rw [IntWalk.wrap64_in (n : Int) ⟨by omega, by omega⟩]
        by_cases a3 : 0 < least
        · have d3 : decide (0 < least) = true := by simpa using a3
          have w2 : IntKind.u64.wrap least = least := by simp [IntKind.wrap, IntKind.bits, IntKind.signed]; omega
          by_cases a4 : (n : Int) < least
          · obtain rfl : er = 3 := by rw [← her, if_pos ⟨rfl, .inr (.inr ⟨a3, a4⟩)⟩]
            clear her
            have d4 : decide ((n : Int) < least) = true := by simpa using a4
            go_enter Tryz.func72, Tryz.ntmps72
            go_wp2_with (go_at_call 73; refine HN.out.mono ?_; rintro e w' ⟨rfl, rfl⟩)
            go_ret3
            exact ⟨rfl, rfl⟩
          · obtain rfl : er = 0 := by rw [← her, if_neg (by omega)]
            clear her
            have d4 : decide ((n : Int) < least) = false := by simpa using a4
            go_enter Tryz.func72, Tryz.ntmps72
            go_wp2_with (go_at_call 73; refine HN.out.mono ?_; rintro e w' ⟨rfl, rfl⟩)
            go_ret3
            exact ⟨rfl, rfl⟩
        · obtain rfl : er = 0 := by rw [← her, if_neg (by omega)]
          clear her
          have d3 : decide (0 < least) = false := by simpa using a3
          go_enter Tryz.func72, Tryz.ntmps72
          go_wp2_with (go_at_call 73; refine HN.out.mono ?_; rintro e w' ⟨rfl, rfl⟩)
          go_ret3
          exact ⟨rfl, rfl⟩
  · obtain rfl : er = e := by rw [← her, if_neg (fun h => he h.1)]
    have hb : (er == 0) = false := by simpa using he
    clear her hn64
    go_enter Tryz.func72, Tryz.ntmps72
    go_wp2_with (go_at_call 73; refine HN.out.mono ?_; rintro e w' ⟨rfl, rfl⟩)
    go_ret3
    exact ⟨rfl, rfl⟩
/-- N: what is told, and the state behind. -/
def rdN (l : List UInt8) (s : RS) (least most : Int) : Int × RS := (if s.err = 0 ∧ errN (s.num l) least most = 0 then ((s.num l).1 : Int) else 0, s.read (s.num l).2.1 (errN (s.num l) least most))
theorem errN_zero {r : Nat × Nat × Int} {least most : Int} (h : errN r least most = 0) : r.2.2 = 0 ∧ 0 ≤ most ∧ (r.1 : Int) ≤ most ∧ (0 < least → least ≤ r.1) := by
  unfold errN outN at h
  split at h
  · omega
  · rename_i h1
    refine ⟨h, ?_⟩
    have h2 := fun x => h1 ⟨h, x⟩
    omega
theorem rN_ok (b : Nat) (v fp : Value) (l : List UInt8) (s : RS) (least most : Int) (w : World) (h : RdAt w b v fp l s)
   (m2 : -9223372036854775808 ≤ least ∧ least ≤ 9223372036854775807) (m1 : -9223372036854775808 ≤ most ∧ most ≤ 9223372036854775807) :
    Calls Tryz.prog 42 #[.pointer (some ⟨b, 0, none⟩), .int .i64 least, .int .i64 most] w fun e w' => e = .returned (.int .i64 (rdN l s least most).1) ∧ (∃ fp', RdAt w' b v fp' l (rdN l s least most).2 ∧ NewPtr w fp fp') ∧ Keeps (One b) w w' := by
  have hkA : Keeps Nob w ((w.alloc (.cells #[.int .i64 least] 3)).alloc (.cells #[.int .i64 most] 3)) := ((Keeps.refl _ _).alloc _).alloc _
  have c1 : ((w.alloc (.cells #[.int .i64 least] 3)).alloc (.cells #[.int .i64 most] 3)).cell? ⟨w.heap.size + 1, 0, none⟩ = some (.int .i64 most) := (World.cell?_alloc_at _ _ _ _ (by simp)).trans rfl
  have c2 : ((w.alloc (.cells #[.int .i64 least] 3)).alloc (.cells #[.int .i64 most] 3)).cell? ⟨w.heap.size, 0, none⟩ = some (.int .i64 least) := (World.cell?_alloc_lt _ _ _ (by simp)).trans ((World.cell?_alloc_at _ _ _ _ rfl).trans rfl)
  have hb1 : w.heap.size + 1 < ((w.alloc (.cells #[.int .i64 least] 3)).alloc (.cells #[.int .i64 most] 3)).heap.size := by simp
  have hA := h.keeps hkA (fun _ _ x => x)
  have HC := Lib.hid (readI_core 72 #[.pointer (some ⟨w.heap.size + 1, 0, none⟩), .pointer (some ⟨w.heap.size, 0, none⟩)] (enters_of Tryz.func72 (by kernel_rfl) rfl) b v fp l s _ hA (s.num l).2.1 (errN (s.num l) least most) (fun _ X => X = .int .i64 (wrap64 ((s.num l).1 : Int)))
    (fun h0 W A cap hv hW => by
      subst hv
      refine (rN1_ok _ _ least most _ _ W ((hA.bytes.drop s.pos.toNat (by have := hA.pos h0; omega) _ _ _ rfl).keepsN hW) ((hW.cell hb1 (fun x => x)).trans c1) ((hW.cell (by omega) (fun x => x)).trans c2) m1 m2).mono ?_
      rintro e W' ⟨rfl, rfl⟩
      exact ⟨_, rfl, rfl, Keeps.refl _ _⟩)
    (fun _ _ _ h _ => h) (fun h0 he => s.num_le l (h.pos h0).1 (h.pos h0).2 (errN_zero he).1))
  have HKA := Lib.hid hkA
  clear h hA c1 c2 hb1 hkA
  have hmf : ∀ (fn : Fn) (first cap : Array Value) (w : World), (Instr.makeFunc fn first cap).run Tryz.prog w = .ok (.func fn first cap) w := fun _ _ _ _ => rfl
  obtain ⟨m1a, m1b⟩ := m1
  go_enter Tryz.func42, Tryz.ntmps42
  go_wp2_with (go_at_call 71; refine HC.out.mono ?_; rintro e w' ⟨V, rfl, h1, h2, h3⟩; have H1 := Lib.hid h1; have H2 := Lib.hid h2; clear h1 h2)
  go_ret
  obtain ⟨fp', h2, h3'⟩ := H2.out
  refine ⟨?_, ⟨fp', h2, ?_⟩, (HKA.out.mono (fun _ _ x => x.elim)).trans h3⟩
  · unfold rdN
    rcases H1.out with ⟨a, b, rfl⟩ | ⟨a, rfl⟩
    · have hz := errN_zero b
      rw [if_pos ⟨a, b⟩, IntWalk.wrap64_in ((s.num l).1 : Int) ⟨by omega, by omega⟩]; rfl
    · rw [if_neg a]; rfl
  · rcases h3' with h | ⟨g, h, hg⟩
    · exact .inl h
    · exact .inr ⟨g, h, Nat.le_trans HKA.out.size hg⟩
end Go.Proofs.YtghohakbepeffaaGreatDoor
namespace Go.Proofs.YtghohakbepeffaaGreatDoor
set_option maxRecDepth 100000
set_option maxHeartbeats 4000000
open Go Go.RowKit Go.Own Go.Shelf
def RS.rest (s : RS) (l : List UInt8) : List UInt8 := l.drop s.pos.toNat
theorem RS.read_ok {s : RS} {k : Nat} {er : Int} (h0 : s.err = 0) (he : er = 0) : (s.read k er).err = 0 := by
  unfold RS.read; rw [if_pos h0, if_pos he]
end Go.Proofs.YtghohakbepeffaaGreatDoor
namespace Go.Proofs.YtghohakbepeffaaGreatDoor
set_option maxRecDepth 100000
set_option maxHeartbeats 4000000
open Go Go.RowKit Go.Own Go.Shelf
end Go.Proofs.YtghohakbepeffaaGreatDoor
namespace Go.Proofs.YtghohakbepeffaaGreatDoor
set_option maxRecDepth 100000
set_option maxHeartbeats 4000000
open Go Go.RowKit Go.Own Go.Shelf
end Go.Proofs.YtghohakbepeffaaGreatDoor
namespace Go.Proofs.YtghohakbepeffaaGreatDoor
set_option maxRecDepth 100000
set_option maxHeartbeats 4000000
open Go Go.RowKit Go.Own Go.Shelf
def Rd (w : World) (F : Nat → Prop) (b : Nat) (l : List UInt8) (s : RS) : Prop := ∃ v fp, RdAt w b v fp l s ∧ (∀ j, v.ownBlock = some j → j < w.heap.size) ∧ F = rdBlk b v fp
section
variable {w w' : World} {F M : Nat → Prop} {b : Nat} {l : List UInt8} {s s' : RS}
theorem Rd.lt (h : Rd w F b l s) : Lt F w := by
  obtain ⟨v, fp, h1, h2, rfl⟩ := h
  intro j hj
  rcases hj with rfl | hj | hj
  · exact h1.lt
  · exact h2 j hj
  · obtain ⟨at_, hb, hl, hf⟩ := h1.ex
    rcases hf with ⟨_, _, rfl⟩ | ⟨_, g, rfl, _, hc⟩
    · cases hj
    · cases hj; exact lt_of_block hc
theorem Rd.keeps (h : Rd w F b l s) (k : Keeps M w w') (d : Dis F M) : Rd w' F b l s := by
  obtain ⟨v, fp, h1, h2, rfl⟩ := h
  exact ⟨v, fp, h1.keeps k d, fun j hj => Nat.lt_of_lt_of_le (h2 j hj) k.size, rfl⟩
theorem Rd.keepsN (h : Rd w F b l s) (k : Keeps Nob w w') : Rd w' F b l s := h.keeps k (fun _ _ x => x)
theorem rdr_step {v fp fp' : Value} (h : RdAt w b v fp l s) (hv : ∀ j, v.ownBlock = some j → j < w.heap.size) (hr : RdAt w' b v fp' l s') (hn : NewPtr w fp fp') (k : Keeps (One b) w w') :
    ∃ F', Rd w' F' b l s' ∧ Step w w' (rdBlk b v fp) F' := by
  have hv' := fun j hj => Nat.lt_of_lt_of_le (hv j hj) k.size
  have hR : Rd w' (rdBlk b v fp') b l s' := ⟨v, fp', hr, hv', rfl⟩
  refine ⟨_, hR, k.mono (fun _ _ e => .inl e), fun j hj => ?_⟩
  rcases hj with hj | hj | hj
  · exact .inl (.inl hj)
  · exact .inl (.inr (.inl hj))
  · rcases hn with rfl | ⟨g, rfl, hg⟩
    · exact .inl (.inr (.inr hj))
    · refine .inr ⟨?_, hR.lt j (.inr (.inr hj))⟩
      cases hj; exact hg
def RPost (w : World) (F : Nat → Prop) (b : Nat) (l : List UInt8) (x : Value) (s' : RS) (e : Ending) (w' : World) : Prop := e = .returned x ∧ ∃ F', Rd w' F' b l s' ∧ Step w w' F F'
theorem Rd.u (h : Rd w F b l s) : Calls Tryz.prog 45 #[.pointer (some ⟨b, 0, none⟩)] w (RPost w F b l (.int .u64 (rdU l s).1) (rdU l s).2) := by
  obtain ⟨v, fp, h1, h2, rfl⟩ := h
  exact (rU_ok b v fp l s w h1).mono fun e w' ⟨he, ⟨fp', h3, h4⟩, h5⟩ => ⟨he, rdr_step h1 h2 h3 h4 h5⟩
theorem Rd.n (h : Rd w F b l s) (least most : Int) (m2 : -9223372036854775808 ≤ least ∧ least ≤ 9223372036854775807) (m1 : -9223372036854775808 ≤ most ∧ most ≤ 9223372036854775807) :
    Calls Tryz.prog 42 #[.pointer (some ⟨b, 0, none⟩), .int .i64 least, .int .i64 most] w (RPost w F b l (.int .i64 (rdN l s least most).1) (rdN l s least most).2) := by
  obtain ⟨v, fp, h1, h2, rfl⟩ := h
  exact (rN_ok b v fp l s least most w h1 m2 m1).mono fun e w' ⟨he, ⟨fp', h3, h4⟩, h5⟩ => ⟨he, rdr_step h1 h2 h3 h4 h5⟩
theorem Rd.at_ (h : Rd w F b l s) : Calls Tryz.prog 43 #[.pointer (some ⟨b, 0, none⟩)] w fun e w' => e = .returned (.int .i64 s.pos) ∧ w = w' := by
  obtain ⟨v, fp, h1, _, _⟩ := h
  exact rAt_ok b v fp l s w h1
theorem Rd.fin (h : Rd w F b l s) : Calls Tryz.prog 46 #[.pointer (some ⟨b, 0, none⟩)] w fun e w' => e = .returned (.agg #[.int .i64 (s.fin l).1, .int .i64 (s.fin l).2]) ∧ Keeps Nob w w' := by
  obtain ⟨v, fp, h1, _, _⟩ := h
  exact rEnd_ok b v fp l s w h1
theorem rd_new (a : Value) (l : List UInt8) (w : World) (ha : BytesAt w a l) (hl : l.length ≤ 100000000) :
    Calls Tryz.prog 41 #[a] w fun e w' => ∃ b F, e = .returned (.pointer (some ⟨b, 0, none⟩)) ∧ Rd w' F b l ⟨0, 0⟩ ∧ Ge F w ∧ Keeps Nob w w' :=
  (newReader_ok a l w ha hl).mono fun e w' ⟨b, v, he, hr, hb, hf, hk⟩ => by
    refine ⟨b, _, he, ⟨v, _, hr, fun j hj => (hf j hj).2, rfl⟩, ?_, hk⟩
    intro j hj
    rcases hj with rfl | hj | hj
    · exact hb
    · exact (hf j hj).1
    · cases hj
end
end Go.Proofs.YtghohakbepeffaaGreatDoor
namespace Go.Proofs.YtghohakbepeffaaGreatDoor
set_option maxRecDepth 100000
set_option maxHeartbeats 4000000
open Go Go.RowKit Go.Own Go.Shelf
theorem nrdU_nn (l : List UInt8) (s : RS) : (((rdU l s).1.toNat : Nat) : Int) = (rdU l s).1 := by
  unfold rdU; simp only; split <;> omega
theorem nrdN_le (l : List UInt8) (s : RS) (lo hi : Int) : 0 ≤ (rdN l s lo hi).1 ∧ ((rdN l s lo hi).1 ≤ hi ∨ (rdN l s lo hi).1 = 0) := by
  unfold rdN
  simp only
  split
  · rename_i h
    have h2 := h.2
    unfold errN at h2
    split at h2
    · cases h2
    · rename_i hn
      unfold outN at hn
      omega
  · omega
theorem Rd.fail {w : World} {F : Nat → Prop} {b : Nat} {l : List UInt8} {s : RS} (h : Rd w F b l s) (e p : Int) : Calls Tryz.prog 44 #[.pointer (some ⟨b, 0, none⟩), .int .i64 e, .int .i64 p] w fun x w' => (∃ r, x = .returned r) ∧ ∃ F', Rd w' F' b l (s.fail e p) ∧ Step w w' F F' := by
  obtain ⟨v, fp, h1, h2, rfl⟩ := h
  exact (rFail_ok b v fp l s e p w h1).mono fun x w' ⟨h0, ⟨fp', h3, h4⟩, h5⟩ => ⟨h0, rdr_step h1 h2 h3 h4 h5⟩
theorem rd_fin {w : World} {F : Nat → Prop} {b : Nat} {l : List UInt8} {s : RS} {fe fp : Int} (h : Rd w F b l s) (h1 : (s.fin l).1 = fe) (h2 : (s.fin l).2 = fp) : Calls Tryz.prog 46 #[.pointer (some ⟨b, 0, none⟩)] w fun e w' => e = .returned (.agg #[.int .i64 fe, .int .i64 fp]) ∧ Keeps Nob w w' := h1 ▸ h2 ▸ h.fin
theorem results_tmp_row {P : Program} {fn : Func} {p q : Tmp} {ty : TypeId} (h : fn.results = #[.tmp p, .cell q ty]) (tmps : Array Value) (w : World) (g : Nat) (t : TypeId) (cs : Array Value) (fr : Nat × Nat) (d : TypeDesc) (v : Value)
    (hp : tmps.getD q undef = .pointer (some ⟨g, 0, none⟩)) (hg : w.heap[g]? = some (.cells cs t fr))
    (hu : P.underlying ty = some d) (hd : (match d with | .struct _ | .array _ _ => true | _ => false) = true) (hi : (P.info? ty).map (·.size) = some cs.size) (hq : tmps.getD p undef = v) :
    (results fn tmps).run P w = .ok (.tuple #[v, .agg cs]) w := by
  have hp' : tmps[q]?.getD undef = .pointer (some ⟨g, 0, none⟩) := by simpa using hp
  have hq' : tmps[p]?.getD undef = v := by simpa using hq
  simp [results, h, hp', hq', asAddr, run_loadVar_row w g t ty cs fr d hg hu hd hi]
def nrH (l : List UInt8) (s : RS) : Int := (rdN l s 1 4294967296).1
/-- The reader behind a height, 'out' being the notes ahead. -/
def nrS (l : List UInt8) (out : List Nt) (s : RS) : RS := match out.getLast? with | some y => if nrH l s < y.h then (rdN l s 1 4294967296).2.fail 9 s.pos else (rdN l s 1 4294967296).2 | none => (rdN l s 1 4294967296).2
def nrK (l : List UInt8) (s : RS) : Nat := (rdU l s).1.toNat
def nrT (l : List UInt8) (s : RS) : RS := if 4611686018427387904 < nrK l s then (rdU l s).2.fail 3 s.pos else (rdU l s).2
def nrgo : Nat → List Nt → List UInt8 → RS → List Nt × RS
  | 0, out, _, s => (out, s)
  | m + 1, out, l, s => nrgo m (out ++ [⟨nrH l s, nrK l (nrS l out s)⟩]) l (nrT l (nrS l out s))
def nrN (l : List UInt8) : Nat := (rdN l ⟨0, 0⟩ 0 64).1.toNat
def nres (l : List UInt8) : List Nt × RS := nrgo (nrN l) [] l (rdN l ⟨0, 0⟩ 0 64).2
/-- What Read tells. -/
def nread (l : List UInt8) : List Nt × Int × Int := if ((nres l).2.fin l).1 = 0 then ((nres l).1, 0, 0) else ([], ((nres l).2.fin l).1, ((nres l).2.fin l).2)
theorem nrN_le (l : List UInt8) : (rdN l ⟨0, 0⟩ 0 64).1 = ((nrN l : Nat) : Int) ∧ nrN l ≤ 64 := by
  have := nrdN_le l ⟨0, 0⟩ 0 64
  unfold nrN; omega
theorem nrH_le (l : List UInt8) (s : RS) : 0 ≤ nrH l s ∧ nrH l s ≤ 4294967296 := by
  have := nrdN_le l s 1 4294967296
  unfold nrH; omega
theorem nrS_none {l : List UInt8} {out : List Nt} {s : RS} (h : out.length = 0) : nrS l out s = (rdN l s 1 4294967296).2 := by
  obtain rfl := List.eq_nil_of_length_eq_zero h; rfl
theorem nlast {out : List Nt} {i : Nat} (h : out.length = i) (hi : 0 < i) : ∃ y, out[i - 1]? = some y ∧ out.getLast? = some y := by
  obtain ⟨y, hy⟩ : ∃ y, out.getLast? = some y := by
    cases e : out.getLast? with
    | none => rw [List.getLast?_eq_none_iff] at e; subst e; simp at h; omega
    | some y => exact ⟨y, rfl⟩
  exact ⟨y, by rw [← h, ← List.getLast?_eq_getElem?]; exact hy, hy⟩
theorem nrS_yes {l : List UInt8} {out : List Nt} {s : RS} {y : Nt} (h : out.getLast? = some y) (hc : nrH l s < y.h) : nrS l out s = (rdN l s 1 4294967296).2.fail 9 s.pos := by unfold nrS; rw [h]; exact if_pos hc
theorem nrS_not {l : List UInt8} {out : List Nt} {s : RS} {y : Nt} (h : out.getLast? = some y) (hc : ¬ nrH l s < y.h) : nrS l out s = (rdN l s 1 4294967296).2 := by unfold nrS; rw [h]; exact if_neg hc
theorem nrgo_step {m i : Nat} {out : List Nt} {l : List UInt8} {s : RS} (hi : i < m) (h : nrgo (m - i) out l s = nres l) : nrgo (m - (i + 1)) (out ++ [⟨nrH l s, nrK l (nrS l out s)⟩]) l (nrT l (nrS l out s)) = nres l := by
  rw [show m - i = (m - (i + 1)) + 1 by omega, nrgo] at h; exact h
theorem nread_ok {m i : Nat} {out : List Nt} {l : List UInt8} {s : RS} (hi : i = m) (h : nrgo (m - i) out l s = nres l) (h0 : (s.fin l).1 = 0) : nread l = (out, 0, 0) := by
  rw [hi, Nat.sub_self, nrgo] at h
  unfold nread; rw [← h, if_pos h0]
theorem nread_no {m i : Nat} {out : List Nt} {l : List UInt8} {s : RS} (hi : i = m) (h : nrgo (m - i) out l s = nres l) (h0 : ¬ (s.fin l).1 = 0) : nread l = ([], (s.fin l).1, (s.fin l).2) := by
  rw [hi, Nat.sub_self, nrgo] at h
  unfold nread; rw [← h, if_neg h0]
/-- Which round this is. -/
theorem nread_cases (n i : Nat) (out : List Nt) (l : List UInt8) (s : RS) (hi : i ≤ n) (hlen : out.length = i) : (i < n ∧ i = 0 ∧ ¬ 4611686018427387904 < nrK l (nrS l out s)) ∨ (i < n ∧ i = 0 ∧ 4611686018427387904 < nrK l (nrS l out s)) ∨
    (i < n ∧ 0 < i ∧ (∃ y, out[i - 1]? = some y ∧ out.getLast? = some y ∧ ¬ nrH l s < y.h) ∧ ¬ 4611686018427387904 < nrK l (nrS l out s)) ∨ (i < n ∧ 0 < i ∧ (∃ y, out[i - 1]? = some y ∧ out.getLast? = some y ∧ ¬ nrH l s < y.h) ∧ 4611686018427387904 < nrK l (nrS l out s)) ∨
    (i < n ∧ 0 < i ∧ (∃ y, out[i - 1]? = some y ∧ out.getLast? = some y ∧ nrH l s < y.h) ∧ ¬ 4611686018427387904 < nrK l (nrS l out s)) ∨ (i < n ∧ 0 < i ∧ (∃ y, out[i - 1]? = some y ∧ out.getLast? = some y ∧ nrH l s < y.h) ∧ 4611686018427387904 < nrK l (nrS l out s)) ∨
    (i = n ∧ (s.fin l).1 = 0) ∨ (i = n ∧ ¬ (s.fin l).1 = 0) := by
  by_cases h : i < n
  · by_cases h1 : i = 0
    · by_cases h2 : 4611686018427387904 < nrK l (nrS l out s)
      · exact .inr (.inl ⟨h, h1, h2⟩)
      · exact .inl ⟨h, h1, h2⟩
    · obtain ⟨y, hy, hy2⟩ := nlast hlen (by omega)
      by_cases h2 : 4611686018427387904 < nrK l (nrS l out s) <;> by_cases h3 : nrH l s < y.h
      · exact .inr (.inr (.inr (.inr (.inr (.inl ⟨h, by omega, ⟨y, hy, hy2, h3⟩, h2⟩)))))
      · exact .inr (.inr (.inr (.inl ⟨h, by omega, ⟨y, hy, hy2, h3⟩, h2⟩)))
      · exact .inr (.inr (.inr (.inr (.inl ⟨h, by omega, ⟨y, hy, hy2, h3⟩, h2⟩))))
      · exact .inr (.inr (.inl ⟨h, by omega, ⟨y, hy, hy2, h3⟩, h2⟩))
  · by_cases h2 : (s.fin l).1 = 0
    · exact .inr (.inr (.inr (.inr (.inr (.inr (.inl ⟨by omega, h2⟩))))))
    · exact .inr (.inr (.inr (.inr (.inr (.inr (.inr ⟨by omega, h2⟩))))))
theorem nrK_lt (l : List UInt8) (s : RS) : nrK l s < 18446744073709551616 := by
  unfold nrK rdU; simp only; split
  · rename_i h; have := (Cod.num_ok _ h.2).1; rw [Int.toNat_natCast]; exact this
  · simp
theorem rdn_is {w : World} {F : Nat → Prop} {b : Nat} {l : List UInt8} {s s1 : RS} {x y : Int} {args : Array Value} (h1 : x = y) (h2 : s = s1) (h : Calls Tryz.prog 42 args w (RPost w F b l (.int .i64 x) s)) : Calls Tryz.prog 42 args w (RPost w F b l (.int .i64 y) s1) := h1 ▸ h2 ▸ h
theorem rdu_is {w : World} {F : Nat → Prop} {b : Nat} {l : List UInt8} {s s1 : RS} {n : Nat} {args : Array Value} (h1 : nrK l s = n) (h2 : (rdU l s).2 = s1) (h : Calls Tryz.prog 45 args w (RPost w F b l (.int .u64 (rdU l s).1) (rdU l s).2)) : Calls Tryz.prog 45 args w (RPost w F b l (.int .u64 ((n : Nat) : Int)) s1) := by
  subst h1; subst h2; unfold nrK; rw [nrdU_nn]; exact h
noncomputable def qc76_0 (n : Nat) : Code := partOf Tryz.f13 n
noncomputable abbrev qo76_0 (n k : Nat) : Oper := (opsAt (qc76_0 n)).getD k default
theorem nRead_ok (v0 : Value) (l : List UInt8) (w : World) (hx : BytesAt w v0 l) (hl : l.length ≤ 100000000) :
    Calls Tryz.prog 13 #[v0] w (fun e w' => ∃ X, e = .returned (.tuple #[X, .agg #[.int .i64 (nread l).2.1, .int .i64 (nread l).2.2]]) ∧ Row w' 46 2 X (nread l).1.length ((nread l).1.flatMap Nt.cl) ∧ NewFrom w.heap.size X ∧ Keeps Nob w w') := by
  obtain ⟨i2, hi2, hs0, hs1, hs2⟩ := info_parts note_info0
  obtain ⟨hm1, hm64⟩ := nrN_le l
  obtain ⟨m, hme⟩ : ∃ m, nrN l = m := ⟨_, rfl⟩
  obtain ⟨s0, qs0⟩ : ∃ x, (rdN l ⟨0, 0⟩ 0 64).2 = x := ⟨_, rfl⟩
  rw [hme] at hm1 hm64
  have hp0 : nrgo (m - 0) [] l s0 = nres l := by unfold nres; rw [hme, qs0]; rfl
  have K0 : Keeps Nob w w := Keeps.refl _ _
  refine sy_enter (qc76_0 1) ⟨#[v0, ud, ud, ud, ud, ud, ud, ud, ud, ud, ud, ud, ud, ud, ud, ud, ud, ud, ud, ud, ud, ud, ud, ud, ud, ud, ud, ud, ud, ud, ud, ud, ud, ud, ud, ud, ud, ud, ud, ud, ud, ud, ud, ud, ud, ud, ud, ud, ud, ud, ud, ud, ud, ud, ud, ud, ud, ud, ud, ud, ud, ud], []⟩ Tryz.func13 (by kernel_rfl) (by kernel_rfl) <| qr_ [0, 1] <| pkq (.slice none 0 0) <| pal 31 (#[.int .i64 0, .int .i64 0]) (.agg (#[.int .i64 0, .int .i64 0])) fun V1 r2 er2 h2 kV1 => ?_
  have n3 : w.heap.size ≤ r2 := er2 ▸ K0.size
  have K4 := K0.nn kV1
  have z5 := kV1.size
  refine eqr_ [0, 1, 2] <| pkq (v0) ?_
  have hr2_0 := lt_of_block h2
  have hKs0 := K4.size
  refine pcq 41 #[v0] Tryz.func41 ((rd_new v0 l _ (hx.keepsN K4) hl).mono ?_)
  rintro e V6 ⟨b, F0, rfl, hR0, hge0, kV6⟩
  have hd0 : ∀ j, F0 j → w.heap.size ≤ j ∧ j ≠ r2 := fun j h => by have := hge0 j h; omega
  refine ⟨_, rfl, ?_⟩
  have h7 := kV6.bk h2
  have K8 := K4.nn kV6
  have z9 := kV6.size
  refine pkq (pT b 0) <| eqr_ [0] <| pkq (.slice none 0 0) <| eq_ <| qr_ [0, 1, 2] <| pkq (pT b 0) ?_
  have hKs3 := K8.size
  have hr2_3 := lt_of_block h7
  refine pcq 42 #[pT b 0, .int .i64 0, .int .i64 64] Tryz.func42 ((rdn_is hm1 qs0 (Rd.n hR0 0 64 (by decide) (by decide))).mono ?_)
  rintro e V10 ⟨rfl, F1, hR1, hS1⟩
  have hd1 : ∀ j, F1 j → w.heap.size ≤ j ∧ j ≠ r2 ∧ ¬ (.slice none 0 0 : Value).ownBlock = some j := fun j h => (hS1.2 j h).elim (fun h => by have := hd0 j h; exact ⟨by omega, by omega, fun e => by cases e⟩) (fun h => ⟨by omega, by omega, fun e => by cases e⟩)
  refine ⟨_, rfl, ?_⟩
  have h11 : V10.heap[r2]? = some (.cells (#[.int .i64 0, .int .i64 0]) 31 (0, 0)) := (hS1.1.block r2 (lt_of_block h7) (fun e => by have := hd0 _ e; omega)).trans h7
  have K12 : Keeps Nob w V10 := K8.then hS1.1 (fun i hi hm => absurd hi (by have := hd0 i hm; omega))
  have z13 := hS1.1.size
  refine pkq (.int .i64 0) <| et_ <| bl_ 0 ?_
  refine sy_loop (qc76_0 244) (fun a V => ∃ (i : Nat) (out : List Nt) (s : RS) (v : Value) (Fi : Nat → Prop) (u6 u7 u8 u15 u16 u17 u18 u19 u20 u21 u22 u23 u24 u25 u26 u27 u28 u29 u30 u31 u32 u33 u34 u35 u36 u37 u38 u39 u40 u41 u42 u43 u44 u45 u46 u47 u48 u49 u50 u51 u52 u53 : Value), (a = ⟨#[v0, ud, .slice none 0 0, pT r2 0, pT b 0, v, u6, u7, u8, ud, v0, pT b 0, pT b 0, iN m, iN i, u15, u16, u17, u18, u19, u20, u21, u22, u23, u24, u25, u26, u27, u28, u29, u30, u31, u32, u33, u34, u35, u36, u37, u38, u39, u40, u41, u42, u43, u44, u45, u46, u47, u48, u49, u50, u51, u52, u53, ud, ud, ud, ud, ud, ud, ud, ud], []⟩) ∧ (i ≤ m) ∧ (out.length = i) ∧ (nrgo (m - i) out l s = nres l) ∧ (∀ j, Fi j → w.heap.size ≤ j ∧ j ≠ r2 ∧ ¬ v.ownBlock = some j) ∧ (NewFrom w.heap.size v) ∧ (V.heap[r2]? = some (.cells (#[.int .i64 0, .int .i64 0]) 31 (0, 0))) ∧ (Rd V Fi b l s) ∧ (Row V 46 2 v out.length (out.flatMap Nt.cl)) ∧ (Keeps Nob w V)) (fun a _ => m - (intOf (a.tmps.getD 14 undef)).toNat) (by kernel_rfl) ?_ ?_
  · exact ⟨0, [], s0, .slice none 0 0, F1, undef, undef, undef, undef, undef, undef, undef, undef, undef, undef, undef, undef, undef, undef, undef, undef, undef, undef, undef, undef, undef, undef, undef, undef, undef, undef, undef, undef, undef, undef, undef, undef, undef, undef, undef, undef, undef, undef, undef, undef, undef, undef, by kernel_rfl, by omega, rfl, hp0, hd1, NewFrom.nil _, h11, hR1, (World.ownsRow_nil _ _ _ _), K12⟩
  · rintro a V14 ⟨i, out, s, v, Fi, u6, u7, u8, u15, u16, u17, u18, u19, u20, u21, u22, u23, u24, u25, u26, u27, u28, u29, u30, u31, u32, u33, u34, u35, u36, u37, u38, u39, u40, u41, u42, u43, u44, u45, u46, u47, u48, u49, u50, u51, u52, u53, rfl, hi, hout, hp, hd_i, hnw, h15, h16, h17, K18⟩
    rcases nread_cases m i out l s hi hout with ⟨lt_i, h0, hbig⟩ | ⟨lt_i, h0, hbig⟩ | ⟨lt_i, h0, hyy, hbig⟩ | ⟨lt_i, h0, hyy, hbig⟩ | ⟨lt_i, h0, hyy, hbig⟩ | ⟨lt_i, h0, hyy, hbig⟩ | ⟨eq_i, hfin⟩ | ⟨eq_i, hfin⟩
    · skip
      obtain ⟨hh, hhe⟩ : ∃ x, nrH l s = x := ⟨_, rfl⟩
      obtain ⟨s1, qs1⟩ : ∃ x, (rdN l s 1 4294967296).2 = x := ⟨_, rfl⟩
      obtain ⟨s2, qs2e⟩ : ∃ x, nrS l out s = x := ⟨_, rfl⟩
      obtain ⟨kk, hke⟩ : ∃ x, nrK l s2 = x := ⟨_, rfl⟩
      obtain ⟨s3, qs3⟩ : ∃ x, (rdU l s2).2 = x := ⟨_, rfl⟩
      obtain ⟨s4, qs4e⟩ : ∃ x, nrT l s2 = x := ⟨_, rfl⟩
      have hhb := nrH_le l s
      have hkb := nrK_lt l s2
      have hpn := nrgo_step lt_i hp
      rw [qs2e] at hbig hpn
      rw [hke] at hbig hkb hpn
      rw [hhe] at hhb hpn
      rw [qs4e] at hpn
      have qs2 : s1 = s2 := by rw [← qs1, ← qs2e, nrS_none (hout.trans h0)]
      have qs4 : s3 = s4 := by rw [← qs4e, ← qs3]; unfold nrT; rw [hke, if_neg hbig]
      refine qr_ [0] <| ppq (.bool true) (dct ((((i : Nat) : Int)) < (((m : Nat) : Int))) (by omega)) <| eq_ <| y_ <| s_ <| tq_ <| bl_ 1 <| qr_ [0, 1] <| pkq (iN i) <| pkq (iN i) <| eqr_ [0, 1, 2] <| pkq (pT b 0) ?_
      refine pcq 43 #[pT b 0] Tryz.func43 ((Rd.at_ h16).mono ?_)
      rintro e w1 ⟨rfl, rfl⟩
      refine ⟨_, rfl, ?_⟩
      refine pkq (.int .i64 s.pos) <| eqr_ [0, 1, 2, 3, 4] <| pkq (pT b 0) ?_
      have hKs7 := K18.size
      have hr2_7 := lt_of_block h15
      have hvl_7 : ∀ j, v.ownBlock = some j → j < V14.heap.size := fun j hj => h17.lt hj
      refine pcq 42 #[pT b 0, .int .i64 1, .int .i64 4294967296] Tryz.func42 ((rdn_is hhe qs1 (Rd.n h16 1 4294967296 (by decide) (by decide))).mono ?_)
      rintro e V19 ⟨rfl, Fa, hRa, hSa⟩
      have hrowa : Row V19 46 2 v out.length (out.flatMap Nt.cl) := h17.keeps hSa.1 (fun j hj e => (hd_i j e).2.2 hj)
      have hda : ∀ j, Fa j → w.heap.size ≤ j ∧ j ≠ r2 ∧ ¬ v.ownBlock = some j := fun j h => (hSa.2 j h).elim (hd_i j) (fun h => ⟨by omega, by omega, fun e => by have := hvl_7 j e; omega⟩)
      have hlta := Rd.lt hRa
      have hvla : ∀ j, v.ownBlock = some j → j < V19.heap.size := fun j hj => hrowa.lt hj
      refine ⟨_, rfl, ?_⟩
      have h20 : V19.heap[r2]? = some (.cells (#[.int .i64 0, .int .i64 0]) 31 (0, 0)) := (hSa.1.block r2 (lt_of_block h15) (fun e => (hd_i _ e).2.1 rfl)).trans h15
      have K21 : Keeps Nob w V19 := K18.then hSa.1 (fun k hi hm => absurd hi (by have := (hd_i k hm).1; omega))
      have z22 := hSa.1.size
      refine pkq (.agg #[.int .i64 hh, .int .u64 0]) <| pal 46 (#[.int .i64 0, .int .u64 0]) (.agg (#[.int .i64 0, .int .u64 0])) fun V23 gx egx h24 kV23 => ?_
      have n25 : r2 < gx := egx ▸ lt_of_block h20
      have n26 : w.heap.size ≤ gx := egx ▸ K21.size
      have h27 := kV23.bk h20
      have h28 : Rd V23 Fa b l s1 := hRa.keepsN kV23
      have h29 : Row V23 46 2 v out.length (out.flatMap Nt.cl) := hrowa.keeps kV23 (fun _ _ x => x)
      have K30 := K21.nn kV23
      have z31 := kV23.size
      obtain ⟨V32, eV32, kV32⟩ := rowset_step V23 gx (#[.int .i64 hh, .int .u64 0])
      have hvx : ∀ j, v.ownBlock = some j → j ≠ gx := fun j hj => by have := hvla j hj; omega
      have hd_Fa : ∀ j, Fa j → w.heap.size ≤ j ∧ j ≠ r2 ∧ j ≠ gx ∧ ¬ v.ownBlock = some j := fun j hj => ⟨(hda j hj).1, (hda j hj).2.1, by have := hlta j hj; omega, (hda j hj).2.2⟩
      have h33 : V32.heap[gx]? = some (.cells (#[.int .i64 hh, .int .u64 0]) 46 (0, 0)) := eV32 ▸ setRow_heap _ _ _ _ _ _ h24
      refine pzq (w' := V32) (by rw [← eV32]; exact exec_store_row 46 (.tmp 8) (.tmp 21) (by kernel_rfl) gx (#[.int .i64 hh, .int .u64 0]) (by kernel_rfl) (by kernel_rfl) 46 (#[.int .i64 0, .int .u64 0]) h24 (by kernel_rfl) rfl (by kernel_rfl)) ?_
      clear eV32
      have h34 := kV32.bO h27
      have h35 : Rd V32 Fa b l s1 := h28.keeps kV32 (fun j hj e => by have := hlta j hj; unfold Own.One at e; omega)
      have h36 : Row V32 46 2 v out.length (out.flatMap Nt.cl) := h29.keeps kV32 (fun j hj e => by have := hvla j hj; unfold Own.One at e; omega)
      have K37 := K30.nO kV32
      have z38 := kV32.size
      refine eq_ <| q_ <| sy_reg <| rg_still 8 12 (opsAt (qc76_0 125340)) [qo76_0 125340 0, qo76_0 125340 1, qo76_0 125340 2, qo76_0 125340 3, qo76_0 125340 4, qo76_0 125340 5, qo76_0 125340 6, qo76_0 125340 7, qo76_0 125340 8, qo76_0 125340 9, qo76_0 125340 10, qo76_0 125340 11] [qo76_0 125340 12] (by kernel_rfl) (by kernel_rfl) (by kernel_rfl) (by kernel_rfl) (by kernel_rfl) ?_
      obtain ⟨V40, eV40, kV40⟩ := drew_step V32
      rw [eV40]
      clear eV40
      have h41 := kV40.bk h34
      have h42 : Rd V40 Fa b l s1 := h35.keepsN kV40
      have h43 : Row V40 46 2 v out.length (out.flatMap Nt.cl) := h36.keeps kV40 (fun _ _ x => x)
      have h44 := kV40.bk h33
      have K45 := K37.nn kV40
      have z46 := kV40.size
      refine skq (iN i) <| spq (.bool false) (dcf ((((i : Nat) : Int)) > ((0) : Int)) (by omega)) <| skq (.bool false) <| snq <| snq <| snq <| snq <| snq <| snq <| snq <| snq <| snq <| st_end <| ls_run (qo76_0 125340 12) (.bool false) (w' := V40) (by kernel_rfl) (by kernel_rfl) ?_
      refine ls_end <| sy_a ⟨#[v0, ud, .slice none 0 0, pT r2 0, pT b 0, v, iN i, .int .i64 s.pos, pT gx 0, ud, v0, pT b 0, pT b 0, iN m, iN i, .bool true, iN i, pT b 0, .int .i64 s.pos, pT b 0, .int .i64 hh, .agg #[.int .i64 hh, .int .u64 0], iN i, .bool false, .bool false, ud, ud, ud, ud, ud, ud, ud, ud, ud, .bool false, u35, u36, u37, u38, u39, u40, u41, u42, u43, u44, u45, u46, u47, u48, u49, u50, u51, u52, u53, ud, ud, ud, ud, ud, ud, ud, ud], []⟩ <| then_n <| n_ <| s_ <| tqr_ [0, 1, 2] <| pkq (pT b 0) ?_
      refine pcq 43 #[pT b 0] Tryz.func43 ((Rd.at_ (qs2 ▸ h42)).mono ?_)
      rintro e w1 ⟨rfl, rfl⟩
      refine ⟨_, rfl, ?_⟩
      refine pkq (.int .i64 s2.pos) <| eqr_ [0, 1, 2, 3] <| pkq (pT b 0) ?_
      have hKs11 := K45.size
      have hr2_11 := lt_of_block h41
      have hgx_11 := lt_of_block h44
      have hvl_11 : ∀ j, v.ownBlock = some j → j < V40.heap.size := fun j hj => h43.lt hj
      refine pcq 45 #[pT b 0] Tryz.func45 ((rdu_is hke qs3 (Rd.u (qs2 ▸ h42))).mono ?_)
      rintro e V47 ⟨rfl, Fc, hRV47, hSV47⟩
      have hd_Fc : ∀ j, Fc j → w.heap.size ≤ j ∧ j ≠ r2 ∧ j ≠ gx ∧ ¬ v.ownBlock = some j := fun j h => (hSV47.2 j h).elim (hd_Fa j) (fun h => ⟨by omega, by omega, by omega, fun e => by have := hvl_11 j e; omega⟩)
      refine ⟨_, rfl, ?_⟩
      have h48 : V47.heap[r2]? = some (.cells (#[.int .i64 0, .int .i64 0]) 31 (0, 0)) := (hSV47.1.block r2 (lt_of_block h41) (fun e => by have := hd_Fa _ e; omega)).trans h41
      have h49 : Row V47 46 2 v out.length (out.flatMap Nt.cl) := h43.keeps hSV47.1 (fun j hj e => (hd_Fa j e).2.2.2 hj)
      have h50 : V47.heap[gx]? = some (.cells (#[.int .i64 hh, .int .u64 0]) 46 (0, 0)) := (hSV47.1.block gx (lt_of_block h44) (fun e => by have := hd_Fa _ e; omega)).trans h44
      have K51 : Keeps Nob w V47 := K45.then hSV47.1 (fun k hi hm => absurd hi (by have := (hd_Fa k hm).1; omega))
      have z52 := hSV47.1.size
      refine pkq (pT gx 1) <| pce 40 gx 1 (uN kk) (#[.int .i64 hh, .int .u64 ((kk : Nat) : Int)]) h50 (rc (h50) (by kernel_rfl)) (by kernel_rfl) (u := .int .u64 0) fun V53 h54 kV53 => ?_
      have h55 := kV53.bO h48
      have h56 : Row V53 46 2 v out.length (out.flatMap Nt.cl) := h49.keeps kV53 (fun j hj e => by have := hvx j hj; unfold Own.One at e; omega)
      have h57 : Rd V53 Fc b l s3 := hRV47.keeps kV53 (fun j hj e => by have := hd_Fc j hj; unfold Own.One at e; omega)
      have K58 := K51.nO kV53
      have z59 := kV53.size
      refine eq_ <| qr_ [0, 1, 2] <| pkq (pT gx 1) <| ppq (uN kk) (ldk 40 gx 1 h54) <| ppq (.bool false) (dcf ((((kk : Nat) : Int)) > ((4611686018427387904) : Int)) (by omega)) <| en_ <| s_ <| tr_ [0, 1, 2, 3, 4] <| pkq (v) <| ppq (.agg #[.int .i64 hh, uN kk]) (ldr 46 gx (h54) (by kernel_rfl)) ?_
      obtain ⟨V60, eV60, lit, elit, h61, kV60⟩ := alloc_step V53 (#[.int .i64 hh, .int .u64 ((kk : Nat) : Int)]) 46
      have n62 : r2 < lit := elit ▸ lt_of_block h55
      have n63 : gx < lit := elit ▸ lt_of_block h54
      have n64 : w.heap.size ≤ lit := elit ▸ K58.size
      refine prq (.slice (some ⟨lit, 0, none⟩) 1 1) (w' := V60) (by rw [← eV60, ← elit]; kernel_rfl) ?_
      have h65 := kV60.bk h55
      have h66 : Row V60 46 2 v out.length (out.flatMap Nt.cl) := h56.keeps kV60 (fun _ _ x => x)
      have h67 : Rd V60 Fc b l s3 := h57.keepsN kV60
      have K69 := K58.nn kV60
      have z70 := kV60.size
      obtain ⟨vn, V71, hr72, h73, hg74, hn75, ha76⟩ := run_append_any (P := Tryz.prog) (w := V60) 22 (Oper.type (qo76_0 501375 3)) 46 i2 (.agg #[.int .i64 0, .int .u64 0]) 2 16 Tryz.underlying22 hi2 hs0 hs1 hs2 rfl (by decide) v out.length (out.flatMap Nt.cl) h66 (.slice (some ⟨lit, 0, none⟩) 1 1) 1 (Nt.cl (⟨hh, kk⟩ : Nt)) (src_nt (x := ⟨hh, kk⟩) h61) (by unfold maxLen; omega) (by omega)
      have kV71 : Keeps (fun j => v.ownBlock = some j) V60 V71 := Keeps.rowAdd hg74
      have hw77 : NewFrom w.heap.size vn := hnw.next K69.size ha76
      refine prq vn (w' := V71) (exec_append (.tmp 49) (.tmp 51) 22 (by kernel_rfl) v (.slice (some ⟨lit, 0, none⟩) 1 1) (by kernel_rfl) (by kernel_rfl) hr72) ?_
      have h78 : Row V71 46 2 vn ((out ++ [(⟨hh, kk⟩ : Nt)]).length) ((out ++ [(⟨hh, kk⟩ : Nt)]).flatMap Nt.cl) := (row_nt rfl h73)
      have hnwn := hw77
      have hdn : ∀ j, Fc j → w.heap.size ≤ j ∧ j ≠ r2 ∧ ¬ vn.ownBlock = some j := fun j h => ⟨(hd_Fc j h).1, (hd_Fc j h).2.1, fun e => (ha76 j e).elim (fun q => (hd_Fc j h).2.2.2 q) (fun q => by have := Rd.lt h67 j h; omega)⟩
      have h79 : V71.heap[r2]? = some (.cells (#[.int .i64 0, .int .i64 0]) 31 (0, 0)) := (kV71.block r2 (lt_of_block h65) (fun e => Row.ne h66 h65 (by decide) e)).trans h65
      have h80 : Rd V71 Fc b l s3 := h67.keeps kV71 (fun j hj e => (hd_Fc j hj).2.2.2 e)
      have K81 : Keeps Nob w V71 := K69.then kV71 (fun i hi hm => absurd hi (by have := hnw i hm; omega))
      have z82 := kV71.size
      refine pkq (vn) <| ps_end <| blk_n <| tr_ [0, 1] <| ppq (iN (i + 1)) (exec_cast (congrArg (Value.int .i64) (wrapN (i + 1) (by omega))) (by kernel_rfl)) <| pkq (iN (i + 1)) <| et_ ?_
      refine ⟨⟨(i + 1), (out ++ [(⟨hh, kk⟩ : Nt)]), s4, vn, Fc, (iN i), (.int .i64 s2.pos), (pT gx 0), (.bool true), (iN i), (pT b 0), (.int .i64 s.pos), (pT b 0), (.int .i64 hh), (.agg #[.int .i64 hh, .int .u64 0]), (iN i), (.bool false), (.bool false), undef, undef, undef, undef, undef, undef, undef, undef, undef, (.bool false), u35, u36, u37, (pT b 0), (.int .i64 s2.pos), (pT b 0), (uN kk), (pT gx 1), (pT gx 1), (uN kk), (.bool false), u46, u47, u48, v, (.agg #[.int .i64 hh, uN kk]), (.slice (some ⟨lit, 0, none⟩) 1 1), vn, (iN (i + 1)), by kernel_rfl, by omega, by simp [hout], hpn, hdn, hnwn, h79, (qs4 ▸ h80), h78, K81⟩, ?_⟩
      exact lt_meas (x := m - (i + 1)) (y := m - i) (by kernel_rfl) (by kernel_rfl) (by omega)
    · skip
      obtain ⟨hh, hhe⟩ : ∃ x, nrH l s = x := ⟨_, rfl⟩
      obtain ⟨s1, qs1⟩ : ∃ x, (rdN l s 1 4294967296).2 = x := ⟨_, rfl⟩
      obtain ⟨s2, qs2e⟩ : ∃ x, nrS l out s = x := ⟨_, rfl⟩
      obtain ⟨kk, hke⟩ : ∃ x, nrK l s2 = x := ⟨_, rfl⟩
      obtain ⟨s3, qs3⟩ : ∃ x, (rdU l s2).2 = x := ⟨_, rfl⟩
      obtain ⟨s4, qs4e⟩ : ∃ x, nrT l s2 = x := ⟨_, rfl⟩
      have hhb := nrH_le l s
      have hkb := nrK_lt l s2
      have hpn := nrgo_step lt_i hp
      rw [qs2e] at hbig hpn
      rw [hke] at hbig hkb hpn
      rw [hhe] at hhb hpn
      rw [qs4e] at hpn
      have qs2 : s1 = s2 := by rw [← qs1, ← qs2e, nrS_none (hout.trans h0)]
      have qs4 : s3.fail 3 s2.pos = s4 := by rw [← qs4e, ← qs3]; unfold nrT; rw [hke, if_pos hbig]
      refine qr_ [0] <| ppq (.bool true) (dct ((((i : Nat) : Int)) < (((m : Nat) : Int))) (by omega)) <| eq_ <| y_ <| s_ <| tq_ <| bl_ 1 <| qr_ [0, 1] <| pkq (iN i) <| pkq (iN i) <| eqr_ [0, 1, 2] <| pkq (pT b 0) ?_
      refine pcq 43 #[pT b 0] Tryz.func43 ((Rd.at_ h16).mono ?_)
      rintro e w1 ⟨rfl, rfl⟩
      refine ⟨_, rfl, ?_⟩
      refine pkq (.int .i64 s.pos) <| eqr_ [0, 1, 2, 3, 4] <| pkq (pT b 0) ?_
      have hKs7 := K18.size
      have hr2_7 := lt_of_block h15
      have hvl_7 : ∀ j, v.ownBlock = some j → j < V14.heap.size := fun j hj => h17.lt hj
      refine pcq 42 #[pT b 0, .int .i64 1, .int .i64 4294967296] Tryz.func42 ((rdn_is hhe qs1 (Rd.n h16 1 4294967296 (by decide) (by decide))).mono ?_)
      rintro e V83 ⟨rfl, Fa, hRa, hSa⟩
      have hrowa : Row V83 46 2 v out.length (out.flatMap Nt.cl) := h17.keeps hSa.1 (fun j hj e => (hd_i j e).2.2 hj)
      have hda : ∀ j, Fa j → w.heap.size ≤ j ∧ j ≠ r2 ∧ ¬ v.ownBlock = some j := fun j h => (hSa.2 j h).elim (hd_i j) (fun h => ⟨by omega, by omega, fun e => by have := hvl_7 j e; omega⟩)
      have hlta := Rd.lt hRa
      have hvla : ∀ j, v.ownBlock = some j → j < V83.heap.size := fun j hj => hrowa.lt hj
      refine ⟨_, rfl, ?_⟩
      have h84 : V83.heap[r2]? = some (.cells (#[.int .i64 0, .int .i64 0]) 31 (0, 0)) := (hSa.1.block r2 (lt_of_block h15) (fun e => (hd_i _ e).2.1 rfl)).trans h15
      have K85 : Keeps Nob w V83 := K18.then hSa.1 (fun k hi hm => absurd hi (by have := (hd_i k hm).1; omega))
      have z86 := hSa.1.size
      refine pkq (.agg #[.int .i64 hh, .int .u64 0]) <| pal 46 (#[.int .i64 0, .int .u64 0]) (.agg (#[.int .i64 0, .int .u64 0])) fun V87 gx egx h88 kV87 => ?_
      have n89 : r2 < gx := egx ▸ lt_of_block h84
      have n90 : w.heap.size ≤ gx := egx ▸ K85.size
      have h91 := kV87.bk h84
      have h92 : Rd V87 Fa b l s1 := hRa.keepsN kV87
      have h93 : Row V87 46 2 v out.length (out.flatMap Nt.cl) := hrowa.keeps kV87 (fun _ _ x => x)
      have K94 := K85.nn kV87
      have z95 := kV87.size
      obtain ⟨V96, eV96, kV96⟩ := rowset_step V87 gx (#[.int .i64 hh, .int .u64 0])
      have hvx : ∀ j, v.ownBlock = some j → j ≠ gx := fun j hj => by have := hvla j hj; omega
      have hd_Fa : ∀ j, Fa j → w.heap.size ≤ j ∧ j ≠ r2 ∧ j ≠ gx ∧ ¬ v.ownBlock = some j := fun j hj => ⟨(hda j hj).1, (hda j hj).2.1, by have := hlta j hj; omega, (hda j hj).2.2⟩
      have h97 : V96.heap[gx]? = some (.cells (#[.int .i64 hh, .int .u64 0]) 46 (0, 0)) := eV96 ▸ setRow_heap _ _ _ _ _ _ h88
      refine pzq (w' := V96) (by rw [← eV96]; exact exec_store_row 46 (.tmp 8) (.tmp 21) (by kernel_rfl) gx (#[.int .i64 hh, .int .u64 0]) (by kernel_rfl) (by kernel_rfl) 46 (#[.int .i64 0, .int .u64 0]) h88 (by kernel_rfl) rfl (by kernel_rfl)) ?_
      clear eV96
      have h98 := kV96.bO h91
      have h99 : Rd V96 Fa b l s1 := h92.keeps kV96 (fun j hj e => by have := hlta j hj; unfold Own.One at e; omega)
      have h100 : Row V96 46 2 v out.length (out.flatMap Nt.cl) := h93.keeps kV96 (fun j hj e => by have := hvla j hj; unfold Own.One at e; omega)
      have K101 := K94.nO kV96
      have z102 := kV96.size
      refine eq_ <| q_ <| sy_reg <| rg_still 8 12 (opsAt (qc76_0 125340)) [qo76_0 125340 0, qo76_0 125340 1, qo76_0 125340 2, qo76_0 125340 3, qo76_0 125340 4, qo76_0 125340 5, qo76_0 125340 6, qo76_0 125340 7, qo76_0 125340 8, qo76_0 125340 9, qo76_0 125340 10, qo76_0 125340 11] [qo76_0 125340 12] (by kernel_rfl) (by kernel_rfl) (by kernel_rfl) (by kernel_rfl) (by kernel_rfl) ?_
      obtain ⟨V104, eV104, kV104⟩ := drew_step V96
      rw [eV104]
      clear eV104
      have h105 := kV104.bk h98
      have h106 : Rd V104 Fa b l s1 := h99.keepsN kV104
      have h107 : Row V104 46 2 v out.length (out.flatMap Nt.cl) := h100.keeps kV104 (fun _ _ x => x)
      have h108 := kV104.bk h97
      have K109 := K101.nn kV104
      have z110 := kV104.size
      refine skq (iN i) <| spq (.bool false) (dcf ((((i : Nat) : Int)) > ((0) : Int)) (by omega)) <| skq (.bool false) <| snq <| snq <| snq <| snq <| snq <| snq <| snq <| snq <| snq <| st_end <| ls_run (qo76_0 125340 12) (.bool false) (w' := V104) (by kernel_rfl) (by kernel_rfl) ?_
      refine ls_end <| sy_a ⟨#[v0, ud, .slice none 0 0, pT r2 0, pT b 0, v, iN i, .int .i64 s.pos, pT gx 0, ud, v0, pT b 0, pT b 0, iN m, iN i, .bool true, iN i, pT b 0, .int .i64 s.pos, pT b 0, .int .i64 hh, .agg #[.int .i64 hh, .int .u64 0], iN i, .bool false, .bool false, ud, ud, ud, ud, ud, ud, ud, ud, ud, .bool false, u35, u36, u37, u38, u39, u40, u41, u42, u43, u44, u45, u46, u47, u48, u49, u50, u51, u52, u53, ud, ud, ud, ud, ud, ud, ud, ud], []⟩ <| then_n <| n_ <| s_ <| tqr_ [0, 1, 2] <| pkq (pT b 0) ?_
      refine pcq 43 #[pT b 0] Tryz.func43 ((Rd.at_ (qs2 ▸ h106)).mono ?_)
      rintro e w1 ⟨rfl, rfl⟩
      refine ⟨_, rfl, ?_⟩
      refine pkq (.int .i64 s2.pos) <| eqr_ [0, 1, 2, 3] <| pkq (pT b 0) ?_
      have hKs11 := K109.size
      have hr2_11 := lt_of_block h105
      have hgx_11 := lt_of_block h108
      have hvl_11 : ∀ j, v.ownBlock = some j → j < V104.heap.size := fun j hj => h107.lt hj
      refine pcq 45 #[pT b 0] Tryz.func45 ((rdu_is hke qs3 (Rd.u (qs2 ▸ h106))).mono ?_)
      rintro e V111 ⟨rfl, Fc, hRV111, hSV111⟩
      have hd_Fc : ∀ j, Fc j → w.heap.size ≤ j ∧ j ≠ r2 ∧ j ≠ gx ∧ ¬ v.ownBlock = some j := fun j h => (hSV111.2 j h).elim (hd_Fa j) (fun h => ⟨by omega, by omega, by omega, fun e => by have := hvl_11 j e; omega⟩)
      refine ⟨_, rfl, ?_⟩
      have h112 : V111.heap[r2]? = some (.cells (#[.int .i64 0, .int .i64 0]) 31 (0, 0)) := (hSV111.1.block r2 (lt_of_block h105) (fun e => by have := hd_Fa _ e; omega)).trans h105
      have h113 : Row V111 46 2 v out.length (out.flatMap Nt.cl) := h107.keeps hSV111.1 (fun j hj e => (hd_Fa j e).2.2.2 hj)
      have h114 : V111.heap[gx]? = some (.cells (#[.int .i64 hh, .int .u64 0]) 46 (0, 0)) := (hSV111.1.block gx (lt_of_block h108) (fun e => by have := hd_Fa _ e; omega)).trans h108
      have K115 : Keeps Nob w V111 := K109.then hSV111.1 (fun k hi hm => absurd hi (by have := (hd_Fa k hm).1; omega))
      have z116 := hSV111.1.size
      refine pkq (pT gx 1) <| pce 40 gx 1 (uN kk) (#[.int .i64 hh, .int .u64 ((kk : Nat) : Int)]) h114 (rc (h114) (by kernel_rfl)) (by kernel_rfl) (u := .int .u64 0) fun V117 h118 kV117 => ?_
      have h119 := kV117.bO h112
      have h120 : Row V117 46 2 v out.length (out.flatMap Nt.cl) := h113.keeps kV117 (fun j hj e => by have := hvx j hj; unfold Own.One at e; omega)
      have h121 : Rd V117 Fc b l s3 := hRV111.keeps kV117 (fun j hj e => by have := hd_Fc j hj; unfold Own.One at e; omega)
      have K122 := K115.nO kV117
      have z123 := kV117.size
      refine eq_ <| qr_ [0, 1, 2] <| pkq (pT gx 1) <| ppq (uN kk) (ldk 40 gx 1 h118) <| ppq (.bool true) (dct ((((kk : Nat) : Int)) > ((4611686018427387904) : Int)) (by omega)) <| ey_ <| r_ [0, 1, 2] <| pkq (pT b 0) <| pkq (.int .i64 s2.pos) ?_
      have hKs13 := K122.size
      have hr2_13 := lt_of_block h119
      have hgx_13 := lt_of_block h118
      have hvl_13 : ∀ j, v.ownBlock = some j → j < V117.heap.size := fun j hj => h120.lt hj
      refine pcq 44 #[pT b 0, .int .i64 3, .int .i64 s2.pos] Tryz.func44 ((Rd.fail h121 3 s2.pos).mono ?_)
      rintro e V124 ⟨⟨rv13, rfl⟩, Fd, hRV124, hSV124⟩
      have hd_Fd : ∀ j, Fd j → w.heap.size ≤ j ∧ j ≠ r2 ∧ j ≠ gx ∧ ¬ v.ownBlock = some j := fun j h => (hSV124.2 j h).elim (hd_Fc j) (fun h => ⟨by omega, by omega, by omega, fun e => by have := hvl_13 j e; omega⟩)
      refine ⟨_, rfl, ?_⟩
      have h125 : V124.heap[r2]? = some (.cells (#[.int .i64 0, .int .i64 0]) 31 (0, 0)) := (hSV124.1.block r2 (lt_of_block h119) (fun e => by have := hd_Fc _ e; omega)).trans h119
      have h126 : Row V124 46 2 v out.length (out.flatMap Nt.cl) := h120.keeps hSV124.1 (fun j hj e => (hd_Fc j e).2.2.2 hj)
      have h127 : V124.heap[gx]? = some (.cells (#[.int .i64 hh, .int .u64 ((kk : Nat) : Int)]) 46 (0, 0)) := (hSV124.1.block gx (lt_of_block h118) (fun e => by have := hd_Fc _ e; omega)).trans h118
      have K128 : Keeps Nob w V124 := K122.then hSV124.1 (fun k hi hm => absurd hi (by have := (hd_Fc k hm).1; omega))
      have z129 := hSV124.1.size
      refine er_ [0, 1, 2, 3, 4] <| pkq (v) <| ppq (.agg #[.int .i64 hh, uN kk]) (ldr 46 gx (h127) (by kernel_rfl)) ?_
      obtain ⟨V130, eV130, lit, elit, h131, kV130⟩ := alloc_step V124 (#[.int .i64 hh, .int .u64 ((kk : Nat) : Int)]) 46
      have n132 : r2 < lit := elit ▸ lt_of_block h125
      have n133 : gx < lit := elit ▸ lt_of_block h127
      have n134 : w.heap.size ≤ lit := elit ▸ K128.size
      refine prq (.slice (some ⟨lit, 0, none⟩) 1 1) (w' := V130) (by rw [← eV130, ← elit]; kernel_rfl) ?_
      have h135 := kV130.bk h125
      have h136 : Row V130 46 2 v out.length (out.flatMap Nt.cl) := h126.keeps kV130 (fun _ _ x => x)
      have h138 : Rd V130 Fd b l s4 := (qs4 ▸ hRV124).keepsN kV130
      have K139 := K128.nn kV130
      have z140 := kV130.size
      obtain ⟨vn, V141, hr142, h143, hg144, hn145, ha146⟩ := run_append_any (P := Tryz.prog) (w := V130) 22 (Oper.type (qo76_0 501375 3)) 46 i2 (.agg #[.int .i64 0, .int .u64 0]) 2 16 Tryz.underlying22 hi2 hs0 hs1 hs2 rfl (by decide) v out.length (out.flatMap Nt.cl) h136 (.slice (some ⟨lit, 0, none⟩) 1 1) 1 (Nt.cl (⟨hh, kk⟩ : Nt)) (src_nt (x := ⟨hh, kk⟩) h131) (by unfold maxLen; omega) (by omega)
      have kV141 : Keeps (fun j => v.ownBlock = some j) V130 V141 := Keeps.rowAdd hg144
      have hw147 : NewFrom w.heap.size vn := hnw.next K139.size ha146
      refine prq vn (w' := V141) (exec_append (.tmp 49) (.tmp 51) 22 (by kernel_rfl) v (.slice (some ⟨lit, 0, none⟩) 1 1) (by kernel_rfl) (by kernel_rfl) hr142) ?_
      have h148 : Row V141 46 2 vn ((out ++ [(⟨hh, kk⟩ : Nt)]).length) ((out ++ [(⟨hh, kk⟩ : Nt)]).flatMap Nt.cl) := (row_nt rfl h143)
      have hnwn := hw147
      have hdn : ∀ j, Fd j → w.heap.size ≤ j ∧ j ≠ r2 ∧ ¬ vn.ownBlock = some j := fun j h => ⟨(hd_Fd j h).1, (hd_Fd j h).2.1, fun e => (ha146 j e).elim (fun q => (hd_Fd j h).2.2.2 q) (fun q => by have := Rd.lt h138 j h; omega)⟩
      have h149 : V141.heap[r2]? = some (.cells (#[.int .i64 0, .int .i64 0]) 31 (0, 0)) := (kV141.block r2 (lt_of_block h135) (fun e => Row.ne h136 h135 (by decide) e)).trans h135
      have h150 : Rd V141 Fd b l s4 := h138.keeps kV141 (fun j hj e => (hd_Fd j hj).2.2.2 e)
      have K151 : Keeps Nob w V141 := K139.then kV141 (fun i hi hm => absurd hi (by have := hnw i hm; omega))
      have z152 := kV141.size
      refine pkq (vn) <| ps_end <| blk_n <| tr_ [0, 1] <| ppq (iN (i + 1)) (exec_cast (congrArg (Value.int .i64) (wrapN (i + 1) (by omega))) (by kernel_rfl)) <| pkq (iN (i + 1)) <| et_ ?_
      refine ⟨⟨(i + 1), (out ++ [(⟨hh, kk⟩ : Nt)]), s4, vn, Fd, (iN i), (.int .i64 s2.pos), (pT gx 0), (.bool true), (iN i), (pT b 0), (.int .i64 s.pos), (pT b 0), (.int .i64 hh), (.agg #[.int .i64 hh, .int .u64 0]), (iN i), (.bool false), (.bool false), undef, undef, undef, undef, undef, undef, undef, undef, undef, (.bool false), u35, u36, u37, (pT b 0), (.int .i64 s2.pos), (pT b 0), (uN kk), (pT gx 1), (pT gx 1), (uN kk), (.bool true), (pT b 0), (.int .i64 s2.pos), rv13, v, (.agg #[.int .i64 hh, uN kk]), (.slice (some ⟨lit, 0, none⟩) 1 1), vn, (iN (i + 1)), by kernel_rfl, by omega, by simp [hout], hpn, hdn, hnwn, h149, h150, h148, K151⟩, ?_⟩
      exact lt_meas (x := m - (i + 1)) (y := m - i) (by kernel_rfl) (by kernel_rfl) (by omega)
    · skip
      obtain ⟨hh, hhe⟩ : ∃ x, nrH l s = x := ⟨_, rfl⟩
      obtain ⟨s1, qs1⟩ : ∃ x, (rdN l s 1 4294967296).2 = x := ⟨_, rfl⟩
      obtain ⟨s2, qs2e⟩ : ∃ x, nrS l out s = x := ⟨_, rfl⟩
      obtain ⟨kk, hke⟩ : ∃ x, nrK l s2 = x := ⟨_, rfl⟩
      obtain ⟨s3, qs3⟩ : ∃ x, (rdU l s2).2 = x := ⟨_, rfl⟩
      obtain ⟨s4, qs4e⟩ : ∃ x, nrT l s2 = x := ⟨_, rfl⟩
      have hhb := nrH_le l s
      have hkb := nrK_lt l s2
      have hpn := nrgo_step lt_i hp
      rw [qs2e] at hbig hpn
      rw [hke] at hbig hkb hpn
      rw [hhe] at hhb hpn
      rw [qs4e] at hpn
      obtain ⟨y, hy, hy2, hyc⟩ := hyy
      obtain ⟨b_, o_, c_, hv_, hb_, _⟩ := (row_nts h17).at_ (i - 1) _ hy
      have qs2 : s1 = s2 := by rw [← qs1, ← qs2e, nrS_not hy2 hyc]
      rw [hhe] at hyc
      have qs4 : s3 = s4 := by rw [← qs4e, ← qs3]; unfold nrT; rw [hke, if_neg hbig]
      refine qr_ [0] <| ppq (.bool true) (dct ((((i : Nat) : Int)) < (((m : Nat) : Int))) (by omega)) <| eq_ <| y_ <| s_ <| tq_ <| bl_ 1 <| qr_ [0, 1] <| pkq (iN i) <| pkq (iN i) <| eqr_ [0, 1, 2] <| pkq (pT b 0) ?_
      refine pcq 43 #[pT b 0] Tryz.func43 ((Rd.at_ h16).mono ?_)
      rintro e w1 ⟨rfl, rfl⟩
      refine ⟨_, rfl, ?_⟩
      refine pkq (.int .i64 s.pos) <| eqr_ [0, 1, 2, 3, 4] <| pkq (pT b 0) ?_
      have hKs7 := K18.size
      have hr2_7 := lt_of_block h15
      have hvl_7 : ∀ j, v.ownBlock = some j → j < V14.heap.size := fun j hj => h17.lt hj
      refine pcq 42 #[pT b 0, .int .i64 1, .int .i64 4294967296] Tryz.func42 ((rdn_is hhe qs1 (Rd.n h16 1 4294967296 (by decide) (by decide))).mono ?_)
      rintro e V153 ⟨rfl, Fa, hRa, hSa⟩
      have hrowa : Row V153 46 2 v out.length (out.flatMap Nt.cl) := h17.keeps hSa.1 (fun j hj e => (hd_i j e).2.2 hj)
      have hda : ∀ j, Fa j → w.heap.size ≤ j ∧ j ≠ r2 ∧ ¬ v.ownBlock = some j := fun j h => (hSa.2 j h).elim (hd_i j) (fun h => ⟨by omega, by omega, fun e => by have := hvl_7 j e; omega⟩)
      have hlta := Rd.lt hRa
      have hvla : ∀ j, v.ownBlock = some j → j < V153.heap.size := fun j hj => hrowa.lt hj
      refine ⟨_, rfl, ?_⟩
      have h154 : V153.heap[r2]? = some (.cells (#[.int .i64 0, .int .i64 0]) 31 (0, 0)) := (hSa.1.block r2 (lt_of_block h15) (fun e => (hd_i _ e).2.1 rfl)).trans h15
      have K155 : Keeps Nob w V153 := K18.then hSa.1 (fun k hi hm => absurd hi (by have := (hd_i k hm).1; omega))
      have z156 := hSa.1.size
      refine pkq (.agg #[.int .i64 hh, .int .u64 0]) <| pal 46 (#[.int .i64 0, .int .u64 0]) (.agg (#[.int .i64 0, .int .u64 0])) fun V157 gx egx h158 kV157 => ?_
      have n159 : r2 < gx := egx ▸ lt_of_block h154
      have n160 : w.heap.size ≤ gx := egx ▸ K155.size
      have h161 := kV157.bk h154
      have h162 : Rd V157 Fa b l s1 := hRa.keepsN kV157
      have h163 : Row V157 46 2 v out.length (out.flatMap Nt.cl) := hrowa.keeps kV157 (fun _ _ x => x)
      have K164 := K155.nn kV157
      have z165 := kV157.size
      obtain ⟨V166, eV166, kV166⟩ := rowset_step V157 gx (#[.int .i64 hh, .int .u64 0])
      have hvx : ∀ j, v.ownBlock = some j → j ≠ gx := fun j hj => by have := hvla j hj; omega
      have hd_Fa : ∀ j, Fa j → w.heap.size ≤ j ∧ j ≠ r2 ∧ j ≠ gx ∧ ¬ v.ownBlock = some j := fun j hj => ⟨(hda j hj).1, (hda j hj).2.1, by have := hlta j hj; omega, (hda j hj).2.2⟩
      have h167 : V166.heap[gx]? = some (.cells (#[.int .i64 hh, .int .u64 0]) 46 (0, 0)) := eV166 ▸ setRow_heap _ _ _ _ _ _ h158
      refine pzq (w' := V166) (by rw [← eV166]; exact exec_store_row 46 (.tmp 8) (.tmp 21) (by kernel_rfl) gx (#[.int .i64 hh, .int .u64 0]) (by kernel_rfl) (by kernel_rfl) 46 (#[.int .i64 0, .int .u64 0]) h158 (by kernel_rfl) rfl (by kernel_rfl)) ?_
      clear eV166
      have h168 := kV166.bO h161
      have h169 : Rd V166 Fa b l s1 := h162.keeps kV166 (fun j hj e => by have := hlta j hj; unfold Own.One at e; omega)
      have h170 : Row V166 46 2 v out.length (out.flatMap Nt.cl) := h163.keeps kV166 (fun j hj e => by have := hvla j hj; unfold Own.One at e; omega)
      have K171 := K164.nO kV166
      have z172 := kV166.size
      refine eq_ <| q_ <| sy_reg <| rg_still 8 12 (opsAt (qc76_0 125340)) [qo76_0 125340 0, qo76_0 125340 1, qo76_0 125340 2, qo76_0 125340 3, qo76_0 125340 4, qo76_0 125340 5, qo76_0 125340 6, qo76_0 125340 7, qo76_0 125340 8, qo76_0 125340 9, qo76_0 125340 10, qo76_0 125340 11] [qo76_0 125340 12] (by kernel_rfl) (by kernel_rfl) (by kernel_rfl) (by kernel_rfl) (by kernel_rfl) ?_
      obtain ⟨V174, eV174, kV174⟩ := drew_step V166
      rw [eV174]
      clear eV174
      have h175 := kV174.bk h168
      have h176 : Rd V174 Fa b l s1 := h169.keepsN kV174
      have h177 : Row V174 46 2 v out.length (out.flatMap Nt.cl) := h170.keeps kV174 (fun _ _ x => x)
      have h178 := kV174.bk h167
      have K179 := K171.nn kV174
      have z180 := kV174.size
      refine skq (iN i) <| spq (.bool true) (dct ((((i : Nat) : Int)) > ((0) : Int)) (by omega)) <| skq (.bool true) <| skq (pT gx 0) <| spq (.int .i64 hh) (ldk 3 gx 0 h178) <| skq (v) <| skq (iN i) <| spq (iN ((i - 1))) (exec_cast (congrArg (Value.int .i64) (wrapI (((i : Nat) : Int) - 1) ((i - 1 : Nat) : Int) (by omega) (by omega) (by omega))) (by kernel_rfl)) <| spq (.pointer (some ⟨b_, o_ + (i - 1) * 2, none⟩)) (exec_indexAt_slice 22 (.tmp 27) (.tmp 29) (by kernel_rfl) b_ o_ out.length c_ (Eq.trans (b := v) (by kernel_rfl) hv_) .i64 (i - 1) (by kernel_rfl) _ 2 Tryz.underlying22 (by kernel_rfl) (by omega)) <| skq (.pointer (some ⟨b_, o_ + (i - 1) * 2, none⟩)) <| spq (.int .i64 y.h) (exec_ld 3 (.tmp 31) b_ (o_ + (i - 1) * 2 + 0) Tryz.underlying3 (Sl.cell (row_nts h177) hy hv_ rfl)) <| spq (.bool false) (dcf (((hh) : Int) < ((y.h) : Int)) (by omega)) <| st_end <| ls_run (qo76_0 125340 12) (.bool false) (w' := V174) (by kernel_rfl) (by kernel_rfl) ?_
      refine ls_end <| sy_a ⟨#[v0, ud, .slice none 0 0, pT r2 0, pT b 0, v, iN i, .int .i64 s.pos, pT gx 0, ud, v0, pT b 0, pT b 0, iN m, iN i, .bool true, iN i, pT b 0, .int .i64 s.pos, pT b 0, .int .i64 hh, .agg #[.int .i64 hh, .int .u64 0], iN i, .bool true, .bool true, pT gx 0, .int .i64 hh, v, iN i, iN ((i - 1)), .pointer (some ⟨b_, o_ + (i - 1) * 2, none⟩), .pointer (some ⟨b_, o_ + (i - 1) * 2, none⟩), .int .i64 y.h, .bool false, .bool false, u35, u36, u37, u38, u39, u40, u41, u42, u43, u44, u45, u46, u47, u48, u49, u50, u51, u52, u53, ud, ud, ud, ud, ud, ud, ud, ud], []⟩ <| then_n <| n_ <| s_ <| tqr_ [0, 1, 2] <| pkq (pT b 0) ?_
      refine pcq 43 #[pT b 0] Tryz.func43 ((Rd.at_ (qs2 ▸ h176)).mono ?_)
      rintro e w1 ⟨rfl, rfl⟩
      refine ⟨_, rfl, ?_⟩
      refine pkq (.int .i64 s2.pos) <| eqr_ [0, 1, 2, 3] <| pkq (pT b 0) ?_
      have hKs11 := K179.size
      have hr2_11 := lt_of_block h175
      have hgx_11 := lt_of_block h178
      have hvl_11 : ∀ j, v.ownBlock = some j → j < V174.heap.size := fun j hj => h177.lt hj
      refine pcq 45 #[pT b 0] Tryz.func45 ((rdu_is hke qs3 (Rd.u (qs2 ▸ h176))).mono ?_)
      rintro e V181 ⟨rfl, Fc, hRV181, hSV181⟩
      have hd_Fc : ∀ j, Fc j → w.heap.size ≤ j ∧ j ≠ r2 ∧ j ≠ gx ∧ ¬ v.ownBlock = some j := fun j h => (hSV181.2 j h).elim (hd_Fa j) (fun h => ⟨by omega, by omega, by omega, fun e => by have := hvl_11 j e; omega⟩)
      refine ⟨_, rfl, ?_⟩
      have h182 : V181.heap[r2]? = some (.cells (#[.int .i64 0, .int .i64 0]) 31 (0, 0)) := (hSV181.1.block r2 (lt_of_block h175) (fun e => by have := hd_Fa _ e; omega)).trans h175
      have h183 : Row V181 46 2 v out.length (out.flatMap Nt.cl) := h177.keeps hSV181.1 (fun j hj e => (hd_Fa j e).2.2.2 hj)
      have h184 : V181.heap[gx]? = some (.cells (#[.int .i64 hh, .int .u64 0]) 46 (0, 0)) := (hSV181.1.block gx (lt_of_block h178) (fun e => by have := hd_Fa _ e; omega)).trans h178
      have K185 : Keeps Nob w V181 := K179.then hSV181.1 (fun k hi hm => absurd hi (by have := (hd_Fa k hm).1; omega))
      have z186 := hSV181.1.size
      refine pkq (pT gx 1) <| pce 40 gx 1 (uN kk) (#[.int .i64 hh, .int .u64 ((kk : Nat) : Int)]) h184 (rc (h184) (by kernel_rfl)) (by kernel_rfl) (u := .int .u64 0) fun V187 h188 kV187 => ?_
      have h189 := kV187.bO h182
      have h190 : Row V187 46 2 v out.length (out.flatMap Nt.cl) := h183.keeps kV187 (fun j hj e => by have := hvx j hj; unfold Own.One at e; omega)
      have h191 : Rd V187 Fc b l s3 := hRV181.keeps kV187 (fun j hj e => by have := hd_Fc j hj; unfold Own.One at e; omega)
      have K192 := K185.nO kV187
      have z193 := kV187.size
      refine eq_ <| qr_ [0, 1, 2] <| pkq (pT gx 1) <| ppq (uN kk) (ldk 40 gx 1 h188) <| ppq (.bool false) (dcf ((((kk : Nat) : Int)) > ((4611686018427387904) : Int)) (by omega)) <| en_ <| s_ <| tr_ [0, 1, 2, 3, 4] <| pkq (v) <| ppq (.agg #[.int .i64 hh, uN kk]) (ldr 46 gx (h188) (by kernel_rfl)) ?_
      obtain ⟨V194, eV194, lit, elit, h195, kV194⟩ := alloc_step V187 (#[.int .i64 hh, .int .u64 ((kk : Nat) : Int)]) 46
      have n196 : r2 < lit := elit ▸ lt_of_block h189
      have n197 : gx < lit := elit ▸ lt_of_block h188
      have n198 : w.heap.size ≤ lit := elit ▸ K192.size
      refine prq (.slice (some ⟨lit, 0, none⟩) 1 1) (w' := V194) (by rw [← eV194, ← elit]; kernel_rfl) ?_
      have h199 := kV194.bk h189
      have h200 : Row V194 46 2 v out.length (out.flatMap Nt.cl) := h190.keeps kV194 (fun _ _ x => x)
      have h201 : Rd V194 Fc b l s3 := h191.keepsN kV194
      have K203 := K192.nn kV194
      have z204 := kV194.size
      obtain ⟨vn, V205, hr206, h207, hg208, hn209, ha210⟩ := run_append_any (P := Tryz.prog) (w := V194) 22 (Oper.type (qo76_0 501375 3)) 46 i2 (.agg #[.int .i64 0, .int .u64 0]) 2 16 Tryz.underlying22 hi2 hs0 hs1 hs2 rfl (by decide) v out.length (out.flatMap Nt.cl) h200 (.slice (some ⟨lit, 0, none⟩) 1 1) 1 (Nt.cl (⟨hh, kk⟩ : Nt)) (src_nt (x := ⟨hh, kk⟩) h195) (by unfold maxLen; omega) (by omega)
      have kV205 : Keeps (fun j => v.ownBlock = some j) V194 V205 := Keeps.rowAdd hg208
      have hw211 : NewFrom w.heap.size vn := hnw.next K203.size ha210
      refine prq vn (w' := V205) (exec_append (.tmp 49) (.tmp 51) 22 (by kernel_rfl) v (.slice (some ⟨lit, 0, none⟩) 1 1) (by kernel_rfl) (by kernel_rfl) hr206) ?_
      have h212 : Row V205 46 2 vn ((out ++ [(⟨hh, kk⟩ : Nt)]).length) ((out ++ [(⟨hh, kk⟩ : Nt)]).flatMap Nt.cl) := (row_nt rfl h207)
      have hnwn := hw211
      have hdn : ∀ j, Fc j → w.heap.size ≤ j ∧ j ≠ r2 ∧ ¬ vn.ownBlock = some j := fun j h => ⟨(hd_Fc j h).1, (hd_Fc j h).2.1, fun e => (ha210 j e).elim (fun q => (hd_Fc j h).2.2.2 q) (fun q => by have := Rd.lt h201 j h; omega)⟩
      have h213 : V205.heap[r2]? = some (.cells (#[.int .i64 0, .int .i64 0]) 31 (0, 0)) := (kV205.block r2 (lt_of_block h199) (fun e => Row.ne h200 h199 (by decide) e)).trans h199
      have h214 : Rd V205 Fc b l s3 := h201.keeps kV205 (fun j hj e => (hd_Fc j hj).2.2.2 e)
      have K215 : Keeps Nob w V205 := K203.then kV205 (fun i hi hm => absurd hi (by have := hnw i hm; omega))
      have z216 := kV205.size
      refine pkq (vn) <| ps_end <| blk_n <| tr_ [0, 1] <| ppq (iN (i + 1)) (exec_cast (congrArg (Value.int .i64) (wrapN (i + 1) (by omega))) (by kernel_rfl)) <| pkq (iN (i + 1)) <| et_ ?_
      refine ⟨⟨(i + 1), (out ++ [(⟨hh, kk⟩ : Nt)]), s4, vn, Fc, (iN i), (.int .i64 s2.pos), (pT gx 0), (.bool true), (iN i), (pT b 0), (.int .i64 s.pos), (pT b 0), (.int .i64 hh), (.agg #[.int .i64 hh, .int .u64 0]), (iN i), (.bool true), (.bool true), (pT gx 0), (.int .i64 hh), v, (iN i), (iN ((i - 1))), (.pointer (some ⟨b_, o_ + (i - 1) * 2, none⟩)), (.pointer (some ⟨b_, o_ + (i - 1) * 2, none⟩)), (.int .i64 y.h), (.bool false), (.bool false), u35, u36, u37, (pT b 0), (.int .i64 s2.pos), (pT b 0), (uN kk), (pT gx 1), (pT gx 1), (uN kk), (.bool false), u46, u47, u48, v, (.agg #[.int .i64 hh, uN kk]), (.slice (some ⟨lit, 0, none⟩) 1 1), vn, (iN (i + 1)), by kernel_rfl, by omega, by simp [hout], hpn, hdn, hnwn, h213, (qs4 ▸ h214), h212, K215⟩, ?_⟩
      exact lt_meas (x := m - (i + 1)) (y := m - i) (by kernel_rfl) (by kernel_rfl) (by omega)
    · skip
      obtain ⟨hh, hhe⟩ : ∃ x, nrH l s = x := ⟨_, rfl⟩
      obtain ⟨s1, qs1⟩ : ∃ x, (rdN l s 1 4294967296).2 = x := ⟨_, rfl⟩
      obtain ⟨s2, qs2e⟩ : ∃ x, nrS l out s = x := ⟨_, rfl⟩
      obtain ⟨kk, hke⟩ : ∃ x, nrK l s2 = x := ⟨_, rfl⟩
      obtain ⟨s3, qs3⟩ : ∃ x, (rdU l s2).2 = x := ⟨_, rfl⟩
      obtain ⟨s4, qs4e⟩ : ∃ x, nrT l s2 = x := ⟨_, rfl⟩
      have hhb := nrH_le l s
      have hkb := nrK_lt l s2
      have hpn := nrgo_step lt_i hp
      rw [qs2e] at hbig hpn
      rw [hke] at hbig hkb hpn
      rw [hhe] at hhb hpn
      rw [qs4e] at hpn
      obtain ⟨y, hy, hy2, hyc⟩ := hyy
      obtain ⟨b_, o_, c_, hv_, hb_, _⟩ := (row_nts h17).at_ (i - 1) _ hy
      have qs2 : s1 = s2 := by rw [← qs1, ← qs2e, nrS_not hy2 hyc]
      rw [hhe] at hyc
      have qs4 : s3.fail 3 s2.pos = s4 := by rw [← qs4e, ← qs3]; unfold nrT; rw [hke, if_pos hbig]
      refine qr_ [0] <| ppq (.bool true) (dct ((((i : Nat) : Int)) < (((m : Nat) : Int))) (by omega)) <| eq_ <| y_ <| s_ <| tq_ <| bl_ 1 <| qr_ [0, 1] <| pkq (iN i) <| pkq (iN i) <| eqr_ [0, 1, 2] <| pkq (pT b 0) ?_
      refine pcq 43 #[pT b 0] Tryz.func43 ((Rd.at_ h16).mono ?_)
      rintro e w1 ⟨rfl, rfl⟩
      refine ⟨_, rfl, ?_⟩
      refine pkq (.int .i64 s.pos) <| eqr_ [0, 1, 2, 3, 4] <| pkq (pT b 0) ?_
      have hKs7 := K18.size
      have hr2_7 := lt_of_block h15
      have hvl_7 : ∀ j, v.ownBlock = some j → j < V14.heap.size := fun j hj => h17.lt hj
      refine pcq 42 #[pT b 0, .int .i64 1, .int .i64 4294967296] Tryz.func42 ((rdn_is hhe qs1 (Rd.n h16 1 4294967296 (by decide) (by decide))).mono ?_)
      rintro e V217 ⟨rfl, Fa, hRa, hSa⟩
      have hrowa : Row V217 46 2 v out.length (out.flatMap Nt.cl) := h17.keeps hSa.1 (fun j hj e => (hd_i j e).2.2 hj)
      have hda : ∀ j, Fa j → w.heap.size ≤ j ∧ j ≠ r2 ∧ ¬ v.ownBlock = some j := fun j h => (hSa.2 j h).elim (hd_i j) (fun h => ⟨by omega, by omega, fun e => by have := hvl_7 j e; omega⟩)
      have hlta := Rd.lt hRa
      have hvla : ∀ j, v.ownBlock = some j → j < V217.heap.size := fun j hj => hrowa.lt hj
      refine ⟨_, rfl, ?_⟩
      have h218 : V217.heap[r2]? = some (.cells (#[.int .i64 0, .int .i64 0]) 31 (0, 0)) := (hSa.1.block r2 (lt_of_block h15) (fun e => (hd_i _ e).2.1 rfl)).trans h15
      have K219 : Keeps Nob w V217 := K18.then hSa.1 (fun k hi hm => absurd hi (by have := (hd_i k hm).1; omega))
      have z220 := hSa.1.size
      refine pkq (.agg #[.int .i64 hh, .int .u64 0]) <| pal 46 (#[.int .i64 0, .int .u64 0]) (.agg (#[.int .i64 0, .int .u64 0])) fun V221 gx egx h222 kV221 => ?_
      have n223 : r2 < gx := egx ▸ lt_of_block h218
      have n224 : w.heap.size ≤ gx := egx ▸ K219.size
      have h225 := kV221.bk h218
      have h226 : Rd V221 Fa b l s1 := hRa.keepsN kV221
      have h227 : Row V221 46 2 v out.length (out.flatMap Nt.cl) := hrowa.keeps kV221 (fun _ _ x => x)
      have K228 := K219.nn kV221
      have z229 := kV221.size
      obtain ⟨V230, eV230, kV230⟩ := rowset_step V221 gx (#[.int .i64 hh, .int .u64 0])
      have hvx : ∀ j, v.ownBlock = some j → j ≠ gx := fun j hj => by have := hvla j hj; omega
      have hd_Fa : ∀ j, Fa j → w.heap.size ≤ j ∧ j ≠ r2 ∧ j ≠ gx ∧ ¬ v.ownBlock = some j := fun j hj => ⟨(hda j hj).1, (hda j hj).2.1, by have := hlta j hj; omega, (hda j hj).2.2⟩
      have h231 : V230.heap[gx]? = some (.cells (#[.int .i64 hh, .int .u64 0]) 46 (0, 0)) := eV230 ▸ setRow_heap _ _ _ _ _ _ h222
      refine pzq (w' := V230) (by rw [← eV230]; exact exec_store_row 46 (.tmp 8) (.tmp 21) (by kernel_rfl) gx (#[.int .i64 hh, .int .u64 0]) (by kernel_rfl) (by kernel_rfl) 46 (#[.int .i64 0, .int .u64 0]) h222 (by kernel_rfl) rfl (by kernel_rfl)) ?_
      clear eV230
      have h232 := kV230.bO h225
      have h233 : Rd V230 Fa b l s1 := h226.keeps kV230 (fun j hj e => by have := hlta j hj; unfold Own.One at e; omega)
      have h234 : Row V230 46 2 v out.length (out.flatMap Nt.cl) := h227.keeps kV230 (fun j hj e => by have := hvla j hj; unfold Own.One at e; omega)
      have K235 := K228.nO kV230
      have z236 := kV230.size
      refine eq_ <| q_ <| sy_reg <| rg_still 8 12 (opsAt (qc76_0 125340)) [qo76_0 125340 0, qo76_0 125340 1, qo76_0 125340 2, qo76_0 125340 3, qo76_0 125340 4, qo76_0 125340 5, qo76_0 125340 6, qo76_0 125340 7, qo76_0 125340 8, qo76_0 125340 9, qo76_0 125340 10, qo76_0 125340 11] [qo76_0 125340 12] (by kernel_rfl) (by kernel_rfl) (by kernel_rfl) (by kernel_rfl) (by kernel_rfl) ?_
      obtain ⟨V238, eV238, kV238⟩ := drew_step V230
      rw [eV238]
      clear eV238
      have h239 := kV238.bk h232
      have h240 : Rd V238 Fa b l s1 := h233.keepsN kV238
      have h241 : Row V238 46 2 v out.length (out.flatMap Nt.cl) := h234.keeps kV238 (fun _ _ x => x)
      have h242 := kV238.bk h231
      have K243 := K235.nn kV238
      have z244 := kV238.size
      refine skq (iN i) <| spq (.bool true) (dct ((((i : Nat) : Int)) > ((0) : Int)) (by omega)) <| skq (.bool true) <| skq (pT gx 0) <| spq (.int .i64 hh) (ldk 3 gx 0 h242) <| skq (v) <| skq (iN i) <| spq (iN ((i - 1))) (exec_cast (congrArg (Value.int .i64) (wrapI (((i : Nat) : Int) - 1) ((i - 1 : Nat) : Int) (by omega) (by omega) (by omega))) (by kernel_rfl)) <| spq (.pointer (some ⟨b_, o_ + (i - 1) * 2, none⟩)) (exec_indexAt_slice 22 (.tmp 27) (.tmp 29) (by kernel_rfl) b_ o_ out.length c_ (Eq.trans (b := v) (by kernel_rfl) hv_) .i64 (i - 1) (by kernel_rfl) _ 2 Tryz.underlying22 (by kernel_rfl) (by omega)) <| skq (.pointer (some ⟨b_, o_ + (i - 1) * 2, none⟩)) <| spq (.int .i64 y.h) (exec_ld 3 (.tmp 31) b_ (o_ + (i - 1) * 2 + 0) Tryz.underlying3 (Sl.cell (row_nts h241) hy hv_ rfl)) <| spq (.bool false) (dcf (((hh) : Int) < ((y.h) : Int)) (by omega)) <| st_end <| ls_run (qo76_0 125340 12) (.bool false) (w' := V238) (by kernel_rfl) (by kernel_rfl) ?_
      refine ls_end <| sy_a ⟨#[v0, ud, .slice none 0 0, pT r2 0, pT b 0, v, iN i, .int .i64 s.pos, pT gx 0, ud, v0, pT b 0, pT b 0, iN m, iN i, .bool true, iN i, pT b 0, .int .i64 s.pos, pT b 0, .int .i64 hh, .agg #[.int .i64 hh, .int .u64 0], iN i, .bool true, .bool true, pT gx 0, .int .i64 hh, v, iN i, iN ((i - 1)), .pointer (some ⟨b_, o_ + (i - 1) * 2, none⟩), .pointer (some ⟨b_, o_ + (i - 1) * 2, none⟩), .int .i64 y.h, .bool false, .bool false, u35, u36, u37, u38, u39, u40, u41, u42, u43, u44, u45, u46, u47, u48, u49, u50, u51, u52, u53, ud, ud, ud, ud, ud, ud, ud, ud], []⟩ <| then_n <| n_ <| s_ <| tqr_ [0, 1, 2] <| pkq (pT b 0) ?_
      refine pcq 43 #[pT b 0] Tryz.func43 ((Rd.at_ (qs2 ▸ h240)).mono ?_)
      rintro e w1 ⟨rfl, rfl⟩
      refine ⟨_, rfl, ?_⟩
      refine pkq (.int .i64 s2.pos) <| eqr_ [0, 1, 2, 3] <| pkq (pT b 0) ?_
      have hKs11 := K243.size
      have hr2_11 := lt_of_block h239
      have hgx_11 := lt_of_block h242
      have hvl_11 : ∀ j, v.ownBlock = some j → j < V238.heap.size := fun j hj => h241.lt hj
      refine pcq 45 #[pT b 0] Tryz.func45 ((rdu_is hke qs3 (Rd.u (qs2 ▸ h240))).mono ?_)
      rintro e V245 ⟨rfl, Fc, hRV245, hSV245⟩
      have hd_Fc : ∀ j, Fc j → w.heap.size ≤ j ∧ j ≠ r2 ∧ j ≠ gx ∧ ¬ v.ownBlock = some j := fun j h => (hSV245.2 j h).elim (hd_Fa j) (fun h => ⟨by omega, by omega, by omega, fun e => by have := hvl_11 j e; omega⟩)
      refine ⟨_, rfl, ?_⟩
      have h246 : V245.heap[r2]? = some (.cells (#[.int .i64 0, .int .i64 0]) 31 (0, 0)) := (hSV245.1.block r2 (lt_of_block h239) (fun e => by have := hd_Fa _ e; omega)).trans h239
      have h247 : Row V245 46 2 v out.length (out.flatMap Nt.cl) := h241.keeps hSV245.1 (fun j hj e => (hd_Fa j e).2.2.2 hj)
      have h248 : V245.heap[gx]? = some (.cells (#[.int .i64 hh, .int .u64 0]) 46 (0, 0)) := (hSV245.1.block gx (lt_of_block h242) (fun e => by have := hd_Fa _ e; omega)).trans h242
      have K249 : Keeps Nob w V245 := K243.then hSV245.1 (fun k hi hm => absurd hi (by have := (hd_Fa k hm).1; omega))
      have z250 := hSV245.1.size
      refine pkq (pT gx 1) <| pce 40 gx 1 (uN kk) (#[.int .i64 hh, .int .u64 ((kk : Nat) : Int)]) h248 (rc (h248) (by kernel_rfl)) (by kernel_rfl) (u := .int .u64 0) fun V251 h252 kV251 => ?_
      have h253 := kV251.bO h246
      have h254 : Row V251 46 2 v out.length (out.flatMap Nt.cl) := h247.keeps kV251 (fun j hj e => by have := hvx j hj; unfold Own.One at e; omega)
      have h255 : Rd V251 Fc b l s3 := hRV245.keeps kV251 (fun j hj e => by have := hd_Fc j hj; unfold Own.One at e; omega)
      have K256 := K249.nO kV251
      have z257 := kV251.size
      refine eq_ <| qr_ [0, 1, 2] <| pkq (pT gx 1) <| ppq (uN kk) (ldk 40 gx 1 h252) <| ppq (.bool true) (dct ((((kk : Nat) : Int)) > ((4611686018427387904) : Int)) (by omega)) <| ey_ <| r_ [0, 1, 2] <| pkq (pT b 0) <| pkq (.int .i64 s2.pos) ?_
      have hKs13 := K256.size
      have hr2_13 := lt_of_block h253
      have hgx_13 := lt_of_block h252
      have hvl_13 : ∀ j, v.ownBlock = some j → j < V251.heap.size := fun j hj => h254.lt hj
      refine pcq 44 #[pT b 0, .int .i64 3, .int .i64 s2.pos] Tryz.func44 ((Rd.fail h255 3 s2.pos).mono ?_)
      rintro e V258 ⟨⟨rv13, rfl⟩, Fd, hRV258, hSV258⟩
      have hd_Fd : ∀ j, Fd j → w.heap.size ≤ j ∧ j ≠ r2 ∧ j ≠ gx ∧ ¬ v.ownBlock = some j := fun j h => (hSV258.2 j h).elim (hd_Fc j) (fun h => ⟨by omega, by omega, by omega, fun e => by have := hvl_13 j e; omega⟩)
      refine ⟨_, rfl, ?_⟩
      have h259 : V258.heap[r2]? = some (.cells (#[.int .i64 0, .int .i64 0]) 31 (0, 0)) := (hSV258.1.block r2 (lt_of_block h253) (fun e => by have := hd_Fc _ e; omega)).trans h253
      have h260 : Row V258 46 2 v out.length (out.flatMap Nt.cl) := h254.keeps hSV258.1 (fun j hj e => (hd_Fc j e).2.2.2 hj)
      have h261 : V258.heap[gx]? = some (.cells (#[.int .i64 hh, .int .u64 ((kk : Nat) : Int)]) 46 (0, 0)) := (hSV258.1.block gx (lt_of_block h252) (fun e => by have := hd_Fc _ e; omega)).trans h252
      have K262 : Keeps Nob w V258 := K256.then hSV258.1 (fun k hi hm => absurd hi (by have := (hd_Fc k hm).1; omega))
      have z263 := hSV258.1.size
      refine er_ [0, 1, 2, 3, 4] <| pkq (v) <| ppq (.agg #[.int .i64 hh, uN kk]) (ldr 46 gx (h261) (by kernel_rfl)) ?_
      obtain ⟨V264, eV264, lit, elit, h265, kV264⟩ := alloc_step V258 (#[.int .i64 hh, .int .u64 ((kk : Nat) : Int)]) 46
      have n266 : r2 < lit := elit ▸ lt_of_block h259
      have n267 : gx < lit := elit ▸ lt_of_block h261
      have n268 : w.heap.size ≤ lit := elit ▸ K262.size
      refine prq (.slice (some ⟨lit, 0, none⟩) 1 1) (w' := V264) (by rw [← eV264, ← elit]; kernel_rfl) ?_
      have h269 := kV264.bk h259
      have h270 : Row V264 46 2 v out.length (out.flatMap Nt.cl) := h260.keeps kV264 (fun _ _ x => x)
      have h272 : Rd V264 Fd b l s4 := (qs4 ▸ hRV258).keepsN kV264
      have K273 := K262.nn kV264
      have z274 := kV264.size
      obtain ⟨vn, V275, hr276, h277, hg278, hn279, ha280⟩ := run_append_any (P := Tryz.prog) (w := V264) 22 (Oper.type (qo76_0 501375 3)) 46 i2 (.agg #[.int .i64 0, .int .u64 0]) 2 16 Tryz.underlying22 hi2 hs0 hs1 hs2 rfl (by decide) v out.length (out.flatMap Nt.cl) h270 (.slice (some ⟨lit, 0, none⟩) 1 1) 1 (Nt.cl (⟨hh, kk⟩ : Nt)) (src_nt (x := ⟨hh, kk⟩) h265) (by unfold maxLen; omega) (by omega)
      have kV275 : Keeps (fun j => v.ownBlock = some j) V264 V275 := Keeps.rowAdd hg278
      have hw281 : NewFrom w.heap.size vn := hnw.next K273.size ha280
      refine prq vn (w' := V275) (exec_append (.tmp 49) (.tmp 51) 22 (by kernel_rfl) v (.slice (some ⟨lit, 0, none⟩) 1 1) (by kernel_rfl) (by kernel_rfl) hr276) ?_
      have h282 : Row V275 46 2 vn ((out ++ [(⟨hh, kk⟩ : Nt)]).length) ((out ++ [(⟨hh, kk⟩ : Nt)]).flatMap Nt.cl) := (row_nt rfl h277)
      have hnwn := hw281
      have hdn : ∀ j, Fd j → w.heap.size ≤ j ∧ j ≠ r2 ∧ ¬ vn.ownBlock = some j := fun j h => ⟨(hd_Fd j h).1, (hd_Fd j h).2.1, fun e => (ha280 j e).elim (fun q => (hd_Fd j h).2.2.2 q) (fun q => by have := Rd.lt h272 j h; omega)⟩
      have h283 : V275.heap[r2]? = some (.cells (#[.int .i64 0, .int .i64 0]) 31 (0, 0)) := (kV275.block r2 (lt_of_block h269) (fun e => Row.ne h270 h269 (by decide) e)).trans h269
      have h284 : Rd V275 Fd b l s4 := h272.keeps kV275 (fun j hj e => (hd_Fd j hj).2.2.2 e)
      have K285 : Keeps Nob w V275 := K273.then kV275 (fun i hi hm => absurd hi (by have := hnw i hm; omega))
      have z286 := kV275.size
      refine pkq (vn) <| ps_end <| blk_n <| tr_ [0, 1] <| ppq (iN (i + 1)) (exec_cast (congrArg (Value.int .i64) (wrapN (i + 1) (by omega))) (by kernel_rfl)) <| pkq (iN (i + 1)) <| et_ ?_
      refine ⟨⟨(i + 1), (out ++ [(⟨hh, kk⟩ : Nt)]), s4, vn, Fd, (iN i), (.int .i64 s2.pos), (pT gx 0), (.bool true), (iN i), (pT b 0), (.int .i64 s.pos), (pT b 0), (.int .i64 hh), (.agg #[.int .i64 hh, .int .u64 0]), (iN i), (.bool true), (.bool true), (pT gx 0), (.int .i64 hh), v, (iN i), (iN ((i - 1))), (.pointer (some ⟨b_, o_ + (i - 1) * 2, none⟩)), (.pointer (some ⟨b_, o_ + (i - 1) * 2, none⟩)), (.int .i64 y.h), (.bool false), (.bool false), u35, u36, u37, (pT b 0), (.int .i64 s2.pos), (pT b 0), (uN kk), (pT gx 1), (pT gx 1), (uN kk), (.bool true), (pT b 0), (.int .i64 s2.pos), rv13, v, (.agg #[.int .i64 hh, uN kk]), (.slice (some ⟨lit, 0, none⟩) 1 1), vn, (iN (i + 1)), by kernel_rfl, by omega, by simp [hout], hpn, hdn, hnwn, h283, h284, h282, K285⟩, ?_⟩
      exact lt_meas (x := m - (i + 1)) (y := m - i) (by kernel_rfl) (by kernel_rfl) (by omega)
    · skip
      obtain ⟨hh, hhe⟩ : ∃ x, nrH l s = x := ⟨_, rfl⟩
      obtain ⟨s1, qs1⟩ : ∃ x, (rdN l s 1 4294967296).2 = x := ⟨_, rfl⟩
      obtain ⟨s2, qs2e⟩ : ∃ x, nrS l out s = x := ⟨_, rfl⟩
      obtain ⟨kk, hke⟩ : ∃ x, nrK l s2 = x := ⟨_, rfl⟩
      obtain ⟨s3, qs3⟩ : ∃ x, (rdU l s2).2 = x := ⟨_, rfl⟩
      obtain ⟨s4, qs4e⟩ : ∃ x, nrT l s2 = x := ⟨_, rfl⟩
      have hhb := nrH_le l s
      have hkb := nrK_lt l s2
      have hpn := nrgo_step lt_i hp
      rw [qs2e] at hbig hpn
      rw [hke] at hbig hkb hpn
      rw [hhe] at hhb hpn
      rw [qs4e] at hpn
      obtain ⟨y, hy, hy2, hyc⟩ := hyy
      obtain ⟨b_, o_, c_, hv_, hb_, _⟩ := (row_nts h17).at_ (i - 1) _ hy
      have qs2 : s1.fail 9 s.pos = s2 := by rw [← qs1, ← qs2e, nrS_yes hy2 hyc]
      rw [hhe] at hyc
      have qs4 : s3 = s4 := by rw [← qs4e, ← qs3]; unfold nrT; rw [hke, if_neg hbig]
      refine qr_ [0] <| ppq (.bool true) (dct ((((i : Nat) : Int)) < (((m : Nat) : Int))) (by omega)) <| eq_ <| y_ <| s_ <| tq_ <| bl_ 1 <| qr_ [0, 1] <| pkq (iN i) <| pkq (iN i) <| eqr_ [0, 1, 2] <| pkq (pT b 0) ?_
      refine pcq 43 #[pT b 0] Tryz.func43 ((Rd.at_ h16).mono ?_)
      rintro e w1 ⟨rfl, rfl⟩
      refine ⟨_, rfl, ?_⟩
      refine pkq (.int .i64 s.pos) <| eqr_ [0, 1, 2, 3, 4] <| pkq (pT b 0) ?_
      have hKs7 := K18.size
      have hr2_7 := lt_of_block h15
      have hvl_7 : ∀ j, v.ownBlock = some j → j < V14.heap.size := fun j hj => h17.lt hj
      refine pcq 42 #[pT b 0, .int .i64 1, .int .i64 4294967296] Tryz.func42 ((rdn_is hhe qs1 (Rd.n h16 1 4294967296 (by decide) (by decide))).mono ?_)
      rintro e V287 ⟨rfl, Fa, hRa, hSa⟩
      have hrowa : Row V287 46 2 v out.length (out.flatMap Nt.cl) := h17.keeps hSa.1 (fun j hj e => (hd_i j e).2.2 hj)
      have hda : ∀ j, Fa j → w.heap.size ≤ j ∧ j ≠ r2 ∧ ¬ v.ownBlock = some j := fun j h => (hSa.2 j h).elim (hd_i j) (fun h => ⟨by omega, by omega, fun e => by have := hvl_7 j e; omega⟩)
      have hlta := Rd.lt hRa
      have hvla : ∀ j, v.ownBlock = some j → j < V287.heap.size := fun j hj => hrowa.lt hj
      refine ⟨_, rfl, ?_⟩
      have h288 : V287.heap[r2]? = some (.cells (#[.int .i64 0, .int .i64 0]) 31 (0, 0)) := (hSa.1.block r2 (lt_of_block h15) (fun e => (hd_i _ e).2.1 rfl)).trans h15
      have K289 : Keeps Nob w V287 := K18.then hSa.1 (fun k hi hm => absurd hi (by have := (hd_i k hm).1; omega))
      have z290 := hSa.1.size
      refine pkq (.agg #[.int .i64 hh, .int .u64 0]) <| pal 46 (#[.int .i64 0, .int .u64 0]) (.agg (#[.int .i64 0, .int .u64 0])) fun V291 gx egx h292 kV291 => ?_
      have n293 : r2 < gx := egx ▸ lt_of_block h288
      have n294 : w.heap.size ≤ gx := egx ▸ K289.size
      have h295 := kV291.bk h288
      have h296 : Rd V291 Fa b l s1 := hRa.keepsN kV291
      have h297 : Row V291 46 2 v out.length (out.flatMap Nt.cl) := hrowa.keeps kV291 (fun _ _ x => x)
      have K298 := K289.nn kV291
      have z299 := kV291.size
      obtain ⟨V300, eV300, kV300⟩ := rowset_step V291 gx (#[.int .i64 hh, .int .u64 0])
      have hvx : ∀ j, v.ownBlock = some j → j ≠ gx := fun j hj => by have := hvla j hj; omega
      have hd_Fa : ∀ j, Fa j → w.heap.size ≤ j ∧ j ≠ r2 ∧ j ≠ gx ∧ ¬ v.ownBlock = some j := fun j hj => ⟨(hda j hj).1, (hda j hj).2.1, by have := hlta j hj; omega, (hda j hj).2.2⟩
      have h301 : V300.heap[gx]? = some (.cells (#[.int .i64 hh, .int .u64 0]) 46 (0, 0)) := eV300 ▸ setRow_heap _ _ _ _ _ _ h292
      refine pzq (w' := V300) (by rw [← eV300]; exact exec_store_row 46 (.tmp 8) (.tmp 21) (by kernel_rfl) gx (#[.int .i64 hh, .int .u64 0]) (by kernel_rfl) (by kernel_rfl) 46 (#[.int .i64 0, .int .u64 0]) h292 (by kernel_rfl) rfl (by kernel_rfl)) ?_
      clear eV300
      have h302 := kV300.bO h295
      have h303 : Rd V300 Fa b l s1 := h296.keeps kV300 (fun j hj e => by have := hlta j hj; unfold Own.One at e; omega)
      have h304 : Row V300 46 2 v out.length (out.flatMap Nt.cl) := h297.keeps kV300 (fun j hj e => by have := hvla j hj; unfold Own.One at e; omega)
      have K305 := K298.nO kV300
      have z306 := kV300.size
      refine eq_ <| q_ <| sy_reg <| rg_still 8 12 (opsAt (qc76_0 125340)) [qo76_0 125340 0, qo76_0 125340 1, qo76_0 125340 2, qo76_0 125340 3, qo76_0 125340 4, qo76_0 125340 5, qo76_0 125340 6, qo76_0 125340 7, qo76_0 125340 8, qo76_0 125340 9, qo76_0 125340 10, qo76_0 125340 11] [qo76_0 125340 12] (by kernel_rfl) (by kernel_rfl) (by kernel_rfl) (by kernel_rfl) (by kernel_rfl) ?_
      obtain ⟨V308, eV308, kV308⟩ := drew_step V300
      rw [eV308]
      clear eV308
      have h309 := kV308.bk h302
      have h310 : Rd V308 Fa b l s1 := h303.keepsN kV308
      have h311 : Row V308 46 2 v out.length (out.flatMap Nt.cl) := h304.keeps kV308 (fun _ _ x => x)
      have h312 := kV308.bk h301
      have K313 := K305.nn kV308
      have z314 := kV308.size
      refine skq (iN i) <| spq (.bool true) (dct ((((i : Nat) : Int)) > ((0) : Int)) (by omega)) <| skq (.bool true) <| skq (pT gx 0) <| spq (.int .i64 hh) (ldk 3 gx 0 h312) <| skq (v) <| skq (iN i) <| spq (iN ((i - 1))) (exec_cast (congrArg (Value.int .i64) (wrapI (((i : Nat) : Int) - 1) ((i - 1 : Nat) : Int) (by omega) (by omega) (by omega))) (by kernel_rfl)) <| spq (.pointer (some ⟨b_, o_ + (i - 1) * 2, none⟩)) (exec_indexAt_slice 22 (.tmp 27) (.tmp 29) (by kernel_rfl) b_ o_ out.length c_ (Eq.trans (b := v) (by kernel_rfl) hv_) .i64 (i - 1) (by kernel_rfl) _ 2 Tryz.underlying22 (by kernel_rfl) (by omega)) <| skq (.pointer (some ⟨b_, o_ + (i - 1) * 2, none⟩)) <| spq (.int .i64 y.h) (exec_ld 3 (.tmp 31) b_ (o_ + (i - 1) * 2 + 0) Tryz.underlying3 (Sl.cell (row_nts h311) hy hv_ rfl)) <| spq (.bool true) (dct (((hh) : Int) < ((y.h) : Int)) (by omega)) <| st_end <| ls_run (qo76_0 125340 12) (.bool true) (w' := V308) (by kernel_rfl) (by kernel_rfl) ?_
      refine ls_end <| sy_a ⟨#[v0, ud, .slice none 0 0, pT r2 0, pT b 0, v, iN i, .int .i64 s.pos, pT gx 0, ud, v0, pT b 0, pT b 0, iN m, iN i, .bool true, iN i, pT b 0, .int .i64 s.pos, pT b 0, .int .i64 hh, .agg #[.int .i64 hh, .int .u64 0], iN i, .bool true, .bool true, pT gx 0, .int .i64 hh, v, iN i, iN ((i - 1)), .pointer (some ⟨b_, o_ + (i - 1) * 2, none⟩), .pointer (some ⟨b_, o_ + (i - 1) * 2, none⟩), .int .i64 y.h, .bool true, .bool true, u35, u36, u37, u38, u39, u40, u41, u42, u43, u44, u45, u46, u47, u48, u49, u50, u51, u52, u53, ud, ud, ud, ud, ud, ud, ud, ud], []⟩ <| then_n <| y_ <| r_ [0, 1, 2] <| pkq (pT b 0) <| pkq (.int .i64 s.pos) ?_
      have hKs9 := K313.size
      have hr2_9 := lt_of_block h309
      have hgx_9 := lt_of_block h312
      have hvl_9 : ∀ j, v.ownBlock = some j → j < V308.heap.size := fun j hj => h311.lt hj
      refine pcq 44 #[pT b 0, .int .i64 9, .int .i64 s.pos] Tryz.func44 ((Rd.fail h310 9 s.pos).mono ?_)
      rintro e V315 ⟨⟨rv9, rfl⟩, Fb, hRV315, hSV315⟩
      have hd_Fb : ∀ j, Fb j → w.heap.size ≤ j ∧ j ≠ r2 ∧ j ≠ gx ∧ ¬ v.ownBlock = some j := fun j h => (hSV315.2 j h).elim (hd_Fa j) (fun h => ⟨by omega, by omega, by omega, fun e => by have := hvl_9 j e; omega⟩)
      refine ⟨_, rfl, ?_⟩
      have h316 : V315.heap[r2]? = some (.cells (#[.int .i64 0, .int .i64 0]) 31 (0, 0)) := (hSV315.1.block r2 (lt_of_block h309) (fun e => by have := hd_Fa _ e; omega)).trans h309
      have h317 : Row V315 46 2 v out.length (out.flatMap Nt.cl) := h311.keeps hSV315.1 (fun j hj e => (hd_Fa j e).2.2.2 hj)
      have h318 : V315.heap[gx]? = some (.cells (#[.int .i64 hh, .int .u64 0]) 46 (0, 0)) := (hSV315.1.block gx (lt_of_block h312) (fun e => by have := hd_Fa _ e; omega)).trans h312
      have K319 : Keeps Nob w V315 := K313.then hSV315.1 (fun k hi hm => absurd hi (by have := (hd_Fa k hm).1; omega))
      have z320 := hSV315.1.size
      refine eqr_ [0, 1, 2] <| pkq (pT b 0) ?_
      refine pcq 43 #[pT b 0] Tryz.func43 ((Rd.at_ (qs2 ▸ hRV315)).mono ?_)
      rintro e w1 ⟨rfl, rfl⟩
      refine ⟨_, rfl, ?_⟩
      refine pkq (.int .i64 s2.pos) <| eqr_ [0, 1, 2, 3] <| pkq (pT b 0) ?_
      have hKs11 := K319.size
      have hr2_11 := lt_of_block h316
      have hgx_11 := lt_of_block h318
      have hvl_11 : ∀ j, v.ownBlock = some j → j < V315.heap.size := fun j hj => h317.lt hj
      refine pcq 45 #[pT b 0] Tryz.func45 ((rdu_is hke qs3 (Rd.u (qs2 ▸ hRV315))).mono ?_)
      rintro e V321 ⟨rfl, Fc, hRV321, hSV321⟩
      have hd_Fc : ∀ j, Fc j → w.heap.size ≤ j ∧ j ≠ r2 ∧ j ≠ gx ∧ ¬ v.ownBlock = some j := fun j h => (hSV321.2 j h).elim (hd_Fb j) (fun h => ⟨by omega, by omega, by omega, fun e => by have := hvl_11 j e; omega⟩)
      refine ⟨_, rfl, ?_⟩
      have h322 : V321.heap[r2]? = some (.cells (#[.int .i64 0, .int .i64 0]) 31 (0, 0)) := (hSV321.1.block r2 (lt_of_block h316) (fun e => by have := hd_Fb _ e; omega)).trans h316
      have h323 : Row V321 46 2 v out.length (out.flatMap Nt.cl) := h317.keeps hSV321.1 (fun j hj e => (hd_Fb j e).2.2.2 hj)
      have h324 : V321.heap[gx]? = some (.cells (#[.int .i64 hh, .int .u64 0]) 46 (0, 0)) := (hSV321.1.block gx (lt_of_block h318) (fun e => by have := hd_Fb _ e; omega)).trans h318
      have K325 : Keeps Nob w V321 := K319.then hSV321.1 (fun k hi hm => absurd hi (by have := (hd_Fb k hm).1; omega))
      have z326 := hSV321.1.size
      refine pkq (pT gx 1) <| pce 40 gx 1 (uN kk) (#[.int .i64 hh, .int .u64 ((kk : Nat) : Int)]) h324 (rc (h324) (by kernel_rfl)) (by kernel_rfl) (u := .int .u64 0) fun V327 h328 kV327 => ?_
      have h329 := kV327.bO h322
      have h330 : Row V327 46 2 v out.length (out.flatMap Nt.cl) := h323.keeps kV327 (fun j hj e => by have := hvx j hj; unfold Own.One at e; omega)
      have h331 : Rd V327 Fc b l s3 := hRV321.keeps kV327 (fun j hj e => by have := hd_Fc j hj; unfold Own.One at e; omega)
      have K332 := K325.nO kV327
      have z333 := kV327.size
      refine eq_ <| qr_ [0, 1, 2] <| pkq (pT gx 1) <| ppq (uN kk) (ldk 40 gx 1 h328) <| ppq (.bool false) (dcf ((((kk : Nat) : Int)) > ((4611686018427387904) : Int)) (by omega)) <| en_ <| s_ <| tr_ [0, 1, 2, 3, 4] <| pkq (v) <| ppq (.agg #[.int .i64 hh, uN kk]) (ldr 46 gx (h328) (by kernel_rfl)) ?_
      obtain ⟨V334, eV334, lit, elit, h335, kV334⟩ := alloc_step V327 (#[.int .i64 hh, .int .u64 ((kk : Nat) : Int)]) 46
      have n336 : r2 < lit := elit ▸ lt_of_block h329
      have n337 : gx < lit := elit ▸ lt_of_block h328
      have n338 : w.heap.size ≤ lit := elit ▸ K332.size
      refine prq (.slice (some ⟨lit, 0, none⟩) 1 1) (w' := V334) (by rw [← eV334, ← elit]; kernel_rfl) ?_
      have h339 := kV334.bk h329
      have h340 : Row V334 46 2 v out.length (out.flatMap Nt.cl) := h330.keeps kV334 (fun _ _ x => x)
      have h341 : Rd V334 Fc b l s3 := h331.keepsN kV334
      have K343 := K332.nn kV334
      have z344 := kV334.size
      obtain ⟨vn, V345, hr346, h347, hg348, hn349, ha350⟩ := run_append_any (P := Tryz.prog) (w := V334) 22 (Oper.type (qo76_0 501375 3)) 46 i2 (.agg #[.int .i64 0, .int .u64 0]) 2 16 Tryz.underlying22 hi2 hs0 hs1 hs2 rfl (by decide) v out.length (out.flatMap Nt.cl) h340 (.slice (some ⟨lit, 0, none⟩) 1 1) 1 (Nt.cl (⟨hh, kk⟩ : Nt)) (src_nt (x := ⟨hh, kk⟩) h335) (by unfold maxLen; omega) (by omega)
      have kV345 : Keeps (fun j => v.ownBlock = some j) V334 V345 := Keeps.rowAdd hg348
      have hw351 : NewFrom w.heap.size vn := hnw.next K343.size ha350
      refine prq vn (w' := V345) (exec_append (.tmp 49) (.tmp 51) 22 (by kernel_rfl) v (.slice (some ⟨lit, 0, none⟩) 1 1) (by kernel_rfl) (by kernel_rfl) hr346) ?_
      have h352 : Row V345 46 2 vn ((out ++ [(⟨hh, kk⟩ : Nt)]).length) ((out ++ [(⟨hh, kk⟩ : Nt)]).flatMap Nt.cl) := (row_nt rfl h347)
      have hnwn := hw351
      have hdn : ∀ j, Fc j → w.heap.size ≤ j ∧ j ≠ r2 ∧ ¬ vn.ownBlock = some j := fun j h => ⟨(hd_Fc j h).1, (hd_Fc j h).2.1, fun e => (ha350 j e).elim (fun q => (hd_Fc j h).2.2.2 q) (fun q => by have := Rd.lt h341 j h; omega)⟩
      have h353 : V345.heap[r2]? = some (.cells (#[.int .i64 0, .int .i64 0]) 31 (0, 0)) := (kV345.block r2 (lt_of_block h339) (fun e => Row.ne h340 h339 (by decide) e)).trans h339
      have h354 : Rd V345 Fc b l s3 := h341.keeps kV345 (fun j hj e => (hd_Fc j hj).2.2.2 e)
      have K355 : Keeps Nob w V345 := K343.then kV345 (fun i hi hm => absurd hi (by have := hnw i hm; omega))
      have z356 := kV345.size
      refine pkq (vn) <| ps_end <| blk_n <| tr_ [0, 1] <| ppq (iN (i + 1)) (exec_cast (congrArg (Value.int .i64) (wrapN (i + 1) (by omega))) (by kernel_rfl)) <| pkq (iN (i + 1)) <| et_ ?_
      refine ⟨⟨(i + 1), (out ++ [(⟨hh, kk⟩ : Nt)]), s4, vn, Fc, (iN i), (.int .i64 s2.pos), (pT gx 0), (.bool true), (iN i), (pT b 0), (.int .i64 s.pos), (pT b 0), (.int .i64 hh), (.agg #[.int .i64 hh, .int .u64 0]), (iN i), (.bool true), (.bool true), (pT gx 0), (.int .i64 hh), v, (iN i), (iN ((i - 1))), (.pointer (some ⟨b_, o_ + (i - 1) * 2, none⟩)), (.pointer (some ⟨b_, o_ + (i - 1) * 2, none⟩)), (.int .i64 y.h), (.bool true), (.bool true), (pT b 0), (.int .i64 s.pos), rv9, (pT b 0), (.int .i64 s2.pos), (pT b 0), (uN kk), (pT gx 1), (pT gx 1), (uN kk), (.bool false), u46, u47, u48, v, (.agg #[.int .i64 hh, uN kk]), (.slice (some ⟨lit, 0, none⟩) 1 1), vn, (iN (i + 1)), by kernel_rfl, by omega, by simp [hout], hpn, hdn, hnwn, h353, (qs4 ▸ h354), h352, K355⟩, ?_⟩
      exact lt_meas (x := m - (i + 1)) (y := m - i) (by kernel_rfl) (by kernel_rfl) (by omega)
    · skip
      obtain ⟨hh, hhe⟩ : ∃ x, nrH l s = x := ⟨_, rfl⟩
      obtain ⟨s1, qs1⟩ : ∃ x, (rdN l s 1 4294967296).2 = x := ⟨_, rfl⟩
      obtain ⟨s2, qs2e⟩ : ∃ x, nrS l out s = x := ⟨_, rfl⟩
      obtain ⟨kk, hke⟩ : ∃ x, nrK l s2 = x := ⟨_, rfl⟩
      obtain ⟨s3, qs3⟩ : ∃ x, (rdU l s2).2 = x := ⟨_, rfl⟩
      obtain ⟨s4, qs4e⟩ : ∃ x, nrT l s2 = x := ⟨_, rfl⟩
      have hhb := nrH_le l s
      have hkb := nrK_lt l s2
      have hpn := nrgo_step lt_i hp
      rw [qs2e] at hbig hpn
      rw [hke] at hbig hkb hpn
      rw [hhe] at hhb hpn
      rw [qs4e] at hpn
      obtain ⟨y, hy, hy2, hyc⟩ := hyy
      obtain ⟨b_, o_, c_, hv_, hb_, _⟩ := (row_nts h17).at_ (i - 1) _ hy
      have qs2 : s1.fail 9 s.pos = s2 := by rw [← qs1, ← qs2e, nrS_yes hy2 hyc]
      rw [hhe] at hyc
      have qs4 : s3.fail 3 s2.pos = s4 := by rw [← qs4e, ← qs3]; unfold nrT; rw [hke, if_pos hbig]
      refine qr_ [0] <| ppq (.bool true) (dct ((((i : Nat) : Int)) < (((m : Nat) : Int))) (by omega)) <| eq_ <| y_ <| s_ <| tq_ <| bl_ 1 <| qr_ [0, 1] <| pkq (iN i) <| pkq (iN i) <| eqr_ [0, 1, 2] <| pkq (pT b 0) ?_
      refine pcq 43 #[pT b 0] Tryz.func43 ((Rd.at_ h16).mono ?_)
      rintro e w1 ⟨rfl, rfl⟩
      refine ⟨_, rfl, ?_⟩
      refine pkq (.int .i64 s.pos) <| eqr_ [0, 1, 2, 3, 4] <| pkq (pT b 0) ?_
      have hKs7 := K18.size
      have hr2_7 := lt_of_block h15
      have hvl_7 : ∀ j, v.ownBlock = some j → j < V14.heap.size := fun j hj => h17.lt hj
      refine pcq 42 #[pT b 0, .int .i64 1, .int .i64 4294967296] Tryz.func42 ((rdn_is hhe qs1 (Rd.n h16 1 4294967296 (by decide) (by decide))).mono ?_)
      rintro e V357 ⟨rfl, Fa, hRa, hSa⟩
      have hrowa : Row V357 46 2 v out.length (out.flatMap Nt.cl) := h17.keeps hSa.1 (fun j hj e => (hd_i j e).2.2 hj)
      have hda : ∀ j, Fa j → w.heap.size ≤ j ∧ j ≠ r2 ∧ ¬ v.ownBlock = some j := fun j h => (hSa.2 j h).elim (hd_i j) (fun h => ⟨by omega, by omega, fun e => by have := hvl_7 j e; omega⟩)
      have hlta := Rd.lt hRa
      have hvla : ∀ j, v.ownBlock = some j → j < V357.heap.size := fun j hj => hrowa.lt hj
      refine ⟨_, rfl, ?_⟩
      have h358 : V357.heap[r2]? = some (.cells (#[.int .i64 0, .int .i64 0]) 31 (0, 0)) := (hSa.1.block r2 (lt_of_block h15) (fun e => (hd_i _ e).2.1 rfl)).trans h15
      have K359 : Keeps Nob w V357 := K18.then hSa.1 (fun k hi hm => absurd hi (by have := (hd_i k hm).1; omega))
      have z360 := hSa.1.size
      refine pkq (.agg #[.int .i64 hh, .int .u64 0]) <| pal 46 (#[.int .i64 0, .int .u64 0]) (.agg (#[.int .i64 0, .int .u64 0])) fun V361 gx egx h362 kV361 => ?_
      have n363 : r2 < gx := egx ▸ lt_of_block h358
      have n364 : w.heap.size ≤ gx := egx ▸ K359.size
      have h365 := kV361.bk h358
      have h366 : Rd V361 Fa b l s1 := hRa.keepsN kV361
      have h367 : Row V361 46 2 v out.length (out.flatMap Nt.cl) := hrowa.keeps kV361 (fun _ _ x => x)
      have K368 := K359.nn kV361
      have z369 := kV361.size
      obtain ⟨V370, eV370, kV370⟩ := rowset_step V361 gx (#[.int .i64 hh, .int .u64 0])
      have hvx : ∀ j, v.ownBlock = some j → j ≠ gx := fun j hj => by have := hvla j hj; omega
      have hd_Fa : ∀ j, Fa j → w.heap.size ≤ j ∧ j ≠ r2 ∧ j ≠ gx ∧ ¬ v.ownBlock = some j := fun j hj => ⟨(hda j hj).1, (hda j hj).2.1, by have := hlta j hj; omega, (hda j hj).2.2⟩
      have h371 : V370.heap[gx]? = some (.cells (#[.int .i64 hh, .int .u64 0]) 46 (0, 0)) := eV370 ▸ setRow_heap _ _ _ _ _ _ h362
      refine pzq (w' := V370) (by rw [← eV370]; exact exec_store_row 46 (.tmp 8) (.tmp 21) (by kernel_rfl) gx (#[.int .i64 hh, .int .u64 0]) (by kernel_rfl) (by kernel_rfl) 46 (#[.int .i64 0, .int .u64 0]) h362 (by kernel_rfl) rfl (by kernel_rfl)) ?_
      clear eV370
      have h372 := kV370.bO h365
      have h373 : Rd V370 Fa b l s1 := h366.keeps kV370 (fun j hj e => by have := hlta j hj; unfold Own.One at e; omega)
      have h374 : Row V370 46 2 v out.length (out.flatMap Nt.cl) := h367.keeps kV370 (fun j hj e => by have := hvla j hj; unfold Own.One at e; omega)
      have K375 := K368.nO kV370
      have z376 := kV370.size
      refine eq_ <| q_ <| sy_reg <| rg_still 8 12 (opsAt (qc76_0 125340)) [qo76_0 125340 0, qo76_0 125340 1, qo76_0 125340 2, qo76_0 125340 3, qo76_0 125340 4, qo76_0 125340 5, qo76_0 125340 6, qo76_0 125340 7, qo76_0 125340 8, qo76_0 125340 9, qo76_0 125340 10, qo76_0 125340 11] [qo76_0 125340 12] (by kernel_rfl) (by kernel_rfl) (by kernel_rfl) (by kernel_rfl) (by kernel_rfl) ?_
      obtain ⟨V378, eV378, kV378⟩ := drew_step V370
      rw [eV378]
      clear eV378
      have h379 := kV378.bk h372
      have h380 : Rd V378 Fa b l s1 := h373.keepsN kV378
      have h381 : Row V378 46 2 v out.length (out.flatMap Nt.cl) := h374.keeps kV378 (fun _ _ x => x)
      have h382 := kV378.bk h371
      have K383 := K375.nn kV378
      have z384 := kV378.size
      refine skq (iN i) <| spq (.bool true) (dct ((((i : Nat) : Int)) > ((0) : Int)) (by omega)) <| skq (.bool true) <| skq (pT gx 0) <| spq (.int .i64 hh) (ldk 3 gx 0 h382) <| skq (v) <| skq (iN i) <| spq (iN ((i - 1))) (exec_cast (congrArg (Value.int .i64) (wrapI (((i : Nat) : Int) - 1) ((i - 1 : Nat) : Int) (by omega) (by omega) (by omega))) (by kernel_rfl)) <| spq (.pointer (some ⟨b_, o_ + (i - 1) * 2, none⟩)) (exec_indexAt_slice 22 (.tmp 27) (.tmp 29) (by kernel_rfl) b_ o_ out.length c_ (Eq.trans (b := v) (by kernel_rfl) hv_) .i64 (i - 1) (by kernel_rfl) _ 2 Tryz.underlying22 (by kernel_rfl) (by omega)) <| skq (.pointer (some ⟨b_, o_ + (i - 1) * 2, none⟩)) <| spq (.int .i64 y.h) (exec_ld 3 (.tmp 31) b_ (o_ + (i - 1) * 2 + 0) Tryz.underlying3 (Sl.cell (row_nts h381) hy hv_ rfl)) <| spq (.bool true) (dct (((hh) : Int) < ((y.h) : Int)) (by omega)) <| st_end <| ls_run (qo76_0 125340 12) (.bool true) (w' := V378) (by kernel_rfl) (by kernel_rfl) ?_
      refine ls_end <| sy_a ⟨#[v0, ud, .slice none 0 0, pT r2 0, pT b 0, v, iN i, .int .i64 s.pos, pT gx 0, ud, v0, pT b 0, pT b 0, iN m, iN i, .bool true, iN i, pT b 0, .int .i64 s.pos, pT b 0, .int .i64 hh, .agg #[.int .i64 hh, .int .u64 0], iN i, .bool true, .bool true, pT gx 0, .int .i64 hh, v, iN i, iN ((i - 1)), .pointer (some ⟨b_, o_ + (i - 1) * 2, none⟩), .pointer (some ⟨b_, o_ + (i - 1) * 2, none⟩), .int .i64 y.h, .bool true, .bool true, u35, u36, u37, u38, u39, u40, u41, u42, u43, u44, u45, u46, u47, u48, u49, u50, u51, u52, u53, ud, ud, ud, ud, ud, ud, ud, ud], []⟩ <| then_n <| y_ <| r_ [0, 1, 2] <| pkq (pT b 0) <| pkq (.int .i64 s.pos) ?_
      have hKs9 := K383.size
      have hr2_9 := lt_of_block h379
      have hgx_9 := lt_of_block h382
      have hvl_9 : ∀ j, v.ownBlock = some j → j < V378.heap.size := fun j hj => h381.lt hj
      refine pcq 44 #[pT b 0, .int .i64 9, .int .i64 s.pos] Tryz.func44 ((Rd.fail h380 9 s.pos).mono ?_)
      rintro e V385 ⟨⟨rv9, rfl⟩, Fb, hRV385, hSV385⟩
      have hd_Fb : ∀ j, Fb j → w.heap.size ≤ j ∧ j ≠ r2 ∧ j ≠ gx ∧ ¬ v.ownBlock = some j := fun j h => (hSV385.2 j h).elim (hd_Fa j) (fun h => ⟨by omega, by omega, by omega, fun e => by have := hvl_9 j e; omega⟩)
      refine ⟨_, rfl, ?_⟩
      have h386 : V385.heap[r2]? = some (.cells (#[.int .i64 0, .int .i64 0]) 31 (0, 0)) := (hSV385.1.block r2 (lt_of_block h379) (fun e => by have := hd_Fa _ e; omega)).trans h379
      have h387 : Row V385 46 2 v out.length (out.flatMap Nt.cl) := h381.keeps hSV385.1 (fun j hj e => (hd_Fa j e).2.2.2 hj)
      have h388 : V385.heap[gx]? = some (.cells (#[.int .i64 hh, .int .u64 0]) 46 (0, 0)) := (hSV385.1.block gx (lt_of_block h382) (fun e => by have := hd_Fa _ e; omega)).trans h382
      have K389 : Keeps Nob w V385 := K383.then hSV385.1 (fun k hi hm => absurd hi (by have := (hd_Fa k hm).1; omega))
      have z390 := hSV385.1.size
      refine eqr_ [0, 1, 2] <| pkq (pT b 0) ?_
      refine pcq 43 #[pT b 0] Tryz.func43 ((Rd.at_ (qs2 ▸ hRV385)).mono ?_)
      rintro e w1 ⟨rfl, rfl⟩
      refine ⟨_, rfl, ?_⟩
      refine pkq (.int .i64 s2.pos) <| eqr_ [0, 1, 2, 3] <| pkq (pT b 0) ?_
      have hKs11 := K389.size
      have hr2_11 := lt_of_block h386
      have hgx_11 := lt_of_block h388
      have hvl_11 : ∀ j, v.ownBlock = some j → j < V385.heap.size := fun j hj => h387.lt hj
      refine pcq 45 #[pT b 0] Tryz.func45 ((rdu_is hke qs3 (Rd.u (qs2 ▸ hRV385))).mono ?_)
      rintro e V391 ⟨rfl, Fc, hRV391, hSV391⟩
      have hd_Fc : ∀ j, Fc j → w.heap.size ≤ j ∧ j ≠ r2 ∧ j ≠ gx ∧ ¬ v.ownBlock = some j := fun j h => (hSV391.2 j h).elim (hd_Fb j) (fun h => ⟨by omega, by omega, by omega, fun e => by have := hvl_11 j e; omega⟩)
      refine ⟨_, rfl, ?_⟩
      have h392 : V391.heap[r2]? = some (.cells (#[.int .i64 0, .int .i64 0]) 31 (0, 0)) := (hSV391.1.block r2 (lt_of_block h386) (fun e => by have := hd_Fb _ e; omega)).trans h386
      have h393 : Row V391 46 2 v out.length (out.flatMap Nt.cl) := h387.keeps hSV391.1 (fun j hj e => (hd_Fb j e).2.2.2 hj)
      have h394 : V391.heap[gx]? = some (.cells (#[.int .i64 hh, .int .u64 0]) 46 (0, 0)) := (hSV391.1.block gx (lt_of_block h388) (fun e => by have := hd_Fb _ e; omega)).trans h388
      have K395 : Keeps Nob w V391 := K389.then hSV391.1 (fun k hi hm => absurd hi (by have := (hd_Fb k hm).1; omega))
      have z396 := hSV391.1.size
      refine pkq (pT gx 1) <| pce 40 gx 1 (uN kk) (#[.int .i64 hh, .int .u64 ((kk : Nat) : Int)]) h394 (rc (h394) (by kernel_rfl)) (by kernel_rfl) (u := .int .u64 0) fun V397 h398 kV397 => ?_
      have h399 := kV397.bO h392
      have h400 : Row V397 46 2 v out.length (out.flatMap Nt.cl) := h393.keeps kV397 (fun j hj e => by have := hvx j hj; unfold Own.One at e; omega)
      have h401 : Rd V397 Fc b l s3 := hRV391.keeps kV397 (fun j hj e => by have := hd_Fc j hj; unfold Own.One at e; omega)
      have K402 := K395.nO kV397
      have z403 := kV397.size
      refine eq_ <| qr_ [0, 1, 2] <| pkq (pT gx 1) <| ppq (uN kk) (ldk 40 gx 1 h398) <| ppq (.bool true) (dct ((((kk : Nat) : Int)) > ((4611686018427387904) : Int)) (by omega)) <| ey_ <| r_ [0, 1, 2] <| pkq (pT b 0) <| pkq (.int .i64 s2.pos) ?_
      have hKs13 := K402.size
      have hr2_13 := lt_of_block h399
      have hgx_13 := lt_of_block h398
      have hvl_13 : ∀ j, v.ownBlock = some j → j < V397.heap.size := fun j hj => h400.lt hj
      refine pcq 44 #[pT b 0, .int .i64 3, .int .i64 s2.pos] Tryz.func44 ((Rd.fail h401 3 s2.pos).mono ?_)
      rintro e V404 ⟨⟨rv13, rfl⟩, Fd, hRV404, hSV404⟩
      have hd_Fd : ∀ j, Fd j → w.heap.size ≤ j ∧ j ≠ r2 ∧ j ≠ gx ∧ ¬ v.ownBlock = some j := fun j h => (hSV404.2 j h).elim (hd_Fc j) (fun h => ⟨by omega, by omega, by omega, fun e => by have := hvl_13 j e; omega⟩)
      refine ⟨_, rfl, ?_⟩
      have h405 : V404.heap[r2]? = some (.cells (#[.int .i64 0, .int .i64 0]) 31 (0, 0)) := (hSV404.1.block r2 (lt_of_block h399) (fun e => by have := hd_Fc _ e; omega)).trans h399
      have h406 : Row V404 46 2 v out.length (out.flatMap Nt.cl) := h400.keeps hSV404.1 (fun j hj e => (hd_Fc j e).2.2.2 hj)
      have h407 : V404.heap[gx]? = some (.cells (#[.int .i64 hh, .int .u64 ((kk : Nat) : Int)]) 46 (0, 0)) := (hSV404.1.block gx (lt_of_block h398) (fun e => by have := hd_Fc _ e; omega)).trans h398
      have K408 : Keeps Nob w V404 := K402.then hSV404.1 (fun k hi hm => absurd hi (by have := (hd_Fc k hm).1; omega))
      have z409 := hSV404.1.size
      refine er_ [0, 1, 2, 3, 4] <| pkq (v) <| ppq (.agg #[.int .i64 hh, uN kk]) (ldr 46 gx (h407) (by kernel_rfl)) ?_
      obtain ⟨V410, eV410, lit, elit, h411, kV410⟩ := alloc_step V404 (#[.int .i64 hh, .int .u64 ((kk : Nat) : Int)]) 46
      have n412 : r2 < lit := elit ▸ lt_of_block h405
      have n413 : gx < lit := elit ▸ lt_of_block h407
      have n414 : w.heap.size ≤ lit := elit ▸ K408.size
      refine prq (.slice (some ⟨lit, 0, none⟩) 1 1) (w' := V410) (by rw [← eV410, ← elit]; kernel_rfl) ?_
      have h415 := kV410.bk h405
      have h416 : Row V410 46 2 v out.length (out.flatMap Nt.cl) := h406.keeps kV410 (fun _ _ x => x)
      have h418 : Rd V410 Fd b l s4 := (qs4 ▸ hRV404).keepsN kV410
      have K419 := K408.nn kV410
      have z420 := kV410.size
      obtain ⟨vn, V421, hr422, h423, hg424, hn425, ha426⟩ := run_append_any (P := Tryz.prog) (w := V410) 22 (Oper.type (qo76_0 501375 3)) 46 i2 (.agg #[.int .i64 0, .int .u64 0]) 2 16 Tryz.underlying22 hi2 hs0 hs1 hs2 rfl (by decide) v out.length (out.flatMap Nt.cl) h416 (.slice (some ⟨lit, 0, none⟩) 1 1) 1 (Nt.cl (⟨hh, kk⟩ : Nt)) (src_nt (x := ⟨hh, kk⟩) h411) (by unfold maxLen; omega) (by omega)
      have kV421 : Keeps (fun j => v.ownBlock = some j) V410 V421 := Keeps.rowAdd hg424
      have hw427 : NewFrom w.heap.size vn := hnw.next K419.size ha426
      refine prq vn (w' := V421) (exec_append (.tmp 49) (.tmp 51) 22 (by kernel_rfl) v (.slice (some ⟨lit, 0, none⟩) 1 1) (by kernel_rfl) (by kernel_rfl) hr422) ?_
      have h428 : Row V421 46 2 vn ((out ++ [(⟨hh, kk⟩ : Nt)]).length) ((out ++ [(⟨hh, kk⟩ : Nt)]).flatMap Nt.cl) := (row_nt rfl h423)
      have hnwn := hw427
      have hdn : ∀ j, Fd j → w.heap.size ≤ j ∧ j ≠ r2 ∧ ¬ vn.ownBlock = some j := fun j h => ⟨(hd_Fd j h).1, (hd_Fd j h).2.1, fun e => (ha426 j e).elim (fun q => (hd_Fd j h).2.2.2 q) (fun q => by have := Rd.lt h418 j h; omega)⟩
      have h429 : V421.heap[r2]? = some (.cells (#[.int .i64 0, .int .i64 0]) 31 (0, 0)) := (kV421.block r2 (lt_of_block h415) (fun e => Row.ne h416 h415 (by decide) e)).trans h415
      have h430 : Rd V421 Fd b l s4 := h418.keeps kV421 (fun j hj e => (hd_Fd j hj).2.2.2 e)
      have K431 : Keeps Nob w V421 := K419.then kV421 (fun i hi hm => absurd hi (by have := hnw i hm; omega))
      have z432 := kV421.size
      refine pkq (vn) <| ps_end <| blk_n <| tr_ [0, 1] <| ppq (iN (i + 1)) (exec_cast (congrArg (Value.int .i64) (wrapN (i + 1) (by omega))) (by kernel_rfl)) <| pkq (iN (i + 1)) <| et_ ?_
      refine ⟨⟨(i + 1), (out ++ [(⟨hh, kk⟩ : Nt)]), s4, vn, Fd, (iN i), (.int .i64 s2.pos), (pT gx 0), (.bool true), (iN i), (pT b 0), (.int .i64 s.pos), (pT b 0), (.int .i64 hh), (.agg #[.int .i64 hh, .int .u64 0]), (iN i), (.bool true), (.bool true), (pT gx 0), (.int .i64 hh), v, (iN i), (iN ((i - 1))), (.pointer (some ⟨b_, o_ + (i - 1) * 2, none⟩)), (.pointer (some ⟨b_, o_ + (i - 1) * 2, none⟩)), (.int .i64 y.h), (.bool true), (.bool true), (pT b 0), (.int .i64 s.pos), rv9, (pT b 0), (.int .i64 s2.pos), (pT b 0), (uN kk), (pT gx 1), (pT gx 1), (uN kk), (.bool true), (pT b 0), (.int .i64 s2.pos), rv13, v, (.agg #[.int .i64 hh, uN kk]), (.slice (some ⟨lit, 0, none⟩) 1 1), vn, (iN (i + 1)), by kernel_rfl, by omega, by simp [hout], hpn, hdn, hnwn, h429, h430, h428, K431⟩, ?_⟩
      exact lt_meas (x := m - (i + 1)) (y := m - i) (by kernel_rfl) (by kernel_rfl) (by omega)
    · skip
      have hres := nread_ok eq_i hp hfin
      obtain ⟨fe, hfe⟩ : ∃ x, (s.fin l).1 = x := ⟨_, rfl⟩
      obtain ⟨fp, hfp⟩ : ∃ x, (s.fin l).2 = x := ⟨_, rfl⟩
      rw [hfe] at hfin
      refine qr_ [0] <| ppq (.bool false) (dcf ((((i : Nat) : Int)) < (((m : Nat) : Int))) (by omega)) <| eq_ <| n_ <| sy_exit 0 (by kernel_rfl) <| then_e <| then_e <| blk_e <| tq_ <| qr_ [0, 1, 2, 3] <| pkq (pT b 0) ?_
      refine pcq 46 #[pT b 0] Tryz.func46 ((rd_fin h16 hfe hfp).mono ?_)
      rintro e V433 ⟨rfl, kV433⟩
      refine ⟨_, rfl, ?_⟩
      have h434 := kV433.bk h15
      have h435 : Row V433 46 2 v out.length (out.flatMap Nt.cl) := h17.keeps kV433 (fun _ _ x => x)
      have K436 := K18.nn kV433
      have z437 := kV433.size
      refine pal 31 (#[.int .i64 0, .int .i64 0]) (.agg (#[.int .i64 0, .int .i64 0])) fun V438 gE egE h439 kV438 => ?_
      have n440 : r2 < gE := egE ▸ lt_of_block h434
      have n441 : w.heap.size ≤ gE := egE ▸ K436.size
      have h442 := kV438.bk h434
      have h443 : Row V438 46 2 v out.length (out.flatMap Nt.cl) := h435.keeps kV438 (fun _ _ x => x)
      have K444 := K436.nn kV438
      have z445 := kV438.size
      refine pst 31 gE (#[.int .i64 fe, .int .i64 fp]) h439 (by kernel_rfl) rfl (by kernel_rfl) fun V446 h447 kV446 => ?_
      have h448 := kV446.bO h442
      have h449 : Row V446 46 2 v out.length (out.flatMap Nt.cl) := h443.keeps kV446 (fun j hj e => Row.ne h443 h439 (by decide) ((show j = gE from e) ▸ hj))
      have K450 := K444.nO kV446
      have z451 := kV446.size
      refine eqr_ [0, 1, 2] <| pkq (pT gE 0) <| ppq (.int .i64 fe) (ldk 27 gE 0 h447) <| ppq (.bool false) (nqf ((fe) : Int) ((0) : Int) (by omega)) <| en_ <| s_ <| tqr_ [0, 1, 2, 3] <| pkq (v) <| pkq (.agg #[.int .i64 0, .int .i64 0]) <| pkq (v) <| pst 31 r2 (#[.int .i64 0, .int .i64 0]) h448 (by kernel_rfl) rfl (by kernel_rfl) fun V452 h453 kV452 => ?_
      have h454 : Row V452 46 2 v out.length (out.flatMap Nt.cl) := h449.keeps kV452 (fun j hj e => Row.ne h449 h448 (by decide) ((show j = r2 from e) ▸ hj))
      have K456 := K450.nO kV452
      have z457 := kV452.size
      refine eu_ <| sy_out (.tuple #[v, .agg #[.int .i64 0, .int .i64 0]]) rfl (results_tmp_row (p := 2) (q := 3) (ty := 31) (by kernel_rfl) _ _ r2 31 (#[.int .i64 0, .int .i64 0]) (0, 0) _ (v) (by kernel_rfl) h453 Tryz.underlying31 rfl (by kernel_rfl) (by kernel_rfl)) ?_
      exact ⟨v, by rw [hres], by rw [hres]; exact h454, hnw, K456⟩
    · skip
      have hres := nread_no eq_i hp hfin
      obtain ⟨fe, hfe⟩ : ∃ x, (s.fin l).1 = x := ⟨_, rfl⟩
      obtain ⟨fp, hfp⟩ : ∃ x, (s.fin l).2 = x := ⟨_, rfl⟩
      rw [hfe, hfp] at hres
      rw [hfe] at hfin
      refine qr_ [0] <| ppq (.bool false) (dcf ((((i : Nat) : Int)) < (((m : Nat) : Int))) (by omega)) <| eq_ <| n_ <| sy_exit 0 (by kernel_rfl) <| then_e <| then_e <| blk_e <| tq_ <| qr_ [0, 1, 2, 3] <| pkq (pT b 0) ?_
      refine pcq 46 #[pT b 0] Tryz.func46 ((rd_fin h16 hfe hfp).mono ?_)
      rintro e V458 ⟨rfl, kV458⟩
      refine ⟨_, rfl, ?_⟩
      have h459 := kV458.bk h15
      have K461 := K18.nn kV458
      have z462 := kV458.size
      refine pal 31 (#[.int .i64 0, .int .i64 0]) (.agg (#[.int .i64 0, .int .i64 0])) fun V463 gE egE h464 kV463 => ?_
      have n465 : r2 < gE := egE ▸ lt_of_block h459
      have n466 : w.heap.size ≤ gE := egE ▸ K461.size
      have h467 := kV463.bk h459
      have K469 := K461.nn kV463
      have z470 := kV463.size
      refine pst 31 gE (#[.int .i64 fe, .int .i64 fp]) h464 (by kernel_rfl) rfl (by kernel_rfl) fun V471 h472 kV471 => ?_
      have h473 := kV471.bO h467
      have K475 := K469.nO kV471
      have z476 := kV471.size
      refine eqr_ [0, 1, 2] <| pkq (pT gE 0) <| ppq (.int .i64 fe) (ldk 27 gE 0 h472) <| ppq (.bool true) (nqt ((fe) : Int) ((0) : Int) (by omega)) <| ey_ <| q_ <| sy_np <| sy_reg <| an_begin 18 3 (opsAt (qc76_0 1004)) (fun W => (W.heap[gE]? = some (.cells (#[.int .i64 fe, .int .i64 fp]) 31 (0, 0)))) #[false, false, false] (by kernel_rfl) (by kernel_rfl) (by kernel_rfl) (by kernel_rfl) ?_
      obtain ⟨V477, eV477, kV477⟩ := drew_step V471
      rw [eV477]
      clear eV477
      have h478 := kV477.bk h473
      have h480 := kV477.bk h472
      have K481 := K475.nn kV477
      have z482 := kV477.size
      refine avq 0 (.agg #[.int .i64 fe, .int .i64 fp]) (fun W hS => ldr 31 gE (hS) (by kernel_rfl)) h480 <| an_o 1 <| nrq (.slice none 0 0) (w' := V477) (by kernel_rfl) ?_
      refine ⟨h480, ?_⟩
      refine an_o 2 <| nst 31 r2 (#[.int .i64 fe, .int .i64 fp]) h478 (by kernel_rfl) rfl (by kernel_rfl) fun V483 h484 kV483 => ?_
      have h486 := kV483.bO h480
      have K487 := K481.nO kV483
      have z488 := kV483.size
      refine ⟨h486, ?_⟩
      refine an_end (by kernel_rfl) <| then_n <| u_ <| then_r <| sy_out (.tuple #[.slice none 0 0, .agg #[.int .i64 fe, .int .i64 fp]]) rfl (results_tmp_row (p := 2) (q := 3) (ty := 31) (by kernel_rfl) _ _ r2 31 (#[.int .i64 fe, .int .i64 fp]) (0, 0) _ (.slice none 0 0) (by kernel_rfl) h484 Tryz.underlying31 rfl (by kernel_rfl) (by kernel_rfl)) ?_
      exact ⟨_, by rw [hres], by rw [hres]; exact World.ownsRow_nil _ _ _ _, NewFrom.nil _, K487⟩
end Go.Proofs.YtghohakbepeffaaGreatDoor
namespace Go.Proofs.YtghohakbepeffaaGreatDoor
set_option maxRecDepth 100000
set_option maxHeartbeats 4000000
open Go Go.RowKit Go.Own
end Go.Proofs.YtghohakbepeffaaGreatDoor
