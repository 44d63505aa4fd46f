import Derived.Test.YtcbfnflnokoacaaGreatEvidenceJudgesP1
namespace Go.Own
set_option maxRecDepth 100000
set_option maxHeartbeats 4000000
open Go Go.RowKit
variable {P : Program} {ops : Array Oper} {md : Region.Mode} {C : World → Prop} {l n : Nat}
def noDefer (ops : Array Oper) : Bool := ops.all fun o => match o.op with | .defer _ => false | _ => true
/-- A function that holds a range over a function, entered by the plain walk. -/
theorem calls_marks (n : Nat) {f : FuncId} {fn : Func} {c : Code} {args : Array Value} {w : World} {R : Ending → World → Prop} (hf : P.funcs[f]? = some fn) (hb : fn.body = some c)
    (h : c.wp P (bodyPostM Fence.wide n P fn R) { tmps := args ++ Array.replicate (fn.ntmps - args.size) undef, defers := [] } w) : Calls P f args w R :=
  (callsIn_wide (n := n)).1 (callsIn_of_wp_marks hf hb trivial (wpIn_wide.2 h))
/-- The range over a function, in a plain walk. -/
theorem wp_range {α : Type} (n : Nat) {g : Operand} {ps : Array Tmp} {assign body : Code} {Q : Exit → Act → World → Prop} {a : Act} {w : World}
    {gf : Nat} {lb : Array Value} (hg : a.eval g = .func (.func gf) #[] lb) (eg : ∀ args w, (callFunc gf args).run P w = .ok (.enter gf args) w)
    {encs : α → Array Value} (hps : ∀ x, (encs x).size = ps.size) {xs : List α} {Mi : Nat → Prop} {S : Nat → World → Prop} (hMi : ∀ j, Mi j → j < w.heap.size)
    (hseq : SeqOwn Fence.wide (n + 2) P gf lb encs xs Mi S) (hS : ∀ k A B, S k A → Turn w.heap.size Nob A B → S k B) (hS0 : S 0 w)
    (I : Nat → World → Prop) (Ix : Code → World → Prop) (hI : ∀ k A B, I k A → Turn w.heap.size Mi A B → I k B) (hIx : ∀ c A B, Ix c A → Turn w.heap.size Mi A B → Ix c B) (h0 : I 0 w)
    (Ax : Nat → α → Act → World → Prop) (hAx : ∀ k x a' A B, Ax k x a' A → Turn w.heap.size Nob A B → Ax k x a' B)
    (hassign : ∀ (l k : Nat) (x : α) (W : World) (K : Act → World → Prop), xs[k]? = some x → I k W → S k W → (∀ a' W', KeepsFrom w.heap.size W W' → I k W' → S k W' → Ax k x a' W' → K a' W') →
      assign.wpIn (Fence.wide.inRound l) (n + 1) P (Exit.then K (fun _ _ _ => False)) { tmps := (ps.zip (encs x)).foldl (fun t (p, v) => t.setIfInBounds p v) a.tmps, defers := [] } W)
    (hbody : ∀ (l k : Nat) (x : α) (a' : Act) (W : World), w.heap.size ≤ l → (∃ r, W.heap[l]? = some (.loop r)) → xs[k]? = some x → I k W → S k W → Ax k x a' W →
      body.wpIn (Fence.wide.inRound l) (n + 1) P (rangeEnd w.heap.size (fun W' => I (k + 1) W' ∧ S k W') Ix W) a' W)
    (hdone : ∀ (D : Nat) (W : World), w.heap.size ≤ D → I xs.length W → W.heap[D]? = some (.deferred (some [])) → Q .normal { a with defers := { target := .collected D, args := #[] } :: a.defers } W)
    (hstop : ∀ (D : Nat) (c : Code) (W : World), w.heap.size ≤ D → Ix c W → W.heap[D]? = some (.deferred (some [])) → c.wp P Q { a with defers := { target := .collected D, args := #[] } :: a.defers } W) :
    (Code.rangeFunc g ps assign body).wp P Q a w :=
  (wpIn_wide (n := n + 3)).1 (own_range (F := Fence.wide) rfl (by omega) hg trivial eg hps hMi hseq hS hS0 I Ix hI hIx h0 Ax hAx hassign hbody hdone (fun D c W h1 h2 h3 => wpIn_wide.2 (hstop D c W h1 h2 h3)))
/-- The same, where the loop's variable lies in a temporary: 'f x' is the frame behind the assignment. -/
theorem wp_range1 {α : Type} (n : Nat) {g : Operand} {ps : Array Tmp} {assign body : Code} {Q : Exit → Act → World → Prop} {a : Act} {w : World}
    {gf : Nat} {lb : Array Value} (hg : a.eval g = .func (.func gf) #[] lb) (eg : ∀ args w, (callFunc gf args).run P w = .ok (.enter gf args) w)
    {encs : α → Array Value} (hps : ∀ x, (encs x).size = ps.size) {xs : List α} {Mi : Nat → Prop} {S : Nat → World → Prop} (hMi : ∀ j, Mi j → j < w.heap.size)
    (hseq : SeqOwn Fence.wide (n + 2) P gf lb encs xs Mi S) (hS : ∀ k A B, S k A → Turn w.heap.size Nob A B → S k B) (hS0 : S 0 w)
    (I : Nat → World → Prop) (Ix : Code → World → Prop) (hI : ∀ k A B, I k A → Turn w.heap.size Mi A B → I k B) (hIx : ∀ c A B, Ix c A → Turn w.heap.size Mi A B → Ix c B) (h0 : I 0 w)
    (f : α → Act)
    (hassign : ∀ (l k : Nat) (x : α) (W : World) (K : Act → World → Prop), xs[k]? = some x → I k W → S k W → K (f x) W →
      assign.wpIn (Fence.wide.inRound l) (n + 1) P (Exit.then K (fun _ _ _ => False)) { tmps := (ps.zip (encs x)).foldl (fun t (p, v) => t.setIfInBounds p v) a.tmps, defers := [] } W)
    (hbody : ∀ (l k : Nat) (x : α) (W : World), w.heap.size ≤ l → (∃ r, W.heap[l]? = some (.loop r)) → xs[k]? = some x → I k W → S k W →
      body.wpIn (Fence.wide.inRound l) (n + 1) P (rangeEnd w.heap.size (fun W' => I (k + 1) W' ∧ S k W') Ix W) (f x) W)
    (hdone : ∀ (D : Nat) (W : World), w.heap.size ≤ D → I xs.length W → W.heap[D]? = some (.deferred (some [])) → Q .normal { a with defers := { target := .collected D, args := #[] } :: a.defers } W)
    (hstop : ∀ (D : Nat) (c : Code) (W : World), w.heap.size ≤ D → Ix c W → W.heap[D]? = some (.deferred (some [])) → c.wp P Q { a with defers := { target := .collected D, args := #[] } :: a.defers } W) :
    (Code.rangeFunc g ps assign body).wp P Q a w :=
  wp_range n hg eg hps hMi hseq hS hS0 I Ix hI hIx h0 (fun _ x a' _ => a' = f x) (fun _ _ _ _ _ h _ => h)
    (fun l k x W K hx hi hs hK => hassign l k x W K hx hi hs (hK _ _ (KeepsFrom.refl _ _) hi hs rfl)) (fun l k x a' W hl hr hx hi hs ha => by subst ha; exact hbody l k x W hl hr hx hi hs) hdone hstop
/-- The same with an iterator that may have no end, where the loop's variable lies in a temporary: 'f x' is the frame behind the assignment. -/
theorem wp_range1G {α : Type} (E : Prop) (n : Nat) {g : Operand} {ps : Array Tmp} {assign body : Code} {Q : Exit → Act → World → Prop} {a : Act} {w : World}
    {gf : Nat} {lb : Array Value} (hg : a.eval g = .func (.func gf) #[] lb) (eg : ∀ args w, (callFunc gf args).run P w = .ok (.enter gf args) w)
    {encs : α → Array Value} (hps : ∀ x, (encs x).size = ps.size) {xs : List α} {Mi : Nat → Prop} {S : Nat → World → Prop} (hMi : ∀ j, Mi j → j < w.heap.size)
    (hseq : SeqOwnG E Fence.wide (n + 2) P gf lb encs xs Mi S) (hS : ∀ k A B, S k A → Turn w.heap.size Nob A B → S k B) (hS0 : S 0 w)
    (I : Nat → World → Prop) (Ix : Code → World → Prop) (hI : ∀ k A B, I k A → Turn w.heap.size Mi A B → I k B) (hIx : ∀ c A B, Ix c A → Turn w.heap.size Mi A B → Ix c B) (h0 : I 0 w) (hE : E → ∀ W, ¬ I xs.length W)
    (f : α → Act)
    (hassign : ∀ (l k : Nat) (x : α) (W : World) (K : Act → World → Prop), xs[k]? = some x → I k W → S k W → K (f x) W →
      assign.wpIn (Fence.wide.inRound l) (n + 1) P (Exit.then K (fun _ _ _ => False)) { tmps := (ps.zip (encs x)).foldl (fun t (p, v) => t.setIfInBounds p v) a.tmps, defers := [] } W)
    (hbody : ∀ (l k : Nat) (x : α) (W : World), w.heap.size ≤ l → (∃ r, W.heap[l]? = some (.loop r)) → xs[k]? = some x → I k W → S k W →
      body.wpIn (Fence.wide.inRound l) (n + 1) P (rangeEnd w.heap.size (fun W' => I (k + 1) W' ∧ S k W') Ix W) (f x) W)
    (hdone : ∀ (D : Nat) (W : World), w.heap.size ≤ D → I xs.length W → W.heap[D]? = some (.deferred (some [])) → Q .normal { a with defers := { target := .collected D, args := #[] } :: a.defers } W)
    (hstop : ∀ (D : Nat) (c : Code) (W : World), w.heap.size ≤ D → Ix c W → W.heap[D]? = some (.deferred (some [])) → c.wp P Q { a with defers := { target := .collected D, args := #[] } :: a.defers } W) :
    (Code.rangeFunc g ps assign body).wp P Q a w :=
  (wpIn_wide (n := n + 3)).1 (own_rangeG (F := Fence.wide) E rfl (by omega) hg trivial eg hps hMi hseq hS hS0 I Ix hI hIx h0 hE (fun _ x a' _ => a' = f x) (fun _ _ _ _ _ h _ => h)
    (fun l k x W K hx hi hs hK => hassign l k x W K hx hi hs (hK _ _ (KeepsFrom.refl _ _) hi hs rfl)) (fun l k x a' W hl hr hx hi hs ha => by subst ha; exact hbody l k x W hl hr hx hi hs) hdone (fun D c W h1 h2 h3 => wpIn_wide.2 (hstop D c W h1 h2 h3)))
/-- The end of such a function: one result in a temporary or a cell, the world behind it. -/
theorem marks_ret {fn : Func} {R : Ending → World → Prop} {n D : Nat} {t : Array Value} {v : Value} {W : World} (hD : W.heap[D]? = some (.deferred (some [])))
    (hres : (results fn t).run P (W.putObj D (.deferred none)) = .ok v (W.putObj D (.deferred none))) (h : R (.returned v) (W.putObj D (.deferred none))) :
    bodyPostM Fence.wide n P fn R .ret { tmps := t, defers := [{ target := .collected D, args := #[] }] } W :=
  ⟨by simp, .inl ⟨_, _, rfl, run_takeDeferred hD, ⟨_, hres, h⟩⟩⟩
/-- What an append to an own row leaves of all that is no cells. -/
theorem Row.others {w w' : World} {e : TypeId} {size n : Nat} {v : Value} {xs : List Value} (h : Row w e size v n xs) (hg : w.grownBy w' v.ownBlock) : KeepsOthers w w' :=
  KeepsOthers.of_grownBy hg fun j o hj ho => by
    obtain ⟨cs, hc⟩ := h.elem hj
    rw [ho] at hc
    simp only [Option.some.injEq] at hc
    rw [hc]; rfl
end Go.Own
namespace Go.Own.Cod
set_option maxRecDepth 100000
set_option maxHeartbeats 4000000
/-- The bytes of a number (at most so many). -/
def encF : Nat → Nat → List UInt8
  | 0, _ => []
  | f + 1, n => if n < 128 then [UInt8.ofNat n] else UInt8.ofNat (n % 128 + 128) :: encF f (n / 128)
def enc (n : Nat) : List UInt8 := encF 10 n
/-- Which number bytes begin with, its length, an error (0: none): from the byte at place i on, n having come so far. -/
def numF : List UInt8 → Nat → Nat → Nat × Nat × Int
  | [], _, _ => (0, 0, 6)
  | c :: r, i, n => if (i = 9 ∧ 1 < c.toNat) ∨ (0 < i ∧ c.toNat = 0) then (0, 0, 5) else if c.toNat < 128 then (n + c.toNat % 128 * 128 ^ i, i + 1, 0) else numF r (i + 1) (n + c.toNat % 128 * 128 ^ i)
def num (l : List UInt8) : Nat × Nat × Int := numF l 0 0
theorem toNat_ofNat (n : Nat) (h : n < 256) : (UInt8.ofNat n).toNat = n := by simp; omega
theorem encF_more (f n : Nat) (h : 128 ≤ n) : encF (f + 1) n = UInt8.ofNat (n % 128 + 128) :: encF f (n / 128) := by
  rw [encF, if_neg (by omega)]
theorem encF_last (f n : Nat) (h : n < 128) : encF (f + 1) n = [UInt8.ofNat n] := by
  rw [encF, if_pos h]
theorem small_step (k m : Nat) (hk : k ≤ 9) (h : m < 2 ^ (64 - 7 * k)) (hm : 128 ≤ m) : k < 9 ∧ m / 128 < 2 ^ (64 - 7 * (k + 1)) := by
  have hk9 : k < 9 := by
    rcases Nat.lt_or_ge k 9 with h9 | h9
    · exact h9
    · obtain rfl : k = 9 := by omega
      simp at h; omega
  refine ⟨hk9, ?_⟩
  apply Nat.div_lt_of_lt_mul
  have : 64 - 7 * k = (64 - 7 * (k + 1)) + 7 := by omega
  rw [this, Nat.pow_add] at h
  omega
theorem encF_pos (f n : Nat) : 0 < (encF (f + 1) n).length := by
  rw [encF]; split <;> simp
theorem encF_length (f n : Nat) : (encF f n).length ≤ f := by
  induction f generalizing n with
  | zero => simp [encF]
  | succ f ih =>
    rw [encF]; split
    · simp
    · simp; exact ih _
theorem enc_pos (n : Nat) : 0 < (enc n).length := encF_pos _ _
theorem enc_length (n : Nat) : (enc n).length ≤ 10 := encF_length _ _
end Go.Own.Cod
namespace Go.Proofs.YtcbfnflnokoacaaGreat
set_option maxRecDepth 100000
set_option maxHeartbeats 4000000
open Go Go.RowKit Go.Own Go.Shelf
attribute [local go_sem] Oper.semAt_some
theorem mf_run0 : ∀ (fn : Fn) (first cap : Array Value) (w : World), (Instr.makeFunc fn first cap).run Tryz.prog w = .ok (.func fn first cap) w := fun _ _ _ _ => rfl
theorem digits_ok (n : Int) (w : World) :
    Calls Tryz.prog 161 #[.int .u64 n] w fun e w' => e = .returned (.func (.func 167) #[] #[.pointer (some ⟨w.heap.size, 0, none⟩)]) ∧ w.alloc (.cells #[.int .u64 n] 24) = w' := by
  have hmf := mf_run0
  go_enter Tryz.func161, Tryz.ntmps161
  go_wp2
  go_ret
  exact ⟨rfl, rfl⟩
/-- The iterator's own state: what is left of the number. -/
def DigS (n : Nat) (Bn : Nat) (k : Nat) (w : World) : Prop :=
  ∃ pre m, m = n / 128 ^ k ∧ pre.length = k ∧ Cod.enc n = pre ++ Cod.encF (10 - k) m ∧ k ≤ 9 ∧ m < 2 ^ (64 - 7 * k) ∧ w.cell? ⟨Bn, 0, none⟩ = some (.int .u64 (m : Int)) ∧ w.frozen? ⟨Bn, 0, none⟩ = false
theorem or128_fin : ∀ r : Fin 256, bits .or .u8 ((r.val : Nat) : Int) 128 = ((r.val % 128 + 128 : Nat) : Int) := by decide +kernel
theorem or128 (m : Nat) : bits .or .u8 ((m : Int) % 256) 128 = ((m % 128 + 128 : Nat) : Int) := by
  have h := or128_fin ⟨m % 256, Nat.mod_lt _ (by omega)⟩
  have e1 : ((m % 256 : Nat) : Int) = (m : Int) % 256 := by omega
  have e2 : m % 256 % 128 = m % 128 := by omega
  simp only [e1, e2] at h
  exact h
theorem digits_seq (n : Nat) (hn : 1 ≤ n) (Bn : Nat) (x : Nat) (hx : x < 2 ^ 64) :
    SeqOwn Fence.wide n Tryz.prog 167 #[.pointer (some ⟨Bn, 0, none⟩)] (fun x : UInt8 => #[.int .u8 (x.toNat : Int)]) (Cod.enc x) (One Bn) (DigS x Bn) := by
  intro l J Jx W0 hJ hJx hY h0 hS0
  have HY := Lib.hid hY; clear hY
  refine callsIn_of_wp Tryz.func167 rfl trivial ?_ rfl
  simp only [Tryz.ntmps167, List.size_toArray, List.length_cons, List.length_nil, Nat.reduceAdd, Nat.reduceSub, Array.replicate_succ, Array.replicate_zero, List.push_toArray, List.append_toArray, List.nil_append, List.cons_append]
  gi_wp2_with fail
  gi_loopg [3] 10 (fun g e wr => ∃ k : Nat, k ≤ 9 ∧ g = 10 - k ∧ J k wr ∧ DigS x Bn k wr)
  case atStart => exact ⟨0, by omega, by omega, h0, hS0⟩
  case round =>
    obtain ⟨k, hk, hg, hj, hs⟩ := hrel
    have hs' := hs
    obtain ⟨pre, m, hmd, hp, he, _, hm, hc, hf⟩ := hs'
    have HD := Lib.hid hmd
    have HS := Lib.hid hs
    have HE := Lib.hid he
    have HM := Lib.hid hm
    have HP := Lib.hid hp
    have HX := Lib.hid hx
    clear he hm hp hs hS0 hx hmd
    by_cases hlt : m < 128
    · have hget : (Cod.enc x)[k]? = some (UInt8.ofNat m) ∧ (Cod.enc x).length = k + 1 := by
        have h1 : 10 - k = (9 - k) + 1 := by omega
        have h2 := HE.out
        rw [h1, Cod.encF_last _ _ (by omega)] at h2
        rw [h2, List.getElem?_append_right (by have := HP.out; omega), HP.out]; simp [HP.out]
      have HL := Lib.hid hget.2
      obtain ⟨fn, tmps, assign, body, hy, hR⟩ := HY.out k _ wr hget.1 hj HS.out
      rw [Cod.toNat_ofNat _ (by omega)] at hy
      have hb : ((m : Int) % 256) = (m : Int) := by omega
      have hd : decide (128 ≤ (m : Int)) = false := by simp; omega
      clear hget
      gi_wp2_with fail
      refine hR.mono ?_
      rintro e W3 (⟨rfl, hj3, hs3⟩ | ⟨rfl, hx3⟩)
      · gi_wp2
        go_end0
        exact ⟨⟨_, rfl⟩, .inl (by rw [HL.out]; exact hj3)⟩
      · gi_wp2
        go_end0
        exact ⟨⟨_, rfl⟩, .inr hx3⟩
    · have hget : (Cod.enc x)[k]? = some (UInt8.ofNat (m % 128 + 128)) := by
        have h1 : 10 - k = (9 - k) + 1 := by omega
        have h2 := HE.out
        rw [h1, Cod.encF_more _ _ (by omega)] at h2
        rw [h2, List.getElem?_append_right (by have := HP.out; omega), HP.out]; simp
      obtain ⟨fn, tmps, assign, body, hy, hR⟩ := HY.out k _ wr hget hj HS.out
      rw [Cod.toNat_ofNat _ (by omega)] at hy
      have hb := or128 m
      generalize hz : m % 128 + 128 = z at hy hb
      clear hz hget
      gi_wp2_with fail
      refine hR.mono ?_
      rintro e W3 (⟨rfl, hj3, hs3⟩ | ⟨rfl, hx3⟩)
      · obtain ⟨pre3, m3, hmd3, _, _, _, _, hc3, hf3⟩ := hs3
        obtain rfl : m3 = m := hmd3.trans HD.out.symm
        have HE1 : Hid (Cod.enc x = (pre ++ [UInt8.ofNat (m3 % 128 + 128)]) ++ Cod.encF (10 - (k + 1)) (m3 / 128)) := Lib.hid (by
          have h1 : 10 - k = (9 - k) + 1 := by omega
          have h2 := HE.out
          rw [h1, Cod.encF_more _ _ (by omega)] at h2
          rw [h2, show 10 - (k + 1) = 9 - k by omega]; simp)
        have HM1 := Lib.hid (Cod.small_step k m3 hk HM.out (by omega))
        clear hmd3 hc hf
        gi_wp2_with fail
        have hk9 := HM1.out.1
        gi_roundg (10 - (k + 1))
        case measure => omega
        case rel => exact ⟨k + 1, by omega, rfl, hJ _ _ _ hj3 ((Keeps.refl _ _).setOne _), pre ++ [UInt8.ofNat (m3 % 128 + 128)], m3 / 128, by rw [HD.out, Nat.pow_succ, Nat.div_div_eq_div_mul], by simp [HP.out], HE1.out, by omega, HM1.out.2, (World.cell?_setCell_same _ _ _ hc3).trans (by simp), by simpa using hf3⟩
      · gi_wp2
        refine bodyPost_ret (results_none rfl _ _ _) rfl ?_
        exact ⟨⟨_, rfl⟩, .inr hx3⟩
end Go.Proofs.YtcbfnflnokoacaaGreat
namespace Go.Proofs.YtcbfnflnokoacaaGreat
set_option maxRecDepth 100000
set_option maxHeartbeats 4000000
open Go Go.RowKit Go.Own Go.Shelf
attribute [local go_sem] Oper.semAt_some
theorem u8_info : (Tryz.prog.info? 5).map (fun i => (i.zero, i.size, i.bytes)) = some (some (.int .u8 0), 1, 1) := by kernel_rfl
/-- What is collected so far lies in a variable. -/
structure Coll (w0 : World) (Bn b : Nat) (xs : List UInt8) (k : Nat) (V : World) : Prop where
  ex : ∃ v, V.heap[b]? = some (.cells #[v] 114 (0, 0)) ∧ Row V 5 1 v k (B (xs.take k)) ∧ (∀ j, v.ownBlock = some j → w0.heap.size ≤ j) ∧ (v = .slice none 0 0 ↔ k = 0)
  keeps : Keeps (One Bn) w0 V
theorem appendSeq_ok (Bn : Nat) (x : Nat) (hx : x < 2 ^ 64) (w : World) (hc : w.cell? ⟨Bn, 0, none⟩ = some (.int .u64 (x : Int))) (hf : w.frozen? ⟨Bn, 0, none⟩ = false) :
    Calls Tryz.prog 166 #[.slice none 0 0, .func (.func 167) #[] #[.pointer (some ⟨Bn, 0, none⟩)]] w fun e w' => ∃ v, e = .returned v ∧ Row w' 5 1 v (Cod.enc x).length (B (Cod.enc x)) ∧ (∀ j, v.ownBlock = some j → w.heap.size ≤ j) ∧ v ≠ .slice none 0 0 ∧ Keeps (One Bn) w w' := by
  obtain ⟨i0, hi, hz0, hz1, hz2⟩ := info_parts u8_info
  have hBn : Bn < w.heap.size := World.block_lt_of_cell? w _ hc
  have HX := Lib.hid hx
  refine calls_marks 3 Tryz.func166 rfl ?_
  simp only [Tryz.ntmps166, List.size_toArray, List.length_cons, List.length_nil, Nat.reduceAdd, Nat.reduceSub, Array.replicate_succ, Array.replicate_zero, List.push_toArray, List.append_toArray, List.nil_append, List.cons_append]
  go_wp2_with fail
  have hk : Keeps (One Bn) w (w.alloc (.cells #[.slice none 0 0] 114)) := (Keeps.refl _ _).alloc _
  have hb : (w.alloc (.cells #[.slice none 0 0] 114)).heap[w.heap.size]? = some (.cells #[.slice none 0 0] 114 (0, 0)) := World.alloc_heap_new _ _
  have g0 : (w.alloc (.cells #[.slice none 0 0] 114)).cell? ⟨Bn, 0, none⟩ = some (.int .u64 (x : Int)) := by
    rw [World.cell?_alloc_lt _ _ _ hBn]; exact hc
  have f0 : (w.alloc (.cells #[.slice none 0 0] 114)).frozen? ⟨Bn, 0, none⟩ = false := by
    refine (World.frozen?_of_block (w := w) ?_).trans hf
    exact Below.heap_alloc _ _ _ hBn
  have hs : (w.alloc (.cells #[.slice none 0 0] 114)).heap.size = w.heap.size + 1 := by simp
  clear hc hf hx
  generalize w.alloc (.cells #[.slice none 0 0] 114) = W1 at *
  refine wp_range1 3 (gf := 167) (lb := #[.pointer (some ⟨Bn, 0, none⟩)]) rfl (enters_of Tryz.func167 (by kernel_rfl) rfl) (encs := fun x : UInt8 => #[.int .u8 (x.toNat : Int)]) (fun _ => rfl)
    (Mi := One Bn) (fun j hj => by have : j = Bn := hj; omega) (digits_seq 5 (by omega) Bn x HX.out) ?hS ?hS0
    (fun k V => k ≤ (Cod.enc x).length ∧ Coll w Bn w.heap.size (Cod.enc x) k V) (fun _ _ => False) ?hI (fun _ _ _ h => h.elim) ?h0 ?f ?assign ?body ?done ?stop
  case hS0 => exact ⟨[], x, by simp, rfl, rfl, by omega, by simpa using HX.out, g0, f0⟩
  case hS =>
    rintro k A V ⟨pre, m, a1, a2, a3, a4, a5, a6, a7⟩ t
    exact ⟨pre, m, a1, a2, a3, a4, a5, t.cell a6 (fun x => x), (t.frozen a6 (fun x => x)).trans a7⟩
  case h0 => exact ⟨Nat.zero_le _, ⟨⟨.slice none 0 0, hb, ⟨rfl, .inl ⟨rfl, rfl⟩⟩, (fun j hj => by cases hj), ⟨fun _ => rfl, fun _ => rfl⟩⟩, hk⟩⟩
  case hI =>
    rintro k A V ⟨hk, ⟨v, h1, h2, h3, h4⟩, h5⟩ t
    refine ⟨hk, ⟨v, ?_, ?_, h3, h4⟩, t.keeps h5 (by omega)⟩
    · exact t.same _ _ h1 (fun (h : w.heap.size = Bn) => by omega) (.inr rfl)
    · refine h2.heap fun j hj => ?_
      obtain ⟨cs, hcs⟩ := h2.elem hj
      rw [hcs]
      exact t.same _ _ hcs (fun (h : j = Bn) => by have := h3 j hj; omega) (.inr rfl)
  case assign =>
    intro l k y V K hx hi hs hK
    gi_wp2
    exact hK
  case body =>
    rintro l k y V hl hr hx ⟨hkl, ⟨v, h1, h2, h3, h4⟩, h5⟩ hs
    have hlt : k < (Cod.enc x).length := (List.getElem?_eq_some_iff.1 hx).1
    have hlen := Cod.enc_length x
    have hne := h2.ne h1 (by decide)
    have c1 := cell_of_one h1
    have f1 := free_of_one h1
    have hbl := lt_of_block h1
    have htake : (Cod.enc x).take (k + 1) = (Cod.enc x).take k ++ [y] := by
      rw [List.take_add_one, hx]; rfl
    have HT := Lib.hid htake
    have H4 := Lib.hid h4
    have HX := Lib.hid hx
    have HS := Lib.hid hs
    clear htake h4 hx hs
    have hown := h2.keeps ((Keeps.refl Nob V).alloc (.cells #[.int .u8 (y.toNat : Int)] 5)) (fun _ _ x => x)
    have hsrc := Src.new V 1 1 [.int .u8 (y.toNat : Int)] 5 rfl (by simp [Value.oneCell']) 1
    gi_wp2_with (gi_at_builtin; refine own_append2_in rfl _ _ 114 rfl 5 i0 (.int .u8 0) 1 1 Tryz.underlying114 hi hz0 hz1 hz2 rfl (by decide) v k _ rfl hown _ 1 _ rfl hsrc (by unfold maxLen; omega) (by omega) ?_; intro v' w1 hown' hgrow hnil hat; obtain ⟨g', cap', rfl, hg'⟩ := hown'.spell (by omega); have hb1 : w1.heap[w.heap.size]? = some (.cells #[v] 114 (0, 0)) := (hgrow.block _ (by simp; omega) (fun e => hne e.symm)).trans ((Below.heap_alloc _ _ _ hbl).trans h1); have c2 := cell_of_one hb1; have f2 := free_of_one hb1)
    have hkA : KeepsOthers V (V.alloc (.cells #[.int .u8 (y.toNat : Int)] 5)) := KeepsOthers.alloc _ _
    have hkB := hkA.trans ((hown.others hgrow).trans (KeepsOthers.setCell w1 ⟨w.heap.size, 0, none⟩ (.slice (some ⟨g', 0, none⟩) (k + 1) cap')))
    have hKp : Keeps (fun j => v.ownBlock = some j) V w1 := ((Keeps.refl _ _).alloc _).grown hgrow (fun j hj _ => hj)
    have hgne : g' ≠ w.heap.size := fun e => hown'.ne hb1 (by decide) (by rw [e]; rfl)
    have hKw : Keeps (One Bn) w w1 := h5.then hKp (fun i hi hm => by have := h3 i hm; omega)
    obtain ⟨pre, m, b1, b2, b3, b4, b5, b6, b7⟩ := HS.out
    have hvB : v.ownBlock ≠ some Bn := fun e => by have := h3 _ e; omega
    have hBV : Bn < V.heap.size := World.block_lt_of_cell? V _ b6
    have e6 := (hKp.cell (i := 0) hBV hvB).trans b6
    have e7 := (hKp.frozen (i := 0) hBV hvB).trans b7
    refine ⟨hkB.from _, ⟨hlt, ⟨⟨_, one_setCell hb1, ?_, ?_, ⟨(fun h => by cases h), (fun h => by omega)⟩⟩, hKw.setCell_new (p := ⟨w.heap.size, 0, none⟩) (Nat.le_refl _) _⟩⟩, pre, m, b1, b2, b3, b4, b5, ?_, ?_⟩
    · rw [HT.out, B_append]
      exact ownsRow_setCell_other hown' (by simp [Value.ownBlock]; exact hgne) _
    · intro j hj
      rcases hat j hj with h | ⟨h, _⟩
      · exact h3 j h
      · simp at h; omega
    · rw [World.cell?_setCell_other _ _ _ _ (fun e => by simp at e <;> omega)]; exact e6
    · simpa using e7
  case done =>
    rintro D V hD ⟨_, ⟨v, h1, h2, h3, h4⟩, h5⟩ hK
    rw [List.take_of_length_le (Nat.le_refl _)] at h2
    have hpos := Cod.enc_pos x
    obtain ⟨g, cap, rfl, hg⟩ := h2.spell hpos
    have c1 := cell_of_one h1
    have H2 := Lib.hid h2
    clear h2 h4
    go_wp2
    refine marks_ret hK (v := .slice (some ⟨g, 0, none⟩) (Cod.enc x).length cap) (by simp [results, Tryz.results166, go_sem]) ?_
    have ht : Turn W1.heap.size Nob V (V.putObj D (.deferred none)) := Turn.put _ _ _ _ hD hK rfl
    refine ⟨_, rfl, H2.out.heap fun j hj => ?_, h3, by simp, ht.keepsN h5 (by omega)⟩
    obtain ⟨cs, hcs⟩ := H2.out.elem hj
    rw [hcs]
    exact ht.same _ _ hcs (fun h => h) (.inr rfl)
  case stop =>
    rintro D c V hD hx hK
    exact hx.elim
theorem collect_ok (Bn : Nat) (x : Nat) (hx : x < 2 ^ 64) (w : World) (hc : w.cell? ⟨Bn, 0, none⟩ = some (.int .u64 (x : Int))) (hf : w.frozen? ⟨Bn, 0, none⟩ = false) :
    Calls Tryz.prog 160 #[.func (.func 167) #[] #[.pointer (some ⟨Bn, 0, none⟩)]] w fun e w' => ∃ v, e = .returned v ∧ Row w' 5 1 v (Cod.enc x).length (B (Cod.enc x)) ∧ (∀ j, v.ownBlock = some j → w.heap.size ≤ j) ∧ v ≠ .slice none 0 0 ∧ Keeps (One Bn) w w' := by
  have HA := Lib.hid (appendSeq_ok Bn x hx w hc hf)
  clear hx hc hf
  go_enter Tryz.func160, Tryz.ntmps160
  go_wp2_with (go_at_call 166; refine HA.out.mono ?_; rintro e w' ⟨v, rfl, h1, h2, h3, h4⟩; have H1 := Lib.hid h1; have H2 := Lib.hid h2; have H3 := Lib.hid h3; clear h1 h2 h3)
  go_ret
  exact ⟨_, rfl, H1.out, H2.out, H3.out, h4⟩
/-- The bytes of a number, in new memory. -/
theorem cPut_ok (x : Nat) (hx : x < 2 ^ 64) (w : World) :
    Calls Tryz.prog 153 #[.int .u64 (x : Int)] w fun e w' => ∃ v, e = .returned v ∧ Row w' 5 1 v (Cod.enc x).length (B (Cod.enc x)) ∧ (∀ j, v.ownBlock = some j → w.heap.size ≤ j) ∧ v ≠ .slice none 0 0 ∧ Keeps Nob w w' := by
  have HX := Lib.hid hx
  have c1 : (w.alloc (.cells #[.int .u64 (x : Int)] 24)).cell? ⟨w.heap.size, 0, none⟩ = some (.int .u64 (x : Int)) := (World.cell?_alloc_at _ _ _ _ rfl).trans rfl
  have f1 : (w.alloc (.cells #[.int .u64 (x : Int)] 24)).frozen? ⟨w.heap.size, 0, none⟩ = false := by simp [go_sem]
  have HA := Lib.hid (collect_ok w.heap.size x hx _ c1 f1)
  clear hx c1 f1
  go_enter Tryz.func153, Tryz.ntmps153
  go_wp2_with (first
    | (go_at_call 161; refine (digits_ok _ _).mono ?_; rintro e w' ⟨rfl, rfl⟩)
    | (go_at_call 160; refine HA.out.mono ?_; rintro e w' ⟨v, rfl, h1, h2, h3, h4⟩; have H1 := Lib.hid h1; have H2 := Lib.hid h2; have H3 := Lib.hid h3; clear h1 h2 h3))
  go_ret
  refine ⟨_, rfl, H1.out, fun j hj => ?_, H3.out, ((Keeps.refl Nob w).alloc _).then h4 (fun i hi (e : i = w.heap.size) => by omega)⟩
  have := H2.out j hj
  simp at this; omega
end Go.Proofs.YtcbfnflnokoacaaGreat
namespace Go.Proofs.YtcbfnflnokoacaaGreat
set_option maxRecDepth 100000
set_option maxHeartbeats 4000000
open Go Go.RowKit Go.Own Go.Shelf
theorem wrap_u64_nat (n : Nat) (h : n < 18446744073709551616) : IntKind.u64.wrap (n : Int) = (n : Int) := by
  simp [IntKind.wrap, IntKind.bits, IntKind.signed]; omega
end Go.Proofs.YtcbfnflnokoacaaGreat
namespace Go.Proofs.YtcbfnflnokoacaaGreat
set_option maxRecDepth 100000
set_option maxHeartbeats 4000000
open Go Go.RowKit Go.Own Go.Shelf
end Go.Proofs.YtcbfnflnokoacaaGreat
namespace Go.Proofs.YtcbfnflnokoacaaGreat
set_option maxRecDepth 100000
set_option maxHeartbeats 4000000
open Go Go.RowKit Go.Own Go.Shelf
theorem or128b (m : Nat) : bits .or .u8 ((m : Int) % 128) 128 = ((m % 128 + 128 : Nat) : Int) := by
  have h := or128_fin ⟨m % 128, by omega⟩
  have e1 : ((m % 128 : Nat) : Int) = (m : Int) % 128 := by omega
  have e2 : m % 128 % 128 = m % 128 := by omega
  simp only [e1, e2] at h
  exact h
theorem rPut_any (f : Nat) : ∀ (i n : Nat) (w : World), f + i = 10 → i ≤ 9 → n < 2 ^ (64 - 7 * i) →
    Calls Tryz.prog 138 #[.int .u64 (n : Int)] w fun e w' => ∃ v, e = .returned v ∧ Row w' 5 1 v (Cod.encF f n).length (B (Cod.encF f n)) ∧ (∀ j, v.ownBlock = some j → w.heap.size ≤ j) ∧ v ≠ .slice none 0 0 ∧ Keeps Nob w w' := by
  obtain ⟨i0, hi, hz0, hz1, hz2⟩ := info_parts u8_info
  induction f with
  | zero => intro i n w h hi; omega
  | succ f ih =>
    intro i n w h hi9 hn
    by_cases hlt : n < 128
    · rw [Cod.encF_last f n hlt]
      have hm : ((n : Int) % 256) = (n : Int) := by omega
      go_enter Tryz.func138, Tryz.ntmps138
      go_wp2_with fail
      have hr := Row.newB w [UInt8.ofNat n] 5 (by simp [maxLen])
      have e1 : (B [UInt8.ofNat n]).toArray = #[.int .u8 (n : Int)] := by simp [B]; omega
      rw [e1] at hr
      go_ret
      exact ⟨_, rfl, hr, fun j hj => by simp [Value.ownBlock] at hj; omega, by simp, (Keeps.refl _ _).alloc _⟩
    · obtain ⟨hi8, hs⟩ := Cod.small_step i n hi9 hn (by omega)
      rw [Cod.encF_more f n (by omega)]
      have IH := Lib.hid (ih (i + 1) (n / 128) (w.alloc (.cells #[.int .u8 ((n % 128 + 128 : Nat) : Int)] 5)) (by omega) (by omega) hs)
      have hb := or128b n
      have HN := Lib.hid hn
      have HS := Lib.hid hs
      have hq : IntKind.u64.wrap ((n : Int) / 128) = ((n / 128 : Nat) : Int) := by
        have : n / 128 < 18446744073709551616 := Nat.lt_of_lt_of_le hs (by
          have : 2 ^ (64 - 7 * (i + 1)) ≤ 2 ^ 64 := Nat.pow_le_pow_right (by omega) (by omega)
          simpa using this)
        rw [show ((n : Int) / 128) = ((n / 128 : Nat) : Int) by omega]
        exact wrap_u64_nat _ this
      have hlen : (Cod.encF f (n / 128)).length ≤ 10 := by have := Cod.encF_length f (n / 128); omega
      clear ih hn hs
      generalize hz : n % 128 + 128 = z at hb IH ⊢
      have hz256 : z < 256 := by omega
      have hr1 := Row.newB w [UInt8.ofNat z] 5 (by simp [maxLen])
      have e1 : (B [UInt8.ofNat z]).toArray = #[.int .u8 (z : Int)] := by simp [B]; omega
      rw [e1] at hr1
      have HR1 := Lib.hid hr1
      clear hz e1 hr1
      generalize Cod.encF f (n / 128) = rest at IH hlen ⊢
      generalize n / 128 = q at hq IH
      go_enter Tryz.func138, Tryz.ntmps138
      go_wp2_with (first
        | (at_builtin; refine own_append2 rfl _ _ 114 rfl 5 i0 (.int .u8 0) 1 1 Tryz.underlying114 hi hz0 hz1 hz2 rfl (by decide) (.slice (some ⟨w.heap.size, 0, none⟩) 1 1) 1 _ rfl (HR1.out.keeps H4.out (fun _ _ x => x)) v rest.length (B rest) rfl (H1.out.src (B_one _)) (by unfold maxLen; omega) (by omega) ?_; intro v' w1 hown' hgrow hnil hat; obtain ⟨g', cap', rfl, hg'⟩ := hown'.spell (by omega))
        | (go_at_call 138; refine IH.out.mono ?_; rintro e w' ⟨v, rfl, h1, h2, h3, h4⟩; have H1 := Lib.hid h1; have H2 := Lib.hid h2; have H3 := Lib.hid h3; have H4 := Lib.hid h4; clear h1 h2 h3 h4))
      go_ret
      refine ⟨.slice (some ⟨g', 0, none⟩) (1 + rest.length) cap', rfl, ?_, fun j hj => ?_, by simp, ?_⟩
      · rw [show rest.length + 1 = 1 + rest.length by omega]
        exact hown'
      · have h5 := hat j (by simpa [Value.ownBlock] using hj)
        have h6 := H4.out.size
        simp at h6
        rcases h5 with h5 | ⟨h5, _⟩
        · simp [Value.ownBlock] at h5; omega
        · omega
      · exact (((Keeps.refl Nob w).alloc _).trans H4.out).grown hgrow (fun j hj hlt => by simp [Value.ownBlock] at hj; omega)
/-- The document's Put tells the same bytes, in new memory. -/
theorem rPut_ok (x : Nat) (hx : x < 2 ^ 64) (w : World) :
    Calls Tryz.prog 138 #[.int .u64 (x : Int)] w fun e w' => ∃ v, e = .returned v ∧ Row w' 5 1 v (Cod.enc x).length (B (Cod.enc x)) ∧ (∀ j, v.ownBlock = some j → w.heap.size ≤ j) ∧ v ≠ .slice none 0 0 ∧ Keeps Nob w w' :=
  rPut_any 10 0 x w (by omega) (by omega) (by simpa using hx)
end Go.Proofs.YtcbfnflnokoacaaGreat
namespace Go.Own
set_option maxRecDepth 100000
set_option maxHeartbeats 4000000
open Go
/-- The operations of region 'id' in a body. -/
noncomputable def opsIn (id : Nat) : Code → Option (Array Oper)
  | .region k ops _ => if k = id then some ops else none
  | .seq a b => (opsIn id a).or (opsIn id b)
  | .cond _ a b => (opsIn id a).or (opsIn id b)
  | .block _ b => opsIn id b
  | .loop b => opsIn id b
  | .rangeFunc _ _ a b => (opsIn id a).or (opsIn id b)
  | _ => none
noncomputable def opsOf (f : Func) (id : Nat) : Array Oper := ((f.body.bind (opsIn id)).getD #[])
end Go.Own
namespace Go.Proofs.YtcbfnflnokoacaaGreat
set_option maxRecDepth 100000
set_option maxHeartbeats 4000000
open Go Go.RowKit Go.Own Go.Shelf
/-- A reader's state: its error (0: none) and its place, or that of its fault. -/
structure RS where
  err : Int
  pos : Int
/-- How many bytes are left. -/
def RS.left (s : RS) (l : List UInt8) : Int := if s.err = 0 then l.length - s.pos else 0
/-- What End tells. -/
def RS.fin (s : RS) (l : List UInt8) : Int × Int := if s.err = 0 then (if s.pos < l.length then (4, s.pos) else (0, 0)) else (s.err, s.pos)
/-- A fault that is laid from without. -/
def RS.fail (s : RS) (e p : Int) : RS := if s.err = 0 ∧ e ≠ 0 then ⟨e, p⟩ else s
/-- 'slices.Clone' of bytes: nil of nil, else new memory. -/
theorem u8_info1 : (Tryz.prog.info? 5).map (fun i => (i.zero, i.size, i.bytes)) = some (some (.int .u8 0), 1, 1) := by kernel_rfl
theorem clone_ok (a : Value) (l : List UInt8) (w : World) (ha : BytesAt w a l) (hl : l.length ≤ 100000000) :
    Calls Tryz.prog 149 #[a] w fun e w' => ∃ v, e = .returned v ∧ Row w' 5 1 v l.length (B l) ∧ (∀ j, v.ownBlock = some j → w.heap.size ≤ j) ∧ Keeps Nob w w' := by
  obtain ⟨i0, hi, hz0, hz1, hz2⟩ := info_parts u8_info1
  obtain ⟨A, cap, rfl, h1, h2, h3⟩ := ha.form
  cases A with
  | none =>
    have h0 : l = [] := by
      cases l with
      | nil => rfl
      | cons x r => obtain ⟨b, o, c, e, _⟩ := ha.at_ 0 x rfl; simp at e
    subst h0
    obtain rfl := h3 rfl
    clear ha
    have hn := fun W => Lib.run_eql_slice_nil (P := Tryz.prog) W 114 5 none 0 0 0 0 Tryz.underlying114
    go_enter Tryz.func149, Tryz.ntmps149
    go_wp2
    go_ret
    exact ⟨_, rfl, ⟨rfl, .inl ⟨rfl, rfl⟩⟩, (fun j hj => by cases hj), Keeps.refl _ _⟩
  | some ad =>
    have hr := Row.empty w 5
    have hs := (ha.keepsN ((Keeps.refl Nob w).alloc (.cells #[] 5))).src
    have HA := Lib.hid ha
    clear ha h3
    have hn := fun W => Lib.run_eql_slice_nil (P := Tryz.prog) W 114 5 (some ad) l.length cap 0 0 Tryz.underlying114
    go_enter Tryz.func149, Tryz.ntmps149
    go_wp2_with (at_builtin; refine own_append2 rfl _ _ 114 rfl 5 i0 (.int .u8 0) 1 1 Tryz.underlying114 hi hz0 hz1 hz2 rfl (by decide) (.slice (some ⟨w.heap.size, 0, none⟩) 0 0) 0 _ rfl hr (.slice (some ad) l.length cap) l.length (B l) rfl hs (by unfold maxLen; omega) (by omega) ?_; intro v' w1 hown' hgrow hnil hat; rw [Nat.zero_add, List.nil_append] at hown'; have H1 := Lib.hid hown'; have H3 := Lib.hid hat; have H4 := Lib.hid hgrow; clear hown' hnil hat hgrow)
    go_ret
    refine ⟨_, rfl, H1.out, fun j hj => ?_, ((Keeps.refl Nob w).alloc _).grown H4.out (fun j hj hlt => by simp [Value.ownBlock] at hj; omega)⟩
    rcases H3.out j hj with h | ⟨h, _⟩
    · simp [Value.ownBlock] at h; omega
    · simp at h; omega
end Go.Proofs.YtcbfnflnokoacaaGreat
namespace Go.Proofs.YtcbfnflnokoacaaGreat
set_option maxRecDepth 100000
set_option maxHeartbeats 4000000
open Go Go.RowKit Go.Own Go.Shelf
/-- A writer's state: its limit, its bytes, its error. -/
structure WS where
  lim : Int
  out : List UInt8
  err : Int
def WS.add (s : WS) (bs : List UInt8) : WS := if s.err = 0 then (if s.lim - s.out.length < bs.length then { s with err := 4 } else { s with out := s.out ++ bs }) else s
structure WrAt (w : World) (b : Nat) (v : Value) (s : WS) : Prop where
  blk : w.heap[b]? = some (.cells #[v, .int .i64 s.lim, .bool true, .int .i64 s.err] 180 (0, 0))
  row : Row w 5 1 v s.out.length (B s.out)
  own : v.ownBlock ≠ some b
  l0 : 0 ≤ s.lim
  l1 : s.lim ≤ 1048576
  fits : (s.out.length : Int) ≤ s.lim
/-- Its blocks. -/
def WBlk (b : Nat) (v : Value) : Nat → Prop := fun j => j = b ∨ v.ownBlock = some j
theorem WrAt.lt {w : World} {b : Nat} {v : Value} {s : WS} (h : WrAt w b v s) : b < w.heap.size := lt_of_block h.blk
theorem WrAt.blk_lt {w : World} {b : Nat} {v : Value} {s : WS} (h : WrAt w b v s) : ∀ j, WBlk b v j → j < w.heap.size := fun j hj => by
  rcases hj with rfl | hj
  · exact h.lt
  · exact h.row.lt hj
theorem WrAt.keeps {w w' : World} {M : Nat → Prop} {b : Nat} {v : Value} {s : WS} (h : WrAt w b v s) (k : Keeps M w w') (hm : ∀ j, WBlk b v j → ¬ M j) : WrAt w' b v s :=
  ⟨(k.block b h.lt (hm b (.inl rfl))).trans h.blk, h.row.keeps k (fun j hj => hm j (.inr hj)), h.own, h.l0, h.l1, h.fits⟩
theorem wstate_ok (b : Nat) (v : Value) (s : WS) (w : World) (h : WrAt w b v s) :
    Calls Tryz.prog 148 #[.pointer (some ⟨b, 0, none⟩)] w fun e w' => e = .returned (.int .i64 s.err) ∧ w = w' := by
  have c2 : w.cell? ⟨b, 2, none⟩ = some (.bool true) := (cell_of_row w b 2 _ _ _ h.blk).trans rfl
  have c3 : w.cell? ⟨b, 3, none⟩ = some (.int .i64 s.err) := (cell_of_row w b 3 _ _ _ h.blk).trans rfl
  clear h
  go_enter Tryz.func148, Tryz.ntmps148
  go_wp2
  go_ret
  exact ⟨rfl, rfl⟩
theorem newWriter_ok (lim : Int) (w : World) (h0 : 0 ≤ lim) (h1 : lim ≤ 1048576) :
    Calls Tryz.prog 126 #[.int .i64 lim] w fun e w' => ∃ b, e = .returned (.tuple #[.pointer (some ⟨b, 0, none⟩), .int .i64 0]) ∧ WrAt w' b (.slice none 0 0) ⟨lim, [], 0⟩ ∧ w.heap.size ≤ b ∧ Keeps Nob w w' := by
  have d0 : decide (lim < 0) = false := by simpa using h0
  have d1 : decide (1048576 < lim) = false := by simpa using h1
  go_enter Tryz.func126, Tryz.ntmps126
  go_wp2
  go_ret2
  exact ⟨_, rfl, ⟨heap_alloc_new _ _, ⟨rfl, .inl ⟨rfl, rfl⟩⟩, by simp [Value.ownBlock], h0, h1, by simpa using h0⟩, Nat.le_refl _, (Keeps.refl _ _).alloc _⟩
/-- What a step leaves of a writer. -/
def WPost (b : Nat) (v : Value) (s : WS) (w : World) (e : Ending) (w' : World) : Prop :=
  e = .returned (.int .i64 s.err) ∧ (∃ v', WrAt w' b v' s ∧ ∀ j, v'.ownBlock = some j → v.ownBlock = some j ∨ w.heap.size ≤ j) ∧ Keeps (WBlk b v) w w'
theorem wadd_ok (b : Nat) (v : Value) (s : WS) (x : Value) (bs : List UInt8) (w : World) (h : WrAt w b v s) (hx : BytesAt w x bs) (hl : bs.length ≤ 10000000) :
    Calls Tryz.prog 152 #[.pointer (some ⟨b, 0, none⟩), x] w (WPost b v (s.add bs) w) := by
  have HS := Lib.hid (wstate_ok b v s w h)
  have H := Lib.hid h
  obtain ⟨A, cap, rfl⟩ := hx.len
  obtain ⟨Av, cv, rfl⟩ := (Row.bytes h.row).len
  have c0 : w.cell? ⟨b, 0, none⟩ = some (.slice Av s.out.length cv) := (cell_of_row w b 0 _ _ _ h.blk).trans rfl
  have c1 : w.cell? ⟨b, 1, none⟩ = some (.int .i64 s.lim) := (cell_of_row w b 1 _ _ _ h.blk).trans rfl
  have c3 : w.cell? ⟨b, 3, none⟩ = some (.int .i64 s.err) := (cell_of_row w b 3 _ _ _ h.blk).trans rfl
  have f3 : w.frozen? ⟨b, 3, none⟩ = false := frozen_of_row w b 3 _ _ h.blk
  have hlt := h.lt
  have l0 := h.l0
  have l1 := h.l1
  have hfit := h.fits
  have HX := Lib.hid hx
  clear h hx
  by_cases h0 : s.err = 0
  · have d0 : (s.err != 0) = false := by simpa using h0
    have ew : IntKind.i64.wrap (s.lim - (s.out.length : Int)) = s.lim - (s.out.length : Int) := by rw [IntKind.wrap_i64]; omega
    by_cases h1 : s.lim - (s.out.length : Int) < (bs.length : Int)
    · have e1 : s.add bs = { s with err := 4 } := by unfold WS.add; rw [if_pos h0, if_pos h1]
      rw [e1]
      have d1 : decide (s.lim - (s.out.length : Int) < (bs.length : Int)) = true := by simpa using h1
      clear e1 h0
      go_enter Tryz.func152, Tryz.ntmps152
      go_wp2_with (go_at_call 148; refine HS.out.mono ?_; rintro e w' ⟨rfl, rfl⟩)
      go_quiet (fail)
      revert nq; intro n1
      go_wp2
      go_ret
      have hb2 := heap_setCell_same (w.drewN n1) b 3 _ _ (.int .i64 4) H.out.blk
      have hk : Keeps (One b) w ((w.drewN n1).setCell ⟨b, 3, none⟩ (.int .i64 4)) := ((Keeps.refl _ _).drewN n1).setOne _
      exact ⟨rfl, ⟨_, ⟨hb2, H.out.row.keeps hk (fun j hj (e : j = b) => H.out.own (by rw [hj, e])), H.out.own, l0, l1, hfit⟩, fun j hj => .inl hj⟩, hk.mono (fun _ _ e => .inl e)⟩
    · have e1 : s.add bs = { s with out := s.out ++ bs } := by unfold WS.add; rw [if_pos h0, if_neg h1]
      rw [e1]
      have d1 : decide (s.lim - (s.out.length : Int) < (bs.length : Int)) = false := by simpa using h1
      obtain ⟨i0, hi, hz0, hz1, hz2⟩ := info_parts u8_info0
      have HI := Lib.hid hi
      have HZ0 := Lib.hid hz0
      have HZ1 := Lib.hid hz1
      have HZ2 := Lib.hid hz2
      have H0 := Lib.hid h0
      clear e1 h0 hi hz0 hz1 hz2
      go_enter Tryz.func152, Tryz.ntmps152
      go_wp2_with (go_at_call 148; refine HS.out.mono ?_; rintro e w' ⟨rfl, rfl⟩)
      go_quiet (fail)
      revert nq; intro n1
      have kd : Hid (Keeps Nob w (w.drewN n1)) := Lib.hid ((Keeps.refl _ _).drewN n1)
      have HR1 := Lib.hid (H.out.row.keeps kd.out (fun _ _ x => x))
      have HS1 := Lib.hid (HX.out.keepsN kd.out).src
      go_wp2_with (at_builtin; refine own_append2 rfl _ _ 114 rfl 5 i0 (.int .u8 0) 1 1 Tryz.underlying114 HI.out HZ0.out HZ1.out HZ2.out rfl (by decide) _ _ _ rfl HR1.out (.slice A bs.length cap) bs.length (B bs) rfl HS1.out (len_small _ _ (by omega)) (len_bytes _ _ (by omega)) ?_; intro v' w1 hown' hgrow hnil hat; rw [← B_append, ← List.length_append] at hown'; obtain ⟨Av', cv', hv'⟩ := (Row.bytes hown').len; subst hv'; have hk1 : Keeps (fun j => (Value.slice Av s.out.length cv).ownBlock = some j) (w.drewN n1) w1 := (Keeps.refl _ _).grown hgrow (fun j hj _ => hj); have hb1 := (hk1.block b hlt (fun e => H.out.own e)).trans H.out.blk; have q0 : w1.cell? ⟨b, 0, none⟩ = some (.slice Av s.out.length cv) := (cell_of_row w1 b 0 _ _ _ hb1).trans rfl; have q1 : w1.frozen? ⟨b, 0, none⟩ = false := frozen_of_row w1 b 0 _ _ hb1; have H1 := Lib.hid hown'; have H3 := Lib.hid hat; have HB := Lib.hid hb1; have HK := Lib.hid hk1; clear hown' hnil hat hgrow hb1 hk1)
      go_ret
      obtain ⟨v', hv'⟩ : ∃ v', (Value.slice Av' (s.out.length + bs.length) cv') = v' := ⟨_, rfl⟩
      rw [List.length_append, hv'] at H1 H3
      rw [hv']
      have hb2 := heap_setCell_same w1 b 0 _ _ v' HB.out
      have hkS : Keeps (One b) w1 (w1.setCell ⟨b, 0, none⟩ v') := (Keeps.refl _ _).setOne _
      have hown : ∀ j, v'.ownBlock = some j → (Value.slice Av s.out.length cv).ownBlock = some j ∨ w.heap.size ≤ j := fun j hj => by
        rcases H3.out j hj with h | ⟨h, _⟩
        · exact .inl h
        · simp at h; exact .inr (by omega)
      have hvb : v'.ownBlock ≠ some b := fun hj => by
        rcases hown b hj with h | h
        · exact H.out.own h
        · omega
      refine ⟨by show Ending.returned (.int .i64 0) = .returned (.int .i64 s.err); rw [H0.out], ⟨v', ⟨hb2, ?_, hvb, l0, l1, by simp; omega⟩, hown⟩, (((Keeps.refl _ w).drewN n1).trans (HK.out.mono (fun _ _ e => .inr e))).trans (hkS.mono (fun _ _ e => .inl e))⟩
      rw [← List.length_append] at H1
      exact H1.out.keeps hkS (fun j hj (e : j = b) => hvb (by rw [hj, e]))
  · have e1 : s.add bs = s := by unfold WS.add; rw [if_neg h0]
    rw [e1]
    have d0 : (s.err != 0) = true := by simpa using h0
    clear h0 e1
    go_enter Tryz.func152, Tryz.ntmps152
    go_wp2_with (go_at_call 148; refine HS.out.mono ?_; rintro e w' ⟨rfl, rfl⟩)
    go_ret
    exact ⟨rfl, ⟨_, H.out, fun j hj => .inl hj⟩, Keeps.refl _ _⟩
end Go.Proofs.YtcbfnflnokoacaaGreat
namespace Go.Proofs.YtcbfnflnokoacaaGreat
set_option maxRecDepth 100000
set_option maxHeartbeats 4000000
open Go Go.RowKit Go.Own Go.Shelf
theorem WPost.mono {b : Nat} {v : Value} {s : WS} {w w0 : World} {e : Ending} {w' : World} (h : WPost b v s w e w') (k : Keeps Nob w0 w) : WPost b v s w0 e w' := by
  obtain ⟨h1, ⟨v', h2, h3⟩, h4⟩ := h
  refine ⟨h1, ⟨v', h2, fun j hj => ?_⟩, (k.mono (fun _ _ x => x.elim)).trans h4⟩
  rcases h3 j hj with h | h
  · exact .inl h
  · exact .inr (Nat.le_trans k.size h)
theorem wU_ok (b : Nat) (v : Value) (s : WS) (n : Nat) (w : World) (h : WrAt w b v s) (hn : n < 2 ^ 64) :
    Calls Tryz.prog 135 #[.pointer (some ⟨b, 0, none⟩), .int .u64 (n : Int)] w (WPost b v (s.add (Cod.enc n)) w) := by
  have H := Lib.hid h
  have HP := Lib.hid (cPut_ok n hn w)
  clear h hn
  go_enter Tryz.func135, Tryz.ntmps135
  go_wp2_with (first
    | (go_at_call 153; refine HP.out.mono ?_; rintro e w1 ⟨x, rfl, h1, h2, h3, h4⟩; have H1 := Lib.hid h1; have H4 := Lib.hid h4; clear h1 h2 h3 h4)
    | (go_at_call 152; refine (wadd_ok b v s x (Cod.enc n) w1 (H.out.keeps H4.out (fun _ _ x => x)) (Row.bytes H1.out) (by have := Cod.enc_length n; omega)).mono ?_; rintro e w2 hp; have HQ := Lib.hid (hp.mono H4.out); obtain ⟨rfl, -, -⟩ := hp))
  go_ret
  exact HQ.out
theorem wN_ok (b : Nat) (v : Value) (s : WS) (n : Int) (w : World) (h : WrAt w b v s) (h0 : 0 ≤ n) (h1 : n ≤ 9223372036854775807) :
    Calls Tryz.prog 131 #[.pointer (some ⟨b, 0, none⟩), .int .i64 n] w (WPost b v (s.add (Cod.enc n.toNat)) w) := by
  have H := Lib.hid h
  have HS := Lib.hid (wstate_ok b v s w h)
  obtain ⟨k, rfl⟩ : ∃ k : Nat, n = (k : Int) := ⟨n.toNat, by omega⟩
  have HU := Lib.hid (wU_ok b v s k w h (by omega))
  rw [Int.toNat_natCast]
  have w1' : IntKind.u64.wrap (k : Int) = (k : Int) := by simp [IntKind.wrap, IntKind.bits, IntKind.signed]; omega
  have d0 : decide ((0 : Int) ≤ (k : Int)) = true := by simp
  clear h
  by_cases he : s.err = 0
  · have d1 : (s.err != 0) = false := by simpa using he
    clear he
    go_enter Tryz.func131, Tryz.ntmps131
    go_wp2_with (first
      | (go_at_call 148; refine HS.out.mono ?_; rintro e w' ⟨rfl, rfl⟩)
      | (go_at_call 135; refine HU.out.mono ?_; rintro e w2 hp; have HQ := Lib.hid hp; obtain ⟨rfl, -, -⟩ := hp))
    go_ret
    exact HQ.out
  · have d1 : (s.err != 0) = true := by simpa using he
    clear he
    go_enter Tryz.func131, Tryz.ntmps131
    go_wp2_with (first
      | (go_at_call 148; refine HS.out.mono ?_; rintro e w' ⟨rfl, rfl⟩)
      | (go_at_call 135; refine HU.out.mono ?_; rintro e w2 hp; have HQ := Lib.hid hp; obtain ⟨rfl, -, -⟩ := hp))
    go_ret
    exact HQ.out
/-- The cells of an array, as a slice of bytes. -/
theorem bytes_of_block {w : World} {g : Nat} {l : List UInt8} {t : TypeId} {fr : Nat × Nat} (hg : w.heap[g]? = some (.cells (B l).toArray t fr)) (hl : l.length ≤ maxLen) : BytesAt w (.slice (some ⟨g, 0, none⟩) l.length l.length) l :=
  ⟨⟨_, _, rfl, Nat.le_refl _, hl, fun h => by cases h⟩, fun k x hk => ⟨g, 0, _, rfl, lt_of_block hg, by rw [Nat.zero_add]; exact (cell_of_row w g k _ _ _ hg).trans (by simpa using B_get l k x hk)⟩⟩
theorem wHash_ok (b : Nat) (v : Value) (s : WS) (l : List UInt8) (w : World) (h : WrAt w b v s) (hl : l.length = 32) :
    Calls Tryz.prog 133 #[.pointer (some ⟨b, 0, none⟩), .agg (B l).toArray] w (WPost b v (s.add l) w) := by
  have k0 : Keeps Nob w (w.alloc (.cells (B l).toArray 23)) := (Keeps.refl _ _).alloc _
  have hb := bytes_of_block (heap_alloc_new w (.cells (B l).toArray 23)) (by rw [hl]; decide)
  rw [hl] at hb
  have HA := Lib.hid (wadd_ok b v s _ l _ (h.keeps k0 (fun _ _ x => x)) hb (by omega))
  have K0 := Lib.hid k0
  obtain ⟨X, hX⟩ : ∃ X, (B l).toArray = X := ⟨_, rfl⟩
  rw [hX] at HA K0 ⊢
  clear h k0 hb hX hl
  go_enter Tryz.func133, Tryz.ntmps133
  go_wp2_with (go_at_call 152; refine HA.out.mono ?_; rintro e w2 hp; have HQ := Lib.hid (hp.mono K0.out); obtain ⟨rfl, -, -⟩ := hp)
  go_ret
  exact HQ.out
/-- Done: the bytes, or why none. -/
def DPost (s : WS) (w : World) (e : Ending) (w' : World) : Prop :=
  ∃ X, e = .returned (.tuple #[X, .int .i64 s.err]) ∧ (Row w' 5 1 X (if s.err = 0 then s.out else []).length (B (if s.err = 0 then s.out else [])) ∧ ∀ j, X.ownBlock = some j → w.heap.size ≤ j) ∧ Keeps Nob w w'
theorem wDone_ok (b : Nat) (v : Value) (s : WS) (w : World) (h : WrAt w b v s) :
    Calls Tryz.prog 127 #[.pointer (some ⟨b, 0, none⟩)] w (DPost s w) := by
  have HS := Lib.hid (wstate_ok b v s w h)
  have hf := h.fits
  have hl := h.l1
  have HC := Lib.hid (clone_ok v s.out w (Row.bytes h.row) (by omega))
  have c0 : w.cell? ⟨b, 0, none⟩ = some v := (cell_of_row w b 0 _ _ _ h.blk).trans rfl
  clear h
  by_cases he : s.err = 0
  · have d1 : (s.err != 0) = false := by simpa using he
    have HE := Lib.hid he
    clear he
    go_enter Tryz.func127, Tryz.ntmps127
    go_wp2_with (first
      | (go_at_call 148; refine HS.out.mono ?_; rintro e w' ⟨rfl, rfl⟩)
      | (go_at_call 149; refine HC.out.mono ?_; rintro e w1 ⟨X, rfl, h1, h2, h3⟩; have H1 := Lib.hid h1; have H2 := Lib.hid h2; have H3 := Lib.hid h3; clear h1 h2 h3))
    go_ret2
    exact ⟨X, by rw [HE.out]; rfl, ⟨by rw [if_pos HE.out]; exact H1.out, H2.out⟩, H3.out⟩
  · have d1 : (s.err != 0) = true := by simpa using he
    have HE := Lib.hid he
    clear he
    go_enter Tryz.func127, Tryz.ntmps127
    go_wp2_with (go_at_call 148; refine HS.out.mono ?_; rintro e w' ⟨rfl, rfl⟩)
    go_ret2
    exact ⟨_, rfl, ⟨by rw [if_neg HE.out]; exact ⟨rfl, .inl ⟨rfl, rfl⟩⟩, fun j hj => by cases hj⟩, Keeps.refl _ _⟩
end Go.Proofs.YtcbfnflnokoacaaGreat
namespace Go.Proofs.YtcbfnflnokoacaaGreat
set_option maxRecDepth 100000
set_option maxHeartbeats 4000000
open Go Go.RowKit Go.Own Go.Shelf
def Wr (w : World) (F : Nat → Prop) (b : Nat) (s : WS) : Prop := ∃ v, WrAt w b v s ∧ F = WBlk b v
section
variable {w w' : World} {F M : Nat → Prop} {b : Nat} {t t' : WS}
theorem Wr.lt (h : Wr w F b t) : Lt F w := by
  obtain ⟨v, h1, rfl⟩ := h
  exact h1.blk_lt
theorem Wr.keeps (h : Wr w F b t) (k : Keeps M w w') (d : Dis F M) : Wr w' F b t := by
  obtain ⟨v, h1, rfl⟩ := h
  exact ⟨v, h1.keeps k d, rfl⟩
theorem Wr.keepsN (h : Wr w F b t) (k : Keeps Nob w w') : Wr w' F b t := h.keeps k (fun _ _ x => x)
theorem wr_step {v : Value} {e : Ending} (hp : WPost b v t' w e w') : e = .returned (.int .i64 t'.err) ∧ ∃ F', Wr w' F' b t' ∧ Step w w' (WBlk b v) F' := by
  obtain ⟨h1, ⟨v', h2, h3⟩, h4⟩ := hp
  refine ⟨h1, _, ⟨v', h2, rfl⟩, h4, fun j hj => ?_⟩
  rcases hj with hj | hj
  · exact .inl (.inl hj)
  · rcases h3 j hj with h | h
    · exact .inl (.inr h)
    · exact .inr ⟨h, h2.row.lt hj⟩
def WPost2 (w : World) (F : Nat → Prop) (b : Nat) (t' : WS) (e : Ending) (w' : World) : Prop := e = .returned (.int .i64 t'.err) ∧ ∃ F', Wr w' F' b t' ∧ Step w w' F F'
theorem wr_new (lim : Int) (w : World) (h0 : 0 ≤ lim) (h1 : lim ≤ 1048576) :
    Calls Tryz.prog 126 #[.int .i64 lim] w fun e w' => ∃ b F, e = .returned (.tuple #[.pointer (some ⟨b, 0, none⟩), .int .i64 0]) ∧ Wr w' F b ⟨lim, [], 0⟩ ∧ Ge F w ∧ Keeps Nob w w' :=
  (newWriter_ok lim w h0 h1).mono fun e w' ⟨b, he, hr, hb, hk⟩ => by
    refine ⟨b, _, he, ⟨_, hr, rfl⟩, ?_, hk⟩
    intro j hj
    rcases hj with rfl | hj
    · exact hb
    · cases hj
theorem Wr.u (h : Wr w F b t) (n : Nat) (hn : n < 2 ^ 64) : Calls Tryz.prog 135 #[.pointer (some ⟨b, 0, none⟩), .int .u64 (n : Int)] w (WPost2 w F b (t.add (Cod.enc n))) := by
  obtain ⟨v, h1, rfl⟩ := h
  exact (wU_ok b v t n w h1 hn).mono fun e w' hp => wr_step hp
theorem Wr.n (h : Wr w F b t) (n : Int) (h0 : 0 ≤ n) (h1 : n ≤ 9223372036854775807) : Calls Tryz.prog 131 #[.pointer (some ⟨b, 0, none⟩), .int .i64 n] w (WPost2 w F b (t.add (Cod.enc n.toNat))) := by
  obtain ⟨v, h2, rfl⟩ := h
  exact (wN_ok b v t n w h2 h0 h1).mono fun e w' hp => wr_step hp
theorem Wr.hash (h : Wr w F b t) (l : List UInt8) (hl : l.length = 32) : Calls Tryz.prog 133 #[.pointer (some ⟨b, 0, none⟩), .agg (B l).toArray] w (WPost2 w F b (t.add l)) := by
  obtain ⟨v, h1, rfl⟩ := h
  exact (wHash_ok b v t l w h1 hl).mono fun e w' hp => wr_step hp
theorem Wr.done (h : Wr w F b t) : Calls Tryz.prog 127 #[.pointer (some ⟨b, 0, none⟩)] w (DPost t w) := by
  obtain ⟨v, h1, _⟩ := h
  exact wDone_ok b v t w h1
end
end Go.Proofs.YtcbfnflnokoacaaGreat
namespace Go.Proofs.YtcbfnflnokoacaaGreat
set_option maxRecDepth 100000
set_option maxHeartbeats 4000000
open Go Go.RowKit Go.Own Go.Shelf
theorem state_eq {Q : Exit → Act → World → Prop} {e : Exit} {a b : Act} {w : World} (h : a = b) (hq : Q e b w) : Q e a w := h ▸ hq
/-- The state behind a read. -/
def RS.read (s : RS) (k : Nat) (er : Int) : RS := if s.err = 0 then (if er = 0 then ⟨0, s.pos + k⟩ else ⟨er, s.pos⟩) else s
end Go.Proofs.YtcbfnflnokoacaaGreat
namespace Go.Proofs.YtcbfnflnokoacaaGreat
set_option maxRecDepth 100000
set_option maxHeartbeats 4000000
open Go Go.RowKit Go.Own Go.Shelf
/-- The number that stands at a reader's place. -/
def RS.num (s : RS) (l : List UInt8) : Nat × Nat × Int := Cod.num (l.drop s.pos.toNat)
/-- Is a number out of bounds? -/
def outN (n : Nat) (least most : Int) : Prop := most < 0 ∨ most < (n : Int) ∨ (0 < least ∧ (n : Int) < least)
instance (n : Nat) (least most : Int) : Decidable (outN n least most) := by unfold outN; infer_instance
end Go.Proofs.YtcbfnflnokoacaaGreat
namespace Go.Proofs.YtcbfnflnokoacaaGreat
set_option maxRecDepth 100000
set_option maxHeartbeats 4000000
open Go Go.RowKit Go.Own Go.Shelf
def RS.rest (s : RS) (l : List UInt8) : List UInt8 := l.drop s.pos.toNat
end Go.Proofs.YtcbfnflnokoacaaGreat
namespace Go.Proofs.YtcbfnflnokoacaaGreat
set_option maxRecDepth 100000
set_option maxHeartbeats 4000000
open Go Go.RowKit Go.Own Go.Shelf
end Go.Proofs.YtcbfnflnokoacaaGreat
namespace Go.Proofs.YtcbfnflnokoacaaGreat
set_option maxRecDepth 100000
set_option maxHeartbeats 4000000
open Go Go.RowKit Go.Own Go.Shelf
end Go.Proofs.YtcbfnflnokoacaaGreat
namespace Go.Proofs.YtcbfnflnokoacaaGreat
set_option maxRecDepth 100000
set_option maxHeartbeats 4000000
open Go Go.RowKit Go.Own Go.Shelf
section
variable {w w' : World} {F M : Nat → Prop} {b : Nat} {l : List UInt8} {s s' : RS}
end
end Go.Proofs.YtcbfnflnokoacaaGreat
namespace Go.Proofs.YtcbfnflnokoacaaGreat
set_option maxRecDepth 100000
set_option maxHeartbeats 4000000
open Go Go.RowKit Go.Own Go.Shelf
def outP : PanicEntry := { v := .iface 102 (.agg #[.int .i64 3]), recovered := false }
abbrev zeroH : List UInt8 := List.replicate 32 0
noncomputable def part_xcN (n : Nat) : Code := partOf Tryz.f191 n
noncomputable abbrev o_xcN (n k : Nat) : Oper := (opsAt (part_xcN n)).getD k default
theorem xcN_in (g o : Nat) (cs : Array Value) (T : TypeId) (n lo hi : Int) (w : World) (hb : w.heap[g]? = some (.cells cs T (0, 0))) (hc : cs[o]? = some (.int .i64 n)) (h1 : lo ≤ n) (h2 : n ≤ hi) :
    Calls Tryz.prog 191 #[.agg #[], .pointer (some ⟨g, o, none⟩), .int .i64 lo, .int .i64 hi] w (fun e w' => e = .returned (.tuple #[]) ∧ Keeps Nob w w') := by
  have K0 : Keeps Nob w w := Keeps.refl _ _
  refine sy_enter (part_xcN 1) ⟨#[.agg #[], pT g o, .int .i64 lo, .int .i64 hi, ud, ud, ud, ud, ud, ud, ud, ud, ud, ud, ud, ud, ud, ud, ud, ud, ud, ud], []⟩ Tryz.func191 (by kernel_rfl) (by kernel_rfl) <| qr_ [0] <| pbx 107 #[] (.agg #[]) fun V1 bx ebx h2 kV1 => ?_
  have n3 : g < bx := ebx ▸ lt_of_block hb
  have n4 : w.heap.size ≤ bx := ebx ▸ K0.size
  have h5 := kV1.bk hb
  have K6 := K0.nn kV1
  refine eqr_ [0, 1, 2, 3, 4, 5, 6, 7, 8, 9, 10, 11] <| pkq (pT g o) <| pkq (pT g o) <| ppq (.int .i64 n) (ldc 3 g o (rc (h5) (hc))) <| pkq (.int .i64 lo) <| ppq (.bool false) (dcf (((n) : Int) < ((lo) : Int)) (by omega)) <| pkq (.bool false) <| pkq (pT g o) <| pkq (pT g o) <| ppq (.int .i64 n) (ldc 3 g o (rc (h5) (hc))) <| pkq (.int .i64 hi) <| ppq (.bool false) (dcf (((n) : Int) > ((hi) : Int)) (by omega)) <| pkq (.bool false) <| en_ ?_
  refine s_ <| sy_fall (.tuple #[]) rfl (by kernel_rfl) ?_
  exact ⟨rfl, K6⟩
theorem xcN_lo (g o : Nat) (cs : Array Value) (T : TypeId) (n lo hi : Int) (w : World) (hb : w.heap[g]? = some (.cells cs T (0, 0))) (hc : cs[o]? = some (.int .i64 n)) (h1 : n < lo) :
    Calls Tryz.prog 191 #[.agg #[], .pointer (some ⟨g, o, none⟩), .int .i64 lo, .int .i64 hi] w (fun e w' => e = .panicked [outP] ∧ Keeps Nob w w') := by
  have K0 : Keeps Nob w w := Keeps.refl _ _
  refine sy_enter (part_xcN 1) ⟨#[.agg #[], pT g o, .int .i64 lo, .int .i64 hi, ud, ud, ud, ud, ud, ud, ud, ud, ud, ud, ud, ud, ud, ud, ud, ud, ud, ud], []⟩ Tryz.func191 (by kernel_rfl) (by kernel_rfl) <| qr_ [0] <| pbx 107 #[] (.agg #[]) fun V1 bx ebx h2 kV1 => ?_
  have n3 : g < bx := ebx ▸ lt_of_block hb
  have n4 : w.heap.size ≤ bx := ebx ▸ K0.size
  have h5 := kV1.bk hb
  have K6 := K0.nn kV1
  refine eqr_ [0, 1, 2, 3, 4, 5, 6, 7, 8, 9, 10, 11] <| pkq (pT g o) <| pkq (pT g o) <| ppq (.int .i64 n) (ldc 3 g o (rc (h5) (hc))) <| pkq (.int .i64 lo) <| ppq (.bool true) (dct (((n) : Int) < ((lo) : Int)) (by omega)) <| pkq (.bool true) <| pnq <| pnq <| pnq <| pnq <| pnq <| pkq (.bool true) <| ey_ ?_
  refine r_ [0, 1, 2] <| pkq (.agg #[.int .i64 3]) <| pkq (.iface 102 (.agg #[.int .i64 3])) <| ps_panic (o_xcN 14 2) (.tmp 21) 102 ((.agg #[.int .i64 3])) (by kernel_rfl) (by kernel_rfl) (by kernel_rfl) (by kernel_rfl) ?_
  exact ⟨rfl, rfl, K6⟩
theorem xcN_hi (g o : Nat) (cs : Array Value) (T : TypeId) (n lo hi : Int) (w : World) (hb : w.heap[g]? = some (.cells cs T (0, 0))) (hc : cs[o]? = some (.int .i64 n)) (h1 : ¬ n < lo) (h2 : hi < n) :
    Calls Tryz.prog 191 #[.agg #[], .pointer (some ⟨g, o, none⟩), .int .i64 lo, .int .i64 hi] w (fun e w' => e = .panicked [outP] ∧ Keeps Nob w w') := by
  have K0 : Keeps Nob w w := Keeps.refl _ _
  refine sy_enter (part_xcN 1) ⟨#[.agg #[], pT g o, .int .i64 lo, .int .i64 hi, ud, ud, ud, ud, ud, ud, ud, ud, ud, ud, ud, ud, ud, ud, ud, ud, ud, ud], []⟩ Tryz.func191 (by kernel_rfl) (by kernel_rfl) <| qr_ [0] <| pbx 107 #[] (.agg #[]) fun V1 bx ebx h2 kV1 => ?_
  have n3 : g < bx := ebx ▸ lt_of_block hb
  have n4 : w.heap.size ≤ bx := ebx ▸ K0.size
  have h5 := kV1.bk hb
  have K6 := K0.nn kV1
  refine eqr_ [0, 1, 2, 3, 4, 5, 6, 7, 8, 9, 10, 11] <| pkq (pT g o) <| pkq (pT g o) <| ppq (.int .i64 n) (ldc 3 g o (rc (h5) (hc))) <| pkq (.int .i64 lo) <| ppq (.bool false) (dcf (((n) : Int) < ((lo) : Int)) (by omega)) <| pkq (.bool false) <| pkq (pT g o) <| pkq (pT g o) <| ppq (.int .i64 n) (ldc 3 g o (rc (h5) (hc))) <| pkq (.int .i64 hi) <| ppq (.bool true) (dct (((n) : Int) > ((hi) : Int)) (by omega)) <| pkq (.bool true) <| ey_ ?_
  refine r_ [0, 1, 2] <| pkq (.agg #[.int .i64 3]) <| pkq (.iface 102 (.agg #[.int .i64 3])) <| ps_panic (o_xcN 14 2) (.tmp 21) 102 ((.agg #[.int .i64 3])) (by kernel_rfl) (by kernel_rfl) (by kernel_rfl) (by kernel_rfl) ?_
  exact ⟨rfl, rfl, K6⟩
theorem xcN_out (g o : Nat) (cs : Array Value) (T : TypeId) (n lo hi : Int) (w : World) (hb : w.heap[g]? = some (.cells cs T (0, 0))) (hc : cs[o]? = some (.int .i64 n)) (h : ¬ (lo ≤ n ∧ n ≤ hi)) : Calls Tryz.prog 191 #[.agg #[], .pointer (some ⟨g, o, none⟩), .int .i64 lo, .int .i64 hi] w (fun e w' => e = .panicked [outP] ∧ Keeps Nob w w') := by
  by_cases hl : n < lo
  · exact xcN_lo g o cs T n lo hi w hb hc hl
  · exact xcN_hi g o cs T n lo hi w hb hc hl (by omega)
noncomputable def part_xcA (n : Nat) : Code := partOf Tryz.f189 n
theorem xcA_ok (v : Value) (w : World) :
    Calls Tryz.prog 189 #[.agg #[], v] w (fun e w' => e = .returned (.tuple #[]) ∧ Keeps Nob w w') := by
  have K0 : Keeps Nob w w := Keeps.refl _ _
  refine sy_enter (part_xcA 1) ⟨#[.agg #[], v, ud, ud], []⟩ Tryz.func189 (by kernel_rfl) (by kernel_rfl) <| r_ [0] <| pbx 107 #[] (.agg #[]) fun V1 bx ebx h2 kV1 => ?_
  have n3 : w.heap.size ≤ bx := ebx ▸ K0.size
  have K4 := K0.nn kV1
  refine ps_end <| sy_fall (.tuple #[]) rfl (by kernel_rfl) ?_
  exact ⟨rfl, K4⟩
noncomputable def part_xcH (n : Nat) : Code := partOf Tryz.f190 n
theorem xcH_ok (v : Value) (w : World) :
    Calls Tryz.prog 190 #[.agg #[], v] w (fun e w' => e = .returned (.tuple #[]) ∧ Keeps Nob w w') := by
  have K0 : Keeps Nob w w := Keeps.refl _ _
  refine sy_enter (part_xcH 1) ⟨#[.agg #[], v, ud, ud], []⟩ Tryz.func190 (by kernel_rfl) (by kernel_rfl) <| r_ [0] <| pbx 107 #[] (.agg #[]) fun V1 bx ebx h2 kV1 => ?_
  have n3 : w.heap.size ≤ bx := ebx ▸ K0.size
  have K4 := K0.nn kV1
  refine ps_end <| sy_fall (.tuple #[]) rfl (by kernel_rfl) ?_
  exact ⟨rfl, K4⟩
noncomputable def part_xlN (n : Nat) : Code := partOf Tryz.f194 n
theorem xlN_ok (g o : Nat) (cs : Array Value) (T : TypeId) (n : Int) (lo hi : Int) (w : World) (hb : w.heap[g]? = some (.cells cs T (0, 0))) (hc : cs[o]? = some (.int .i64 n)) :
    Calls Tryz.prog 194 #[.agg #[], .pointer (some ⟨g, o, none⟩), .int .i64 lo, .int .i64 hi] w (fun e w' => e = .returned (.tuple #[]) ∧ w'.heap[g]? = some (.cells (cs.setIfInBounds o (.int .i64 0)) T (0, 0)) ∧ Keeps (One g) w w') := by
  have hgl := lt_of_block hb
  have K0 : Keeps (One g) w w := Keeps.refl _ _
  refine sy_enter (part_xlN 1) ⟨#[.agg #[], pT g o, .int .i64 lo, .int .i64 hi, ud, ud, ud, ud, ud, ud], []⟩ Tryz.func194 (by kernel_rfl) (by kernel_rfl) <| qr_ [0] <| pbx 108 #[] (.agg #[]) fun V1 bx ebx h2 kV1 => ?_
  have n3 : g < bx := ebx ▸ lt_of_block hb
  have n4 : w.heap.size ≤ bx := ebx ▸ K0.size
  have h5 := kV1.bk hb
  have K6 := K0.nn kV1
  refine er_ [0, 1, 2] <| pkq (pT g o) <| pkq (pT g o) <| pce 3 g o (.int .i64 0) (cs.setIfInBounds o (.int .i64 0)) h5 (rc (h5) (hc)) (rfl) fun V7 h8 kV7 => ?_
  have K10 : Keeps (One g) w V7 := K6.then kV7 (fun i hi hm => by unfold Own.One at hm; subst hm; exact rfl)
  refine ps_end <| sy_fall (.tuple #[]) rfl (by kernel_rfl) ?_
  exact ⟨rfl, h8, K10⟩
noncomputable def part_xlA (n : Nat) : Code := partOf Tryz.f192 n
theorem xlA_ok (g o : Nat) (cs : Array Value) (T : TypeId) (n : Nat) (w : World) (hb : w.heap[g]? = some (.cells cs T (0, 0))) (hc : cs[o]? = some (.int .u64 ((n : Nat) : Int))) :
    Calls Tryz.prog 192 #[.agg #[], .pointer (some ⟨g, o, none⟩)] w (fun e w' => e = .returned (.tuple #[]) ∧ w'.heap[g]? = some (.cells (cs.setIfInBounds o (.int .u64 0)) T (0, 0)) ∧ Keeps (One g) w w') := by
  have hgl := lt_of_block hb
  have K0 : Keeps (One g) w w := Keeps.refl _ _
  refine sy_enter (part_xlA 1) ⟨#[.agg #[], pT g o, ud, ud, ud, ud], []⟩ Tryz.func192 (by kernel_rfl) (by kernel_rfl) <| qr_ [0] <| pbx 108 #[] (.agg #[]) fun V1 bx ebx h2 kV1 => ?_
  have n3 : g < bx := ebx ▸ lt_of_block hb
  have n4 : w.heap.size ≤ bx := ebx ▸ K0.size
  have h5 := kV1.bk hb
  have K6 := K0.nn kV1
  refine er_ [0, 1, 2] <| pkq (pT g o) <| pkq (pT g o) <| pce 24 g o (.int .u64 0) (cs.setIfInBounds o (.int .u64 0)) h5 (rc (h5) (hc)) (rfl) fun V7 h8 kV7 => ?_
  have K10 : Keeps (One g) w V7 := K6.then kV7 (fun i hi hm => by unfold Own.One at hm; subst hm; exact rfl)
  refine ps_end <| sy_fall (.tuple #[]) rfl (by kernel_rfl) ?_
  exact ⟨rfl, h8, K10⟩
noncomputable def part_xlH (n : Nat) : Code := partOf Tryz.f193 n
theorem xlH_ok (g o : Nat) (cs : Array Value) (T : TypeId) (w : World) (hb : w.heap[g]? = some (.cells cs T (0, 0))) (hsz : o + 32 ≤ cs.size) :
    Calls Tryz.prog 193 #[.agg #[], .pointer (some ⟨g, o, none⟩)] w (fun e w' => e = .returned (.tuple #[]) ∧ w'.heap[g]? = some (.cells (seg cs o (B zeroH)) T (0, 0)) ∧ Keeps (One g) w w') := by
  have hgl := lt_of_block hb
  have K0 : Keeps (One g) w w := Keeps.refl _ _
  refine sy_enter (part_xlH 1) ⟨#[.agg #[], pT g o, ud, ud, ud, ud, ud], []⟩ Tryz.func193 (by kernel_rfl) (by kernel_rfl) <| qr_ [0] <| pbx 108 #[] (.agg #[]) fun V1 bx ebx h2 kV1 => ?_
  have n3 : g < bx := ebx ▸ lt_of_block hb
  have n4 : w.heap.size ≤ bx := ebx ▸ K0.size
  have h5 := kV1.bk hb
  have K6 := K0.nn kV1
  refine er_ [0, 1, 2, 3] <| pkq (pT g o) <| pkq (.agg (B zeroH).toArray) <| pkq (pT g o) ?_
  obtain ⟨V7, eV7⟩ : ∃ V, V1.setCells g o (B zeroH).toArray.toList = V := ⟨_, rfl⟩
  have kV7 : Keeps (One g) V1 V7 := eV7 ▸ Keeps.setCells _ _ _ _
  have h8 : V7.heap[g]? = some (.cells (seg cs o (B zeroH)) T (0, 0)) := eV7 ▸ heap_setCells g _ _ o _ _ h5 (show o + (B zeroH).length ≤ _ by rw [B_length, (show zeroH.length = 32 from rfl)]; exact hsz)
  refine pzq (w' := V7) (by rw [← eV7]; exact exec_store_mid 23 (.tmp 6) (.tmp 5) (by kernel_rfl) g o (by kernel_rfl) (B zeroH).toArray (by kernel_rfl) _ _ h5 (show o + (B zeroH).length ≤ _ by rw [B_length, (show zeroH.length = 32 from rfl)]; exact hsz) (by rw [Bz_size, (show zeroH.length = 32 from rfl)]; kernel_rfl) (by rw [List.all_toArray]; exact List.all_eq_true.2 (B_one _))) ?_
  clear eV7
  have K10 : Keeps (One g) w V7 := K6.then kV7 (fun i hi hm => by unfold Own.One at hm; subst hm; exact rfl)
  refine ps_end <| sy_fall (.tuple #[]) rfl (by kernel_rfl) ?_
  exact ⟨rfl, h8, K10⟩
end Go.Proofs.YtcbfnflnokoacaaGreat
namespace Go.Proofs.YtcbfnflnokoacaaGreat
set_option maxRecDepth 100000
set_option maxHeartbeats 4000000
open Go Go.RowKit Go.Own Go.Shelf
def chkV : Vis := ⟨.iface 107 (.agg #[]), .agg #[], 191, 189, 190⟩
def clrV : Vis := ⟨.iface 108 (.agg #[]), .agg #[], 194, 192, 193⟩
theorem chkV_ok : chkV.Ok := ⟨fun _ _ => by kernel_rfl, fun _ _ => by kernel_rfl, fun _ _ => by kernel_rfl, nil_at fun _ => by kernel_rfl, nil_at fun _ => by kernel_rfl, nil_at fun _ => by kernel_rfl⟩
theorem clrV_ok : clrV.Ok := ⟨fun _ _ => by kernel_rfl, fun _ _ => by kernel_rfl, fun _ _ => by kernel_rfl, nil_at fun _ => by kernel_rfl, nil_at fun _ => by kernel_rfl, nil_at fun _ => by kernel_rfl⟩
/-- A thing of a message: a number field, its bounds; an amount; a hash; the number of a kind of votes. -/
inductive MIt where
  | n (x : NF) (lo hi : Int) | a (x : AF) | h (x : HF) | k (x : Int)
def MIt.low : MIt → It
  | .n x lo hi => .n x.off lo hi | .a x => .a x.off | .h x => .h x.off | .k x => .k x
section
variable {g : Nat} {K : World → Prop} {E : List PanicEntry → World → Prop}
theorem hoff_le (x : HF) : x.off + 32 ≤ 154 := by cases x <;> decide
/-! The checker. -/
def chkIt (m : Msg) : MIt → Bool
  | .n x lo hi => decide (lo ≤ x.get m ∧ x.get m ≤ hi) | _ => true
theorem run_chk (m : Msg) (hr : m.R) (l : List MIt) : ∀ w : World, w.heap[g]? = some (.cells m.c 104 (0, 0)) → (l.all (chkIt m) = true → ∀ w', Keeps Nob w w' → K w') → (l.all (chkIt m) = false → ∀ w', Keeps Nob w w' → E [outP] w') → Run chkV g (l.map MIt.low) K E w := by
  induction l with
  | nil => intro w _ hk _; exact hk rfl w (Keeps.refl _ _)
  | cons i r ih =>
    intro w hb hk he
    have step : ∀ W W', Keeps Nob w W → Keeps Nob W W' → chkIt m i = true → PEnd (Run chkV g (r.map MIt.low) K E) E (.returned (.tuple #[])) W' := fun W W' k1 k2 hi => .inl ⟨rfl, ih W' ((k1.nn k2).bk hb)
      (fun h W2 k3 => hk (by rw [List.all_cons, hi, h]; rfl) W2 ((k1.nn k2).nn k3)) (fun h W2 k3 => he (by rw [List.all_cons, hi, h]; rfl) W2 ((k1.nn k2).nn k3))⟩
    cases i with
    | n x lo hi =>
      intro W k1
      by_cases hin : lo ≤ x.get m ∧ x.get m ≤ hi
      · exact (xcN_in g x.off m.c _ _ lo hi W (k1.bk hb) (Msg.get_n hr x) hin.1 hin.2).mono fun e W' ⟨h1, k2⟩ => h1 ▸ step W W' k1 k2 (decide_eq_true hin)
      · exact (xcN_out g x.off m.c _ _ lo hi W (k1.bk hb) (Msg.get_n hr x) hin).mono fun e W' ⟨h1, k2⟩ => .inr ⟨_, h1, he (by rw [List.all_cons, show chkIt m (.n x lo hi) = false from decide_eq_false hin]; rfl) W' (k1.nn k2)⟩
    | a x => intro W k1; exact (xcA_ok _ W).mono fun e W' ⟨h1, k2⟩ => h1 ▸ step W W' k1 k2 rfl
    | h x => intro W k1; exact (xcH_ok _ W).mono fun e W' ⟨h1, k2⟩ => h1 ▸ step W W' k1 k2 rfl
    | k x => intro W c k1 _ hc; exact (xcN_in c 0 _ _ x x x W hc rfl (Int.le_refl _) (Int.le_refl _)).mono fun e W' ⟨h1, k2⟩ => h1 ▸ step W W' k1 k2 rfl
/-! The clearer. -/
def clrIt (m : Msg) : MIt → Msg
  | .n x _ _ => x.set m 0 | .a x => x.set m 0 | .h x => x.set m zeroH | .k _ => m
theorem clr_R {m : Msg} (i : MIt) (h : m.R) : (clrIt m i).R := by
  cases i with
  | n x lo hi => exact NF.R h
  | a x => exact AF.R h
  | h x => exact HF.R h rfl
  | k x => exact h
theorem run_clr (l : List MIt) : ∀ (m : Msg) (w : World), m.R → w.heap[g]? = some (.cells m.c 104 (0, 0)) → (∀ w', w'.heap[g]? = some (.cells (l.foldl clrIt m).c 104 (0, 0)) → Keeps (One g) w w' → K w') → Run clrV g (l.map MIt.low) K E w := by
  induction l with
  | nil => intro m w _ hb hk; exact hk w hb (Keeps.refl _ _)
  | cons i r ih =>
    intro m w hr hb hk
    have step : ∀ W W', Keeps Nob w W → Keeps (One g) W W' → W'.heap[g]? = some (.cells (clrIt m i).c 104 (0, 0)) → PEnd (Run clrV g (r.map MIt.low) K E) E (.returned (.tuple #[])) W' := fun W W' k1 k2 hb2 =>
      .inl ⟨rfl, ih _ W' (clr_R i hr) hb2 (fun W2 h2 k3 => hk W2 h2 (((k1.mono (fun _ _ x => x.elim)).then k2 (fun _ _ x => x)).then k3 (fun _ _ x => x)))⟩
    cases i with
    | n x lo hi => intro W k1; exact (xlN_ok g x.off m.c _ _ lo hi W (k1.bk hb) (Msg.get_n hr x)).mono fun e W' ⟨h1, h2, k2⟩ => h1 ▸ step W W' k1 k2 (by rw [Msg.set_n hr] at h2; exact h2)
    | a x => intro W k1; exact (xlA_ok g x.off m.c _ _ W (k1.bk hb) (Msg.get_a hr x)).mono fun e W' ⟨h1, h2, k2⟩ => h1 ▸ step W W' k1 k2 (by rw [show (Value.int .u64 0) = .int .u64 ((0 : Nat) : Int) from rfl, Msg.set_a hr] at h2; exact h2)
    | h x => intro W k1; exact (xlH_ok g x.off m.c _ W (k1.bk hb) (by rw [Msg.c_size hr]; exact hoff_le x)).mono fun e W' ⟨h1, h2, k2⟩ => h1 ▸ step W W' k1 k2 (by rw [Msg.set_h hr x zeroH rfl] at h2; exact h2)
    | k x =>
      intro W c k1 hge hc
      have hne : g ≠ c := fun e => by have := lt_of_block hb; omega
      exact (xlN_ok c 0 _ _ x x x W hc rfl).mono fun e W' ⟨h1, _, k2⟩ => h1 ▸ .inl ⟨rfl, ih _ W' hr (k2.bo (k1.bk hb) hne) (fun W2 h2 k3 => hk W2 h2 (((k1.no k2 hge).mono (fun _ _ x => x.elim)).then k3 (fun _ _ x => x)))⟩
/-! The writer. -/
def Am (m : Msg) : Prop := ∀ x : AF, x.get m < 2 ^ 64
/-! The reader. -/
end
end Go.Proofs.YtcbfnflnokoacaaGreat
namespace Go.Proofs.YtcbfnflnokoacaaGreat
set_option maxRecDepth 100000
set_option maxHeartbeats 4000000
open Go Go.RowKit Go.Own Go.Shelf
def kindsC : Array Value := #[.nilFunc, .func (.func 115) #[] #[], .func (.func 116) #[] #[], .func (.func 117) #[] #[], .func (.func 118) #[] #[], .func (.func 119) #[] #[], .func (.func 120) #[] #[], .func (.func 121) #[] #[], .func (.func 122) #[] #[], .func (.func 123) #[] #[], .func (.func 124) #[] #[], .func (.func 125) #[] #[]]
noncomputable def qc34_1 (n : Nat) : Code := partOf Tryz.f69 n
theorem mknown_yes (k : Int) (w : World) (h1 : 1 ≤ k) (h2 : k ≤ 11) :
    Calls Tryz.prog 69 #[.int .i64 k] w (fun e w' => e = .returned (.bool true) ∧ w = w') := by
  have K0 : Keeps Nob w w := Keeps.refl _ _
  refine sy_enter (qc34_1 1) ⟨#[.int .i64 k, ud, ud, ud, ud, ud, ud, ud, ud], []⟩ Tryz.func69 (by kernel_rfl) (by kernel_rfl) <| qr_ [0] <| pkq (.bool false) <| eqr_ [0, 1, 2, 3, 4, 5, 6] <| pkq (.int .i64 k) <| ppq (.bool true) (dct (((k) : Int) ≥ ((1) : Int)) (by omega)) <| pkq (.bool true) <| pkq (.int .i64 k) <| ppq (.bool true) (dct (((k) : Int) ≤ ((11) : Int)) (by omega)) <| pkq (.bool true) <| pkq (.bool true) <| eu_ <| so_ (.bool true) ?_
  exact ⟨rfl, rfl⟩
theorem mknown_lo (k : Int) (w : World) (h : k < 1) :
    Calls Tryz.prog 69 #[.int .i64 k] w (fun e w' => e = .returned (.bool false) ∧ w = w') := by
  have K0 : Keeps Nob w w := Keeps.refl _ _
  refine sy_enter (qc34_1 1) ⟨#[.int .i64 k, ud, ud, ud, ud, ud, ud, ud, ud], []⟩ Tryz.func69 (by kernel_rfl) (by kernel_rfl) <| qr_ [0] <| pkq (.bool false) <| eqr_ [0, 1, 2, 3, 4, 5, 6] <| pkq (.int .i64 k) <| ppq (.bool false) (dcf (((k) : Int) ≥ ((1) : Int)) (by omega)) <| pkq (.bool false) <| pnq <| pnq <| pkq (.bool false) <| pkq (.bool false) <| eu_ <| so_ (.bool false) ?_
  exact ⟨rfl, rfl⟩
theorem mknown_hi (k : Int) (w : World) (h0 : 1 ≤ k) (h : 11 < k) :
    Calls Tryz.prog 69 #[.int .i64 k] w (fun e w' => e = .returned (.bool false) ∧ w = w') := by
  have K0 : Keeps Nob w w := Keeps.refl _ _
  refine sy_enter (qc34_1 1) ⟨#[.int .i64 k, ud, ud, ud, ud, ud, ud, ud, ud], []⟩ Tryz.func69 (by kernel_rfl) (by kernel_rfl) <| qr_ [0] <| pkq (.bool false) <| eqr_ [0, 1, 2, 3, 4, 5, 6] <| pkq (.int .i64 k) <| ppq (.bool true) (dct (((k) : Int) ≥ ((1) : Int)) (by omega)) <| pkq (.bool true) <| pkq (.int .i64 k) <| ppq (.bool false) (dcf (((k) : Int) ≤ ((11) : Int)) (by omega)) <| pkq (.bool false) <| pkq (.bool false) <| eu_ <| so_ (.bool false) ?_
  exact ⟨rfl, rfl⟩
theorem mknown_no (k : Int) (w : World) (h : ¬ (1 ≤ k ∧ k ≤ 11)) : Calls Tryz.prog 69 #[.int .i64 k] w (fun e w' => e = .returned (.bool false) ∧ w = w') := by
  by_cases h1 : 1 ≤ k
  · exact mknown_hi k w h1 (by omega)
  · exact mknown_lo k w (by omega)
noncomputable def qc34_0 (n : Nat) : Code := partOf Tryz.f94 n
theorem mkinds_ok (w : World) :
    Calls Tryz.prog 94 #[] w (fun e w' => e = .returned (.agg kindsC) ∧ Keeps Nob w w') := by
  have K0 : Keeps Nob w w := Keeps.refl _ _
  refine sy_enter (qc34_0 1) ⟨#[ud, ud], []⟩ Tryz.func94 (by kernel_rfl) (by kernel_rfl) <| qr_ [0] <| pal 139 (#[.nilFunc, .nilFunc, .nilFunc, .nilFunc, .nilFunc, .nilFunc, .nilFunc, .nilFunc, .nilFunc, .nilFunc, .nilFunc, .nilFunc]) (.agg (#[.nilFunc, .nilFunc, .nilFunc, .nilFunc, .nilFunc, .nilFunc, .nilFunc, .nilFunc, .nilFunc, .nilFunc, .nilFunc, .nilFunc])) fun V1 g2 eg2 h3 kV1 => ?_
  have n4 : w.heap.size ≤ g2 := eg2 ▸ K0.size
  have K5 := K0.nn kV1
  refine eqr_ [0, 1] <| pkq (.agg #[.nilFunc, .func (.func 115) #[] #[], .func (.func 116) #[] #[], .func (.func 117) #[] #[], .func (.func 118) #[] #[], .func (.func 119) #[] #[], .func (.func 120) #[] #[], .func (.func 121) #[] #[], .func (.func 122) #[] #[], .func (.func 123) #[] #[], .func (.func 124) #[] #[], .func (.func 125) #[] #[]]) ?_
  refine psk 139 g2 (#[.nilFunc, .func (.func 115) #[] #[], .func (.func 116) #[] #[], .func (.func 117) #[] #[], .func (.func 118) #[] #[], .func (.func 119) #[] #[], .func (.func 120) #[] #[], .func (.func 121) #[] #[], .func (.func 122) #[] #[], .func (.func 123) #[] #[], .func (.func 124) #[] #[], .func (.func 125) #[] #[]]) h3 fun V6 h7 kV6 => ?_
  have K8 := K5.nO kV6
  refine eu_ <| sy_out (.agg (#[.nilFunc, .func (.func 115) #[] #[], .func (.func 116) #[] #[], .func (.func 117) #[] #[], .func (.func 118) #[] #[], .func (.func 119) #[] #[], .func (.func 120) #[] #[], .func (.func 121) #[] #[], .func (.func 122) #[] #[], .func (.func 123) #[] #[], .func (.func 124) #[] #[], .func (.func 125) #[] #[]])) rfl (results_cell_row (p := 0) (ty := 139) (by kernel_rfl) _ _ g2 139 (#[.nilFunc, .func (.func 115) #[] #[], .func (.func 116) #[] #[], .func (.func 117) #[] #[], .func (.func 118) #[] #[], .func (.func 119) #[] #[], .func (.func 120) #[] #[], .func (.func 121) #[] #[], .func (.func 122) #[] #[], .func (.func 123) #[] #[], .func (.func 124) #[] #[], .func (.func 125) #[] #[]]) (0, 0) _ (by kernel_rfl) h7 Tryz.underlying139 rfl (by kernel_rfl)) ?_
  exact ⟨rfl, K8⟩
noncomputable def qc34_2 (n : Nat) : Code := partOf Tryz.f71 n
noncomputable abbrev qo34_2 (n k : Nat) : Oper := (opsAt (qc34_2 n)).getD k default
theorem mall_1 (V : Vis) (hV : V.Ok) (g : Nat) (K : World → Prop) (E : List PanicEntry → World → Prop) (cs : Array Value) (T : TypeId) (w : World) (hb : w.heap[g]? = some (.cells cs T (0, 0))) (hc : cs[0]? = some (.int .i64 1)) (H : Run V g [.n 1 0 63, .n 3 0 63, .a 4] K E w) :
    Calls Tryz.prog 71 #[.pointer (some ⟨g, 0, none⟩), V.v] w (PEnd K E) := by
  have K0 : Keeps Nob w w := Keeps.refl _ _
  refine sy_enter (qc34_2 1) ⟨#[pT g 0, V.v, ud, ud, ud, ud, ud, ud, ud, ud, ud, ud, ud, ud, ud], []⟩ Tryz.func71 (by kernel_rfl) (by kernel_rfl) <| qr_ [0, 1, 2] ?_
  refine pcq 94 #[] Tryz.func94 ((mkinds_ok _).mono ?_)
  rintro e V1 ⟨rfl, kV1⟩
  refine ⟨_, rfl, ?_⟩
  have h2 := kV1.bk hb
  have K3 := K0.nn kV1
  refine pal 139 (#[.nilFunc, .nilFunc, .nilFunc, .nilFunc, .nilFunc, .nilFunc, .nilFunc, .nilFunc, .nilFunc, .nilFunc, .nilFunc, .nilFunc]) (.agg (#[.nilFunc, .nilFunc, .nilFunc, .nilFunc, .nilFunc, .nilFunc, .nilFunc, .nilFunc, .nilFunc, .nilFunc, .nilFunc, .nilFunc])) fun V4 ga ega h5 kV4 => ?_
  have n6 : g < ga := ega ▸ lt_of_block h2
  have n7 : w.heap.size ≤ ga := ega ▸ K3.size
  have h8 := kV4.bk h2
  have K9 := K3.nn kV4
  refine psk 139 ga (#[.nilFunc, .func (.func 115) #[] #[], .func (.func 116) #[] #[], .func (.func 117) #[] #[], .func (.func 118) #[] #[], .func (.func 119) #[] #[], .func (.func 120) #[] #[], .func (.func 121) #[] #[], .func (.func 122) #[] #[], .func (.func 123) #[] #[], .func (.func 124) #[] #[], .func (.func 125) #[] #[]]) h5 fun V10 h11 kV10 => ?_
  have h12 := kV10.bO h8
  have K13 := K9.nO kV10
  refine er_ [0, 1, 2, 3, 4, 5, 6, 7, 8] <| pkq (pT g 0) <| pkq (pT g 0) <| pkq (pT g 0) <| ppq (.int .i64 1) (ldc 3 g 0 (rc (h12) (hc))) <| ppq (pT ga 1) (exec_cast (v := pT ga (0 + 1 * 1)) (by simp) (exec_indexAt_arr 139 (.tmp 4) (.tmp 9) (by kernel_rfl) ga 0 (by kernel_rfl) .i64 1 (by kernel_rfl) _ _ 1 Tryz.underlying139 (by kernel_rfl) (by omega))) <| ppq (.func (.func 115) #[] #[]) (ldk 138 ga 1 h11) <| pkq (pT g 0) <| pkq (V.v) <| ps_P (qo34_2 3 8) 115 #[.pointer (some ⟨g, 0, none⟩), V.v] _ _ (run_callV (qo34_2 3 8) (.tmp 11) 115 #[] #[] #[.pointer (some ⟨g, 0, none⟩), V.v] (by kernel_rfl) (by kernel_rfl) (by kernel_rfl) (enters_of Tryz.func115 (by kernel_rfl) rfl)) (mtransfer_ok V hV g K E _ (Run.keepsN H K13)) (fun c w' h => ⟨rfl, .inr ⟨c, rfl, h⟩⟩) ?_
  rintro V14 hE
  refine ps_end <| sy_fall (.tuple #[]) rfl (by kernel_rfl) ?_
  exact .inl ⟨rfl, hE⟩
theorem mall_2 (V : Vis) (hV : V.Ok) (g : Nat) (K : World → Prop) (E : List PanicEntry → World → Prop) (cs : Array Value) (T : TypeId) (w : World) (hb : w.heap[g]? = some (.cells cs T (0, 0))) (hc : cs[0]? = some (.int .i64 2)) (H : Run V g [.n 1 0 63, .a 5, .a 4] K E w) :
    Calls Tryz.prog 71 #[.pointer (some ⟨g, 0, none⟩), V.v] w (PEnd K E) := by
  have K0 : Keeps Nob w w := Keeps.refl _ _
  refine sy_enter (qc34_2 1) ⟨#[pT g 0, V.v, ud, ud, ud, ud, ud, ud, ud, ud, ud, ud, ud, ud, ud], []⟩ Tryz.func71 (by kernel_rfl) (by kernel_rfl) <| qr_ [0, 1, 2] ?_
  refine pcq 94 #[] Tryz.func94 ((mkinds_ok _).mono ?_)
  rintro e V1 ⟨rfl, kV1⟩
  refine ⟨_, rfl, ?_⟩
  have h2 := kV1.bk hb
  have K3 := K0.nn kV1
  refine pal 139 (#[.nilFunc, .nilFunc, .nilFunc, .nilFunc, .nilFunc, .nilFunc, .nilFunc, .nilFunc, .nilFunc, .nilFunc, .nilFunc, .nilFunc]) (.agg (#[.nilFunc, .nilFunc, .nilFunc, .nilFunc, .nilFunc, .nilFunc, .nilFunc, .nilFunc, .nilFunc, .nilFunc, .nilFunc, .nilFunc])) fun V4 ga ega h5 kV4 => ?_
  have n6 : g < ga := ega ▸ lt_of_block h2
  have n7 : w.heap.size ≤ ga := ega ▸ K3.size
  have h8 := kV4.bk h2
  have K9 := K3.nn kV4
  refine psk 139 ga (#[.nilFunc, .func (.func 115) #[] #[], .func (.func 116) #[] #[], .func (.func 117) #[] #[], .func (.func 118) #[] #[], .func (.func 119) #[] #[], .func (.func 120) #[] #[], .func (.func 121) #[] #[], .func (.func 122) #[] #[], .func (.func 123) #[] #[], .func (.func 124) #[] #[], .func (.func 125) #[] #[]]) h5 fun V10 h11 kV10 => ?_
  have h12 := kV10.bO h8
  have K13 := K9.nO kV10
  refine er_ [0, 1, 2, 3, 4, 5, 6, 7, 8] <| pkq (pT g 0) <| pkq (pT g 0) <| pkq (pT g 0) <| ppq (.int .i64 2) (ldc 3 g 0 (rc (h12) (hc))) <| ppq (pT ga 2) (exec_cast (v := pT ga (0 + 2 * 1)) (by simp) (exec_indexAt_arr 139 (.tmp 4) (.tmp 9) (by kernel_rfl) ga 0 (by kernel_rfl) .i64 2 (by kernel_rfl) _ _ 1 Tryz.underlying139 (by kernel_rfl) (by omega))) <| ppq (.func (.func 116) #[] #[]) (ldk 138 ga 2 h11) <| pkq (pT g 0) <| pkq (V.v) <| ps_P (qo34_2 3 8) 116 #[.pointer (some ⟨g, 0, none⟩), V.v] _ _ (run_callV (qo34_2 3 8) (.tmp 11) 116 #[] #[] #[.pointer (some ⟨g, 0, none⟩), V.v] (by kernel_rfl) (by kernel_rfl) (by kernel_rfl) (enters_of Tryz.func116 (by kernel_rfl) rfl)) (mcreate_ok V hV g K E _ (Run.keepsN H K13)) (fun c w' h => ⟨rfl, .inr ⟨c, rfl, h⟩⟩) ?_
  rintro V14 hE
  refine ps_end <| sy_fall (.tuple #[]) rfl (by kernel_rfl) ?_
  exact .inl ⟨rfl, hE⟩
theorem mall_3 (V : Vis) (hV : V.Ok) (g : Nat) (K : World → Prop) (E : List PanicEntry → World → Prop) (cs : Array Value) (T : TypeId) (w : World) (hb : w.heap[g]? = some (.cells cs T (0, 0))) (hc : cs[0]? = some (.int .i64 3)) (H : Run V g [.n 1 0 63, .n 2 0 31, .a 4] K E w) :
    Calls Tryz.prog 71 #[.pointer (some ⟨g, 0, none⟩), V.v] w (PEnd K E) := by
  have K0 : Keeps Nob w w := Keeps.refl _ _
  refine sy_enter (qc34_2 1) ⟨#[pT g 0, V.v, ud, ud, ud, ud, ud, ud, ud, ud, ud, ud, ud, ud, ud], []⟩ Tryz.func71 (by kernel_rfl) (by kernel_rfl) <| qr_ [0, 1, 2] ?_
  refine pcq 94 #[] Tryz.func94 ((mkinds_ok _).mono ?_)
  rintro e V1 ⟨rfl, kV1⟩
  refine ⟨_, rfl, ?_⟩
  have h2 := kV1.bk hb
  have K3 := K0.nn kV1
  refine pal 139 (#[.nilFunc, .nilFunc, .nilFunc, .nilFunc, .nilFunc, .nilFunc, .nilFunc, .nilFunc, .nilFunc, .nilFunc, .nilFunc, .nilFunc]) (.agg (#[.nilFunc, .nilFunc, .nilFunc, .nilFunc, .nilFunc, .nilFunc, .nilFunc, .nilFunc, .nilFunc, .nilFunc, .nilFunc, .nilFunc])) fun V4 ga ega h5 kV4 => ?_
  have n6 : g < ga := ega ▸ lt_of_block h2
  have n7 : w.heap.size ≤ ga := ega ▸ K3.size
  have h8 := kV4.bk h2
  have K9 := K3.nn kV4
  refine psk 139 ga (#[.nilFunc, .func (.func 115) #[] #[], .func (.func 116) #[] #[], .func (.func 117) #[] #[], .func (.func 118) #[] #[], .func (.func 119) #[] #[], .func (.func 120) #[] #[], .func (.func 121) #[] #[], .func (.func 122) #[] #[], .func (.func 123) #[] #[], .func (.func 124) #[] #[], .func (.func 125) #[] #[]]) h5 fun V10 h11 kV10 => ?_
  have h12 := kV10.bO h8
  have K13 := K9.nO kV10
  refine er_ [0, 1, 2, 3, 4, 5, 6, 7, 8] <| pkq (pT g 0) <| pkq (pT g 0) <| pkq (pT g 0) <| ppq (.int .i64 3) (ldc 3 g 0 (rc (h12) (hc))) <| ppq (pT ga 3) (exec_cast (v := pT ga (0 + 3 * 1)) (by simp) (exec_indexAt_arr 139 (.tmp 4) (.tmp 9) (by kernel_rfl) ga 0 (by kernel_rfl) .i64 3 (by kernel_rfl) _ _ 1 Tryz.underlying139 (by kernel_rfl) (by omega))) <| ppq (.func (.func 117) #[] #[]) (ldk 138 ga 3 h11) <| pkq (pT g 0) <| pkq (V.v) <| ps_P (qo34_2 3 8) 117 #[.pointer (some ⟨g, 0, none⟩), V.v] _ _ (run_callV (qo34_2 3 8) (.tmp 11) 117 #[] #[] #[.pointer (some ⟨g, 0, none⟩), V.v] (by kernel_rfl) (by kernel_rfl) (by kernel_rfl) (enters_of Tryz.func117 (by kernel_rfl) rfl)) (mdelegate_ok V hV g K E _ (Run.keepsN H K13)) (fun c w' h => ⟨rfl, .inr ⟨c, rfl, h⟩⟩) ?_
  rintro V14 hE
  refine ps_end <| sy_fall (.tuple #[]) rfl (by kernel_rfl) ?_
  exact .inl ⟨rfl, hE⟩
theorem mall_4 (V : Vis) (hV : V.Ok) (g : Nat) (K : World → Prop) (E : List PanicEntry → World → Prop) (cs : Array Value) (T : TypeId) (w : World) (hb : w.heap[g]? = some (.cells cs T (0, 0))) (hc : cs[0]? = some (.int .i64 4)) (H : Run V g [.n 1 0 63, .n 6 0 31, .n 7 1 4294967296, .n 8 (-1) 31, .n 9 0 4294967296, .a 4] K E w) :
    Calls Tryz.prog 71 #[.pointer (some ⟨g, 0, none⟩), V.v] w (PEnd K E) := by
  have K0 : Keeps Nob w w := Keeps.refl _ _
  refine sy_enter (qc34_2 1) ⟨#[pT g 0, V.v, ud, ud, ud, ud, ud, ud, ud, ud, ud, ud, ud, ud, ud], []⟩ Tryz.func71 (by kernel_rfl) (by kernel_rfl) <| qr_ [0, 1, 2] ?_
  refine pcq 94 #[] Tryz.func94 ((mkinds_ok _).mono ?_)
  rintro e V1 ⟨rfl, kV1⟩
  refine ⟨_, rfl, ?_⟩
  have h2 := kV1.bk hb
  have K3 := K0.nn kV1
  refine pal 139 (#[.nilFunc, .nilFunc, .nilFunc, .nilFunc, .nilFunc, .nilFunc, .nilFunc, .nilFunc, .nilFunc, .nilFunc, .nilFunc, .nilFunc]) (.agg (#[.nilFunc, .nilFunc, .nilFunc, .nilFunc, .nilFunc, .nilFunc, .nilFunc, .nilFunc, .nilFunc, .nilFunc, .nilFunc, .nilFunc])) fun V4 ga ega h5 kV4 => ?_
  have n6 : g < ga := ega ▸ lt_of_block h2
  have n7 : w.heap.size ≤ ga := ega ▸ K3.size
  have h8 := kV4.bk h2
  have K9 := K3.nn kV4
  refine psk 139 ga (#[.nilFunc, .func (.func 115) #[] #[], .func (.func 116) #[] #[], .func (.func 117) #[] #[], .func (.func 118) #[] #[], .func (.func 119) #[] #[], .func (.func 120) #[] #[], .func (.func 121) #[] #[], .func (.func 122) #[] #[], .func (.func 123) #[] #[], .func (.func 124) #[] #[], .func (.func 125) #[] #[]]) h5 fun V10 h11 kV10 => ?_
  have h12 := kV10.bO h8
  have K13 := K9.nO kV10
  refine er_ [0, 1, 2, 3, 4, 5, 6, 7, 8] <| pkq (pT g 0) <| pkq (pT g 0) <| pkq (pT g 0) <| ppq (.int .i64 4) (ldc 3 g 0 (rc (h12) (hc))) <| ppq (pT ga 4) (exec_cast (v := pT ga (0 + 4 * 1)) (by simp) (exec_indexAt_arr 139 (.tmp 4) (.tmp 9) (by kernel_rfl) ga 0 (by kernel_rfl) .i64 4 (by kernel_rfl) _ _ 1 Tryz.underlying139 (by kernel_rfl) (by omega))) <| ppq (.func (.func 118) #[] #[]) (ldk 138 ga 4 h11) <| pkq (pT g 0) <| pkq (V.v) <| ps_P (qo34_2 3 8) 118 #[.pointer (some ⟨g, 0, none⟩), V.v] _ _ (run_callV (qo34_2 3 8) (.tmp 11) 118 #[] #[] #[.pointer (some ⟨g, 0, none⟩), V.v] (by kernel_rfl) (by kernel_rfl) (by kernel_rfl) (enters_of Tryz.func118 (by kernel_rfl) rfl)) (mundelegate_ok V hV g K E _ (Run.keepsN H K13)) (fun c w' h => ⟨rfl, .inr ⟨c, rfl, h⟩⟩) ?_
  rintro V14 hE
  refine ps_end <| sy_fall (.tuple #[]) rfl (by kernel_rfl) ?_
  exact .inl ⟨rfl, hE⟩
theorem mall_5 (V : Vis) (hV : V.Ok) (g : Nat) (K : World → Prop) (E : List PanicEntry → World → Prop) (cs : Array Value) (T : TypeId) (w : World) (hb : w.heap[g]? = some (.cells cs T (0, 0))) (hc : cs[0]? = some (.int .i64 5)) (H : Run V g [.n 1 0 63, .n 6 0 31, .n 7 1 4294967296, .n 8 (-1) 31, .n 9 0 4294967296, .a 4, .n 3 0 31] K E w) :
    Calls Tryz.prog 71 #[.pointer (some ⟨g, 0, none⟩), V.v] w (PEnd K E) := by
  have K0 : Keeps Nob w w := Keeps.refl _ _
  refine sy_enter (qc34_2 1) ⟨#[pT g 0, V.v, ud, ud, ud, ud, ud, ud, ud, ud, ud, ud, ud, ud, ud], []⟩ Tryz.func71 (by kernel_rfl) (by kernel_rfl) <| qr_ [0, 1, 2] ?_
  refine pcq 94 #[] Tryz.func94 ((mkinds_ok _).mono ?_)
  rintro e V1 ⟨rfl, kV1⟩
  refine ⟨_, rfl, ?_⟩
  have h2 := kV1.bk hb
  have K3 := K0.nn kV1
  refine pal 139 (#[.nilFunc, .nilFunc, .nilFunc, .nilFunc, .nilFunc, .nilFunc, .nilFunc, .nilFunc, .nilFunc, .nilFunc, .nilFunc, .nilFunc]) (.agg (#[.nilFunc, .nilFunc, .nilFunc, .nilFunc, .nilFunc, .nilFunc, .nilFunc, .nilFunc, .nilFunc, .nilFunc, .nilFunc, .nilFunc])) fun V4 ga ega h5 kV4 => ?_
  have n6 : g < ga := ega ▸ lt_of_block h2
  have n7 : w.heap.size ≤ ga := ega ▸ K3.size
  have h8 := kV4.bk h2
  have K9 := K3.nn kV4
  refine psk 139 ga (#[.nilFunc, .func (.func 115) #[] #[], .func (.func 116) #[] #[], .func (.func 117) #[] #[], .func (.func 118) #[] #[], .func (.func 119) #[] #[], .func (.func 120) #[] #[], .func (.func 121) #[] #[], .func (.func 122) #[] #[], .func (.func 123) #[] #[], .func (.func 124) #[] #[], .func (.func 125) #[] #[]]) h5 fun V10 h11 kV10 => ?_
  have h12 := kV10.bO h8
  have K13 := K9.nO kV10
  refine er_ [0, 1, 2, 3, 4, 5, 6, 7, 8] <| pkq (pT g 0) <| pkq (pT g 0) <| pkq (pT g 0) <| ppq (.int .i64 5) (ldc 3 g 0 (rc (h12) (hc))) <| ppq (pT ga 5) (exec_cast (v := pT ga (0 + 5 * 1)) (by simp) (exec_indexAt_arr 139 (.tmp 4) (.tmp 9) (by kernel_rfl) ga 0 (by kernel_rfl) .i64 5 (by kernel_rfl) _ _ 1 Tryz.underlying139 (by kernel_rfl) (by omega))) <| ppq (.func (.func 119) #[] #[]) (ldk 138 ga 5 h11) <| pkq (pT g 0) <| pkq (V.v) <| ps_P (qo34_2 3 8) 119 #[.pointer (some ⟨g, 0, none⟩), V.v] _ _ (run_callV (qo34_2 3 8) (.tmp 11) 119 #[] #[] #[.pointer (some ⟨g, 0, none⟩), V.v] (by kernel_rfl) (by kernel_rfl) (by kernel_rfl) (enters_of Tryz.func119 (by kernel_rfl) rfl)) (mredelegate_ok V hV g K E _ (Run.keepsN H K13)) (fun c w' h => ⟨rfl, .inr ⟨c, rfl, h⟩⟩) ?_
  rintro V14 hE
  refine ps_end <| sy_fall (.tuple #[]) rfl (by kernel_rfl) ?_
  exact .inl ⟨rfl, hE⟩
theorem mall_6 (V : Vis) (hV : V.Ok) (g : Nat) (K : World → Prop) (E : List PanicEntry → World → Prop) (cs : Array Value) (T : TypeId) (w : World) (hb : w.heap[g]? = some (.cells cs T (0, 0))) (hc : cs[0]? = some (.int .i64 6)) (H : Run V g [.n 1 0 63, .k 1, .n 12 0 31, .n 13 0 4294967296, .n 14 0 4294967296, .h 15, .a 47] K E w) :
    Calls Tryz.prog 71 #[.pointer (some ⟨g, 0, none⟩), V.v] w (PEnd K E) := by
  have K0 : Keeps Nob w w := Keeps.refl _ _
  refine sy_enter (qc34_2 1) ⟨#[pT g 0, V.v, ud, ud, ud, ud, ud, ud, ud, ud, ud, ud, ud, ud, ud], []⟩ Tryz.func71 (by kernel_rfl) (by kernel_rfl) <| qr_ [0, 1, 2] ?_
  refine pcq 94 #[] Tryz.func94 ((mkinds_ok _).mono ?_)
  rintro e V1 ⟨rfl, kV1⟩
  refine ⟨_, rfl, ?_⟩
  have h2 := kV1.bk hb
  have K3 := K0.nn kV1
  refine pal 139 (#[.nilFunc, .nilFunc, .nilFunc, .nilFunc, .nilFunc, .nilFunc, .nilFunc, .nilFunc, .nilFunc, .nilFunc, .nilFunc, .nilFunc]) (.agg (#[.nilFunc, .nilFunc, .nilFunc, .nilFunc, .nilFunc, .nilFunc, .nilFunc, .nilFunc, .nilFunc, .nilFunc, .nilFunc, .nilFunc])) fun V4 ga ega h5 kV4 => ?_
  have n6 : g < ga := ega ▸ lt_of_block h2
  have n7 : w.heap.size ≤ ga := ega ▸ K3.size
  have h8 := kV4.bk h2
  have K9 := K3.nn kV4
  refine psk 139 ga (#[.nilFunc, .func (.func 115) #[] #[], .func (.func 116) #[] #[], .func (.func 117) #[] #[], .func (.func 118) #[] #[], .func (.func 119) #[] #[], .func (.func 120) #[] #[], .func (.func 121) #[] #[], .func (.func 122) #[] #[], .func (.func 123) #[] #[], .func (.func 124) #[] #[], .func (.func 125) #[] #[]]) h5 fun V10 h11 kV10 => ?_
  have h12 := kV10.bO h8
  have K13 := K9.nO kV10
  refine er_ [0, 1, 2, 3, 4, 5, 6, 7, 8] <| pkq (pT g 0) <| pkq (pT g 0) <| pkq (pT g 0) <| ppq (.int .i64 6) (ldc 3 g 0 (rc (h12) (hc))) <| ppq (pT ga 6) (exec_cast (v := pT ga (0 + 6 * 1)) (by simp) (exec_indexAt_arr 139 (.tmp 4) (.tmp 9) (by kernel_rfl) ga 0 (by kernel_rfl) .i64 6 (by kernel_rfl) _ _ 1 Tryz.underlying139 (by kernel_rfl) (by omega))) <| ppq (.func (.func 120) #[] #[]) (ldk 138 ga 6 h11) <| pkq (pT g 0) <| pkq (V.v) <| ps_P (qo34_2 3 8) 120 #[.pointer (some ⟨g, 0, none⟩), V.v] _ _ (run_callV (qo34_2 3 8) (.tmp 11) 120 #[] #[] #[.pointer (some ⟨g, 0, none⟩), V.v] (by kernel_rfl) (by kernel_rfl) (by kernel_rfl) (enters_of Tryz.func120 (by kernel_rfl) rfl)) (mattest_ok V hV g K E _ (Run.keepsN H K13)) (fun c w' h => ⟨rfl, .inr ⟨c, rfl, h⟩⟩) ?_
  rintro V14 hE
  refine ps_end <| sy_fall (.tuple #[]) rfl (by kernel_rfl) ?_
  exact .inl ⟨rfl, hE⟩
theorem mall_7 (V : Vis) (hV : V.Ok) (g : Nat) (K : World → Prop) (E : List PanicEntry → World → Prop) (cs : Array Value) (T : TypeId) (w : World) (hb : w.heap[g]? = some (.cells cs T (0, 0))) (hc : cs[0]? = some (.int .i64 7)) (H : Run V g [.n 1 0 63, .k 2, .n 84 0 31, .n 85 1 4294967296, .h 86, .a 118] K E w) :
    Calls Tryz.prog 71 #[.pointer (some ⟨g, 0, none⟩), V.v] w (PEnd K E) := by
  have K0 : Keeps Nob w w := Keeps.refl _ _
  refine sy_enter (qc34_2 1) ⟨#[pT g 0, V.v, ud, ud, ud, ud, ud, ud, ud, ud, ud, ud, ud, ud, ud], []⟩ Tryz.func71 (by kernel_rfl) (by kernel_rfl) <| qr_ [0, 1, 2] ?_
  refine pcq 94 #[] Tryz.func94 ((mkinds_ok _).mono ?_)
  rintro e V1 ⟨rfl, kV1⟩
  refine ⟨_, rfl, ?_⟩
  have h2 := kV1.bk hb
  have K3 := K0.nn kV1
  refine pal 139 (#[.nilFunc, .nilFunc, .nilFunc, .nilFunc, .nilFunc, .nilFunc, .nilFunc, .nilFunc, .nilFunc, .nilFunc, .nilFunc, .nilFunc]) (.agg (#[.nilFunc, .nilFunc, .nilFunc, .nilFunc, .nilFunc, .nilFunc, .nilFunc, .nilFunc, .nilFunc, .nilFunc, .nilFunc, .nilFunc])) fun V4 ga ega h5 kV4 => ?_
  have n6 : g < ga := ega ▸ lt_of_block h2
  have n7 : w.heap.size ≤ ga := ega ▸ K3.size
  have h8 := kV4.bk h2
  have K9 := K3.nn kV4
  refine psk 139 ga (#[.nilFunc, .func (.func 115) #[] #[], .func (.func 116) #[] #[], .func (.func 117) #[] #[], .func (.func 118) #[] #[], .func (.func 119) #[] #[], .func (.func 120) #[] #[], .func (.func 121) #[] #[], .func (.func 122) #[] #[], .func (.func 123) #[] #[], .func (.func 124) #[] #[], .func (.func 125) #[] #[]]) h5 fun V10 h11 kV10 => ?_
  have h12 := kV10.bO h8
  have K13 := K9.nO kV10
  refine er_ [0, 1, 2, 3, 4, 5, 6, 7, 8] <| pkq (pT g 0) <| pkq (pT g 0) <| pkq (pT g 0) <| ppq (.int .i64 7) (ldc 3 g 0 (rc (h12) (hc))) <| ppq (pT ga 7) (exec_cast (v := pT ga (0 + 7 * 1)) (by simp) (exec_indexAt_arr 139 (.tmp 4) (.tmp 9) (by kernel_rfl) ga 0 (by kernel_rfl) .i64 7 (by kernel_rfl) _ _ 1 Tryz.underlying139 (by kernel_rfl) (by omega))) <| ppq (.func (.func 121) #[] #[]) (ldk 138 ga 7 h11) <| pkq (pT g 0) <| pkq (V.v) <| ps_P (qo34_2 3 8) 121 #[.pointer (some ⟨g, 0, none⟩), V.v] _ _ (run_callV (qo34_2 3 8) (.tmp 11) 121 #[] #[] #[.pointer (some ⟨g, 0, none⟩), V.v] (by kernel_rfl) (by kernel_rfl) (by kernel_rfl) (enters_of Tryz.func121 (by kernel_rfl) rfl)) (mpropose_ok V hV g K E _ (Run.keepsN H K13)) (fun c w' h => ⟨rfl, .inr ⟨c, rfl, h⟩⟩) ?_
  rintro V14 hE
  refine ps_end <| sy_fall (.tuple #[]) rfl (by kernel_rfl) ?_
  exact .inl ⟨rfl, hE⟩
theorem mall_8 (V : Vis) (hV : V.Ok) (g : Nat) (K : World → Prop) (E : List PanicEntry → World → Prop) (cs : Array Value) (T : TypeId) (w : World) (hb : w.heap[g]? = some (.cells cs T (0, 0))) (hc : cs[0]? = some (.int .i64 8)) (H : Run V g [.n 1 0 63] (EvA V g K E) E w) :
    Calls Tryz.prog 71 #[.pointer (some ⟨g, 0, none⟩), V.v] w (PEnd K E) := by
  have K0 : Keeps Nob w w := Keeps.refl _ _
  refine sy_enter (qc34_2 1) ⟨#[pT g 0, V.v, ud, ud, ud, ud, ud, ud, ud, ud, ud, ud, ud, ud, ud], []⟩ Tryz.func71 (by kernel_rfl) (by kernel_rfl) <| qr_ [0, 1, 2] ?_
  refine pcq 94 #[] Tryz.func94 ((mkinds_ok _).mono ?_)
  rintro e V1 ⟨rfl, kV1⟩
  refine ⟨_, rfl, ?_⟩
  have h2 := kV1.bk hb
  have K3 := K0.nn kV1
  refine pal 139 (#[.nilFunc, .nilFunc, .nilFunc, .nilFunc, .nilFunc, .nilFunc, .nilFunc, .nilFunc, .nilFunc, .nilFunc, .nilFunc, .nilFunc]) (.agg (#[.nilFunc, .nilFunc, .nilFunc, .nilFunc, .nilFunc, .nilFunc, .nilFunc, .nilFunc, .nilFunc, .nilFunc, .nilFunc, .nilFunc])) fun V4 ga ega h5 kV4 => ?_
  have n6 : g < ga := ega ▸ lt_of_block h2
  have n7 : w.heap.size ≤ ga := ega ▸ K3.size
  have h8 := kV4.bk h2
  have K9 := K3.nn kV4
  refine psk 139 ga (#[.nilFunc, .func (.func 115) #[] #[], .func (.func 116) #[] #[], .func (.func 117) #[] #[], .func (.func 118) #[] #[], .func (.func 119) #[] #[], .func (.func 120) #[] #[], .func (.func 121) #[] #[], .func (.func 122) #[] #[], .func (.func 123) #[] #[], .func (.func 124) #[] #[], .func (.func 125) #[] #[]]) h5 fun V10 h11 kV10 => ?_
  have h12 := kV10.bO h8
  have K13 := K9.nO kV10
  refine er_ [0, 1, 2, 3, 4, 5, 6, 7, 8] <| pkq (pT g 0) <| pkq (pT g 0) <| pkq (pT g 0) <| ppq (.int .i64 8) (ldc 3 g 0 (rc (h12) (hc))) <| ppq (pT ga 8) (exec_cast (v := pT ga (0 + 8 * 1)) (by simp) (exec_indexAt_arr 139 (.tmp 4) (.tmp 9) (by kernel_rfl) ga 0 (by kernel_rfl) .i64 8 (by kernel_rfl) _ _ 1 Tryz.underlying139 (by kernel_rfl) (by omega))) <| ppq (.func (.func 122) #[] #[]) (ldk 138 ga 8 h11) <| pkq (pT g 0) <| pkq (V.v) <| ps_P (qo34_2 3 8) 122 #[.pointer (some ⟨g, 0, none⟩), V.v] _ _ (run_callV (qo34_2 3 8) (.tmp 11) 122 #[] #[] #[.pointer (some ⟨g, 0, none⟩), V.v] (by kernel_rfl) (by kernel_rfl) (by kernel_rfl) (enters_of Tryz.func122 (by kernel_rfl) rfl)) (mevidence_ok V hV g K E _ (Run.keepsN H K13)) (fun c w' h => ⟨rfl, .inr ⟨c, rfl, h⟩⟩) ?_
  rintro V14 hE
  refine ps_end <| sy_fall (.tuple #[]) rfl (by kernel_rfl) ?_
  exact .inl ⟨rfl, hE⟩
theorem mall_9 (V : Vis) (hV : V.Ok) (g : Nat) (K : World → Prop) (E : List PanicEntry → World → Prop) (cs : Array Value) (T : TypeId) (w : World) (hb : w.heap[g]? = some (.cells cs T (0, 0))) (hc : cs[0]? = some (.int .i64 9)) (H : Run V g [.n 1 0 63, .n 2 0 31] K E w) :
    Calls Tryz.prog 71 #[.pointer (some ⟨g, 0, none⟩), V.v] w (PEnd K E) := by
  have K0 : Keeps Nob w w := Keeps.refl _ _
  refine sy_enter (qc34_2 1) ⟨#[pT g 0, V.v, ud, ud, ud, ud, ud, ud, ud, ud, ud, ud, ud, ud, ud], []⟩ Tryz.func71 (by kernel_rfl) (by kernel_rfl) <| qr_ [0, 1, 2] ?_
  refine pcq 94 #[] Tryz.func94 ((mkinds_ok _).mono ?_)
  rintro e V1 ⟨rfl, kV1⟩
  refine ⟨_, rfl, ?_⟩
  have h2 := kV1.bk hb
  have K3 := K0.nn kV1
  refine pal 139 (#[.nilFunc, .nilFunc, .nilFunc, .nilFunc, .nilFunc, .nilFunc, .nilFunc, .nilFunc, .nilFunc, .nilFunc, .nilFunc, .nilFunc]) (.agg (#[.nilFunc, .nilFunc, .nilFunc, .nilFunc, .nilFunc, .nilFunc, .nilFunc, .nilFunc, .nilFunc, .nilFunc, .nilFunc, .nilFunc])) fun V4 ga ega h5 kV4 => ?_
  have n6 : g < ga := ega ▸ lt_of_block h2
  have n7 : w.heap.size ≤ ga := ega ▸ K3.size
  have h8 := kV4.bk h2
  have K9 := K3.nn kV4
  refine psk 139 ga (#[.nilFunc, .func (.func 115) #[] #[], .func (.func 116) #[] #[], .func (.func 117) #[] #[], .func (.func 118) #[] #[], .func (.func 119) #[] #[], .func (.func 120) #[] #[], .func (.func 121) #[] #[], .func (.func 122) #[] #[], .func (.func 123) #[] #[], .func (.func 124) #[] #[], .func (.func 125) #[] #[]]) h5 fun V10 h11 kV10 => ?_
  have h12 := kV10.bO h8
  have K13 := K9.nO kV10
  refine er_ [0, 1, 2, 3, 4, 5, 6, 7, 8] <| pkq (pT g 0) <| pkq (pT g 0) <| pkq (pT g 0) <| ppq (.int .i64 9) (ldc 3 g 0 (rc (h12) (hc))) <| ppq (pT ga 9) (exec_cast (v := pT ga (0 + 9 * 1)) (by simp) (exec_indexAt_arr 139 (.tmp 4) (.tmp 9) (by kernel_rfl) ga 0 (by kernel_rfl) .i64 9 (by kernel_rfl) _ _ 1 Tryz.underlying139 (by kernel_rfl) (by omega))) <| ppq (.func (.func 123) #[] #[]) (ldk 138 ga 9 h11) <| pkq (pT g 0) <| pkq (V.v) <| ps_P (qo34_2 3 8) 123 #[.pointer (some ⟨g, 0, none⟩), V.v] _ _ (run_callV (qo34_2 3 8) (.tmp 11) 123 #[] #[] #[.pointer (some ⟨g, 0, none⟩), V.v] (by kernel_rfl) (by kernel_rfl) (by kernel_rfl) (enters_of Tryz.func123 (by kernel_rfl) rfl)) (munjail_ok V hV g K E _ (Run.keepsN H K13)) (fun c w' h => ⟨rfl, .inr ⟨c, rfl, h⟩⟩) ?_
  rintro V14 hE
  refine ps_end <| sy_fall (.tuple #[]) rfl (by kernel_rfl) ?_
  exact .inl ⟨rfl, hE⟩
theorem mall_10 (V : Vis) (hV : V.Ok) (g : Nat) (K : World → Prop) (E : List PanicEntry → World → Prop) (cs : Array Value) (T : TypeId) (w : World) (hb : w.heap[g]? = some (.cells cs T (0, 0))) (hc : cs[0]? = some (.int .i64 10)) (H : Run V g [.n 1 0 63] K E w) :
    Calls Tryz.prog 71 #[.pointer (some ⟨g, 0, none⟩), V.v] w (PEnd K E) := by
  have K0 : Keeps Nob w w := Keeps.refl _ _
  refine sy_enter (qc34_2 1) ⟨#[pT g 0, V.v, ud, ud, ud, ud, ud, ud, ud, ud, ud, ud, ud, ud, ud], []⟩ Tryz.func71 (by kernel_rfl) (by kernel_rfl) <| qr_ [0, 1, 2] ?_
  refine pcq 94 #[] Tryz.func94 ((mkinds_ok _).mono ?_)
  rintro e V1 ⟨rfl, kV1⟩
  refine ⟨_, rfl, ?_⟩
  have h2 := kV1.bk hb
  have K3 := K0.nn kV1
  refine pal 139 (#[.nilFunc, .nilFunc, .nilFunc, .nilFunc, .nilFunc, .nilFunc, .nilFunc, .nilFunc, .nilFunc, .nilFunc, .nilFunc, .nilFunc]) (.agg (#[.nilFunc, .nilFunc, .nilFunc, .nilFunc, .nilFunc, .nilFunc, .nilFunc, .nilFunc, .nilFunc, .nilFunc, .nilFunc, .nilFunc])) fun V4 ga ega h5 kV4 => ?_
  have n6 : g < ga := ega ▸ lt_of_block h2
  have n7 : w.heap.size ≤ ga := ega ▸ K3.size
  have h8 := kV4.bk h2
  have K9 := K3.nn kV4
  refine psk 139 ga (#[.nilFunc, .func (.func 115) #[] #[], .func (.func 116) #[] #[], .func (.func 117) #[] #[], .func (.func 118) #[] #[], .func (.func 119) #[] #[], .func (.func 120) #[] #[], .func (.func 121) #[] #[], .func (.func 122) #[] #[], .func (.func 123) #[] #[], .func (.func 124) #[] #[], .func (.func 125) #[] #[]]) h5 fun V10 h11 kV10 => ?_
  have h12 := kV10.bO h8
  have K13 := K9.nO kV10
  refine er_ [0, 1, 2, 3, 4, 5, 6, 7, 8] <| pkq (pT g 0) <| pkq (pT g 0) <| pkq (pT g 0) <| ppq (.int .i64 10) (ldc 3 g 0 (rc (h12) (hc))) <| ppq (pT ga 10) (exec_cast (v := pT ga (0 + 10 * 1)) (by simp) (exec_indexAt_arr 139 (.tmp 4) (.tmp 9) (by kernel_rfl) ga 0 (by kernel_rfl) .i64 10 (by kernel_rfl) _ _ 1 Tryz.underlying139 (by kernel_rfl) (by omega))) <| ppq (.func (.func 124) #[] #[]) (ldk 138 ga 10 h11) <| pkq (pT g 0) <| pkq (V.v) <| ps_P (qo34_2 3 8) 124 #[.pointer (some ⟨g, 0, none⟩), V.v] _ _ (run_callV (qo34_2 3 8) (.tmp 11) 124 #[] #[] #[.pointer (some ⟨g, 0, none⟩), V.v] (by kernel_rfl) (by kernel_rfl) (by kernel_rfl) (enters_of Tryz.func124 (by kernel_rfl) rfl)) (mclaim_ok V hV g K E _ (Run.keepsN H K13)) (fun c w' h => ⟨rfl, .inr ⟨c, rfl, h⟩⟩) ?_
  rintro V14 hE
  refine ps_end <| sy_fall (.tuple #[]) rfl (by kernel_rfl) ?_
  exact .inl ⟨rfl, hE⟩
theorem mall_11 (V : Vis) (hV : V.Ok) (g : Nat) (K : World → Prop) (E : List PanicEntry → World → Prop) (cs : Array Value) (T : TypeId) (w : World) (hb : w.heap[g]? = some (.cells cs T (0, 0))) (hc : cs[0]? = some (.int .i64 11)) (H : Run V g [.n 10 1 1000] K E w) :
    Calls Tryz.prog 71 #[.pointer (some ⟨g, 0, none⟩), V.v] w (PEnd K E) := by
  have K0 : Keeps Nob w w := Keeps.refl _ _
  refine sy_enter (qc34_2 1) ⟨#[pT g 0, V.v, ud, ud, ud, ud, ud, ud, ud, ud, ud, ud, ud, ud, ud], []⟩ Tryz.func71 (by kernel_rfl) (by kernel_rfl) <| qr_ [0, 1, 2] ?_
  refine pcq 94 #[] Tryz.func94 ((mkinds_ok _).mono ?_)
  rintro e V1 ⟨rfl, kV1⟩
  refine ⟨_, rfl, ?_⟩
  have h2 := kV1.bk hb
  have K3 := K0.nn kV1
  refine pal 139 (#[.nilFunc, .nilFunc, .nilFunc, .nilFunc, .nilFunc, .nilFunc, .nilFunc, .nilFunc, .nilFunc, .nilFunc, .nilFunc, .nilFunc]) (.agg (#[.nilFunc, .nilFunc, .nilFunc, .nilFunc, .nilFunc, .nilFunc, .nilFunc, .nilFunc, .nilFunc, .nilFunc, .nilFunc, .nilFunc])) fun V4 ga ega h5 kV4 => ?_
  have n6 : g < ga := ega ▸ lt_of_block h2
  have n7 : w.heap.size ≤ ga := ega ▸ K3.size
  have h8 := kV4.bk h2
  have K9 := K3.nn kV4
  refine psk 139 ga (#[.nilFunc, .func (.func 115) #[] #[], .func (.func 116) #[] #[], .func (.func 117) #[] #[], .func (.func 118) #[] #[], .func (.func 119) #[] #[], .func (.func 120) #[] #[], .func (.func 121) #[] #[], .func (.func 122) #[] #[], .func (.func 123) #[] #[], .func (.func 124) #[] #[], .func (.func 125) #[] #[]]) h5 fun V10 h11 kV10 => ?_
  have h12 := kV10.bO h8
  have K13 := K9.nO kV10
  refine er_ [0, 1, 2, 3, 4, 5, 6, 7, 8] <| pkq (pT g 0) <| pkq (pT g 0) <| pkq (pT g 0) <| ppq (.int .i64 11) (ldc 3 g 0 (rc (h12) (hc))) <| ppq (pT ga 11) (exec_cast (v := pT ga (0 + 11 * 1)) (by simp) (exec_indexAt_arr 139 (.tmp 4) (.tmp 9) (by kernel_rfl) ga 0 (by kernel_rfl) .i64 11 (by kernel_rfl) _ _ 1 Tryz.underlying139 (by kernel_rfl) (by omega))) <| ppq (.func (.func 125) #[] #[]) (ldk 138 ga 11 h11) <| pkq (pT g 0) <| pkq (V.v) <| ps_P (qo34_2 3 8) 125 #[.pointer (some ⟨g, 0, none⟩), V.v] _ _ (run_callV (qo34_2 3 8) (.tmp 11) 125 #[] #[] #[.pointer (some ⟨g, 0, none⟩), V.v] (by kernel_rfl) (by kernel_rfl) (by kernel_rfl) (enters_of Tryz.func125 (by kernel_rfl) rfl)) (mtick_ok V hV g K E _ (Run.keepsN H K13)) (fun c w' h => ⟨rfl, .inr ⟨c, rfl, h⟩⟩) ?_
  rintro V14 hE
  refine ps_end <| sy_fall (.tuple #[]) rfl (by kernel_rfl) ?_
  exact .inl ⟨rfl, hE⟩
theorem mall_ok (V : Vis) (hV : V.Ok) (g k : Nat) (K : World → Prop) (E : List PanicEntry → World → Prop) (cs : Array Value) (T : TypeId) (w : World) (h1 : 1 ≤ k) (h2 : k ≤ 11) (hb : w.heap[g]? = some (.cells cs T (0, 0))) (hc : cs[0]? = some (.int .i64 ((k : Nat) : Int))) (H : RunAll V g k K E w) :
    Calls Tryz.prog 71 #[.pointer (some ⟨g, 0, none⟩), V.v] w (PEnd K E) := by
  rcases (show k = 1 ∨ k = 2 ∨ k = 3 ∨ k = 4 ∨ k = 5 ∨ k = 6 ∨ k = 7 ∨ k = 8 ∨ k = 9 ∨ k = 10 ∨ k = 11 by omega) with rfl | rfl | rfl | rfl | rfl | rfl | rfl | rfl | rfl | rfl | rfl
  · exact mall_1 V hV g K E cs T w hb hc ((if_neg (by decide) : RunAll V g 1 K E w = _) ▸ H)
  · exact mall_2 V hV g K E cs T w hb hc ((if_neg (by decide) : RunAll V g 2 K E w = _) ▸ H)
  · exact mall_3 V hV g K E cs T w hb hc ((if_neg (by decide) : RunAll V g 3 K E w = _) ▸ H)
  · exact mall_4 V hV g K E cs T w hb hc ((if_neg (by decide) : RunAll V g 4 K E w = _) ▸ H)
  · exact mall_5 V hV g K E cs T w hb hc ((if_neg (by decide) : RunAll V g 5 K E w = _) ▸ H)
  · exact mall_6 V hV g K E cs T w hb hc ((if_neg (by decide) : RunAll V g 6 K E w = _) ▸ H)
  · exact mall_7 V hV g K E cs T w hb hc ((if_neg (by decide) : RunAll V g 7 K E w = _) ▸ H)
  · exact mall_8 V hV g K E cs T w hb hc ((if_pos rfl : RunAll V g 8 K E w = _) ▸ H)
  · exact mall_9 V hV g K E cs T w hb hc ((if_neg (by decide) : RunAll V g 9 K E w = _) ▸ H)
  · exact mall_10 V hV g K E cs T w hb hc ((if_neg (by decide) : RunAll V g 10 K E w = _) ▸ H)
  · exact mall_11 V hV g K E cs T w hb hc ((if_neg (by decide) : RunAll V g 11 K E w = _) ▸ H)
def voteM (v1 s1 t1 : NF) (r : HF) (g : AF) : List MIt := [.k 1, .n v1 0 31, .n s1 0 4294967296, .n t1 0 4294967296, .h r, .a g]
def blockM (v h : NF) (r : HF) (g : AF) : List MIt := [.k 2, .n v 0 31, .n h 1 4294967296, .h r, .a g]
def lotM : List MIt := [.n .sv 0 31, .n .ss 1 4294967296, .n .sp (-1) 31, .n .sf 0 4294967296]
def kM : Nat → List MIt
  | 1 => [.n .f 0 63, .n .t 0 63, .a .am]
  | 2 => [.n .f 0 63, .a .mn, .a .am]
  | 3 => [.n .f 0 63, .n .vl 0 31, .a .am]
  | 4 => [.n .f 0 63] ++ (lotM ++ [.a .am])
  | 5 => [.n .f 0 63] ++ (lotM ++ [.a .am, .n .t 0 31])
  | 6 => [.n .f 0 63] ++ voteM .av .as_ .at_ .ar .ag
  | 7 => [.n .f 0 63] ++ blockM .pv .ph .pr .pg
  | 9 => [.n .f 0 63, .n .vl 0 31]
  | 10 => [.n .f 0 63]
  | 11 => [.n .n 1 1000]
  | _ => []
def evM (p : Int) : List MIt := if p = 3 then blockM .pv .ph .pr .pg ++ blockM .qv .qh .qr .qg else voteM .av .as_ .at_ .ar .ag ++ voteM .bv .bs .bt .br .bg
theorem kM_low (k : Nat) : (kM k).map MIt.low = kItems k := by
  match k with
  | 0 => rfl
  | 1 => rfl
  | 2 => rfl
  | 3 => rfl
  | 4 => rfl
  | 5 => rfl
  | 6 => rfl
  | 7 => rfl
  | 8 => rfl
  | 9 => rfl
  | 10 => rfl
  | 11 => rfl
  | n + 12 => rfl
theorem evM_low (p : Int) : (evM p).map MIt.low = evI p := by unfold evM evI; split <;> rfl
/-- What of a message is gone through. -/
def Msg.items (m : Msg) : List MIt := if m.k = 8 then [.n .f 0 63] ++ ([.n .pf 1 3] ++ evM m.pf) else kM m.k.toNat
theorem Msg.items8 {m : Msg} (h : m.k = 8) : m.items = [.n .f 0 63] ++ ([.n .pf 1 3] ++ evM m.pf) := if_pos h
theorem Msg.itemsk {m : Msg} {k : Nat} (h : m.k = (k : Int)) (h8 : ¬ k = 8) : m.items = kM k := by unfold Msg.items; rw [if_neg (by omega), h]; rfl
def clrAll (m : Msg) : Msg := m.items.foldl clrIt m
theorem clrs_R (l : List MIt) : ∀ m : Msg, m.R → (l.foldl clrIt m).R := by
  induction l with
  | nil => intro m h; exact h
  | cons i r ih => intro m h; exact ih _ (clr_R i h)
theorem clrAll_R {m : Msg} (h : m.R) : (clrAll m).R := clrs_R _ m h
section
variable {g : Nat} {K : World → Prop} {E : List PanicEntry → World → Prop}
theorem all_chk (m : Msg) (hr : m.R) (k : Nat) (hk : m.k = (k : Int)) (w : World) (hb : w.heap[g]? = some (.cells m.c 104 (0, 0))) (hK : m.items.all (chkIt m) = true → ∀ w', Keeps Nob w w' → K w') (hE : m.items.all (chkIt m) = false → ∀ w', Keeps Nob w w' → E [outP] w') : RunAll chkV g k K E w := by
  unfold RunAll
  by_cases h8 : k = 8
  · rw [if_pos h8]
    rw [Msg.items8 (by omega), List.all_append, List.all_append] at hK hE
    refine run_chk m hr [.n .f 0 63] w hb (fun h1 w1 k1 => ?_) (fun h1 w1 k1 => hE (by rw [h1]; rfl) w1 k1)
    refine ⟨m.c, m.pf, k1.bk hb, Msg.get_n hr .pf, ?_⟩
    refine run_chk m hr [.n .pf 1 3] w1 (k1.bk hb) (fun h2 w2 k2 => ?_) (fun h2 w2 k2 => hE (by rw [h1, h2]; rfl) w2 (k1.nn k2))
    refine ⟨m.c, m.pf, (k1.nn k2).bk hb, Msg.get_n hr .pf, ?_⟩
    rw [ite_self, ← evM_low]
    exact run_chk m hr (evM m.pf) w2 ((k1.nn k2).bk hb) (fun h3 w3 k3 => hK (by rw [h1, h2, h3]; rfl) w3 ((k1.nn k2).nn k3)) (fun h3 w3 k3 => hE (by rw [h1, h2, h3]; rfl) w3 ((k1.nn k2).nn k3))
  · rw [if_neg h8, ← kM_low]
    rw [Msg.itemsk hk h8] at hK hE
    exact run_chk m hr (kM k) w hb hK hE
theorem all_clr (m : Msg) (hr : m.R) (k : Nat) (hk : m.k = (k : Int)) (w : World) (hb : w.heap[g]? = some (.cells m.c 104 (0, 0))) (hK : ∀ w', w'.heap[g]? = some (.cells (clrAll m).c 104 (0, 0)) → Keeps (One g) w w' → K w') : RunAll clrV g k K E w := by
  unfold RunAll
  unfold clrAll at hK
  have tr : ∀ {a b c : World}, Keeps (One g) a b → Keeps (One g) b c → Keeps (One g) a c := fun h1 h2 => h1.then h2 (fun _ _ x => x)
  by_cases h8 : k = 8
  · rw [if_pos h8]
    rw [Msg.items8 (by omega), List.foldl_append, List.foldl_append] at hK
    refine run_clr [.n .f 0 63] m w hr hb (fun w1 b1 k1 => ?_)
    refine ⟨_, m.pf, b1, Msg.get_n (clrs_R [.n .f 0 63] m hr) .pf, ?_⟩
    refine run_clr [.n .pf 1 3] _ w1 (clrs_R [.n .f 0 63] m hr) b1 (fun w2 b2 k2 => ?_)
    refine ⟨_, 0, b2, Msg.get_n (clrs_R [.n .pf 1 3] _ (clrs_R [.n .f 0 63] m hr)) .pf, ?_⟩
    rw [if_neg (by decide), ← evM_low]
    exact run_clr (evM m.pf) _ w2 (clrs_R [.n .pf 1 3] _ (clrs_R [.n .f 0 63] m hr)) b2 (fun w3 b3 k3 => hK w3 b3 (tr (tr k1 k2) k3))
  · rw [if_neg h8, ← kM_low]
    rw [Msg.itemsk hk h8] at hK
    exact run_clr (kM k) m w hr hb hK
end
end Go.Proofs.YtcbfnflnokoacaaGreat
namespace Go.Own
set_option maxRecDepth 100000
set_option maxHeartbeats 4000000
open Go Go.RowKit
variable {P : Program}
theorem run_eqItems_bytes {e : TypeId} (he : P.plainKey e = true) (hu : P.underlying e = some (.int .u8)) (d : Nat) (l m : List UInt8) (w : World) :
    ∀ (n k : Nat), k + n = l.length → k + n = m.length → (Op.eqItems (d + 1) e 1 (B l).toArray (B m).toArray (List.range' k n)).run P w = .ok (l.drop k == m.drop k) w := by
  intro n
  induction n with
  | zero =>
    intro k h1 h2
    rw [List.drop_of_length_le (by omega), List.drop_of_length_le (by omega)]
    rfl
  | succ n ih =>
    intro k h1 h2
    obtain ⟨x, hx⟩ : ∃ x, l[k]? = some x := ⟨_, List.getElem?_eq_getElem (by omega)⟩
    obtain ⟨y, hy⟩ : ∃ y, m[k]? = some y := ⟨_, List.getElem?_eq_getElem (by omega)⟩
    have e1 := run_part_plain (P := P) w he (xs := (B l).toArray) (off := k) (by simpa using B_get l k x hx)
    have e2 := run_part_plain (P := P) w he (xs := (B m).toArray) (off := k) (by simpa using B_get m k y hy)
    have e3 := run_equalIn_int (P := P) w d e .u8 .u8 (x.toNat : Int) (y.toNat : Int) hu
    rw [List.range'_succ]
    unfold Op.eqItems
    simp only [Nat.mul_one, Sem.run_bind, e1, e2, e3, Result.andThen_ok]
    obtain ⟨hk1, hx'⟩ := List.getElem?_eq_some_iff.1 hx
    obtain ⟨hk2, hy'⟩ := List.getElem?_eq_some_iff.1 hy
    rw [List.drop_eq_getElem_cons hk1, List.drop_eq_getElem_cons hk2, hx', hy']
    by_cases hxy : x = y
    · subst hxy
      simp only [beq_self_eq_true, Bool.not_true, Bool.false_eq_true, if_false]
      rw [ih (k + 1) (by omega) (by omega)]
      simp
    · have hne : ((x.toNat : Int) == (y.toNat : Int)) = false := by
        simp only [beq_eq_false_iff_ne, ne_eq]
        intro h; exact hxy (UInt8.toNat_inj.1 (by omega))
      simp only [hne, Bool.not_false, if_true]
      have h0 : ((x :: l.drop (k + 1)) == (y :: m.drop (k + 1))) = false := by
        simp only [beq_eq_false_iff_ne, ne_eq, List.cons.injEq, not_and]
        intro h; exact absurd h hxy
      rw [h0]
      rfl
theorem run_equalIn_bytes {t e : TypeId} {n : Nat} {i : TypeInfo} (hu : P.underlying t = some (.array n e)) (hi : P.info? e = some i) (he : P.plainKey e = true) (hue : P.underlying e = some (.int .u8)) (hC : P.cellsOf e = 1) (d : Nat) (l m : List UInt8) (w : World)
    (h1 : l.length = n) (h2 : m.length = n) : (Op.equalIn (d + 2) t (.agg (B l).toArray) (.agg (B m).toArray)).run P w = .ok (l == m) w := by
  rw [run_equalIn_array w (d + 1) _ _ hu hi, hC, List.range_eq_range', run_eqItems_bytes he hue d l m w n 0 (by omega) (by omega)]
  rfl
end Go.Own
namespace Go.Proofs.YtcbfnflnokoacaaGreat
set_option maxRecDepth 100000
set_option maxHeartbeats 4000000
open Go Go.RowKit Go.Own Go.Shelf
theorem eqF_int {d : Nat} {f : Field} {fs : List Field} {xs ys : Array Value} {k : IntKind} {a b : Int} (w : World) (hf : f.name ≠ "_") (ht : Tryz.prog.underlying f.type = some (.int k)) (hp : Tryz.prog.plainKey f.type = true) (hx : xs[f.offset]? = some (.int k a)) (hy : ys[f.offset]? = some (.int k b)) :
    (Op.eqFields (d + 1) xs ys (f :: fs)).run Tryz.prog w = if a = b then (Op.eqFields (d + 1) xs ys fs).run Tryz.prog w else .ok false w := by
  conv => lhs; unfold Op.eqFields
  rw [if_pos hf]
  simp only [Sem.run_bind, run_part_plain w hp hx, run_part_plain w hp hy, Result.andThen_ok, run_equalIn_int w d f.type k k a b ht]
  by_cases h : a = b
  · simp [h]
  · simp [h]
theorem part_hash (xs : Array Value) (off : Nat) (w : World) : (part 23 xs off).run Tryz.prog w = .ok (.agg (xs.extract off (off + 32))) w := by
  have h : (sizeOf 23).run Tryz.prog w = .ok 32 w := by kernel_rfl
  simp [part, isAgg, run_underlying Tryz.underlying23, h]
theorem eqF_hash {d : Nat} {f : Field} {fs : List Field} {xs ys : Array Value} {l m : List UInt8} (w : World) (hf : f.name ≠ "_") (ht : f.type = 23) (hx : xs.extract f.offset (f.offset + 32) = (B l).toArray) (hy : ys.extract f.offset (f.offset + 32) = (B m).toArray) (hl : l.length = 32) (hm : m.length = 32) :
    (Op.eqFields (d + 2) xs ys (f :: fs)).run Tryz.prog w = if l = m then (Op.eqFields (d + 2) xs ys fs).run Tryz.prog w else .ok false w := by
  obtain ⟨i0, hi, _, _, _⟩ := info_parts u8_info0
  have h := run_equalIn_bytes (P := Tryz.prog) (t := 23) (e := 5) (n := 32) Tryz.underlying23 hi (by kernel_rfl) Tryz.underlying5 (by kernel_rfl) d l m w hl hm
  conv => lhs; unfold Op.eqFields
  rw [if_pos hf]
  simp only [ht, Sem.run_bind, part_hash, Result.andThen_ok, hx, hy, h]
  by_cases h : l = m
  · simp [h]
  · simp [h]
theorem Att.c_ext (a : Att) (h : a.r.length = 32) : a.c.extract 3 35 = (B a.r).toArray := by
  apply Array.toList_inj.1
  rw [Array.toList_extract]
  simp only [Att.c, List.extract_eq_take_drop, List.drop_succ_cons, List.drop_zero, Nat.reduceSub]
  rw [List.take_append_of_le_length (by rw [B_length]; omega), List.take_of_length_le (by rw [B_length]; omega)]
theorem Pro.c_ext (a : Pro) (h : a.r.length = 32) : a.c.extract 2 34 = (B a.r).toArray := by
  apply Array.toList_inj.1
  rw [Array.toList_extract]
  simp only [Pro.c, List.extract_eq_take_drop, List.drop_succ_cons, List.drop_zero, Nat.reduceSub]
  rw [List.take_append_of_le_length (by rw [B_length]; omega), List.take_of_length_le (by rw [B_length]; omega)]
theorem att_guard : Tryz.prog.eqGuardType Tryz.prog.depth 26 = false := by kernel_rfl
theorem att_equal (a b : Att) (ha : a.r.length = 32) (hb : b.r.length = 32) (w : World) : (Op.equalIn 10000 26 (.agg a.c) (.agg b.c)).run Tryz.prog w = .ok (decide (a = b)) w := by
  rw [run_equalIn_struct w 9999 26 _ _ (by kernel_rfl) (by kernel_rfl)]
  simp only [Program.fieldsOf, Tryz.underlying26]
  rw [eqF_int (d := 9998) (k := .i64) (a := a.v) (b := b.v) w (by decide) Tryz.underlying3 (by kernel_rfl) (Att.c_0 a) (Att.c_0 b), eqF_int (d := 9998) (k := .i64) (a := a.s) (b := b.s) w (by decide) Tryz.underlying3 (by kernel_rfl) (Att.c_1 a) (Att.c_1 b),
    eqF_int (d := 9998) (k := .i64) (a := a.t) (b := b.t) w (by decide) Tryz.underlying3 (by kernel_rfl) (Att.c_2 a) (Att.c_2 b), eqF_hash (d := 9997) (l := a.r) (m := b.r) w (by decide) rfl (Att.c_ext a ha) (Att.c_ext b hb) ha hb,
    eqF_int (d := 9998) (k := .u64) (a := ((a.g : Nat) : Int)) (b := ((b.g : Nat) : Int)) w (by decide) Tryz.underlying24 (by kernel_rfl) (Att.c_tag a ha) (Att.c_tag b hb)]
  simp only [Op.eqFields, Sem.run_pure]
  obtain ⟨v, s, t, r, g⟩ := a
  obtain ⟨v', s', t', r', g'⟩ := b
  simp only [Att.mk.injEq]
  by_cases h1 : v = v' <;> by_cases h2 : s = s' <;> by_cases h3 : t = t' <;> by_cases h4 : r = r' <;> by_cases h5 : g = g' <;> simp [h1, h2, h3, h4, h5] <;> omega
theorem att_eq (a b : Att) (ha : a.r.length = 32) (hb : b.r.length = 32) (w : World) : (binOp .eql 26 (.agg a.c) (.agg b.c)).run Tryz.prog w = .ok (.bool (decide (a = b))) w := by rw [run_eql_struct, att_equal a b ha hb]; rfl
end Go.Proofs.YtcbfnflnokoacaaGreat
namespace Go.Proofs.YtcbfnflnokoacaaGreat
set_option maxRecDepth 100000
set_option maxHeartbeats 4000000
open Go Go.RowKit Go.Own Go.Shelf
theorem eqF_sub {d : Nat} {f : Field} {fs : List Field} {xs ys a b : Array Value} {p : Bool} (w : World) (t : TypeId) (off : Nat) (hx : (part t xs off).run Tryz.prog w = .ok (.agg a) w) (hy : (part t ys off).run Tryz.prog w = .ok (.agg b) w)
    (he : (Op.equalIn (d + 1) t (.agg a) (.agg b)).run Tryz.prog w = .ok p w) (hf : f.name ≠ "_") (ht : f.type = t) (ho : f.offset = off) : (Op.eqFields (d + 1) xs ys (f :: fs)).run Tryz.prog w = if p = true then (Op.eqFields (d + 1) xs ys fs).run Tryz.prog w else .ok false w := by
  subst ht; subst ho
  conv => lhs; unfold Op.eqFields
  rw [if_pos hf]
  simp only [Sem.run_bind, Result.andThen_ok, hx, hy, he]
  cases p <;> simp
theorem ifok {p : Prop} [Decidable p] {q : Bool} {w : World} : (if p then (.ok q w : Result Bool) else .ok false w) = .ok (decide p && q) w := by by_cases h : p <;> simp [h]
theorem part_att (xs : Array Value) (off : Nat) (w : World) : (part 26 xs off).run Tryz.prog w = .ok (.agg (xs.extract off (off + 36))) w := by
  have h : (sizeOf 26).run Tryz.prog w = .ok 36 w := by kernel_rfl
  simp [part, isAgg, run_underlying Tryz.underlying26, h]
theorem part_pro (xs : Array Value) (off : Nat) (w : World) : (part 28 xs off).run Tryz.prog w = .ok (.agg (xs.extract off (off + 35))) w := by
  have h : (sizeOf 28).run Tryz.prog w = .ok 35 w := by kernel_rfl
  simp [part, isAgg, run_underlying Tryz.underlying28, h]
theorem part_stamp (xs : Array Value) (off : Nat) (w : World) : (part 36 xs off).run Tryz.prog w = .ok (.agg (xs.extract off (off + 4))) w := by
  have h : (sizeOf 36).run Tryz.prog w = .ok 4 w := by kernel_rfl
  simp [part, isAgg, run_underlying Tryz.underlying36, h]
theorem ext_mid {x y z : List Value} {n k : Nat} {c : Array Value} (hn : x.length = n) (hk : c.toList.length = k) (hy : y = c.toList) : (x ++ (y ++ z)).toArray.extract n (n + k) = c := by
  subst hy
  apply Array.toList_inj.1
  rw [Array.toList_extract]
  simp only [List.extract_eq_take_drop]
  rw [List.drop_left' hn, show n + k - n = k by omega, List.take_left' hk]
def Msg.st (m : Msg) : Array Value := #[.int .i64 m.sv, .int .i64 m.ss, .int .i64 m.sp, .int .i64 m.sf]
section
variable {m : Msg} (h : m.R)
theorem Msg.ext_st (m : Msg) : m.c.extract 6 (6 + 4) = m.st := by
  have e : m.c = (([.int .i64 m.k, .int .i64 m.f, .int .i64 m.vl, .int .i64 m.t, .int .u64 ((m.am : Nat) : Int), .int .u64 ((m.mn : Nat) : Int)] : List Value) ++ (([.int .i64 m.sv, .int .i64 m.ss, .int .i64 m.sp, .int .i64 m.sf] : List Value) ++ (([.int .i64 m.n, .int .i64 m.pf] : List Value) ++ (m.a.c.toList ++ (m.b.c.toList ++ (m.p.c.toList ++ m.q.c.toList)))))).toArray := rfl
  rw [e]
  exact ext_mid rfl rfl rfl
include h
theorem Msg.ext_a : m.c.extract 12 (12 + 36) = m.a.c := by rw [Msg.c, Msg.cl_a]; exact ext_mid Msg.hd_len (Att.tl h.a) rfl
theorem Msg.ext_b : m.c.extract 48 (48 + 36) = m.b.c := by rw [Msg.c, Msg.cl_b]; exact ext_mid (len_b h) (Att.tl h.b) rfl
theorem Msg.ext_p : m.c.extract 84 (84 + 35) = m.p.c := by rw [Msg.c, Msg.cl_p]; exact ext_mid (len_p h) (Pro.tl h.p) rfl
theorem Msg.ext_q : m.c.extract 119 (119 + 35) = m.q.c := by rw [Msg.c, Msg.cl_q]; exact ext_mid (len_q h) (Pro.tl h.q) rfl
end
theorem att_equalD (d : Nat) (a b : Att) (ha : a.r.length = 32) (hb : b.r.length = 32) (w : World) : (Op.equalIn (d + 3) 26 (.agg a.c) (.agg b.c)).run Tryz.prog w = .ok (decide (a = b)) w := by
  rw [run_equalIn_struct w (d + 2) 26 _ _ (by kernel_rfl) (by kernel_rfl)]
  simp only [Program.fieldsOf, Tryz.underlying26]
  rw [eqF_int (d := d + 1) (k := .i64) (a := a.v) (b := b.v) w (by decide) Tryz.underlying3 (by kernel_rfl) (Att.c_0 a) (Att.c_0 b), eqF_int (d := d + 1) (k := .i64) (a := a.s) (b := b.s) w (by decide) Tryz.underlying3 (by kernel_rfl) (Att.c_1 a) (Att.c_1 b),
    eqF_int (d := d + 1) (k := .i64) (a := a.t) (b := b.t) w (by decide) Tryz.underlying3 (by kernel_rfl) (Att.c_2 a) (Att.c_2 b), eqF_hash (d := d) (l := a.r) (m := b.r) w (by decide) rfl (Att.c_ext a ha) (Att.c_ext b hb) ha hb,
    eqF_int (d := d + 1) (k := .u64) (a := ((a.g : Nat) : Int)) (b := ((b.g : Nat) : Int)) w (by decide) Tryz.underlying24 (by kernel_rfl) (Att.c_tag a ha) (Att.c_tag b hb)]
  simp only [Op.eqFields, Sem.run_pure, ifok]
  obtain ⟨v, s, t, r, g⟩ := a
  obtain ⟨v', s', t', r', g'⟩ := b
  congr 1
  rw [Bool.eq_iff_iff]
  simp only [Bool.and_eq_true, decide_eq_true_eq, Att.mk.injEq, Int.natCast_inj, and_true]
theorem pro_equalD (d : Nat) (a b : Pro) (ha : a.r.length = 32) (hb : b.r.length = 32) (w : World) : (Op.equalIn (d + 3) 28 (.agg a.c) (.agg b.c)).run Tryz.prog w = .ok (decide (a = b)) w := by
  rw [run_equalIn_struct w (d + 2) 28 _ _ (by kernel_rfl) (by kernel_rfl)]
  simp only [Program.fieldsOf, Tryz.underlying28]
  rw [eqF_int (d := d + 1) (k := .i64) (a := a.v) (b := b.v) w (by decide) Tryz.underlying3 (by kernel_rfl) (Pro.c_0 a) (Pro.c_0 b), eqF_int (d := d + 1) (k := .i64) (a := a.h) (b := b.h) w (by decide) Tryz.underlying3 (by kernel_rfl) (Pro.c_1 a) (Pro.c_1 b),
    eqF_hash (d := d) (l := a.r) (m := b.r) w (by decide) rfl (Pro.c_ext a ha) (Pro.c_ext b hb) ha hb,
    eqF_int (d := d + 1) (k := .u64) (a := ((a.g : Nat) : Int)) (b := ((b.g : Nat) : Int)) w (by decide) Tryz.underlying24 (by kernel_rfl) (Pro.c_tag a ha) (Pro.c_tag b hb)]
  simp only [Op.eqFields, Sem.run_pure, ifok]
  obtain ⟨v, s, r, g⟩ := a
  obtain ⟨v', s', r', g'⟩ := b
  congr 1
  rw [Bool.eq_iff_iff]
  simp only [Bool.and_eq_true, decide_eq_true_eq, Pro.mk.injEq, Int.natCast_inj, and_true]
theorem stamp_equalD (d : Nat) (m m' : Msg) (w : World) : (Op.equalIn (d + 2) 36 (.agg m.st) (.agg m'.st)).run Tryz.prog w = .ok (decide (m.sv = m'.sv ∧ m.ss = m'.ss ∧ m.sp = m'.sp ∧ m.sf = m'.sf)) w := by
  rw [run_equalIn_struct w (d + 1) 36 _ _ (by kernel_rfl) (by kernel_rfl)]
  simp only [Program.fieldsOf, Tryz.underlying36]
  rw [eqF_int (d := d) (k := .i64) (a := m.sv) (b := m'.sv) w (by decide) Tryz.underlying3 (by kernel_rfl) rfl rfl, eqF_int (d := d) (k := .i64) (a := m.ss) (b := m'.ss) w (by decide) Tryz.underlying3 (by kernel_rfl) rfl rfl, eqF_int (d := d) (k := .i64) (a := m.sp) (b := m'.sp) w (by decide) Tryz.underlying3 (by kernel_rfl) rfl rfl, eqF_int (d := d) (k := .i64) (a := m.sf) (b := m'.sf) w (by decide) Tryz.underlying3 (by kernel_rfl) rfl rfl]
  simp only [Op.eqFields, Sem.run_pure, ifok]
  congr 1
  rw [Bool.eq_iff_iff]
  simp only [Bool.and_eq_true, decide_eq_true_eq, and_true]
theorem msg_guard : Tryz.prog.eqGuardType Tryz.prog.depth 38 = false := by kernel_rfl
theorem msg_equal (m m' : Msg) (h : m.R) (h' : m'.R) (w : World) : (Op.equalIn 10000 38 (.agg m.c) (.agg m'.c)).run Tryz.prog w = .ok (decide (m = m')) w := by
  rw [run_equalIn_struct w 9999 38 _ _ (by kernel_rfl) (by kernel_rfl)]
  simp only [Program.fieldsOf, Tryz.underlying38]
  rw [eqF_int (d := 9998) (k := .i64) (a := m.k) (b := m'.k) w (by decide) Tryz.underlying3 (by kernel_rfl) (Msg.get_n h NF.k) (Msg.get_n h' NF.k)]
  rw [eqF_int (d := 9998) (k := .i64) (a := m.f) (b := m'.f) w (by decide) Tryz.underlying3 (by kernel_rfl) (Msg.get_n h NF.f) (Msg.get_n h' NF.f)]
  rw [eqF_int (d := 9998) (k := .i64) (a := m.vl) (b := m'.vl) w (by decide) Tryz.underlying3 (by kernel_rfl) (Msg.get_n h NF.vl) (Msg.get_n h' NF.vl)]
  rw [eqF_int (d := 9998) (k := .i64) (a := m.t) (b := m'.t) w (by decide) Tryz.underlying3 (by kernel_rfl) (Msg.get_n h NF.t) (Msg.get_n h' NF.t)]
  rw [eqF_int (d := 9998) (k := .u64) (a := ((m.am : Nat) : Int)) (b := ((m'.am : Nat) : Int)) w (by decide) Tryz.underlying24 (by kernel_rfl) (Msg.get_a h AF.am) (Msg.get_a h' AF.am)]
  rw [eqF_int (d := 9998) (k := .u64) (a := ((m.mn : Nat) : Int)) (b := ((m'.mn : Nat) : Int)) w (by decide) Tryz.underlying24 (by kernel_rfl) (Msg.get_a h AF.mn) (Msg.get_a h' AF.mn)]
  rw [eqF_sub (d := 9998) w 36 6 (show (part _ m.c 6).run Tryz.prog w = .ok (.agg m.st) w from (part_stamp m.c 6 w).trans (by rw [Msg.ext_st])) (show (part _ m'.c 6).run Tryz.prog w = .ok (.agg m'.st) w from (part_stamp m'.c 6 w).trans (by rw [Msg.ext_st])) (stamp_equalD 9997 m m' w) (by decide) rfl rfl]
  rw [eqF_int (d := 9998) (k := .i64) (a := m.n) (b := m'.n) w (by decide) Tryz.underlying3 (by kernel_rfl) (Msg.get_n h NF.n) (Msg.get_n h' NF.n)]
  rw [eqF_int (d := 9998) (k := .i64) (a := m.pf) (b := m'.pf) w (by decide) Tryz.underlying3 (by kernel_rfl) (Msg.get_n h NF.pf) (Msg.get_n h' NF.pf)]
  rw [eqF_sub (d := 9998) w 26 12 (show (part _ m.c 12).run Tryz.prog w = .ok (.agg m.a.c) w from (part_att m.c 12 w).trans (by rw [Msg.ext_a h])) (show (part _ m'.c 12).run Tryz.prog w = .ok (.agg m'.a.c) w from (part_att m'.c 12 w).trans (by rw [Msg.ext_a h'])) (att_equalD 9996 m.a m'.a h.a h'.a w) (by decide) rfl rfl]
  rw [eqF_sub (d := 9998) w 26 48 (show (part _ m.c 48).run Tryz.prog w = .ok (.agg m.b.c) w from (part_att m.c 48 w).trans (by rw [Msg.ext_b h])) (show (part _ m'.c 48).run Tryz.prog w = .ok (.agg m'.b.c) w from (part_att m'.c 48 w).trans (by rw [Msg.ext_b h'])) (att_equalD 9996 m.b m'.b h.b h'.b w) (by decide) rfl rfl]
  rw [eqF_sub (d := 9998) w 28 84 (show (part _ m.c 84).run Tryz.prog w = .ok (.agg m.p.c) w from (part_pro m.c 84 w).trans (by rw [Msg.ext_p h])) (show (part _ m'.c 84).run Tryz.prog w = .ok (.agg m'.p.c) w from (part_pro m'.c 84 w).trans (by rw [Msg.ext_p h'])) (pro_equalD 9996 m.p m'.p h.p h'.p w) (by decide) rfl rfl]
  rw [eqF_sub (d := 9998) w 28 119 (show (part _ m.c 119).run Tryz.prog w = .ok (.agg m.q.c) w from (part_pro m.c 119 w).trans (by rw [Msg.ext_q h])) (show (part _ m'.c 119).run Tryz.prog w = .ok (.agg m'.q.c) w from (part_pro m'.c 119 w).trans (by rw [Msg.ext_q h'])) (pro_equalD 9996 m.q m'.q h.q h'.q w) (by decide) rfl rfl]
  simp only [Op.eqFields, Sem.run_pure, ifok]
  obtain ⟨k, f, vl, t, am, mn, sv, ss, sp, sf, n, pf, a, b, p, q⟩ := m
  obtain ⟨k', f', vl', t', am', mn', sv', ss', sp', sf', n', pf', a', b', p', q'⟩ := m'
  congr 1
  rw [Bool.eq_iff_iff]
  simp only [Bool.and_eq_true, decide_eq_true_eq, Msg.mk.injEq, Int.natCast_inj, and_true, and_assoc]
theorem msg_ne (a b : Msg) (ha : a.R) (hb : b.R) (w : World) : (binOp .neq 38 (.agg a.c) (.agg b.c)).run Tryz.prog w = .ok (.bool (!decide (a = b))) w := by rw [run_neq_struct, msg_equal a b ha hb]; rfl
theorem form_guard : Tryz.prog.eqGuardType Tryz.prog.depth 104 = false := by kernel_rfl
theorem form_equal (m m' : Msg) (h : m.R) (h' : m'.R) (w : World) : (Op.equalIn 10000 104 (.agg m.c) (.agg m'.c)).run Tryz.prog w = .ok (decide (m = m')) w := by
  rw [run_equalIn_struct w 9999 104 _ _ (by kernel_rfl) (by kernel_rfl)]
  simp only [Program.fieldsOf, Tryz.underlying104]
  rw [eqF_int (d := 9998) (k := .i64) (a := m.k) (b := m'.k) w (by decide) Tryz.underlying3 (by kernel_rfl) (Msg.get_n h NF.k) (Msg.get_n h' NF.k)]
  rw [eqF_int (d := 9998) (k := .i64) (a := m.f) (b := m'.f) w (by decide) Tryz.underlying3 (by kernel_rfl) (Msg.get_n h NF.f) (Msg.get_n h' NF.f)]
  rw [eqF_int (d := 9998) (k := .i64) (a := m.vl) (b := m'.vl) w (by decide) Tryz.underlying3 (by kernel_rfl) (Msg.get_n h NF.vl) (Msg.get_n h' NF.vl)]
  rw [eqF_int (d := 9998) (k := .i64) (a := m.t) (b := m'.t) w (by decide) Tryz.underlying3 (by kernel_rfl) (Msg.get_n h NF.t) (Msg.get_n h' NF.t)]
  rw [eqF_int (d := 9998) (k := .u64) (a := ((m.am : Nat) : Int)) (b := ((m'.am : Nat) : Int)) w (by decide) Tryz.underlying24 (by kernel_rfl) (Msg.get_a h AF.am) (Msg.get_a h' AF.am)]
  rw [eqF_int (d := 9998) (k := .u64) (a := ((m.mn : Nat) : Int)) (b := ((m'.mn : Nat) : Int)) w (by decide) Tryz.underlying24 (by kernel_rfl) (Msg.get_a h AF.mn) (Msg.get_a h' AF.mn)]
  rw [eqF_sub (d := 9998) w 36 6 (show (part _ m.c 6).run Tryz.prog w = .ok (.agg m.st) w from (part_stamp m.c 6 w).trans (by rw [Msg.ext_st])) (show (part _ m'.c 6).run Tryz.prog w = .ok (.agg m'.st) w from (part_stamp m'.c 6 w).trans (by rw [Msg.ext_st])) (stamp_equalD 9997 m m' w) (by decide) rfl rfl]
  rw [eqF_int (d := 9998) (k := .i64) (a := m.n) (b := m'.n) w (by decide) Tryz.underlying3 (by kernel_rfl) (Msg.get_n h NF.n) (Msg.get_n h' NF.n)]
  rw [eqF_int (d := 9998) (k := .i64) (a := m.pf) (b := m'.pf) w (by decide) Tryz.underlying3 (by kernel_rfl) (Msg.get_n h NF.pf) (Msg.get_n h' NF.pf)]
  rw [eqF_sub (d := 9998) w 26 12 (show (part _ m.c 12).run Tryz.prog w = .ok (.agg m.a.c) w from (part_att m.c 12 w).trans (by rw [Msg.ext_a h])) (show (part _ m'.c 12).run Tryz.prog w = .ok (.agg m'.a.c) w from (part_att m'.c 12 w).trans (by rw [Msg.ext_a h'])) (att_equalD 9996 m.a m'.a h.a h'.a w) (by decide) rfl rfl]
  rw [eqF_sub (d := 9998) w 26 48 (show (part _ m.c 48).run Tryz.prog w = .ok (.agg m.b.c) w from (part_att m.c 48 w).trans (by rw [Msg.ext_b h])) (show (part _ m'.c 48).run Tryz.prog w = .ok (.agg m'.b.c) w from (part_att m'.c 48 w).trans (by rw [Msg.ext_b h'])) (att_equalD 9996 m.b m'.b h.b h'.b w) (by decide) rfl rfl]
  rw [eqF_sub (d := 9998) w 28 84 (show (part _ m.c 84).run Tryz.prog w = .ok (.agg m.p.c) w from (part_pro m.c 84 w).trans (by rw [Msg.ext_p h])) (show (part _ m'.c 84).run Tryz.prog w = .ok (.agg m'.p.c) w from (part_pro m'.c 84 w).trans (by rw [Msg.ext_p h'])) (pro_equalD 9996 m.p m'.p h.p h'.p w) (by decide) rfl rfl]
  rw [eqF_sub (d := 9998) w 28 119 (show (part _ m.c 119).run Tryz.prog w = .ok (.agg m.q.c) w from (part_pro m.c 119 w).trans (by rw [Msg.ext_q h])) (show (part _ m'.c 119).run Tryz.prog w = .ok (.agg m'.q.c) w from (part_pro m'.c 119 w).trans (by rw [Msg.ext_q h'])) (pro_equalD 9996 m.q m'.q h.q h'.q w) (by decide) rfl rfl]
  simp only [Op.eqFields, Sem.run_pure, ifok]
  obtain ⟨k, f, vl, t, am, mn, sv, ss, sp, sf, n, pf, a, b, p, q⟩ := m
  obtain ⟨k', f', vl', t', am', mn', sv', ss', sp', sf', n', pf', a', b', p', q'⟩ := m'
  congr 1
  rw [Bool.eq_iff_iff]
  simp only [Bool.and_eq_true, decide_eq_true_eq, Msg.mk.injEq, Int.natCast_inj, and_true, and_assoc]
theorem form_ne (a b : Msg) (ha : a.R) (hb : b.R) (w : World) : (binOp .neq 104 (.agg a.c) (.agg b.c)).run Tryz.prog w = .ok (.bool (!decide (a = b))) w := by rw [run_neq_struct, form_equal a b ha hb]; rfl
end Go.Proofs.YtcbfnflnokoacaaGreat
namespace Go.Proofs.YtcbfnflnokoacaaGreat
set_option maxRecDepth 100000
set_option maxHeartbeats 4000000
open Go Go.RowKit Go.Own Go.Shelf
def msgZ : Msg := ⟨0, 0, 0, 0, 0, 0, 0, 0, 0, 0, 0, 0, ⟨0, 0, 0, zeroH, 0⟩, ⟨0, 0, 0, zeroH, 0⟩, ⟨0, 0, zeroH, 0⟩, ⟨0, 0, zeroH, 0⟩⟩
def onlyK (k : Int) : Msg := { msgZ with k := k }
theorem msgZ_R : msgZ.R := ⟨rfl, rfl, rfl, rfl⟩
theorem onlyK_R (k : Int) : (onlyK k).R := ⟨rfl, rfl, rfl, rfl⟩
/-- The form is right: a kind, and a proof if it is evidence. -/
def Msg.form (m : Msg) : Prop := (1 ≤ m.k ∧ m.k ≤ 11) ∧ (m.k = 8 → 1 ≤ m.pf ∧ m.pf ≤ 3)
instance (m : Msg) : Decidable m.form := by unfold Msg.form; infer_instance
def Msg.chk (m : Msg) : Int := if m.form then (if m.items.all (chkIt m) = true then (if clrAll m = onlyK m.k then 0 else 2) else 3) else 5
noncomputable def qc38_0 (n : Nat) : Code := partOf Tryz.f70 n
noncomputable abbrev qo38_0 (n k : Nat) : Oper := (opsAt (qc38_0 n)).getD k default
theorem mCheck1_yes (ge : Nat) (x : Int) (w : World) (he : w.heap[ge]? = some (.cells #[.int .i64 x] 31 (0, 0))) :
    CallsD Tryz.prog 70 #[.pointer (some ⟨ge, 0, none⟩)] (.panicking [{ v := .iface 102 (.agg #[.int .i64 3]), recovered := false }]) w (fun e u' w' => u' = .panicking [{ v := .iface 102 (.agg #[.int .i64 3]), recovered := true }] ∧ (fun e w' => e = .returned (.tuple #[]) ∧ w'.heap[ge]? = some (.cells #[.int .i64 3] 31 (0, 0)) ∧ Keeps (One ge) w w') e w') := by
  have K0 : Keeps (One ge) w w := Keeps.refl _ _
  refine rec_yes (.iface 102 (.agg #[.int .i64 3])) 0 (qc38_0 3) (opsAt (qc38_0 2)) (qo38_0 2 0) (qo38_0 2 1) ⟨#[.pointer (some ⟨ge, 0, none⟩), ud, ud, ud, ud, ud, ud, ud, ud, ud, ud, ud, ud, ud, ud, ud], []⟩ ⟨#[.pointer (some ⟨ge, 0, none⟩), ud, ud, ud, .iface 102 (.agg #[.int .i64 3]), ud, ud, ud, ud, ud, ud, ud, ud, ud, ud, ud], []⟩ ⟨#[.pointer (some ⟨ge, 0, none⟩), .iface 102 (.agg #[.int .i64 3]), ud, ud, .iface 102 (.agg #[.int .i64 3]), ud, ud, ud, ud, ud, ud, ud, ud, ud, ud, ud], []⟩ (.iface 102 (.agg #[.int .i64 3])) Tryz.func70 (by kernel_rfl) (by kernel_rfl) (by kernel_rfl) (by kernel_rfl) (by kernel_rfl) (by kernel_rfl) (by kernel_rfl) (by kernel_rfl) (by kernel_rfl) <| qr_ [0, 1, 2, 3, 4, 5, 6, 7] <| pkq (.iface 102 (.agg #[.int .i64 3])) <| pkq (.tuple #[.agg #[.int .i64 3], .bool true]) <| pkq (.tuple #[.agg #[.int .i64 3], .bool true]) <| pkq (.agg #[.int .i64 3]) <| pkq (.bool true) <| pal 102 (#[.int .i64 0]) (.agg (#[.int .i64 0])) fun V1 g2 eg2 h3 kV1 => ?_
  have n4 : ge < g2 := eg2 ▸ lt_of_block he
  have n5 : w.heap.size ≤ g2 := eg2 ▸ K0.size
  have h6 := kV1.bk he
  have K7 := K0.nn kV1
  refine psk 102 g2 (#[.int .i64 3]) h3 fun V8 h9 kV8 => ?_
  have h10 := kV8.bO h6
  have K11 := K7.nO kV8
  refine pkq (.bool true) <| eqr_ [0] <| pkq (.bool true) <| ey_ <| r_ [0, 1, 2] <| pkq (pT g2 0) <| ppq (.int .i64 3) (ldk 31 g2 0 h9) <| pce 31 ge 0 (.int .i64 3) (#[.int .i64 3]) h10 (rc (h10) (by kernel_rfl)) (by kernel_rfl) (u := .int .i64 x) fun V12 h13 kV12 => ?_
  have K15 : Keeps (One ge) w V12 := K11.then kV12 (fun i hi hm => by unfold Own.One at hm; subst hm; exact rfl)
  refine ps_end <| sy_fall (.tuple #[]) rfl (by kernel_rfl) ?_
  exact ⟨rfl, h13, K15⟩
theorem mCheck1_no (ge : Nat) (x : Int) (w : World) (he : w.heap[ge]? = some (.cells #[.int .i64 x] 31 (0, 0))) :
    CallsD Tryz.prog 70 #[.pointer (some ⟨ge, 0, none⟩)] (.returning) w (fun e u' w' => u' = .returning ∧ (fun e w' => e = .returned (.tuple #[]) ∧ w'.heap[ge]? = some (.cells #[.int .i64 x] 31 (0, 0)) ∧ Keeps (One ge) w w') e w') := by
  have K0 : Keeps (One ge) w w := Keeps.refl _ _
  refine rec_no 0 (qc38_0 3) (opsAt (qc38_0 2)) (qo38_0 2 0) (qo38_0 2 1) ⟨#[.pointer (some ⟨ge, 0, none⟩), ud, ud, ud, ud, ud, ud, ud, ud, ud, ud, ud, ud, ud, ud, ud], []⟩ ⟨#[.pointer (some ⟨ge, 0, none⟩), ud, ud, ud, .nilIface, ud, ud, ud, ud, ud, ud, ud, ud, ud, ud, ud], []⟩ ⟨#[.pointer (some ⟨ge, 0, none⟩), .nilIface, ud, ud, .nilIface, ud, ud, ud, ud, ud, ud, ud, ud, ud, ud, ud], []⟩ (.nilIface) Tryz.func70 (by kernel_rfl) (by kernel_rfl) (by kernel_rfl) (by kernel_rfl) (by kernel_rfl) (by kernel_rfl) (by kernel_rfl) (by kernel_rfl) (by kernel_rfl) <| qr_ [0, 1, 2, 3, 4, 5, 6, 7] <| pkq (.nilIface) <| pkq (.tuple #[.agg #[.int .i64 0], .bool false]) <| pkq (.tuple #[.agg #[.int .i64 0], .bool false]) <| pkq (.agg #[.int .i64 0]) <| pkq (.bool false) <| pal 102 (#[.int .i64 0]) (.agg (#[.int .i64 0])) fun V1 g2 eg2 h3 kV1 => ?_
  have n4 : ge < g2 := eg2 ▸ lt_of_block he
  have n5 : w.heap.size ≤ g2 := eg2 ▸ K0.size
  have h6 := kV1.bk he
  have K7 := K0.nn kV1
  obtain ⟨V8, eV8, kV8⟩ := rowset_step V1 g2 (#[.int .i64 0])
  refine pzq (w' := V8) (by rw [← eV8]; exact exec_store_row 102 (.tmp 2) (.tmp 8) (by kernel_rfl) g2 (#[.int .i64 0]) (by kernel_rfl) (by kernel_rfl) 102 (#[.int .i64 0]) h3 (by kernel_rfl) (by kernel_rfl) (by kernel_rfl)) ?_
  clear eV8
  have h10 := kV8.bO h6
  have K11 := K7.nO kV8
  refine pkq (.bool false) <| eqr_ [0] <| pkq (.bool false) <| en_ <| qr_ [0, 1] <| pkq (.nilIface) <| pkq (.bool false) <| en_ <| s_ <| sy_fall (.tuple #[]) rfl (by kernel_rfl) ?_
  exact ⟨rfl, h10, K11⟩
noncomputable def qc38_1 (n : Nat) : Code := partOf Tryz.f36 n
noncomputable abbrev qo38_1 (n k : Nat) : Oper := (opsAt (qc38_1 n)).getD k default
theorem mCheck_f1 (m : Msg) (w : World) (hr : m.R) (hk : ¬ (1 ≤ m.k ∧ m.k ≤ 11)) :
    Calls Tryz.prog 36 #[.agg (Msg.c m)] w (fun e w' => e = .returned (.int .i64 5) ∧ Keeps Nob w w') := by
  have K0 : Keeps Nob w w := Keeps.refl _ _
  refine sy_enterD (qc38_1 1) ⟨#[.agg (Msg.c m), ud, ud, ud, ud, ud, ud, ud, ud, ud, ud, ud, ud, ud, ud, ud, ud, ud, ud, ud, ud, ud, ud, ud, ud, ud, ud, ud, ud, ud, ud, ud, ud, ud, ud, ud], []⟩ Tryz.func36 (by kernel_rfl) (by kernel_rfl) <| qr_ [0, 1] <| pbx 38 ((Msg.c m)) (.agg (Msg.c m)) fun V1 gm egm h2 kV1 => ?_
  have n3 : w.heap.size ≤ gm := egm ▸ K0.size
  have K4 := K0.nn kV1
  refine pal 31 (#[.int .i64 0]) (.int .i64 0) fun V5 ge ege h6 kV5 => ?_
  have n7 : gm < ge := ege ▸ lt_of_block h2
  have n8 : w.heap.size ≤ ge := ege ▸ K4.size
  have h9 := kV5.bk h2
  have K10 := K4.nn kV5
  refine eq_ <| qr_ [0, 1, 2, 3, 4, 5, 6, 7, 8, 9, 10, 11, 12, 13, 14, 15, 16, 17, 18] <| pkq (pT gm 0) <| ppq (.int .i64 m.k) (ldc 3 gm 0 (rc (h9) (Msg.get_n hr NF.k))) ?_
  refine pcq 69 #[.int .i64 m.k] Tryz.func69 ((mknown_no _ _ hk).mono ?_)
  rintro e w1 ⟨rfl, rfl⟩
  refine ⟨_, rfl, ?_⟩
  refine pkq (.bool true) <| pkq (.bool true) <| pnq <| pnq <| pnq <| pnq <| pnq <| pnq <| pnq <| pnq <| pnq <| pnq <| pnq <| pnq ?_
  refine pnq <| pkq (.bool true) <| ey_ <| qr_ [0] <| pce 31 ge 0 (.int .i64 5) (#[.int .i64 5]) h6 (rc (h6) (by kernel_rfl)) (by kernel_rfl) (u := .int .i64 0) fun V11 h12 kV11 => ?_
  have K14 := K10.nO kV11
  refine eu_ <| then_r <| sy_outD0 (.int .i64 5) rfl (results_cell1 (p := 2) (ty := 31) (by kernel_rfl) _ _ ge 0 (.int .i64 5) _ (by kernel_rfl) Tryz.underlying31 rfl (rc (h12) (by kernel_rfl))) ?_
  exact ⟨rfl, K14⟩
theorem mCheck_f2 (m : Msg) (w : World) (hr : m.R) (hk : 1 ≤ m.k ∧ m.k ≤ 11) (h8 : m.k = 8) (hp : m.pf < 1) :
    Calls Tryz.prog 36 #[.agg (Msg.c m)] w (fun e w' => e = .returned (.int .i64 5) ∧ Keeps Nob w w') := by
  have K0 : Keeps Nob w w := Keeps.refl _ _
  refine sy_enterD (qc38_1 1) ⟨#[.agg (Msg.c m), ud, ud, ud, ud, ud, ud, ud, ud, ud, ud, ud, ud, ud, ud, ud, ud, ud, ud, ud, ud, ud, ud, ud, ud, ud, ud, ud, ud, ud, ud, ud, ud, ud, ud, ud], []⟩ Tryz.func36 (by kernel_rfl) (by kernel_rfl) <| qr_ [0, 1] <| pbx 38 ((Msg.c m)) (.agg (Msg.c m)) fun V1 gm egm h2 kV1 => ?_
  have n3 : w.heap.size ≤ gm := egm ▸ K0.size
  have K4 := K0.nn kV1
  refine pal 31 (#[.int .i64 0]) (.int .i64 0) fun V5 ge ege h6 kV5 => ?_
  have n7 : gm < ge := ege ▸ lt_of_block h2
  have n8 : w.heap.size ≤ ge := ege ▸ K4.size
  have h9 := kV5.bk h2
  have K10 := K4.nn kV5
  refine eq_ <| qr_ [0, 1, 2, 3, 4, 5, 6, 7, 8, 9, 10, 11, 12, 13, 14, 15, 16, 17, 18] <| pkq (pT gm 0) <| ppq (.int .i64 m.k) (ldc 3 gm 0 (rc (h9) (Msg.get_n hr NF.k))) ?_
  refine pcq 69 #[.int .i64 m.k] Tryz.func69 ((mknown_yes _ _ hk.1 hk.2).mono ?_)
  rintro e w1 ⟨rfl, rfl⟩
  refine ⟨_, rfl, ?_⟩
  refine pkq (.bool false) <| pkq (.bool false) <| pkq (pT gm 0) <| ppq (.int .i64 m.k) (ldc 3 gm 0 (rc (h9) (Msg.get_n hr NF.k))) <| ppq (.bool true) (eqt ((m.k) : Int) ((8) : Int) (by omega)) <| pkq (.bool true) <| pkq (pT gm 11) <| ppq (.int .i64 m.pf) (ldc 3 gm 11 (rc (h9) (Msg.get_n hr NF.pf))) <| ppq (.bool true) (dct (((m.pf) : Int) < ((1) : Int)) (by omega)) <| pkq (.bool true) <| pnq <| pnq <| pnq <| pkq (.bool true) ?_
  refine pkq (.bool true) <| pkq (.bool true) <| ey_ <| qr_ [0] <| pce 31 ge 0 (.int .i64 5) (#[.int .i64 5]) h6 (rc (h6) (by kernel_rfl)) (by kernel_rfl) (u := .int .i64 0) fun V11 h12 kV11 => ?_
  have K14 := K10.nO kV11
  refine eu_ <| then_r <| sy_outD0 (.int .i64 5) rfl (results_cell1 (p := 2) (ty := 31) (by kernel_rfl) _ _ ge 0 (.int .i64 5) _ (by kernel_rfl) Tryz.underlying31 rfl (rc (h12) (by kernel_rfl))) ?_
  exact ⟨rfl, K14⟩
theorem mCheck_f3 (m : Msg) (w : World) (hr : m.R) (hk : 1 ≤ m.k ∧ m.k ≤ 11) (h8 : m.k = 8) (hp : 1 ≤ m.pf) (hp2 : 3 < m.pf) :
    Calls Tryz.prog 36 #[.agg (Msg.c m)] w (fun e w' => e = .returned (.int .i64 5) ∧ Keeps Nob w w') := by
  have K0 : Keeps Nob w w := Keeps.refl _ _
  refine sy_enterD (qc38_1 1) ⟨#[.agg (Msg.c m), ud, ud, ud, ud, ud, ud, ud, ud, ud, ud, ud, ud, ud, ud, ud, ud, ud, ud, ud, ud, ud, ud, ud, ud, ud, ud, ud, ud, ud, ud, ud, ud, ud, ud, ud], []⟩ Tryz.func36 (by kernel_rfl) (by kernel_rfl) <| qr_ [0, 1] <| pbx 38 ((Msg.c m)) (.agg (Msg.c m)) fun V1 gm egm h2 kV1 => ?_
  have n3 : w.heap.size ≤ gm := egm ▸ K0.size
  have K4 := K0.nn kV1
  refine pal 31 (#[.int .i64 0]) (.int .i64 0) fun V5 ge ege h6 kV5 => ?_
  have n7 : gm < ge := ege ▸ lt_of_block h2
  have n8 : w.heap.size ≤ ge := ege ▸ K4.size
  have h9 := kV5.bk h2
  have K10 := K4.nn kV5
  refine eq_ <| qr_ [0, 1, 2, 3, 4, 5, 6, 7, 8, 9, 10, 11, 12, 13, 14, 15, 16, 17, 18] <| pkq (pT gm 0) <| ppq (.int .i64 m.k) (ldc 3 gm 0 (rc (h9) (Msg.get_n hr NF.k))) ?_
  refine pcq 69 #[.int .i64 m.k] Tryz.func69 ((mknown_yes _ _ hk.1 hk.2).mono ?_)
  rintro e w1 ⟨rfl, rfl⟩
  refine ⟨_, rfl, ?_⟩
  refine pkq (.bool false) <| pkq (.bool false) <| pkq (pT gm 0) <| ppq (.int .i64 m.k) (ldc 3 gm 0 (rc (h9) (Msg.get_n hr NF.k))) <| ppq (.bool true) (eqt ((m.k) : Int) ((8) : Int) (by omega)) <| pkq (.bool true) <| pkq (pT gm 11) <| ppq (.int .i64 m.pf) (ldc 3 gm 11 (rc (h9) (Msg.get_n hr NF.pf))) <| ppq (.bool false) (dcf (((m.pf) : Int) < ((1) : Int)) (by omega)) <| pkq (.bool false) <| pkq (pT gm 11) <| ppq (.int .i64 m.pf) (ldc 3 gm 11 (rc (h9) (Msg.get_n hr NF.pf))) <| ppq (.bool true) (dct (((m.pf) : Int) > ((3) : Int)) (by omega)) <| pkq (.bool true) ?_
  refine pkq (.bool true) <| pkq (.bool true) <| ey_ <| qr_ [0] <| pce 31 ge 0 (.int .i64 5) (#[.int .i64 5]) h6 (rc (h6) (by kernel_rfl)) (by kernel_rfl) (u := .int .i64 0) fun V11 h12 kV11 => ?_
  have K14 := K10.nO kV11
  refine eu_ <| then_r <| sy_outD0 (.int .i64 5) rfl (results_cell1 (p := 2) (ty := 31) (by kernel_rfl) _ _ ge 0 (.int .i64 5) _ (by kernel_rfl) Tryz.underlying31 rfl (rc (h12) (by kernel_rfl))) ?_
  exact ⟨rfl, K14⟩
theorem mCheck_panic (m : Msg) (w : World) (hr : m.R) (hf : m.form) (hn : m.items.all (chkIt m) = false) :
    Calls Tryz.prog 36 #[.agg (Msg.c m)] w (fun e w' => e = .returned (.int .i64 3) ∧ Keeps Nob w w') := by
  have hk := hf.1
  have hk1 : 1 ≤ m.k.toNat := by omega
  have hk2 : m.k.toNat ≤ 11 := by omega
  have hkc : ((m.k.toNat : Nat) : Int) = m.k := by omega
  have K0 : Keeps Nob w w := Keeps.refl _ _
  refine sy_enterD (qc38_1 1) ⟨#[.agg (Msg.c m), ud, ud, ud, ud, ud, ud, ud, ud, ud, ud, ud, ud, ud, ud, ud, ud, ud, ud, ud, ud, ud, ud, ud, ud, ud, ud, ud, ud, ud, ud, ud, ud, ud, ud, ud], []⟩ Tryz.func36 (by kernel_rfl) (by kernel_rfl) <| qr_ [0, 1] <| pbx 38 ((Msg.c m)) (.agg (Msg.c m)) fun V1 gm egm h2 kV1 => ?_
  have n3 : w.heap.size ≤ gm := egm ▸ K0.size
  have K4 := K0.nn kV1
  refine pal 31 (#[.int .i64 0]) (.int .i64 0) fun V5 ge ege h6 kV5 => ?_
  have n7 : gm < ge := ege ▸ lt_of_block h2
  have n8 : w.heap.size ≤ ge := ege ▸ K4.size
  have h9 := kV5.bk h2
  have K10 := K4.nn kV5
  refine eq_ ?_
  refine sy_cut (fun aQ VQ => ∃ (u1_4 u1_5 u1_9 u1_10 u1_11 u1_12 u1_13 u1_14 u1_15 u1_16 u1_17 u1_18 u1_19 u1_20 : Value), (aQ = ⟨#[.agg (Msg.c m), .pointer (some ⟨gm, 0, none⟩), .pointer (some ⟨ge, 0, none⟩), ud, u1_4, u1_5, .bool true, .bool false, .bool false, u1_9, u1_10, u1_11, u1_12, u1_13, u1_14, u1_15, u1_16, u1_17, u1_18, u1_19, u1_20, .bool false, .bool false, ud, ud, ud, ud, ud, ud, ud, ud, ud, ud, ud, ud, ud], []⟩) ∧ (VQ.heap[gm]? = some (.cells (Msg.c m) 38 (0, 0))) ∧ (VQ.heap[ge]? = some (.cells (#[.int .i64 0]) 31 (0, 0))) ∧ (V5.heap.size ≤ VQ.heap.size) ∧ (Keeps Nob w VQ)) ?_ ?_
  · rcases (show m.k ≠ 8 ∨ (m.k = 8 ∧ 1 ≤ m.pf ∧ m.pf ≤ 3) by have := hf.2; omega) with h8 | ⟨h8, hp1, hp2⟩
    · skip
      refine qr_ [0, 1, 2, 3, 4, 5, 6, 7, 8, 9, 10, 11, 12, 13, 14, 15, 16, 17, 18] <| pkq (pT gm 0) <| ppq (.int .i64 m.k) (ldc 3 gm 0 (rc (h9) (Msg.get_n hr NF.k))) ?_
      refine pcq 69 #[.int .i64 m.k] Tryz.func69 ((mknown_yes _ _ hk.1 hk.2).mono ?_)
      rintro e w1 ⟨rfl, rfl⟩
      refine ⟨_, rfl, ?_⟩
      refine pkq (.bool false) <| pkq (.bool false) <| pkq (pT gm 0) <| ppq (.int .i64 m.k) (ldc 3 gm 0 (rc (h9) (Msg.get_n hr NF.k))) <| ppq (.bool false) (eqf ((m.k) : Int) ((8) : Int) (by omega)) <| pkq (.bool false) <| pnq <| pnq <| pnq <| pnq <| pnq <| pnq <| pnq <| pnq ?_
      refine pkq (.bool false) <| pkq (.bool false) <| en_ <| s_ ?_
      exact ⟨rfl, .pointer (some ⟨gm, 0, none⟩), .int .i64 m.k, .pointer (some ⟨gm, 0, none⟩), .int .i64 m.k, .bool false, .bool false, undef, undef, undef, undef, undef, undef, undef, undef, by kernel_rfl, h9, h6, by omega, K10⟩
    · skip
      refine qr_ [0, 1, 2, 3, 4, 5, 6, 7, 8, 9, 10, 11, 12, 13, 14, 15, 16, 17, 18] <| pkq (pT gm 0) <| ppq (.int .i64 m.k) (ldc 3 gm 0 (rc (h9) (Msg.get_n hr NF.k))) ?_
      refine pcq 69 #[.int .i64 m.k] Tryz.func69 ((mknown_yes _ _ hk.1 hk.2).mono ?_)
      rintro e w1 ⟨rfl, rfl⟩
      refine ⟨_, rfl, ?_⟩
      refine pkq (.bool false) <| pkq (.bool false) <| pkq (pT gm 0) <| ppq (.int .i64 m.k) (ldc 3 gm 0 (rc (h9) (Msg.get_n hr NF.k))) <| ppq (.bool true) (eqt ((m.k) : Int) ((8) : Int) (by omega)) <| pkq (.bool true) <| pkq (pT gm 11) <| ppq (.int .i64 m.pf) (ldc 3 gm 11 (rc (h9) (Msg.get_n hr NF.pf))) <| ppq (.bool false) (dcf (((m.pf) : Int) < ((1) : Int)) (by omega)) <| pkq (.bool false) <| pkq (pT gm 11) <| ppq (.int .i64 m.pf) (ldc 3 gm 11 (rc (h9) (Msg.get_n hr NF.pf))) <| ppq (.bool false) (dcf (((m.pf) : Int) > ((3) : Int)) (by omega)) <| pkq (.bool false) ?_
      refine pkq (.bool false) <| pkq (.bool false) <| en_ <| s_ ?_
      exact ⟨rfl, .pointer (some ⟨gm, 0, none⟩), .int .i64 m.k, .pointer (some ⟨gm, 0, none⟩), .int .i64 m.k, .bool true, .bool true, .pointer (some ⟨gm, 11, none⟩), .int .i64 m.pf, .bool false, .bool false, .pointer (some ⟨gm, 11, none⟩), .int .i64 m.pf, .bool false, .bool false, by kernel_rfl, h9, h6, by omega, K10⟩
  rintro aQ V11 ⟨u1_4, u1_5, u1_9, u1_10, u1_11, u1_12, u1_13, u1_14, u1_15, u1_16, u1_17, u1_18, u1_19, u1_20, rfl, h12, h13, z14, K15⟩
  refine tqr_ [0, 1] <| pkq (.func (.func 70) #[] #[pT ge 0]) <| ps_defer (qo38_1 14 1) ⟨.fn (.func 70) #[.pointer (some ⟨ge, 0, none⟩)], #[]⟩ (by kernel_rfl) (by kernel_rfl) (by kernel_rfl) <| eqr_ [0, 1, 2] <| ppq (.agg (Msg.c m)) (ldr 38 gm (h12) (by rw [Msg.c_size hr]; kernel_rfl)) <| pal 104 ((Msg.c msgZ)) (.agg ((Msg.c msgZ))) fun V16 gc egc h17 kV16 => ?_
  have n18 : gm < gc := egc ▸ lt_of_block h12
  have n19 : ge < gc := egc ▸ lt_of_block h13
  have n20 : w.heap.size ≤ gc := egc ▸ K15.size
  have h22 := kV16.bk h13
  have K23 := K15.nn kV16
  refine pst 104 gc ((Msg.c m)) h17 (by rw [Msg.c_size hr]; kernel_rfl) (by rw [Msg.c_size hr]; exact (Msg.c_size msgZ_R).symm) (Msg.c_one _) fun V24 h25 kV24 => ?_
  have h27 := kV24.bO h22
  have K28 := K23.nO kV24
  refine eqr_ [0, 1, 2] <| pkq (.agg #[]) <| pkq (.iface 107 (.agg #[])) ?_
  refine ps_P (qo38_1 62 2) 71 #[.pointer (some ⟨gc, 0, none⟩), .iface 107 (.agg #[])] _ _ (run_callF (qo38_1 62 2) 71 #[.pointer (some ⟨gc, 0, none⟩), .iface 107 (.agg #[])] (by kernel_rfl) rfl (by kernel_rfl) (enters_of Tryz.func71 (by kernel_rfl) rfl)) (mall_ok chkV chkV_ok gc m.k.toNat (fun _ => False) (fun c w' => c = [outP] ∧ Keeps Nob V24 w') _ _ _ hk1 hk2 h25 ((Msg.get_n hr NF.k).trans (congrArg (fun x => some (Value.int .i64 x)) hkc.symm)) (all_chk m hr m.k.toNat hkc.symm _ h25 (fun h w' k' => by rw [hn] at h; cases h) (fun h w' k' => ⟨rfl, k'⟩))) ?_ ?_
  · intro c w' h
    obtain ⟨rfl, kp⟩ := h
    have hge' := kp.bk h27
    refine sy_panicD 70 #[.pointer (some ⟨ge, 0, none⟩)] _ rfl (fun _ => enters_of Tryz.func70 (by kernel_rfl) rfl _ _) ((mCheck1_yes ge 0 _ hge').mono ?_)
    rintro e u V' ⟨rfl, he1, he2, k2⟩
    refine ⟨rfl, _, he1, .int .i64 3, results_cell1 (p := 2) (ty := 31) (by kernel_rfl) _ _ ge 0 (.int .i64 3) _ (by kernel_rfl) Tryz.underlying31 rfl (rc he2 (by kernel_rfl)), rfl, (K28.nn kp).nO k2⟩
  rintro V29 h
  exact h.elim
theorem mCheck_arg (m : Msg) (w : World) (hr : m.R) (hf : m.form) (hn : m.items.all (chkIt m) = true) (hq : ¬ clrAll m = onlyK m.k) :
    Calls Tryz.prog 36 #[.agg (Msg.c m)] w (fun e w' => e = .returned (.int .i64 2) ∧ Keeps Nob w w') := by
  have hk := hf.1
  have hk1 : 1 ≤ m.k.toNat := by omega
  have hk2 : m.k.toNat ≤ 11 := by omega
  have hkc : ((m.k.toNat : Nat) : Int) = m.k := by omega
  have K0 : Keeps Nob w w := Keeps.refl _ _
  refine sy_enterD (qc38_1 1) ⟨#[.agg (Msg.c m), ud, ud, ud, ud, ud, ud, ud, ud, ud, ud, ud, ud, ud, ud, ud, ud, ud, ud, ud, ud, ud, ud, ud, ud, ud, ud, ud, ud, ud, ud, ud, ud, ud, ud, ud], []⟩ Tryz.func36 (by kernel_rfl) (by kernel_rfl) <| qr_ [0, 1] <| pbx 38 ((Msg.c m)) (.agg (Msg.c m)) fun V1 gm egm h2 kV1 => ?_
  have n3 : w.heap.size ≤ gm := egm ▸ K0.size
  have K4 := K0.nn kV1
  refine pal 31 (#[.int .i64 0]) (.int .i64 0) fun V5 ge ege h6 kV5 => ?_
  have n7 : gm < ge := ege ▸ lt_of_block h2
  have n8 : w.heap.size ≤ ge := ege ▸ K4.size
  have h9 := kV5.bk h2
  have K10 := K4.nn kV5
  refine eq_ ?_
  refine sy_cut (fun aQ VQ => ∃ (u1_4 u1_5 u1_9 u1_10 u1_11 u1_12 u1_13 u1_14 u1_15 u1_16 u1_17 u1_18 u1_19 u1_20 : Value), (aQ = ⟨#[.agg (Msg.c m), .pointer (some ⟨gm, 0, none⟩), .pointer (some ⟨ge, 0, none⟩), ud, u1_4, u1_5, .bool true, .bool false, .bool false, u1_9, u1_10, u1_11, u1_12, u1_13, u1_14, u1_15, u1_16, u1_17, u1_18, u1_19, u1_20, .bool false, .bool false, ud, ud, ud, ud, ud, ud, ud, ud, ud, ud, ud, ud, ud], []⟩) ∧ (VQ.heap[gm]? = some (.cells (Msg.c m) 38 (0, 0))) ∧ (VQ.heap[ge]? = some (.cells (#[.int .i64 0]) 31 (0, 0))) ∧ (V5.heap.size ≤ VQ.heap.size) ∧ (Keeps Nob w VQ)) ?_ ?_
  · rcases (show m.k ≠ 8 ∨ (m.k = 8 ∧ 1 ≤ m.pf ∧ m.pf ≤ 3) by have := hf.2; omega) with h8 | ⟨h8, hp1, hp2⟩
    · skip
      refine qr_ [0, 1, 2, 3, 4, 5, 6, 7, 8, 9, 10, 11, 12, 13, 14, 15, 16, 17, 18] <| pkq (pT gm 0) <| ppq (.int .i64 m.k) (ldc 3 gm 0 (rc (h9) (Msg.get_n hr NF.k))) ?_
      refine pcq 69 #[.int .i64 m.k] Tryz.func69 ((mknown_yes _ _ hk.1 hk.2).mono ?_)
      rintro e w1 ⟨rfl, rfl⟩
      refine ⟨_, rfl, ?_⟩
      refine pkq (.bool false) <| pkq (.bool false) <| pkq (pT gm 0) <| ppq (.int .i64 m.k) (ldc 3 gm 0 (rc (h9) (Msg.get_n hr NF.k))) <| ppq (.bool false) (eqf ((m.k) : Int) ((8) : Int) (by omega)) <| pkq (.bool false) <| pnq <| pnq <| pnq <| pnq <| pnq <| pnq <| pnq <| pnq ?_
      refine pkq (.bool false) <| pkq (.bool false) <| en_ <| s_ ?_
      exact ⟨rfl, .pointer (some ⟨gm, 0, none⟩), .int .i64 m.k, .pointer (some ⟨gm, 0, none⟩), .int .i64 m.k, .bool false, .bool false, undef, undef, undef, undef, undef, undef, undef, undef, by kernel_rfl, h9, h6, by omega, K10⟩
    · skip
      refine qr_ [0, 1, 2, 3, 4, 5, 6, 7, 8, 9, 10, 11, 12, 13, 14, 15, 16, 17, 18] <| pkq (pT gm 0) <| ppq (.int .i64 m.k) (ldc 3 gm 0 (rc (h9) (Msg.get_n hr NF.k))) ?_
      refine pcq 69 #[.int .i64 m.k] Tryz.func69 ((mknown_yes _ _ hk.1 hk.2).mono ?_)
      rintro e w1 ⟨rfl, rfl⟩
      refine ⟨_, rfl, ?_⟩
      refine pkq (.bool false) <| pkq (.bool false) <| pkq (pT gm 0) <| ppq (.int .i64 m.k) (ldc 3 gm 0 (rc (h9) (Msg.get_n hr NF.k))) <| ppq (.bool true) (eqt ((m.k) : Int) ((8) : Int) (by omega)) <| pkq (.bool true) <| pkq (pT gm 11) <| ppq (.int .i64 m.pf) (ldc 3 gm 11 (rc (h9) (Msg.get_n hr NF.pf))) <| ppq (.bool false) (dcf (((m.pf) : Int) < ((1) : Int)) (by omega)) <| pkq (.bool false) <| pkq (pT gm 11) <| ppq (.int .i64 m.pf) (ldc 3 gm 11 (rc (h9) (Msg.get_n hr NF.pf))) <| ppq (.bool false) (dcf (((m.pf) : Int) > ((3) : Int)) (by omega)) <| pkq (.bool false) ?_
      refine pkq (.bool false) <| pkq (.bool false) <| en_ <| s_ ?_
      exact ⟨rfl, .pointer (some ⟨gm, 0, none⟩), .int .i64 m.k, .pointer (some ⟨gm, 0, none⟩), .int .i64 m.k, .bool true, .bool true, .pointer (some ⟨gm, 11, none⟩), .int .i64 m.pf, .bool false, .bool false, .pointer (some ⟨gm, 11, none⟩), .int .i64 m.pf, .bool false, .bool false, by kernel_rfl, h9, h6, by omega, K10⟩
  rintro aQ V11 ⟨u1_4, u1_5, u1_9, u1_10, u1_11, u1_12, u1_13, u1_14, u1_15, u1_16, u1_17, u1_18, u1_19, u1_20, rfl, h12, h13, z14, K15⟩
  refine tqr_ [0, 1] <| pkq (.func (.func 70) #[] #[pT ge 0]) <| ps_defer (qo38_1 14 1) ⟨.fn (.func 70) #[.pointer (some ⟨ge, 0, none⟩)], #[]⟩ (by kernel_rfl) (by kernel_rfl) (by kernel_rfl) <| eqr_ [0, 1, 2] <| ppq (.agg (Msg.c m)) (ldr 38 gm (h12) (by rw [Msg.c_size hr]; kernel_rfl)) <| pal 104 ((Msg.c msgZ)) (.agg ((Msg.c msgZ))) fun V16 gc egc h17 kV16 => ?_
  have n18 : gm < gc := egc ▸ lt_of_block h12
  have n19 : ge < gc := egc ▸ lt_of_block h13
  have n20 : w.heap.size ≤ gc := egc ▸ K15.size
  have h21 := kV16.bk h12
  have h22 := kV16.bk h13
  have K23 := K15.nn kV16
  refine pst 104 gc ((Msg.c m)) h17 (by rw [Msg.c_size hr]; kernel_rfl) (by rw [Msg.c_size hr]; exact (Msg.c_size msgZ_R).symm) (Msg.c_one _) fun V24 h25 kV24 => ?_
  have h26 := kV24.bO h21
  have h27 := kV24.bO h22
  have K28 := K23.nO kV24
  refine eqr_ [0, 1, 2] <| pkq (.agg #[]) <| pkq (.iface 107 (.agg #[])) <| ps_P (qo38_1 62 2) 71 #[.pointer (some ⟨gc, 0, none⟩), .iface 107 (.agg #[])] _ _ (run_callF (qo38_1 62 2) 71 #[.pointer (some ⟨gc, 0, none⟩), .iface 107 (.agg #[])] (by kernel_rfl) rfl (by kernel_rfl) (enters_of Tryz.func71 (by kernel_rfl) rfl)) (mall_ok chkV chkV_ok gc m.k.toNat (fun w' => Keeps Nob V24 w') (fun _ _ => False) _ _ _ hk1 hk2 h25 ((Msg.get_n hr NF.k).trans (congrArg (fun x => some (Value.int .i64 x)) hkc.symm)) (all_chk m hr m.k.toNat hkc.symm _ h25 (fun h w' k' => k') (fun h w' k' => by rw [hn] at h; cases h))) (fun c w' h => h.elim) ?_
  rintro V29 kV29
  have h30 := kV29.bk h26
  have h31 := kV29.bk h27
  have h32 := kV29.bk h25
  have K33 := K28.nn kV29
  refine eqr_ [0, 1, 2] <| pkq (.agg #[]) <| pkq (.iface 108 (.agg #[])) <| ps_P (qo38_1 126 2) 71 #[.pointer (some ⟨gc, 0, none⟩), .iface 108 (.agg #[])] _ _ (run_callF (qo38_1 126 2) 71 #[.pointer (some ⟨gc, 0, none⟩), .iface 108 (.agg #[])] (by kernel_rfl) rfl (by kernel_rfl) (enters_of Tryz.func71 (by kernel_rfl) rfl)) (mall_ok clrV clrV_ok gc m.k.toNat (fun w' => w'.heap[gc]? = some (.cells (Msg.c ((clrAll m))) 104 (0, 0)) ∧ Keeps (One gc) V29 w') (fun _ _ => False) _ _ _ hk1 hk2 h32 ((Msg.get_n hr NF.k).trans (congrArg (fun x => some (Value.int .i64 x)) hkc.symm)) (all_clr m hr m.k.toNat hkc.symm _ h32 (fun w' h k' => ⟨h, k'⟩))) (fun c w' h => h.elim) ?_
  rintro V34 ⟨hcV34, kV34⟩
  have h35 := kV34.bO h30
  have h36 := kV34.bO h31
  have K37 := K33.nO kV34
  refine eq_ <| qr_ [0, 1, 2, 3, 4] <| ppq (.agg (Msg.c ((clrAll m)))) (ldr 104 gc (hcV34) (by rw [Msg.c_size (clrAll_R hr)]; kernel_rfl)) <| pkq (pT gm 0) <| ppq (.int .i64 m.k) (ldc 3 gm 0 (rc (h35) (Msg.get_n hr NF.k))) <| pkq (.agg (Msg.c (onlyK m.k))) <| ppq (.bool true) (exec_cast (congrArg Value.bool (show (!decide (clrAll m = onlyK m.k)) = true by simp [hq])) (exec_binop .neq 104 104 (.tmp 31) (.tmp 34) (by kernel_rfl) (.agg (Msg.c (clrAll m))) (.agg (Msg.c (onlyK m.k))) _ (by kernel_rfl) (by kernel_rfl) (run_eqGuard_agg _ _ _ _ _ _ _ form_guard) (form_ne _ _ (clrAll_R hr) (onlyK_R _) _))) <| ey_ <| qr_ [0] <| pce 31 ge 0 (.int .i64 2) (#[.int .i64 2]) h36 (rc (h36) (by kernel_rfl)) (by kernel_rfl) (u := .int .i64 0) fun V38 h39 kV38 => ?_
  have K42 := K37.nO kV38
  refine eu_ <| then_r ?_
  refine sy_outD 70 #[.pointer (some ⟨ge, 0, none⟩)] rfl (fun _ => enters_of Tryz.func70 (by kernel_rfl) rfl _ _) ((mCheck1_no ge 2 _ h39).mono ?_)
  rintro e u V43 ⟨rfl, rfl, heV43, kV43⟩
  have K46 := K42.nO kV43
  refine ⟨rfl, _, rfl, .int .i64 2, results_cell1 (p := 2) (ty := 31) (by kernel_rfl) _ _ ge 0 (.int .i64 2) _ (by kernel_rfl) Tryz.underlying31 rfl (rc (heV43) (by kernel_rfl)), ?_⟩
  exact ⟨rfl, K46⟩
theorem mCheck_ok (m : Msg) (w : World) (hr : m.R) (hf : m.form) (hn : m.items.all (chkIt m) = true) (hq : clrAll m = onlyK m.k) :
    Calls Tryz.prog 36 #[.agg (Msg.c m)] w (fun e w' => e = .returned (.int .i64 0) ∧ Keeps Nob w w') := by
  have hk := hf.1
  have hk1 : 1 ≤ m.k.toNat := by omega
  have hk2 : m.k.toNat ≤ 11 := by omega
  have hkc : ((m.k.toNat : Nat) : Int) = m.k := by omega
  have K0 : Keeps Nob w w := Keeps.refl _ _
  refine sy_enterD (qc38_1 1) ⟨#[.agg (Msg.c m), ud, ud, ud, ud, ud, ud, ud, ud, ud, ud, ud, ud, ud, ud, ud, ud, ud, ud, ud, ud, ud, ud, ud, ud, ud, ud, ud, ud, ud, ud, ud, ud, ud, ud, ud], []⟩ Tryz.func36 (by kernel_rfl) (by kernel_rfl) <| qr_ [0, 1] <| pbx 38 ((Msg.c m)) (.agg (Msg.c m)) fun V1 gm egm h2 kV1 => ?_
  have n3 : w.heap.size ≤ gm := egm ▸ K0.size
  have K4 := K0.nn kV1
  refine pal 31 (#[.int .i64 0]) (.int .i64 0) fun V5 ge ege h6 kV5 => ?_
  have n7 : gm < ge := ege ▸ lt_of_block h2
  have n8 : w.heap.size ≤ ge := ege ▸ K4.size
  have h9 := kV5.bk h2
  have K10 := K4.nn kV5
  refine eq_ ?_
  refine sy_cut (fun aQ VQ => ∃ (u1_4 u1_5 u1_9 u1_10 u1_11 u1_12 u1_13 u1_14 u1_15 u1_16 u1_17 u1_18 u1_19 u1_20 : Value), (aQ = ⟨#[.agg (Msg.c m), .pointer (some ⟨gm, 0, none⟩), .pointer (some ⟨ge, 0, none⟩), ud, u1_4, u1_5, .bool true, .bool false, .bool false, u1_9, u1_10, u1_11, u1_12, u1_13, u1_14, u1_15, u1_16, u1_17, u1_18, u1_19, u1_20, .bool false, .bool false, ud, ud, ud, ud, ud, ud, ud, ud, ud, ud, ud, ud, ud], []⟩) ∧ (VQ.heap[gm]? = some (.cells (Msg.c m) 38 (0, 0))) ∧ (VQ.heap[ge]? = some (.cells (#[.int .i64 0]) 31 (0, 0))) ∧ (V5.heap.size ≤ VQ.heap.size) ∧ (Keeps Nob w VQ)) ?_ ?_
  · rcases (show m.k ≠ 8 ∨ (m.k = 8 ∧ 1 ≤ m.pf ∧ m.pf ≤ 3) by have := hf.2; omega) with h8 | ⟨h8, hp1, hp2⟩
    · skip
      refine qr_ [0, 1, 2, 3, 4, 5, 6, 7, 8, 9, 10, 11, 12, 13, 14, 15, 16, 17, 18] <| pkq (pT gm 0) <| ppq (.int .i64 m.k) (ldc 3 gm 0 (rc (h9) (Msg.get_n hr NF.k))) ?_
      refine pcq 69 #[.int .i64 m.k] Tryz.func69 ((mknown_yes _ _ hk.1 hk.2).mono ?_)
      rintro e w1 ⟨rfl, rfl⟩
      refine ⟨_, rfl, ?_⟩
      refine pkq (.bool false) <| pkq (.bool false) <| pkq (pT gm 0) <| ppq (.int .i64 m.k) (ldc 3 gm 0 (rc (h9) (Msg.get_n hr NF.k))) <| ppq (.bool false) (eqf ((m.k) : Int) ((8) : Int) (by omega)) <| pkq (.bool false) <| pnq <| pnq <| pnq <| pnq <| pnq <| pnq <| pnq <| pnq ?_
      refine pkq (.bool false) <| pkq (.bool false) <| en_ <| s_ ?_
      exact ⟨rfl, .pointer (some ⟨gm, 0, none⟩), .int .i64 m.k, .pointer (some ⟨gm, 0, none⟩), .int .i64 m.k, .bool false, .bool false, undef, undef, undef, undef, undef, undef, undef, undef, by kernel_rfl, h9, h6, by omega, K10⟩
    · skip
      refine qr_ [0, 1, 2, 3, 4, 5, 6, 7, 8, 9, 10, 11, 12, 13, 14, 15, 16, 17, 18] <| pkq (pT gm 0) <| ppq (.int .i64 m.k) (ldc 3 gm 0 (rc (h9) (Msg.get_n hr NF.k))) ?_
      refine pcq 69 #[.int .i64 m.k] Tryz.func69 ((mknown_yes _ _ hk.1 hk.2).mono ?_)
      rintro e w1 ⟨rfl, rfl⟩
      refine ⟨_, rfl, ?_⟩
      refine pkq (.bool false) <| pkq (.bool false) <| pkq (pT gm 0) <| ppq (.int .i64 m.k) (ldc 3 gm 0 (rc (h9) (Msg.get_n hr NF.k))) <| ppq (.bool true) (eqt ((m.k) : Int) ((8) : Int) (by omega)) <| pkq (.bool true) <| pkq (pT gm 11) <| ppq (.int .i64 m.pf) (ldc 3 gm 11 (rc (h9) (Msg.get_n hr NF.pf))) <| ppq (.bool false) (dcf (((m.pf) : Int) < ((1) : Int)) (by omega)) <| pkq (.bool false) <| pkq (pT gm 11) <| ppq (.int .i64 m.pf) (ldc 3 gm 11 (rc (h9) (Msg.get_n hr NF.pf))) <| ppq (.bool false) (dcf (((m.pf) : Int) > ((3) : Int)) (by omega)) <| pkq (.bool false) ?_
      refine pkq (.bool false) <| pkq (.bool false) <| en_ <| s_ ?_
      exact ⟨rfl, .pointer (some ⟨gm, 0, none⟩), .int .i64 m.k, .pointer (some ⟨gm, 0, none⟩), .int .i64 m.k, .bool true, .bool true, .pointer (some ⟨gm, 11, none⟩), .int .i64 m.pf, .bool false, .bool false, .pointer (some ⟨gm, 11, none⟩), .int .i64 m.pf, .bool false, .bool false, by kernel_rfl, h9, h6, by omega, K10⟩
  rintro aQ V11 ⟨u1_4, u1_5, u1_9, u1_10, u1_11, u1_12, u1_13, u1_14, u1_15, u1_16, u1_17, u1_18, u1_19, u1_20, rfl, h12, h13, z14, K15⟩
  refine tqr_ [0, 1] <| pkq (.func (.func 70) #[] #[pT ge 0]) <| ps_defer (qo38_1 14 1) ⟨.fn (.func 70) #[.pointer (some ⟨ge, 0, none⟩)], #[]⟩ (by kernel_rfl) (by kernel_rfl) (by kernel_rfl) <| eqr_ [0, 1, 2] <| ppq (.agg (Msg.c m)) (ldr 38 gm (h12) (by rw [Msg.c_size hr]; kernel_rfl)) <| pal 104 ((Msg.c msgZ)) (.agg ((Msg.c msgZ))) fun V16 gc egc h17 kV16 => ?_
  have n18 : gm < gc := egc ▸ lt_of_block h12
  have n19 : ge < gc := egc ▸ lt_of_block h13
  have n20 : w.heap.size ≤ gc := egc ▸ K15.size
  have h21 := kV16.bk h12
  have h22 := kV16.bk h13
  have K23 := K15.nn kV16
  refine pst 104 gc ((Msg.c m)) h17 (by rw [Msg.c_size hr]; kernel_rfl) (by rw [Msg.c_size hr]; exact (Msg.c_size msgZ_R).symm) (Msg.c_one _) fun V24 h25 kV24 => ?_
  have h26 := kV24.bO h21
  have h27 := kV24.bO h22
  have K28 := K23.nO kV24
  refine eqr_ [0, 1, 2] <| pkq (.agg #[]) <| pkq (.iface 107 (.agg #[])) <| ps_P (qo38_1 62 2) 71 #[.pointer (some ⟨gc, 0, none⟩), .iface 107 (.agg #[])] _ _ (run_callF (qo38_1 62 2) 71 #[.pointer (some ⟨gc, 0, none⟩), .iface 107 (.agg #[])] (by kernel_rfl) rfl (by kernel_rfl) (enters_of Tryz.func71 (by kernel_rfl) rfl)) (mall_ok chkV chkV_ok gc m.k.toNat (fun w' => Keeps Nob V24 w') (fun _ _ => False) _ _ _ hk1 hk2 h25 ((Msg.get_n hr NF.k).trans (congrArg (fun x => some (Value.int .i64 x)) hkc.symm)) (all_chk m hr m.k.toNat hkc.symm _ h25 (fun h w' k' => k') (fun h w' k' => by rw [hn] at h; cases h))) (fun c w' h => h.elim) ?_
  rintro V29 kV29
  have h30 := kV29.bk h26
  have h31 := kV29.bk h27
  have h32 := kV29.bk h25
  have K33 := K28.nn kV29
  refine eqr_ [0, 1, 2] <| pkq (.agg #[]) <| pkq (.iface 108 (.agg #[])) <| ps_P (qo38_1 126 2) 71 #[.pointer (some ⟨gc, 0, none⟩), .iface 108 (.agg #[])] _ _ (run_callF (qo38_1 126 2) 71 #[.pointer (some ⟨gc, 0, none⟩), .iface 108 (.agg #[])] (by kernel_rfl) rfl (by kernel_rfl) (enters_of Tryz.func71 (by kernel_rfl) rfl)) (mall_ok clrV clrV_ok gc m.k.toNat (fun w' => w'.heap[gc]? = some (.cells (Msg.c ((clrAll m))) 104 (0, 0)) ∧ Keeps (One gc) V29 w') (fun _ _ => False) _ _ _ hk1 hk2 h32 ((Msg.get_n hr NF.k).trans (congrArg (fun x => some (Value.int .i64 x)) hkc.symm)) (all_clr m hr m.k.toNat hkc.symm _ h32 (fun w' h k' => ⟨h, k'⟩))) (fun c w' h => h.elim) ?_
  rintro V34 ⟨hcV34, kV34⟩
  have h35 := kV34.bO h30
  have h36 := kV34.bO h31
  have K37 := K33.nO kV34
  refine eq_ <| qr_ [0, 1, 2, 3, 4] <| ppq (.agg (Msg.c ((clrAll m)))) (ldr 104 gc (hcV34) (by rw [Msg.c_size (clrAll_R hr)]; kernel_rfl)) <| pkq (pT gm 0) <| ppq (.int .i64 m.k) (ldc 3 gm 0 (rc (h35) (Msg.get_n hr NF.k))) <| pkq (.agg (Msg.c (onlyK m.k))) <| ppq (.bool false) (exec_cast (congrArg Value.bool (show (!decide (clrAll m = onlyK m.k)) = false by simp [hq])) (exec_binop .neq 104 104 (.tmp 31) (.tmp 34) (by kernel_rfl) (.agg (Msg.c (clrAll m))) (.agg (Msg.c (onlyK m.k))) _ (by kernel_rfl) (by kernel_rfl) (run_eqGuard_agg _ _ _ _ _ _ _ form_guard) (form_ne _ _ (clrAll_R hr) (onlyK_R _) _))) <| en_ <| s_ <| tqr_ [0] <| pce 31 ge 0 (.int .i64 0) (#[.int .i64 0]) h36 (rc (h36) (by kernel_rfl)) (by kernel_rfl) (u := .int .i64 0) fun V38 h39 kV38 => ?_
  have K42 := K37.nO kV38
  refine eu_ ?_
  refine sy_outD 70 #[.pointer (some ⟨ge, 0, none⟩)] rfl (fun _ => enters_of Tryz.func70 (by kernel_rfl) rfl _ _) ((mCheck1_no ge 0 _ h39).mono ?_)
  rintro e u V43 ⟨rfl, rfl, heV43, kV43⟩
  have K46 := K42.nO kV43
  refine ⟨rfl, _, rfl, .int .i64 0, results_cell1 (p := 2) (ty := 31) (by kernel_rfl) _ _ ge 0 (.int .i64 0) _ (by kernel_rfl) Tryz.underlying31 rfl (rc (heV43) (by kernel_rfl)), ?_⟩
  exact ⟨rfl, K46⟩
theorem mCheck_any (m : Msg) (w : World) (hr : m.R) : Calls Tryz.prog 36 #[.agg (Msg.c m)] w (fun e w' => e = .returned (.int .i64 m.chk) ∧ Keeps Nob w w') := by
  unfold Msg.chk
  by_cases hf : m.form
  · rw [if_pos hf]
    by_cases hn : m.items.all (chkIt m) = true
    · rw [if_pos hn]
      by_cases hq : clrAll m = onlyK m.k
      · rw [if_pos hq]; exact mCheck_ok m w hr hf hn hq
      · rw [if_neg hq]; exact mCheck_arg m w hr hf hn hq
    · rw [if_neg hn]; exact mCheck_panic m w hr hf (by simpa using hn)
  · rw [if_neg hf]
    by_cases hk : 1 ≤ m.k ∧ m.k ≤ 11
    · have h8 : m.k = 8 := by
        by_cases h : m.k = 8
        · exact h
        · exact absurd ⟨hk, fun e => absurd e h⟩ hf
      by_cases hp : 1 ≤ m.pf
      · by_cases hp2 : 3 < m.pf
        · exact mCheck_f3 m w hr hk h8 hp hp2
        · exact absurd ⟨hk, fun _ => ⟨hp, by omega⟩⟩ hf
      · exact mCheck_f2 m w hr hk h8 (by omega)
    · exact mCheck_f1 m w hr hk
end Go.Proofs.YtcbfnflnokoacaaGreat
namespace Go.Proofs.YtcbfnflnokoacaaGreat
set_option maxRecDepth 100000
set_option maxHeartbeats 4000000
open Go Go.RowKit Go.Own Go.Shelf
theorem within_split (bs : List (Int × Int × Int)) (i : Nat) (hi : i ≤ bs.length) : (i < bs.length ∧ ∃ b, bs[i]? = some b ∧ b.1 < b.2.1) ∨ (i < bs.length ∧ ∃ b, bs[i]? = some b ∧ ¬ b.1 < b.2.1 ∧ b.2.2 < b.1) ∨ (i < bs.length ∧ ∃ b, bs[i]? = some b ∧ ¬ b.1 < b.2.1 ∧ ¬ b.2.2 < b.1) ∨ i = bs.length := by
  rcases Nat.lt_or_eq_of_le hi with h | h
  · have hb : bs[i]? = some bs[i] := List.getElem?_eq_getElem h
    by_cases h1 : bs[i].1 < bs[i].2.1
    · exact .inl ⟨h, _, hb, h1⟩
    · by_cases h2 : bs[i].2.2 < bs[i].1
      · exact .inr (.inl ⟨h, _, hb, h1, h2⟩)
      · exact .inr (.inr (.inl ⟨h, _, hb, h1, h2⟩))
  · exact .inr (.inr (.inr h))
noncomputable def qc39_2 (n : Nat) : Code := partOf Tryz.f91 n
theorem vwithin_ok (g cap : Nat) (bs : List (Int × Int × Int)) (rest : List Value) (w : World) (h0 : w.heap[g]? = some (.cells (bC bs ++ rest).toArray 131 (0, 0))) (hmax : bs.length ≤ 1000) :
    Calls Tryz.prog 91 #[.slice (some ⟨g, 0, none⟩) bs.length cap] w (fun e w' => e = .returned (.int .i64 (bErr bs)) ∧ Keeps Nob w w') := by
  have K0 : Keeps Nob w w := Keeps.refl _ _
  refine sy_enter (qc39_2 1) ⟨#[.slice (some ⟨g, 0, none⟩) bs.length cap, ud, ud, ud, ud, ud, ud, ud, ud, ud, ud, ud, ud, ud, ud, ud, ud, ud, ud, ud, ud, ud, ud, ud], []⟩ Tryz.func91 (by kernel_rfl) (by kernel_rfl) <| qr_ [0] <| pkq (.int .i64 0) <| eq_ <| qr_ [0, 1, 2] <| pkq (.slice (some ⟨g, 0, none⟩) bs.length cap) <| ppq (iN bs.length) (exec_len (.tmp 5) 156 _ (by kernel_rfl) Tryz.underlying156 (some ⟨g, 0, none⟩) bs.length cap (by kernel_rfl)) <| pkq (.int .i64 0) <| et_ <| b_ 0 ?_
  refine sy_loop (qc39_2 52) (fun a V => ∃ (i : Nat) (u2 u4 u8 u9 u10 u11 u12 u13 u14 u15 u16 u17 u18 u19 u20 u21 u22 u23 : Value), (a = ⟨#[.slice (some ⟨g, 0, none⟩) bs.length cap, ud, u2, ud, u4, .slice (some ⟨g, 0, none⟩) bs.length cap, iN bs.length, iN i, u8, u9, u10, u11, u12, u13, u14, u15, u16, u17, u18, u19, u20, u21, u22, u23], []⟩) ∧ (i ≤ bs.length) ∧ (∀ (k : Nat) (b : Int × Int × Int), k < i → bs[k]? = some b → bIn b = true) ∧ (Keeps Nob w V)) (fun a _ => bs.length - (intOf (a.tmps.getD 7 undef)).toNat) (by kernel_rfl) ?_ ?_
  · exact ⟨0, (.int .i64 0), undef, undef, undef, undef, undef, undef, undef, undef, undef, undef, undef, undef, undef, undef, undef, undef, undef, by kernel_rfl, by omega, (fun k b h => absurd h (Nat.not_lt_zero _)), K0⟩
  · rintro a V1 ⟨i, u2, u4, u8, u9, u10, u11, u12, u13, u14, u15, u16, u17, u18, u19, u20, u21, u22, u23, rfl, hi, hok, K2⟩
    rcases (show (i < bs.length ∧ ∃ b, bs[i]? = some b ∧ b.1 < b.2.1) ∨ (i < bs.length ∧ ∃ b, bs[i]? = some b ∧ ¬ b.1 < b.2.1 ∧ b.2.2 < b.1) ∨ (i < bs.length ∧ ∃ b, bs[i]? = some b ∧ ¬ b.1 < b.2.1 ∧ ¬ b.2.2 < b.1) ∨ i = bs.length from within_split bs i hi) with ⟨lt_i, ⟨n, lo, hi⟩, hb, hlo⟩ | ⟨lt_i, ⟨n, lo, hi⟩, hb, hlo, hhi⟩ | ⟨lt_i, ⟨n, lo, hi⟩, hb, hlo, hhi⟩ | eq_i
    · have hlo : n < lo := hlo
      refine qr_ [0] <| ppq (.bool true) (dct ((((i : Nat) : Int)) < (((bs.length : Nat) : Int))) (by omega)) <| eq_ <| y_ <| s_ <| tq_ <| b_ 1 <| qr_ [0, 1, 2, 3] <| ppq (pT g (i * 3)) (exec_cast (v := pT g (0 + i * 3)) (by simp) (exec_indexAt_slice 156 (.tmp 5) (.tmp 7) (by kernel_rfl) g 0 bs.length cap (by kernel_rfl) .i64 i (by kernel_rfl) _ 3 Tryz.underlying156 (by kernel_rfl) (by omega))) ?_
      refine ppq (.agg #[.int .i64 n, .int .i64 lo, .int .i64 hi]) (exec_load_seg 131 (.tmp 9) (by kernel_rfl) g (i * 3) (by kernel_rfl) [.int .i64 n, .int .i64 lo, .int .i64 hi] _ _ _ ((K2.block g (lt_of_block h0) (fun x => x)).trans h0) (fun j x hx => by rw [List.getElem?_toArray, List.getElem?_append_left (List.getElem?_eq_some_iff.1 (bC_get bs i (n, lo, hi) hb j x hx)).1]; exact bC_get bs i (n, lo, hi) hb j x hx) Tryz.underlying131 rfl (by kernel_rfl)) ?_
      refine pal 131 (#[.int .i64 0, .int .i64 0, .int .i64 0]) (.agg (#[.int .i64 0, .int .i64 0, .int .i64 0])) fun V3 gb egb h4 kV3 => ?_
      have n5 : w.heap.size ≤ gb := egb ▸ K2.size
      have K6 := K2.nn kV3
      have z7 := kV3.size
      refine pst 131 gb (#[.int .i64 n, .int .i64 lo, .int .i64 hi]) h4 (by kernel_rfl) rfl (by kernel_rfl) fun V8 h9 kV8 => ?_
      have K10 := K6.nO kV8
      have z11 := kV8.size
      refine eqr_ [0, 1, 2, 3, 4, 5, 6, 7, 8, 9, 10, 11] <| pkq (pT gb 0) <| ppq (.int .i64 n) (ldk 3 gb 0 h9) <| pkq (pT gb 1) <| ppq (.int .i64 lo) (ldk 3 gb 1 h9) <| ppq (.bool true) (dct (((n) : Int) < ((lo) : Int)) (by omega)) <| pkq (.bool true) <| pnq <| pnq <| pnq <| pnq <| pnq <| pkq (.bool true) <| ey_ ?_
      refine qr_ [0] <| pkq (.int .i64 3) <| eu_ <| blk_r <| then_r <| then_r <| blk_r <| then_r <| so_ (.int .i64 3) ?_
      exact ⟨by rw [bErr_no hb (decide_eq_false (fun h => by have h1 := h.1; have h2 := h.2; simp only at h1 h2; omega))], K10⟩
    · have hlo : ¬ n < lo := hlo
      have hhi : hi < n := hhi
      refine qr_ [0] <| ppq (.bool true) (dct ((((i : Nat) : Int)) < (((bs.length : Nat) : Int))) (by omega)) <| eq_ <| y_ <| s_ <| tq_ <| b_ 1 <| qr_ [0, 1, 2, 3] <| ppq (pT g (i * 3)) (exec_cast (v := pT g (0 + i * 3)) (by simp) (exec_indexAt_slice 156 (.tmp 5) (.tmp 7) (by kernel_rfl) g 0 bs.length cap (by kernel_rfl) .i64 i (by kernel_rfl) _ 3 Tryz.underlying156 (by kernel_rfl) (by omega))) ?_
      refine ppq (.agg #[.int .i64 n, .int .i64 lo, .int .i64 hi]) (exec_load_seg 131 (.tmp 9) (by kernel_rfl) g (i * 3) (by kernel_rfl) [.int .i64 n, .int .i64 lo, .int .i64 hi] _ _ _ ((K2.block g (lt_of_block h0) (fun x => x)).trans h0) (fun j x hx => by rw [List.getElem?_toArray, List.getElem?_append_left (List.getElem?_eq_some_iff.1 (bC_get bs i (n, lo, hi) hb j x hx)).1]; exact bC_get bs i (n, lo, hi) hb j x hx) Tryz.underlying131 rfl (by kernel_rfl)) ?_
      refine pal 131 (#[.int .i64 0, .int .i64 0, .int .i64 0]) (.agg (#[.int .i64 0, .int .i64 0, .int .i64 0])) fun V12 gb egb h13 kV12 => ?_
      have n14 : w.heap.size ≤ gb := egb ▸ K2.size
      have K15 := K2.nn kV12
      have z16 := kV12.size
      refine pst 131 gb (#[.int .i64 n, .int .i64 lo, .int .i64 hi]) h13 (by kernel_rfl) rfl (by kernel_rfl) fun V17 h18 kV17 => ?_
      have K19 := K15.nO kV17
      have z20 := kV17.size
      refine eqr_ [0, 1, 2, 3, 4, 5, 6, 7, 8, 9, 10, 11] <| pkq (pT gb 0) <| ppq (.int .i64 n) (ldk 3 gb 0 h18) <| pkq (pT gb 1) <| ppq (.int .i64 lo) (ldk 3 gb 1 h18) <| ppq (.bool false) (dcf (((n) : Int) < ((lo) : Int)) (by omega)) <| pkq (.bool false) <| pkq (pT gb 0) <| ppq (.int .i64 n) (ldk 3 gb 0 h18) <| pkq (pT gb 2) <| ppq (.int .i64 hi) (ldk 3 gb 2 h18) <| ppq (.bool true) (dct (((n) : Int) > ((hi) : Int)) (by omega)) <| pkq (.bool true) <| ey_ ?_
      refine qr_ [0] <| pkq (.int .i64 3) <| eu_ <| blk_r <| then_r <| then_r <| blk_r <| then_r <| so_ (.int .i64 3) ?_
      exact ⟨by rw [bErr_no hb (decide_eq_false (fun h => by have h1 := h.1; have h2 := h.2; simp only at h1 h2; omega))], K19⟩
    · have hlo : ¬ n < lo := hlo
      have hhi : ¬ hi < n := hhi
      refine qr_ [0] <| ppq (.bool true) (dct ((((i : Nat) : Int)) < (((bs.length : Nat) : Int))) (by omega)) <| eq_ <| y_ <| s_ <| tq_ <| b_ 1 <| qr_ [0, 1, 2, 3] <| ppq (pT g (i * 3)) (exec_cast (v := pT g (0 + i * 3)) (by simp) (exec_indexAt_slice 156 (.tmp 5) (.tmp 7) (by kernel_rfl) g 0 bs.length cap (by kernel_rfl) .i64 i (by kernel_rfl) _ 3 Tryz.underlying156 (by kernel_rfl) (by omega))) ?_
      refine ppq (.agg #[.int .i64 n, .int .i64 lo, .int .i64 hi]) (exec_load_seg 131 (.tmp 9) (by kernel_rfl) g (i * 3) (by kernel_rfl) [.int .i64 n, .int .i64 lo, .int .i64 hi] _ _ _ ((K2.block g (lt_of_block h0) (fun x => x)).trans h0) (fun j x hx => by rw [List.getElem?_toArray, List.getElem?_append_left (List.getElem?_eq_some_iff.1 (bC_get bs i (n, lo, hi) hb j x hx)).1]; exact bC_get bs i (n, lo, hi) hb j x hx) Tryz.underlying131 rfl (by kernel_rfl)) ?_
      refine pal 131 (#[.int .i64 0, .int .i64 0, .int .i64 0]) (.agg (#[.int .i64 0, .int .i64 0, .int .i64 0])) fun V21 gb egb h22 kV21 => ?_
      have n23 : w.heap.size ≤ gb := egb ▸ K2.size
      have K24 := K2.nn kV21
      have z25 := kV21.size
      refine pst 131 gb (#[.int .i64 n, .int .i64 lo, .int .i64 hi]) h22 (by kernel_rfl) rfl (by kernel_rfl) fun V26 h27 kV26 => ?_
      have K28 := K24.nO kV26
      have z29 := kV26.size
      refine eqr_ [0, 1, 2, 3, 4, 5, 6, 7, 8, 9, 10, 11] <| pkq (pT gb 0) <| ppq (.int .i64 n) (ldk 3 gb 0 h27) <| pkq (pT gb 1) <| ppq (.int .i64 lo) (ldk 3 gb 1 h27) <| ppq (.bool false) (dcf (((n) : Int) < ((lo) : Int)) (by omega)) <| pkq (.bool false) <| pkq (pT gb 0) <| ppq (.int .i64 n) (ldk 3 gb 0 h27) <| pkq (pT gb 2) <| ppq (.int .i64 hi) (ldk 3 gb 2 h27) <| ppq (.bool false) (dcf (((n) : Int) > ((hi) : Int)) (by omega)) <| pkq (.bool false) <| en_ ?_
      refine s_ <| blk_n <| tr_ [0, 1] <| ppq (iN (i + 1)) (exec_cast (congrArg (Value.int .i64) (wrapN (i + 1) (by omega))) (by kernel_rfl)) <| pkq (iN (i + 1)) <| et_ ?_
      refine ⟨⟨i + 1, u2, (pT gb 0), (.bool true), (pT g (i * 3)), (.agg #[.int .i64 n, .int .i64 lo, .int .i64 hi]), (pT gb 0), (.int .i64 n), (pT gb 1), (.int .i64 lo), (.bool false), (.bool false), (pT gb 0), (.int .i64 n), (pT gb 2), (.int .i64 hi), (.bool false), (.bool false), (iN (i + 1)), by kernel_rfl, by omega, (fun k b h hk => (by omega : k < i ∨ k = i).elim (fun h => hok k b h hk) (fun h => by subst h; rw [hb] at hk; cases hk; exact decide_eq_true ⟨by omega, by omega⟩)), K28⟩, ?_⟩
      exact lt_meas (x := bs.length - (i + 1)) (y := bs.length - i) (by kernel_rfl) (by kernel_rfl) (by omega)
    · show _
      refine qr_ [0] <| ppq (.bool false) (dcf ((((i : Nat) : Int)) < (((bs.length : Nat) : Int))) (by omega)) <| eq_ <| n_ <| sy_exit 0 (by kernel_rfl) <| then_e <| then_e <| blk_e <| tqr_ [0] <| pkq (.int .i64 0) <| eu_ <| so_ (.int .i64 0) ?_
      exact ⟨by rw [bErr_ok fun k b h => hok k b (by have := (List.getElem?_eq_some_iff.1 h).1; omega) h], K2⟩
noncomputable def qc39_6 (n : Nat) : Code := partOf Tryz.f92 n
theorem vwho_ok (x : Int) (w : World) :
    Calls Tryz.prog 92 #[.int .i64 x] w (fun e w' => e = .returned (.agg #[.int .i64 x, .int .i64 0, .int .i64 31]) ∧ Keeps Nob w w') := by
  have K0 : Keeps Nob w w := Keeps.refl _ _
  refine sy_enter (qc39_6 1) ⟨#[.int .i64 x, ud, ud, ud, ud], []⟩ Tryz.func92 (by kernel_rfl) (by kernel_rfl) <| qr_ [0] <| pal 131 (#[.int .i64 0, .int .i64 0, .int .i64 0]) (.agg (#[.int .i64 0, .int .i64 0, .int .i64 0])) fun V1 gr egr h2 kV1 => ?_
  have n3 : w.heap.size ≤ gr := egr ▸ K0.size
  have K4 := K0.nn kV1
  have z5 := kV1.size
  refine eqr_ [0, 1, 2] <| pkq (.int .i64 x) <| pkq (.agg #[.int .i64 x, .int .i64 0, .int .i64 31]) <| pst 131 gr (#[.int .i64 x, .int .i64 0, .int .i64 31]) h2 (by kernel_rfl) rfl (by kernel_rfl) fun V6 h7 kV6 => ?_
  have K8 := K4.nO kV6
  have z9 := kV6.size
  refine eu_ <| sy_out (.agg (#[.int .i64 x, .int .i64 0, .int .i64 31])) rfl (results_cell_row (p := 2) (ty := 131) (by kernel_rfl) _ _ gr 131 (#[.int .i64 x, .int .i64 0, .int .i64 31]) (0, 0) _ (by kernel_rfl) h7 Tryz.underlying131 rfl (by kernel_rfl)) ?_
  exact ⟨rfl, K8⟩
theorem within_Att (a : Att) {g : Nat} (w : World) (h0 : w.heap[g]? = some (.cells (bC [(a.v, 0, 31), (a.s, 0, 4294967296), (a.t, 0, 4294967296)]).toArray 131 (0, 0))) : Calls Tryz.prog 91 #[.slice (some ⟨g, 0, none⟩) 3 3] w fun e w' => e = .returned (.int .i64 a.err) ∧ Keeps Nob w w' := by
  have := vwithin_ok g 3 [(a.v, 0, 31), (a.s, 0, 4294967296), (a.t, 0, 4294967296)] [] w (by rw [List.append_nil]; exact h0) (by simp)
  rwa [bErr_att] at this
noncomputable def qc39_5 (n : Nat) : Code := partOf Tryz.f66 n
theorem vCheck_ok (a : Att) (w : World) (hr : a.r.length = 32) :
    Calls Tryz.prog 66 #[.agg (Att.c a)] w (fun e w' => e = .returned (.int .i64 a.err) ∧ Keeps Nob w w') := by
  have K0 : Keeps Nob w w := Keeps.refl _ _
  refine sy_enter (qc39_5 1) ⟨#[.agg (Att.c a), ud, ud, ud, ud, ud, ud, ud, ud, ud, ud, ud, ud, ud], []⟩ Tryz.func66 (by kernel_rfl) (by kernel_rfl) <| qr_ [0, 1] <| pbx 26 ((Att.c a)) (.agg (Att.c a)) fun V1 ga ega h2 kV1 => ?_
  have n3 : w.heap.size ≤ ga := ega ▸ K0.size
  have K4 := K0.nn kV1
  have z5 := kV1.size
  refine pkq (.int .i64 0) <| eq_ <| sy_np <| sy_reg <| an_begin 1 12 (opsAt (qc39_5 6)) (fun W => (W.heap[ga]? = some (.cells (Att.c a) 26 (0, 0)))) #[false, false, false, false, false, false, false, false, false, false, false, false] (by kernel_rfl) (by kernel_rfl) (by kernel_rfl) (by kernel_rfl) ?_
  obtain ⟨V6, eV6, kV6⟩ := drew_step V1
  rw [eV6]
  clear eV6
  have h7 := kV6.bk h2
  have K8 := K4.nn kV6
  have z9 := kV6.size
  refine akq 0 (pT ga 0) h7 <| avq 1 (.int .i64 a.v) (fun W hS => ldc 3 ga 0 (rc (hS) (Att.c_0 _))) h7 <| akq 3 (pT ga 1) h7 <| avq 4 (.int .i64 a.s) (fun W hS => ldc 3 ga 1 (rc (hS) (Att.c_1 _))) h7 <| akq 5 (.agg #[.int .i64 a.s, .int .i64 0, .int .i64 4294967296]) h7 <| akq 6 (pT ga 2) h7 <| avq 7 (.int .i64 a.t) (fun W hS => ldc 3 ga 2 (rc (hS) (Att.c_2 _))) h7 <| akq 8 (.agg #[.int .i64 a.t, .int .i64 0, .int .i64 4294967296]) h7 <| an_o 2 ?_
  refine ncq 92 #[.int .i64 a.v] Tryz.func92 ((vwho_ok a.v _).mono ?_)
  rintro e V10 ⟨rfl, kV10⟩
  refine ⟨_, rfl, ?_⟩
  have h11 := kV10.bk h7
  have K12 := K8.nn kV10
  have z13 := kV10.size
  refine ⟨h11, ?_⟩
  refine an_o 9 ?_
  obtain ⟨V14, eV14, gl, egl, h15, kV14⟩ := alloc_step V10 (#[.int .i64 a.v, .int .i64 0, .int .i64 31, .int .i64 a.s, .int .i64 0, .int .i64 4294967296, .int .i64 a.t, .int .i64 0, .int .i64 4294967296]) 131
  have n16 : ga < gl := egl ▸ lt_of_block h11
  have n17 : w.heap.size ≤ gl := egl ▸ K12.size
  refine nrq (.slice (some ⟨gl, 0, none⟩) 3 3) (w' := V14) (by rw [← eV14, ← egl]; kernel_rfl) ?_
  have h18 := kV14.bk h11
  have K19 := K12.nn kV14
  have z20 := kV14.size
  refine ⟨h18, ?_⟩
  refine an_o 10 ?_
  refine ncq 91 #[.slice (some ⟨gl, 0, none⟩) 3 3] Tryz.func91 ((within_Att a _ h15).mono ?_)
  rintro e V21 ⟨rfl, kV21⟩
  refine ⟨_, rfl, ?_⟩
  have h22 := kV21.bk h18
  have K24 := K19.nn kV21
  have z25 := kV21.size
  refine ⟨h22, ?_⟩
  refine an_o 11 <| nrq (.int .i64 a.err) (w' := V21) (by kernel_rfl) ?_
  refine ⟨h22, ?_⟩
  refine an_end (by kernel_rfl) <| then_n <| u_ <| so_ (.int .i64 a.err) ?_
  exact ⟨rfl, K24⟩
theorem within_Pro (a : Pro) {g : Nat} (w : World) (h0 : w.heap[g]? = some (.cells (bC [(a.v, 0, 31), (a.h, 1, 4294967296)]).toArray 131 (0, 0))) : Calls Tryz.prog 91 #[.slice (some ⟨g, 0, none⟩) 2 2] w fun e w' => e = .returned (.int .i64 a.err) ∧ Keeps Nob w w' := by
  have := vwithin_ok g 2 [(a.v, 0, 31), (a.h, 1, 4294967296)] [] w (by rw [List.append_nil]; exact h0) (by simp)
  rwa [bErr_pro] at this
noncomputable def qc39_1 (n : Nat) : Code := partOf Tryz.f73 n
theorem vCheckBlock_ok (a : Pro) (w : World) (hr : a.r.length = 32) :
    Calls Tryz.prog 73 #[.agg (Pro.c a)] w (fun e w' => e = .returned (.int .i64 a.err) ∧ Keeps Nob w w') := by
  have K0 : Keeps Nob w w := Keeps.refl _ _
  refine sy_enter (qc39_1 1) ⟨#[.agg (Pro.c a), ud, ud, ud, ud, ud, ud, ud, ud, ud, ud], []⟩ Tryz.func73 (by kernel_rfl) (by kernel_rfl) <| qr_ [0, 1] <| pbx 28 ((Pro.c a)) (.agg (Pro.c a)) fun V1 ga ega h2 kV1 => ?_
  have n3 : w.heap.size ≤ ga := ega ▸ K0.size
  have K4 := K0.nn kV1
  have z5 := kV1.size
  refine pkq (.int .i64 0) <| eq_ <| sy_np <| sy_reg <| an_begin 1 9 (opsAt (qc39_1 6)) (fun W => (W.heap[ga]? = some (.cells (Pro.c a) 28 (0, 0)))) #[false, false, false, false, false, false, false, false, false] (by kernel_rfl) (by kernel_rfl) (by kernel_rfl) (by kernel_rfl) ?_
  obtain ⟨V6, eV6, kV6⟩ := drew_step V1
  rw [eV6]
  clear eV6
  have h7 := kV6.bk h2
  have K8 := K4.nn kV6
  have z9 := kV6.size
  refine akq 0 (pT ga 0) h7 <| avq 1 (.int .i64 a.v) (fun W hS => ldc 3 ga 0 (rc (hS) (Pro.c_0 _))) h7 <| akq 3 (pT ga 1) h7 <| avq 4 (.int .i64 a.h) (fun W hS => ldc 3 ga 1 (rc (hS) (Pro.c_1 _))) h7 <| akq 5 (.agg #[.int .i64 a.h, .int .i64 1, .int .i64 4294967296]) h7 <| an_o 2 ?_
  refine ncq 92 #[.int .i64 a.v] Tryz.func92 ((vwho_ok a.v _).mono ?_)
  rintro e V10 ⟨rfl, kV10⟩
  refine ⟨_, rfl, ?_⟩
  have h11 := kV10.bk h7
  have K12 := K8.nn kV10
  have z13 := kV10.size
  refine ⟨h11, ?_⟩
  refine an_o 6 ?_
  obtain ⟨V14, eV14, gl, egl, h15, kV14⟩ := alloc_step V10 (#[.int .i64 a.v, .int .i64 0, .int .i64 31, .int .i64 a.h, .int .i64 1, .int .i64 4294967296]) 131
  have n16 : ga < gl := egl ▸ lt_of_block h11
  have n17 : w.heap.size ≤ gl := egl ▸ K12.size
  refine nrq (.slice (some ⟨gl, 0, none⟩) 2 2) (w' := V14) (by rw [← eV14, ← egl]; kernel_rfl) ?_
  have h18 := kV14.bk h11
  have K19 := K12.nn kV14
  have z20 := kV14.size
  refine ⟨h18, ?_⟩
  refine an_o 7 ?_
  refine ncq 91 #[.slice (some ⟨gl, 0, none⟩) 2 2] Tryz.func91 ((within_Pro a _ h15).mono ?_)
  rintro e V21 ⟨rfl, kV21⟩
  refine ⟨_, rfl, ?_⟩
  have h22 := kV21.bk h18
  have K24 := K19.nn kV21
  have z25 := kV21.size
  refine ⟨h22, ?_⟩
  refine an_o 8 <| nrq (.int .i64 a.err) (w' := V21) (by kernel_rfl) ?_
  refine ⟨h22, ?_⟩
  refine an_end (by kernel_rfl) <| then_n <| u_ <| so_ (.int .i64 a.err) ?_
  exact ⟨rfl, K24⟩
noncomputable def qc39_4 (n : Nat) : Code := partOf Tryz.f100 n
theorem rwithin_0 (n lo hi : Int) (w : World) (h : n < lo) :
    Calls Tryz.prog 100 #[.int .i64 n, .int .i64 lo, .int .i64 hi] w (fun e w' => e = .returned (.bool false) ∧ w = w') := by
  have K0 : Keeps Nob w w := Keeps.refl _ _
  refine sy_enter (qc39_4 1) ⟨#[.int .i64 n, .int .i64 lo, .int .i64 hi, ud, ud, ud, ud, ud, ud, ud, ud, ud, ud, ud, ud], []⟩ Tryz.func100 (by kernel_rfl) (by kernel_rfl) <| qr_ [0] <| pkq (.bool false) <| eqr_ [0, 1, 2, 3, 4, 5, 6, 7, 8] <| pkq (.int .i64 n) <| pkq (.int .i64 lo) <| ppq (.bool false) (dcf (((n) : Int) ≥ ((lo) : Int)) (by omega)) <| pkq (.bool false) <| pnq <| pnq <| pnq <| pkq (.bool false) <| pkq (.bool false) <| eu_ ?_
  refine so_ (.bool false) ?_
  exact ⟨rfl, rfl⟩
theorem rwithin_1 (n lo hi : Int) (w : World) (h : lo ≤ n) (h2 : hi < n) :
    Calls Tryz.prog 100 #[.int .i64 n, .int .i64 lo, .int .i64 hi] w (fun e w' => e = .returned (.bool false) ∧ w = w') := by
  have K0 : Keeps Nob w w := Keeps.refl _ _
  refine sy_enter (qc39_4 1) ⟨#[.int .i64 n, .int .i64 lo, .int .i64 hi, ud, ud, ud, ud, ud, ud, ud, ud, ud, ud, ud, ud], []⟩ Tryz.func100 (by kernel_rfl) (by kernel_rfl) <| qr_ [0] <| pkq (.bool false) <| eqr_ [0, 1, 2, 3, 4, 5, 6, 7, 8] <| pkq (.int .i64 n) <| pkq (.int .i64 lo) <| ppq (.bool true) (dct (((n) : Int) ≥ ((lo) : Int)) (by omega)) <| pkq (.bool true) <| pkq (.int .i64 n) <| pkq (.int .i64 hi) <| ppq (.bool false) (dcf (((n) : Int) ≤ ((hi) : Int)) (by omega)) <| pkq (.bool false) <| pkq (.bool false) <| eu_ ?_
  refine so_ (.bool false) ?_
  exact ⟨rfl, rfl⟩
theorem rwithin_2 (n lo hi : Int) (w : World) (h : lo ≤ n) (h2 : n ≤ hi) :
    Calls Tryz.prog 100 #[.int .i64 n, .int .i64 lo, .int .i64 hi] w (fun e w' => e = .returned (.bool true) ∧ w = w') := by
  have K0 : Keeps Nob w w := Keeps.refl _ _
  refine sy_enter (qc39_4 1) ⟨#[.int .i64 n, .int .i64 lo, .int .i64 hi, ud, ud, ud, ud, ud, ud, ud, ud, ud, ud, ud, ud], []⟩ Tryz.func100 (by kernel_rfl) (by kernel_rfl) <| qr_ [0] <| pkq (.bool false) <| eqr_ [0, 1, 2, 3, 4, 5, 6, 7, 8] <| pkq (.int .i64 n) <| pkq (.int .i64 lo) <| ppq (.bool true) (dct (((n) : Int) ≥ ((lo) : Int)) (by omega)) <| pkq (.bool true) <| pkq (.int .i64 n) <| pkq (.int .i64 hi) <| ppq (.bool true) (dct (((n) : Int) ≤ ((hi) : Int)) (by omega)) <| pkq (.bool true) <| pkq (.bool true) <| eu_ ?_
  refine so_ (.bool true) ?_
  exact ⟨rfl, rfl⟩
theorem rwithin_yes (n lo hi : Int) (w : World) (h : lo ≤ n ∧ n ≤ hi) : Calls Tryz.prog 100 #[.int .i64 n, .int .i64 lo, .int .i64 hi] w fun e w' => e = .returned (.bool true) ∧ w = w' := rwithin_2 n lo hi w h.1 h.2
theorem rwithin_no (n lo hi : Int) (w : World) (h : ¬ (lo ≤ n ∧ n ≤ hi)) : Calls Tryz.prog 100 #[.int .i64 n, .int .i64 lo, .int .i64 hi] w fun e w' => e = .returned (.bool false) ∧ w = w' := by
  by_cases h1 : n < lo
  · exact rwithin_0 n lo hi w h1
  · exact rwithin_1 n lo hi w (by omega) (by omega)
noncomputable def qc39_3 (n : Nat) : Code := partOf Tryz.f77 n
theorem rvCheck_0 (a : Att) (w : World) (hr : a.r.length = 32) (c0 : ¬ (0 ≤ a.v ∧ a.v ≤ 31)) :
    Calls Tryz.prog 77 #[.agg (Att.c a)] w (fun e w' => e = .returned (.int .i64 a.err) ∧ Keeps Nob w w') := by
  have K0 : Keeps Nob w w := Keeps.refl _ _
  refine sy_enter (qc39_3 1) ⟨#[.agg (Att.c a), ud, ud, ud, ud, ud, ud, ud, ud, ud, ud, ud, ud, ud, ud, ud, ud, ud, ud], []⟩ Tryz.func77 (by kernel_rfl) (by kernel_rfl) <| qr_ [0, 1] <| pbx 26 ((Att.c a)) (.agg (Att.c a)) fun V1 ga ega h2 kV1 => ?_
  have n3 : w.heap.size ≤ ga := ega ▸ K0.size
  have K4 := K0.nn kV1
  have z5 := kV1.size
  refine pkq (.int .i64 0) <| eq_ <| qr_ [0, 1, 2, 3, 4, 5, 6, 7, 8, 9, 10, 11, 12, 13, 14, 15] <| pkq (pT ga 0) <| ppq (.int .i64 a.v) (ldc 3 ga 0 (rc (h2) (Att.c_0 _))) ?_
  refine pcq 100 #[.int .i64 a.v, .int .i64 0, .int .i64 31] Tryz.func100 ((rwithin_no a.v 0 31 _ c0).mono ?_)
  rintro e w1 ⟨rfl, rfl⟩
  refine ⟨_, rfl, ?_⟩
  refine pkq (.bool true) <| pkq (.bool true) <| pnq <| pnq <| pnq <| pnq <| pkq (.bool true) <| pkq (.bool true) <| pnq <| pnq <| pnq <| pnq <| pkq (.bool true) <| ey_ ?_
  refine qr_ [0] <| pkq (.int .i64 3) <| eu_ <| then_r <| so_ (.int .i64 3) ?_
  exact ⟨by rw [Att.err_no (by unfold Att.fine; omega)], K4⟩
theorem rvCheck_1 (a : Att) (w : World) (hr : a.r.length = 32) (c0 : (0 ≤ a.v ∧ a.v ≤ 31)) (c1 : ¬ (0 ≤ a.s ∧ a.s ≤ 4294967296)) :
    Calls Tryz.prog 77 #[.agg (Att.c a)] w (fun e w' => e = .returned (.int .i64 a.err) ∧ Keeps Nob w w') := by
  have K0 : Keeps Nob w w := Keeps.refl _ _
  refine sy_enter (qc39_3 1) ⟨#[.agg (Att.c a), ud, ud, ud, ud, ud, ud, ud, ud, ud, ud, ud, ud, ud, ud, ud, ud, ud, ud], []⟩ Tryz.func77 (by kernel_rfl) (by kernel_rfl) <| qr_ [0, 1] <| pbx 26 ((Att.c a)) (.agg (Att.c a)) fun V1 ga ega h2 kV1 => ?_
  have n3 : w.heap.size ≤ ga := ega ▸ K0.size
  have K4 := K0.nn kV1
  have z5 := kV1.size
  refine pkq (.int .i64 0) <| eq_ <| qr_ [0, 1, 2, 3, 4, 5, 6, 7, 8, 9, 10, 11, 12, 13, 14, 15] <| pkq (pT ga 0) <| ppq (.int .i64 a.v) (ldc 3 ga 0 (rc (h2) (Att.c_0 _))) ?_
  refine pcq 100 #[.int .i64 a.v, .int .i64 0, .int .i64 31] Tryz.func100 ((rwithin_yes a.v 0 31 _ c0).mono ?_)
  rintro e w1 ⟨rfl, rfl⟩
  refine ⟨_, rfl, ?_⟩
  refine pkq (.bool false) <| pkq (.bool false) <| pkq (pT ga 1) <| ppq (.int .i64 a.s) (ldc 3 ga 1 (rc (h2) (Att.c_1 _))) ?_
  refine pcq 100 #[.int .i64 a.s, .int .i64 0, .int .i64 4294967296] Tryz.func100 ((rwithin_no a.s 0 4294967296 _ c1).mono ?_)
  rintro e w1 ⟨rfl, rfl⟩
  refine ⟨_, rfl, ?_⟩
  refine pkq (.bool true) <| pkq (.bool true) <| pkq (.bool true) <| pnq <| pnq <| pnq <| pnq <| pkq (.bool true) <| ey_ <| qr_ [0] <| pkq (.int .i64 3) <| eu_ <| then_r <| so_ (.int .i64 3) ?_
  exact ⟨by rw [Att.err_no (by unfold Att.fine; omega)], K4⟩
theorem rvCheck_2 (a : Att) (w : World) (hr : a.r.length = 32) (c0 : (0 ≤ a.v ∧ a.v ≤ 31)) (c1 : (0 ≤ a.s ∧ a.s ≤ 4294967296)) (c2 : ¬ (0 ≤ a.t ∧ a.t ≤ 4294967296)) :
    Calls Tryz.prog 77 #[.agg (Att.c a)] w (fun e w' => e = .returned (.int .i64 a.err) ∧ Keeps Nob w w') := by
  have K0 : Keeps Nob w w := Keeps.refl _ _
  refine sy_enter (qc39_3 1) ⟨#[.agg (Att.c a), ud, ud, ud, ud, ud, ud, ud, ud, ud, ud, ud, ud, ud, ud, ud, ud, ud, ud], []⟩ Tryz.func77 (by kernel_rfl) (by kernel_rfl) <| qr_ [0, 1] <| pbx 26 ((Att.c a)) (.agg (Att.c a)) fun V1 ga ega h2 kV1 => ?_
  have n3 : w.heap.size ≤ ga := ega ▸ K0.size
  have K4 := K0.nn kV1
  have z5 := kV1.size
  refine pkq (.int .i64 0) <| eq_ <| qr_ [0, 1, 2, 3, 4, 5, 6, 7, 8, 9, 10, 11, 12, 13, 14, 15] <| pkq (pT ga 0) <| ppq (.int .i64 a.v) (ldc 3 ga 0 (rc (h2) (Att.c_0 _))) ?_
  refine pcq 100 #[.int .i64 a.v, .int .i64 0, .int .i64 31] Tryz.func100 ((rwithin_yes a.v 0 31 _ c0).mono ?_)
  rintro e w1 ⟨rfl, rfl⟩
  refine ⟨_, rfl, ?_⟩
  refine pkq (.bool false) <| pkq (.bool false) <| pkq (pT ga 1) <| ppq (.int .i64 a.s) (ldc 3 ga 1 (rc (h2) (Att.c_1 _))) ?_
  refine pcq 100 #[.int .i64 a.s, .int .i64 0, .int .i64 4294967296] Tryz.func100 ((rwithin_yes a.s 0 4294967296 _ c1).mono ?_)
  rintro e w1 ⟨rfl, rfl⟩
  refine ⟨_, rfl, ?_⟩
  refine pkq (.bool false) <| pkq (.bool false) <| pkq (.bool false) <| pkq (pT ga 2) <| ppq (.int .i64 a.t) (ldc 3 ga 2 (rc (h2) (Att.c_2 _))) ?_
  refine pcq 100 #[.int .i64 a.t, .int .i64 0, .int .i64 4294967296] Tryz.func100 ((rwithin_no a.t 0 4294967296 _ c2).mono ?_)
  rintro e w1 ⟨rfl, rfl⟩
  refine ⟨_, rfl, ?_⟩
  refine pkq (.bool true) <| pkq (.bool true) <| ey_ <| qr_ [0] <| pkq (.int .i64 3) <| eu_ <| then_r <| so_ (.int .i64 3) ?_
  exact ⟨by rw [Att.err_no (by unfold Att.fine; omega)], K4⟩
theorem rvCheck_3 (a : Att) (w : World) (hr : a.r.length = 32) (c0 : (0 ≤ a.v ∧ a.v ≤ 31)) (c1 : (0 ≤ a.s ∧ a.s ≤ 4294967296)) (c2 : (0 ≤ a.t ∧ a.t ≤ 4294967296)) :
    Calls Tryz.prog 77 #[.agg (Att.c a)] w (fun e w' => e = .returned (.int .i64 a.err) ∧ Keeps Nob w w') := by
  have K0 : Keeps Nob w w := Keeps.refl _ _
  refine sy_enter (qc39_3 1) ⟨#[.agg (Att.c a), ud, ud, ud, ud, ud, ud, ud, ud, ud, ud, ud, ud, ud, ud, ud, ud, ud, ud], []⟩ Tryz.func77 (by kernel_rfl) (by kernel_rfl) <| qr_ [0, 1] <| pbx 26 ((Att.c a)) (.agg (Att.c a)) fun V1 ga ega h2 kV1 => ?_
  have n3 : w.heap.size ≤ ga := ega ▸ K0.size
  have K4 := K0.nn kV1
  have z5 := kV1.size
  refine pkq (.int .i64 0) <| eq_ <| qr_ [0, 1, 2, 3, 4, 5, 6, 7, 8, 9, 10, 11, 12, 13, 14, 15] <| pkq (pT ga 0) <| ppq (.int .i64 a.v) (ldc 3 ga 0 (rc (h2) (Att.c_0 _))) ?_
  refine pcq 100 #[.int .i64 a.v, .int .i64 0, .int .i64 31] Tryz.func100 ((rwithin_yes a.v 0 31 _ c0).mono ?_)
  rintro e w1 ⟨rfl, rfl⟩
  refine ⟨_, rfl, ?_⟩
  refine pkq (.bool false) <| pkq (.bool false) <| pkq (pT ga 1) <| ppq (.int .i64 a.s) (ldc 3 ga 1 (rc (h2) (Att.c_1 _))) ?_
  refine pcq 100 #[.int .i64 a.s, .int .i64 0, .int .i64 4294967296] Tryz.func100 ((rwithin_yes a.s 0 4294967296 _ c1).mono ?_)
  rintro e w1 ⟨rfl, rfl⟩
  refine ⟨_, rfl, ?_⟩
  refine pkq (.bool false) <| pkq (.bool false) <| pkq (.bool false) <| pkq (pT ga 2) <| ppq (.int .i64 a.t) (ldc 3 ga 2 (rc (h2) (Att.c_2 _))) ?_
  refine pcq 100 #[.int .i64 a.t, .int .i64 0, .int .i64 4294967296] Tryz.func100 ((rwithin_yes a.t 0 4294967296 _ c2).mono ?_)
  rintro e w1 ⟨rfl, rfl⟩
  refine ⟨_, rfl, ?_⟩
  refine pkq (.bool false) <| pkq (.bool false) <| en_ <| s_ <| tqr_ [0] <| pkq (.int .i64 0) <| eu_ <| so_ (.int .i64 0) ?_
  exact ⟨by rw [Att.err_ok (by unfold Att.fine; omega)], K4⟩
theorem rvCheck_ok (a : Att) (w : World) (hr : a.r.length = 32) : Calls Tryz.prog 77 #[.agg (Att.c a)] w fun e w' => e = .returned (.int .i64 a.err) ∧ Keeps Nob w w' := by
  by_cases c0 : (0 ≤ a.v ∧ a.v ≤ 31)
  case neg => exact rvCheck_0 a w hr c0
  by_cases c1 : (0 ≤ a.s ∧ a.s ≤ 4294967296)
  case neg => exact rvCheck_1 a w hr c0 c1
  by_cases c2 : (0 ≤ a.t ∧ a.t ≤ 4294967296)
  case neg => exact rvCheck_2 a w hr c0 c1 c2
  exact rvCheck_3 a w hr c0 c1 c2
noncomputable def qc39_0 (n : Nat) : Code := partOf Tryz.f80 n
theorem rvCheckBlock_0 (a : Pro) (w : World) (hr : a.r.length = 32) (c0 : ¬ (0 ≤ a.v ∧ a.v ≤ 31)) :
    Calls Tryz.prog 80 #[.agg (Pro.c a)] w (fun e w' => e = .returned (.int .i64 a.err) ∧ Keeps Nob w w') := by
  have K0 : Keeps Nob w w := Keeps.refl _ _
  refine sy_enter (qc39_0 1) ⟨#[.agg (Pro.c a), ud, ud, ud, ud, ud, ud, ud, ud, ud, ud, ud, ud], []⟩ Tryz.func80 (by kernel_rfl) (by kernel_rfl) <| qr_ [0, 1] <| pbx 28 ((Pro.c a)) (.agg (Pro.c a)) fun V1 ga ega h2 kV1 => ?_
  have n3 : w.heap.size ≤ ga := ega ▸ K0.size
  have K4 := K0.nn kV1
  have z5 := kV1.size
  refine pkq (.int .i64 0) <| eq_ <| qr_ [0, 1, 2, 3, 4, 5, 6, 7, 8, 9] <| pkq (pT ga 0) <| ppq (.int .i64 a.v) (ldc 3 ga 0 (rc (h2) (Pro.c_0 _))) ?_
  refine pcq 100 #[.int .i64 a.v, .int .i64 0, .int .i64 31] Tryz.func100 ((rwithin_no a.v 0 31 _ c0).mono ?_)
  rintro e w1 ⟨rfl, rfl⟩
  refine ⟨_, rfl, ?_⟩
  refine pkq (.bool true) <| pkq (.bool true) <| pnq <| pnq <| pnq <| pnq <| pkq (.bool true) <| ey_ <| qr_ [0] <| pkq (.int .i64 3) <| eu_ <| then_r <| so_ (.int .i64 3) ?_
  exact ⟨by rw [Pro.err_no (by unfold Pro.fine; omega)], K4⟩
theorem rvCheckBlock_1 (a : Pro) (w : World) (hr : a.r.length = 32) (c0 : (0 ≤ a.v ∧ a.v ≤ 31)) (c1 : ¬ (1 ≤ a.h ∧ a.h ≤ 4294967296)) :
    Calls Tryz.prog 80 #[.agg (Pro.c a)] w (fun e w' => e = .returned (.int .i64 a.err) ∧ Keeps Nob w w') := by
  have K0 : Keeps Nob w w := Keeps.refl _ _
  refine sy_enter (qc39_0 1) ⟨#[.agg (Pro.c a), ud, ud, ud, ud, ud, ud, ud, ud, ud, ud, ud, ud], []⟩ Tryz.func80 (by kernel_rfl) (by kernel_rfl) <| qr_ [0, 1] <| pbx 28 ((Pro.c a)) (.agg (Pro.c a)) fun V1 ga ega h2 kV1 => ?_
  have n3 : w.heap.size ≤ ga := ega ▸ K0.size
  have K4 := K0.nn kV1
  have z5 := kV1.size
  refine pkq (.int .i64 0) <| eq_ <| qr_ [0, 1, 2, 3, 4, 5, 6, 7, 8, 9] <| pkq (pT ga 0) <| ppq (.int .i64 a.v) (ldc 3 ga 0 (rc (h2) (Pro.c_0 _))) ?_
  refine pcq 100 #[.int .i64 a.v, .int .i64 0, .int .i64 31] Tryz.func100 ((rwithin_yes a.v 0 31 _ c0).mono ?_)
  rintro e w1 ⟨rfl, rfl⟩
  refine ⟨_, rfl, ?_⟩
  refine pkq (.bool false) <| pkq (.bool false) <| pkq (pT ga 1) <| ppq (.int .i64 a.h) (ldc 3 ga 1 (rc (h2) (Pro.c_1 _))) ?_
  refine pcq 100 #[.int .i64 a.h, .int .i64 1, .int .i64 4294967296] Tryz.func100 ((rwithin_no a.h 1 4294967296 _ c1).mono ?_)
  rintro e w1 ⟨rfl, rfl⟩
  refine ⟨_, rfl, ?_⟩
  refine pkq (.bool true) <| pkq (.bool true) <| ey_ <| qr_ [0] <| pkq (.int .i64 3) <| eu_ <| then_r <| so_ (.int .i64 3) ?_
  exact ⟨by rw [Pro.err_no (by unfold Pro.fine; omega)], K4⟩
theorem rvCheckBlock_2 (a : Pro) (w : World) (hr : a.r.length = 32) (c0 : (0 ≤ a.v ∧ a.v ≤ 31)) (c1 : (1 ≤ a.h ∧ a.h ≤ 4294967296)) :
    Calls Tryz.prog 80 #[.agg (Pro.c a)] w (fun e w' => e = .returned (.int .i64 a.err) ∧ Keeps Nob w w') := by
  have K0 : Keeps Nob w w := Keeps.refl _ _
  refine sy_enter (qc39_0 1) ⟨#[.agg (Pro.c a), ud, ud, ud, ud, ud, ud, ud, ud, ud, ud, ud, ud], []⟩ Tryz.func80 (by kernel_rfl) (by kernel_rfl) <| qr_ [0, 1] <| pbx 28 ((Pro.c a)) (.agg (Pro.c a)) fun V1 ga ega h2 kV1 => ?_
  have n3 : w.heap.size ≤ ga := ega ▸ K0.size
  have K4 := K0.nn kV1
  have z5 := kV1.size
  refine pkq (.int .i64 0) <| eq_ <| qr_ [0, 1, 2, 3, 4, 5, 6, 7, 8, 9] <| pkq (pT ga 0) <| ppq (.int .i64 a.v) (ldc 3 ga 0 (rc (h2) (Pro.c_0 _))) ?_
  refine pcq 100 #[.int .i64 a.v, .int .i64 0, .int .i64 31] Tryz.func100 ((rwithin_yes a.v 0 31 _ c0).mono ?_)
  rintro e w1 ⟨rfl, rfl⟩
  refine ⟨_, rfl, ?_⟩
  refine pkq (.bool false) <| pkq (.bool false) <| pkq (pT ga 1) <| ppq (.int .i64 a.h) (ldc 3 ga 1 (rc (h2) (Pro.c_1 _))) ?_
  refine pcq 100 #[.int .i64 a.h, .int .i64 1, .int .i64 4294967296] Tryz.func100 ((rwithin_yes a.h 1 4294967296 _ c1).mono ?_)
  rintro e w1 ⟨rfl, rfl⟩
  refine ⟨_, rfl, ?_⟩
  refine pkq (.bool false) <| pkq (.bool false) <| en_ <| s_ <| tqr_ [0] <| pkq (.int .i64 0) <| eu_ <| so_ (.int .i64 0) ?_
  exact ⟨by rw [Pro.err_ok (by unfold Pro.fine; omega)], K4⟩
theorem rvCheckBlock_ok (a : Pro) (w : World) (hr : a.r.length = 32) : Calls Tryz.prog 80 #[.agg (Pro.c a)] w fun e w' => e = .returned (.int .i64 a.err) ∧ Keeps Nob w w' := by
  by_cases c0 : (0 ≤ a.v ∧ a.v ≤ 31)
  case neg => exact rvCheckBlock_0 a w hr c0
  by_cases c1 : (1 ≤ a.h ∧ a.h ≤ 4294967296)
  case neg => exact rvCheckBlock_1 a w hr c0 c1
  exact rvCheckBlock_2 a w hr c0 c1
end Go.Proofs.YtcbfnflnokoacaaGreat
namespace Go.Proofs.YtcbfnflnokoacaaGreat
set_option maxRecDepth 100000
set_option maxHeartbeats 4000000
open Go Go.RowKit Go.Own Go.Shelf
/-- What is written of a vote. -/
inductive Thg | n (x : Int) | h (r : List UInt8) | u (k : Nat)
def Thg.by : Thg → List UInt8
  | .n x => Cod.enc x.toNat
  | .h r => r
  | .u k => Cod.enc k
def Thg.Ok : Thg → Prop
  | .n x => 0 ≤ x ∧ x ≤ 9223372036854775807
  | .h r => r.length = 32
  | .u k => k < 2 ^ 64
def ThgAt (W : World) (V : Value) : Thg → Prop
  | .n x => ∃ g, V = .func (.func 130) #[] #[.pointer (some ⟨g, 0, none⟩)] ∧ W.heap[g]? = some (.cells #[.int .i64 x] 3 (0, 0))
  | .h r => ∃ g, V = .func (.func 132) #[] #[.pointer (some ⟨g, 0, none⟩)] ∧ W.heap[g]? = some (.cells (B r).toArray 23 (0, 0))
  | .u k => ∃ g, V = .func (.func 134) #[] #[.pointer (some ⟨g, 0, none⟩)] ∧ W.heap[g]? = some (.cells #[.int .u64 ((k : Nat) : Int)] 24 (0, 0))
theorem ThgAt.keeps {W W' : World} {M : Nat → Prop} {V : Value} {t : Thg} (h : ThgAt W V t) (k : Keeps M W W') (hm : ∀ j cs T fr, W.heap[j]? = some (.cells cs T fr) → T = 3 ∨ T = 23 ∨ T = 24 → ¬ M j) : ThgAt W' V t := by
  cases t <;> obtain ⟨g, e, hg⟩ := h
  · exact ⟨g, e, (k.block g (lt_of_block hg) (hm g _ _ _ hg (.inl rfl))).trans hg⟩
  · exact ⟨g, e, (k.block g (lt_of_block hg) (hm g _ _ _ hg (.inr (.inl rfl)))).trans hg⟩
  · exact ⟨g, e, (k.block g (lt_of_block hg) (hm g _ _ _ hg (.inr (.inr rfl)))).trans hg⟩
theorem ThgAt.one {W : World} {V : Value} {t : Thg} (h : ThgAt W V t) : V.oneCell' = true := by
  cases t <;> obtain ⟨g, rfl, hg⟩ := h <;> rfl
/-- Things, one by one. -/
def ThsAt (W : World) (vs : List Value) (ts : List Thg) : Prop := vs.length = ts.length ∧ ∀ (k : Nat) (V : Value) (t : Thg), vs[k]? = some V → ts[k]? = some t → ThgAt W V t
theorem ThsAt.keepsN {W W' : World} {vs : List Value} {ts : List Thg} (h : ThsAt W vs ts) (k : Keeps Nob W W') : ThsAt W' vs ts := ⟨h.1, fun i V t hv ht => (h.2 i V t hv ht).keeps k (fun _ _ _ _ _ _ x => x)⟩
theorem ThsAt.nil (W : World) : ThsAt W [] [] := ⟨rfl, fun k V t h => by simp at h⟩
theorem ThsAt.cons {W : World} {V : Value} {t : Thg} {vs : List Value} {ts : List Thg} (h : ThgAt W V t) (hs : ThsAt W vs ts) : ThsAt W (V :: vs) (t :: ts) := ⟨by simp [hs.1], fun k U u hU hu => by
  cases k with
  | zero => simp at hU hu; subst hU; subst hu; exact h
  | succ k => exact hs.2 k U u (by simpa using hU) (by simpa using hu)⟩
def byt (ts : List Thg) (i : Nat) : List UInt8 := (ts.take i).flatMap Thg.by
def allb (ts : List Thg) : List UInt8 := ts.flatMap Thg.by
theorem byt_succ {ts : List Thg} {i : Nat} {t : Thg} (h : ts[i]? = some t) : byt ts (i + 1) = byt ts i ++ t.by := by unfold byt; rw [List.take_add_one, h]; simp
theorem byt_all (ts : List Thg) : byt ts ts.length = allb ts := by unfold byt allb; rw [List.take_length]
theorem byt_le (ts : List Thg) (i : Nat) : (byt ts i).length ≤ (allb ts).length := by
  unfold byt allb
  conv => rhs; rw [← List.take_append_drop i ts, List.flatMap_append, List.length_append]
  omega
theorem add_ok {out bs : List UInt8} (h : out.length + bs.length ≤ 4096) : (⟨4096, out, 0⟩ : WS).add bs = ⟨4096, out ++ bs, 0⟩ := by
  unfold WS.add
  rw [if_pos rfl, if_neg (by simp only; omega)]
theorem ths_split {w : World} {vs : List Value} {ts : List Thg} (h : ThsAt w vs ts) (hok : ∀ (k : Nat) (t : Thg), ts[k]? = some t → t.Ok) (i : Nat) (hi : i ≤ ts.length) :
    (i < ts.length ∧ ∃ x gk, ts[i]? = some (.n x) ∧ (0 ≤ x ∧ x ≤ 9223372036854775807) ∧ vs[i]? = some (.func (.func 130) #[] #[.pointer (some ⟨gk, 0, none⟩)]) ∧ w.heap[gk]? = some (.cells #[.int .i64 x] 3 (0, 0))) ∨
    (i < ts.length ∧ ∃ r gk, ts[i]? = some (.h r) ∧ r.length = 32 ∧ vs[i]? = some (.func (.func 132) #[] #[.pointer (some ⟨gk, 0, none⟩)]) ∧ w.heap[gk]? = some (.cells (B r).toArray 23 (0, 0))) ∨
    (i < ts.length ∧ ∃ k gk, ts[i]? = some (.u k) ∧ k < 2 ^ 64 ∧ vs[i]? = some (.func (.func 134) #[] #[.pointer (some ⟨gk, 0, none⟩)]) ∧ w.heap[gk]? = some (.cells #[.int .u64 ((k : Nat) : Int)] 24 (0, 0))) ∨ i = ts.length := by
  rcases Nat.lt_or_eq_of_le hi with hl | hl
  · obtain ⟨V, hV⟩ : ∃ V, vs[i]? = some V := ⟨_, List.getElem?_eq_getElem (by rw [h.1]; exact hl)⟩
    obtain ⟨t, ht⟩ : ∃ t, ts[i]? = some t := ⟨_, List.getElem?_eq_getElem hl⟩
    have hT := h.2 i V t hV ht
    have hO := hok i t ht
    cases t with
    | n x => obtain ⟨g, rfl, hg⟩ := hT; exact .inl ⟨hl, x, g, ht, hO, hV, hg⟩
    | h r => obtain ⟨g, rfl, hg⟩ := hT; exact .inr (.inl ⟨hl, r, g, ht, hO, hV, hg⟩)
    | u k => obtain ⟨g, rfl, hg⟩ := hT; exact .inr (.inr (.inl ⟨hl, k, g, ht, hO, hV, hg⟩))
  · exact .inr (.inr (.inr hl))
theorem row_cast {w : World} {t : TypeId} {v : Value} {n : Nat} {x y z : List UInt8} (h : Row w t 1 v n (B x ++ B y)) (e : x ++ y = z) (hn : n = z.length) : Row w t 1 v z.length (B z) := by
  subst hn; rw [← B_append, e] at h; exact h
theorem hd_get {vs rest : List Value} {i : Nat} {V : Value} (h : vs[i]? = some V) : (vs ++ rest).toArray[i]? = some V := by
  rw [List.getElem?_toArray, List.getElem?_append_left (List.getElem?_eq_some_iff.1 h).1]; exact h
noncomputable def qc40_6 (n : Nat) : Code := partOf Tryz.f97 n
theorem vnum_ok (x : Int) (w : World) :
    Calls Tryz.prog 97 #[.int .i64 x] w (fun e w' => ∃ g, e = .returned (.func (.func 130) #[] #[.pointer (some ⟨g, 0, none⟩)]) ∧ w'.heap[g]? = some (.cells #[.int .i64 x] 3 (0, 0)) ∧ w.heap.size ≤ g ∧ Keeps Nob w w') := by
  have K0 : Keeps Nob w w := Keeps.refl _ _
  refine sy_enter (qc40_6 1) ⟨#[.int .i64 x, ud, ud, ud], []⟩ Tryz.func97 (by kernel_rfl) (by kernel_rfl) <| qr_ [0, 1] <| pbx 3 (#[.int .i64 x]) (.int .i64 x) fun V1 g eg h2 kV1 => ?_
  have n3 : w.heap.size ≤ g := eg ▸ K0.size
  have K4 := K0.nn kV1
  have z5 := kV1.size
  refine pkq (.nilFunc) <| eqr_ [0, 1] <| pkq (.func (.func 130) #[] #[pT g 0]) <| pkq (.func (.func 130) #[] #[pT g 0]) <| eu_ <| so_ (.func (.func 130) #[] #[.pointer (some ⟨g, 0, none⟩)]) ?_
  exact ⟨g, rfl, h2, by omega, K4⟩
noncomputable def qc40_3 (n : Nat) : Code := partOf Tryz.f130 n
theorem vnum1_ok (b g : Nat) (x : Int) (F0 : Nat → Prop) (out : List UInt8) (w : World) (hw : Wr w F0 b ⟨4096, out, 0⟩) (hg : w.heap[g]? = some (.cells #[.int .i64 x] 3 (0, 0))) (hx : 0 ≤ x ∧ x ≤ 9223372036854775807) (hl : out.length + (Cod.enc x.toNat).length ≤ 4096) :
    Calls Tryz.prog 130 #[.pointer (some ⟨b, 0, none⟩), .pointer (some ⟨g, 0, none⟩)] w (fun e w' => e = .returned (.int .i64 0) ∧ ∃ F', Wr w' F' b ⟨4096, out ++ (Cod.enc x.toNat), 0⟩ ∧ Step w w' F0 F') := by
  have K0 : Keeps F0 w w := Keeps.refl _ _
  refine sy_enter (qc40_3 1) ⟨#[pT b 0, pT g 0, ud, ud, ud, ud, ud], []⟩ Tryz.func130 (by kernel_rfl) (by kernel_rfl) <| qr_ [0] <| pkq (.int .i64 0) <| eqr_ [0, 1, 2, 3] <| pkq (pT b 0) <| ppq (.int .i64 x) (ldk 3 g 0 hg) ?_
  refine pcq 131 #[pT b 0, .int .i64 x] Tryz.func131 ((hw.n x hx.1 hx.2).mono ?_)
  rintro e V1 ⟨he, F', hW, hS⟩
  rw [add_ok hl] at he hW
  subst he
  refine ⟨_, rfl, ?_⟩
  have K2 : Keeps F0 w V1 := K0.then hS.1 (fun _ _ h => h)
  have z3 := hS.1.size
  refine pkq (.int .i64 0) <| eu_ <| so_ (.int .i64 0) ?_
  exact ⟨rfl, F', hW, hS⟩
noncomputable def qc40_4 (n : Nat) : Code := partOf Tryz.f98 n
theorem vroot_ok (r : List UInt8) (w : World) :
    Calls Tryz.prog 98 #[.agg (B r).toArray] w (fun e w' => ∃ g, e = .returned (.func (.func 132) #[] #[.pointer (some ⟨g, 0, none⟩)]) ∧ w'.heap[g]? = some (.cells (B r).toArray 23 (0, 0)) ∧ w.heap.size ≤ g ∧ Keeps Nob w w') := by
  have K0 : Keeps Nob w w := Keeps.refl _ _
  refine sy_enter (qc40_4 1) ⟨#[.agg (B r).toArray, ud, ud, ud], []⟩ Tryz.func98 (by kernel_rfl) (by kernel_rfl) <| qr_ [0, 1] <| pbx 23 ((B r).toArray) (.agg (B r).toArray) fun V1 g eg h2 kV1 => ?_
  have n3 : w.heap.size ≤ g := eg ▸ K0.size
  have K4 := K0.nn kV1
  have z5 := kV1.size
  refine pkq (.nilFunc) <| eqr_ [0, 1] <| pkq (.func (.func 132) #[] #[pT g 0]) <| pkq (.func (.func 132) #[] #[pT g 0]) <| eu_ <| so_ (.func (.func 132) #[] #[.pointer (some ⟨g, 0, none⟩)]) ?_
  exact ⟨g, rfl, h2, by omega, K4⟩
noncomputable def qc40_1 (n : Nat) : Code := partOf Tryz.f132 n
theorem vroot1_ok (b g : Nat) (r : List UInt8) (F0 : Nat → Prop) (out : List UInt8) (w : World) (hw : Wr w F0 b ⟨4096, out, 0⟩) (hg : w.heap[g]? = some (.cells (B r).toArray 23 (0, 0))) (hr : r.length = 32) (hl : out.length + (r).length ≤ 4096) :
    Calls Tryz.prog 132 #[.pointer (some ⟨b, 0, none⟩), .pointer (some ⟨g, 0, none⟩)] w (fun e w' => e = .returned (.int .i64 0) ∧ ∃ F', Wr w' F' b ⟨4096, out ++ r, 0⟩ ∧ Step w w' F0 F') := by
  have K0 : Keeps F0 w w := Keeps.refl _ _
  refine sy_enter (qc40_1 1) ⟨#[pT b 0, pT g 0, ud, ud, ud, ud, ud], []⟩ Tryz.func132 (by kernel_rfl) (by kernel_rfl) <| qr_ [0] <| pkq (.int .i64 0) <| eqr_ [0, 1, 2, 3] <| pkq (pT b 0) <| ppq (.agg ((B r).toArray)) (ldr 23 g (hg) (by rw [Bz_size, hr]; kernel_rfl)) ?_
  refine pcq 133 #[pT b 0, .agg ((B r).toArray)] Tryz.func133 ((hw.hash r hr).mono ?_)
  rintro e V1 ⟨he, F', hW, hS⟩
  rw [add_ok hl] at he hW
  subst he
  refine ⟨_, rfl, ?_⟩
  have K2 : Keeps F0 w V1 := K0.then hS.1 (fun _ _ h => h)
  have z3 := hS.1.size
  refine pkq (.int .i64 0) <| eu_ <| so_ (.int .i64 0) ?_
  exact ⟨rfl, F', hW, hS⟩
noncomputable def qc40_2 (n : Nat) : Code := partOf Tryz.f134 n
theorem vtag1_ok (b g : Nat) (k : Nat) (F0 : Nat → Prop) (out : List UInt8) (w : World) (hw : Wr w F0 b ⟨4096, out, 0⟩) (hg : w.heap[g]? = some (.cells #[.int .u64 ((k : Nat) : Int)] 24 (0, 0))) (hk : k < 2 ^ 64) (hl : out.length + (Cod.enc k).length ≤ 4096) :
    Calls Tryz.prog 134 #[.pointer (some ⟨b, 0, none⟩), .pointer (some ⟨g, 0, none⟩)] w (fun e w' => e = .returned (.int .i64 0) ∧ ∃ F', Wr w' F' b ⟨4096, out ++ (Cod.enc k), 0⟩ ∧ Step w w' F0 F') := by
  have K0 : Keeps F0 w w := Keeps.refl _ _
  refine sy_enter (qc40_2 1) ⟨#[pT b 0, pT g 0, ud, ud, ud, ud, ud], []⟩ Tryz.func134 (by kernel_rfl) (by kernel_rfl) <| qr_ [0] <| pkq (.int .i64 0) <| eqr_ [0, 1, 2, 3] <| pkq (pT b 0) <| ppq (uN k) (ldk 24 g 0 hg) ?_
  refine pcq 135 #[pT b 0, uN k] Tryz.func135 ((hw.u k hk).mono ?_)
  rintro e V1 ⟨he, F', hW, hS⟩
  rw [add_ok hl] at he hW
  subst he
  refine ⟨_, rfl, ?_⟩
  have K2 : Keeps F0 w V1 := K0.then hS.1 (fun _ _ h => h)
  have z3 := hS.1.size
  refine pkq (.int .i64 0) <| eu_ <| so_ (.int .i64 0) ?_
  exact ⟨rfl, F', hW, hS⟩
noncomputable def qc40_0 (n : Nat) : Code := partOf Tryz.f95 n
noncomputable abbrev qo40_0 (n k : Nat) : Oper := (opsAt (qc40_0 n)).getD k default
theorem vwritten_bad (x : Int) (v : Value) (w : World) (hx : x ≠ 0) :
    Calls Tryz.prog 95 #[.int .i64 x, v] w (fun e w' => e = .returned (.tuple #[.slice none 0 0, .int .i64 x]) ∧ w = w') := by
  have K0 : Keeps Nob w w := Keeps.refl _ _
  refine sy_enter (qc40_0 1) ⟨#[.int .i64 x, v, ud, ud, ud, ud, ud, ud, ud, ud, ud, ud, ud, ud, ud, ud, ud, ud, ud, ud, ud, ud, ud, ud, ud, ud, ud, ud, ud, ud, ud, ud, ud, ud, ud], []⟩ Tryz.func95 (by kernel_rfl) (by kernel_rfl) <| qr_ [0, 1] <| pkq (.slice none 0 0) <| pkq (.int .i64 0) <| eq_ <| qr_ [0, 1] <| pkq (.int .i64 x) <| ppq (.bool true) (nqt ((x) : Int) ((0) : Int) (by omega)) <| ey_ <| qr_ [0, 1, 2] <| pkq (.int .i64 x) <| pkq (.slice none 0 0) <| pkq (.int .i64 x) <| eu_ ?_
  refine then_r <| so_ (.tuple #[.slice none 0 0, .int .i64 x]) ?_
  exact ⟨rfl, rfl⟩
theorem vwritten_row (g cap : Nat) (ts : List Thg) (vs rest : List Value) (w : World) (h0 : w.heap[g]? = some (.cells (vs ++ rest).toArray 143 (0, 0))) (h1 : ThsAt w vs ts) (hok : ∀ (k : Nat) (t : Thg), ts[k]? = some t → t.Ok) (hl : (allb ts).length ≤ 4096) (hmax : ts.length ≤ 1000) :
    Calls Tryz.prog 95 #[.int .i64 0, .slice (some ⟨g, 0, none⟩) ts.length cap] w (fun e w' => ∃ X, e = .returned (.tuple #[X, .int .i64 0]) ∧ Row w' 5 1 X (allb ts).length (B (allb ts)) ∧ NewFrom w.heap.size X ∧ Keeps Nob w w') := by
  have K0 : Keeps Nob w w := Keeps.refl _ _
  refine sy_enter (qc40_0 1) ⟨#[.int .i64 0, .slice (some ⟨g, 0, none⟩) ts.length cap, ud, ud, ud, ud, ud, ud, ud, ud, ud, ud, ud, ud, ud, ud, ud, ud, ud, ud, ud, ud, ud, ud, ud, ud, ud, ud, ud, ud, ud, ud, ud, ud, ud], []⟩ Tryz.func95 (by kernel_rfl) (by kernel_rfl) <| qr_ [0, 1] <| pkq (.slice none 0 0) <| pkq (.int .i64 0) <| eq_ <| qr_ [0, 1] <| pkq (.int .i64 0) <| pkq (.bool false) <| en_ <| s_ <| tqr_ [0, 1, 2, 3, 4, 5] ?_
  refine pcq 126 #[.int .i64 4096] Tryz.func126 ((wr_new 4096 _ (by omega) (by omega)).mono ?_)
  rintro e V1 ⟨b, F1, rfl, hV1, hge1, kV1⟩
  refine ⟨_, rfl, ?_⟩
  have K2 := K0.nn kV1
  have z3 := kV1.size
  refine pkq (.tuple #[pT b 0, .int .i64 0]) <| pkq (pT b 0) <| pkq (.int .i64 0) <| pkq (pT b 0) <| pkq (.int .i64 0) <| eq_ <| qr_ [0, 1, 2] <| pkq (.slice (some ⟨g, 0, none⟩) ts.length cap) <| ppq (iN ts.length) (exec_len (.tmp 18) 111 _ (by kernel_rfl) Tryz.underlying111 (some ⟨g, 0, none⟩) ts.length cap (by kernel_rfl)) <| pkq (.int .i64 0) <| et_ <| b_ 0 ?_
  refine sy_loop (qc40_0 244) (fun a V => ∃ (i : Nat) (F0 : Nat → Prop) (u4 u5 u9 u10 u21 u22 u23 u24 u25 u26 u27 u28 u29 u30 : Value), (a = ⟨#[.int .i64 0, .slice (some ⟨g, 0, none⟩) ts.length cap, ud, ud, u4, u5, pT b 0, .int .i64 0, ud, u9, u10, .int .i64 0, .bool false, ud, .tuple #[pT b 0, .int .i64 0], .tuple #[pT b 0, .int .i64 0], pT b 0, .int .i64 0, .slice (some ⟨g, 0, none⟩) ts.length cap, iN ts.length, iN i, u21, u22, u23, u24, u25, u26, u27, u28, u29, u30, ud, ud, ud, ud], []⟩) ∧ (i ≤ ts.length) ∧ (Wr V F0 b ⟨4096, byt ts i, 0⟩) ∧ (Keeps Nob w V) ∧ (Ge F0 w)) (fun a _ => ts.length - (intOf (a.tmps.getD 20 undef)).toNat) (by kernel_rfl) ?_ ?_
  · exact ⟨0, F1, (.slice none 0 0), (.int .i64 0), undef, undef, undef, undef, undef, undef, undef, undef, undef, undef, undef, undef, by kernel_rfl, by omega, hV1, K2, hge1⟩
  · rintro a V4 ⟨i, F0, u4, u5, u9, u10, u21, u22, u23, u24, u25, u26, u27, u28, u29, u30, rfl, hi, h5, K6, hge⟩
    skip
    rcases ths_split h1 hok i hi with ⟨lt_i, x, gk, hti, hxv, hvk, hgk⟩ | ⟨lt_i, r, gk, hti, hrv, hvk, hgk⟩ | ⟨lt_i, k, gk, hti, hkv, hvk, hgk⟩ | eq_i
    · have hsz := byt_succ hti
      have hbl := byt_le ts (i + 1)
      have hbe : (byt ts (i + 1)).length = (byt ts i).length + (Cod.enc x.toNat).length := by rw [hsz, List.length_append]; rfl
      refine qr_ [0] <| ppq (.bool true) (dct ((((i : Nat) : Int)) < (((ts.length : Nat) : Int))) (by omega)) <| eq_ <| y_ <| s_ <| tq_ <| b_ 1 <| qr_ [0, 1, 2] <| ppq (pT g i) (exec_cast (v := pT g (0 + i * 1)) (by simp) (exec_indexAt_slice 111 (.tmp 18) (.tmp 20) (by kernel_rfl) g 0 ts.length cap (by kernel_rfl) .i64 i (by kernel_rfl) _ 1 Tryz.underlying111 (by kernel_rfl) (by omega))) <| ppq (.func (.func 130) #[] #[pT gk 0]) (ldc 143 g i ((cell_of_row _ _ _ _ _ _ ((K6.block g (lt_of_block h0) (fun x => x)).trans h0)).trans (hd_get hvk))) <| pkq (.func (.func 130) #[] #[pT gk 0]) <| eqr_ [0, 1, 2, 3] <| pkq (.func (.func 130) #[] #[pT gk 0]) <| pkq (pT b 0) ?_
      refine ps_callV (qo40_0 15666 2) (.tmp 24) 130 #[] #[pT gk 0] #[pT b 0, pT gk 0] (by kernel_rfl) (by kernel_rfl) (by kernel_rfl) (by kernel_rfl) (by kernel_rfl) (enters_of Tryz.func130 (by kernel_rfl) rfl) ((vnum1_ok b gk x F0 (byt ts i) _ h5 ((K6.block gk (lt_of_block hgk) (fun x => x)).trans hgk) hxv (by omega)).mono ?_)
      rintro e V7 ⟨rfl, F', hV7, hS⟩
      rw [show byt ts i ++ (Cod.enc x.toNat) = byt ts (i + 1) from (byt_succ hti).symm] at hV7
      refine ⟨_, rfl, ?_⟩
      have K8 : Keeps Nob w V7 := K6.then hS.1 (fun i hi hm => absurd hi (by have := hge i hm; omega))
      have z9 := hS.1.size
      refine pkq (.int .i64 0) <| eqr_ [0, 1] <| pkq (.int .i64 0) <| pkq (.bool false) <| en_ <| s_ <| blk_n <| tr_ [0, 1] <| ppq (iN (i + 1)) (exec_cast (congrArg (Value.int .i64) (wrapN (i + 1) (by omega))) (by kernel_rfl)) <| pkq (iN (i + 1)) <| et_ ?_
      refine ⟨⟨i + 1, F', u4, u5, (.func (.func 130) #[] #[pT gk 0]), (.int .i64 0), (.bool true), (pT g i), (.func (.func 130) #[] #[pT gk 0]), (.func (.func 130) #[] #[pT gk 0]), (pT b 0), (.int .i64 0), (.int .i64 0), (.bool false), u29, (iN (i + 1)), by kernel_rfl, by omega, hV7, K8, (hS.ge hge K6.size)⟩, ?_⟩
      exact lt_meas (x := ts.length - (i + 1)) (y := ts.length - i) (by kernel_rfl) (by kernel_rfl) (by omega)
    · have hsz := byt_succ hti
      have hbl := byt_le ts (i + 1)
      have hbe : (byt ts (i + 1)).length = (byt ts i).length + (r).length := by rw [hsz, List.length_append]; rfl
      refine qr_ [0] <| ppq (.bool true) (dct ((((i : Nat) : Int)) < (((ts.length : Nat) : Int))) (by omega)) <| eq_ <| y_ <| s_ <| tq_ <| b_ 1 <| qr_ [0, 1, 2] <| ppq (pT g i) (exec_cast (v := pT g (0 + i * 1)) (by simp) (exec_indexAt_slice 111 (.tmp 18) (.tmp 20) (by kernel_rfl) g 0 ts.length cap (by kernel_rfl) .i64 i (by kernel_rfl) _ 1 Tryz.underlying111 (by kernel_rfl) (by omega))) <| ppq (.func (.func 132) #[] #[pT gk 0]) (ldc 143 g i ((cell_of_row _ _ _ _ _ _ ((K6.block g (lt_of_block h0) (fun x => x)).trans h0)).trans (hd_get hvk))) <| pkq (.func (.func 132) #[] #[pT gk 0]) <| eqr_ [0, 1, 2, 3] <| pkq (.func (.func 132) #[] #[pT gk 0]) <| pkq (pT b 0) ?_
      refine ps_callV (qo40_0 15666 2) (.tmp 24) 132 #[] #[pT gk 0] #[pT b 0, pT gk 0] (by kernel_rfl) (by kernel_rfl) (by kernel_rfl) (by kernel_rfl) (by kernel_rfl) (enters_of Tryz.func132 (by kernel_rfl) rfl) ((vroot1_ok b gk r F0 (byt ts i) _ h5 ((K6.block gk (lt_of_block hgk) (fun x => x)).trans hgk) hrv (by omega)).mono ?_)
      rintro e V10 ⟨rfl, F', hV10, hS⟩
      rw [show byt ts i ++ r = byt ts (i + 1) from (byt_succ hti).symm] at hV10
      refine ⟨_, rfl, ?_⟩
      have K11 : Keeps Nob w V10 := K6.then hS.1 (fun i hi hm => absurd hi (by have := hge i hm; omega))
      have z12 := hS.1.size
      refine pkq (.int .i64 0) <| eqr_ [0, 1] <| pkq (.int .i64 0) <| pkq (.bool false) <| en_ <| s_ <| blk_n <| tr_ [0, 1] <| ppq (iN (i + 1)) (exec_cast (congrArg (Value.int .i64) (wrapN (i + 1) (by omega))) (by kernel_rfl)) <| pkq (iN (i + 1)) <| et_ ?_
      refine ⟨⟨i + 1, F', u4, u5, (.func (.func 132) #[] #[pT gk 0]), (.int .i64 0), (.bool true), (pT g i), (.func (.func 132) #[] #[pT gk 0]), (.func (.func 132) #[] #[pT gk 0]), (pT b 0), (.int .i64 0), (.int .i64 0), (.bool false), u29, (iN (i + 1)), by kernel_rfl, by omega, hV10, K11, (hS.ge hge K6.size)⟩, ?_⟩
      exact lt_meas (x := ts.length - (i + 1)) (y := ts.length - i) (by kernel_rfl) (by kernel_rfl) (by omega)
    · have hsz := byt_succ hti
      have hbl := byt_le ts (i + 1)
      have hbe : (byt ts (i + 1)).length = (byt ts i).length + (Cod.enc k).length := by rw [hsz, List.length_append]; rfl
      refine qr_ [0] <| ppq (.bool true) (dct ((((i : Nat) : Int)) < (((ts.length : Nat) : Int))) (by omega)) <| eq_ <| y_ <| s_ <| tq_ <| b_ 1 <| qr_ [0, 1, 2] <| ppq (pT g i) (exec_cast (v := pT g (0 + i * 1)) (by simp) (exec_indexAt_slice 111 (.tmp 18) (.tmp 20) (by kernel_rfl) g 0 ts.length cap (by kernel_rfl) .i64 i (by kernel_rfl) _ 1 Tryz.underlying111 (by kernel_rfl) (by omega))) <| ppq (.func (.func 134) #[] #[pT gk 0]) (ldc 143 g i ((cell_of_row _ _ _ _ _ _ ((K6.block g (lt_of_block h0) (fun x => x)).trans h0)).trans (hd_get hvk))) <| pkq (.func (.func 134) #[] #[pT gk 0]) <| eqr_ [0, 1, 2, 3] <| pkq (.func (.func 134) #[] #[pT gk 0]) <| pkq (pT b 0) ?_
      refine ps_callV (qo40_0 15666 2) (.tmp 24) 134 #[] #[pT gk 0] #[pT b 0, pT gk 0] (by kernel_rfl) (by kernel_rfl) (by kernel_rfl) (by kernel_rfl) (by kernel_rfl) (enters_of Tryz.func134 (by kernel_rfl) rfl) ((vtag1_ok b gk k F0 (byt ts i) _ h5 ((K6.block gk (lt_of_block hgk) (fun x => x)).trans hgk) hkv (by omega)).mono ?_)
      rintro e V13 ⟨rfl, F', hV13, hS⟩
      rw [show byt ts i ++ (Cod.enc k) = byt ts (i + 1) from (byt_succ hti).symm] at hV13
      refine ⟨_, rfl, ?_⟩
      have K14 : Keeps Nob w V13 := K6.then hS.1 (fun i hi hm => absurd hi (by have := hge i hm; omega))
      have z15 := hS.1.size
      refine pkq (.int .i64 0) <| eqr_ [0, 1] <| pkq (.int .i64 0) <| pkq (.bool false) <| en_ <| s_ <| blk_n <| tr_ [0, 1] <| ppq (iN (i + 1)) (exec_cast (congrArg (Value.int .i64) (wrapN (i + 1) (by omega))) (by kernel_rfl)) <| pkq (iN (i + 1)) <| et_ ?_
      refine ⟨⟨i + 1, F', u4, u5, (.func (.func 134) #[] #[pT gk 0]), (.int .i64 0), (.bool true), (pT g i), (.func (.func 134) #[] #[pT gk 0]), (.func (.func 134) #[] #[pT gk 0]), (pT b 0), (.int .i64 0), (.int .i64 0), (.bool false), u29, (iN (i + 1)), by kernel_rfl, by omega, hV13, K14, (hS.ge hge K6.size)⟩, ?_⟩
      exact lt_meas (x := ts.length - (i + 1)) (y := ts.length - i) (by kernel_rfl) (by kernel_rfl) (by omega)
    · show _
      refine qr_ [0] <| ppq (.bool false) (dcf ((((i : Nat) : Int)) < (((ts.length : Nat) : Int))) (by omega)) <| eq_ <| n_ <| sy_exit 0 (by kernel_rfl) <| then_e <| then_e <| blk_e <| tqr_ [0, 1, 2, 3, 4, 5] <| pkq (pT b 0) ?_
      refine pcq 127 #[pT b 0] Tryz.func127 ((Wr.done h5).mono ?_)
      rintro e V16 ⟨X, rfl, ⟨hX, hnX⟩, kV16⟩
      have hX' : Row V16 5 1 X (allb ts).length (B (allb ts)) := by rw [← byt_all, ← eq_i]; exact hX
      refine ⟨_, rfl, ?_⟩
      have h17 : Wr V16 F0 b ⟨4096, byt ts i, 0⟩ := h5.keepsN kV16
      have K18 := K6.nn kV16
      have z19 := kV16.size
      refine pkq (X) <| pkq (.int .i64 0) <| pkq (X) <| pkq (.int .i64 0) <| eu_ <| so_ (.tuple #[X, .int .i64 0]) ?_
      exact ⟨X, rfl, hX', fun j hj => by have := hnX j hj; have := K6.size; omega, K18⟩
theorem vwritten_ok (v : Value) (ts : List Thg) (vs : List Value) (w : World) (h0 : Row w 143 1 v ts.length vs) (h1 : ThsAt w vs ts) (hpos : 0 < ts.length) (hok : ∀ (k : Nat) (t : Thg), ts[k]? = some t → t.Ok) (hl : (allb ts).length ≤ 4096) (hmax : ts.length ≤ 1000) :
    Calls Tryz.prog 95 #[.int .i64 0, v] w fun e w' => ∃ X, e = .returned (.tuple #[X, .int .i64 0]) ∧ Row w' 5 1 X (allb ts).length (B (allb ts)) ∧ NewFrom w.heap.size X ∧ Keeps Nob w w' := by
  obtain ⟨g, cap, rest, rfl, hg, _, _⟩ := row_open h0 hpos
  exact vwritten_row g cap ts vs rest w hg h1 hok hl hmax
end Go.Proofs.YtcbfnflnokoacaaGreat
namespace Go.Proofs.YtcbfnflnokoacaaGreat
set_option maxRecDepth 100000
set_option maxHeartbeats 4000000
open Go Go.RowKit Go.Own Go.Shelf
def attT (a : Att) : List Thg := [.n 1, .n a.v, .n a.s, .n a.t, .h a.r]
def proT (a : Pro) : List Thg := [.n 2, .n a.v, .n a.h, .h a.r]
def Att.bare (a : Att) : List UInt8 := allb (attT a)
def Pro.bare (a : Pro) : List UInt8 := allb (proT a)
def Att.bytes (a : Att) : List UInt8 := allb (attT a ++ [.u a.g])
def Pro.bytes (a : Pro) : List UInt8 := allb (proT a ++ [.u a.g])
def zhash : List UInt8 := List.replicate 32 0
theorem zhash_len : zhash.length = 32 := by simp [zhash]
theorem att_okT {a : Att} (h : a.Ok) (hf : a.fine) : ∀ (k : Nat) (t : Thg), (attT a ++ [.u a.g])[k]? = some t → t.Ok := fun k t ht => by
  obtain ⟨f1, f2, f3, f4, f5, f6⟩ := hf
  match k, ht with
  | 0, ht => cases ht; exact ⟨by omega, by omega⟩
  | 1, ht => cases ht; exact ⟨by omega, by omega⟩
  | 2, ht => cases ht; exact ⟨by omega, by omega⟩
  | 3, ht => cases ht; exact ⟨by omega, by omega⟩
  | 4, ht => cases ht; exact h.r
  | 5, ht => cases ht; exact h.g
  | k + 6, ht => cases ht
theorem pro_okT {a : Pro} (h : a.Ok) (hf : a.fine) : ∀ (k : Nat) (t : Thg), (proT a ++ [.u a.g])[k]? = some t → t.Ok := fun k t ht => by
  obtain ⟨f1, f2, f3, f4⟩ := hf
  match k, ht with
  | 0, ht => cases ht; exact ⟨by omega, by omega⟩
  | 1, ht => cases ht; exact ⟨by omega, by omega⟩
  | 2, ht => cases ht; exact ⟨by omega, by omega⟩
  | 3, ht => cases ht; exact h.r
  | 4, ht => cases ht; exact h.g
  | k + 5, ht => cases ht
theorem okT_pre {ts : List Thg} {u : Thg} (h : ∀ (k : Nat) (t : Thg), (ts ++ [u])[k]? = some t → t.Ok) : ∀ (k : Nat) (t : Thg), ts[k]? = some t → t.Ok := fun k t ht => h k t (by rw [List.getElem?_append_left (List.getElem?_eq_some_iff.1 ht).1]; exact ht)
theorem enc10 (n : Nat) : (Cod.enc n).length ≤ 10 := Cod.enc_length n
theorem att_len {a : Att} (h : a.r.length = 32) : a.bytes.length ≤ 82 ∧ a.bare.length ≤ 72 := by
  have := enc10 (1 : Int).toNat; have := enc10 a.v.toNat; have := enc10 a.s.toNat; have := enc10 a.t.toNat; have := enc10 a.g
  simp only [Att.bytes, Att.bare, allb, attT, List.flatMap_cons, List.flatMap_nil, List.cons_append, List.nil_append, Thg.by, List.length_append, List.length_nil, h]
  omega
theorem pro_len {a : Pro} (h : a.r.length = 32) : a.bytes.length ≤ 72 ∧ a.bare.length ≤ 62 := by
  have := enc10 (2 : Int).toNat; have := enc10 a.v.toNat; have := enc10 a.h.toNat; have := enc10 a.g
  simp only [Pro.bytes, Pro.bare, allb, proT, List.flatMap_cons, List.flatMap_nil, List.cons_append, List.nil_append, Thg.by, List.length_append, List.length_nil, h]
  omega
theorem thing_info : (Tryz.prog.info? 143).map (fun i => (i.zero, i.size, i.bytes)) = some (some .nilFunc, 1, 8) := by kernel_rfl
noncomputable def qc41_1 (n : Nat) : Code := partOf Tryz.f75 n
theorem vthings_ok (a : Att) (w : World) (hr : a.r.length = 32) :
    Calls Tryz.prog 75 #[.agg (Att.c a)] w (fun e w' => ∃ gl vs, e = .returned (.slice (some ⟨gl, 0, none⟩) 5 5) ∧ Row w' 143 1 (.slice (some ⟨gl, 0, none⟩) 5 5) 5 vs ∧ ThsAt w' vs (attT a) ∧ NewFrom w.heap.size (.slice (some ⟨gl, 0, none⟩) 5 5) ∧ Keeps Nob w w') := by
  have K0 : Keeps Nob w w := Keeps.refl _ _
  refine sy_enter (qc41_1 1) ⟨#[.agg (Att.c a), ud, ud, ud, ud, ud, ud, ud, ud, ud, ud, ud, ud, ud, ud, ud, ud], []⟩ Tryz.func75 (by kernel_rfl) (by kernel_rfl) <| qr_ [0, 1] <| pbx 26 ((Att.c a)) (.agg (Att.c a)) fun V1 ga ega h2 kV1 => ?_
  have n3 : w.heap.size ≤ ga := ega ▸ K0.size
  have K4 := K0.nn kV1
  have z5 := kV1.size
  refine pkq (.slice none 0 0) <| eq_ <| sy_np <| sy_reg <| an_begin 1 15 (opsAt (qc41_1 6)) (fun W => (W.heap[ga]? = some (.cells (Att.c a) 26 (0, 0)))) #[false, false, false, false, false, false, false, false, false, false, false, false, false, false, false] (by kernel_rfl) (by kernel_rfl) (by kernel_rfl) (by kernel_rfl) ?_
  obtain ⟨V6, eV6, kV6⟩ := drew_step V1
  rw [eV6]
  clear eV6
  have h7 := kV6.bk h2
  have K8 := K4.nn kV6
  have z9 := kV6.size
  refine akq 1 (pT ga 0) h7 <| avq 2 (.int .i64 a.v) (fun W hS => ldc 3 ga 0 (rc (hS) (Att.c_0 _))) h7 <| akq 4 (pT ga 1) h7 <| avq 5 (.int .i64 a.s) (fun W hS => ldc 3 ga 1 (rc (hS) (Att.c_1 _))) h7 <| akq 7 (pT ga 2) h7 <| avq 8 (.int .i64 a.t) (fun W hS => ldc 3 ga 2 (rc (hS) (Att.c_2 _))) h7 <| akq 10 (pT ga 3) h7 <| avq 11 (.agg (B a.r).toArray) (fun W hS => exec_load_seg 23 (.tmp 13) (by kernel_rfl) ga 3 (by kernel_rfl) (B a.r) _ _ _ hS (Att.c_seg _) Tryz.underlying23 rfl (by rw [B_length, hr]; kernel_rfl)) h7 <| an_o 0 ?_
  refine ncq 97 #[.int .i64 1] Tryz.func97 ((vnum_ok 1 _).mono ?_)
  rintro e V10 ⟨g1, rfl, hg1, ng1, kV10⟩
  refine ⟨_, rfl, ?_⟩
  have h11 := kV10.bk h7
  have K12 := K8.nn kV10
  have z13 := kV10.size
  refine ⟨h11, ?_⟩
  refine an_o 3 ?_
  refine ncq 97 #[.int .i64 a.v] Tryz.func97 ((vnum_ok a.v _).mono ?_)
  rintro e V14 ⟨g2, rfl, hg2, ng2, kV14⟩
  refine ⟨_, rfl, ?_⟩
  have h15 := kV14.bk h11
  have h16 := kV14.bk hg1
  have K17 := K12.nn kV14
  have z18 := kV14.size
  refine ⟨h15, ?_⟩
  refine an_o 6 ?_
  refine ncq 97 #[.int .i64 a.s] Tryz.func97 ((vnum_ok a.s _).mono ?_)
  rintro e V19 ⟨g3, rfl, hg3, ng3, kV19⟩
  refine ⟨_, rfl, ?_⟩
  have h20 := kV19.bk h15
  have h21 := kV19.bk h16
  have h22 := kV19.bk hg2
  have K23 := K17.nn kV19
  have z24 := kV19.size
  refine ⟨h20, ?_⟩
  refine an_o 9 ?_
  refine ncq 97 #[.int .i64 a.t] Tryz.func97 ((vnum_ok a.t _).mono ?_)
  rintro e V25 ⟨g4, rfl, hg4, ng4, kV25⟩
  refine ⟨_, rfl, ?_⟩
  have h26 := kV25.bk h20
  have h27 := kV25.bk h21
  have h28 := kV25.bk h22
  have h29 := kV25.bk hg3
  have K30 := K23.nn kV25
  have z31 := kV25.size
  refine ⟨h26, ?_⟩
  refine an_o 12 ?_
  refine ncq 98 #[.agg (B a.r).toArray] Tryz.func98 ((vroot_ok a.r _).mono ?_)
  rintro e V32 ⟨g5, rfl, hg5, ng5, kV32⟩
  refine ⟨_, rfl, ?_⟩
  have h33 := kV32.bk h26
  have h34 := kV32.bk h27
  have h35 := kV32.bk h28
  have h36 := kV32.bk h29
  have h37 := kV32.bk hg4
  have K38 := K30.nn kV32
  have z39 := kV32.size
  refine ⟨h33, ?_⟩
  refine an_o 13 ?_
  obtain ⟨V40, eV40, gl, egl, h41, kV40⟩ := alloc_step V32 (#[.func (.func 130) #[] #[.pointer (some ⟨g1, 0, none⟩)], .func (.func 130) #[] #[.pointer (some ⟨g2, 0, none⟩)], .func (.func 130) #[] #[.pointer (some ⟨g3, 0, none⟩)], .func (.func 130) #[] #[.pointer (some ⟨g4, 0, none⟩)], .func (.func 132) #[] #[.pointer (some ⟨g5, 0, none⟩)]]) 143
  have n42 : ga < gl := egl ▸ lt_of_block h33
  have n43 : g1 < gl := egl ▸ lt_of_block h34
  have n44 : g2 < gl := egl ▸ lt_of_block h35
  have n45 : g3 < gl := egl ▸ lt_of_block h36
  have n46 : g4 < gl := egl ▸ lt_of_block h37
  have n47 : g5 < gl := egl ▸ lt_of_block hg5
  have n48 : w.heap.size ≤ gl := egl ▸ K38.size
  refine nrq (.slice (some ⟨gl, 0, none⟩) 5 5) (w' := V40) (by rw [← eV40, ← egl]; kernel_rfl) ?_
  have h49 := kV40.bk h33
  have h50 := kV40.bk h34
  have h51 := kV40.bk h35
  have h52 := kV40.bk h36
  have h53 := kV40.bk h37
  have h54 := kV40.bk hg5
  have K55 := K38.nn kV40
  have z56 := kV40.size
  refine ⟨h49, ?_⟩
  refine an_o 14 <| nrq (.slice (some ⟨gl, 0, none⟩) 5 5) (w' := V40) (by kernel_rfl) ?_
  refine ⟨h49, ?_⟩
  refine an_end (by kernel_rfl) <| then_n <| u_ <| so_ (.slice (some ⟨gl, 0, none⟩) 5 5) ?_
  exact ⟨gl, _, rfl, row_of_block h41 rfl (by decide), (ThsAt.cons ⟨g1, rfl, h50⟩ (ThsAt.cons ⟨g2, rfl, h51⟩ (ThsAt.cons ⟨g3, rfl, h52⟩ (ThsAt.cons ⟨g4, rfl, h53⟩ (ThsAt.cons ⟨g5, rfl, h54⟩ (ThsAt.nil _)))))), NewFrom.ptr (by omega) _ _, K55⟩
noncomputable def qc41_0 (n : Nat) : Code := partOf Tryz.f74 n
theorem vthingsBlock_ok (a : Pro) (w : World) (hr : a.r.length = 32) :
    Calls Tryz.prog 74 #[.agg (Pro.c a)] w (fun e w' => ∃ gl vs, e = .returned (.slice (some ⟨gl, 0, none⟩) 4 4) ∧ Row w' 143 1 (.slice (some ⟨gl, 0, none⟩) 4 4) 4 vs ∧ ThsAt w' vs (proT a) ∧ NewFrom w.heap.size (.slice (some ⟨gl, 0, none⟩) 4 4) ∧ Keeps Nob w w') := by
  have K0 : Keeps Nob w w := Keeps.refl _ _
  refine sy_enter (qc41_0 1) ⟨#[.agg (Pro.c a), ud, ud, ud, ud, ud, ud, ud, ud, ud, ud, ud, ud, ud], []⟩ Tryz.func74 (by kernel_rfl) (by kernel_rfl) <| qr_ [0, 1] <| pbx 28 ((Pro.c a)) (.agg (Pro.c a)) fun V1 ga ega h2 kV1 => ?_
  have n3 : w.heap.size ≤ ga := ega ▸ K0.size
  have K4 := K0.nn kV1
  have z5 := kV1.size
  refine pkq (.slice none 0 0) <| eq_ <| sy_np <| sy_reg <| an_begin 1 12 (opsAt (qc41_0 6)) (fun W => (W.heap[ga]? = some (.cells (Pro.c a) 28 (0, 0)))) #[false, false, false, false, false, false, false, false, false, false, false, false] (by kernel_rfl) (by kernel_rfl) (by kernel_rfl) (by kernel_rfl) ?_
  obtain ⟨V6, eV6, kV6⟩ := drew_step V1
  rw [eV6]
  clear eV6
  have h7 := kV6.bk h2
  have K8 := K4.nn kV6
  have z9 := kV6.size
  refine akq 1 (pT ga 0) h7 <| avq 2 (.int .i64 a.v) (fun W hS => ldc 3 ga 0 (rc (hS) (Pro.c_0 _))) h7 <| akq 4 (pT ga 1) h7 <| avq 5 (.int .i64 a.h) (fun W hS => ldc 3 ga 1 (rc (hS) (Pro.c_1 _))) h7 <| akq 7 (pT ga 2) h7 <| avq 8 (.agg (B a.r).toArray) (fun W hS => exec_load_seg 23 (.tmp 10) (by kernel_rfl) ga 2 (by kernel_rfl) (B a.r) _ _ _ hS (Pro.c_seg _) Tryz.underlying23 rfl (by rw [B_length, hr]; kernel_rfl)) h7 <| an_o 0 ?_
  refine ncq 97 #[.int .i64 2] Tryz.func97 ((vnum_ok 2 _).mono ?_)
  rintro e V10 ⟨g1, rfl, hg1, ng1, kV10⟩
  refine ⟨_, rfl, ?_⟩
  have h11 := kV10.bk h7
  have K12 := K8.nn kV10
  have z13 := kV10.size
  refine ⟨h11, ?_⟩
  refine an_o 3 ?_
  refine ncq 97 #[.int .i64 a.v] Tryz.func97 ((vnum_ok a.v _).mono ?_)
  rintro e V14 ⟨g2, rfl, hg2, ng2, kV14⟩
  refine ⟨_, rfl, ?_⟩
  have h15 := kV14.bk h11
  have h16 := kV14.bk hg1
  have K17 := K12.nn kV14
  have z18 := kV14.size
  refine ⟨h15, ?_⟩
  refine an_o 6 ?_
  refine ncq 97 #[.int .i64 a.h] Tryz.func97 ((vnum_ok a.h _).mono ?_)
  rintro e V19 ⟨g3, rfl, hg3, ng3, kV19⟩
  refine ⟨_, rfl, ?_⟩
  have h20 := kV19.bk h15
  have h21 := kV19.bk h16
  have h22 := kV19.bk hg2
  have K23 := K17.nn kV19
  have z24 := kV19.size
  refine ⟨h20, ?_⟩
  refine an_o 9 ?_
  refine ncq 98 #[.agg (B a.r).toArray] Tryz.func98 ((vroot_ok a.r _).mono ?_)
  rintro e V25 ⟨g4, rfl, hg4, ng4, kV25⟩
  refine ⟨_, rfl, ?_⟩
  have h26 := kV25.bk h20
  have h27 := kV25.bk h21
  have h28 := kV25.bk h22
  have h29 := kV25.bk hg3
  have K30 := K23.nn kV25
  have z31 := kV25.size
  refine ⟨h26, ?_⟩
  refine an_o 10 ?_
  obtain ⟨V32, eV32, gl, egl, h33, kV32⟩ := alloc_step V25 (#[.func (.func 130) #[] #[.pointer (some ⟨g1, 0, none⟩)], .func (.func 130) #[] #[.pointer (some ⟨g2, 0, none⟩)], .func (.func 130) #[] #[.pointer (some ⟨g3, 0, none⟩)], .func (.func 132) #[] #[.pointer (some ⟨g4, 0, none⟩)]]) 143
  have n34 : ga < gl := egl ▸ lt_of_block h26
  have n35 : g1 < gl := egl ▸ lt_of_block h27
  have n36 : g2 < gl := egl ▸ lt_of_block h28
  have n37 : g3 < gl := egl ▸ lt_of_block h29
  have n38 : g4 < gl := egl ▸ lt_of_block hg4
  have n39 : w.heap.size ≤ gl := egl ▸ K30.size
  refine nrq (.slice (some ⟨gl, 0, none⟩) 4 4) (w' := V32) (by rw [← eV32, ← egl]; kernel_rfl) ?_
  have h40 := kV32.bk h26
  have h41 := kV32.bk h27
  have h42 := kV32.bk h28
  have h43 := kV32.bk h29
  have h44 := kV32.bk hg4
  have K45 := K30.nn kV32
  have z46 := kV32.size
  refine ⟨h40, ?_⟩
  refine an_o 11 <| nrq (.slice (some ⟨gl, 0, none⟩) 4 4) (w' := V32) (by kernel_rfl) ?_
  refine ⟨h40, ?_⟩
  refine an_end (by kernel_rfl) <| then_n <| u_ <| so_ (.slice (some ⟨gl, 0, none⟩) 4 4) ?_
  exact ⟨gl, _, rfl, row_of_block h33 rfl (by decide), (ThsAt.cons ⟨g1, rfl, h41⟩ (ThsAt.cons ⟨g2, rfl, h42⟩ (ThsAt.cons ⟨g3, rfl, h43⟩ (ThsAt.cons ⟨g4, rfl, h44⟩ (ThsAt.nil _))))), NewFrom.ptr (by omega) _ _, K45⟩
theorem vCheck_is (a : Att) {x : Int} (w : World) (hr : a.r.length = 32) (hx : a.err = x) : Calls Tryz.prog 66 #[.agg (Att.c a)] w fun e w' => e = .returned (.int .i64 x) ∧ Keeps Nob w w' := by
  subst hx; exact vCheck_ok a w hr
theorem vCheckBlock_is (a : Pro) {x : Int} (w : World) (hr : a.r.length = 32) (hx : a.err = x) : Calls Tryz.prog 73 #[.agg (Pro.c a)] w fun e w' => e = .returned (.int .i64 x) ∧ Keeps Nob w w' := by
  subst hx; exact vCheckBlock_ok a w hr
end Go.Proofs.YtcbfnflnokoacaaGreat
