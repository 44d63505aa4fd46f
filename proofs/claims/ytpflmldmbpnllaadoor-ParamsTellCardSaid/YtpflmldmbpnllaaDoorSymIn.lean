/-
  The same laws within a round of a range over a function. Conditions: none.
-/
import Derived.Test.YtpflmldmbpnllaaDoorSym
import Derived.Test.YtpflmldmbpnllaaDoorRound
namespace Go.Own
open Go Go.RowKit Go.Shelf
section
variable {P : Program} {ops : Array Oper} {Q : Exit → Act → World → Prop} {md : Region.Mode} {l n : Nat}
theorem wpIn_of_wpOper {o : Oper} {a : Act} {w : World} {K K' : Act → World → Prop} (hd : ∀ c, o.op ≠ .defer c) (hL : ¬ LetsOut Q) (h : ∀ a w, K a w → K' a w) (hh : o.wp P a w K Q) : o.wpIn (Fence.wide.inRound l) n P a w K' Q := by
  unfold Oper.wp at hh
  unfold Oper.wpIn
  refine ⟨fun _ _ => trivial, ?_⟩
  rw [Oper.semAt_eq _ _ _ hd]
  generalize (execOp a.eval o).run P w = r at *
  cases r with
  | ok x w' =>
    cases x <;> simp only [Oper.upon] at hh <;> simp only [Oper.uponIn]
    case value u => exact h _ _ hh
    case skip => exact h _ _ hh
    case defer d => exact h _ _ hh
    case enter f args =>
      refine ⟨fun hx => by simp [Fence.wide, Fence.inRound] at hx, (CallsIn.inRound l (callsIn_wide.2 hh)).mono fun e w'' he => ?_⟩
      cases e with
      | returned v => exact h _ _ he
      | panicked c => exact he
      | outgrown => exact absurd he hL
    case row row args =>
      refine ⟨fun hx => by simp [Fence.wide, Fence.inRound] at hx, ?_⟩
      have h2 : RowsIn Fence.wide (n - 1) P row args w' fun v w'' => K' (a.put o.dst v) w'' := fun c cs _ => let ⟨v, w2, r, s⟩ := hh c cs; ⟨v, w2, h _ _ r, stepsIn_wide.2 s⟩
      exact h2
  | halt x w' =>
    cases x <;> simp only [Oper.upon] at hh <;> simp only [Oper.uponIn]
    exact hh
theorem wpOpIn_of_wpOp {i : Nat} {a : Act} {w : World} {K K' : Act → World → Prop} (hd : noDefer ops = true) (hL : ¬ LetsOut Q) (h : ∀ a w, K a w → K' a w) (hh : wpOp P ops Q i K a w) : wpOpIn (Fence.wide.inRound l) n P ops Q i K' a w := by
  unfold wpOp at hh
  unfold wpOpIn
  split
  · rename_i ho; simp only [ho] at hh; exact h _ _ hh
  · rename_i o ho
    simp only [ho] at hh
    split
    · rename_i hw; simp only [hw, if_true] at hh
      rcases hh with hh | hh
      · refine wpIn_of_wpOper (fun c hc => ?_) hL h hh
        have := Array.all_eq_true.1 hd i (Array.getElem?_eq_some_iff.1 ho).1
        rw [(Array.getElem?_eq_some_iff.1 ho).2, hc] at this
        cases this
      · exact absurd hh.2 hL
    · rename_i hw; simp only [hw] at hh; exact ⟨fun _ _ => trivial, h _ _ hh⟩
theorem wpOpsIn_of_wpOps (hd : noDefer ops = true) (hL : ¬ LetsOut Q) : ∀ (is : List Nat) (a : Act) (w : World), wpOps P ops Q is a w → wpOpsIn (Fence.wide.inRound l) n P ops Q is a w
  | [], _, _, h => h
  | i :: r, a, w, h => by
    rw [wpOpsIn_cons]
    rw [wpOps_cons] at h
    exact wpOpIn_of_wpOp hd hL (fun a w => wpOpsIn_of_wpOps hd hL r a w) h
theorem wpAnyIn_of_wpAny (hd : noDefer ops = true) (hL : ¬ LetsOut Q) : ∀ (fuel : Nat) (listed : Array Bool) (a : Act) (w : World), wpAny P md ops Q fuel listed a w → wpAnyIn (Fence.wide.inRound l) n P md ops Q fuel listed a w
  | 0, _, _, _, h => h
  | fuel + 1, _, _, _, h => ⟨h.1, fun i hi => wpOpIn_of_wpOp hd hL (fun a w => wpAnyIn_of_wpAny hd hL fuel _ a w) (h.2 i hi)⟩
variable {a : Act} {w : World} {c : Code}
theorem syI_reg (hd : noDefer (opsAt c) = true) (hL : ¬ LetsOut Q) (h : RegW P c Q a w) : c.wpIn (Fence.wide.inRound l) n P Q a w := by
  rcases h with ⟨id, ops, rfl, h⟩ | ⟨id, ops, rfl, hm, h⟩
  · exact wpIn_region (wpOpsIn_of_wpOps hd hL _ _ _ h)
  · exact wpIn_region_any hm (wpAnyIn_of_wpAny hd hL _ _ _ _ h)
variable {F : Fence}
theorem syI_seq (x y : Code) (hc : c = .seq x y) (h : x.wpIn F n P (Exit.then (y.wpIn F n P Q) Q) a w) : c.wpIn F n P Q a w := hc ▸ wpIn_seq h
theorem syI_block (id : Nat) (x : Code) (hc : c = .block id x) (h : x.wpIn F n P (Exit.inBlock id Q) a w) : c.wpIn F n P Q a w := hc ▸ wpIn_block h
theorem syI_yes (o : Operand) (x y : Code) (hc : c = .cond o x y) (ho : a.eval o = .bool true) (h : x.wpIn F n P Q a w) : c.wpIn F n P Q a w := hc ▸ wpIn_cond_true ho h
theorem syI_no (o : Operand) (x y : Code) (hc : c = .cond o x y) (ho : a.eval o = .bool false) (h : y.wpIn F n P Q a w) : c.wpIn F n P Q a w := hc ▸ wpIn_cond_false ho h
theorem syI_skip (hc : c = .skip) (h : Q .normal a w) : c.wpIn F n P Q a w := hc ▸ wpIn_skip h
theorem syI_exit (id : Nat) (hc : c = .exit id) (h : Q (.exit id) a w) : c.wpIn F n P Q a w := hc ▸ wpIn_exit h
theorem syI_ret (hc : c = .ret) (h : Q .ret a w) : c.wpIn F n P Q a w := hc ▸ wpIn_ret h
theorem syI_loop (x : Code) (I : Act → World → Prop) (μ : Act → World → Nat) (hc : c = .loop x) (h0 : I a w)
    (round : ∀ a w, I a w → x.wpIn F n P (Exit.then (fun a' w' => I a' w' ∧ μ a' w' < μ a w) Q) a w) : c.wpIn F n P Q a w := hc ▸ wpIn_loop I μ h0 round
theorem syI_np (h : c.wpIn F n P (NoPanic Q) a w) : c.wpIn F n P Q a w := wpIn_mono h NoPanic.imp
theorem syI_part (c' : Code) (hc : c = c') (h : c'.wpIn F n P Q a w) : c.wpIn F n P Q a w := hc ▸ h
theorem syI_frame (b : Act) (h : a = b) (hq : c.wpIn F n P Q b w) : c.wpIn F n P Q a w := h ▸ hq
end
end Go.Own
