/-
  A region that draws its order and only reads, within a round of a range over a function, at the wide fence: by the plain lexical walk. The entry of a function that holds a range over a function, by the plain walk. Conditions: none.
-/
import Derived.Test.YtpflmldmbpnllaaDoorRange
import Derived.Test.YtpflmldmbpnllaaDoorOwnRow
namespace Go.Own
open Go Go.RowKit
variable {P : Program} {ops : Array Oper} {md : Region.Mode} {C : World → Prop} {l n : Nat}

def noDefer (ops : Array Oper) : Bool := ops.all fun o => match o.op with | .defer _ => false | _ => true

theorem wpIn_of_quietW {o : Oper} {a : Act} {K : Act → Prop} {K' : Act → World → Prop} {Q' : Exit → Act → World → Prop} {w : World} (hd : ∀ c, o.op ≠ .defer c) (hw : C w)
    (h : ∀ a w', C w' → K a → K' a w') (hh : o.quiet P a C K) : o.wpIn (Fence.wide.inRound l) n P a w K' Q' := by
  obtain ⟨v, h1, h2⟩ := hh
  have h3 := h1 w hw
  unfold Oper.quietAt at h3
  unfold Oper.wpIn
  refine ⟨fun _ _ => trivial, ?_⟩
  rw [Oper.semAt_eq _ _ _ hd]
  generalize (execOp a.eval o).run P w = r at *
  cases r with
  | ok x w' =>
    cases x <;> simp only [Oper.quietUpon] at h3 <;> simp only [Oper.uponIn]
    case value u =>
      obtain ⟨e1, e2⟩ := h3
      rw [e1, e2]
      exact h _ _ hw h2
    case skip =>
      obtain ⟨e1, e2⟩ := h3
      rw [e1, ← e2]
      exact h _ _ hw h2
    case enter f args =>
      obtain ⟨e1, hc⟩ := h3
      rw [e1]
      refine ⟨fun hx => by simp [Fence.wide, Fence.inRound] at hx, ?_⟩
      refine (CallsIn.inRound l (callsIn_wide.2 hc)).mono fun e w'' ⟨he, hw''⟩ => by subst he; exact h _ _ hw'' h2
  | halt x w' => simp only [Oper.quietUpon] at h3

theorem wpOpIn_of_qOpW {i : Nat} {a : Act} {K : Act → Prop} {K' : Act → World → Prop} {Q' : Exit → Act → World → Prop} {w : World} (hd : noDefer ops = true) (hC : C w)
    (h : ∀ a w', C w' → K a → K' a w') (hh : qOp P ops C i K a) : wpOpIn (Fence.wide.inRound l) n P ops Q' i K' a w := by
  unfold qOp at hh
  unfold wpOpIn
  split
  · rename_i ho; simp only [ho] at hh; exact h _ _ hC hh
  · rename_i o ho
    simp only [ho] at hh
    split
    · rename_i hw; simp only [hw, if_true] at hh
      refine wpIn_of_quietW (fun c hc => ?_) hC h hh
      have := Array.all_eq_true.1 hd i (Array.getElem?_eq_some_iff.1 ho).1
      rw [(Array.getElem?_eq_some_iff.1 ho).2, hc] at this
      cases this
    · rename_i hw; simp only [hw] at hh; exact ⟨fun _ _ => trivial, h _ _ hC hh⟩

theorem wpAnyIn_of_quietW {Q : Act → Prop} {Q' : Exit → Act → World → Prop} (hd : noDefer ops = true) (hQ : ∀ a w, C w → Q a → Q' .normal a w) : ∀ (fuel : Nat) (listed : Array Bool) (a : Act) (w : World), C w →
    wpAnyQ P md ops C Q fuel listed a → wpAnyIn (Fence.wide.inRound l) n P md ops Q' fuel listed a w
  | 0, _, _, _, hw, h => ⟨h.1, hQ _ _ hw h.2⟩
  | fuel + 1, _, _, _, hw, h => ⟨fun h0 => hQ _ _ hw (h.1 h0), fun i hi => wpOpIn_of_qOpW hd hw (fun a' w' hw' => wpAnyIn_of_quietW hd hQ fuel _ a' w' hw') (h.2 i hi)⟩

theorem round_region_quiet {id : Nat} {Q : Exit → Act → World → Prop} {a : Act} {w : World} (hm : P.follows .mixedOrders = true) (hB : Region.lexB .any ops = true) (hd : noDefer ops = true) (hC : C { w with drawn := w.drawn + 1 })
    (h : wpQuiet P ops C (fun a' => ∀ w', C w' → Q .normal a' w') ops.toList a) : (Code.region id ops true).wpIn (Fence.wide.inRound l) n P Q a w := by
  simp only [Region.lexB, Bool.and_eq_true] at hB
  refine wpIn_region_any hm (wpAnyIn_of_quietW (Q := fun a' => ∀ w', C w' → Q .normal a' w') hd (fun _ w' hw' h => h w' hw') _ _ _ _ hC ?_)
  have := wpAnyQ_lex (C := C) (md := .any) hB.1 ops.toList 0 (Array.replicate ops.size false) a (by simp) (by simpa using hB.2) h
  simpa using this

/-- The same for a region whose operations are written out, at the class 'w behind some draws'. -/
theorem round_quiet {id : Nat} {Q : Exit → Act → World → Prop} {a : Act} {w : World} {l' : List Oper} (hm : P.follows .mixedOrders = true) (hB : Region.lexB .any l'.toArray = true) (hd : noDefer l'.toArray = true)
    (h : wpQuiet P l'.toArray (fun w' => ∃ n, w' = w.drewN n) (fun a' => ∀ w', (∃ n, w' = w.drewN n) → Q .normal a' w') l' a) : (Code.region id l'.toArray true).wpIn (Fence.wide.inRound l) n P Q a w :=
  round_region_quiet (C := fun w' => ∃ n, w' = w.drewN n) hm hB hd ⟨1, rfl⟩ (by simpa using h)

/-- A function that holds a range over a function, entered by the plain walk. -/
theorem calls_marks (n : Nat) {f : FuncId} {fn : Func} {c : Code} {args : Array Value} {w : World} {R : Ending → World → Prop} (hf : P.funcs[f]? = some fn) (hb : fn.body = some c)
    (h : c.wp P (bodyPostM Fence.wide n P fn R) { tmps := args ++ Array.replicate (fn.ntmps - args.size) undef, defers := [] } w) : Calls P f args w R :=
  (callsIn_wide (n := n)).1 (callsIn_of_wp_marks hf hb trivial (wpIn_wide.2 h))

/-- The range over a function, in a plain walk. -/
theorem wp_range {α : Type} (n : Nat) {g : Operand} {ps : Array Tmp} {assign body : Code} {Q : Exit → Act → World → Prop} {a : Act} {w : World}
    {gf : Nat} {lb : Array Value} (hg : a.eval g = .func (.func gf) #[] lb) (eg : ∀ args w, (callFunc gf args).run P w = .ok (.enter gf args) w)
    {encs : α → Array Value} (hps : ∀ x, (encs x).size = ps.size) {xs : List α} {Mi : Nat → Prop} {S : Nat → World → Prop} (hMi : ∀ j, Mi j → j < w.heap.size)
    (hseq : SeqOwn Fence.wide (n + 2) P gf lb encs xs Mi S) (hS : ∀ k A B, S k A → Turn w.heap.size Nob A B → S k B) (hS0 : S 0 w)
    (I : Nat → World → Prop) (Ix : Code → World → Prop) (hI : ∀ k A B, I k A → Turn w.heap.size Mi A B → I k B) (hIx : ∀ c A B, Ix c A → Turn w.heap.size Mi A B → Ix c B) (h0 : I 0 w)
    (Ax : Nat → α → Act → World → Prop) (hAx : ∀ k x a' A B, Ax k x a' A → Turn w.heap.size Nob A B → Ax k x a' B)
    (hassign : ∀ (l k : Nat) (x : α) (W : World) (K : Act → World → Prop), xs[k]? = some x → I k W → S k W → (∀ a' W', KeepsFrom w.heap.size W W' → I k W' → S k W' → Ax k x a' W' → K a' W') →
      assign.wpIn (Fence.wide.inRound l) (n + 1) P (Exit.then K (fun _ _ _ => False)) { tmps := (ps.zip (encs x)).foldl (fun t (p, v) => t.setIfInBounds p v) a.tmps, defers := [] } W)
    (hbody : ∀ (l k : Nat) (x : α) (a' : Act) (W : World), w.heap.size ≤ l → (∃ r, W.heap[l]? = some (.loop r)) → xs[k]? = some x → I k W → S k W → Ax k x a' W →
      body.wpIn (Fence.wide.inRound l) (n + 1) P (rangeEnd w.heap.size (fun W' => I (k + 1) W' ∧ S k W') Ix W) a' W)
    (hdone : ∀ (D : Nat) (W : World), w.heap.size ≤ D → I xs.length W → W.heap[D]? = some (.deferred (some [])) → Q .normal { a with defers := { target := .collected D, args := #[] } :: a.defers } W)
    (hstop : ∀ (D : Nat) (c : Code) (W : World), w.heap.size ≤ D → Ix c W → W.heap[D]? = some (.deferred (some [])) → c.wp P Q { a with defers := { target := .collected D, args := #[] } :: a.defers } W) :
    (Code.rangeFunc g ps assign body).wp P Q a w :=
  (wpIn_wide (n := n + 3)).1 (own_range (F := Fence.wide) rfl (by omega) hg trivial eg hps hMi hseq hS hS0 I Ix hI hIx h0 Ax hAx hassign hbody hdone (fun D c W h1 h2 h3 => wpIn_wide.2 (hstop D c W h1 h2 h3)))

/-- The same, where the loop's variable lies in a temporary: 'f x' is the frame behind the assignment. -/
theorem wp_range1 {α : Type} (n : Nat) {g : Operand} {ps : Array Tmp} {assign body : Code} {Q : Exit → Act → World → Prop} {a : Act} {w : World}
    {gf : Nat} {lb : Array Value} (hg : a.eval g = .func (.func gf) #[] lb) (eg : ∀ args w, (callFunc gf args).run P w = .ok (.enter gf args) w)
    {encs : α → Array Value} (hps : ∀ x, (encs x).size = ps.size) {xs : List α} {Mi : Nat → Prop} {S : Nat → World → Prop} (hMi : ∀ j, Mi j → j < w.heap.size)
    (hseq : SeqOwn Fence.wide (n + 2) P gf lb encs xs Mi S) (hS : ∀ k A B, S k A → Turn w.heap.size Nob A B → S k B) (hS0 : S 0 w)
    (I : Nat → World → Prop) (Ix : Code → World → Prop) (hI : ∀ k A B, I k A → Turn w.heap.size Mi A B → I k B) (hIx : ∀ c A B, Ix c A → Turn w.heap.size Mi A B → Ix c B) (h0 : I 0 w)
    (f : α → Act)
    (hassign : ∀ (l k : Nat) (x : α) (W : World) (K : Act → World → Prop), xs[k]? = some x → I k W → S k W → K (f x) W →
      assign.wpIn (Fence.wide.inRound l) (n + 1) P (Exit.then K (fun _ _ _ => False)) { tmps := (ps.zip (encs x)).foldl (fun t (p, v) => t.setIfInBounds p v) a.tmps, defers := [] } W)
    (hbody : ∀ (l k : Nat) (x : α) (W : World), w.heap.size ≤ l → (∃ r, W.heap[l]? = some (.loop r)) → xs[k]? = some x → I k W → S k W →
      body.wpIn (Fence.wide.inRound l) (n + 1) P (rangeEnd w.heap.size (fun W' => I (k + 1) W' ∧ S k W') Ix W) (f x) W)
    (hdone : ∀ (D : Nat) (W : World), w.heap.size ≤ D → I xs.length W → W.heap[D]? = some (.deferred (some [])) → Q .normal { a with defers := { target := .collected D, args := #[] } :: a.defers } W)
    (hstop : ∀ (D : Nat) (c : Code) (W : World), w.heap.size ≤ D → Ix c W → W.heap[D]? = some (.deferred (some [])) → c.wp P Q { a with defers := { target := .collected D, args := #[] } :: a.defers } W) :
    (Code.rangeFunc g ps assign body).wp P Q a w :=
  wp_range n hg eg hps hMi hseq hS hS0 I Ix hI hIx h0 (fun _ x a' _ => a' = f x) (fun _ _ _ _ _ h _ => h)
    (fun l k x W K hx hi hs hK => hassign l k x W K hx hi hs (hK _ _ (KeepsFrom.refl _ _) hi hs rfl)) (fun l k x a' W hl hr hx hi hs ha => by subst ha; exact hbody l k x W hl hr hx hi hs) hdone hstop

/-- The same with an iterator that may have no end, where the loop's variable lies in a temporary: 'f x' is the frame behind the assignment. -/
theorem wp_range1G {α : Type} (E : Prop) (n : Nat) {g : Operand} {ps : Array Tmp} {assign body : Code} {Q : Exit → Act → World → Prop} {a : Act} {w : World}
    {gf : Nat} {lb : Array Value} (hg : a.eval g = .func (.func gf) #[] lb) (eg : ∀ args w, (callFunc gf args).run P w = .ok (.enter gf args) w)
    {encs : α → Array Value} (hps : ∀ x, (encs x).size = ps.size) {xs : List α} {Mi : Nat → Prop} {S : Nat → World → Prop} (hMi : ∀ j, Mi j → j < w.heap.size)
    (hseq : SeqOwnG E Fence.wide (n + 2) P gf lb encs xs Mi S) (hS : ∀ k A B, S k A → Turn w.heap.size Nob A B → S k B) (hS0 : S 0 w)
    (I : Nat → World → Prop) (Ix : Code → World → Prop) (hI : ∀ k A B, I k A → Turn w.heap.size Mi A B → I k B) (hIx : ∀ c A B, Ix c A → Turn w.heap.size Mi A B → Ix c B) (h0 : I 0 w) (hE : E → ∀ W, ¬ I xs.length W)
    (f : α → Act)
    (hassign : ∀ (l k : Nat) (x : α) (W : World) (K : Act → World → Prop), xs[k]? = some x → I k W → S k W → K (f x) W →
      assign.wpIn (Fence.wide.inRound l) (n + 1) P (Exit.then K (fun _ _ _ => False)) { tmps := (ps.zip (encs x)).foldl (fun t (p, v) => t.setIfInBounds p v) a.tmps, defers := [] } W)
    (hbody : ∀ (l k : Nat) (x : α) (W : World), w.heap.size ≤ l → (∃ r, W.heap[l]? = some (.loop r)) → xs[k]? = some x → I k W → S k W →
      body.wpIn (Fence.wide.inRound l) (n + 1) P (rangeEnd w.heap.size (fun W' => I (k + 1) W' ∧ S k W') Ix W) (f x) W)
    (hdone : ∀ (D : Nat) (W : World), w.heap.size ≤ D → I xs.length W → W.heap[D]? = some (.deferred (some [])) → Q .normal { a with defers := { target := .collected D, args := #[] } :: a.defers } W)
    (hstop : ∀ (D : Nat) (c : Code) (W : World), w.heap.size ≤ D → Ix c W → W.heap[D]? = some (.deferred (some [])) → c.wp P Q { a with defers := { target := .collected D, args := #[] } :: a.defers } W) :
    (Code.rangeFunc g ps assign body).wp P Q a w :=
  (wpIn_wide (n := n + 3)).1 (own_rangeG (F := Fence.wide) E rfl (by omega) hg trivial eg hps hMi hseq hS hS0 I Ix hI hIx h0 hE (fun _ x a' _ => a' = f x) (fun _ _ _ _ _ h _ => h)
    (fun l k x W K hx hi hs hK => hassign l k x W K hx hi hs (hK _ _ (KeepsFrom.refl _ _) hi hs rfl)) (fun l k x a' W hl hr hx hi hs ha => by subst ha; exact hbody l k x W hl hr hx hi hs) hdone (fun D c W h1 h2 h3 => wpIn_wide.2 (hstop D c W h1 h2 h3)))

/-- The end of such a function: one result in a temporary or a cell, the world behind it. -/
theorem marks_ret {fn : Func} {R : Ending → World → Prop} {n D : Nat} {t : Array Value} {v : Value} {W : World} (hD : W.heap[D]? = some (.deferred (some [])))
    (hres : (results fn t).run P (W.putObj D (.deferred none)) = .ok v (W.putObj D (.deferred none))) (h : R (.returned v) (W.putObj D (.deferred none))) :
    bodyPostM Fence.wide n P fn R .ret { tmps := t, defers := [{ target := .collected D, args := #[] }] } W :=
  ⟨by simp, .inl ⟨_, _, rfl, run_takeDeferred hD, ⟨_, hres, h⟩⟩⟩
theorem marks_normal {fn : Func} {R : Ending → World → Prop} {n D : Nat} {t : Array Value} {v : Value} {W : World} (hD : W.heap[D]? = some (.deferred (some [])))
    (hres : (results fn t).run P (W.putObj D (.deferred none)) = .ok v (W.putObj D (.deferred none))) (h : R (.returned v) (W.putObj D (.deferred none))) :
    bodyPostM Fence.wide n P fn R .normal { tmps := t, defers := [{ target := .collected D, args := #[] }] } W :=
  ⟨by simp, .inl ⟨_, _, rfl, run_takeDeferred hD, ⟨_, hres, h⟩⟩⟩

/-- What an append to an own row leaves of all that is no cells. -/
theorem Row.others {w w' : World} {e : TypeId} {size n : Nat} {v : Value} {xs : List Value} (h : Row w e size v n xs) (hg : w.grownBy w' v.ownBlock) : KeepsOthers w w' :=
  KeepsOthers.of_grownBy hg fun j o hj ho => by
    obtain ⟨cs, hc⟩ := h.elem hj
    rw [ho] at hc
    simp only [Option.some.injEq] at hc
    rw [hc]; rfl

end Go.Own
