/-
  Laws for a walk that a program prints step by step ('sym.py'): each step's side conditions are reckoned by the kernel. Conditions: none.
-/
import Derived.Test.YtpflmldmbpnllaaDoorRegion2
import Derived.Test.YtpflmldmbpnllaaDoorMore
import Derived.StillTail
import Derived.Deep.RegionHeld3
import Derived.Shelf.Abstract
import Derived.IntWalk
import Derived.LoopN
namespace Go.Own
open Go Go.RowKit Go.Shelf
/-! Short words of printed walks. -/
abbrev iN (n : Nat) : Value := .int .i64 ((n : Nat) : Int)
abbrev uN (n : Nat) : Value := .int .u64 ((n : Nat) : Int)
abbrev cN (n : Nat) : Value := .int .u8 ((n : Nat) : Int)
abbrev pT (g o : Nat) : Value := .pointer (some ⟨g, o, none⟩)
abbrev zr_i64_25 : Array Value := #[.int .i64 0, .int .i64 0, .int .i64 0, .int .i64 0, .int .i64 0, .int .i64 0, .int .i64 0, .int .i64 0, .int .i64 0, .int .i64 0, .int .i64 0, .int .i64 0, .int .i64 0, .int .i64 0, .int .i64 0, .int .i64 0, .int .i64 0, .int .i64 0, .int .i64 0, .int .i64 0, .int .i64 0, .int .i64 0, .int .i64 0, .int .i64 0, .int .i64 0]
abbrev zr_u64_24 : Array Value := #[.int .u64 0, .int .u64 0, .int .u64 0, .int .u64 0, .int .u64 0, .int .u64 0, .int .u64 0, .int .u64 0, .int .u64 0, .int .u64 0, .int .u64 0, .int .u64 0, .int .u64 0, .int .u64 0, .int .u64 0, .int .u64 0, .int .u64 0, .int .u64 0, .int .u64 0, .int .u64 0, .int .u64 0, .int .u64 0, .int .u64 0, .int .u64 0]
abbrev zr_u64_25 : Array Value := #[.int .u64 0, .int .u64 0, .int .u64 0, .int .u64 0, .int .u64 0, .int .u64 0, .int .u64 0, .int .u64 0, .int .u64 0, .int .u64 0, .int .u64 0, .int .u64 0, .int .u64 0, .int .u64 0, .int .u64 0, .int .u64 0, .int .u64 0, .int .u64 0, .int .u64 0, .int .u64 0, .int .u64 0, .int .u64 0, .int .u64 0, .int .u64 0, .int .u64 0]
abbrev zr_u64_5 : Array Value := #[.int .u64 0, .int .u64 0, .int .u64 0, .int .u64 0, .int .u64 0]
abbrev zr_u8_32 : Array Value := #[.int .u8 0, .int .u8 0, .int .u8 0, .int .u8 0, .int .u8 0, .int .u8 0, .int .u8 0, .int .u8 0, .int .u8 0, .int .u8 0, .int .u8 0, .int .u8 0, .int .u8 0, .int .u8 0, .int .u8 0, .int .u8 0, .int .u8 0, .int .u8 0, .int .u8 0, .int .u8 0, .int .u8 0, .int .u8 0, .int .u8 0, .int .u8 0, .int .u8 0, .int .u8 0, .int .u8 0, .int .u8 0, .int .u8 0, .int .u8 0, .int .u8 0, .int .u8 0]
abbrev zr_u8_8 : Array Value := #[.int .u8 0, .int .u8 0, .int .u8 0, .int .u8 0, .int .u8 0, .int .u8 0, .int .u8 0, .int .u8 0]

theorem Keeps.bk {g : Nat} {W W' : World} (k : Keeps Nob W W') {x : Obj} (h : W.heap[g]? = some x) : W'.heap[g]? = some x := (k.block g (Array.getElem?_eq_some_iff.1 h).1 (fun x => x)).trans h
theorem Keeps.bo {g j : Nat} {W W' : World} (k : Keeps (One j) W W') {x : Obj} (h : W.heap[g]? = some x) (hne : g ≠ j) : W'.heap[g]? = some x := (k.block g (Array.getElem?_eq_some_iff.1 h).1 hne).trans h
theorem Keeps.nn {M : Nat → Prop} {w V V' : World} (K : Keeps M w V) (k : Keeps Nob V V') : Keeps M w V' := K.then k (fun _ _ x => x.elim)
theorem Keeps.no {M : Nat → Prop} {g : Nat} {w V V' : World} (K : Keeps M w V) (k : Keeps (One g) V V') (h : w.heap.size ≤ g) : Keeps M w V' := K.then k (fun i hi hm => absurd hi (by unfold One at hm; omega))
theorem drew_step (W : World) : ∃ V, W.drew = V ∧ Keeps Nob W V := ⟨_, rfl, (Keeps.refl _ _).drew⟩
theorem alloc_step (W : World) (c : Array Value) (T : TypeId) : ∃ V, W.alloc (.cells c T) = V ∧ ∃ g, W.heap.size = g ∧ V.heap[g]? = some (.cells c T (0, 0)) ∧ Keeps Nob W V := ⟨_, rfl, _, rfl, heap_alloc_new _ _, (Keeps.refl _ _).alloc _⟩
theorem cell_step (W : World) (g o : Nat) (v : Value) : ∃ V, W.setCell ⟨g, o, none⟩ v = V ∧ Keeps (One g) W V := ⟨_, rfl, (Keeps.refl _ _).setOne _⟩
theorem rowset_step (W : World) (g : Nat) (c : Array Value) : ∃ V, W.setRow g c = V ∧ Keeps (One g) W V := ⟨_, rfl, (Keeps.refl (One g) _).setRow (fun _ => rfl) _⟩
/-- A part of a body, by its place: a number in base 2 whose first digit is cut off; 0: the left, 1: the right. -/
noncomputable def sub : List Bool → Code → Code
  | [], c => c
  | p :: r, .seq x y => sub r (bif p then y else x)
  | _ :: r, .block _ x => sub r x
  | p :: r, .cond _ x y => sub r (bif p then y else x)
  | _ :: r, .loop x => sub r x
  | p :: r, .rangeFunc _ _ x y => sub r (bif p then y else x)
  | _ :: _, c => c
def placeOf : Nat → Nat → List Bool
  | 0, _ => []
  | f + 1, n => if n ≤ 1 then [] else placeOf f (n / 2) ++ [n % 2 == 1]
noncomputable def partOf (f : Func) (n : Nat) : Code := sub (placeOf 200 n) (f.body.getD .skip)
noncomputable def opsAt (c : Code) : Array Oper := match c with | .region _ ops _ => ops | _ => #[]

section
variable {P : Program} {Q : Exit → Act → World → Prop} {a : Act} {w : World} {c : Code}
theorem sy_enter {f : FuncId} {fn : Func} {args : Array Value} {R : Ending → World → Prop} (c : Code) (a : Act) (hf : P.funcs[f]? = some fn) (hb : fn.body = some c)
    (ha : ({ tmps := args ++ Array.replicate (fn.ntmps - args.size) undef, defers := [] } : Act) = a) (h : c.wp P (bodyPost P fn R) a w) : Calls P f args w R :=
  calls_of_wp hf hb (ha ▸ h)
theorem sy_seq (x y : Code) (hc : c = .seq x y) (h : x.wp P (Exit.then (y.wp P Q) Q) a w) : c.wp P Q a w := hc ▸ wp_seq h
theorem sy_block (id : Nat) (x : Code) (hc : c = .block id x) (h : x.wp P (Exit.inBlock id Q) a w) : c.wp P Q a w := hc ▸ wp_block h
theorem sy_yes (o : Operand) (x y : Code) (hc : c = .cond o x y) (ho : a.eval o = .bool true) (h : x.wp P Q a w) : c.wp P Q a w := hc ▸ wp_cond_true ho h
theorem sy_no (o : Operand) (x y : Code) (hc : c = .cond o x y) (ho : a.eval o = .bool false) (h : y.wp P Q a w) : c.wp P Q a w := hc ▸ wp_cond_false ho h
theorem sy_skip (hc : c = .skip) (h : Q .normal a w) : c.wp P Q a w := hc ▸ wp_skip h
theorem sy_exit (id : Nat) (hc : c = .exit id) (h : Q (.exit id) a w) : c.wp P Q a w := hc ▸ wp_exit h
theorem sy_ret (hc : c = .ret) (h : Q .ret a w) : c.wp P Q a w := hc ▸ wp_ret h
theorem sy_loop (x : Code) (I : Act → World → Prop) (μ : Act → World → Nat) (hc : c = .loop x) (h0 : I a w)
    (round : ∀ a w, I a w → x.wp P (Exit.then (fun a' w' => I a' w' ∧ μ a' w' < μ a w) Q) a w) : c.wp P Q a w := hc ▸ wp_loop I μ h0 round
/-- What is left of a plain region; of one whose order is open: of its head, of its tail. (Wrapped: else the walk would reckon it.) -/
structure Gops (P : Program) (ops : Array Oper) (Q : Exit → Act → World → Prop) (l : List Nat) (a : Act) (w : World) : Prop where
  out : wpOps P ops Q l a w
structure Gst (P : Program) (ops : Array Oper) (w : World) (K : Act → Prop) (l : List Oper) (a : Act) : Prop where
  out : wpStill P ops w K l a
structure Gls (P : Program) (ops : Array Oper) (Q : Exit → Act → World → Prop) (l : List Oper) (a : Act) (w : World) : Prop where
  out : wpList P ops Q l a w
/-- What a region asks. -/
def RegW (P : Program) (c : Code) (Q : Exit → Act → World → Prop) (a : Act) (w : World) : Prop :=
  (∃ id ops, c = .region id ops false ∧ wpOps P ops Q (List.range ops.size) a w) ∨
  (∃ id ops, c = .region id ops true ∧ P.follows .mixedOrders = true ∧ wpAny P .any ops Q ops.size (Array.replicate ops.size false) a w.drew)
theorem sy_reg (h : RegW P c Q a w) : c.wp P Q a w := by
  rcases h with ⟨id, ops, rfl, h⟩ | ⟨id, ops, rfl, hm, h⟩
  · exact wp_region h
  · exact wp_region_any hm h
theorem sy_np (h : c.wp P (NoPanic Q) a w) : c.wp P Q a w := wp_mono h NoPanic.imp
theorem rg_plain (id : Nat) (ops : Array Oper) (l : List Nat) (hc : c = .region id ops false) (hl : List.range ops.size = l) (h : Gops P ops Q l a w) : RegW P c Q a w :=
  .inl ⟨id, ops, hc, hl ▸ h.out⟩
theorem rg_held (id : Nat) (ops : Array Oper) (S : World → Prop) (n : Nat) (l : Array Bool) (hc : c = .region id ops true) (hm : P.follows .mixedOrders = true) (hn : ops.size = n) (hl : Array.replicate n false = l) (h : wpAnyH P .any ops Q S n l a w.drew) : RegW P c Q a w := by
  subst hn; subst hl; exact .inr ⟨id, ops, hc, hm, wpAny_of_held _ _ _ _ h⟩
theorem sy_act {e : Exit} (b : Act) (h : a = b) (hq : Q e b w) : Q e a w := h ▸ hq
theorem sy_a {e : Exit} (b : Act) (hq : Q e b w) (h : a = b := by kernel_rfl) : Q e a w := h ▸ hq
theorem sy_sq (x y : Code) (h : x.wp P (Exit.then (y.wp P Q) Q) a w) (hc : c = .seq x y := by kernel_rfl) : c.wp P Q a w := sy_seq x y hc h
theorem sy_bk (id : Nat) (x : Code) (h : x.wp P (Exit.inBlock id Q) a w) (hc : c = .block id x := by kernel_rfl) : c.wp P Q a w := sy_block id x hc h
theorem sy_ys (o : Operand) (x y : Code) (h : x.wp P Q a w) (hc : c = .cond o x y := by kernel_rfl) (ho : a.eval o = .bool true := by kernel_rfl) : c.wp P Q a w := sy_yes o x y hc ho h
theorem sy_n (o : Operand) (x y : Code) (h : y.wp P Q a w) (hc : c = .cond o x y := by kernel_rfl) (ho : a.eval o = .bool false := by kernel_rfl) : c.wp P Q a w := sy_no o x y hc ho h
theorem sy_sk (h : Q .normal a w) (hc : c = .skip := by kernel_rfl) : c.wp P Q a w := sy_skip hc h
theorem sy_cut (R : Act → World → Prop) (h : c.wp P (fun e a w => e = .normal ∧ R a w) a w) (k : ∀ a w, R a w → Q .normal a w) : c.wp P Q a w := wp_mono h (fun _ a w ⟨h1, h2⟩ => h1 ▸ k a w h2)
theorem sy_rounds (n : Nat) (x : Code) (hc : c = .loop x) (h : Code.rounds P x Q n a w) : c.wp P Q a w := hc ▸ wp_loop_rounds n h
theorem rd_step {n : Nat} (h : c.wp P (Exit.then (Code.rounds P c Q n) Q) a w) : Code.rounds P c Q (n + 1) a w := h
theorem sy_part (c' : Code) (hc : c = c') (h : c'.wp P Q a w) : c.wp P Q a w := hc ▸ h
theorem sy_frame (b : Act) (h : a = b) (hq : c.wp P Q b w) : c.wp P Q a w := h ▸ hq
theorem then_n {next : Act → World → Prop} (h : next a w) : Exit.then next Q .normal a w := h
theorem then_e {next : Act → World → Prop} {id : Nat} (h : Q (.exit id) a w) : Exit.then next Q (.exit id) a w := h
theorem then_r {next : Act → World → Prop} (h : Q .ret a w) : Exit.then next Q .ret a w := h
theorem blk_n {id : Nat} (h : Q .normal a w) : Exit.inBlock id Q .normal a w := h
theorem blk_e {id : Nat} (h : Q .normal a w) : Exit.inBlock id Q (.exit id) a w := by simp only [Exit.inBlock, if_true]; exact h
theorem blk_p {id id' : Nat} (hne : id' ≠ id) (h : Q (.exit id') a w) : Exit.inBlock id Q (.exit id') a w := by simp only [Exit.inBlock, if_neg hne]; exact h
theorem blk_r {id : Nat} (h : Q .ret a w) : Exit.inBlock id Q .ret a w := h
theorem sy_out {fn : Func} {R : Ending → World → Prop} (v : Value) (hd : a.defers = []) (hr : (results fn a.tmps).run P w = .ok v w) (h : R (.returned v) w) : bodyPost P fn R .ret a w := ⟨hd, v, hr, h⟩
theorem sy_fall {fn : Func} {R : Ending → World → Prop} (v : Value) (hd : a.defers = []) (hr : (results fn a.tmps).run P w = .ok v w) (h : R (.returned v) w) : bodyPost P fn R .normal a w := ⟨hd, v, hr, h⟩
/-- Several results, of which some lie in cells. -/
theorem sy_value {fn : Func} {t : Array Value} {v v' : Value} (h : v = v') (hr : (results fn t).run P w = .ok v w) : (results fn t).run P w = .ok v' w := h ▸ hr

/-- Two results: a row, and a temporary. -/
theorem results_row_tmp {fn : Func} {p q : Tmp} {ty : TypeId} (h : fn.results = #[.cell p ty, .tmp q]) (tmps : Array Value) (w : World) (g : Nat) (t : TypeId) (cs : Array Value) (fr : Nat × Nat) (d : TypeDesc) (v : Value)
    (hp : tmps.getD p undef = .pointer (some ⟨g, 0, none⟩)) (hg : w.heap[g]? = some (.cells cs t fr))
    (hu : P.underlying ty = some d) (hd : (match d with | .struct _ | .array _ _ => true | _ => false) = true) (hi : (P.info? ty).map (·.size) = some cs.size) (hq : tmps.getD q undef = v) :
    (results fn tmps).run P w = .ok (.tuple #[.agg cs, v]) w := by
  have hp' : tmps[p]?.getD undef = .pointer (some ⟨g, 0, none⟩) := by simpa using hp
  have hq' : tmps[q]?.getD undef = v := by simpa using hq
  simp [results, h, hp', hq', asAddr, run_loadVar_row w g t ty cs fr d hg hu hd hi]
variable {ops : Array Oper} {i : Nat} {rest : List Nat}
theorem ps_end (h : Q .normal a w) : Gops P ops Q [] a w := ⟨h⟩
theorem ps_run (o : Oper) (v : Value) {w' : World} (ho : ops[i]? = some o) (hg : Region.wanted o (yielded ops a.tmps) = true) (hrun : (execOp a.eval o).run P w = .ok (.value v) w') (h : Gops P ops Q rest (a.put o.dst v) w') : Gops P ops Q (i :: rest) a w :=
  ⟨by rw [wpOps_cons]; exact opH_run o v ho hg hrun h.out⟩
theorem ps_k (o : Oper) (v : Value) (h : Gops P ops Q rest (a.put o.dst v) w) (ho : ops[i]? = some o := by kernel_rfl) (hg : Region.wanted o (yielded ops a.tmps) = true := by kernel_rfl) (hrun : (execOp a.eval o).run P w = .ok (.value v) w := by kernel_rfl) : Gops P ops Q (i :: rest) a w := ps_run o v ho hg hrun h
theorem ps_p (o : Oper) (v : Value) (hrun : (execOp a.eval o).run P w = .ok (.value v) w) (h : Gops P ops Q rest (a.put o.dst v) w) (ho : ops[i]? = some o := by kernel_rfl) (hg : Region.wanted o (yielded ops a.tmps) = true := by kernel_rfl) : Gops P ops Q (i :: rest) a w := ps_run o v ho hg hrun h
theorem ps_skip (o : Oper) {w' : World} (ho : ops[i]? = some o) (hg : Region.wanted o (yielded ops a.tmps) = true) (hrun : (execOp a.eval o).run P w = .ok .skip w') (h : Gops P ops Q rest (a.put o.dst undef) w') : Gops P ops Q (i :: rest) a w := by
  refine ⟨?_⟩
  rw [wpOps_cons]
  unfold wpOp
  simp only [ho, hg, if_true]
  refine .inl ?_
  unfold Oper.wp
  rw [hrun]; exact h.out
theorem ps_no (o : Oper) (ho : ops[i]? = some o) (hg : Region.wanted o (yielded ops a.tmps) = false) (h : Gops P ops Q rest (a.put o.dst undef) w) : Gops P ops Q (i :: rest) a w := by
  refine ⟨?_⟩
  rw [wpOps_cons]
  unfold wpOp
  simp only [ho, hg, Bool.false_eq_true, if_false]
  exact h.out
theorem ps_call (o : Oper) (f : FuncId) (args : Array Value) (ho : ops[i]? = some o) (hg : Region.wanted o (yielded ops a.tmps) = true)
    (hc : o.op = .call { callee := .value (.func f), args := callArgs o, argTypes := callTypes o }) (hargs : (callArgs o).map a.eval = args) (he : ∀ args w, (callFunc f args).run P w = .ok (.enter f args) w)
    (h : Calls P f args w fun e w' => ∃ v, e = .returned v ∧ Gops P ops Q rest (a.put o.dst v) w') : Gops P ops Q (i :: rest) a w :=
  ⟨by rw [wpOps_cons]; exact opH_callF o f args ho hg hc hargs he (h.mono fun _ _ ⟨v, h1, h2⟩ => ⟨v, h1, h2.out⟩)⟩
theorem ps_callV (o : Oper) (x : Operand) (f : FuncId) (first caps args : Array Value) (ho : ops[i]? = some o) (hg : Region.wanted o (yielded ops a.tmps) = true)
    (hc : o.op = .call { callee := .value x, args := callArgs o, argTypes := callTypes o }) (hx : a.eval x = .func (.func f) first caps) (hargs : first ++ (callArgs o).map a.eval ++ caps = args) (he : ∀ args w, (callFunc f args).run P w = .ok (.enter f args) w)
    (h : Calls P f args w fun e w' => ∃ v, e = .returned v ∧ Gops P ops Q rest (a.put o.dst v) w') : Gops P ops Q (i :: rest) a w := by
  refine ⟨?_⟩
  rw [wpOps_cons]
  unfold wpOp
  simp only [ho, hg, if_true]
  refine .inl ?_
  unfold Oper.wp execOp
  simp only [hc, resolve, hx, Sem.run_bind, Deferred.ofValue, Sem.run_pure, Result.andThen_ok, invoke, hargs, he]
  refine Calls.mono h fun e w' ⟨v, he, hv⟩ => ?_
  subst he
  exact hv.out

/-! A region whose head leaves the world alone, and whose tail goes on step by step. -/
theorem rg_still (id n : Nat) (ops : Array Oper) (hd tl : List Oper) (hc : c = .region id ops true) (hm : P.follows .mixedOrders = true) (hB : Region.lexTailB .any ops n = true) (hh : ops.toList.take n = hd) (ht : ops.toList.drop n = tl)
    (h : Gst P ops w.drew (fun a' => Gls P ops Q tl a' w.drew) hd a) : RegW P c Q a w := by
  subst hh; subst ht
  have h2 : ∀ (l : List Oper) (a : Act) (K K' : Act → Prop), (∀ a, K a → K' a) → wpStill P ops w.drew K l a → wpStill P ops w.drew K' l a := by
    intro l
    induction l with
    | nil => intro a K K' hk h; exact hk a h
    | cons o r ih =>
      intro a K K' hk h
      unfold wpStill at h ⊢
      split at h
      · rename_i hw; rw [if_pos hw]; exact Oper.still_mono (fun a h => ih a K K' hk h) h
      · rename_i hw; rw [if_neg hw]; exact ih _ K K' hk h
  have h3 := h2 _ _ _ (fun a' => wpList P ops Q (ops.toList.drop n) a' w.drew) (fun _ h => h.out) h.out
  refine .inr ⟨id, ops, hc, hm, ?_⟩
  simp only [Region.lexTailB, Bool.and_eq_true, decide_eq_true_eq] at hB
  obtain ⟨⟨⟨⟨hsel, hn⟩, hs⟩, hch⟩, hlex⟩ := hB
  have htl : (ops.toList.take n).length = n := by simp; omega
  have hdl : (ops.toList.drop n).length = ops.size - n := by simp
  have inv0 : HeadInv .any ops n (Array.replicate ops.size false) := ⟨by simp, fun j oj _ hl => (by rw [getD_replicate_false] at hl; cases hl), fun t _ ht => getD_in (by simpa using ht) (getD_replicate_false _ _)⟩
  have H := wpAnyL_lex (md := .any) (g := ops.size - n) (w := w.drew) hsel hs hch hn (ops.toList.take n) 0 _ a (fun j hj => by
    have hj' : j < n := by rw [htl] at hj; exact hj
    simp [hj']) (by simpa using htl) inv0 (by rw [htl]; exact hlex) h3
  have := wpAny_of_head (Q' := Q) (g := ops.size - n) (fun listed a' hL => by
    have := wpAny_of_seq (md := .any) (Q' := Q) (ops.toList.drop n) n listed a' w.drew (fun j => by simp [List.getElem?_drop]) (by rw [hdl]; exact hL.1) hL.2
    rwa [hdl] at this) _ _ _ H
  rw [htl, show n + (ops.size - n) = ops.size by omega] at this
  exact this
section
variable {rest : List Oper} {K : Act → Prop}
theorem st_run (o : Oper) (v : Value) (hg : Region.wanted o (yielded ops a.tmps) = true) (hrun : (execOp a.eval o).run P w = .ok (.value v) w) (h : Gst P ops w K rest (a.put o.dst v)) : Gst P ops w K (o :: rest) a := by
  refine ⟨?_⟩
  unfold wpStill
  rw [if_pos hg]
  unfold Oper.still
  rw [hrun]
  exact ⟨rfl, h.out⟩
theorem st_k (o : Oper) (v : Value) (h : Gst P ops w K rest (a.put o.dst v)) (hg : Region.wanted o (yielded ops a.tmps) = true := by kernel_rfl) (hrun : (execOp a.eval o).run P w = .ok (.value v) w := by kernel_rfl) : Gst P ops w K (o :: rest) a := st_run o v hg hrun h
theorem st_p (o : Oper) (v : Value) (hrun : (execOp a.eval o).run P w = .ok (.value v) w) (h : Gst P ops w K rest (a.put o.dst v)) (hg : Region.wanted o (yielded ops a.tmps) = true := by kernel_rfl) : Gst P ops w K (o :: rest) a := st_run o v hg hrun h
theorem st_no (o : Oper) (hg : Region.wanted o (yielded ops a.tmps) = false) (h : Gst P ops w K rest (a.put o.dst undef)) : Gst P ops w K (o :: rest) a := by
  refine ⟨?_⟩
  unfold wpStill
  rw [if_neg (by simp [hg])]
  exact h.out
theorem st_call (o : Oper) (f : FuncId) (args : Array Value) (v : Value) (hg : Region.wanted o (yielded ops a.tmps) = true)
    (hc : o.op = .call { callee := .value (.func f), args := callArgs o, argTypes := callTypes o }) (hargs : (callArgs o).map a.eval = args) (he : ∀ args w, (callFunc f args).run P w = .ok (.enter f args) w)
    (hcall : Calls P f args w fun e w' => e = .returned v ∧ w = w') (h : Gst P ops w K rest (a.put o.dst v)) : Gst P ops w K (o :: rest) a := by
  refine ⟨?_⟩
  unfold wpStill
  rw [if_pos hg]
  unfold Oper.still execOp
  simp only [hc, resolve, hargs, Act.eval, Sem.run_bind, Deferred.ofValue, Sem.run_pure, Result.andThen_ok, invoke, Array.append_empty, Array.empty_append, he]
  exact ⟨rfl, v, hcall.mono (fun _ _ ⟨h1, h2⟩ => ⟨h1, h2.symm⟩), h.out⟩
theorem st_end (h : K a) : Gst P ops w K [] a := ⟨h⟩
theorem ls_end (h : Q .normal a w) : Gls P ops Q [] a w := ⟨h⟩
theorem ls_run (o : Oper) {w' : World} (v : Value) (hg : Region.wanted o (yielded ops a.tmps) = true) (hrun : (execOp a.eval o).run P w = .ok (.value v) w') (h : Gls P ops Q rest (a.put o.dst v) w') : Gls P ops Q (o :: rest) a w := by
  refine ⟨?_⟩
  unfold wpList
  rw [if_pos hg]
  left
  unfold Oper.wp
  rw [hrun]; exact h.out
theorem ls_skip (o : Oper) {w' : World} (hg : Region.wanted o (yielded ops a.tmps) = true) (hrun : (execOp a.eval o).run P w = .ok .skip w') (h : Gls P ops Q rest (a.put o.dst undef) w') : Gls P ops Q (o :: rest) a w := by
  refine ⟨?_⟩
  unfold wpList
  rw [if_pos hg]
  left
  unfold Oper.wp
  rw [hrun]; exact h.out
theorem ls_no (o : Oper) (hg : Region.wanted o (yielded ops a.tmps) = false) (h : Gls P ops Q rest (a.put o.dst undef) w) : Gls P ops Q (o :: rest) a w := by
  refine ⟨?_⟩
  unfold wpList
  rw [if_neg (by simp [hg])]
  exact h.out
theorem ls_call (o : Oper) (f : FuncId) (args : Array Value) (hg : Region.wanted o (yielded ops a.tmps) = true)
    (hc : o.op = .call { callee := .value (.func f), args := callArgs o, argTypes := callTypes o }) (hargs : (callArgs o).map a.eval = args) (he : ∀ args w, (callFunc f args).run P w = .ok (.enter f args) w)
    (h : Calls P f args w fun e w' => ∃ v, e = .returned v ∧ Gls P ops Q rest (a.put o.dst v) w') : Gls P ops Q (o :: rest) a w := by
  refine ⟨?_⟩
  unfold wpList
  rw [if_pos hg]
  left
  unfold Oper.wp execOp
  simp only [hc, resolve, hargs, Act.eval, Sem.run_bind, Deferred.ofValue, Sem.run_pure, Result.andThen_ok, invoke, Array.append_empty, Array.empty_append, he]
  refine Calls.mono h fun e w' ⟨v, he, hv⟩ => ?_
  subst he
  exact hv.out
end
end

/-! A region whose order is open, its free operations taken first. -/
section
variable {P : Program} {Q : Exit → Act → World → Prop} {a : Act} {w : World} {ops : Array Oper} {i : Nat} {S : World → Prop} {fuel : Nat} {l : Array Bool}
structure Gany (P : Program) (ops : Array Oper) (Q : Exit → Act → World → Prop) (S : World → Prop) (fuel : Nat) (l : Array Bool) (a : Act) (w : World) : Prop where
  out : wpAnyH P .any ops Q S fuel l a w
structure Gone (P : Program) (ops : Array Oper) (Q : Exit → Act → World → Prop) (S : World → Prop) (fuel : Nat) (l : Array Bool) (i : Nat) (a : Act) (w : World) : Prop where
  out : wpOp P ops Q i (fun a' w' => S w' ∧ Gany P ops Q S fuel l a' w') a w
theorem an_begin {c : Code} (id n : Nat) (ops : Array Oper) (S : World → Prop) (l : Array Bool) (hc : c = .region id ops true) (hm : P.follows .mixedOrders = true) (hn : ops.size = n) (hl : Array.replicate n false = l) (h : Gany P ops (NoPanic Q) S n l a w.drew) : RegW P c (NoPanic Q) a w := rg_held id ops S n l hc hm hn hl h.out
theorem an_val (i : Nat) (o : Oper) (v : Value) (hs : Region.noSelect ops = true) (ho : ops[i]? = some o) (hg : Region.wanted o (yielded ops a.tmps) = true) (hf : Region.free .any ops l i = true) (hr : (Region.ready .any ops l).contains i = true)
    (hrun : ∀ W, S W → (execOp a.eval o).run P W = .ok (.value v) W) (hS : S w) (h : Gany P ops (NoPanic Q) S fuel (l.setIfInBounds i true) (a.put o.dst v) w) : Gany P ops (NoPanic Q) S (fuel + 1) l a w :=
  ⟨wpAnyH_val (i := i) o v hs (fun _ _ _ _ _ h => h) ho hg hf hr hrun hS h.out⟩
theorem an_no (i : Nat) (o : Oper) (hs : Region.noSelect ops = true) (ho : ops[i]? = some o) (hg : Region.wanted o (yielded ops a.tmps) = false) (hf : Region.free .any ops l i = true) (hr : (Region.ready .any ops l).contains i = true)
    (hS : S w) (h : Gany P ops (NoPanic Q) S fuel (l.setIfInBounds i true) (a.put o.dst undef) w) : Gany P ops (NoPanic Q) S (fuel + 1) l a w :=
  ⟨wpAnyH_skip (i := i) o hs (fun _ _ _ _ _ h => h) ho hg hf hr hS h.out⟩
theorem an_one (i : Nat) (hr : Region.ready .any ops l = [i]) (h : Gone P ops Q S fuel (l.setIfInBounds i true) i a w) : Gany P ops Q S (fuel + 1) l a w :=
  ⟨wpAnyH_all hr (by simp) fun j hj => by obtain rfl : j = i := by simpa using hj
                                          exact wpOp_mono (fun _ _ h => ⟨h.1, h.2.out⟩) h.out⟩
theorem an_two (i j : Nat) (hr : Region.ready .any ops l = [i, j]) (h1 : Gone P ops Q S fuel (l.setIfInBounds i true) i a w) (h2 : Gone P ops Q S fuel (l.setIfInBounds j true) j a w) : Gany P ops Q S (fuel + 1) l a w :=
  ⟨anyH_two i j hr (wpOp_mono (fun _ _ h => ⟨h.1, h.2.out⟩) h1.out) (wpOp_mono (fun _ _ h => ⟨h.1, h.2.out⟩) h2.out)⟩
theorem an_three (i j k : Nat) (hr : Region.ready .any ops l = [i, j, k]) (h1 : Gone P ops Q S fuel (l.setIfInBounds i true) i a w) (h2 : Gone P ops Q S fuel (l.setIfInBounds j true) j a w) (h3 : Gone P ops Q S fuel (l.setIfInBounds k true) k a w) : Gany P ops Q S (fuel + 1) l a w :=
  ⟨wpAnyH_all hr (by simp) fun x hx => by
    simp only [List.mem_cons, List.not_mem_nil, or_false] at hx
    rcases hx with rfl | rfl | rfl
    · exact wpOp_mono (fun _ _ h => ⟨h.1, h.2.out⟩) h1.out
    · exact wpOp_mono (fun _ _ h => ⟨h.1, h.2.out⟩) h2.out
    · exact wpOp_mono (fun _ _ h => ⟨h.1, h.2.out⟩) h3.out⟩
theorem an_end (hr : Region.ready .any ops l = []) (h : Q .normal a w) : Gany P ops (NoPanic Q) S fuel l a w := ⟨wpAnyH_done hr (NoPanic.normal h) _⟩
theorem on_run (o : Oper) (v : Value) {w' : World} (ho : ops[i]? = some o) (hg : Region.wanted o (yielded ops a.tmps) = true) (hrun : (execOp a.eval o).run P w = .ok (.value v) w') (h : S w' ∧ Gany P ops Q S fuel l (a.put o.dst v) w') : Gone P ops Q S fuel l i a w :=
  ⟨opH_run o v ho hg hrun h⟩
theorem on_skip (o : Oper) {w' : World} (ho : ops[i]? = some o) (hg : Region.wanted o (yielded ops a.tmps) = true) (hrun : (execOp a.eval o).run P w = .ok .skip w') (h : S w' ∧ Gany P ops Q S fuel l (a.put o.dst undef) w') : Gone P ops Q S fuel l i a w := by
  refine ⟨?_⟩
  unfold wpOp
  simp only [ho, hg, if_true]
  refine .inl ?_
  unfold Oper.wp
  rw [hrun]; exact h
theorem on_call (o : Oper) (f : FuncId) (args : Array Value) (ho : ops[i]? = some o) (hg : Region.wanted o (yielded ops a.tmps) = true)
    (hc : o.op = .call { callee := .value (.func f), args := callArgs o, argTypes := callTypes o }) (hargs : (callArgs o).map a.eval = args) (he : ∀ args w, (callFunc f args).run P w = .ok (.enter f args) w)
    (h : Calls P f args w fun e w' => ∃ v, e = .returned v ∧ S w' ∧ Gany P ops Q S fuel l (a.put o.dst v) w') : Gone P ops Q S fuel l i a w := ⟨opH_callF o f args ho hg hc hargs he h⟩
end

/-! Runs of operations. -/
section
variable {P : Program} {o : Oper} {ρ : Operand → Value} {w : World}
theorem wrapI (x r : Int) (h : x = r) (h1 : -9223372036854775808 ≤ r) (h2 : r ≤ 9223372036854775807) : IntKind.i64.wrap x = r := by
  subst h; rw [IntKind.wrap_i64]; omega
theorem wrapN (n : Nat) (h : n ≤ 9223372036854775807) : IntKind.i64.wrap (n : Int) = (n : Int) := wrapI _ _ rfl (by omega) (by omega)
theorem wrapU (n : Nat) (h : n < 18446744073709551616) : IntKind.u64.wrap (n : Int) = (n : Int) := by
  show ((n : Int) % (2 ^ 64 : Int)) = n
  omega
theorem exec_store_cell (ty : TypeId) (x y : Operand) (ho : o.op = .store ty x y) (b k : Nat) (hx : ρ x = .pointer (some ⟨b, k, none⟩)) (v : Value) (hy : ρ y = v) (hs : (P.info? ty).map (·.size) = some 1) (hv : v.cells = #[v])
    (old : Value) (hc : w.cell? ⟨b, k, none⟩ = some old) (hf : w.frozen? ⟨b, k, none⟩ = false) (h1 : v.oneCell' = true) : (execOp ρ o).run P w = .ok .skip (w.setCell ⟨b, k, none⟩ v) := by
  obtain ⟨i, hi, h2⟩ := Option.map_eq_some_iff.1 hs
  unfold execOp
  simp only [ho, hx, hy, Instr.storeAt, Instr.sureAddr, Sem.run_bind, Sem.run_pure, Result.andThen_ok, storeVar, hv, sizeOf, typeInfo]
  simp [go_sem, hi, h2, storeCells, run_store _ _ _ _ _ h1, Addr.add_lit, stored, hc, hf, Result.andThen]
theorem exec_indexAt_arr (t : TypeId) (x y : Operand) (ho : o.op = .indexAddr t x y) (b of : Nat) (hx : ρ x = .pointer (some ⟨b, of, none⟩)) (kd : IntKind) (k : Nat) (hy : ρ y = .int kd (k : Int)) (n : Nat) (e : TypeId) (size : Nat) (hu : P.underlying t = some (.array n e))
    (hs : (P.info? e).map (·.size) = some size) (hk : k < n) : (execOp ρ o).run P w = .ok (.value (.pointer (some ⟨b, of + k * size, none⟩))) w := by
  obtain ⟨i, hi, rfl⟩ := Option.map_eq_some_iff.1 hs
  unfold execOp
  simp [ho, hx, hy, Instr.indexAt, asIntOf, run_underlying hu, Instr.sureAddr, go_sem, hk, sizeOf, typeInfo, hi, Addr.add]
theorem exec_indexAt_slice (t : TypeId) (x y : Operand) (ho : o.op = .indexAddr t x y) (b of : Nat) (n cap : Nat) (hx : ρ x = .slice (some ⟨b, of, none⟩) n cap) (kd : IntKind) (k : Nat) (hy : ρ y = .int kd (k : Int)) (e : TypeId) (size : Nat) (hu : P.underlying t = some (.slice e))
    (hs : (P.info? e).map (·.size) = some size) (hk : k < n) : (execOp ρ o).run P w = .ok (.value (.pointer (some ⟨b, of + k * size, none⟩))) w := by
  obtain ⟨i, hi, rfl⟩ := Option.map_eq_some_iff.1 hs
  unfold execOp
  simp [ho, hx, hy, Instr.indexAt, asIntOf, run_underlying hu, Instr.sureAddr, go_sem, hk, sizeOf, typeInfo, hi, Addr.add]
/-- An element of an array that is a value: one cell. -/
theorem exec_index_arr (t : TypeId) (x y : Operand) (ho : o.op = .index t x y) (cs : Array Value) (hx : ρ x = .agg cs) (kd : IntKind) (k : Nat) (hy : ρ y = .int kd (k : Int)) (n : Nat) (e : TypeId) (hu : P.underlying t = some (.array n e)) (he : P.plainKey e = true)
    (hs : (P.info? e).map (·.size) = some 1) (hk : k < n) (v : Value) (hv : cs[k]? = some v) : (execOp ρ o).run P w = .ok (.value v) w := by
  obtain ⟨i, hi, h1⟩ := Option.map_eq_some_iff.1 hs
  have hp := run_part_plain (P := P) w he (xs := cs) (off := k) hv
  have h0 : (0 : Int) ≤ (k : Int) ∧ (k : Int) < (n : Int) := by omega
  unfold execOp
  simp only [ho, hx, hy, Instr.index, asIntOf, Sem.run_bind, Sem.run_pure, Result.andThen_ok, run_underlying hu, if_pos h0]
  rw [show (sizeOf e).run P w = .ok 1 w by simp [go_sem, sizeOf, typeInfo, hi, h1]]
  simp only [Result.andThen_ok, Int.toNat_natCast, Nat.mul_one, hp]
theorem exec_box (t : TypeId) (x : Operand) (ho : o.op = .box t x) (v : Value) (hx : ρ x = v) : (execOp ρ o).run P w = .ok (.value (.pointer (some ⟨w.heap.size, 0, none⟩))) (w.alloc (.cells v.cells t)) := by
  unfold execOp
  simp only [ho, hx, Instr.box, Sem.run_bind, Result.andThen_ok, Sem.run_pure]
  simp [go_sem]
/-- A new variable at its zero value. -/
theorem exec_alloc0 (t : TypeId) (ho : o.op = .alloc t) (z : Value) (hr : (zeroValue t).run P w = .ok z w) :
    (execOp ρ o).run P w = .ok (.value (.pointer (some ⟨w.heap.size, 0, none⟩))) (w.alloc (.cells z.cells t)) := by
  unfold execOp
  simp only [ho, Instr.alloc, Sem.run_bind, hr, Result.andThen_ok, Sem.run_pure]
  simp [go_sem]
theorem exec_len (x : Operand) (t e : TypeId) (ho : o.op = .call { callee := .builtin .len, args := #[x], argTypes := #[t] }) (ht : P.underlying t = some (.slice e)) (A : Option Addr) (n cap : Nat) (hx : ρ x = .slice A n cap) : (execOp ρ o).run P w = .ok (.value (.int .i64 (n : Int))) w := by
  unfold execOp
  simp [ho, hx, resolve, invoke, builtin, Builtin.len_, run_underlying ht, go_sem]
end
/-! The same laws, short: what the kernel reckons stands behind. -/
section
variable {P : Program} {Q : Exit → Act → World → Prop} {a : Act} {w : World} {ops : Array Oper} {i : Nat} {rest : List Nat}
theorem ent {f : FuncId} {fn : Func} (hf : P.funcs[f]? = some fn) (hn : (fn.name == "runtime.NumGoroutine") = false) (hb : fn.body.isSome = true) : ∀ args w, (callFunc f args).run P w = .ok (.enter f args) w := by
  obtain ⟨c, hc⟩ := Option.isSome_iff_exists.1 hb
  exact Go.Proofs.enters_of hf hn hc
theorem ps_n (o : Oper) (h : Gops P ops Q rest (a.put o.dst undef) w) (ho : ops[i]? = some o := by kernel_rfl) (hg : Region.wanted o (yielded ops a.tmps) = false := by kernel_rfl) : Gops P ops Q (i :: rest) a w := ps_no o ho hg h
theorem ps_r (o : Oper) (v : Value) {w' : World} (hrun : (execOp a.eval o).run P w = .ok (.value v) w') (h : Gops P ops Q rest (a.put o.dst v) w') (ho : ops[i]? = some o := by kernel_rfl) (hg : Region.wanted o (yielded ops a.tmps) = true := by kernel_rfl) : Gops P ops Q (i :: rest) a w := ps_run o v ho hg hrun h
theorem ps_s (o : Oper) {w' : World} (hrun : (execOp a.eval o).run P w = .ok .skip w') (h : Gops P ops Q rest (a.put o.dst undef) w') (ho : ops[i]? = some o := by kernel_rfl) (hg : Region.wanted o (yielded ops a.tmps) = true := by kernel_rfl) : Gops P ops Q (i :: rest) a w := ps_skip o ho hg hrun h
theorem ps_c (o : Oper) (f : FuncId) (args : Array Value) {fn : Func} (hf : P.funcs[f]? = some fn) (h : Calls P f args w fun e w' => ∃ v, e = .returned v ∧ Gops P ops Q rest (a.put o.dst v) w') (ho : ops[i]? = some o := by kernel_rfl) (hg : Region.wanted o (yielded ops a.tmps) = true := by kernel_rfl)
    (hc : o.op = .call { callee := .value (.func f), args := callArgs o, argTypes := callTypes o } := by kernel_rfl) (hargs : (callArgs o).map a.eval = args := by kernel_rfl) (hn : (fn.name == "runtime.NumGoroutine") = false := by kernel_rfl) (hb : fn.body.isSome = true := by kernel_rfl) : Gops P ops Q (i :: rest) a w :=
  ps_call o f args ho hg hc hargs (ent hf hn hb) h
end
section
variable {P : Program} {w : World} {a : Act} {ops : Array Oper} {rest : List Oper} {K : Act → Prop}
theorem st_n (o : Oper) (h : Gst P ops w K rest (a.put o.dst undef)) (hg : Region.wanted o (yielded ops a.tmps) = false := by kernel_rfl) : Gst P ops w K (o :: rest) a := st_no o hg h
theorem st_c (o : Oper) (f : FuncId) (args : Array Value) (v : Value) {fn : Func} (hf : P.funcs[f]? = some fn) (hcall : Calls P f args w fun e w' => e = .returned v ∧ w = w') (h : Gst P ops w K rest (a.put o.dst v)) (hg : Region.wanted o (yielded ops a.tmps) = true := by kernel_rfl)
    (hc : o.op = .call { callee := .value (.func f), args := callArgs o, argTypes := callTypes o } := by kernel_rfl) (hargs : (callArgs o).map a.eval = args := by kernel_rfl) (hn : (fn.name == "runtime.NumGoroutine") = false := by kernel_rfl) (hb : fn.body.isSome = true := by kernel_rfl) : Gst P ops w K (o :: rest) a :=
  st_call o f args v hg hc hargs (ent hf hn hb) hcall h
end
section
variable {P : Program} {Q : Exit → Act → World → Prop} {a : Act} {w : World} {ops : Array Oper} {i : Nat} {S : World → Prop} {fuel : Nat} {l : Array Bool}
theorem an_v (i : Nat) (o : Oper) (v : Value) (hrun : ∀ W, S W → (execOp a.eval o).run P W = .ok (.value v) W) (hS : S w) (h : Gany P ops (NoPanic Q) S fuel (l.setIfInBounds i true) (a.put o.dst v) w) (hs : Region.noSelect ops = true := by kernel_rfl) (ho : ops[i]? = some o := by kernel_rfl)
    (hg : Region.wanted o (yielded ops a.tmps) = true := by kernel_rfl) (hf : Region.free .any ops l i = true := by kernel_rfl) (hr : (Region.ready .any ops l).contains i = true := by kernel_rfl) : Gany P ops (NoPanic Q) S (fuel + 1) l a w := an_val i o v hs ho hg hf hr hrun hS h
theorem an_k (i : Nat) (o : Oper) (v : Value) (hS : S w) (h : Gany P ops (NoPanic Q) S fuel (l.setIfInBounds i true) (a.put o.dst v) w) (hrun : ∀ W, (execOp a.eval o).run P W = .ok (.value v) W := by intro W; kernel_rfl) (hs : Region.noSelect ops = true := by kernel_rfl) (ho : ops[i]? = some o := by kernel_rfl)
    (hg : Region.wanted o (yielded ops a.tmps) = true := by kernel_rfl) (hf : Region.free .any ops l i = true := by kernel_rfl) (hr : (Region.ready .any ops l).contains i = true := by kernel_rfl) : Gany P ops (NoPanic Q) S (fuel + 1) l a w := an_val i o v hs ho hg hf hr (fun W _ => hrun W) hS h
theorem an_n (i : Nat) (o : Oper) (hS : S w) (h : Gany P ops (NoPanic Q) S fuel (l.setIfInBounds i true) (a.put o.dst undef) w) (hs : Region.noSelect ops = true := by kernel_rfl) (ho : ops[i]? = some o := by kernel_rfl)
    (hg : Region.wanted o (yielded ops a.tmps) = false := by kernel_rfl) (hf : Region.free .any ops l i = true := by kernel_rfl) (hr : (Region.ready .any ops l).contains i = true := by kernel_rfl) : Gany P ops (NoPanic Q) S (fuel + 1) l a w := an_no i o hs ho hg hf hr hS h
theorem an_o (i : Nat) (h : Gone P ops Q S fuel (l.setIfInBounds i true) i a w) (hr : Region.ready .any ops l = [i] := by kernel_rfl) : Gany P ops Q S (fuel + 1) l a w := an_one i hr h
theorem on_r (o : Oper) (v : Value) {w' : World} (hrun : (execOp a.eval o).run P w = .ok (.value v) w') (h : S w' ∧ Gany P ops Q S fuel l (a.put o.dst v) w') (ho : ops[i]? = some o := by kernel_rfl) (hg : Region.wanted o (yielded ops a.tmps) = true := by kernel_rfl) : Gone P ops Q S fuel l i a w := on_run o v ho hg hrun h
theorem on_s (o : Oper) {w' : World} (hrun : (execOp a.eval o).run P w = .ok .skip w') (h : S w' ∧ Gany P ops Q S fuel l (a.put o.dst undef) w') (ho : ops[i]? = some o := by kernel_rfl) (hg : Region.wanted o (yielded ops a.tmps) = true := by kernel_rfl) : Gone P ops Q S fuel l i a w := on_skip o ho hg hrun h
theorem on_c (o : Oper) (f : FuncId) (args : Array Value) {fn : Func} (hf : P.funcs[f]? = some fn) (h : Calls P f args w fun e w' => ∃ v, e = .returned v ∧ S w' ∧ Gany P ops Q S fuel l (a.put o.dst v) w') (ho : ops[i]? = some o := by kernel_rfl) (hg : Region.wanted o (yielded ops a.tmps) = true := by kernel_rfl)
    (hc : o.op = .call { callee := .value (.func f), args := callArgs o, argTypes := callTypes o } := by kernel_rfl) (hargs : (callArgs o).map a.eval = args := by kernel_rfl) (hn : (fn.name == "runtime.NumGoroutine") = false := by kernel_rfl) (hb : fn.body.isSome = true := by kernel_rfl) : Gone P ops Q S fuel l i a w :=
  on_call o f args ho hg hc hargs (ent hf hn hb) h
end
section
variable {P : Program} {o : Oper} {ρ : Operand → Value} {w : World}
theorem rc {g j : Nat} {cs : Array Value} {t : TypeId} {fr : Nat × Nat} {v : Value} (hg : w.heap[g]? = some (.cells cs t fr)) (h : cs[j]? = some v) : w.cell? ⟨g, j, none⟩ = some v := (cell_of_row _ _ _ _ _ _ hg).trans h
theorem exec_ld (ty : TypeId) (x : Operand) (g j : Nat) {d : TypeDesc} {v : Value} (hu : P.underlying ty = some d) (hc : w.cell? ⟨g, j, none⟩ = some v) (ho : o.op = .load ty x := by kernel_rfl) (hx : ρ x = .pointer (some ⟨g, j, none⟩) := by kernel_rfl)
    (hd : (match d with | .struct _ | .array _ _ => false | _ => true) = true := by rfl) : (execOp ρ o).run P w = .ok (.value v) w := exec_load_cell ty x ho _ hx d v hu hd hc
theorem dct (p : Prop) [Decidable p] (h : p) (hr : (execOp ρ o).run P w = .ok (.value (.bool (decide p))) w := by kernel_rfl) : (execOp ρ o).run P w = .ok (.value (.bool true)) w := by rw [decide_eq_true h] at hr; exact hr
theorem dcf (p : Prop) [Decidable p] (h : ¬ p) (hr : (execOp ρ o).run P w = .ok (.value (.bool (decide p))) w := by kernel_rfl) : (execOp ρ o).run P w = .ok (.value (.bool false)) w := by rw [decide_eq_false h] at hr; exact hr
theorem eqt (x y : Int) (h : x = y) (hr : (execOp ρ o).run P w = .ok (.value (.bool (x == y))) w := by kernel_rfl) : (execOp ρ o).run P w = .ok (.value (.bool true)) w := by rw [beq_iff_eq.2 h] at hr; exact hr
theorem eqf (x y : Int) (h : ¬ x = y) (hr : (execOp ρ o).run P w = .ok (.value (.bool (x == y))) w := by kernel_rfl) : (execOp ρ o).run P w = .ok (.value (.bool false)) w := by rw [beq_eq_false_iff_ne.2 h] at hr; exact hr
theorem nqt (x y : Int) (h : ¬ x = y) (hr : (execOp ρ o).run P w = .ok (.value (.bool (x != y))) w := by kernel_rfl) : (execOp ρ o).run P w = .ok (.value (.bool true)) w := by rw [bne_iff_ne.2 h] at hr; exact hr
theorem nqf (x y : Int) (h : x = y) (hr : (execOp ρ o).run P w = .ok (.value (.bool (x != y))) w := by kernel_rfl) : (execOp ρ o).run P w = .ok (.value (.bool false)) w := by rw [bne_eq_false_iff_eq.2 h] at hr; exact hr
end
end Go.Own
