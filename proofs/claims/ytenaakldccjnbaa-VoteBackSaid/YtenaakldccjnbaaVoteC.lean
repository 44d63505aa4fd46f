/-
  Votes: their bytes and digests (printed by vote2.py). Conditions: none.
-/
import Derived.Test.YtenaakldccjnbaaVoteB
import Derived.Test.YtenaakldccjnbaaCodSw
namespace Go.Proofs.Ytenaakldccjnbaa
open Go Go.RowKit Go.Own Go.Shelf
/-- What is written of a vote. -/
inductive Thg | n (x : Int) | h (r : List UInt8) | u (k : Nat)
def Thg.by : Thg → List UInt8
  | .n x => Cod.enc x.toNat
  | .h r => r
  | .u k => Cod.enc k
def Thg.Ok : Thg → Prop
  | .n x => 0 ≤ x ∧ x ≤ 9223372036854775807
  | .h r => r.length = 32
  | .u k => k < 2 ^ 64
def ThgAt (W : World) (V : Value) : Thg → Prop
  | .n x => ∃ g, V = .func (.func 96) #[] #[.pointer (some ⟨g, 0, none⟩)] ∧ W.heap[g]? = some (.cells #[.int .i64 x] 3 (0, 0))
  | .h r => ∃ g, V = .func (.func 98) #[] #[.pointer (some ⟨g, 0, none⟩)] ∧ W.heap[g]? = some (.cells (B r).toArray 26 (0, 0))
  | .u k => ∃ g, V = .func (.func 85) #[] #[.pointer (some ⟨g, 0, none⟩)] ∧ W.heap[g]? = some (.cells #[.int .u64 ((k : Nat) : Int)] 27 (0, 0))
theorem ThgAt.keeps {W W' : World} {M : Nat → Prop} {V : Value} {t : Thg} (h : ThgAt W V t) (k : Keeps M W W') (hm : ∀ j cs T fr, W.heap[j]? = some (.cells cs T fr) → T = 3 ∨ T = 26 ∨ T = 27 → ¬ M j) : ThgAt W' V t := by
  cases t <;> obtain ⟨g, e, hg⟩ := h
  · exact ⟨g, e, (k.block g (lt_of_block hg) (hm g _ _ _ hg (.inl rfl))).trans hg⟩
  · exact ⟨g, e, (k.block g (lt_of_block hg) (hm g _ _ _ hg (.inr (.inl rfl)))).trans hg⟩
  · exact ⟨g, e, (k.block g (lt_of_block hg) (hm g _ _ _ hg (.inr (.inr rfl)))).trans hg⟩
theorem ThgAt.one {W : World} {V : Value} {t : Thg} (h : ThgAt W V t) : V.oneCell' = true := by
  cases t <;> obtain ⟨g, rfl, hg⟩ := h <;> rfl
/-- Things, one by one. -/
def ThsAt (W : World) (vs : List Value) (ts : List Thg) : Prop := vs.length = ts.length ∧ ∀ (k : Nat) (V : Value) (t : Thg), vs[k]? = some V → ts[k]? = some t → ThgAt W V t
theorem ThsAt.keepsN {W W' : World} {vs : List Value} {ts : List Thg} (h : ThsAt W vs ts) (k : Keeps Nob W W') : ThsAt W' vs ts := ⟨h.1, fun i V t hv ht => (h.2 i V t hv ht).keeps k (fun _ _ _ _ _ _ x => x)⟩
theorem ThsAt.keepsRow {W W' : World} {v : Value} {n : Nat} {xs : List Value} {vs : List Value} {ts : List Thg} (h : ThsAt W vs ts) (k : Keeps (fun j => v.ownBlock = some j) W W') (hv : Row W 74 1 v n xs) : ThsAt W' vs ts := ⟨h.1, fun i V t hv' ht => (h.2 i V t hv' ht).keeps k (fun j cs T fr hj hT e => by
  obtain ⟨c2, h2⟩ := Row.elem hv e
  rw [hj] at h2; simp only [Option.some.injEq, Obj.cells.injEq] at h2
  obtain ⟨_, rfl, _⟩ := h2
  revert hT; decide)⟩
theorem ThsAt.nil (W : World) : ThsAt W [] [] := ⟨rfl, fun k V t h => by simp at h⟩
theorem ThsAt.cons {W : World} {V : Value} {t : Thg} {vs : List Value} {ts : List Thg} (h : ThgAt W V t) (hs : ThsAt W vs ts) : ThsAt W (V :: vs) (t :: ts) := ⟨by simp [hs.1], fun k U u hU hu => by
  cases k with
  | zero => simp at hU hu; subst hU; subst hu; exact h
  | succ k => exact hs.2 k U u (by simpa using hU) (by simpa using hu)⟩
theorem ThsAt.snoc {W : World} {V : Value} {t : Thg} {vs : List Value} {ts : List Thg} (hs : ThsAt W vs ts) (h : ThgAt W V t) : ThsAt W (vs ++ [V]) (ts ++ [t]) := ⟨by simp [hs.1], fun k U u hU hu => by
  rcases Nat.lt_trichotomy k vs.length with hk | hk | hk
  · rw [List.getElem?_append_left hk] at hU; rw [List.getElem?_append_left (by rw [← hs.1]; exact hk)] at hu; exact hs.2 k U u hU hu
  · subst hk; rw [List.getElem?_append_right (Nat.le_refl _)] at hU; rw [hs.1, List.getElem?_append_right (Nat.le_refl _)] at hu; simp at hU hu; subst hU; subst hu; exact h
  · rw [List.getElem?_eq_none (by simp; omega)] at hU; cases hU⟩
def byt (ts : List Thg) (i : Nat) : List UInt8 := (ts.take i).flatMap Thg.by
def allb (ts : List Thg) : List UInt8 := ts.flatMap Thg.by
theorem byt_succ {ts : List Thg} {i : Nat} {t : Thg} (h : ts[i]? = some t) : byt ts (i + 1) = byt ts i ++ t.by := by unfold byt; rw [List.take_add_one, h]; simp
theorem byt_all (ts : List Thg) : byt ts ts.length = allb ts := by unfold byt allb; rw [List.take_length]
theorem byt_le (ts : List Thg) (i : Nat) : (byt ts i).length ≤ (allb ts).length := by
  unfold byt allb
  conv => rhs; rw [← List.take_append_drop i ts, List.flatMap_append, List.length_append]
  omega
theorem add_ok {out bs : List UInt8} (h : out.length + bs.length ≤ 4096) : (⟨4096, out, 0⟩ : WS).add bs = ⟨4096, out ++ bs, 0⟩ := by
  unfold WS.add
  rw [if_pos rfl, if_neg (by simp only; omega)]
theorem ths_split {w : World} {vs : List Value} {ts : List Thg} (h : ThsAt w vs ts) (hok : ∀ (k : Nat) (t : Thg), ts[k]? = some t → t.Ok) (i : Nat) (hi : i ≤ ts.length) :
    (i < ts.length ∧ ∃ x gk, ts[i]? = some (.n x) ∧ (0 ≤ x ∧ x ≤ 9223372036854775807) ∧ vs[i]? = some (.func (.func 96) #[] #[.pointer (some ⟨gk, 0, none⟩)]) ∧ w.heap[gk]? = some (.cells #[.int .i64 x] 3 (0, 0))) ∨
    (i < ts.length ∧ ∃ r gk, ts[i]? = some (.h r) ∧ r.length = 32 ∧ vs[i]? = some (.func (.func 98) #[] #[.pointer (some ⟨gk, 0, none⟩)]) ∧ w.heap[gk]? = some (.cells (B r).toArray 26 (0, 0))) ∨
    (i < ts.length ∧ ∃ k gk, ts[i]? = some (.u k) ∧ k < 2 ^ 64 ∧ vs[i]? = some (.func (.func 85) #[] #[.pointer (some ⟨gk, 0, none⟩)]) ∧ w.heap[gk]? = some (.cells #[.int .u64 ((k : Nat) : Int)] 27 (0, 0))) ∨ i = ts.length := by
  rcases Nat.lt_or_eq_of_le hi with hl | hl
  · obtain ⟨V, hV⟩ : ∃ V, vs[i]? = some V := ⟨_, List.getElem?_eq_getElem (by rw [h.1]; exact hl)⟩
    obtain ⟨t, ht⟩ : ∃ t, ts[i]? = some t := ⟨_, List.getElem?_eq_getElem hl⟩
    have hT := h.2 i V t hV ht
    have hO := hok i t ht
    cases t with
    | n x => obtain ⟨g, rfl, hg⟩ := hT; exact .inl ⟨hl, x, g, ht, hO, hV, hg⟩
    | h r => obtain ⟨g, rfl, hg⟩ := hT; exact .inr (.inl ⟨hl, r, g, ht, hO, hV, hg⟩)
    | u k => obtain ⟨g, rfl, hg⟩ := hT; exact .inr (.inr (.inl ⟨hl, k, g, ht, hO, hV, hg⟩))
  · exact .inr (.inr (.inr hl))
theorem row_cast {w : World} {t : TypeId} {v : Value} {n : Nat} {x y z : List UInt8} (h : Row w t 1 v n (B x ++ B y)) (e : x ++ y = z) (hn : n = z.length) : Row w t 1 v z.length (B z) := by
  subst hn; rw [← B_append, e] at h; exact h
theorem hd_get {vs rest : List Value} {i : Nat} {V : Value} (h : vs[i]? = some V) : (vs ++ rest).toArray[i]? = some V := by
  rw [List.getElem?_toArray, List.getElem?_append_left (List.getElem?_eq_some_iff.1 h).1]; exact h

noncomputable def part_vnum (n : Nat) : Code := partOf Try.f83 n
noncomputable abbrev o_vnum (n k : Nat) : Oper := (opsAt (part_vnum n)).getD k default
set_option maxRecDepth 100000 in
set_option maxHeartbeats 4000000 in
theorem vnum_ok (x : Int) (w : World) :
    Calls Try.prog 83 #[.int .i64 x] w (fun e w' => ∃ g, e = .returned (.func (.func 96) #[] #[.pointer (some ⟨g, 0, none⟩)]) ∧ w'.heap[g]? = some (.cells #[.int .i64 x] 3 (0, 0)) ∧ w.heap.size ≤ g ∧ Keeps Nob w w') := by
  have K0 : Keeps Nob w w := Keeps.refl _ _
  refine sy_enter (part_vnum 1) ⟨#[.int .i64 x, undef, undef, undef], []⟩ Try.func83 (by kernel_rfl) (by kernel_rfl) ?_
  refine sy_sq (part_vnum 2) (part_vnum 3) ?_
  refine sy_reg ?_
  refine rg_plain 0 (opsAt (part_vnum 2)) [0, 1] (by kernel_rfl) (by kernel_rfl) ?_
  obtain ⟨V1, eV1, g, eg, h2, kV1⟩ := alloc_step w (#[.int .i64 x]) 3
  have n3 : w.heap.size ≤ g := eg ▸ K0.size
  refine ps_r (o_vnum 2 0) (pT g 0) (w' := V1) (by rw [← eV1, ← eg]; exact exec_box 3 (.tmp 0) (by kernel_rfl) (.int .i64 x) (by kernel_rfl)) ?_
  clear eV1
  have K4 := K0.nn kV1
  have z5 := kV1.size
  refine ps_k (o_vnum 2 1) (.nilFunc) ?_
  refine ps_end ?_
  refine then_n ?_
  refine sy_sq (part_vnum 6) (part_vnum 7) ?_
  refine sy_reg ?_
  refine rg_plain 1 (opsAt (part_vnum 6)) [0, 1] (by kernel_rfl) (by kernel_rfl) ?_
  refine ps_k (o_vnum 6 0) (.func (.func 96) #[] #[pT g 0]) ?_
  refine ps_k (o_vnum 6 1) (.func (.func 96) #[] #[pT g 0]) ?_
  refine ps_end ?_
  refine then_n ?_
  refine sy_ret (by kernel_rfl) ?_
  refine sy_out (.func (.func 96) #[] #[.pointer (some ⟨g, 0, none⟩)]) rfl (by kernel_rfl) ?_
  exact ⟨g, rfl, h2, by omega, K4⟩
noncomputable def part_vnum1 (n : Nat) : Code := partOf Try.f96 n
noncomputable abbrev o_vnum1 (n k : Nat) : Oper := (opsAt (part_vnum1 n)).getD k default
set_option maxRecDepth 100000 in
set_option maxHeartbeats 4000000 in
theorem vnum1_ok (b g : Nat) (x : Int) (F0 : Nat → Prop) (out : List UInt8) (w : World) (hw : Wr w F0 b ⟨4096, out, 0⟩) (hg : w.heap[g]? = some (.cells #[.int .i64 x] 3 (0, 0))) (hx : 0 ≤ x ∧ x ≤ 9223372036854775807) (hl : out.length + (Cod.enc x.toNat).length ≤ 4096) :
    Calls Try.prog 96 #[.pointer (some ⟨b, 0, none⟩), .pointer (some ⟨g, 0, none⟩)] w (fun e w' => e = .returned (.int .i64 0) ∧ ∃ F', Wr w' F' b ⟨4096, out ++ (Cod.enc x.toNat), 0⟩ ∧ Step w w' F0 F') := by
  have K0 : Keeps F0 w w := Keeps.refl _ _
  refine sy_enter (part_vnum1 1) ⟨#[pT b 0, pT g 0, undef, undef, undef, undef, undef], []⟩ Try.func96 (by kernel_rfl) (by kernel_rfl) ?_
  refine sy_sq (part_vnum1 2) (part_vnum1 3) ?_
  refine sy_reg ?_
  refine rg_plain 0 (opsAt (part_vnum1 2)) [0] (by kernel_rfl) (by kernel_rfl) ?_
  refine ps_k (o_vnum1 2 0) (.int .i64 0) ?_
  refine ps_end ?_
  refine then_n ?_
  refine sy_sq (part_vnum1 6) (part_vnum1 7) ?_
  refine sy_reg ?_
  refine rg_plain 1 (opsAt (part_vnum1 6)) [0, 1, 2, 3] (by kernel_rfl) (by kernel_rfl) ?_
  refine ps_k (o_vnum1 6 0) (pT b 0) ?_
  refine ps_p (o_vnum1 6 1) (.int .i64 x) (exec_ld 3 (.tmp 1) g 0 Try.underlying3 (rc (hg) (by kernel_rfl))) ?_
  refine ps_c (o_vnum1 6 2) 97 #[pT b 0, .int .i64 x] Try.func97 ((hw.n x hx.1 hx.2).mono ?_)
  rintro e V1 ⟨he, F', hW, hS⟩
  rw [add_ok hl] at he hW
  subst he
  refine ⟨_, rfl, ?_⟩
  have K2 : Keeps F0 w V1 := K0.then hS.1 (fun _ _ h => h)
  have z3 := hS.1.size
  refine ps_k (o_vnum1 6 3) (.int .i64 0) ?_
  refine ps_end ?_
  refine then_n ?_
  refine sy_ret (by kernel_rfl) ?_
  refine sy_out (.int .i64 0) rfl (by kernel_rfl) ?_
  exact ⟨rfl, F', hW, hS⟩
noncomputable def part_vroot (n : Nat) : Code := partOf Try.f84 n
noncomputable abbrev o_vroot (n k : Nat) : Oper := (opsAt (part_vroot n)).getD k default
set_option maxRecDepth 100000 in
set_option maxHeartbeats 4000000 in
theorem vroot_ok (r : List UInt8) (w : World) :
    Calls Try.prog 84 #[.agg (B r).toArray] w (fun e w' => ∃ g, e = .returned (.func (.func 98) #[] #[.pointer (some ⟨g, 0, none⟩)]) ∧ w'.heap[g]? = some (.cells (B r).toArray 26 (0, 0)) ∧ w.heap.size ≤ g ∧ Keeps Nob w w') := by
  have K0 : Keeps Nob w w := Keeps.refl _ _
  refine sy_enter (part_vroot 1) ⟨#[.agg (B r).toArray, undef, undef, undef], []⟩ Try.func84 (by kernel_rfl) (by kernel_rfl) ?_
  refine sy_sq (part_vroot 2) (part_vroot 3) ?_
  refine sy_reg ?_
  refine rg_plain 0 (opsAt (part_vroot 2)) [0, 1] (by kernel_rfl) (by kernel_rfl) ?_
  obtain ⟨V1, eV1, g, eg, h2, kV1⟩ := alloc_step w ((B r).toArray) 26
  have n3 : w.heap.size ≤ g := eg ▸ K0.size
  refine ps_r (o_vroot 2 0) (pT g 0) (w' := V1) (by rw [← eV1, ← eg]; exact exec_box 26 (.tmp 0) (by kernel_rfl) (.agg (B r).toArray) (by kernel_rfl)) ?_
  clear eV1
  have K4 := K0.nn kV1
  have z5 := kV1.size
  refine ps_k (o_vroot 2 1) (.nilFunc) ?_
  refine ps_end ?_
  refine then_n ?_
  refine sy_sq (part_vroot 6) (part_vroot 7) ?_
  refine sy_reg ?_
  refine rg_plain 1 (opsAt (part_vroot 6)) [0, 1] (by kernel_rfl) (by kernel_rfl) ?_
  refine ps_k (o_vroot 6 0) (.func (.func 98) #[] #[pT g 0]) ?_
  refine ps_k (o_vroot 6 1) (.func (.func 98) #[] #[pT g 0]) ?_
  refine ps_end ?_
  refine then_n ?_
  refine sy_ret (by kernel_rfl) ?_
  refine sy_out (.func (.func 98) #[] #[.pointer (some ⟨g, 0, none⟩)]) rfl (by kernel_rfl) ?_
  exact ⟨g, rfl, h2, by omega, K4⟩
noncomputable def part_vroot1 (n : Nat) : Code := partOf Try.f98 n
noncomputable abbrev o_vroot1 (n k : Nat) : Oper := (opsAt (part_vroot1 n)).getD k default
set_option maxRecDepth 100000 in
set_option maxHeartbeats 4000000 in
theorem vroot1_ok (b g : Nat) (r : List UInt8) (F0 : Nat → Prop) (out : List UInt8) (w : World) (hw : Wr w F0 b ⟨4096, out, 0⟩) (hg : w.heap[g]? = some (.cells (B r).toArray 26 (0, 0))) (hr : r.length = 32) (hl : out.length + (r).length ≤ 4096) :
    Calls Try.prog 98 #[.pointer (some ⟨b, 0, none⟩), .pointer (some ⟨g, 0, none⟩)] w (fun e w' => e = .returned (.int .i64 0) ∧ ∃ F', Wr w' F' b ⟨4096, out ++ r, 0⟩ ∧ Step w w' F0 F') := by
  have K0 : Keeps F0 w w := Keeps.refl _ _
  refine sy_enter (part_vroot1 1) ⟨#[pT b 0, pT g 0, undef, undef, undef, undef, undef], []⟩ Try.func98 (by kernel_rfl) (by kernel_rfl) ?_
  refine sy_sq (part_vroot1 2) (part_vroot1 3) ?_
  refine sy_reg ?_
  refine rg_plain 0 (opsAt (part_vroot1 2)) [0] (by kernel_rfl) (by kernel_rfl) ?_
  refine ps_k (o_vroot1 2 0) (.int .i64 0) ?_
  refine ps_end ?_
  refine then_n ?_
  refine sy_sq (part_vroot1 6) (part_vroot1 7) ?_
  refine sy_reg ?_
  refine rg_plain 1 (opsAt (part_vroot1 6)) [0, 1, 2, 3] (by kernel_rfl) (by kernel_rfl) ?_
  refine ps_k (o_vroot1 6 0) (pT b 0) ?_
  refine ps_p (o_vroot1 6 1) (.agg ((B r).toArray)) (exec_load_row 26 (.tmp 1) (by kernel_rfl) g (by kernel_rfl) _ _ (0, 0) _ (hg) Try.underlying26 rfl (by rw [Bz_size, hr]; kernel_rfl)) ?_
  refine ps_c (o_vroot1 6 2) 99 #[pT b 0, .agg ((B r).toArray)] Try.func99 ((hw.hash r hr).mono ?_)
  rintro e V1 ⟨he, F', hW, hS⟩
  rw [add_ok hl] at he hW
  subst he
  refine ⟨_, rfl, ?_⟩
  have K2 : Keeps F0 w V1 := K0.then hS.1 (fun _ _ h => h)
  have z3 := hS.1.size
  refine ps_k (o_vroot1 6 3) (.int .i64 0) ?_
  refine ps_end ?_
  refine then_n ?_
  refine sy_ret (by kernel_rfl) ?_
  refine sy_out (.int .i64 0) rfl (by kernel_rfl) ?_
  exact ⟨rfl, F', hW, hS⟩
noncomputable def part_vtag (n : Nat) : Code := partOf Try.f56 n
noncomputable abbrev o_vtag (n k : Nat) : Oper := (opsAt (part_vtag n)).getD k default
set_option maxRecDepth 100000 in
set_option maxHeartbeats 4000000 in
theorem vtag_ok (k : Nat) (w : World) :
    Calls Try.prog 56 #[.int .u64 ((k : Nat) : Int)] w (fun e w' => ∃ g, e = .returned (.func (.func 85) #[] #[.pointer (some ⟨g, 0, none⟩)]) ∧ w'.heap[g]? = some (.cells #[.int .u64 ((k : Nat) : Int)] 27 (0, 0)) ∧ w.heap.size ≤ g ∧ Keeps Nob w w') := by
  have K0 : Keeps Nob w w := Keeps.refl _ _
  refine sy_enter (part_vtag 1) ⟨#[uN k, undef, undef, undef], []⟩ Try.func56 (by kernel_rfl) (by kernel_rfl) ?_
  refine sy_sq (part_vtag 2) (part_vtag 3) ?_
  refine sy_reg ?_
  refine rg_plain 0 (opsAt (part_vtag 2)) [0, 1] (by kernel_rfl) (by kernel_rfl) ?_
  obtain ⟨V1, eV1, g, eg, h2, kV1⟩ := alloc_step w (#[.int .u64 ((k : Nat) : Int)]) 27
  have n3 : w.heap.size ≤ g := eg ▸ K0.size
  refine ps_r (o_vtag 2 0) (pT g 0) (w' := V1) (by rw [← eV1, ← eg]; exact exec_box 27 (.tmp 0) (by kernel_rfl) (uN k) (by kernel_rfl)) ?_
  clear eV1
  have K4 := K0.nn kV1
  have z5 := kV1.size
  refine ps_k (o_vtag 2 1) (.nilFunc) ?_
  refine ps_end ?_
  refine then_n ?_
  refine sy_sq (part_vtag 6) (part_vtag 7) ?_
  refine sy_reg ?_
  refine rg_plain 1 (opsAt (part_vtag 6)) [0, 1] (by kernel_rfl) (by kernel_rfl) ?_
  refine ps_k (o_vtag 6 0) (.func (.func 85) #[] #[pT g 0]) ?_
  refine ps_k (o_vtag 6 1) (.func (.func 85) #[] #[pT g 0]) ?_
  refine ps_end ?_
  refine then_n ?_
  refine sy_ret (by kernel_rfl) ?_
  refine sy_out (.func (.func 85) #[] #[.pointer (some ⟨g, 0, none⟩)]) rfl (by kernel_rfl) ?_
  exact ⟨g, rfl, h2, by omega, K4⟩
noncomputable def part_vtag1 (n : Nat) : Code := partOf Try.f85 n
noncomputable abbrev o_vtag1 (n k : Nat) : Oper := (opsAt (part_vtag1 n)).getD k default
set_option maxRecDepth 100000 in
set_option maxHeartbeats 4000000 in
theorem vtag1_ok (b g : Nat) (k : Nat) (F0 : Nat → Prop) (out : List UInt8) (w : World) (hw : Wr w F0 b ⟨4096, out, 0⟩) (hg : w.heap[g]? = some (.cells #[.int .u64 ((k : Nat) : Int)] 27 (0, 0))) (hk : k < 2 ^ 64) (hl : out.length + (Cod.enc k).length ≤ 4096) :
    Calls Try.prog 85 #[.pointer (some ⟨b, 0, none⟩), .pointer (some ⟨g, 0, none⟩)] w (fun e w' => e = .returned (.int .i64 0) ∧ ∃ F', Wr w' F' b ⟨4096, out ++ (Cod.enc k), 0⟩ ∧ Step w w' F0 F') := by
  have K0 : Keeps F0 w w := Keeps.refl _ _
  refine sy_enter (part_vtag1 1) ⟨#[pT b 0, pT g 0, undef, undef, undef, undef, undef], []⟩ Try.func85 (by kernel_rfl) (by kernel_rfl) ?_
  refine sy_sq (part_vtag1 2) (part_vtag1 3) ?_
  refine sy_reg ?_
  refine rg_plain 0 (opsAt (part_vtag1 2)) [0] (by kernel_rfl) (by kernel_rfl) ?_
  refine ps_k (o_vtag1 2 0) (.int .i64 0) ?_
  refine ps_end ?_
  refine then_n ?_
  refine sy_sq (part_vtag1 6) (part_vtag1 7) ?_
  refine sy_reg ?_
  refine rg_plain 1 (opsAt (part_vtag1 6)) [0, 1, 2, 3] (by kernel_rfl) (by kernel_rfl) ?_
  refine ps_k (o_vtag1 6 0) (pT b 0) ?_
  refine ps_p (o_vtag1 6 1) (uN k) (exec_ld 27 (.tmp 1) g 0 Try.underlying27 (rc (hg) (by kernel_rfl))) ?_
  refine ps_c (o_vtag1 6 2) 86 #[pT b 0, uN k] Try.func86 ((hw.u k hk).mono ?_)
  rintro e V1 ⟨he, F', hW, hS⟩
  rw [add_ok hl] at he hW
  subst he
  refine ⟨_, rfl, ?_⟩
  have K2 : Keeps F0 w V1 := K0.then hS.1 (fun _ _ h => h)
  have z3 := hS.1.size
  refine ps_k (o_vtag1 6 3) (.int .i64 0) ?_
  refine ps_end ?_
  refine then_n ?_
  refine sy_ret (by kernel_rfl) ?_
  refine sy_out (.int .i64 0) rfl (by kernel_rfl) ?_
  exact ⟨rfl, F', hW, hS⟩
noncomputable def part_vwritten (n : Nat) : Code := partOf Try.f54 n
noncomputable abbrev o_vwritten (n k : Nat) : Oper := (opsAt (part_vwritten n)).getD k default
set_option maxRecDepth 100000 in
set_option maxHeartbeats 4000000 in
theorem vwritten_bad (x : Int) (v : Value) (w : World) (hx : x ≠ 0) :
    Calls Try.prog 54 #[.int .i64 x, v] w (fun e w' => e = .returned (.tuple #[.slice none 0 0, .int .i64 x]) ∧ w = w') := by
  have K0 : Keeps Nob w w := Keeps.refl _ _
  refine sy_enter (part_vwritten 1) ⟨#[.int .i64 x, v, undef, undef, undef, undef, undef, undef, undef, undef, undef, undef, undef, undef, undef, undef, undef, undef, undef, undef, undef, undef, undef, undef, undef, undef, undef, undef, undef, undef, undef, undef, undef, undef, undef], []⟩ Try.func54 (by kernel_rfl) (by kernel_rfl) ?_
  refine sy_sq (part_vwritten 2) (part_vwritten 3) ?_
  refine sy_reg ?_
  refine rg_plain 0 (opsAt (part_vwritten 2)) [0, 1] (by kernel_rfl) (by kernel_rfl) ?_
  refine ps_k (o_vwritten 2 0) (.slice none 0 0) ?_
  refine ps_k (o_vwritten 2 1) (.int .i64 0) ?_
  refine ps_end ?_
  refine then_n ?_
  refine sy_sq (part_vwritten 6) (part_vwritten 7) ?_
  refine sy_sq (part_vwritten 12) (part_vwritten 13) ?_
  refine sy_reg ?_
  refine rg_plain 1 (opsAt (part_vwritten 12)) [0, 1] (by kernel_rfl) (by kernel_rfl) ?_
  refine ps_k (o_vwritten 12 0) (.int .i64 x) ?_
  refine ps_p (o_vwritten 12 1) (.bool true) (nqt ((x) : Int) ((0) : Int) (by omega)) ?_
  refine ps_end ?_
  refine then_n ?_
  refine sy_ys (.tmp 12) (part_vwritten 26) (part_vwritten 27) ?_
  refine sy_sq (part_vwritten 52) (part_vwritten 53) ?_
  refine sy_reg ?_
  refine rg_plain 2 (opsAt (part_vwritten 52)) [0, 1, 2] (by kernel_rfl) (by kernel_rfl) ?_
  refine ps_k (o_vwritten 52 0) (.int .i64 x) ?_
  refine ps_k (o_vwritten 52 1) (.slice none 0 0) ?_
  refine ps_k (o_vwritten 52 2) (.int .i64 x) ?_
  refine ps_end ?_
  refine then_n ?_
  refine sy_ret (by kernel_rfl) ?_
  refine then_r ?_
  refine sy_out (.tuple #[.slice none 0 0, .int .i64 x]) rfl (by kernel_rfl) ?_
  exact ⟨rfl, rfl⟩
set_option maxRecDepth 100000 in
set_option maxHeartbeats 4000000 in
theorem vwritten_row (g cap : Nat) (ts : List Thg) (vs rest : List Value) (w : World) (h0 : w.heap[g]? = some (.cells (vs ++ rest).toArray 74 (0, 0))) (h1 : ThsAt w vs ts) (hok : ∀ (k : Nat) (t : Thg), ts[k]? = some t → t.Ok) (hl : (allb ts).length ≤ 4096) (hmax : ts.length ≤ 1000) :
    Calls Try.prog 54 #[.int .i64 0, .slice (some ⟨g, 0, none⟩) ts.length cap] w (fun e w' => ∃ X, e = .returned (.tuple #[X, .int .i64 0]) ∧ Row w' 5 1 X (allb ts).length (B (allb ts)) ∧ NewFrom w.heap.size X ∧ Keeps Nob w w') := by
  have K0 : Keeps Nob w w := Keeps.refl _ _
  refine sy_enter (part_vwritten 1) ⟨#[.int .i64 0, .slice (some ⟨g, 0, none⟩) ts.length cap, undef, undef, undef, undef, undef, undef, undef, undef, undef, undef, undef, undef, undef, undef, undef, undef, undef, undef, undef, undef, undef, undef, undef, undef, undef, undef, undef, undef, undef, undef, undef, undef, undef], []⟩ Try.func54 (by kernel_rfl) (by kernel_rfl) ?_
  refine sy_sq (part_vwritten 2) (part_vwritten 3) ?_
  refine sy_reg ?_
  refine rg_plain 0 (opsAt (part_vwritten 2)) [0, 1] (by kernel_rfl) (by kernel_rfl) ?_
  refine ps_k (o_vwritten 2 0) (.slice none 0 0) ?_
  refine ps_k (o_vwritten 2 1) (.int .i64 0) ?_
  refine ps_end ?_
  refine then_n ?_
  refine sy_sq (part_vwritten 6) (part_vwritten 7) ?_
  refine sy_sq (part_vwritten 12) (part_vwritten 13) ?_
  refine sy_reg ?_
  refine rg_plain 1 (opsAt (part_vwritten 12)) [0, 1] (by kernel_rfl) (by kernel_rfl) ?_
  refine ps_k (o_vwritten 12 0) (.int .i64 0) ?_
  refine ps_k (o_vwritten 12 1) (.bool false) ?_
  refine ps_end ?_
  refine then_n ?_
  refine sy_n (.tmp 12) (part_vwritten 26) (part_vwritten 27) ?_
  refine sy_sk ?_
  refine then_n ?_
  refine sy_sq (part_vwritten 14) (part_vwritten 15) ?_
  refine sy_reg ?_
  refine rg_plain 3 (opsAt (part_vwritten 14)) [0, 1, 2, 3, 4, 5] (by kernel_rfl) (by kernel_rfl) ?_
  refine ps_c (o_vwritten 14 0) 81 #[.int .i64 4096] Try.func81 ((wr_new 4096 _ (by omega) (by omega)).mono ?_)
  rintro e V1 ⟨b, F1, rfl, hV1, hge1, kV1⟩
  refine ⟨_, rfl, ?_⟩
  have K2 := K0.nn kV1
  have z3 := kV1.size
  refine ps_k (o_vwritten 14 1) (.tuple #[pT b 0, .int .i64 0]) ?_
  refine ps_k (o_vwritten 14 2) (pT b 0) ?_
  refine ps_k (o_vwritten 14 3) (.int .i64 0) ?_
  refine ps_k (o_vwritten 14 4) (pT b 0) ?_
  refine ps_k (o_vwritten 14 5) (.int .i64 0) ?_
  refine ps_end ?_
  refine then_n ?_
  refine sy_sq (part_vwritten 30) (part_vwritten 31) ?_
  refine sy_sq (part_vwritten 60) (part_vwritten 61) ?_
  refine sy_reg ?_
  refine rg_plain 4 (opsAt (part_vwritten 60)) [0, 1, 2] (by kernel_rfl) (by kernel_rfl) ?_
  refine ps_k (o_vwritten 60 0) (.slice (some ⟨g, 0, none⟩) ts.length cap) ?_
  refine ps_p (o_vwritten 60 1) (iN ts.length) (exec_len (.tmp 18) 71 _ (by kernel_rfl) Try.underlying71 (some ⟨g, 0, none⟩) ts.length cap (by kernel_rfl)) ?_
  refine ps_k (o_vwritten 60 2) (.int .i64 0) ?_
  refine ps_end ?_
  refine then_n ?_
  refine sy_bk 0 (part_vwritten 122) ?_
  refine sy_loop (part_vwritten 244) (fun a V => ∃ (i : Nat) (F0 : Nat → Prop) (u4 u5 u9 u10 u21 u22 u23 u24 u25 u26 u27 u28 u29 u30 : Value), (a = ⟨#[.int .i64 0, .slice (some ⟨g, 0, none⟩) ts.length cap, undef, undef, u4, u5, pT b 0, .int .i64 0, undef, u9, u10, .int .i64 0, .bool false, undef, .tuple #[pT b 0, .int .i64 0], .tuple #[pT b 0, .int .i64 0], pT b 0, .int .i64 0, .slice (some ⟨g, 0, none⟩) ts.length cap, iN ts.length, iN i, u21, u22, u23, u24, u25, u26, u27, u28, u29, u30, undef, undef, undef, undef], []⟩) ∧ (i ≤ ts.length) ∧ (Wr V F0 b ⟨4096, byt ts i, 0⟩) ∧ (Keeps Nob w V) ∧ (Ge F0 w)) (fun a _ => ts.length - (intOf (a.tmps.getD 20 undef)).toNat) (by kernel_rfl) ?_ ?_
  · exact ⟨0, F1, (.slice none 0 0), (.int .i64 0), undef, undef, undef, undef, undef, undef, undef, undef, undef, undef, undef, undef, by kernel_rfl, by omega, hV1, K2, hge1⟩
  · rintro a V4 ⟨i, F0, u4, u5, u9, u10, u21, u22, u23, u24, u25, u26, u27, u28, u29, u30, rfl, hi, h5, K6, hge⟩
    skip
    rcases ths_split h1 hok i hi with ⟨lt_i, x, gk, hti, hxv, hvk, hgk⟩ | ⟨lt_i, r, gk, hti, hrv, hvk, hgk⟩ | ⟨lt_i, k, gk, hti, hkv, hvk, hgk⟩ | eq_i
    · have hsz := byt_succ hti
      have hbl := byt_le ts (i + 1)
      have hbe : (byt ts (i + 1)).length = (byt ts i).length + (Cod.enc x.toNat).length := by rw [hsz, List.length_append]; rfl
      refine sy_sq (part_vwritten 488) (part_vwritten 489) ?_
      refine sy_reg ?_
      refine rg_plain 5 (opsAt (part_vwritten 488)) [0] (by kernel_rfl) (by kernel_rfl) ?_
      refine ps_p (o_vwritten 488 0) (.bool true) (dct ((((i : Nat) : Int)) < (((ts.length : Nat) : Int))) (by omega)) ?_
      refine ps_end ?_
      refine then_n ?_
      refine sy_sq (part_vwritten 978) (part_vwritten 979) ?_
      refine sy_ys (.tmp 21) (part_vwritten 1956) (part_vwritten 1957) ?_
      refine sy_sk ?_
      refine then_n ?_
      refine sy_sq (part_vwritten 1958) (part_vwritten 1959) ?_
      refine sy_bk 1 (part_vwritten 3916) ?_
      refine sy_sq (part_vwritten 7832) (part_vwritten 7833) ?_
      refine sy_reg ?_
      refine rg_plain 6 (opsAt (part_vwritten 7832)) [0, 1, 2] (by kernel_rfl) (by kernel_rfl) ?_
      refine ps_p (o_vwritten 7832 0) (pT g i) (exec_cast (v := pT g (0 + i * 1)) (by simp) (exec_indexAt_slice 71 (.tmp 18) (.tmp 20) (by kernel_rfl) g 0 ts.length cap (by kernel_rfl) .i64 i (by kernel_rfl) _ 1 Try.underlying71 (by kernel_rfl) (by omega))) ?_
      refine ps_p (o_vwritten 7832 1) (.func (.func 96) #[] #[pT gk 0]) (exec_ld 74 (.tmp 22) g i Try.underlying74 ((cell_of_row _ _ _ _ _ _ ((K6.block g (lt_of_block h0) (fun x => x)).trans h0)).trans (hd_get hvk))) ?_
      refine ps_k (o_vwritten 7832 2) (.func (.func 96) #[] #[pT gk 0]) ?_
      refine ps_end ?_
      refine then_n ?_
      refine sy_sq (part_vwritten 15666) (part_vwritten 15667) ?_
      refine sy_reg ?_
      refine rg_plain 7 (opsAt (part_vwritten 15666)) [0, 1, 2, 3] (by kernel_rfl) (by kernel_rfl) ?_
      refine ps_k (o_vwritten 15666 0) (.func (.func 96) #[] #[pT gk 0]) ?_
      refine ps_k (o_vwritten 15666 1) (pT b 0) ?_
      refine ps_callV (o_vwritten 15666 2) (.tmp 24) 96 #[] #[pT gk 0] #[pT b 0, pT gk 0] (by kernel_rfl) (by kernel_rfl) (by kernel_rfl) (by kernel_rfl) (by kernel_rfl) (enters_of Try.func96 (by kernel_rfl) rfl) ((vnum1_ok b gk x F0 (byt ts i) _ h5 ((K6.block gk (lt_of_block hgk) (fun x => x)).trans hgk) hxv (by omega)).mono ?_)
      rintro e V7 ⟨rfl, F', hV7, hS⟩
      rw [show byt ts i ++ (Cod.enc x.toNat) = byt ts (i + 1) from (byt_succ hti).symm] at hV7
      refine ⟨_, rfl, ?_⟩
      have K8 : Keeps Nob w V7 := K6.then hS.1 (fun i hi hm => absurd hi (by have := hge i hm; omega))
      have z9 := hS.1.size
      refine ps_k (o_vwritten 15666 3) (.int .i64 0) ?_
      refine ps_end ?_
      refine then_n ?_
      refine sy_sq (part_vwritten 31334) (part_vwritten 31335) ?_
      refine sy_reg ?_
      refine rg_plain 8 (opsAt (part_vwritten 31334)) [0, 1] (by kernel_rfl) (by kernel_rfl) ?_
      refine ps_k (o_vwritten 31334 0) (.int .i64 0) ?_
      refine ps_k (o_vwritten 31334 1) (.bool false) ?_
      refine ps_end ?_
      refine then_n ?_
      refine sy_n (.tmp 28) (part_vwritten 62670) (part_vwritten 62671) ?_
      refine sy_sk ?_
      refine blk_n ?_
      refine then_n ?_
      refine sy_reg ?_
      refine rg_plain 10 (opsAt (part_vwritten 1959)) [0, 1] (by kernel_rfl) (by kernel_rfl) ?_
      refine ps_p (o_vwritten 1959 0) (iN (i + 1)) (exec_cast (congrArg (Value.int .i64) (wrapN (i + 1) (by omega))) (by kernel_rfl)) ?_
      refine ps_k (o_vwritten 1959 1) (iN (i + 1)) ?_
      refine ps_end ?_
      refine then_n ?_
      refine ⟨⟨i + 1, F', u4, u5, (.func (.func 96) #[] #[pT gk 0]), (.int .i64 0), (.bool true), (pT g i), (.func (.func 96) #[] #[pT gk 0]), (.func (.func 96) #[] #[pT gk 0]), (pT b 0), (.int .i64 0), (.int .i64 0), (.bool false), u29, (iN (i + 1)), by kernel_rfl, by omega, hV7, K8, (hS.ge hge K6.size)⟩, ?_⟩
      exact lt_meas (x := ts.length - (i + 1)) (y := ts.length - i) (by kernel_rfl) (by kernel_rfl) (by omega)
    · have hsz := byt_succ hti
      have hbl := byt_le ts (i + 1)
      have hbe : (byt ts (i + 1)).length = (byt ts i).length + (r).length := by rw [hsz, List.length_append]; rfl
      refine sy_sq (part_vwritten 488) (part_vwritten 489) ?_
      refine sy_reg ?_
      refine rg_plain 5 (opsAt (part_vwritten 488)) [0] (by kernel_rfl) (by kernel_rfl) ?_
      refine ps_p (o_vwritten 488 0) (.bool true) (dct ((((i : Nat) : Int)) < (((ts.length : Nat) : Int))) (by omega)) ?_
      refine ps_end ?_
      refine then_n ?_
      refine sy_sq (part_vwritten 978) (part_vwritten 979) ?_
      refine sy_ys (.tmp 21) (part_vwritten 1956) (part_vwritten 1957) ?_
      refine sy_sk ?_
      refine then_n ?_
      refine sy_sq (part_vwritten 1958) (part_vwritten 1959) ?_
      refine sy_bk 1 (part_vwritten 3916) ?_
      refine sy_sq (part_vwritten 7832) (part_vwritten 7833) ?_
      refine sy_reg ?_
      refine rg_plain 6 (opsAt (part_vwritten 7832)) [0, 1, 2] (by kernel_rfl) (by kernel_rfl) ?_
      refine ps_p (o_vwritten 7832 0) (pT g i) (exec_cast (v := pT g (0 + i * 1)) (by simp) (exec_indexAt_slice 71 (.tmp 18) (.tmp 20) (by kernel_rfl) g 0 ts.length cap (by kernel_rfl) .i64 i (by kernel_rfl) _ 1 Try.underlying71 (by kernel_rfl) (by omega))) ?_
      refine ps_p (o_vwritten 7832 1) (.func (.func 98) #[] #[pT gk 0]) (exec_ld 74 (.tmp 22) g i Try.underlying74 ((cell_of_row _ _ _ _ _ _ ((K6.block g (lt_of_block h0) (fun x => x)).trans h0)).trans (hd_get hvk))) ?_
      refine ps_k (o_vwritten 7832 2) (.func (.func 98) #[] #[pT gk 0]) ?_
      refine ps_end ?_
      refine then_n ?_
      refine sy_sq (part_vwritten 15666) (part_vwritten 15667) ?_
      refine sy_reg ?_
      refine rg_plain 7 (opsAt (part_vwritten 15666)) [0, 1, 2, 3] (by kernel_rfl) (by kernel_rfl) ?_
      refine ps_k (o_vwritten 15666 0) (.func (.func 98) #[] #[pT gk 0]) ?_
      refine ps_k (o_vwritten 15666 1) (pT b 0) ?_
      refine ps_callV (o_vwritten 15666 2) (.tmp 24) 98 #[] #[pT gk 0] #[pT b 0, pT gk 0] (by kernel_rfl) (by kernel_rfl) (by kernel_rfl) (by kernel_rfl) (by kernel_rfl) (enters_of Try.func98 (by kernel_rfl) rfl) ((vroot1_ok b gk r F0 (byt ts i) _ h5 ((K6.block gk (lt_of_block hgk) (fun x => x)).trans hgk) hrv (by omega)).mono ?_)
      rintro e V10 ⟨rfl, F', hV10, hS⟩
      rw [show byt ts i ++ r = byt ts (i + 1) from (byt_succ hti).symm] at hV10
      refine ⟨_, rfl, ?_⟩
      have K11 : Keeps Nob w V10 := K6.then hS.1 (fun i hi hm => absurd hi (by have := hge i hm; omega))
      have z12 := hS.1.size
      refine ps_k (o_vwritten 15666 3) (.int .i64 0) ?_
      refine ps_end ?_
      refine then_n ?_
      refine sy_sq (part_vwritten 31334) (part_vwritten 31335) ?_
      refine sy_reg ?_
      refine rg_plain 8 (opsAt (part_vwritten 31334)) [0, 1] (by kernel_rfl) (by kernel_rfl) ?_
      refine ps_k (o_vwritten 31334 0) (.int .i64 0) ?_
      refine ps_k (o_vwritten 31334 1) (.bool false) ?_
      refine ps_end ?_
      refine then_n ?_
      refine sy_n (.tmp 28) (part_vwritten 62670) (part_vwritten 62671) ?_
      refine sy_sk ?_
      refine blk_n ?_
      refine then_n ?_
      refine sy_reg ?_
      refine rg_plain 10 (opsAt (part_vwritten 1959)) [0, 1] (by kernel_rfl) (by kernel_rfl) ?_
      refine ps_p (o_vwritten 1959 0) (iN (i + 1)) (exec_cast (congrArg (Value.int .i64) (wrapN (i + 1) (by omega))) (by kernel_rfl)) ?_
      refine ps_k (o_vwritten 1959 1) (iN (i + 1)) ?_
      refine ps_end ?_
      refine then_n ?_
      refine ⟨⟨i + 1, F', u4, u5, (.func (.func 98) #[] #[pT gk 0]), (.int .i64 0), (.bool true), (pT g i), (.func (.func 98) #[] #[pT gk 0]), (.func (.func 98) #[] #[pT gk 0]), (pT b 0), (.int .i64 0), (.int .i64 0), (.bool false), u29, (iN (i + 1)), by kernel_rfl, by omega, hV10, K11, (hS.ge hge K6.size)⟩, ?_⟩
      exact lt_meas (x := ts.length - (i + 1)) (y := ts.length - i) (by kernel_rfl) (by kernel_rfl) (by omega)
    · have hsz := byt_succ hti
      have hbl := byt_le ts (i + 1)
      have hbe : (byt ts (i + 1)).length = (byt ts i).length + (Cod.enc k).length := by rw [hsz, List.length_append]; rfl
      refine sy_sq (part_vwritten 488) (part_vwritten 489) ?_
      refine sy_reg ?_
      refine rg_plain 5 (opsAt (part_vwritten 488)) [0] (by kernel_rfl) (by kernel_rfl) ?_
      refine ps_p (o_vwritten 488 0) (.bool true) (dct ((((i : Nat) : Int)) < (((ts.length : Nat) : Int))) (by omega)) ?_
      refine ps_end ?_
      refine then_n ?_
      refine sy_sq (part_vwritten 978) (part_vwritten 979) ?_
      refine sy_ys (.tmp 21) (part_vwritten 1956) (part_vwritten 1957) ?_
      refine sy_sk ?_
      refine then_n ?_
      refine sy_sq (part_vwritten 1958) (part_vwritten 1959) ?_
      refine sy_bk 1 (part_vwritten 3916) ?_
      refine sy_sq (part_vwritten 7832) (part_vwritten 7833) ?_
      refine sy_reg ?_
      refine rg_plain 6 (opsAt (part_vwritten 7832)) [0, 1, 2] (by kernel_rfl) (by kernel_rfl) ?_
      refine ps_p (o_vwritten 7832 0) (pT g i) (exec_cast (v := pT g (0 + i * 1)) (by simp) (exec_indexAt_slice 71 (.tmp 18) (.tmp 20) (by kernel_rfl) g 0 ts.length cap (by kernel_rfl) .i64 i (by kernel_rfl) _ 1 Try.underlying71 (by kernel_rfl) (by omega))) ?_
      refine ps_p (o_vwritten 7832 1) (.func (.func 85) #[] #[pT gk 0]) (exec_ld 74 (.tmp 22) g i Try.underlying74 ((cell_of_row _ _ _ _ _ _ ((K6.block g (lt_of_block h0) (fun x => x)).trans h0)).trans (hd_get hvk))) ?_
      refine ps_k (o_vwritten 7832 2) (.func (.func 85) #[] #[pT gk 0]) ?_
      refine ps_end ?_
      refine then_n ?_
      refine sy_sq (part_vwritten 15666) (part_vwritten 15667) ?_
      refine sy_reg ?_
      refine rg_plain 7 (opsAt (part_vwritten 15666)) [0, 1, 2, 3] (by kernel_rfl) (by kernel_rfl) ?_
      refine ps_k (o_vwritten 15666 0) (.func (.func 85) #[] #[pT gk 0]) ?_
      refine ps_k (o_vwritten 15666 1) (pT b 0) ?_
      refine ps_callV (o_vwritten 15666 2) (.tmp 24) 85 #[] #[pT gk 0] #[pT b 0, pT gk 0] (by kernel_rfl) (by kernel_rfl) (by kernel_rfl) (by kernel_rfl) (by kernel_rfl) (enters_of Try.func85 (by kernel_rfl) rfl) ((vtag1_ok b gk k F0 (byt ts i) _ h5 ((K6.block gk (lt_of_block hgk) (fun x => x)).trans hgk) hkv (by omega)).mono ?_)
      rintro e V13 ⟨rfl, F', hV13, hS⟩
      rw [show byt ts i ++ (Cod.enc k) = byt ts (i + 1) from (byt_succ hti).symm] at hV13
      refine ⟨_, rfl, ?_⟩
      have K14 : Keeps Nob w V13 := K6.then hS.1 (fun i hi hm => absurd hi (by have := hge i hm; omega))
      have z15 := hS.1.size
      refine ps_k (o_vwritten 15666 3) (.int .i64 0) ?_
      refine ps_end ?_
      refine then_n ?_
      refine sy_sq (part_vwritten 31334) (part_vwritten 31335) ?_
      refine sy_reg ?_
      refine rg_plain 8 (opsAt (part_vwritten 31334)) [0, 1] (by kernel_rfl) (by kernel_rfl) ?_
      refine ps_k (o_vwritten 31334 0) (.int .i64 0) ?_
      refine ps_k (o_vwritten 31334 1) (.bool false) ?_
      refine ps_end ?_
      refine then_n ?_
      refine sy_n (.tmp 28) (part_vwritten 62670) (part_vwritten 62671) ?_
      refine sy_sk ?_
      refine blk_n ?_
      refine then_n ?_
      refine sy_reg ?_
      refine rg_plain 10 (opsAt (part_vwritten 1959)) [0, 1] (by kernel_rfl) (by kernel_rfl) ?_
      refine ps_p (o_vwritten 1959 0) (iN (i + 1)) (exec_cast (congrArg (Value.int .i64) (wrapN (i + 1) (by omega))) (by kernel_rfl)) ?_
      refine ps_k (o_vwritten 1959 1) (iN (i + 1)) ?_
      refine ps_end ?_
      refine then_n ?_
      refine ⟨⟨i + 1, F', u4, u5, (.func (.func 85) #[] #[pT gk 0]), (.int .i64 0), (.bool true), (pT g i), (.func (.func 85) #[] #[pT gk 0]), (.func (.func 85) #[] #[pT gk 0]), (pT b 0), (.int .i64 0), (.int .i64 0), (.bool false), u29, (iN (i + 1)), by kernel_rfl, by omega, hV13, K14, (hS.ge hge K6.size)⟩, ?_⟩
      exact lt_meas (x := ts.length - (i + 1)) (y := ts.length - i) (by kernel_rfl) (by kernel_rfl) (by omega)
    · show _
      refine sy_sq (part_vwritten 488) (part_vwritten 489) ?_
      refine sy_reg ?_
      refine rg_plain 5 (opsAt (part_vwritten 488)) [0] (by kernel_rfl) (by kernel_rfl) ?_
      refine ps_p (o_vwritten 488 0) (.bool false) (dcf ((((i : Nat) : Int)) < (((ts.length : Nat) : Int))) (by omega)) ?_
      refine ps_end ?_
      refine then_n ?_
      refine sy_sq (part_vwritten 978) (part_vwritten 979) ?_
      refine sy_n (.tmp 21) (part_vwritten 1956) (part_vwritten 1957) ?_
      refine sy_exit 0 (by kernel_rfl) ?_
      refine then_e ?_
      refine then_e ?_
      refine blk_e ?_
      refine then_n ?_
      refine sy_sq (part_vwritten 62) (part_vwritten 63) ?_
      refine sy_reg ?_
      refine rg_plain 11 (opsAt (part_vwritten 62)) [0, 1, 2, 3, 4, 5] (by kernel_rfl) (by kernel_rfl) ?_
      refine ps_k (o_vwritten 62 0) (pT b 0) ?_
      refine ps_c (o_vwritten 62 1) 82 #[pT b 0] Try.func82 ((Wr.done h5).mono ?_)
      rintro e V16 ⟨X, rfl, ⟨hX, hnX⟩, kV16⟩
      have hX' : Row V16 5 1 X (allb ts).length (B (allb ts)) := by rw [← byt_all, ← eq_i]; exact hX
      refine ⟨_, rfl, ?_⟩
      have h17 : Wr V16 F0 b ⟨4096, byt ts i, 0⟩ := h5.keepsN kV16
      have K18 := K6.nn kV16
      have z19 := kV16.size
      refine ps_k (o_vwritten 62 2) (X) ?_
      refine ps_k (o_vwritten 62 3) (.int .i64 0) ?_
      refine ps_k (o_vwritten 62 4) (X) ?_
      refine ps_k (o_vwritten 62 5) (.int .i64 0) ?_
      refine ps_end ?_
      refine then_n ?_
      refine sy_ret (by kernel_rfl) ?_
      refine sy_out (.tuple #[X, .int .i64 0]) rfl (by kernel_rfl) ?_
      exact ⟨X, rfl, hX', fun j hj => by have := hnX j hj; have := K6.size; omega, K18⟩
theorem vwritten_ok (v : Value) (ts : List Thg) (vs : List Value) (w : World) (h0 : Row w 74 1 v ts.length vs) (h1 : ThsAt w vs ts) (hpos : 0 < ts.length) (hok : ∀ (k : Nat) (t : Thg), ts[k]? = some t → t.Ok) (hl : (allb ts).length ≤ 4096) (hmax : ts.length ≤ 1000) :
    Calls Try.prog 54 #[.int .i64 0, v] w fun e w' => ∃ X, e = .returned (.tuple #[X, .int .i64 0]) ∧ Row w' 5 1 X (allb ts).length (B (allb ts)) ∧ NewFrom w.heap.size X ∧ Keeps Nob w w' := by
  obtain ⟨g, cap, rest, rfl, hg, _, _⟩ := row_open h0 hpos
  exact vwritten_row g cap ts vs rest w hg h1 hok hl hmax
end Go.Proofs.Ytenaakldccjnbaa
