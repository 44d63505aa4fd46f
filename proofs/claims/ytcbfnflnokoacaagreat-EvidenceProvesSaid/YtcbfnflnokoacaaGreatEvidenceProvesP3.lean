import Derived.Test.YtcbfnflnokoacaaGreatEvidenceProvesP2
namespace Go.Proofs.YtcbfnflnokoacaaGreat
set_option maxRecDepth 100000
set_option maxHeartbeats 4000000
open Go Go.RowKit Go.Own Go.Shelf
/-- What is written of a vote. -/
inductive Thg | n (x : Int) | h (r : List UInt8) | u (k : Nat)
def Thg.by : Thg → List UInt8
  | .n x => Cod.enc x.toNat
  | .h r => r
  | .u k => Cod.enc k
def Thg.Ok : Thg → Prop
  | .n x => 0 ≤ x ∧ x ≤ 9223372036854775807
  | .h r => r.length = 32
  | .u k => k < 2 ^ 64
def ThgAt (W : World) (V : Value) : Thg → Prop
  | .n x => ∃ g, V = .func (.func 130) #[] #[.pointer (some ⟨g, 0, none⟩)] ∧ W.heap[g]? = some (.cells #[.int .i64 x] 3 (0, 0))
  | .h r => ∃ g, V = .func (.func 132) #[] #[.pointer (some ⟨g, 0, none⟩)] ∧ W.heap[g]? = some (.cells (B r).toArray 23 (0, 0))
  | .u k => ∃ g, V = .func (.func 134) #[] #[.pointer (some ⟨g, 0, none⟩)] ∧ W.heap[g]? = some (.cells #[.int .u64 ((k : Nat) : Int)] 24 (0, 0))
theorem ThgAt.keeps {W W' : World} {M : Nat → Prop} {V : Value} {t : Thg} (h : ThgAt W V t) (k : Keeps M W W') (hm : ∀ j cs T fr, W.heap[j]? = some (.cells cs T fr) → T = 3 ∨ T = 23 ∨ T = 24 → ¬ M j) : ThgAt W' V t := by
  cases t <;> obtain ⟨g, e, hg⟩ := h
  · exact ⟨g, e, (k.block g (lt_of_block hg) (hm g _ _ _ hg (.inl rfl))).trans hg⟩
  · exact ⟨g, e, (k.block g (lt_of_block hg) (hm g _ _ _ hg (.inr (.inl rfl)))).trans hg⟩
  · exact ⟨g, e, (k.block g (lt_of_block hg) (hm g _ _ _ hg (.inr (.inr rfl)))).trans hg⟩
theorem ThgAt.one {W : World} {V : Value} {t : Thg} (h : ThgAt W V t) : V.oneCell' = true := by
  cases t <;> obtain ⟨g, rfl, hg⟩ := h <;> rfl
/-- Things, one by one. -/
def ThsAt (W : World) (vs : List Value) (ts : List Thg) : Prop := vs.length = ts.length ∧ ∀ (k : Nat) (V : Value) (t : Thg), vs[k]? = some V → ts[k]? = some t → ThgAt W V t
theorem ThsAt.keepsN {W W' : World} {vs : List Value} {ts : List Thg} (h : ThsAt W vs ts) (k : Keeps Nob W W') : ThsAt W' vs ts := ⟨h.1, fun i V t hv ht => (h.2 i V t hv ht).keeps k (fun _ _ _ _ _ _ x => x)⟩
theorem ThsAt.nil (W : World) : ThsAt W [] [] := ⟨rfl, fun k V t h => by simp at h⟩
theorem ThsAt.cons {W : World} {V : Value} {t : Thg} {vs : List Value} {ts : List Thg} (h : ThgAt W V t) (hs : ThsAt W vs ts) : ThsAt W (V :: vs) (t :: ts) := ⟨by simp [hs.1], fun k U u hU hu => by
  cases k with
  | zero => simp at hU hu; subst hU; subst hu; exact h
  | succ k => exact hs.2 k U u (by simpa using hU) (by simpa using hu)⟩
def byt (ts : List Thg) (i : Nat) : List UInt8 := (ts.take i).flatMap Thg.by
def allb (ts : List Thg) : List UInt8 := ts.flatMap Thg.by
theorem byt_succ {ts : List Thg} {i : Nat} {t : Thg} (h : ts[i]? = some t) : byt ts (i + 1) = byt ts i ++ t.by := by unfold byt; rw [List.take_add_one, h]; simp
theorem byt_all (ts : List Thg) : byt ts ts.length = allb ts := by unfold byt allb; rw [List.take_length]
theorem byt_le (ts : List Thg) (i : Nat) : (byt ts i).length ≤ (allb ts).length := by
  unfold byt allb
  conv => rhs; rw [← List.take_append_drop i ts, List.flatMap_append, List.length_append]
  omega
theorem add_ok {out bs : List UInt8} (h : out.length + bs.length ≤ 4096) : (⟨4096, out, 0⟩ : WS).add bs = ⟨4096, out ++ bs, 0⟩ := by
  unfold WS.add
  rw [if_pos rfl, if_neg (by simp only; omega)]
theorem ths_split {w : World} {vs : List Value} {ts : List Thg} (h : ThsAt w vs ts) (hok : ∀ (k : Nat) (t : Thg), ts[k]? = some t → t.Ok) (i : Nat) (hi : i ≤ ts.length) :
    (i < ts.length ∧ ∃ x gk, ts[i]? = some (.n x) ∧ (0 ≤ x ∧ x ≤ 9223372036854775807) ∧ vs[i]? = some (.func (.func 130) #[] #[.pointer (some ⟨gk, 0, none⟩)]) ∧ w.heap[gk]? = some (.cells #[.int .i64 x] 3 (0, 0))) ∨
    (i < ts.length ∧ ∃ r gk, ts[i]? = some (.h r) ∧ r.length = 32 ∧ vs[i]? = some (.func (.func 132) #[] #[.pointer (some ⟨gk, 0, none⟩)]) ∧ w.heap[gk]? = some (.cells (B r).toArray 23 (0, 0))) ∨
    (i < ts.length ∧ ∃ k gk, ts[i]? = some (.u k) ∧ k < 2 ^ 64 ∧ vs[i]? = some (.func (.func 134) #[] #[.pointer (some ⟨gk, 0, none⟩)]) ∧ w.heap[gk]? = some (.cells #[.int .u64 ((k : Nat) : Int)] 24 (0, 0))) ∨ i = ts.length := by
  rcases Nat.lt_or_eq_of_le hi with hl | hl
  · obtain ⟨V, hV⟩ : ∃ V, vs[i]? = some V := ⟨_, List.getElem?_eq_getElem (by rw [h.1]; exact hl)⟩
    obtain ⟨t, ht⟩ : ∃ t, ts[i]? = some t := ⟨_, List.getElem?_eq_getElem hl⟩
    have hT := h.2 i V t hV ht
    have hO := hok i t ht
    cases t with
    | n x => obtain ⟨g, rfl, hg⟩ := hT; exact .inl ⟨hl, x, g, ht, hO, hV, hg⟩
    | h r => obtain ⟨g, rfl, hg⟩ := hT; exact .inr (.inl ⟨hl, r, g, ht, hO, hV, hg⟩)
    | u k => obtain ⟨g, rfl, hg⟩ := hT; exact .inr (.inr (.inl ⟨hl, k, g, ht, hO, hV, hg⟩))
  · exact .inr (.inr (.inr hl))
theorem row_cast {w : World} {t : TypeId} {v : Value} {n : Nat} {x y z : List UInt8} (h : Row w t 1 v n (B x ++ B y)) (e : x ++ y = z) (hn : n = z.length) : Row w t 1 v z.length (B z) := by
  subst hn; rw [← B_append, e] at h; exact h
theorem hd_get {vs rest : List Value} {i : Nat} {V : Value} (h : vs[i]? = some V) : (vs ++ rest).toArray[i]? = some V := by
  rw [List.getElem?_toArray, List.getElem?_append_left (List.getElem?_eq_some_iff.1 h).1]; exact h
noncomputable def qc40_6 (n : Nat) : Code := partOf Tryz.f97 n
theorem vnum_ok (x : Int) (w : World) :
    Calls Tryz.prog 97 #[.int .i64 x] w (fun e w' => ∃ g, e = .returned (.func (.func 130) #[] #[.pointer (some ⟨g, 0, none⟩)]) ∧ w'.heap[g]? = some (.cells #[.int .i64 x] 3 (0, 0)) ∧ w.heap.size ≤ g ∧ Keeps Nob w w') := by
  have K0 : Keeps Nob w w := Keeps.refl _ _
  refine sy_enter (qc40_6 1) ⟨#[.int .i64 x, ud, ud, ud], []⟩ Tryz.func97 (by kernel_rfl) (by kernel_rfl) <| sy_sq (qc40_6 2) (qc40_6 3) <| sy_reg <| rg_q 0 [0, 1] ?_
  obtain ⟨V1, eV1, g, eg, h2, kV1⟩ := alloc_step w (#[.int .i64 x]) 3
  have n3 : w.heap.size ≤ g := eg ▸ K0.size
  refine prq (pT g 0) (w' := V1) (by rw [← eV1, ← eg]; exact exec_box 3 (.tmp 0) (by kernel_rfl) (.int .i64 x) (by kernel_rfl)) ?_
  clear eV1
  have K4 := K0.nn kV1
  have z5 := kV1.size
  refine pkq (.nilFunc) <| ps_end <| then_n <| sy_sq (qc40_6 6) (qc40_6 7) <| sy_reg <| rg_q 1 [0, 1] <| pkq (.func (.func 130) #[] #[pT g 0]) <| pkq (.func (.func 130) #[] #[pT g 0]) <| ps_end <| then_n <| sy_ret (by kernel_rfl) <| sy_out (.func (.func 130) #[] #[.pointer (some ⟨g, 0, none⟩)]) rfl (by kernel_rfl) ?_
  exact ⟨g, rfl, h2, by omega, K4⟩
noncomputable def qc40_2 (n : Nat) : Code := partOf Tryz.f130 n
theorem vnum1_ok (b g : Nat) (x : Int) (F0 : Nat → Prop) (out : List UInt8) (w : World) (hw : Wr w F0 b ⟨4096, out, 0⟩) (hg : w.heap[g]? = some (.cells #[.int .i64 x] 3 (0, 0))) (hx : 0 ≤ x ∧ x ≤ 9223372036854775807) (hl : out.length + (Cod.enc x.toNat).length ≤ 4096) :
    Calls Tryz.prog 130 #[.pointer (some ⟨b, 0, none⟩), .pointer (some ⟨g, 0, none⟩)] w (fun e w' => e = .returned (.int .i64 0) ∧ ∃ F', Wr w' F' b ⟨4096, out ++ (Cod.enc x.toNat), 0⟩ ∧ Step w w' F0 F') := by
  have K0 : Keeps F0 w w := Keeps.refl _ _
  refine sy_enter (qc40_2 1) ⟨#[pT b 0, pT g 0, ud, ud, ud, ud, ud], []⟩ Tryz.func130 (by kernel_rfl) (by kernel_rfl) <| sy_sq (qc40_2 2) (qc40_2 3) <| sy_reg <| rg_q 0 [0] <| pkq (.int .i64 0) <| ps_end <| then_n <| sy_sq (qc40_2 6) (qc40_2 7) <| sy_reg <| rg_q 1 [0, 1, 2, 3] <| pkq (pT b 0) <| ppq (.int .i64 x) (exec_ld 3 (.tmp 1) g 0 Tryz.underlying3 (rc (hg) (by kernel_rfl))) ?_
  refine pcq 131 #[pT b 0, .int .i64 x] Tryz.func131 ((hw.n x hx.1 hx.2).mono ?_)
  rintro e V1 ⟨he, F', hW, hS⟩
  rw [add_ok hl] at he hW
  subst he
  refine ⟨_, rfl, ?_⟩
  have K2 : Keeps F0 w V1 := K0.then hS.1 (fun _ _ h => h)
  have z3 := hS.1.size
  refine pkq (.int .i64 0) <| ps_end <| then_n <| sy_ret (by kernel_rfl) <| sy_out (.int .i64 0) rfl (by kernel_rfl) ?_
  exact ⟨rfl, F', hW, hS⟩
noncomputable def qc40_4 (n : Nat) : Code := partOf Tryz.f98 n
theorem vroot_ok (r : List UInt8) (w : World) :
    Calls Tryz.prog 98 #[.agg (B r).toArray] w (fun e w' => ∃ g, e = .returned (.func (.func 132) #[] #[.pointer (some ⟨g, 0, none⟩)]) ∧ w'.heap[g]? = some (.cells (B r).toArray 23 (0, 0)) ∧ w.heap.size ≤ g ∧ Keeps Nob w w') := by
  have K0 : Keeps Nob w w := Keeps.refl _ _
  refine sy_enter (qc40_4 1) ⟨#[.agg (B r).toArray, ud, ud, ud], []⟩ Tryz.func98 (by kernel_rfl) (by kernel_rfl) <| sy_sq (qc40_4 2) (qc40_4 3) <| sy_reg <| rg_q 0 [0, 1] ?_
  obtain ⟨V1, eV1, g, eg, h2, kV1⟩ := alloc_step w ((B r).toArray) 23
  have n3 : w.heap.size ≤ g := eg ▸ K0.size
  refine prq (pT g 0) (w' := V1) (by rw [← eV1, ← eg]; exact exec_box 23 (.tmp 0) (by kernel_rfl) (.agg (B r).toArray) (by kernel_rfl)) ?_
  clear eV1
  have K4 := K0.nn kV1
  have z5 := kV1.size
  refine pkq (.nilFunc) <| ps_end <| then_n <| sy_sq (qc40_4 6) (qc40_4 7) <| sy_reg <| rg_q 1 [0, 1] <| pkq (.func (.func 132) #[] #[pT g 0]) <| pkq (.func (.func 132) #[] #[pT g 0]) <| ps_end <| then_n <| sy_ret (by kernel_rfl) <| sy_out (.func (.func 132) #[] #[.pointer (some ⟨g, 0, none⟩)]) rfl (by kernel_rfl) ?_
  exact ⟨g, rfl, h2, by omega, K4⟩
noncomputable def qc40_1 (n : Nat) : Code := partOf Tryz.f132 n
theorem vroot1_ok (b g : Nat) (r : List UInt8) (F0 : Nat → Prop) (out : List UInt8) (w : World) (hw : Wr w F0 b ⟨4096, out, 0⟩) (hg : w.heap[g]? = some (.cells (B r).toArray 23 (0, 0))) (hr : r.length = 32) (hl : out.length + (r).length ≤ 4096) :
    Calls Tryz.prog 132 #[.pointer (some ⟨b, 0, none⟩), .pointer (some ⟨g, 0, none⟩)] w (fun e w' => e = .returned (.int .i64 0) ∧ ∃ F', Wr w' F' b ⟨4096, out ++ r, 0⟩ ∧ Step w w' F0 F') := by
  have K0 : Keeps F0 w w := Keeps.refl _ _
  refine sy_enter (qc40_1 1) ⟨#[pT b 0, pT g 0, ud, ud, ud, ud, ud], []⟩ Tryz.func132 (by kernel_rfl) (by kernel_rfl) <| sy_sq (qc40_1 2) (qc40_1 3) <| sy_reg <| rg_q 0 [0] <| pkq (.int .i64 0) <| ps_end <| then_n <| sy_sq (qc40_1 6) (qc40_1 7) <| sy_reg <| rg_q 1 [0, 1, 2, 3] <| pkq (pT b 0) <| ppq (.agg ((B r).toArray)) (exec_load_row 23 (.tmp 1) (by kernel_rfl) g (by kernel_rfl) _ _ (0, 0) _ (hg) Tryz.underlying23 rfl (by rw [Bz_size, hr]; kernel_rfl)) ?_
  refine pcq 133 #[pT b 0, .agg ((B r).toArray)] Tryz.func133 ((hw.hash r hr).mono ?_)
  rintro e V1 ⟨he, F', hW, hS⟩
  rw [add_ok hl] at he hW
  subst he
  refine ⟨_, rfl, ?_⟩
  have K2 : Keeps F0 w V1 := K0.then hS.1 (fun _ _ h => h)
  have z3 := hS.1.size
  refine pkq (.int .i64 0) <| ps_end <| then_n <| sy_ret (by kernel_rfl) <| sy_out (.int .i64 0) rfl (by kernel_rfl) ?_
  exact ⟨rfl, F', hW, hS⟩
noncomputable def qc40_3 (n : Nat) : Code := partOf Tryz.f134 n
theorem vtag1_ok (b g : Nat) (k : Nat) (F0 : Nat → Prop) (out : List UInt8) (w : World) (hw : Wr w F0 b ⟨4096, out, 0⟩) (hg : w.heap[g]? = some (.cells #[.int .u64 ((k : Nat) : Int)] 24 (0, 0))) (hk : k < 2 ^ 64) (hl : out.length + (Cod.enc k).length ≤ 4096) :
    Calls Tryz.prog 134 #[.pointer (some ⟨b, 0, none⟩), .pointer (some ⟨g, 0, none⟩)] w (fun e w' => e = .returned (.int .i64 0) ∧ ∃ F', Wr w' F' b ⟨4096, out ++ (Cod.enc k), 0⟩ ∧ Step w w' F0 F') := by
  have K0 : Keeps F0 w w := Keeps.refl _ _
  refine sy_enter (qc40_3 1) ⟨#[pT b 0, pT g 0, ud, ud, ud, ud, ud], []⟩ Tryz.func134 (by kernel_rfl) (by kernel_rfl) <| sy_sq (qc40_3 2) (qc40_3 3) <| sy_reg <| rg_q 0 [0] <| pkq (.int .i64 0) <| ps_end <| then_n <| sy_sq (qc40_3 6) (qc40_3 7) <| sy_reg <| rg_q 1 [0, 1, 2, 3] <| pkq (pT b 0) <| ppq (uN k) (exec_ld 24 (.tmp 1) g 0 Tryz.underlying24 (rc (hg) (by kernel_rfl))) ?_
  refine pcq 135 #[pT b 0, uN k] Tryz.func135 ((hw.u k hk).mono ?_)
  rintro e V1 ⟨he, F', hW, hS⟩
  rw [add_ok hl] at he hW
  subst he
  refine ⟨_, rfl, ?_⟩
  have K2 : Keeps F0 w V1 := K0.then hS.1 (fun _ _ h => h)
  have z3 := hS.1.size
  refine pkq (.int .i64 0) <| ps_end <| then_n <| sy_ret (by kernel_rfl) <| sy_out (.int .i64 0) rfl (by kernel_rfl) ?_
  exact ⟨rfl, F', hW, hS⟩
noncomputable def qc40_0 (n : Nat) : Code := partOf Tryz.f95 n
noncomputable abbrev qo40_0 (n k : Nat) : Oper := (opsAt (qc40_0 n)).getD k default
theorem vwritten_bad (x : Int) (v : Value) (w : World) (hx : x ≠ 0) :
    Calls Tryz.prog 95 #[.int .i64 x, v] w (fun e w' => e = .returned (.tuple #[.slice none 0 0, .int .i64 x]) ∧ w = w') := by
  have K0 : Keeps Nob w w := Keeps.refl _ _
  refine sy_enter (qc40_0 1) ⟨#[.int .i64 x, v, ud, ud, ud, ud, ud, ud, ud, ud, ud, ud, ud, ud, ud, ud, ud, ud, ud, ud, ud, ud, ud, ud, ud, ud, ud, ud, ud, ud, ud, ud, ud, ud, ud], []⟩ Tryz.func95 (by kernel_rfl) (by kernel_rfl) <| sy_sq (qc40_0 2) (qc40_0 3) <| sy_reg <| rg_q 0 [0, 1] <| pkq (.slice none 0 0) <| pkq (.int .i64 0) <| ps_end <| then_n <| sy_sq (qc40_0 6) (qc40_0 7) <| sy_sq (qc40_0 12) (qc40_0 13) <| sy_reg <| rg_q 1 [0, 1] <| pkq (.int .i64 x) <| ppq (.bool true) (nqt ((x) : Int) ((0) : Int) (by omega)) ?_
  refine ps_end <| then_n <| sy_ys (.tmp 12) (qc40_0 26) (qc40_0 27) <| sy_sq (qc40_0 52) (qc40_0 53) <| sy_reg <| rg_q 2 [0, 1, 2] <| pkq (.int .i64 x) <| pkq (.slice none 0 0) <| pkq (.int .i64 x) <| ps_end <| then_n <| sy_ret (by kernel_rfl) <| then_r <| sy_out (.tuple #[.slice none 0 0, .int .i64 x]) rfl (by kernel_rfl) ?_
  exact ⟨rfl, rfl⟩
theorem vwritten_row (g cap : Nat) (ts : List Thg) (vs rest : List Value) (w : World) (h0 : w.heap[g]? = some (.cells (vs ++ rest).toArray 143 (0, 0))) (h1 : ThsAt w vs ts) (hok : ∀ (k : Nat) (t : Thg), ts[k]? = some t → t.Ok) (hl : (allb ts).length ≤ 4096) (hmax : ts.length ≤ 1000) :
    Calls Tryz.prog 95 #[.int .i64 0, .slice (some ⟨g, 0, none⟩) ts.length cap] w (fun e w' => ∃ X, e = .returned (.tuple #[X, .int .i64 0]) ∧ Row w' 5 1 X (allb ts).length (B (allb ts)) ∧ NewFrom w.heap.size X ∧ Keeps Nob w w') := by
  have K0 : Keeps Nob w w := Keeps.refl _ _
  refine sy_enter (qc40_0 1) ⟨#[.int .i64 0, .slice (some ⟨g, 0, none⟩) ts.length cap, ud, ud, ud, ud, ud, ud, ud, ud, ud, ud, ud, ud, ud, ud, ud, ud, ud, ud, ud, ud, ud, ud, ud, ud, ud, ud, ud, ud, ud, ud, ud, ud, ud], []⟩ Tryz.func95 (by kernel_rfl) (by kernel_rfl) <| sy_sq (qc40_0 2) (qc40_0 3) <| sy_reg <| rg_q 0 [0, 1] <| pkq (.slice none 0 0) <| pkq (.int .i64 0) <| ps_end <| then_n <| sy_sq (qc40_0 6) (qc40_0 7) <| sy_sq (qc40_0 12) (qc40_0 13) <| sy_reg <| rg_q 1 [0, 1] <| pkq (.int .i64 0) <| pkq (.bool false) ?_
  refine ps_end <| then_n <| sy_n (.tmp 12) (qc40_0 26) (qc40_0 27) <| sy_sk <| then_n <| sy_sq (qc40_0 14) (qc40_0 15) <| sy_reg <| rg_q 3 [0, 1, 2, 3, 4, 5] ?_
  refine pcq 126 #[.int .i64 4096] Tryz.func126 ((wr_new 4096 _ (by omega) (by omega)).mono ?_)
  rintro e V1 ⟨b, F1, rfl, hV1, hge1, kV1⟩
  refine ⟨_, rfl, ?_⟩
  have K2 := K0.nn kV1
  have z3 := kV1.size
  refine pkq (.tuple #[pT b 0, .int .i64 0]) <| pkq (pT b 0) <| pkq (.int .i64 0) <| pkq (pT b 0) <| pkq (.int .i64 0) <| ps_end <| then_n <| sy_sq (qc40_0 30) (qc40_0 31) <| sy_sq (qc40_0 60) (qc40_0 61) <| sy_reg <| rg_q 4 [0, 1, 2] <| pkq (.slice (some ⟨g, 0, none⟩) ts.length cap) <| ppq (iN ts.length) (exec_len (.tmp 18) 111 _ (by kernel_rfl) Tryz.underlying111 (some ⟨g, 0, none⟩) ts.length cap (by kernel_rfl)) <| pkq (.int .i64 0) ?_
  refine ps_end <| then_n <| sy_bk 0 (qc40_0 122) ?_
  refine sy_loop (qc40_0 244) (fun a V => ∃ (i : Nat) (F0 : Nat → Prop) (u4 u5 u9 u10 u21 u22 u23 u24 u25 u26 u27 u28 u29 u30 : Value), (a = ⟨#[.int .i64 0, .slice (some ⟨g, 0, none⟩) ts.length cap, ud, ud, u4, u5, pT b 0, .int .i64 0, ud, u9, u10, .int .i64 0, .bool false, ud, .tuple #[pT b 0, .int .i64 0], .tuple #[pT b 0, .int .i64 0], pT b 0, .int .i64 0, .slice (some ⟨g, 0, none⟩) ts.length cap, iN ts.length, iN i, u21, u22, u23, u24, u25, u26, u27, u28, u29, u30, ud, ud, ud, ud], []⟩) ∧ (i ≤ ts.length) ∧ (Wr V F0 b ⟨4096, byt ts i, 0⟩) ∧ (Keeps Nob w V) ∧ (Ge F0 w)) (fun a _ => ts.length - (intOf (a.tmps.getD 20 undef)).toNat) (by kernel_rfl) ?_ ?_
  · exact ⟨0, F1, (.slice none 0 0), (.int .i64 0), undef, undef, undef, undef, undef, undef, undef, undef, undef, undef, undef, undef, by kernel_rfl, by omega, hV1, K2, hge1⟩
  · rintro a V4 ⟨i, F0, u4, u5, u9, u10, u21, u22, u23, u24, u25, u26, u27, u28, u29, u30, rfl, hi, h5, K6, hge⟩
    skip
    rcases ths_split h1 hok i hi with ⟨lt_i, x, gk, hti, hxv, hvk, hgk⟩ | ⟨lt_i, r, gk, hti, hrv, hvk, hgk⟩ | ⟨lt_i, k, gk, hti, hkv, hvk, hgk⟩ | eq_i
    · have hsz := byt_succ hti
      have hbl := byt_le ts (i + 1)
      have hbe : (byt ts (i + 1)).length = (byt ts i).length + (Cod.enc x.toNat).length := by rw [hsz, List.length_append]; rfl
      refine sy_sq (qc40_0 488) (qc40_0 489) <| sy_reg <| rg_q 5 [0] <| ppq (.bool true) (dct ((((i : Nat) : Int)) < (((ts.length : Nat) : Int))) (by omega)) <| ps_end <| then_n <| sy_sq (qc40_0 978) (qc40_0 979) <| sy_ys (.tmp 21) (qc40_0 1956) (qc40_0 1957) <| sy_sk <| then_n <| sy_sq (qc40_0 1958) (qc40_0 1959) <| sy_bk 1 (qc40_0 3916) <| sy_sq (qc40_0 7832) (qc40_0 7833) <| sy_reg ?_
      refine rg_q 6 [0, 1, 2] <| ppq (pT g i) (exec_cast (v := pT g (0 + i * 1)) (by simp) (exec_indexAt_slice 111 (.tmp 18) (.tmp 20) (by kernel_rfl) g 0 ts.length cap (by kernel_rfl) .i64 i (by kernel_rfl) _ 1 Tryz.underlying111 (by kernel_rfl) (by omega))) <| ppq (.func (.func 130) #[] #[pT gk 0]) (exec_ld 143 (.tmp 22) g i Tryz.underlying143 ((cell_of_row _ _ _ _ _ _ ((K6.block g (lt_of_block h0) (fun x => x)).trans h0)).trans (hd_get hvk))) <| pkq (.func (.func 130) #[] #[pT gk 0]) <| ps_end <| then_n <| sy_sq (qc40_0 15666) (qc40_0 15667) <| sy_reg <| rg_q 7 [0, 1, 2, 3] <| pkq (.func (.func 130) #[] #[pT gk 0]) <| pkq (pT b 0) ?_
      refine ps_callV (qo40_0 15666 2) (.tmp 24) 130 #[] #[pT gk 0] #[pT b 0, pT gk 0] (by kernel_rfl) (by kernel_rfl) (by kernel_rfl) (by kernel_rfl) (by kernel_rfl) (enters_of Tryz.func130 (by kernel_rfl) rfl) ((vnum1_ok b gk x F0 (byt ts i) _ h5 ((K6.block gk (lt_of_block hgk) (fun x => x)).trans hgk) hxv (by omega)).mono ?_)
      rintro e V7 ⟨rfl, F', hV7, hS⟩
      rw [show byt ts i ++ (Cod.enc x.toNat) = byt ts (i + 1) from (byt_succ hti).symm] at hV7
      refine ⟨_, rfl, ?_⟩
      have K8 : Keeps Nob w V7 := K6.then hS.1 (fun i hi hm => absurd hi (by have := hge i hm; omega))
      have z9 := hS.1.size
      refine pkq (.int .i64 0) <| ps_end <| then_n <| sy_sq (qc40_0 31334) (qc40_0 31335) <| sy_reg <| rg_q 8 [0, 1] <| pkq (.int .i64 0) <| pkq (.bool false) <| ps_end <| then_n <| sy_n (.tmp 28) (qc40_0 62670) (qc40_0 62671) <| sy_sk <| blk_n <| then_n ?_
      refine sy_reg <| rg_q 10 [0, 1] <| ppq (iN (i + 1)) (exec_cast (congrArg (Value.int .i64) (wrapN (i + 1) (by omega))) (by kernel_rfl)) <| pkq (iN (i + 1)) <| ps_end <| then_n ?_
      refine ⟨⟨i + 1, F', u4, u5, (.func (.func 130) #[] #[pT gk 0]), (.int .i64 0), (.bool true), (pT g i), (.func (.func 130) #[] #[pT gk 0]), (.func (.func 130) #[] #[pT gk 0]), (pT b 0), (.int .i64 0), (.int .i64 0), (.bool false), u29, (iN (i + 1)), by kernel_rfl, by omega, hV7, K8, (hS.ge hge K6.size)⟩, ?_⟩
      exact lt_meas (x := ts.length - (i + 1)) (y := ts.length - i) (by kernel_rfl) (by kernel_rfl) (by omega)
    · have hsz := byt_succ hti
      have hbl := byt_le ts (i + 1)
      have hbe : (byt ts (i + 1)).length = (byt ts i).length + (r).length := by rw [hsz, List.length_append]; rfl
      refine sy_sq (qc40_0 488) (qc40_0 489) <| sy_reg <| rg_q 5 [0] <| ppq (.bool true) (dct ((((i : Nat) : Int)) < (((ts.length : Nat) : Int))) (by omega)) <| ps_end <| then_n <| sy_sq (qc40_0 978) (qc40_0 979) <| sy_ys (.tmp 21) (qc40_0 1956) (qc40_0 1957) <| sy_sk <| then_n <| sy_sq (qc40_0 1958) (qc40_0 1959) <| sy_bk 1 (qc40_0 3916) <| sy_sq (qc40_0 7832) (qc40_0 7833) <| sy_reg ?_
      refine rg_q 6 [0, 1, 2] <| ppq (pT g i) (exec_cast (v := pT g (0 + i * 1)) (by simp) (exec_indexAt_slice 111 (.tmp 18) (.tmp 20) (by kernel_rfl) g 0 ts.length cap (by kernel_rfl) .i64 i (by kernel_rfl) _ 1 Tryz.underlying111 (by kernel_rfl) (by omega))) <| ppq (.func (.func 132) #[] #[pT gk 0]) (exec_ld 143 (.tmp 22) g i Tryz.underlying143 ((cell_of_row _ _ _ _ _ _ ((K6.block g (lt_of_block h0) (fun x => x)).trans h0)).trans (hd_get hvk))) <| pkq (.func (.func 132) #[] #[pT gk 0]) <| ps_end <| then_n <| sy_sq (qc40_0 15666) (qc40_0 15667) <| sy_reg <| rg_q 7 [0, 1, 2, 3] <| pkq (.func (.func 132) #[] #[pT gk 0]) <| pkq (pT b 0) ?_
      refine ps_callV (qo40_0 15666 2) (.tmp 24) 132 #[] #[pT gk 0] #[pT b 0, pT gk 0] (by kernel_rfl) (by kernel_rfl) (by kernel_rfl) (by kernel_rfl) (by kernel_rfl) (enters_of Tryz.func132 (by kernel_rfl) rfl) ((vroot1_ok b gk r F0 (byt ts i) _ h5 ((K6.block gk (lt_of_block hgk) (fun x => x)).trans hgk) hrv (by omega)).mono ?_)
      rintro e V10 ⟨rfl, F', hV10, hS⟩
      rw [show byt ts i ++ r = byt ts (i + 1) from (byt_succ hti).symm] at hV10
      refine ⟨_, rfl, ?_⟩
      have K11 : Keeps Nob w V10 := K6.then hS.1 (fun i hi hm => absurd hi (by have := hge i hm; omega))
      have z12 := hS.1.size
      refine pkq (.int .i64 0) <| ps_end <| then_n <| sy_sq (qc40_0 31334) (qc40_0 31335) <| sy_reg <| rg_q 8 [0, 1] <| pkq (.int .i64 0) <| pkq (.bool false) <| ps_end <| then_n <| sy_n (.tmp 28) (qc40_0 62670) (qc40_0 62671) <| sy_sk <| blk_n <| then_n ?_
      refine sy_reg <| rg_q 10 [0, 1] <| ppq (iN (i + 1)) (exec_cast (congrArg (Value.int .i64) (wrapN (i + 1) (by omega))) (by kernel_rfl)) <| pkq (iN (i + 1)) <| ps_end <| then_n ?_
      refine ⟨⟨i + 1, F', u4, u5, (.func (.func 132) #[] #[pT gk 0]), (.int .i64 0), (.bool true), (pT g i), (.func (.func 132) #[] #[pT gk 0]), (.func (.func 132) #[] #[pT gk 0]), (pT b 0), (.int .i64 0), (.int .i64 0), (.bool false), u29, (iN (i + 1)), by kernel_rfl, by omega, hV10, K11, (hS.ge hge K6.size)⟩, ?_⟩
      exact lt_meas (x := ts.length - (i + 1)) (y := ts.length - i) (by kernel_rfl) (by kernel_rfl) (by omega)
    · have hsz := byt_succ hti
      have hbl := byt_le ts (i + 1)
      have hbe : (byt ts (i + 1)).length = (byt ts i).length + (Cod.enc k).length := by rw [hsz, List.length_append]; rfl
      refine sy_sq (qc40_0 488) (qc40_0 489) <| sy_reg <| rg_q 5 [0] <| ppq (.bool true) (dct ((((i : Nat) : Int)) < (((ts.length : Nat) : Int))) (by omega)) <| ps_end <| then_n <| sy_sq (qc40_0 978) (qc40_0 979) <| sy_ys (.tmp 21) (qc40_0 1956) (qc40_0 1957) <| sy_sk <| then_n <| sy_sq (qc40_0 1958) (qc40_0 1959) <| sy_bk 1 (qc40_0 3916) <| sy_sq (qc40_0 7832) (qc40_0 7833) <| sy_reg ?_
      refine rg_q 6 [0, 1, 2] <| ppq (pT g i) (exec_cast (v := pT g (0 + i * 1)) (by simp) (exec_indexAt_slice 111 (.tmp 18) (.tmp 20) (by kernel_rfl) g 0 ts.length cap (by kernel_rfl) .i64 i (by kernel_rfl) _ 1 Tryz.underlying111 (by kernel_rfl) (by omega))) <| ppq (.func (.func 134) #[] #[pT gk 0]) (exec_ld 143 (.tmp 22) g i Tryz.underlying143 ((cell_of_row _ _ _ _ _ _ ((K6.block g (lt_of_block h0) (fun x => x)).trans h0)).trans (hd_get hvk))) <| pkq (.func (.func 134) #[] #[pT gk 0]) <| ps_end <| then_n <| sy_sq (qc40_0 15666) (qc40_0 15667) <| sy_reg <| rg_q 7 [0, 1, 2, 3] <| pkq (.func (.func 134) #[] #[pT gk 0]) <| pkq (pT b 0) ?_
      refine ps_callV (qo40_0 15666 2) (.tmp 24) 134 #[] #[pT gk 0] #[pT b 0, pT gk 0] (by kernel_rfl) (by kernel_rfl) (by kernel_rfl) (by kernel_rfl) (by kernel_rfl) (enters_of Tryz.func134 (by kernel_rfl) rfl) ((vtag1_ok b gk k F0 (byt ts i) _ h5 ((K6.block gk (lt_of_block hgk) (fun x => x)).trans hgk) hkv (by omega)).mono ?_)
      rintro e V13 ⟨rfl, F', hV13, hS⟩
      rw [show byt ts i ++ (Cod.enc k) = byt ts (i + 1) from (byt_succ hti).symm] at hV13
      refine ⟨_, rfl, ?_⟩
      have K14 : Keeps Nob w V13 := K6.then hS.1 (fun i hi hm => absurd hi (by have := hge i hm; omega))
      have z15 := hS.1.size
      refine pkq (.int .i64 0) <| ps_end <| then_n <| sy_sq (qc40_0 31334) (qc40_0 31335) <| sy_reg <| rg_q 8 [0, 1] <| pkq (.int .i64 0) <| pkq (.bool false) <| ps_end <| then_n <| sy_n (.tmp 28) (qc40_0 62670) (qc40_0 62671) <| sy_sk <| blk_n <| then_n ?_
      refine sy_reg <| rg_q 10 [0, 1] <| ppq (iN (i + 1)) (exec_cast (congrArg (Value.int .i64) (wrapN (i + 1) (by omega))) (by kernel_rfl)) <| pkq (iN (i + 1)) <| ps_end <| then_n ?_
      refine ⟨⟨i + 1, F', u4, u5, (.func (.func 134) #[] #[pT gk 0]), (.int .i64 0), (.bool true), (pT g i), (.func (.func 134) #[] #[pT gk 0]), (.func (.func 134) #[] #[pT gk 0]), (pT b 0), (.int .i64 0), (.int .i64 0), (.bool false), u29, (iN (i + 1)), by kernel_rfl, by omega, hV13, K14, (hS.ge hge K6.size)⟩, ?_⟩
      exact lt_meas (x := ts.length - (i + 1)) (y := ts.length - i) (by kernel_rfl) (by kernel_rfl) (by omega)
    · show _
      refine sy_sq (qc40_0 488) (qc40_0 489) <| sy_reg <| rg_q 5 [0] <| ppq (.bool false) (dcf ((((i : Nat) : Int)) < (((ts.length : Nat) : Int))) (by omega)) <| ps_end <| then_n <| sy_sq (qc40_0 978) (qc40_0 979) <| sy_n (.tmp 21) (qc40_0 1956) (qc40_0 1957) <| sy_exit 0 (by kernel_rfl) <| then_e <| then_e <| blk_e <| then_n <| sy_sq (qc40_0 62) (qc40_0 63) ?_
      refine sy_reg <| rg_q 11 [0, 1, 2, 3, 4, 5] <| pkq (pT b 0) ?_
      refine pcq 127 #[pT b 0] Tryz.func127 ((Wr.done h5).mono ?_)
      rintro e V16 ⟨X, rfl, ⟨hX, hnX⟩, kV16⟩
      have hX' : Row V16 5 1 X (allb ts).length (B (allb ts)) := by rw [← byt_all, ← eq_i]; exact hX
      refine ⟨_, rfl, ?_⟩
      have h17 : Wr V16 F0 b ⟨4096, byt ts i, 0⟩ := h5.keepsN kV16
      have K18 := K6.nn kV16
      have z19 := kV16.size
      refine pkq (X) <| pkq (.int .i64 0) <| pkq (X) <| pkq (.int .i64 0) <| ps_end <| then_n <| sy_ret (by kernel_rfl) <| sy_out (.tuple #[X, .int .i64 0]) rfl (by kernel_rfl) ?_
      exact ⟨X, rfl, hX', fun j hj => by have := hnX j hj; have := K6.size; omega, K18⟩
theorem vwritten_ok (v : Value) (ts : List Thg) (vs : List Value) (w : World) (h0 : Row w 143 1 v ts.length vs) (h1 : ThsAt w vs ts) (hpos : 0 < ts.length) (hok : ∀ (k : Nat) (t : Thg), ts[k]? = some t → t.Ok) (hl : (allb ts).length ≤ 4096) (hmax : ts.length ≤ 1000) :
    Calls Tryz.prog 95 #[.int .i64 0, v] w fun e w' => ∃ X, e = .returned (.tuple #[X, .int .i64 0]) ∧ Row w' 5 1 X (allb ts).length (B (allb ts)) ∧ NewFrom w.heap.size X ∧ Keeps Nob w w' := by
  obtain ⟨g, cap, rest, rfl, hg, _, _⟩ := row_open h0 hpos
  exact vwritten_row g cap ts vs rest w hg h1 hok hl hmax
end Go.Proofs.YtcbfnflnokoacaaGreat
namespace Go.Proofs.YtcbfnflnokoacaaGreat
set_option maxRecDepth 100000
set_option maxHeartbeats 4000000
open Go Go.RowKit Go.Own Go.Shelf
def attT (a : Att) : List Thg := [.n 1, .n a.v, .n a.s, .n a.t, .h a.r]
def proT (a : Pro) : List Thg := [.n 2, .n a.v, .n a.h, .h a.r]
def Att.bare (a : Att) : List UInt8 := allb (attT a)
def Pro.bare (a : Pro) : List UInt8 := allb (proT a)
def Att.bytes (a : Att) : List UInt8 := allb (attT a ++ [.u a.g])
def Pro.bytes (a : Pro) : List UInt8 := allb (proT a ++ [.u a.g])
def zhash : List UInt8 := List.replicate 32 0
theorem zhash_len : zhash.length = 32 := by simp [zhash]
theorem att_okT {a : Att} (h : a.Ok) (hf : a.fine) : ∀ (k : Nat) (t : Thg), (attT a ++ [.u a.g])[k]? = some t → t.Ok := fun k t ht => by
  obtain ⟨f1, f2, f3, f4, f5, f6⟩ := hf
  match k, ht with
  | 0, ht => cases ht; exact ⟨by omega, by omega⟩
  | 1, ht => cases ht; exact ⟨by omega, by omega⟩
  | 2, ht => cases ht; exact ⟨by omega, by omega⟩
  | 3, ht => cases ht; exact ⟨by omega, by omega⟩
  | 4, ht => cases ht; exact h.r
  | 5, ht => cases ht; exact h.g
  | k + 6, ht => cases ht
theorem pro_okT {a : Pro} (h : a.Ok) (hf : a.fine) : ∀ (k : Nat) (t : Thg), (proT a ++ [.u a.g])[k]? = some t → t.Ok := fun k t ht => by
  obtain ⟨f1, f2, f3, f4⟩ := hf
  match k, ht with
  | 0, ht => cases ht; exact ⟨by omega, by omega⟩
  | 1, ht => cases ht; exact ⟨by omega, by omega⟩
  | 2, ht => cases ht; exact ⟨by omega, by omega⟩
  | 3, ht => cases ht; exact h.r
  | 4, ht => cases ht; exact h.g
  | k + 5, ht => cases ht
theorem okT_pre {ts : List Thg} {u : Thg} (h : ∀ (k : Nat) (t : Thg), (ts ++ [u])[k]? = some t → t.Ok) : ∀ (k : Nat) (t : Thg), ts[k]? = some t → t.Ok := fun k t ht => h k t (by rw [List.getElem?_append_left (List.getElem?_eq_some_iff.1 ht).1]; exact ht)
theorem enc10 (n : Nat) : (Cod.enc n).length ≤ 10 := Cod.enc_length n
theorem att_len {a : Att} (h : a.r.length = 32) : a.bytes.length ≤ 82 ∧ a.bare.length ≤ 72 := by
  have := enc10 (1 : Int).toNat; have := enc10 a.v.toNat; have := enc10 a.s.toNat; have := enc10 a.t.toNat; have := enc10 a.g
  simp only [Att.bytes, Att.bare, allb, attT, List.flatMap_cons, List.flatMap_nil, List.cons_append, List.nil_append, Thg.by, List.length_append, List.length_nil, h]
  omega
theorem pro_len {a : Pro} (h : a.r.length = 32) : a.bytes.length ≤ 72 ∧ a.bare.length ≤ 62 := by
  have := enc10 (2 : Int).toNat; have := enc10 a.v.toNat; have := enc10 a.h.toNat; have := enc10 a.g
  simp only [Pro.bytes, Pro.bare, allb, proT, List.flatMap_cons, List.flatMap_nil, List.cons_append, List.nil_append, Thg.by, List.length_append, List.length_nil, h]
  omega
theorem thing_info : (Tryz.prog.info? 143).map (fun i => (i.zero, i.size, i.bytes)) = some (some .nilFunc, 1, 8) := by kernel_rfl
noncomputable def qc41_1 (n : Nat) : Code := partOf Tryz.f75 n
theorem vthings_ok (a : Att) (w : World) (hr : a.r.length = 32) :
    Calls Tryz.prog 75 #[.agg (Att.c a)] w (fun e w' => ∃ gl vs, e = .returned (.slice (some ⟨gl, 0, none⟩) 5 5) ∧ Row w' 143 1 (.slice (some ⟨gl, 0, none⟩) 5 5) 5 vs ∧ ThsAt w' vs (attT a) ∧ NewFrom w.heap.size (.slice (some ⟨gl, 0, none⟩) 5 5) ∧ Keeps Nob w w') := by
  have K0 : Keeps Nob w w := Keeps.refl _ _
  refine sy_enter (qc41_1 1) ⟨#[.agg (Att.c a), ud, ud, ud, ud, ud, ud, ud, ud, ud, ud, ud, ud, ud, ud, ud, ud], []⟩ Tryz.func75 (by kernel_rfl) (by kernel_rfl) <| sy_sq (qc41_1 2) (qc41_1 3) <| sy_reg <| rg_q 0 [0, 1] ?_
  obtain ⟨V1, eV1, ga, ega, h2, kV1⟩ := alloc_step w ((Att.c a)) 26
  have n3 : w.heap.size ≤ ga := ega ▸ K0.size
  refine prq (pT ga 0) (w' := V1) (by rw [← eV1, ← ega]; exact exec_box 26 (.tmp 0) (by kernel_rfl) (.agg (Att.c a)) (by kernel_rfl)) ?_
  clear eV1
  have K4 := K0.nn kV1
  have z5 := kV1.size
  refine pkq (.slice none 0 0) <| ps_end <| then_n <| sy_sq (qc41_1 6) (qc41_1 7) <| sy_np <| sy_reg <| an_begin 1 15 (opsAt (qc41_1 6)) (fun W => (W.heap[ga]? = some (.cells (Att.c a) 26 (0, 0)))) #[false, false, false, false, false, false, false, false, false, false, false, false, false, false, false] (by kernel_rfl) (by kernel_rfl) (by kernel_rfl) (by kernel_rfl) ?_
  obtain ⟨V6, eV6, kV6⟩ := drew_step V1
  rw [eV6]
  clear eV6
  have h7 := kV6.bk h2
  have K8 := K4.nn kV6
  have z9 := kV6.size
  refine akq 1 (pT ga 0) h7 <| avq 2 (.int .i64 a.v) (fun W hS => exec_ld 3 (.tmp 4) ga 0 Tryz.underlying3 (rc (hS) (Att.c_0 _))) h7 <| akq 4 (pT ga 1) h7 <| avq 5 (.int .i64 a.s) (fun W hS => exec_ld 3 (.tmp 7) ga 1 Tryz.underlying3 (rc (hS) (Att.c_1 _))) h7 <| akq 7 (pT ga 2) h7 <| avq 8 (.int .i64 a.t) (fun W hS => exec_ld 3 (.tmp 10) ga 2 Tryz.underlying3 (rc (hS) (Att.c_2 _))) h7 <| akq 10 (pT ga 3) h7 <| avq 11 (.agg (B a.r).toArray) (fun W hS => exec_load_seg 23 (.tmp 13) (by kernel_rfl) ga 3 (by kernel_rfl) (B a.r) _ _ _ hS (Att.c_seg _) Tryz.underlying23 rfl (by rw [B_length, hr]; kernel_rfl)) h7 <| an_o 0 ?_
  refine ncq 97 #[.int .i64 1] Tryz.func97 ((vnum_ok 1 _).mono ?_)
  rintro e V10 ⟨g1, rfl, hg1, ng1, kV10⟩
  refine ⟨_, rfl, ?_⟩
  have h11 := kV10.bk h7
  have K12 := K8.nn kV10
  have z13 := kV10.size
  refine ⟨h11, ?_⟩
  refine an_o 3 ?_
  refine ncq 97 #[.int .i64 a.v] Tryz.func97 ((vnum_ok a.v _).mono ?_)
  rintro e V14 ⟨g2, rfl, hg2, ng2, kV14⟩
  refine ⟨_, rfl, ?_⟩
  have h15 := kV14.bk h11
  have h16 := kV14.bk hg1
  have K17 := K12.nn kV14
  have z18 := kV14.size
  refine ⟨h15, ?_⟩
  refine an_o 6 ?_
  refine ncq 97 #[.int .i64 a.s] Tryz.func97 ((vnum_ok a.s _).mono ?_)
  rintro e V19 ⟨g3, rfl, hg3, ng3, kV19⟩
  refine ⟨_, rfl, ?_⟩
  have h20 := kV19.bk h15
  have h21 := kV19.bk h16
  have h22 := kV19.bk hg2
  have K23 := K17.nn kV19
  have z24 := kV19.size
  refine ⟨h20, ?_⟩
  refine an_o 9 ?_
  refine ncq 97 #[.int .i64 a.t] Tryz.func97 ((vnum_ok a.t _).mono ?_)
  rintro e V25 ⟨g4, rfl, hg4, ng4, kV25⟩
  refine ⟨_, rfl, ?_⟩
  have h26 := kV25.bk h20
  have h27 := kV25.bk h21
  have h28 := kV25.bk h22
  have h29 := kV25.bk hg3
  have K30 := K23.nn kV25
  have z31 := kV25.size
  refine ⟨h26, ?_⟩
  refine an_o 12 ?_
  refine ncq 98 #[.agg (B a.r).toArray] Tryz.func98 ((vroot_ok a.r _).mono ?_)
  rintro e V32 ⟨g5, rfl, hg5, ng5, kV32⟩
  refine ⟨_, rfl, ?_⟩
  have h33 := kV32.bk h26
  have h34 := kV32.bk h27
  have h35 := kV32.bk h28
  have h36 := kV32.bk h29
  have h37 := kV32.bk hg4
  have K38 := K30.nn kV32
  have z39 := kV32.size
  refine ⟨h33, ?_⟩
  refine an_o 13 ?_
  obtain ⟨V40, eV40, gl, egl, h41, kV40⟩ := alloc_step V32 (#[.func (.func 130) #[] #[.pointer (some ⟨g1, 0, none⟩)], .func (.func 130) #[] #[.pointer (some ⟨g2, 0, none⟩)], .func (.func 130) #[] #[.pointer (some ⟨g3, 0, none⟩)], .func (.func 130) #[] #[.pointer (some ⟨g4, 0, none⟩)], .func (.func 132) #[] #[.pointer (some ⟨g5, 0, none⟩)]]) 143
  have n42 : ga < gl := egl ▸ lt_of_block h33
  have n43 : g1 < gl := egl ▸ lt_of_block h34
  have n44 : g2 < gl := egl ▸ lt_of_block h35
  have n45 : g3 < gl := egl ▸ lt_of_block h36
  have n46 : g4 < gl := egl ▸ lt_of_block h37
  have n47 : g5 < gl := egl ▸ lt_of_block hg5
  have n48 : w.heap.size ≤ gl := egl ▸ K38.size
  refine nrq (.slice (some ⟨gl, 0, none⟩) 5 5) (w' := V40) (by rw [← eV40, ← egl]; kernel_rfl) ?_
  have h49 := kV40.bk h33
  have h50 := kV40.bk h34
  have h51 := kV40.bk h35
  have h52 := kV40.bk h36
  have h53 := kV40.bk h37
  have h54 := kV40.bk hg5
  have K55 := K38.nn kV40
  have z56 := kV40.size
  refine ⟨h49, ?_⟩
  refine an_o 14 <| nrq (.slice (some ⟨gl, 0, none⟩) 5 5) (w' := V40) (by kernel_rfl) ?_
  refine ⟨h49, ?_⟩
  refine an_end (by kernel_rfl) <| then_n <| sy_ret (by kernel_rfl) <| sy_out (.slice (some ⟨gl, 0, none⟩) 5 5) rfl (by kernel_rfl) ?_
  exact ⟨gl, _, rfl, row_of_block h41 rfl (by decide), (ThsAt.cons ⟨g1, rfl, h50⟩ (ThsAt.cons ⟨g2, rfl, h51⟩ (ThsAt.cons ⟨g3, rfl, h52⟩ (ThsAt.cons ⟨g4, rfl, h53⟩ (ThsAt.cons ⟨g5, rfl, h54⟩ (ThsAt.nil _)))))), NewFrom.ptr (by omega) _ _, K55⟩
noncomputable def qc41_0 (n : Nat) : Code := partOf Tryz.f74 n
theorem vthingsBlock_ok (a : Pro) (w : World) (hr : a.r.length = 32) :
    Calls Tryz.prog 74 #[.agg (Pro.c a)] w (fun e w' => ∃ gl vs, e = .returned (.slice (some ⟨gl, 0, none⟩) 4 4) ∧ Row w' 143 1 (.slice (some ⟨gl, 0, none⟩) 4 4) 4 vs ∧ ThsAt w' vs (proT a) ∧ NewFrom w.heap.size (.slice (some ⟨gl, 0, none⟩) 4 4) ∧ Keeps Nob w w') := by
  have K0 : Keeps Nob w w := Keeps.refl _ _
  refine sy_enter (qc41_0 1) ⟨#[.agg (Pro.c a), ud, ud, ud, ud, ud, ud, ud, ud, ud, ud, ud, ud, ud], []⟩ Tryz.func74 (by kernel_rfl) (by kernel_rfl) <| sy_sq (qc41_0 2) (qc41_0 3) <| sy_reg <| rg_q 0 [0, 1] ?_
  obtain ⟨V1, eV1, ga, ega, h2, kV1⟩ := alloc_step w ((Pro.c a)) 28
  have n3 : w.heap.size ≤ ga := ega ▸ K0.size
  refine prq (pT ga 0) (w' := V1) (by rw [← eV1, ← ega]; exact exec_box 28 (.tmp 0) (by kernel_rfl) (.agg (Pro.c a)) (by kernel_rfl)) ?_
  clear eV1
  have K4 := K0.nn kV1
  have z5 := kV1.size
  refine pkq (.slice none 0 0) <| ps_end <| then_n <| sy_sq (qc41_0 6) (qc41_0 7) <| sy_np <| sy_reg <| an_begin 1 12 (opsAt (qc41_0 6)) (fun W => (W.heap[ga]? = some (.cells (Pro.c a) 28 (0, 0)))) #[false, false, false, false, false, false, false, false, false, false, false, false] (by kernel_rfl) (by kernel_rfl) (by kernel_rfl) (by kernel_rfl) ?_
  obtain ⟨V6, eV6, kV6⟩ := drew_step V1
  rw [eV6]
  clear eV6
  have h7 := kV6.bk h2
  have K8 := K4.nn kV6
  have z9 := kV6.size
  refine akq 1 (pT ga 0) h7 <| avq 2 (.int .i64 a.v) (fun W hS => exec_ld 3 (.tmp 4) ga 0 Tryz.underlying3 (rc (hS) (Pro.c_0 _))) h7 <| akq 4 (pT ga 1) h7 <| avq 5 (.int .i64 a.h) (fun W hS => exec_ld 3 (.tmp 7) ga 1 Tryz.underlying3 (rc (hS) (Pro.c_1 _))) h7 <| akq 7 (pT ga 2) h7 <| avq 8 (.agg (B a.r).toArray) (fun W hS => exec_load_seg 23 (.tmp 10) (by kernel_rfl) ga 2 (by kernel_rfl) (B a.r) _ _ _ hS (Pro.c_seg _) Tryz.underlying23 rfl (by rw [B_length, hr]; kernel_rfl)) h7 <| an_o 0 ?_
  refine ncq 97 #[.int .i64 2] Tryz.func97 ((vnum_ok 2 _).mono ?_)
  rintro e V10 ⟨g1, rfl, hg1, ng1, kV10⟩
  refine ⟨_, rfl, ?_⟩
  have h11 := kV10.bk h7
  have K12 := K8.nn kV10
  have z13 := kV10.size
  refine ⟨h11, ?_⟩
  refine an_o 3 ?_
  refine ncq 97 #[.int .i64 a.v] Tryz.func97 ((vnum_ok a.v _).mono ?_)
  rintro e V14 ⟨g2, rfl, hg2, ng2, kV14⟩
  refine ⟨_, rfl, ?_⟩
  have h15 := kV14.bk h11
  have h16 := kV14.bk hg1
  have K17 := K12.nn kV14
  have z18 := kV14.size
  refine ⟨h15, ?_⟩
  refine an_o 6 ?_
  refine ncq 97 #[.int .i64 a.h] Tryz.func97 ((vnum_ok a.h _).mono ?_)
  rintro e V19 ⟨g3, rfl, hg3, ng3, kV19⟩
  refine ⟨_, rfl, ?_⟩
  have h20 := kV19.bk h15
  have h21 := kV19.bk h16
  have h22 := kV19.bk hg2
  have K23 := K17.nn kV19
  have z24 := kV19.size
  refine ⟨h20, ?_⟩
  refine an_o 9 ?_
  refine ncq 98 #[.agg (B a.r).toArray] Tryz.func98 ((vroot_ok a.r _).mono ?_)
  rintro e V25 ⟨g4, rfl, hg4, ng4, kV25⟩
  refine ⟨_, rfl, ?_⟩
  have h26 := kV25.bk h20
  have h27 := kV25.bk h21
  have h28 := kV25.bk h22
  have h29 := kV25.bk hg3
  have K30 := K23.nn kV25
  have z31 := kV25.size
  refine ⟨h26, ?_⟩
  refine an_o 10 ?_
  obtain ⟨V32, eV32, gl, egl, h33, kV32⟩ := alloc_step V25 (#[.func (.func 130) #[] #[.pointer (some ⟨g1, 0, none⟩)], .func (.func 130) #[] #[.pointer (some ⟨g2, 0, none⟩)], .func (.func 130) #[] #[.pointer (some ⟨g3, 0, none⟩)], .func (.func 132) #[] #[.pointer (some ⟨g4, 0, none⟩)]]) 143
  have n34 : ga < gl := egl ▸ lt_of_block h26
  have n35 : g1 < gl := egl ▸ lt_of_block h27
  have n36 : g2 < gl := egl ▸ lt_of_block h28
  have n37 : g3 < gl := egl ▸ lt_of_block h29
  have n38 : g4 < gl := egl ▸ lt_of_block hg4
  have n39 : w.heap.size ≤ gl := egl ▸ K30.size
  refine nrq (.slice (some ⟨gl, 0, none⟩) 4 4) (w' := V32) (by rw [← eV32, ← egl]; kernel_rfl) ?_
  have h40 := kV32.bk h26
  have h41 := kV32.bk h27
  have h42 := kV32.bk h28
  have h43 := kV32.bk h29
  have h44 := kV32.bk hg4
  have K45 := K30.nn kV32
  have z46 := kV32.size
  refine ⟨h40, ?_⟩
  refine an_o 11 <| nrq (.slice (some ⟨gl, 0, none⟩) 4 4) (w' := V32) (by kernel_rfl) ?_
  refine ⟨h40, ?_⟩
  refine an_end (by kernel_rfl) <| then_n <| sy_ret (by kernel_rfl) <| sy_out (.slice (some ⟨gl, 0, none⟩) 4 4) rfl (by kernel_rfl) ?_
  exact ⟨gl, _, rfl, row_of_block h33 rfl (by decide), (ThsAt.cons ⟨g1, rfl, h41⟩ (ThsAt.cons ⟨g2, rfl, h42⟩ (ThsAt.cons ⟨g3, rfl, h43⟩ (ThsAt.cons ⟨g4, rfl, h44⟩ (ThsAt.nil _))))), NewFrom.ptr (by omega) _ _, K45⟩
theorem vCheck_is (a : Att) {x : Int} (w : World) (hr : a.r.length = 32) (hx : a.err = x) : Calls Tryz.prog 66 #[.agg (Att.c a)] w fun e w' => e = .returned (.int .i64 x) ∧ Keeps Nob w w' := by
  subst hx; exact vCheck_ok a w hr
theorem vCheckBlock_is (a : Pro) {x : Int} (w : World) (hr : a.r.length = 32) (hx : a.err = x) : Calls Tryz.prog 73 #[.agg (Pro.c a)] w fun e w' => e = .returned (.int .i64 x) ∧ Keeps Nob w w' := by
  subst hx; exact vCheckBlock_ok a w hr
end Go.Proofs.YtcbfnflnokoacaaGreat
namespace Go.Kec
set_option maxRecDepth 100000
set_option maxHeartbeats 4000000
def W : Nat := 18446744073709551616
def rot (w n : Nat) : Nat := ((w <<< n) % W) ||| (w >>> (64 - n))
def R : List Nat := [0, 1, 62, 28, 27, 36, 44, 6, 55, 20, 3, 10, 43, 25, 39, 41, 45, 15, 21, 8, 18, 2, 61, 56, 14]
def g (s : List Nat) (i : Nat) : Nat := s.getD i 0
def col (s : List Nat) (x : Nat) : Nat := g s x ^^^ g s (x + 5) ^^^ g s (x + 10) ^^^ g s (x + 15) ^^^ g s (x + 20)
def dd (s : List Nat) (x : Nat) : Nat := col s ((x + 4) % 5) ^^^ rot (col s ((x + 1) % 5)) 1
def columns (s : List Nat) : List Nat := (List.range 25).map fun i => g s i ^^^ dd s (i % 5)
def src (j : Nat) : Nat := (j % 5 + 3 * (j / 5)) % 5 + 5 * (j % 5)
def moves (s : List Nat) : List Nat := (List.range 25).map fun j => rot (g s (src j)) (g R (src j))
def at_ (x y : Nat) : Nat := x % 5 + 5 * (y % 5)
def mixes (s : List Nat) : List Nat := (List.range 25).map fun i => g s i ^^^ ((W - 1 - g s (at_ (i % 5 + 1) (i / 5))) &&& g s (at_ (i % 5 + 2) (i / 5)))
def iota (k : Nat) (s : List Nat) : List Nat := s.set 0 (g s 0 ^^^ k)
def round (s : List Nat) (k : Nat) : List Nat := iota k (mixes (moves (columns s)))
def K : List Nat := [1, 32898, 9223372036854808714, 9223372039002292224, 32907, 2147483649, 9223372039002292353, 9223372036854808585, 138, 136, 2147516425, 2147483658, 2147516555, 9223372036854775947, 9223372036854808713, 9223372036854808579, 9223372036854808578, 9223372036854775936, 32778, 9223372039002259466, 9223372039002292353, 9223372036854808704, 2147483649, 9223372039002292232]
def perm (s : List Nat) : List Nat := K.foldl round s
/-- A list of words: each is one. -/
def Ws (s : List Nat) : Prop := ∀ i, g s i < W
theorem g_map (f : Nat → Nat) (i : Nat) (h : i < 25) : g ((List.range 25).map f) i = f i := by
  simp [g, List.getD, h]
theorem g_big (s : List Nat) (i : Nat) (h : s.length ≤ i) : g s i = 0 := by
  simp [g, List.getD, List.getElem?_eq_none h]
theorem W_pos : 0 < W := by decide
theorem ws_map (f : Nat → Nat) (h : ∀ i, i < 25 → f i < W) : Ws ((List.range 25).map f) := by
  intro i
  by_cases hi : i < 25
  · rw [g_map f i hi]; exact h i hi
  · rw [g_big _ _ (by simp; omega)]; exact W_pos
theorem W_eq : W = 2 ^ 64 := by decide
theorem xor_lt {a b : Nat} (ha : a < W) (hb : b < W) : a ^^^ b < W := by rw [W_eq] at *; exact Nat.xor_lt_two_pow ha hb
theorem or_lt {a b : Nat} (ha : a < W) (hb : b < W) : a ||| b < W := by rw [W_eq] at *; exact Nat.or_lt_two_pow ha hb
theorem and_lt {a b : Nat} (hb : b < W) : a &&& b < W := by rw [W_eq] at *; exact Nat.and_lt_two_pow a hb
theorem shr_lt {a : Nat} (ha : a < W) (n : Nat) : a >>> n < W := by rw [Nat.shiftRight_eq_div_pow]; exact Nat.lt_of_le_of_lt (Nat.div_le_self _ _) ha
theorem rot_lt {a : Nat} (ha : a < W) (n : Nat) : rot a n < W := or_lt (Nat.mod_lt _ W_pos) (shr_lt ha _)
theorem col_lt {s : List Nat} (h : Ws s) (x : Nat) : col s x < W := xor_lt (xor_lt (xor_lt (xor_lt (h _) (h _)) (h _)) (h _)) (h _)
theorem dd_lt {s : List Nat} (h : Ws s) (x : Nat) : dd s x < W := xor_lt (col_lt h _) (rot_lt (col_lt h _) _)
theorem ws_columns {s : List Nat} (h : Ws s) : Ws (columns s) := ws_map _ fun _ _ => xor_lt (h _) (dd_lt h _)
theorem ws_moves {s : List Nat} (h : Ws s) : Ws (moves s) := ws_map _ fun _ _ => rot_lt (h _) _
theorem ws_mixes {s : List Nat} (h : Ws s) : Ws (mixes s) := ws_map _ fun _ _ => xor_lt (h _) (and_lt (h _))
theorem g_set (s : List Nat) (i j v : Nat) (h : i < s.length) : g (s.set i v) j = if i = j then v else g s j := by
  unfold g
  rw [List.getD_eq_getElem?_getD, List.getD_eq_getElem?_getD, List.getElem?_set]
  split
  · subst_vars; simp
  · rfl
theorem ws_iota {s : List Nat} (h : Ws s) {k : Nat} (hk : k < W) : Ws (iota k s) := by
  intro i
  unfold iota
  by_cases hs : 0 < s.length
  · rw [g_set _ _ _ _ hs]
    split
    · exact xor_lt (h _) hk
    · exact h i
  · have : s = [] := List.eq_nil_of_length_eq_zero (by omega)
    subst this; exact h i
theorem ws_round {s : List Nat} (h : Ws s) {k : Nat} (hk : k < W) : Ws (round s k) := ws_iota (ws_mixes (ws_moves (ws_columns h))) hk
theorem len_round (s : List Nat) (k : Nat) : (round s k).length = 25 := by simp [round, iota, mixes]
theorem len_columns (s : List Nat) : (columns s).length = 25 := by simp [columns]
theorem len_moves (s : List Nat) : (moves s).length = 25 := by simp [moves]
theorem len_mixes (s : List Nat) : (mixes s).length = 25 := by simp [mixes]
theorem K_lt : ∀ k ∈ K, k < W := by decide
theorem ws_fold (l : List Nat) (hl : ∀ k ∈ l, k < W) (s : List Nat) (h : Ws s) : Ws (l.foldl round s) := by
  induction l generalizing s with
  | nil => exact h
  | cons k r ih => exact ih (fun x hx => hl x (by simp [hx])) _ (ws_round h (hl k (by simp)))
theorem len_fold (l : List Nat) (s : List Nat) (h : s.length = 25) : (l.foldl round s).length = 25 := by
  induction l generalizing s with
  | nil => exact h
  | cons k r ih => exact ih _ (len_round _ _)
theorem ws_perm {s : List Nat} (h : Ws s) : Ws (perm s) := ws_fold K K_lt s h
theorem len_perm {s : List Nat} (h : s.length = 25) : (perm s).length = 25 := len_fold K s h
theorem sub_lt (a : Nat) : W - 1 - a < W := by have := W_pos; omega
/-- Where a word goes. -/
def dest (i : Nat) : Nat := at_ (i / 5) (2 * (i % 5) + 3 * (i / 5))
theorem dest_lt (i : Nat) : dest i < 25 := by unfold dest at_; omega
theorem src_dest : ∀ i, i < 25 → src (dest i) = i := by decide
theorem dest_src : ∀ j, j < 25 → dest (src j) = j := by decide
theorem src_lt' : ∀ j, j < 25 → src j < 25 := by decide
theorem R_lt' : ∀ i, i < 25 → g R i < 64 := by decide
theorem at_lt (x y : Nat) : at_ x y < 25 := by unfold at_; omega
/-- Words put one by one at other places. -/
def stpD (d f : Nat → Nat) (k : Nat) (s : List Nat) : List Nat := (List.range k).foldl (fun t i => t.set (d i) (f i)) s
theorem stpD_succ (d f : Nat → Nat) (k : Nat) (s : List Nat) : stpD d f (k + 1) s = (stpD d f k s).set (d k) (f k) := by simp [stpD, List.range_succ]
theorem stpD_len (d f : Nat → Nat) (k : Nat) (s : List Nat) : (stpD d f k s).length = s.length := by
  induction k with
  | zero => rfl
  | succ k ih => rw [stpD_succ, List.length_set, ih]
theorem stpD_moves (f : Nat → Nat) (s : List Nat) (h : s.length = 25) : stpD dest f 25 s = (List.range 25).map fun j => f (src j) := by
  have key : ∀ k, k ≤ 25 → ∀ j, j < 25 → g (stpD dest f k s) j = if src j < k then f (src j) else g s j := by
    intro k
    induction k with
    | zero => intro _ j _; simp [stpD]
    | succ k ih =>
      intro hk j hj
      rw [stpD_succ, g_set _ _ _ _ (by rw [stpD_len, h]; exact dest_lt k), ih (by omega) j hj]
      by_cases e : dest k = j
      · subst e
        rw [if_pos rfl, src_dest k (by omega), if_pos (by omega)]
      · rw [if_neg e]
        have : src j ≠ k := fun e2 => e (by rw [← e2, dest_src j hj])
        by_cases h2 : src j < k
        · rw [if_pos h2, if_pos (by omega)]
        · rw [if_neg h2, if_neg (by omega)]
  apply List.ext_getElem (by simp [stpD_len, h])
  intro j h1 h2
  have hj : j < 25 := by rwa [stpD_len, h] at h1
  have := key 25 (by omega) j hj
  unfold g at this
  rw [List.getD_eq_getElem?_getD, List.getElem?_eq_getElem h1, if_pos (src_lt' j hj)] at this
  simpa using this
/-- The register, its bits, and what they make. -/
def regn : Nat → Nat
  | 0 => 1
  | k + 1 => if 256 ≤ 2 * regn k then ((2 * regn k) &&& 255) ^^^ 113 else 2 * regn k
def bitn (k : Nat) : Nat := regn k &&& 1
def outn : Nat → List Nat
  | 0 => List.replicate 24 0
  | k + 1 => (outn k).set (k / 7) (g (outn k) (k / 7) ||| (bitn k <<< (1 <<< (k % 7) - 1)) % W)
theorem regn_lt (k : Nat) : regn k < 256 := by
  induction k with
  | zero => decide
  | succ k ih =>
    unfold regn
    split
    · have h1 : (2 * regn k) &&& 255 < 2 ^ 8 := Nat.and_lt_two_pow _ (by decide)
      exact Nat.xor_lt_two_pow (n := 8) h1 (by decide)
    · omega
theorem bitn_lt (k : Nat) : bitn k < 2 := Nat.and_lt_two_pow (n := 1) _ (by decide)
theorem outn_K : outn 168 = K := by decide +kernel
theorem outn_len (k : Nat) : (outn k).length = 24 := by
  induction k with
  | zero => rfl
  | succ k ih => simp [outn, ih]
theorem ws_set {s : List Nat} (h : Ws s) (i v : Nat) (hv : v < W) : Ws (s.set i v) := by
  intro j
  by_cases hi : i < s.length
  · rw [g_set _ _ _ _ hi]
    split
    · exact hv
    · exact h j
  · rw [List.set_eq_of_length_le (by omega)]; exact h j
theorem ws_outn (k : Nat) : Ws (outn k) := by
  induction k with
  | zero =>
    intro i
    show g (List.replicate 24 0) i < W
    unfold g
    rw [List.getD_eq_getElem?_getD, List.getElem?_replicate]
    split <;> decide
  | succ k ih => exact ws_set ih _ _ (or_lt (ih _) (Nat.mod_lt _ W_pos))
/-! Bytes. -/
/-- Eight bytes (or fewer) as a word, the lowest first. -/
def word : List UInt8 → Nat
  | [] => 0
  | b :: r => b.toNat + 256 * word r
def wordAt (blk : List UInt8) (i : Nat) : Nat := word ((blk.drop (8 * i)).take 8)
theorem word_lt (l : List UInt8) : word l < 256 ^ l.length := by
  induction l with
  | nil => decide
  | cons b r ih =>
    have := b.toNat_lt
    simp only [word, List.length_cons, Nat.pow_succ]
    omega
theorem wordAt_lt (blk : List UInt8) (i : Nat) : wordAt blk i < W := by
  have h := word_lt ((blk.drop (8 * i)).take 8)
  have h2 : ((blk.drop (8 * i)).take 8).length ≤ 8 := by simp; omega
  have h3 : (256 : Nat) ^ ((blk.drop (8 * i)).take 8).length ≤ 256 ^ 8 := Nat.pow_le_pow_right (by decide) h2
  have h4 : (256 : Nat) ^ 8 = W := by decide
  unfold wordAt
  omega
def mixin (s : List Nat) (blk : List UInt8) : List Nat := (List.range 25).map fun i => if i < 17 then g s i ^^^ wordAt blk i else g s i
def takes (s : List Nat) (blk : List UInt8) : List Nat := perm (mixin s blk)
def zero : List Nat := List.replicate 25 0
theorem ws_zero : Ws zero := by
  intro i
  unfold zero g
  rw [List.getD_eq_getElem?_getD, List.getElem?_replicate]
  split <;> decide
theorem ws_mixin {s : List Nat} (h : Ws s) (blk : List UInt8) : Ws (mixin s blk) := ws_map _ fun i _ => by
  split
  · exact xor_lt (h _) (wordAt_lt _ _)
  · exact h _
theorem len_mixin (s : List Nat) (blk : List UInt8) : (mixin s blk).length = 25 := by simp [mixin]
theorem ws_takes {s : List Nat} (h : Ws s) (blk : List UInt8) : Ws (takes s blk) := ws_perm (ws_mixin h blk)
theorem len_takes (s : List Nat) (blk : List UInt8) : (takes s blk).length = 25 := len_perm (len_mixin s blk)
/-- So many whole blocks of bytes. -/
def absorb : Nat → List Nat → List UInt8 → List Nat
  | 0, s, _ => s
  | n + 1, s, l => absorb n (takes s (l.take 136)) (l.drop 136)
theorem ws_absorb : ∀ (n : Nat) (s : List Nat) (l : List UInt8), Ws s → Ws (absorb n s l)
  | 0, _, _, h => h
  | n + 1, _, _, h => ws_absorb n _ _ (ws_takes h _)
theorem len_absorb : ∀ (n : Nat) (s : List Nat) (l : List UInt8), s.length = 25 → (absorb n s l).length = 25
  | 0, _, _, h => h
  | n + 1, _, _, _ => len_absorb n _ _ (len_takes _ _)
/-- What follows does not matter. -/
theorem absorb_more : ∀ (n : Nat) (s : List Nat) (l m : List UInt8), n * 136 ≤ l.length → absorb n s (l ++ m) = absorb n s l
  | 0, _, _, _, _ => rfl
  | n + 1, s, l, m, h => by
    unfold absorb
    rw [List.take_append_of_le_length (by omega), List.drop_append_of_le_length (by omega)]
    exact absorb_more n _ _ _ (by rw [List.length_drop]; omega)
theorem absorb_add : ∀ (n m : Nat) (s : List Nat) (l : List UInt8), absorb (n + m) s l = absorb m (absorb n s l) (l.drop (n * 136))
  | 0, m, s, l => by simp [absorb]
  | n + 1, m, s, l => by
    rw [show n + 1 + m = (n + m) + 1 by omega]
    show absorb (n + m) (takes s (l.take 136)) (l.drop 136) = absorb m (absorb n (takes s (l.take 136)) (l.drop 136)) (l.drop ((n + 1) * 136))
    rw [absorb_add n m, List.drop_drop]
    congr 2
    omega
theorem absorb_one (s : List Nat) (l : List UInt8) (h : l.length ≤ 136) : absorb 1 s l = takes s l := by
  show takes s (l.take 136) = takes s l
  rw [List.take_of_length_le h]
theorem getD_right (p r : List UInt8) (k : Nat) (d : UInt8) (h : p.length ≤ k) : (p ++ r).getD k d = r.getD (k - p.length) d := by
  rw [List.getD_eq_getElem?_getD, List.getElem?_append_right h, List.getD_eq_getElem?_getD]
/-- A sponge that took bytes: its state, and what is not a block yet. -/
def stateOf (l : List UInt8) : List Nat := absorb (l.length / 136) zero l
def restOf (l : List UInt8) : List UInt8 := l.drop (l.length / 136 * 136)
theorem ws_stateOf (l : List UInt8) : Ws (stateOf l) := ws_absorb _ _ _ ws_zero
theorem len_stateOf (l : List UInt8) : (stateOf l).length = 25 := len_absorb _ _ _ (by simp [zero])
theorem restOf_len (l : List UInt8) : (restOf l).length = l.length % 136 := by unfold restOf; rw [List.length_drop]; omega
theorem restOf_nil : restOf [] = [] := rfl
/-- Bytes that do not fill the block. -/
theorem sponge_some (l x : List UInt8) (h : (restOf l).length + x.length < 136) : stateOf (l ++ x) = stateOf l ∧ restOf (l ++ x) = restOf l ++ x := by
  rw [restOf_len] at h
  have e : (l ++ x).length / 136 = l.length / 136 := by rw [List.length_append]; omega
  unfold stateOf restOf
  rw [e]
  exact ⟨absorb_more _ _ _ _ (by omega), by rw [List.drop_append_of_le_length (by omega)]⟩
/-- Bytes that fill it. -/
theorem sponge_fill (l x : List UInt8) (h : (restOf l).length + x.length = 136) : stateOf (l ++ x) = takes (stateOf l) (restOf l ++ x) ∧ restOf (l ++ x) = [] := by
  rw [restOf_len] at h
  have e : (l ++ x).length / 136 = l.length / 136 + 1 := by rw [List.length_append]; omega
  unfold stateOf restOf
  rw [e]
  refine ⟨?_, List.drop_of_length_le (by rw [List.length_append]; omega)⟩
  rw [absorb_add, absorb_more _ _ _ _ (by omega), List.drop_append_of_le_length (by omega)]
  exact absorb_one _ _ (by rw [List.length_append, List.length_drop]; omega)
/-- The eight bytes of a word. -/
def eight (w : Nat) : List UInt8 := (List.range 8).map fun i => UInt8.ofNat (w / 256 ^ i)
def squeeze (s : List Nat) : List UInt8 := eight (g s 0) ++ eight (g s 1) ++ eight (g s 2) ++ eight (g s 3)
theorem squeeze_len (s : List Nat) : (squeeze s).length = 32 := by simp [squeeze, eight]
/-- The last block: what is left, a 6 behind it, and 128 into the last byte. -/
def lastBlock (r : List UInt8) : List UInt8 :=
  let b := (r ++ 6 :: List.replicate (135 - r.length) 0)
  b.set 135 (b.getD 135 0 ^^^ 128)
def sum (l : List UInt8) : List UInt8 := squeeze (takes (stateOf l) (lastBlock (restOf l)))
theorem sum_len (l : List UInt8) : (sum l).length = 32 := squeeze_len _
/-- The document's way: all is padded, and taken block by block. -/
def padded (l : List UInt8) : List UInt8 :=
  let b := l ++ 6 :: List.replicate (135 - l.length % 136) 0
  b.set (b.length - 1) (b.getD (b.length - 1) 0 ^^^ 128)
theorem padded_eq (l : List UInt8) : padded l = l.take (l.length / 136 * 136) ++ lastBlock (restOf l) := by
  have hr := restOf_len l
  have hl : l = l.take (l.length / 136 * 136) ++ restOf l := (List.take_append_drop _ _).symm
  obtain ⟨p, hp⟩ : ∃ p, l.take (l.length / 136 * 136) = p := ⟨_, rfl⟩
  obtain ⟨r, hrr⟩ : ∃ r, restOf l = r := ⟨_, rfl⟩
  rw [hp, hrr] at hl
  rw [hrr] at hr
  have hpl : p.length = l.length / 136 * 136 := by rw [← hp, List.length_take]; omega
  have hlt : r.length < 136 := by omega
  rw [hp, hrr]
  unfold padded lastBlock
  rw [← hr]
  have hlen : (l ++ 6 :: List.replicate (135 - r.length) 0).length = p.length + 136 := by
    rw [hl]; simp; omega
  simp only [hlen]
  rw [show p.length + 136 - 1 = p.length + 135 by omega, hl, List.append_assoc]
  rw [List.set_append, if_neg (by omega), getD_right _ _ _ _ (by omega)]
  rw [show p.length + 135 - p.length = 135 by omega]
theorem lastBlock_len (r : List UInt8) (h : r.length < 136) : (lastBlock r).length = 136 := by
  unfold lastBlock; simp; omega
theorem padded_len (l : List UInt8) : (padded l).length = (l.length / 136 + 1) * 136 := by
  rw [padded_eq, List.length_append, lastBlock_len _ (by rw [restOf_len]; omega), List.length_take]; omega
theorem sum_padded (l : List UInt8) : sum l = squeeze (absorb ((padded l).length / 136) zero (padded l)) := by
  rw [padded_len, padded_eq, Nat.mul_div_cancel _ (by decide), absorb_add, absorb_more _ _ _ _ (by rw [List.length_take]; omega)]
  have h1 : (l.take (l.length / 136 * 136)).length = l.length / 136 * 136 := by rw [List.length_take]; omega
  have h2 : (l.take (l.length / 136 * 136)).drop (l.length / 136 * 136) = [] := List.drop_of_length_le (by omega)
  rw [List.drop_append_of_le_length (by omega), h2, List.nil_append, absorb_one _ _ (by rw [lastBlock_len _ (by rw [restOf_len]; omega)]; omega)]
  unfold sum
  congr 2
  unfold stateOf
  have := absorb_more (l.length / 136) zero (l.take (l.length / 136 * 136)) (l.drop (l.length / 136 * 136)) (by omega)
  rw [List.take_append_drop] at this
  exact this
end Go.Kec
namespace Go.Proofs.YtcbfnflnokoacaaGreat
set_option maxRecDepth 100000
set_option maxHeartbeats 4000000
open Go Go.RowKit Go.Own Go.Shelf
/-- Words as cells. -/
def Wz (s : List Nat) : Array Value := (s.map fun (x : Nat) => Value.int .u64 (x : Int)).toArray
theorem Wz_get (s : List Nat) (i : Nat) (h : i < s.length) : (Wz s)[i]? = some (.int .u64 ((Kec.g s i : Nat) : Int)) := by
  simp [Wz, Kec.g, List.getElem?_eq_getElem h]
theorem Wz_get' (s : List Nat) (i v : Nat) (h : i < s.length) (hv : Kec.g s i = v) : (Wz s)[i]? = some (.int .u64 ((v : Nat) : Int)) := hv ▸ Wz_get s i h
theorem Wz_set (s : List Nat) (i v : Nat) : (Wz s).setIfInBounds i (.int .u64 ((v : Nat) : Int)) = Wz (s.set i v) := by
  simp [Wz, List.map_set]
theorem Wz_size (s : List Nat) : (Wz s).size = s.length := by simp [Wz]
theorem Wz_one (s : List Nat) : (Wz s).all (·.oneCell') = true := by
  simp only [Array.all_eq_true_iff_forall_mem]
  intro x hx
  simp only [Wz, List.mem_toArray, List.mem_map] at hx
  obtain ⟨j, _, rfl⟩ := hx
  rfl
theorem xorU (a b : Nat) (ha : a < Kec.W) (hb : b < Kec.W) : Value.int .u64 (bits .xor .u64 (a : Int) (b : Int)) = .int .u64 ((a ^^^ b : Nat) : Int) := congrArg _ (u64_xor_nat a b ha hb)
theorem andU (a b : Nat) (ha : a < Kec.W) (hb : b < Kec.W) : Value.int .u64 (bits .and .u64 (a : Int) (b : Int)) = .int .u64 ((a &&& b : Nat) : Int) := congrArg _ (u64_and_nat a b ha hb)
theorem orU (a b : Nat) (ha : a < Kec.W) (hb : b < Kec.W) : Value.int .u64 (bits .or .u64 (a : Int) (b : Int)) = .int .u64 ((a ||| b : Nat) : Int) := congrArg _ (u64_or_nat a b ha hb)
/-- Elements put one by one. -/
def stp (f : Nat → Nat) (k : Nat) (s : List Nat) : List Nat := (List.range k).foldl (fun t i => t.set i (f i)) s
theorem stp_zero (f : Nat → Nat) (s : List Nat) : stp f 0 s = s := rfl
theorem stp_succ (f : Nat → Nat) (k : Nat) (s : List Nat) : stp f (k + 1) s = (stp f k s).set k (f k) := by simp [stp, List.range_succ]
theorem stp_len (f : Nat → Nat) (k : Nat) (s : List Nat) : (stp f k s).length = s.length := by
  induction k with
  | zero => rfl
  | succ k ih => rw [stp_succ, List.length_set, ih]
theorem stp_get (f : Nat → Nat) (k : Nat) (s : List Nat) (i : Nat) (hi : i < s.length) : Kec.g (stp f k s) i = if i < k then f i else Kec.g s i := by
  induction k with
  | zero => simp [stp_zero]
  | succ k ih =>
    rw [stp_succ]
    by_cases hk : k < s.length
    · rw [Kec.g_set _ _ _ _ (by rw [stp_len]; exact hk), ih]
      by_cases h1 : k = i
      · subst h1; simp
      · rw [if_neg h1]
        by_cases h2 : i < k
        · rw [if_pos h2, if_pos (by omega)]
        · rw [if_neg h2, if_neg (by omega)]
    · rw [List.set_eq_of_length_le (by rw [stp_len]; omega), ih, if_pos (by omega), if_pos (by omega)]
theorem stp_all (f : Nat → Nat) (s : List Nat) (n : Nat) (h : s.length = n) : stp f n s = (List.range n).map f := by
  apply List.ext_getElem (by simp [stp_len, h])
  intro i h1 h2
  have hi : i < s.length := by rwa [stp_len] at h1
  have := stp_get f n s i hi
  unfold Kec.g at this
  rw [List.getD_eq_getElem?_getD, List.getElem?_eq_getElem h1, if_pos (by omega)] at this
  simpa using this
theorem run_shlU {P : Program} {w : World} (t : TypeId) (yk : IntKind) (x n : Nat) (hn : n ≤ 64) : (binOp .shl t (.int .u64 (x : Int)) (.int yk (n : Int))).run P w = .ok (.int .u64 (((x <<< n) % Kec.W : Nat) : Int)) w := by
  rw [binOp_shl, shift_shl .u64 yk (x : Int) (n : Int) (by omega) (by show (n : Int) ≤ 64; omega)]
  have e : IntKind.u64.wrap ((x : Int) * 2 ^ (n : Int).toNat) = (((x <<< n) % Kec.W : Nat) : Int) := by
    show ((x : Int) * 2 ^ n % (2 ^ 64 : Int)) = _
    rw [Nat.shiftLeft_eq, Int.natCast_emod, Int.natCast_mul, Int.natCast_pow]
    rfl
  rw [e]; rfl
theorem run_shrU {P : Program} {w : World} (t : TypeId) (yk : IntKind) (x n : Nat) (hn : n ≤ 64) : (binOp .shr t (.int .u64 (x : Int)) (.int yk (n : Int))).run P w = .ok (.int .u64 ((x >>> n : Nat) : Int)) w := by
  rw [binOp_shr, shift_shr .u64 yk (x : Int) (n : Int) (by omega) (by show (n : Int) ≤ 64; omega)]
  have e : (x : Int) / 2 ^ (n : Int).toNat = ((x >>> n : Nat) : Int) := by
    rw [Nat.shiftRight_eq_div_pow, Int.natCast_ediv, Int.natCast_pow]; rfl
  rw [e]; rfl
theorem notN (x : Nat) (h : x < Kec.W) : (Kec.W - 1) ^^^ x = Kec.W - 1 - x := by
  apply Nat.eq_of_testBit_eq
  intro z
  rw [Kec.W_eq] at *
  have h1 := Nat.testBit_two_pow_sub_succ (n := 64) (x := 0) (by decide) z
  have h2 := Nat.testBit_two_pow_sub_succ (n := 64) (x := x) h z
  rw [Nat.testBit_xor, show 2 ^ 64 - 1 - x = 2 ^ 64 - (x + 1) by omega, h2, show 2 ^ 64 - 1 = 2 ^ 64 - (0 + 1) by omega, h1]
  by_cases hz : z < 64
  · simp [hz]
  · have := Nat.testBit_lt_two_pow (Nat.lt_of_lt_of_le h (Nat.pow_le_pow_right (show 0 < 2 by decide) (show 64 ≤ z by omega)))
    simp [hz, this]
theorem notU (x : Nat) (h : x < Kec.W) : Value.int .u64 (bits .xor .u64 18446744073709551615 (x : Int)) = .int .u64 ((Kec.W - 1 - x : Nat) : Int) := by
  rw [← notN x h]
  exact xorU (Kec.W - 1) x (by decide) h
/-- How far each word is turned, as cells. -/
def Rz : Array Value := (Kec.R.map fun (x : Nat) => Value.int .i64 (x : Int)).toArray
theorem Rz_get (k : Nat) (h : k < 25) : Rz[k]? = some (.int .i64 ((Kec.g Kec.R k : Nat) : Int)) := by
  have : Kec.R.length = 25 := rfl
  simp [Rz, Kec.g, List.getElem?_eq_getElem (show k < Kec.R.length by omega)]
theorem rotl_and (n : Nat) (h : n < 64) : bits .and .u64 (n : Int) 63 = (n : Int) := by
  have := u64_and_nat n 63 (by omega) (by decide)
  rw [show ((63 : Nat) : Int) = 63 from rfl] at this
  rw [this, Nat.and_two_pow_sub_one_eq_mod n 6, Nat.mod_eq_of_lt (by omega)]
noncomputable def part_kat (n : Nat) : Code := partOf Tryz.f168 n
theorem kat_ok (x y : Nat) (w : World) (hx : x ≤ 1000) (hy : y ≤ 1000) :
    Calls Tryz.prog 168 #[.int .i64 ((x : Nat) : Int), .int .i64 ((y : Nat) : Int)] w (fun e w' => e = .returned (.int .i64 ((Kec.at_ x y : Nat) : Int)) ∧ w = w') := by
  have K0 : Keeps Nob w w := Keeps.refl _ _
  refine sy_enter (part_kat 1) ⟨#[iN x, iN y, ud, ud, ud, ud, ud, ud, ud, ud, ud], []⟩ Tryz.func168 (by kernel_rfl) (by kernel_rfl) <| sy_sq (part_kat 2) (part_kat 3) <| sy_reg <| rg_q 0 [0] <| pkq (.int .i64 0) <| ps_end <| then_n <| sy_sq (part_kat 6) (part_kat 7) <| sy_reg <| rg_q 1 [0, 1, 2, 3, 4, 5, 6] <| pkq (iN x) <| pkq (iN (x % 5)) <| pkq (iN y) <| pkq (iN (y % 5)) ?_
  refine ppq (iN (5 * (y % 5))) (exec_cast (congrArg (Value.int .i64) (wrapN (5 * (y % 5)) (by omega))) (by kernel_rfl)) <| ppq (iN ((x % 5) + (5 * (y % 5)))) (exec_cast (congrArg (Value.int .i64) (wrapN ((x % 5) + (5 * (y % 5))) (by omega))) (by kernel_rfl)) <| pkq (iN ((x % 5) + (5 * (y % 5)))) <| ps_end <| then_n <| sy_ret (by kernel_rfl) <| sy_out (.int .i64 (((x % 5) + (5 * (y % 5)) : Nat) : Int)) rfl (by kernel_rfl) ?_
  exact ⟨rfl, rfl⟩
theorem kat_as (x y r : Nat) (w : World) (hx : x ≤ 1000) (hy : y ≤ 1000) (h : Kec.at_ x y = r) : Calls Tryz.prog 168 #[.int .i64 ((x : Nat) : Int), .int .i64 ((y : Nat) : Int)] w fun e w' => e = .returned (.int .i64 ((r : Nat) : Int)) ∧ w = w' := h ▸ kat_ok x y w hx hy
noncomputable def qc43_4 (n : Nat) : Code := partOf Tryz.f169 n
theorem rotl_ok (x n : Nat) (w : World) (hx : x < Kec.W) (hn : n < 64) :
    Calls Tryz.prog 169 #[.int .u64 ((x : Nat) : Int), .int .i64 ((n : Nat) : Int)] w (fun e w' => e = .returned (.int .u64 ((Kec.rot x n : Nat) : Int)) ∧ w = w') := by
  have K0 : Keeps Nob w w := Keeps.refl _ _
  refine sy_enter (qc43_4 1) ⟨#[uN x, iN n, ud, ud, ud, ud, ud, ud, ud, ud, ud, ud, ud, ud, ud, ud, ud], []⟩ Tryz.func169 (by kernel_rfl) (by kernel_rfl) <| sy_sq (qc43_4 2) (qc43_4 3) <| sy_reg <| rg_q 0 [0] <| pkq (.int .u64 0) <| ps_end <| then_n <| sy_sq (qc43_4 6) (qc43_4 7) <| sy_reg <| rg_q 1 [0, 1, 2, 3] <| pkq (iN n) <| ppq (uN n) (exec_cast (congrArg (Value.int .u64) (wrapU n (by omega))) (by kernel_rfl)) <| ppq (uN n) (exec_cast (congrArg (Value.int .u64) (rotl_and n hn)) (by kernel_rfl)) <| pkq (uN n) ?_
  refine ps_end <| then_n <| sy_sq (qc43_4 14) (qc43_4 15) <| sy_reg <| rg_q 2 [0, 1, 2, 3, 4, 5, 6, 7, 8] <| pkq (uN x) <| pkq (uN n) <| ppq (uN ((x <<< n) % Kec.W)) (exec_binop .shl 24 186 (.tmp 9) (.tmp 10) (by kernel_rfl) (uN x) (uN n) _ (by kernel_rfl) (by kernel_rfl) (by kernel_rfl) (run_shlU _ _ x n (by omega))) <| pkq (uN x) <| pkq (uN n) <| ppq (uN (64 - n)) (exec_cast (v := .int .u64 (IntKind.u64.wrap ((64 : Int) - ((n : Nat) : Int)))) (congrArg (Value.int .u64) (by rw [show (64 : Int) - ((n : Nat) : Int) = ((64 - n : Nat) : Int) by omega]; exact wrapU _ (by omega))) (by kernel_rfl)) <| ppq (uN (x >>> (64 - n))) (exec_binop .shr 24 186 (.tmp 12) (.tmp 14) (by kernel_rfl) (uN x) (uN (64 - n)) _ (by kernel_rfl) (by kernel_rfl) (by kernel_rfl) (run_shrU _ _ x (64 - n) (by omega))) <| ppq (uN (((x <<< n) % Kec.W) ||| (x >>> (64 - n)))) (exec_cast (orU ((x <<< n) % Kec.W) (x >>> (64 - n)) (Nat.mod_lt _ Kec.W_pos) (Kec.shr_lt hx _)) (by kernel_rfl)) <| pkq (uN (((x <<< n) % Kec.W) ||| (x >>> (64 - n)))) ?_
  refine ps_end <| then_n <| sy_ret (by kernel_rfl) <| sy_out (.int .u64 ((((x <<< n) % Kec.W) ||| (x >>> (64 - n)) : Nat) : Int)) rfl (by kernel_rfl) ?_
  exact ⟨rfl, rfl⟩
theorem g_map5 (f : Nat → Nat) (i : Nat) (h : i < 5) : Kec.g ((List.range 5).map f) i = f i := by simp [Kec.g, h]
noncomputable def qc43_0 (n : Nat) : Code := partOf Tryz.f162 n
noncomputable abbrev qo43_0 (n k : Nat) : Oper := (opsAt (qc43_0 n)).getD k default
theorem kcolumns_ok (b : Nat) (s : List Nat) (w : World) (hs : s.length = 25) (ws : Kec.Ws s) (hb : w.heap[b]? = some (.cells (Wz s) 161 (0, 0))) :
    Calls Tryz.prog 162 #[.pointer (some ⟨b, 0, none⟩)] w (fun e w' => e = .returned (.tuple #[]) ∧ w'.heap[b]? = some (.cells (Wz (Kec.columns s)) 161 (0, 0)) ∧ Keeps (One b) w w') := by
  have K0 : Keeps (One b) w w := Keeps.refl _ _
  refine sy_enter (qc43_0 1) ⟨#[pT b 0, ud, ud, ud, ud, ud, ud, ud, ud, ud, ud, ud, ud, ud, ud, ud, ud, ud, ud, ud, ud, ud, ud, ud, ud, ud, ud, ud, ud, ud, ud, ud, ud, ud, ud, ud, ud, ud, ud, ud, ud, ud, ud, ud, ud, ud, ud, ud, ud, ud, ud, ud, ud, ud, ud, ud, ud, ud, ud, ud, ud, ud, ud, ud, ud, ud, ud, ud, ud, ud, ud, ud], []⟩ Tryz.func162 (by kernel_rfl) (by kernel_rfl) <| sy_sq (qc43_0 2) (qc43_0 3) <| sy_reg <| rg_q 0 [0] ?_
  obtain ⟨V1, eV1, gc, egc, h2, kV1⟩ := alloc_step w (zr_u64_5) 187
  have n3 : b < gc := egc ▸ lt_of_block hb
  have n4 : w.heap.size ≤ gc := egc ▸ K0.size
  refine prq (pT gc 0) (w' := V1) (by rw [← eV1, ← egc]; exact exec_alloc0 187 (by kernel_rfl) (.agg (zr_u64_5)) (by kernel_rfl)) ?_
  clear eV1
  have h5 := kV1.bk hb
  have K6 := K0.nn kV1
  refine ps_end <| then_n <| sy_sq (qc43_0 6) (qc43_0 7) <| sy_sq (qc43_0 12) (qc43_0 13) <| sy_reg <| rg_q 1 [0] <| pkq (.int .i64 0) <| ps_end <| then_n <| sy_bk 0 (qc43_0 26) ?_
  refine sy_loop (qc43_0 52) (fun a V => ∃ (k : Nat) (u3 u7 u8 u9 u10 u11 u12 u13 u14 u15 u16 u17 u18 u19 u20 u21 u22 u23 u24 u25 u26 u27 u28 u29 u30 u31 u32 u33 u34 u35 u36 u37 u38 u39 u40 u41 u42 u43 u44 u45 : Value), (a = ⟨#[pT b 0, ud, pT gc 0, u3, ud, ud, iN k, u7, u8, u9, u10, u11, u12, u13, u14, u15, u16, u17, u18, u19, u20, u21, u22, u23, u24, u25, u26, u27, u28, u29, u30, u31, u32, u33, u34, u35, u36, u37, u38, u39, u40, u41, u42, u43, u44, u45, ud, ud, ud, ud, ud, ud, ud, ud, ud, ud, ud, ud, ud, ud, ud, ud, ud, ud, ud, ud, ud, ud, ud, ud, ud, ud], []⟩) ∧ (k ≤ 5) ∧ (V.heap[b]? = some (.cells (Wz s) 161 (0, 0))) ∧ (V.heap[gc]? = some (.cells (Wz (stp (Kec.col s) k [0, 0, 0, 0, 0])) 187 (0, 0))) ∧ (Keeps (One b) w V)) (fun a _ => 5 - (intOf (a.tmps.getD 6 undef)).toNat) (by kernel_rfl) ?_ ?_
  · exact ⟨0, undef, undef, undef, undef, undef, undef, undef, undef, undef, undef, undef, undef, undef, undef, undef, undef, undef, undef, undef, undef, undef, undef, undef, undef, undef, undef, undef, undef, undef, undef, undef, undef, undef, undef, undef, undef, undef, undef, undef, undef, by kernel_rfl, by omega, h5, h2.trans (by kernel_rfl), K6⟩
  · rintro a V7 ⟨k, u3, u7, u8, u9, u10, u11, u12, u13, u14, u15, u16, u17, u18, u19, u20, u21, u22, u23, u24, u25, u26, u27, u28, u29, u30, u31, u32, u33, u34, u35, u36, u37, u38, u39, u40, u41, u42, u43, u44, u45, rfl, hk, h8, h9, K10⟩
    by_cases lt_k : k < 5
    · show _
      refine sy_sq (qc43_0 104) (qc43_0 105) <| sy_reg <| rg_q 2 [0] <| ppq (.bool true) (dct ((((k : Nat) : Int)) < ((5) : Int)) (by omega)) <| ps_end <| then_n <| sy_sq (qc43_0 210) (qc43_0 211) <| sy_ys (.tmp 7) (qc43_0 420) (qc43_0 421) <| sy_sk <| then_n <| sy_sq (qc43_0 422) (qc43_0 423) <| sy_bk 1 (qc43_0 844) <| sy_sq (qc43_0 1688) (qc43_0 1689) <| sy_reg ?_
      refine rg_q 3 [0, 1] <| pkq (iN k) <| pkq (iN k) <| ps_end <| then_n <| sy_reg <| rg_still 4 36 (opsAt (qc43_0 1689)) [qo43_0 1689 0, qo43_0 1689 1, qo43_0 1689 2, qo43_0 1689 3, qo43_0 1689 4, qo43_0 1689 5, qo43_0 1689 6, qo43_0 1689 7, qo43_0 1689 8, qo43_0 1689 9, qo43_0 1689 10, qo43_0 1689 11, qo43_0 1689 12, qo43_0 1689 13, qo43_0 1689 14, qo43_0 1689 15, qo43_0 1689 16, qo43_0 1689 17, qo43_0 1689 18, qo43_0 1689 19, qo43_0 1689 20, qo43_0 1689 21, qo43_0 1689 22, qo43_0 1689 23, qo43_0 1689 24, qo43_0 1689 25, qo43_0 1689 26, qo43_0 1689 27, qo43_0 1689 28, qo43_0 1689 29, qo43_0 1689 30, qo43_0 1689 31, qo43_0 1689 32, qo43_0 1689 33, qo43_0 1689 34, qo43_0 1689 35] [qo43_0 1689 36] (by kernel_rfl) (by kernel_rfl) (by kernel_rfl) (by kernel_rfl) (by kernel_rfl) ?_
      obtain ⟨V12, eV12, kV12⟩ := drew_step V7
      rw [eV12]
      clear eV12
      have h13 := kV12.bk h8
      have h14 := kV12.bk h9
      have K15 := K10.nn kV12
      refine skq (iN k) <| skq (pT b 0) <| skq (iN k) <| scq 168 #[iN k, .int .i64 0] (iN k) Tryz.func168 (kat_as k 0 k _ (by omega) (by omega) (by unfold Kec.at_; omega)) <| skq (pT b 0) <| spq (pT b k) (exec_cast (v := pT b (0 + k * 1)) (by simp) (exec_indexAt_arr 161 (.tmp 13) (.tmp 12) (by kernel_rfl) b 0 (by kernel_rfl) .i64 k (by kernel_rfl) _ _ 1 Tryz.underlying161 (by kernel_rfl) (by omega))) <| spq (uN (Kec.g s k)) (exec_ld 24 (.tmp 14) b k Tryz.underlying24 (rc (h13) (Wz_get _ k (by rw [hs]; omega)))) <| skq (pT b 0) <| skq (iN k) <| scq 168 #[iN k, .int .i64 1] (iN (k + 5)) Tryz.func168 (kat_as k 1 (k + 5) _ (by omega) (by omega) (by unfold Kec.at_; omega)) <| skq (pT b 0) <| spq (pT b (k + 5)) (exec_cast (v := .pointer (some ⟨b, 0 + (k + 5) * 1, none⟩)) (by simp) (exec_indexAt_arr 161 (.tmp 19) (.tmp 18) (by kernel_rfl) b 0 (by kernel_rfl) .i64 (k + 5) (by kernel_rfl) _ _ 1 Tryz.underlying161 (by kernel_rfl) (by omega))) <| spq (uN (Kec.g s (k + 5))) (exec_ld 24 (.tmp 20) b (k + 5) Tryz.underlying24 (rc (h13) (Wz_get _ (k + 5) (by rw [hs]; omega)))) <| spq (uN ((Kec.g s k) ^^^ (Kec.g s (k + 5)))) (exec_cast (xorU (Kec.g s k) (Kec.g s (k + 5)) (ws _) (ws _)) (by kernel_rfl)) ?_
      refine skq (pT b 0) <| skq (iN k) <| scq 168 #[iN k, .int .i64 2] (iN (k + 10)) Tryz.func168 (kat_as k 2 (k + 10) _ (by omega) (by omega) (by unfold Kec.at_; omega)) <| skq (pT b 0) <| spq (pT b (k + 10)) (exec_cast (v := .pointer (some ⟨b, 0 + (k + 10) * 1, none⟩)) (by simp) (exec_indexAt_arr 161 (.tmp 26) (.tmp 25) (by kernel_rfl) b 0 (by kernel_rfl) .i64 (k + 10) (by kernel_rfl) _ _ 1 Tryz.underlying161 (by kernel_rfl) (by omega))) <| spq (uN (Kec.g s (k + 10))) (exec_ld 24 (.tmp 27) b (k + 10) Tryz.underlying24 (rc (h13) (Wz_get _ (k + 10) (by rw [hs]; omega)))) <| spq (uN (((Kec.g s k) ^^^ (Kec.g s (k + 5))) ^^^ (Kec.g s (k + 10)))) (exec_cast (xorU ((Kec.g s k) ^^^ (Kec.g s (k + 5))) (Kec.g s (k + 10)) (Kec.xor_lt (ws _) (ws _)) (ws _)) (by kernel_rfl)) <| skq (pT b 0) <| skq (iN k) <| scq 168 #[iN k, .int .i64 3] (iN (k + 15)) Tryz.func168 (kat_as k 3 (k + 15) _ (by omega) (by omega) (by unfold Kec.at_; omega)) <| skq (pT b 0) <| spq (pT b (k + 15)) (exec_cast (v := .pointer (some ⟨b, 0 + (k + 15) * 1, none⟩)) (by simp) (exec_indexAt_arr 161 (.tmp 33) (.tmp 32) (by kernel_rfl) b 0 (by kernel_rfl) .i64 (k + 15) (by kernel_rfl) _ _ 1 Tryz.underlying161 (by kernel_rfl) (by omega))) <| spq (uN (Kec.g s (k + 15))) (exec_ld 24 (.tmp 34) b (k + 15) Tryz.underlying24 (rc (h13) (Wz_get _ (k + 15) (by rw [hs]; omega)))) <| spq (uN ((((Kec.g s k) ^^^ (Kec.g s (k + 5))) ^^^ (Kec.g s (k + 10))) ^^^ (Kec.g s (k + 15)))) (exec_cast (xorU (((Kec.g s k) ^^^ (Kec.g s (k + 5))) ^^^ (Kec.g s (k + 10))) (Kec.g s (k + 15)) (Kec.xor_lt (Kec.xor_lt (ws _) (ws _)) (ws _)) (ws _)) (by kernel_rfl)) ?_
      refine skq (pT b 0) <| skq (iN k) <| scq 168 #[iN k, .int .i64 4] (iN (k + 20)) Tryz.func168 (kat_as k 4 (k + 20) _ (by omega) (by omega) (by unfold Kec.at_; omega)) <| skq (pT b 0) <| spq (pT b (k + 20)) (exec_cast (v := .pointer (some ⟨b, 0 + (k + 20) * 1, none⟩)) (by simp) (exec_indexAt_arr 161 (.tmp 40) (.tmp 39) (by kernel_rfl) b 0 (by kernel_rfl) .i64 (k + 20) (by kernel_rfl) _ _ 1 Tryz.underlying161 (by kernel_rfl) (by omega))) <| spq (uN (Kec.g s (k + 20))) (exec_ld 24 (.tmp 41) b (k + 20) Tryz.underlying24 (rc (h13) (Wz_get _ (k + 20) (by rw [hs]; omega)))) <| spq (uN (((((Kec.g s k) ^^^ (Kec.g s (k + 5))) ^^^ (Kec.g s (k + 10))) ^^^ (Kec.g s (k + 15))) ^^^ (Kec.g s (k + 20)))) (exec_cast (xorU ((((Kec.g s k) ^^^ (Kec.g s (k + 5))) ^^^ (Kec.g s (k + 10))) ^^^ (Kec.g s (k + 15))) (Kec.g s (k + 20)) (Kec.xor_lt (Kec.xor_lt (Kec.xor_lt (ws _) (ws _)) (ws _)) (ws _)) (ws _)) (by kernel_rfl)) <| spq (pT gc k) (exec_cast (v := pT gc (0 + k * 1)) (by simp) (exec_indexAt_arr 187 (.tmp 2) (.tmp 9) (by kernel_rfl) gc 0 (by kernel_rfl) .i64 k (by kernel_rfl) _ _ 1 Tryz.underlying187 (by kernel_rfl) (by omega))) <| st_end ?_
      obtain ⟨V16, eV16, kV16⟩ := cell_step V12 gc k (.int .u64 ((((((Kec.g s k) ^^^ (Kec.g s (k + 5))) ^^^ (Kec.g s (k + 10))) ^^^ (Kec.g s (k + 15))) ^^^ (Kec.g s (k + 20)) : Nat) : Int))
      have h17 : V16.heap[gc]? = some (.cells (Wz (stp (Kec.col s) (k + 1) [0, 0, 0, 0, 0])) 187 (0, 0)) := eV16 ▸ ((heap_setCell_same _ gc k _ _ (.int .u64 ((((((Kec.g s k) ^^^ (Kec.g s (k + 5))) ^^^ (Kec.g s (k + 10))) ^^^ (Kec.g s (k + 15))) ^^^ (Kec.g s (k + 20)) : Nat) : Int)) h14).trans (congrArg (fun c => some (Obj.cells c 187 (0, 0))) (show (Wz (stp (Kec.col s) k [0, 0, 0, 0, 0]) : Array Value).setIfInBounds k (.int .u64 ((((((Kec.g s k) ^^^ (Kec.g s (k + 5))) ^^^ (Kec.g s (k + 10))) ^^^ (Kec.g s (k + 15))) ^^^ (Kec.g s (k + 20)) : Nat) : Int)) = Wz (stp (Kec.col s) (k + 1) [0, 0, 0, 0, 0]) from by rw [Wz_set]; exact congrArg Wz (by rw [stp_succ] <;> rfl))))
      refine ls_skip (qo43_0 1689 36) (w' := V16) (by kernel_rfl) (by rw [← eV16]; exact exec_store_cell 24 (.tmp 44) (.tmp 43) (by kernel_rfl) gc k (by kernel_rfl) (.int .u64 ((((((Kec.g s k) ^^^ (Kec.g s (k + 5))) ^^^ (Kec.g s (k + 10))) ^^^ (Kec.g s (k + 15))) ^^^ (Kec.g s (k + 20)) : Nat) : Int)) (by kernel_rfl) (by kernel_rfl) (by kernel_rfl) (.int .u64 ((Kec.g (stp (Kec.col s) k [0, 0, 0, 0, 0]) k : Nat) : Int)) (rc (h14) (Wz_get _ k (by rw [stp_len, show ([0, 0, 0, 0, 0] : List Nat).length = 5 from rfl]; omega))) (frozen_of_row _ _ _ _ _ h14) (by kernel_rfl)) ?_
      clear eV16
      have h18 := kV16.bo h13 (by omega)
      have K19 := K15.no kV16 (by omega)
      refine ls_end <| sy_a ⟨#[pT b 0, ud, pT gc 0, iN k, ud, ud, iN k, .bool true, iN k, iN k, pT b 0, iN k, iN k, pT b 0, pT b k, uN (Kec.g s k), pT b 0, iN k, iN (k + 5), pT b 0, pT b (k + 5), uN (Kec.g s (k + 5)), uN ((Kec.g s k) ^^^ (Kec.g s (k + 5))), pT b 0, iN k, iN (k + 10), pT b 0, pT b (k + 10), uN (Kec.g s (k + 10)), uN (((Kec.g s k) ^^^ (Kec.g s (k + 5))) ^^^ (Kec.g s (k + 10))), pT b 0, iN k, iN (k + 15), pT b 0, pT b (k + 15), uN (Kec.g s (k + 15)), uN ((((Kec.g s k) ^^^ (Kec.g s (k + 5))) ^^^ (Kec.g s (k + 10))) ^^^ (Kec.g s (k + 15))), pT b 0, iN k, iN (k + 20), pT b 0, pT b (k + 20), uN (Kec.g s (k + 20)), uN (((((Kec.g s k) ^^^ (Kec.g s (k + 5))) ^^^ (Kec.g s (k + 10))) ^^^ (Kec.g s (k + 15))) ^^^ (Kec.g s (k + 20))), pT gc k, u45, ud, ud, ud, ud, ud, ud, ud, ud, ud, ud, ud, ud, ud, ud, ud, ud, ud, ud, ud, ud, ud, ud, ud, ud, ud, ud], []⟩ <| blk_n <| then_n <| sy_reg <| rg_q 5 [0, 1] <| ppq (iN (k + 1)) (exec_cast (congrArg (Value.int .i64) (wrapN (k + 1) (by omega))) (by kernel_rfl)) <| pkq (iN (k + 1)) <| ps_end <| then_n ?_
      refine ⟨⟨k + 1, (iN k), (.bool true), (iN k), (iN k), (pT b 0), (iN k), (iN k), (pT b 0), (pT b k), (uN (Kec.g s k)), (pT b 0), (iN k), (iN (k + 5)), (pT b 0), (pT b (k + 5)), (uN (Kec.g s (k + 5))), (uN ((Kec.g s k) ^^^ (Kec.g s (k + 5)))), (pT b 0), (iN k), (iN (k + 10)), (pT b 0), (pT b (k + 10)), (uN (Kec.g s (k + 10))), (uN (((Kec.g s k) ^^^ (Kec.g s (k + 5))) ^^^ (Kec.g s (k + 10)))), (pT b 0), (iN k), (iN (k + 15)), (pT b 0), (pT b (k + 15)), (uN (Kec.g s (k + 15))), (uN ((((Kec.g s k) ^^^ (Kec.g s (k + 5))) ^^^ (Kec.g s (k + 10))) ^^^ (Kec.g s (k + 15)))), (pT b 0), (iN k), (iN (k + 20)), (pT b 0), (pT b (k + 20)), (uN (Kec.g s (k + 20))), (uN (((((Kec.g s k) ^^^ (Kec.g s (k + 5))) ^^^ (Kec.g s (k + 10))) ^^^ (Kec.g s (k + 15))) ^^^ (Kec.g s (k + 20)))), (pT gc k), (iN (k + 1)), by kernel_rfl, by omega, h18, h17, K19⟩, ?_⟩
      exact lt_meas (x := 5 - (k + 1)) (y := 5 - k) (by kernel_rfl) (by kernel_rfl) (by omega)
    · have eq_k : k = 5 := by omega
      have h20 : V7.heap[gc]? = some (.cells (Wz ((List.range 5).map (Kec.col s))) 187 (0, 0)) := h9.trans (by rw [eq_k, stp_all _ _ 5 rfl])
      refine sy_sq (qc43_0 104) (qc43_0 105) <| sy_reg <| rg_q 2 [0] <| ppq (.bool false) (dcf ((((k : Nat) : Int)) < ((5) : Int)) (by omega)) <| ps_end <| then_n <| sy_sq (qc43_0 210) (qc43_0 211) <| sy_n (.tmp 7) (qc43_0 420) (qc43_0 421) <| sy_exit 0 (by kernel_rfl) <| then_e <| then_e <| blk_e <| then_n <| sy_sq (qc43_0 14) (qc43_0 15) ?_
      refine sy_reg <| rg_q 6 [0] <| pkq (.int .i64 0) <| ps_end <| then_n <| sy_bk 2 (qc43_0 30) ?_
      refine sy_loop (qc43_0 60) (fun a V => ∃ (j : Nat) (u4 u5 u47 u48 u49 u50 u51 u52 u53 u54 u55 u56 u57 u58 u59 u60 u61 u62 u63 u64 u65 u66 u67 u68 u69 u70 u71 : Value), (a = ⟨#[pT b 0, ud, pT gc 0, u3, u4, u5, iN k, .bool false, u8, u9, u10, u11, u12, u13, u14, u15, u16, u17, u18, u19, u20, u21, u22, u23, u24, u25, u26, u27, u28, u29, u30, u31, u32, u33, u34, u35, u36, u37, u38, u39, u40, u41, u42, u43, u44, u45, iN j, u47, u48, u49, u50, u51, u52, u53, u54, u55, u56, u57, u58, u59, u60, u61, u62, u63, u64, u65, u66, u67, u68, u69, u70, u71], []⟩) ∧ (j ≤ 25) ∧ (V.heap[b]? = some (.cells (Wz (stp (fun i => Kec.g s i ^^^ Kec.dd s (i % 5)) j s)) 161 (0, 0))) ∧ (V.heap[gc]? = some (.cells (Wz ((List.range 5).map (Kec.col s))) 187 (0, 0))) ∧ (Keeps (One b) w V)) (fun a _ => 25 - (intOf (a.tmps.getD 46 undef)).toNat) (by kernel_rfl) ?_ ?_
      · exact ⟨0, undef, undef, undef, undef, undef, undef, undef, undef, undef, undef, undef, undef, undef, undef, undef, undef, undef, undef, undef, undef, undef, undef, undef, undef, undef, undef, undef, by kernel_rfl, by omega, h8, h20, K10⟩
      · rintro a V21 ⟨j, u4, u5, u47, u48, u49, u50, u51, u52, u53, u54, u55, u56, u57, u58, u59, u60, u61, u62, u63, u64, u65, u66, u67, u68, u69, u70, u71, rfl, hj, h22, h23, K24⟩
        by_cases lt_j : j < 25
        · show _
          refine sy_sq (qc43_0 120) (qc43_0 121) <| sy_reg <| rg_q 7 [0] <| ppq (.bool true) (dct ((((j : Nat) : Int)) < ((25) : Int)) (by omega)) <| ps_end <| then_n <| sy_sq (qc43_0 242) (qc43_0 243) <| sy_ys (.tmp 47) (qc43_0 484) (qc43_0 485) <| sy_sk <| then_n <| sy_sq (qc43_0 486) (qc43_0 487) <| sy_bk 3 (qc43_0 972) <| sy_sq (qc43_0 1944) (qc43_0 1945) <| sy_reg ?_
          refine rg_q 8 [0, 1] <| pkq (iN j) <| pkq (iN j) <| ps_end <| then_n <| sy_sq (qc43_0 3890) (qc43_0 3891) <| sy_reg <| rg_q 9 [0, 1, 2] <| pkq (iN j) <| pkq (iN (j % 5)) <| pkq (iN (j % 5)) <| ps_end <| then_n <| sy_reg ?_
          refine rg_still 10 20 (opsAt (qc43_0 3891)) [qo43_0 3891 0, qo43_0 3891 1, qo43_0 3891 2, qo43_0 3891 3, qo43_0 3891 4, qo43_0 3891 5, qo43_0 3891 6, qo43_0 3891 7, qo43_0 3891 8, qo43_0 3891 9, qo43_0 3891 10, qo43_0 3891 11, qo43_0 3891 12, qo43_0 3891 13, qo43_0 3891 14, qo43_0 3891 15, qo43_0 3891 16, qo43_0 3891 17, qo43_0 3891 18, qo43_0 3891 19] [qo43_0 3891 20] (by kernel_rfl) (by kernel_rfl) (by kernel_rfl) (by kernel_rfl) (by kernel_rfl) ?_
          obtain ⟨V26, eV26, kV26⟩ := drew_step V21
          rw [eV26]
          clear eV26
          have h27 := kV26.bk h22
          have h28 := kV26.bk h23
          have K29 := K24.nn kV26
          refine skq (pT b 0) <| skq (iN j) <| skq (pT b 0) <| spq (pT b j) (exec_cast (v := pT b (0 + j * 1)) (by simp) (exec_indexAt_arr 161 (.tmp 53) (.tmp 52) (by kernel_rfl) b 0 (by kernel_rfl) .i64 j (by kernel_rfl) _ _ 1 Tryz.underlying161 (by kernel_rfl) (by omega))) <| spq (uN (Kec.g s j)) (exec_ld 24 (.tmp 54) b j Tryz.underlying24 (rc (h27) (Wz_get' _ j _ (by rw [stp_len, hs]; omega) (by rw [stp_get _ _ _ _ (by omega), if_neg (by omega)])))) <| skq (iN (j % 5)) <| spq (iN ((j % 5) + 4)) (exec_cast (congrArg (Value.int .i64) (wrapN ((j % 5) + 4) (by omega))) (by kernel_rfl)) <| skq (iN (((j % 5) + 4) % 5)) <| spq (.pointer (some ⟨gc, ((j % 5) + 4) % 5, none⟩)) (exec_cast (v := .pointer (some ⟨gc, 0 + (((j % 5) + 4) % 5) * 1, none⟩)) (by simp) (exec_indexAt_arr 187 (.tmp 2) (.tmp 58) (by kernel_rfl) gc 0 (by kernel_rfl) .i64 (((j % 5) + 4) % 5) (by kernel_rfl) _ _ 1 Tryz.underlying187 (by kernel_rfl) (by omega))) <| spq (uN (Kec.col s (((j % 5) + 4) % 5))) (exec_ld 24 (.tmp 59) gc (((j % 5) + 4) % 5) Tryz.underlying24 (rc (h28) (Wz_get' _ (((j % 5) + 4) % 5) _ (by rw [List.length_map, List.length_range]; omega) (g_map5 _ _ (by omega))))) <| skq (iN (j % 5)) <| spq (iN ((j % 5) + 1)) (exec_cast (congrArg (Value.int .i64) (wrapN ((j % 5) + 1) (by omega))) (by kernel_rfl)) <| skq (iN (((j % 5) + 1) % 5)) <| spq (.pointer (some ⟨gc, ((j % 5) + 1) % 5, none⟩)) (exec_cast (v := .pointer (some ⟨gc, 0 + (((j % 5) + 1) % 5) * 1, none⟩)) (by simp) (exec_indexAt_arr 187 (.tmp 2) (.tmp 63) (by kernel_rfl) gc 0 (by kernel_rfl) .i64 (((j % 5) + 1) % 5) (by kernel_rfl) _ _ 1 Tryz.underlying187 (by kernel_rfl) (by omega))) ?_
          refine spq (uN (Kec.col s (((j % 5) + 1) % 5))) (exec_ld 24 (.tmp 64) gc (((j % 5) + 1) % 5) Tryz.underlying24 (rc (h28) (Wz_get' _ (((j % 5) + 1) % 5) _ (by rw [List.length_map, List.length_range]; omega) (g_map5 _ _ (by omega))))) <| scq 169 #[uN (Kec.col s (((j % 5) + 1) % 5)), .int .i64 1] (uN (Kec.rot (Kec.col s (((j % 5) + 1) % 5)) 1)) Tryz.func169 (rotl_ok (Kec.col s (((j % 5) + 1) % 5)) 1 _ (Kec.col_lt ws _) (by omega)) <| spq (uN ((Kec.col s (((j % 5) + 4) % 5)) ^^^ (Kec.rot (Kec.col s (((j % 5) + 1) % 5)) 1))) (exec_cast (xorU (Kec.col s (((j % 5) + 4) % 5)) (Kec.rot (Kec.col s (((j % 5) + 1) % 5)) 1) (Kec.col_lt ws _) (Kec.rot_lt (Kec.col_lt ws _) _)) (by kernel_rfl)) <| spq (uN ((Kec.g s j) ^^^ ((Kec.col s (((j % 5) + 4) % 5)) ^^^ (Kec.rot (Kec.col s (((j % 5) + 1) % 5)) 1)))) (exec_cast (xorU (Kec.g s j) ((Kec.col s (((j % 5) + 4) % 5)) ^^^ (Kec.rot (Kec.col s (((j % 5) + 1) % 5)) 1)) (ws _) (Kec.xor_lt (Kec.col_lt ws _) (Kec.rot_lt (Kec.col_lt ws _) _))) (by kernel_rfl)) <| skq (pT b 0) <| spq (pT b j) (exec_cast (v := pT b (0 + j * 1)) (by simp) (exec_indexAt_arr 161 (.tmp 69) (.tmp 52) (by kernel_rfl) b 0 (by kernel_rfl) .i64 j (by kernel_rfl) _ _ 1 Tryz.underlying161 (by kernel_rfl) (by omega))) <| st_end ?_
          obtain ⟨V30, eV30, kV30⟩ := cell_step V26 b j (.int .u64 (((Kec.g s j) ^^^ ((Kec.col s (((j % 5) + 4) % 5)) ^^^ (Kec.rot (Kec.col s (((j % 5) + 1) % 5)) 1)) : Nat) : Int))
          have h31 : V30.heap[b]? = some (.cells (Wz (stp (fun i => Kec.g s i ^^^ Kec.dd s (i % 5)) (j + 1) s)) 161 (0, 0)) := eV30 ▸ ((heap_setCell_same _ b j _ _ (.int .u64 (((Kec.g s j) ^^^ ((Kec.col s (((j % 5) + 4) % 5)) ^^^ (Kec.rot (Kec.col s (((j % 5) + 1) % 5)) 1)) : Nat) : Int)) h27).trans (congrArg (fun c => some (Obj.cells c 161 (0, 0))) (show (Wz (stp (fun i => Kec.g s i ^^^ Kec.dd s (i % 5)) j s) : Array Value).setIfInBounds j (.int .u64 (((Kec.g s j) ^^^ ((Kec.col s (((j % 5) + 4) % 5)) ^^^ (Kec.rot (Kec.col s (((j % 5) + 1) % 5)) 1)) : Nat) : Int)) = Wz (stp (fun i => Kec.g s i ^^^ Kec.dd s (i % 5)) (j + 1) s) from by rw [Wz_set]; exact congrArg Wz (by rw [stp_succ] <;> rfl))))
          refine ls_skip (qo43_0 3891 20) (w' := V30) (by kernel_rfl) (by rw [← eV30]; exact exec_store_cell 24 (.tmp 70) (.tmp 68) (by kernel_rfl) b j (by kernel_rfl) (.int .u64 (((Kec.g s j) ^^^ ((Kec.col s (((j % 5) + 4) % 5)) ^^^ (Kec.rot (Kec.col s (((j % 5) + 1) % 5)) 1)) : Nat) : Int)) (by kernel_rfl) (by kernel_rfl) (by kernel_rfl) (.int .u64 ((Kec.g s j : Nat) : Int)) (rc (h27) (Wz_get' _ j _ (by rw [stp_len, hs]; omega) (by rw [stp_get _ _ _ _ (by omega), if_neg (by omega)]))) (frozen_of_row _ _ _ _ _ h27) (by kernel_rfl)) ?_
          clear eV30
          have h32 := kV30.bo h28 (by omega)
          have K33 : Keeps (One b) w V30 := K29.then kV30 (fun i hi hm => by unfold Own.One at hm; subst hm; exact rfl)
          refine ls_end <| sy_a ⟨#[pT b 0, ud, pT gc 0, u3, iN j, iN (j % 5), iN k, .bool false, u8, u9, u10, u11, u12, u13, u14, u15, u16, u17, u18, u19, u20, u21, u22, u23, u24, u25, u26, u27, u28, u29, u30, u31, u32, u33, u34, u35, u36, u37, u38, u39, u40, u41, u42, u43, u44, u45, iN j, .bool true, iN j, iN j, iN (j % 5), pT b 0, iN j, pT b 0, pT b j, uN (Kec.g s j), iN (j % 5), iN ((j % 5) + 4), iN (((j % 5) + 4) % 5), .pointer (some ⟨gc, ((j % 5) + 4) % 5, none⟩), uN (Kec.col s (((j % 5) + 4) % 5)), iN (j % 5), iN ((j % 5) + 1), iN (((j % 5) + 1) % 5), .pointer (some ⟨gc, ((j % 5) + 1) % 5, none⟩), uN (Kec.col s (((j % 5) + 1) % 5)), uN (Kec.rot (Kec.col s (((j % 5) + 1) % 5)) 1), uN ((Kec.col s (((j % 5) + 4) % 5)) ^^^ (Kec.rot (Kec.col s (((j % 5) + 1) % 5)) 1)), uN ((Kec.g s j) ^^^ ((Kec.col s (((j % 5) + 4) % 5)) ^^^ (Kec.rot (Kec.col s (((j % 5) + 1) % 5)) 1))), pT b 0, pT b j, u71], []⟩ <| blk_n <| then_n <| sy_reg <| rg_q 11 [0, 1] <| ppq (iN (j + 1)) (exec_cast (congrArg (Value.int .i64) (wrapN (j + 1) (by omega))) (by kernel_rfl)) <| pkq (iN (j + 1)) <| ps_end <| then_n ?_
          refine ⟨⟨j + 1, (iN j), (iN (j % 5)), (.bool true), (iN j), (iN j), (iN (j % 5)), (pT b 0), (iN j), (pT b 0), (pT b j), (uN (Kec.g s j)), (iN (j % 5)), (iN ((j % 5) + 4)), (iN (((j % 5) + 4) % 5)), (.pointer (some ⟨gc, ((j % 5) + 4) % 5, none⟩)), (uN (Kec.col s (((j % 5) + 4) % 5))), (iN (j % 5)), (iN ((j % 5) + 1)), (iN (((j % 5) + 1) % 5)), (.pointer (some ⟨gc, ((j % 5) + 1) % 5, none⟩)), (uN (Kec.col s (((j % 5) + 1) % 5))), (uN (Kec.rot (Kec.col s (((j % 5) + 1) % 5)) 1)), (uN ((Kec.col s (((j % 5) + 4) % 5)) ^^^ (Kec.rot (Kec.col s (((j % 5) + 1) % 5)) 1))), (uN ((Kec.g s j) ^^^ ((Kec.col s (((j % 5) + 4) % 5)) ^^^ (Kec.rot (Kec.col s (((j % 5) + 1) % 5)) 1)))), (pT b 0), (pT b j), (iN (j + 1)), by kernel_rfl, by omega, h31, h32, K33⟩, ?_⟩
          exact lt_meas (x := 25 - (j + 1)) (y := 25 - j) (by kernel_rfl) (by kernel_rfl) (by omega)
        · have eq_j : j = 25 := by omega
          refine sy_sq (qc43_0 120) (qc43_0 121) <| sy_reg <| rg_q 7 [0] <| ppq (.bool false) (dcf ((((j : Nat) : Int)) < ((25) : Int)) (by omega)) <| ps_end <| then_n <| sy_sq (qc43_0 242) (qc43_0 243) <| sy_n (.tmp 47) (qc43_0 484) (qc43_0 485) <| sy_exit 2 (by kernel_rfl) <| then_e <| then_e <| blk_e <| sy_fall (.tuple #[]) rfl (by kernel_rfl) ?_
          exact ⟨rfl, h22.trans (by rw [eq_j, stp_all _ _ 25 hs]; rfl), K24⟩
noncomputable def qc43_1 (n : Nat) : Code := partOf Tryz.f170 n
theorem kturns_ok (w : World) :
    Calls Tryz.prog 170 #[] w (fun e w' => e = .returned (.agg Rz) ∧ Keeps Nob w w') := by
  have K0 : Keeps Nob w w := Keeps.refl _ _
  refine sy_enter (qc43_1 1) ⟨#[ud, ud], []⟩ Tryz.func170 (by kernel_rfl) (by kernel_rfl) <| sy_sq (qc43_1 2) (qc43_1 3) <| sy_reg <| rg_q 0 [0] ?_
  obtain ⟨V1, eV1, g, eg, h2, kV1⟩ := alloc_step w (zr_i64_25) 189
  have n3 : w.heap.size ≤ g := eg ▸ K0.size
  refine prq (pT g 0) (w' := V1) (by rw [← eV1, ← eg]; exact exec_alloc0 189 (by kernel_rfl) (.agg (zr_i64_25)) (by kernel_rfl)) ?_
  clear eV1
  have K4 := K0.nn kV1
  refine ps_end <| then_n <| sy_sq (qc43_1 6) (qc43_1 7) <| sy_reg <| rg_q 1 [0, 1] <| pkq (.agg #[.int .i64 0, .int .i64 1, .int .i64 62, .int .i64 28, .int .i64 27, .int .i64 36, .int .i64 44, .int .i64 6, .int .i64 55, .int .i64 20, .int .i64 3, .int .i64 10, .int .i64 43, .int .i64 25, .int .i64 39, .int .i64 41, .int .i64 45, .int .i64 15, .int .i64 21, .int .i64 8, .int .i64 18, .int .i64 2, .int .i64 61, .int .i64 56, .int .i64 14]) ?_
  obtain ⟨V5, eV5, kV5⟩ := rowset_step V1 g (#[.int .i64 0, .int .i64 1, .int .i64 62, .int .i64 28, .int .i64 27, .int .i64 36, .int .i64 44, .int .i64 6, .int .i64 55, .int .i64 20, .int .i64 3, .int .i64 10, .int .i64 43, .int .i64 25, .int .i64 39, .int .i64 41, .int .i64 45, .int .i64 15, .int .i64 21, .int .i64 8, .int .i64 18, .int .i64 2, .int .i64 61, .int .i64 56, .int .i64 14])
  have h6 : V5.heap[g]? = some (.cells (#[.int .i64 0, .int .i64 1, .int .i64 62, .int .i64 28, .int .i64 27, .int .i64 36, .int .i64 44, .int .i64 6, .int .i64 55, .int .i64 20, .int .i64 3, .int .i64 10, .int .i64 43, .int .i64 25, .int .i64 39, .int .i64 41, .int .i64 45, .int .i64 15, .int .i64 21, .int .i64 8, .int .i64 18, .int .i64 2, .int .i64 61, .int .i64 56, .int .i64 14]) 189 (0, 0)) := eV5 ▸ setRow_heap _ _ _ _ _ _ h2
  refine pzq (w' := V5) (by rw [← eV5]; exact exec_store_row 189 (.tmp 0) (.tmp 1) (by kernel_rfl) g (#[.int .i64 0, .int .i64 1, .int .i64 62, .int .i64 28, .int .i64 27, .int .i64 36, .int .i64 44, .int .i64 6, .int .i64 55, .int .i64 20, .int .i64 3, .int .i64 10, .int .i64 43, .int .i64 25, .int .i64 39, .int .i64 41, .int .i64 45, .int .i64 15, .int .i64 21, .int .i64 8, .int .i64 18, .int .i64 2, .int .i64 61, .int .i64 56, .int .i64 14]) (by kernel_rfl) (by kernel_rfl) 189 (zr_i64_25) h2 (by kernel_rfl) (by kernel_rfl) (by kernel_rfl)) ?_
  clear eV5
  have K7 := K4.no kV5 (by omega)
  refine ps_end <| then_n <| sy_ret (by kernel_rfl) <| sy_out (.agg (#[.int .i64 0, .int .i64 1, .int .i64 62, .int .i64 28, .int .i64 27, .int .i64 36, .int .i64 44, .int .i64 6, .int .i64 55, .int .i64 20, .int .i64 3, .int .i64 10, .int .i64 43, .int .i64 25, .int .i64 39, .int .i64 41, .int .i64 45, .int .i64 15, .int .i64 21, .int .i64 8, .int .i64 18, .int .i64 2, .int .i64 61, .int .i64 56, .int .i64 14])) rfl (results_cell_row (p := 0) (ty := 189) (by kernel_rfl) _ _ g 189 (#[.int .i64 0, .int .i64 1, .int .i64 62, .int .i64 28, .int .i64 27, .int .i64 36, .int .i64 44, .int .i64 6, .int .i64 55, .int .i64 20, .int .i64 3, .int .i64 10, .int .i64 43, .int .i64 25, .int .i64 39, .int .i64 41, .int .i64 45, .int .i64 15, .int .i64 21, .int .i64 8, .int .i64 18, .int .i64 2, .int .i64 61, .int .i64 56, .int .i64 14]) (0, 0) _ (by kernel_rfl) h6 Tryz.underlying189 rfl (by kernel_rfl)) ?_
  exact ⟨congrArg Ending.returned (show _ = Value.agg Rz by kernel_rfl), K7⟩
noncomputable def qc43_2 (n : Nat) : Code := partOf Tryz.f163 n
noncomputable abbrev qo43_2 (n k : Nat) : Oper := (opsAt (qc43_2 n)).getD k default
theorem kmoves_ok (b : Nat) (s : List Nat) (w : World) (hs : s.length = 25) (ws : Kec.Ws s) (hb : w.heap[b]? = some (.cells (Wz s) 161 (0, 0))) :
    Calls Tryz.prog 163 #[.pointer (some ⟨b, 0, none⟩)] w (fun e w' => e = .returned (.tuple #[]) ∧ w'.heap[b]? = some (.cells (Wz (Kec.moves s)) 161 (0, 0)) ∧ Keeps (One b) w w') := by
  have K0 : Keeps (One b) w w := Keeps.refl _ _
  refine sy_enter (qc43_2 1) ⟨#[pT b 0, ud, ud, ud, ud, ud, ud, ud, ud, ud, ud, ud, ud, ud, ud, ud, ud, ud, ud, ud, ud, ud, ud, ud, ud, ud, ud, ud, ud, ud, ud, ud, ud, ud, ud], []⟩ Tryz.func163 (by kernel_rfl) (by kernel_rfl) <| sy_sq (qc43_2 2) (qc43_2 3) <| sy_reg <| rg_q 0 [0, 1, 2, 3, 4] <| pkq (pT b 0) <| pkq (pT b 0) <| ppq (.agg (Wz s)) (exec_load_row 161 (.tmp 8) (by kernel_rfl) b (by kernel_rfl) _ _ (0, 0) _ (hb) Tryz.underlying161 rfl (by rw [Wz_size, hs]; kernel_rfl)) ?_
  obtain ⟨V1, eV1, gw, egw, h2, kV1⟩ := alloc_step w (zr_u64_25) 161
  have n3 : b < gw := egw ▸ lt_of_block hb
  have n4 : w.heap.size ≤ gw := egw ▸ K0.size
  refine prq (pT gw 0) (w' := V1) (by rw [← eV1, ← egw]; exact exec_alloc0 161 (by kernel_rfl) (.agg (zr_u64_25)) (by kernel_rfl)) ?_
  clear eV1
  have h5 := kV1.bk hb
  have K6 := K0.nn kV1
  obtain ⟨V7, eV7, kV7⟩ := rowset_step V1 gw ((Wz s))
  have h8 : V7.heap[gw]? = some (.cells (Wz s) 161 (0, 0)) := eV7 ▸ setRow_heap _ _ _ _ _ _ h2
  refine pzq (w' := V7) (by rw [← eV7]; exact exec_store_row 161 (.tmp 2) (.tmp 9) (by kernel_rfl) gw ((Wz s)) (by kernel_rfl) (by kernel_rfl) 161 (zr_u64_25) h2 (by rw [Wz_size, hs]; kernel_rfl) (by rw [Wz_size, hs]; rfl) (Wz_one _)) ?_
  clear eV7
  have h9 := kV7.bo h5 (by omega)
  have K10 := K6.no kV7 (by omega)
  refine ps_end <| then_n <| sy_sq (qc43_2 6) (qc43_2 7) <| sy_reg <| rg_q 1 [0, 1] ?_
  refine pcq 170 #[] Tryz.func170 ((kturns_ok _).mono ?_)
  rintro e V11 ⟨rfl, kV11⟩
  refine ⟨_, rfl, ?_⟩
  have h12 := kV11.bk h9
  have h13 := kV11.bk h8
  have K14 := K10.nn kV11
  refine pkq (.int .i64 0) <| ps_end <| then_n <| sy_bk 0 (qc43_2 14) ?_
  refine sy_loop (qc43_2 28) (fun a V => ∃ (k : Nat) (u3 u4 u5 u6 u12 u13 u14 u15 u16 u17 u18 u19 u20 u21 u22 u23 u24 u25 u26 u27 u28 u29 u30 u31 u32 u33 u34 : Value), (a = ⟨#[pT b 0, ud, pT gw 0, u3, u4, u5, u6, pT b 0, pT b 0, .agg (Wz s), .agg Rz, iN k, u12, u13, u14, u15, u16, u17, u18, u19, u20, u21, u22, u23, u24, u25, u26, u27, u28, u29, u30, u31, u32, u33, u34], []⟩) ∧ (k ≤ 25) ∧ (V.heap[b]? = some (.cells (Wz (Kec.stpD Kec.dest (fun i => Kec.rot (Kec.g s i) (Kec.g Kec.R i)) k s)) 161 (0, 0))) ∧ (V.heap[gw]? = some (.cells (Wz s) 161 (0, 0))) ∧ (Keeps (One b) w V)) (fun a _ => 25 - (intOf (a.tmps.getD 11 undef)).toNat) (by kernel_rfl) ?_ ?_
  · exact ⟨0, undef, undef, undef, undef, undef, undef, undef, undef, undef, undef, undef, undef, undef, undef, undef, undef, undef, undef, undef, undef, undef, undef, undef, undef, undef, undef, undef, by kernel_rfl, by omega, h12, h13, K14⟩
  · rintro a V15 ⟨k, u3, u4, u5, u6, u12, u13, u14, u15, u16, u17, u18, u19, u20, u21, u22, u23, u24, u25, u26, u27, u28, u29, u30, u31, u32, u33, u34, rfl, hk, h16, h17, K18⟩
    by_cases lt_k : k < 25
    · have hdk := Kec.dest_lt k
      refine sy_sq (qc43_2 56) (qc43_2 57) <| sy_reg <| rg_q 2 [0] <| ppq (.bool true) (dct ((((k : Nat) : Int)) < ((25) : Int)) (by omega)) <| ps_end <| then_n <| sy_sq (qc43_2 114) (qc43_2 115) <| sy_ys (.tmp 12) (qc43_2 228) (qc43_2 229) <| sy_sk <| then_n <| sy_sq (qc43_2 230) (qc43_2 231) <| sy_bk 1 (qc43_2 460) <| sy_sq (qc43_2 920) (qc43_2 921) <| sy_reg ?_
      refine rg_q 3 [0, 1, 2, 3] <| pkq (iN k) <| ppq (iN (Kec.g Kec.R k)) (exec_index_arr 189 (.tmp 10) (.tmp 11) (by kernel_rfl) Rz (by kernel_rfl) .i64 k (by kernel_rfl) 25 3 Tryz.underlying189 (by kernel_rfl) (by kernel_rfl) (by omega) _ (Rz_get k (by omega))) <| pkq (iN k) <| pkq (iN (Kec.g Kec.R k)) <| ps_end <| then_n <| sy_sq (qc43_2 1842) (qc43_2 1843) <| sy_reg <| rg_q 4 [0, 1, 2, 3, 4, 5] <| pkq (iN k) <| pkq (iN (k % 5)) <| pkq (iN k) <| ppq (iN (k / 5)) (exec_cast (congrArg (Value.int .i64) (wrapN (k / 5) (by omega))) (by kernel_rfl)) ?_
      refine pkq (iN (k % 5)) <| pkq (iN (k / 5)) <| ps_end <| then_n <| sy_reg <| rg_still 5 15 (opsAt (qc43_2 1843)) [qo43_2 1843 0, qo43_2 1843 1, qo43_2 1843 2, qo43_2 1843 3, qo43_2 1843 4, qo43_2 1843 5, qo43_2 1843 6, qo43_2 1843 7, qo43_2 1843 8, qo43_2 1843 9, qo43_2 1843 10, qo43_2 1843 11, qo43_2 1843 12, qo43_2 1843 13, qo43_2 1843 14] [qo43_2 1843 15] (by kernel_rfl) (by kernel_rfl) (by kernel_rfl) (by kernel_rfl) (by kernel_rfl) ?_
      obtain ⟨V20, eV20, kV20⟩ := drew_step V15
      rw [eV20]
      clear eV20
      have h21 := kV20.bk h16
      have h22 := kV20.bk h17
      have K23 := K18.nn kV20
      refine skq (pT b 0) <| skq (iN (k / 5)) <| skq (iN (k % 5)) <| spq (iN (2 * (k % 5))) (exec_cast (congrArg (Value.int .i64) (wrapN (2 * (k % 5)) (by omega))) (by kernel_rfl)) <| skq (iN (k / 5)) <| spq (iN (3 * (k / 5))) (exec_cast (congrArg (Value.int .i64) (wrapN (3 * (k / 5)) (by omega))) (by kernel_rfl)) <| spq (iN ((2 * (k % 5)) + (3 * (k / 5)))) (exec_cast (congrArg (Value.int .i64) (wrapN ((2 * (k % 5)) + (3 * (k / 5))) (by omega))) (by kernel_rfl)) <| scq 168 #[iN (k / 5), iN ((2 * (k % 5)) + (3 * (k / 5)))] (iN (Kec.dest k)) Tryz.func168 (kat_as (k / 5) ((2 * (k % 5)) + (3 * (k / 5))) (Kec.dest k) _ (by omega) (by omega) (rfl)) <| skq (iN k) <| spq (pT gw k) (exec_cast (v := pT gw (0 + k * 1)) (by simp) (exec_indexAt_arr 161 (.tmp 2) (.tmp 27) (by kernel_rfl) gw 0 (by kernel_rfl) .i64 k (by kernel_rfl) _ _ 1 Tryz.underlying161 (by kernel_rfl) (by omega))) <| spq (uN (Kec.g s k)) (exec_ld 24 (.tmp 28) gw k Tryz.underlying24 (rc (h22) (Wz_get _ k (by rw [hs]; omega)))) <| skq (iN (Kec.g Kec.R k)) <| scq 169 #[uN (Kec.g s k), iN (Kec.g Kec.R k)] (uN (Kec.rot (Kec.g s k) (Kec.g Kec.R k))) Tryz.func169 (rotl_ok (Kec.g s k) (Kec.g Kec.R k) _ (ws _) (Kec.R_lt' _ (by omega))) <| skq (pT b 0) ?_
      refine spq (.pointer (some ⟨b, Kec.dest k, none⟩)) (exec_cast (v := .pointer (some ⟨b, 0 + (Kec.dest k) * 1, none⟩)) (by simp) (exec_indexAt_arr 161 (.tmp 32) (.tmp 26) (by kernel_rfl) b 0 (by kernel_rfl) .i64 (Kec.dest k) (by kernel_rfl) _ _ 1 Tryz.underlying161 (by kernel_rfl) (by omega))) <| st_end ?_
      obtain ⟨V24, eV24, kV24⟩ := cell_step V20 b (Kec.dest k) (.int .u64 ((Kec.rot (Kec.g s k) (Kec.g Kec.R k) : Nat) : Int))
      have h25 : V24.heap[b]? = some (.cells (Wz (Kec.stpD Kec.dest (fun i => Kec.rot (Kec.g s i) (Kec.g Kec.R i)) (k + 1) s)) 161 (0, 0)) := eV24 ▸ ((heap_setCell_same _ b (Kec.dest k) _ _ (.int .u64 ((Kec.rot (Kec.g s k) (Kec.g Kec.R k) : Nat) : Int)) h21).trans (congrArg (fun c => some (Obj.cells c 161 (0, 0))) (show (Wz (Kec.stpD Kec.dest (fun i => Kec.rot (Kec.g s i) (Kec.g Kec.R i)) k s) : Array Value).setIfInBounds (Kec.dest k) (.int .u64 ((Kec.rot (Kec.g s k) (Kec.g Kec.R k) : Nat) : Int)) = Wz (Kec.stpD Kec.dest (fun i => Kec.rot (Kec.g s i) (Kec.g Kec.R i)) (k + 1) s) from by rw [Wz_set]; exact congrArg Wz (by rw [Kec.stpD_succ]))))
      refine ls_skip (qo43_2 1843 15) (w' := V24) (by kernel_rfl) (by rw [← eV24]; exact exec_store_cell 24 (.tmp 33) (.tmp 31) (by kernel_rfl) b (Kec.dest k) (by kernel_rfl) (.int .u64 ((Kec.rot (Kec.g s k) (Kec.g Kec.R k) : Nat) : Int)) (by kernel_rfl) (by kernel_rfl) (by kernel_rfl) (.int .u64 ((Kec.g (Kec.stpD Kec.dest (fun i => Kec.rot (Kec.g s i) (Kec.g Kec.R i)) k s) (Kec.dest k) : Nat) : Int)) (rc (h21) (Wz_get _ (Kec.dest k) (by rw [Kec.stpD_len, hs]; omega))) (frozen_of_row _ _ _ _ _ h21) (by kernel_rfl)) ?_
      clear eV24
      have h26 := kV24.bo h22 (by omega)
      have K27 : Keeps (One b) w V24 := K23.then kV24 (fun i hi hm => by unfold Own.One at hm; subst hm; exact rfl)
      refine ls_end <| sy_a ⟨#[pT b 0, ud, pT gw 0, iN k, iN (Kec.g Kec.R k), iN (k % 5), iN (k / 5), pT b 0, pT b 0, .agg (Wz s), .agg Rz, iN k, .bool true, iN k, iN (Kec.g Kec.R k), iN k, iN (k % 5), iN k, iN (k / 5), pT b 0, iN (k / 5), iN (k % 5), iN (2 * (k % 5)), iN (k / 5), iN (3 * (k / 5)), iN ((2 * (k % 5)) + (3 * (k / 5))), iN (Kec.dest k), iN k, pT gw k, uN (Kec.g s k), iN (Kec.g Kec.R k), uN (Kec.rot (Kec.g s k) (Kec.g Kec.R k)), pT b 0, .pointer (some ⟨b, Kec.dest k, none⟩), u34], []⟩ <| blk_n <| then_n <| sy_reg <| rg_q 6 [0, 1] <| ppq (iN (k + 1)) (exec_cast (congrArg (Value.int .i64) (wrapN (k + 1) (by omega))) (by kernel_rfl)) <| pkq (iN (k + 1)) <| ps_end <| then_n ?_
      refine ⟨⟨k + 1, (iN k), (iN (Kec.g Kec.R k)), (iN (k % 5)), (iN (k / 5)), (.bool true), (iN k), (iN (Kec.g Kec.R k)), (iN k), (iN (k % 5)), (iN k), (iN (k / 5)), (pT b 0), (iN (k / 5)), (iN (k % 5)), (iN (2 * (k % 5))), (iN (k / 5)), (iN (3 * (k / 5))), (iN ((2 * (k % 5)) + (3 * (k / 5)))), (iN (Kec.dest k)), (iN k), (pT gw k), (uN (Kec.g s k)), (iN (Kec.g Kec.R k)), (uN (Kec.rot (Kec.g s k) (Kec.g Kec.R k))), (pT b 0), (.pointer (some ⟨b, Kec.dest k, none⟩)), (iN (k + 1)), by kernel_rfl, by omega, h25, h26, K27⟩, ?_⟩
      exact lt_meas (x := 25 - (k + 1)) (y := 25 - k) (by kernel_rfl) (by kernel_rfl) (by omega)
    · have eq_k : k = 25 := by omega
      refine sy_sq (qc43_2 56) (qc43_2 57) <| sy_reg <| rg_q 2 [0] <| ppq (.bool false) (dcf ((((k : Nat) : Int)) < ((25) : Int)) (by omega)) <| ps_end <| then_n <| sy_sq (qc43_2 114) (qc43_2 115) <| sy_n (.tmp 12) (qc43_2 228) (qc43_2 229) <| sy_exit 0 (by kernel_rfl) <| then_e <| then_e <| blk_e <| sy_fall (.tuple #[]) rfl (by kernel_rfl) ?_
      exact ⟨rfl, h16.trans (by rw [eq_k, Kec.stpD_moves _ _ hs]; rfl), K18⟩
noncomputable def qc43_3 (n : Nat) : Code := partOf Tryz.f164 n
noncomputable abbrev qo43_3 (n k : Nat) : Oper := (opsAt (qc43_3 n)).getD k default
theorem kmixes_ok (b : Nat) (s : List Nat) (w : World) (hs : s.length = 25) (ws : Kec.Ws s) (hb : w.heap[b]? = some (.cells (Wz s) 161 (0, 0))) :
    Calls Tryz.prog 164 #[.pointer (some ⟨b, 0, none⟩)] w (fun e w' => e = .returned (.tuple #[]) ∧ w'.heap[b]? = some (.cells (Wz (Kec.mixes s)) 161 (0, 0)) ∧ Keeps (One b) w w') := by
  have K0 : Keeps (One b) w w := Keeps.refl _ _
  refine sy_enter (qc43_3 1) ⟨#[pT b 0, ud, ud, ud, ud, ud, ud, ud, ud, ud, ud, ud, ud, ud, ud, ud, ud, ud, ud, ud, ud, ud, ud, ud, ud, ud, ud, ud, ud, ud, ud, ud, ud, ud, ud, ud, ud, ud, ud], []⟩ Tryz.func164 (by kernel_rfl) (by kernel_rfl) <| sy_sq (qc43_3 2) (qc43_3 3) <| sy_reg <| rg_q 0 [0, 1, 2, 3, 4] <| pkq (pT b 0) <| pkq (pT b 0) <| ppq (.agg (Wz s)) (exec_load_row 161 (.tmp 7) (by kernel_rfl) b (by kernel_rfl) _ _ (0, 0) _ (hb) Tryz.underlying161 rfl (by rw [Wz_size, hs]; kernel_rfl)) ?_
  obtain ⟨V1, eV1, gw, egw, h2, kV1⟩ := alloc_step w (zr_u64_25) 161
  have n3 : b < gw := egw ▸ lt_of_block hb
  have n4 : w.heap.size ≤ gw := egw ▸ K0.size
  refine prq (pT gw 0) (w' := V1) (by rw [← eV1, ← egw]; exact exec_alloc0 161 (by kernel_rfl) (.agg (zr_u64_25)) (by kernel_rfl)) ?_
  clear eV1
  have h5 := kV1.bk hb
  have K6 := K0.nn kV1
  obtain ⟨V7, eV7, kV7⟩ := rowset_step V1 gw ((Wz s))
  have h8 : V7.heap[gw]? = some (.cells (Wz s) 161 (0, 0)) := eV7 ▸ setRow_heap _ _ _ _ _ _ h2
  refine pzq (w' := V7) (by rw [← eV7]; exact exec_store_row 161 (.tmp 2) (.tmp 8) (by kernel_rfl) gw ((Wz s)) (by kernel_rfl) (by kernel_rfl) 161 (zr_u64_25) h2 (by rw [Wz_size, hs]; kernel_rfl) (by rw [Wz_size, hs]; rfl) (Wz_one _)) ?_
  clear eV7
  have h9 := kV7.bo h5 (by omega)
  have K10 := K6.no kV7 (by omega)
  refine ps_end <| then_n <| sy_sq (qc43_3 6) (qc43_3 7) <| sy_reg <| rg_q 1 [0] <| pkq (.int .i64 0) <| ps_end <| then_n <| sy_bk 0 (qc43_3 14) ?_
  refine sy_loop (qc43_3 28) (fun a V => ∃ (k : Nat) (u3 u4 u5 u10 u11 u12 u13 u14 u15 u16 u17 u18 u19 u20 u21 u22 u23 u24 u25 u26 u27 u28 u29 u30 u31 u32 u33 u34 u35 u36 u37 u38 : Value), (a = ⟨#[pT b 0, ud, pT gw 0, u3, u4, u5, pT b 0, pT b 0, .agg (Wz s), iN k, u10, u11, u12, u13, u14, u15, u16, u17, u18, u19, u20, u21, u22, u23, u24, u25, u26, u27, u28, u29, u30, u31, u32, u33, u34, u35, u36, u37, u38], []⟩) ∧ (k ≤ 25) ∧ (V.heap[b]? = some (.cells (Wz (stp (fun i => Kec.g s i ^^^ ((Kec.W - 1 - Kec.g s (Kec.at_ (i % 5 + 1) (i / 5))) &&& Kec.g s (Kec.at_ (i % 5 + 2) (i / 5)))) k s)) 161 (0, 0))) ∧ (V.heap[gw]? = some (.cells (Wz s) 161 (0, 0))) ∧ (Keeps (One b) w V)) (fun a _ => 25 - (intOf (a.tmps.getD 9 undef)).toNat) (by kernel_rfl) ?_ ?_
  · exact ⟨0, undef, undef, undef, undef, undef, undef, undef, undef, undef, undef, undef, undef, undef, undef, undef, undef, undef, undef, undef, undef, undef, undef, undef, undef, undef, undef, undef, undef, undef, undef, undef, undef, by kernel_rfl, by omega, h9, h8, K10⟩
  · rintro a V11 ⟨k, u3, u4, u5, u10, u11, u12, u13, u14, u15, u16, u17, u18, u19, u20, u21, u22, u23, u24, u25, u26, u27, u28, u29, u30, u31, u32, u33, u34, u35, u36, u37, u38, rfl, hk, h12, h13, K14⟩
    by_cases lt_k : k < 25
    · have ha1 := Kec.at_lt (k % 5 + 1) (k / 5)
      have ha2 := Kec.at_lt (k % 5 + 2) (k / 5)
      refine sy_sq (qc43_3 56) (qc43_3 57) <| sy_reg <| rg_q 2 [0] <| ppq (.bool true) (dct ((((k : Nat) : Int)) < ((25) : Int)) (by omega)) <| ps_end <| then_n <| sy_sq (qc43_3 114) (qc43_3 115) <| sy_ys (.tmp 10) (qc43_3 228) (qc43_3 229) <| sy_sk <| then_n <| sy_sq (qc43_3 230) (qc43_3 231) <| sy_bk 1 (qc43_3 460) <| sy_sq (qc43_3 920) (qc43_3 921) <| sy_reg ?_
      refine rg_q 3 [0, 1] <| pkq (iN k) <| pkq (iN k) <| ps_end <| then_n <| sy_sq (qc43_3 1842) (qc43_3 1843) <| sy_reg <| rg_q 4 [0, 1, 2, 3, 4, 5] <| pkq (iN k) <| pkq (iN (k % 5)) <| pkq (iN k) <| ppq (iN (k / 5)) (exec_cast (congrArg (Value.int .i64) (wrapN (k / 5) (by omega))) (by kernel_rfl)) <| pkq (iN (k % 5)) <| pkq (iN (k / 5)) ?_
      refine ps_end <| then_n <| sy_reg <| rg_still 5 22 (opsAt (qc43_3 1843)) [qo43_3 1843 0, qo43_3 1843 1, qo43_3 1843 2, qo43_3 1843 3, qo43_3 1843 4, qo43_3 1843 5, qo43_3 1843 6, qo43_3 1843 7, qo43_3 1843 8, qo43_3 1843 9, qo43_3 1843 10, qo43_3 1843 11, qo43_3 1843 12, qo43_3 1843 13, qo43_3 1843 14, qo43_3 1843 15, qo43_3 1843 16, qo43_3 1843 17, qo43_3 1843 18, qo43_3 1843 19, qo43_3 1843 20, qo43_3 1843 21] [qo43_3 1843 22] (by kernel_rfl) (by kernel_rfl) (by kernel_rfl) (by kernel_rfl) (by kernel_rfl) ?_
      obtain ⟨V16, eV16, kV16⟩ := drew_step V11
      rw [eV16]
      clear eV16
      have h17 := kV16.bk h12
      have h18 := kV16.bk h13
      have K19 := K14.nn kV16
      refine skq (pT b 0) <| skq (iN k) <| skq (pT b 0) <| spq (pT b k) (exec_cast (v := pT b (0 + k * 1)) (by simp) (exec_indexAt_arr 161 (.tmp 18) (.tmp 17) (by kernel_rfl) b 0 (by kernel_rfl) .i64 k (by kernel_rfl) _ _ 1 Tryz.underlying161 (by kernel_rfl) (by omega))) <| spq (uN (Kec.g s k)) (exec_ld 24 (.tmp 19) b k Tryz.underlying24 (rc (h17) (Wz_get' _ k _ (by rw [stp_len, hs]; omega) (by rw [stp_get _ _ _ _ (by omega), if_neg (by omega)])))) <| skq (iN (k % 5)) <| spq (iN ((k % 5) + 1)) (exec_cast (congrArg (Value.int .i64) (wrapN ((k % 5) + 1) (by omega))) (by kernel_rfl)) <| skq (iN (k / 5)) <| scq 168 #[iN ((k % 5) + 1), iN (k / 5)] (iN (Kec.at_ ((k % 5) + 1) (k / 5))) Tryz.func168 (kat_as ((k % 5) + 1) (k / 5) (Kec.at_ ((k % 5) + 1) (k / 5)) _ (by omega) (by omega) (rfl)) <| spq (.pointer (some ⟨gw, Kec.at_ ((k % 5) + 1) (k / 5), none⟩)) (exec_cast (v := .pointer (some ⟨gw, 0 + (Kec.at_ ((k % 5) + 1) (k / 5)) * 1, none⟩)) (by simp) (exec_indexAt_arr 161 (.tmp 2) (.tmp 24) (by kernel_rfl) gw 0 (by kernel_rfl) .i64 (Kec.at_ ((k % 5) + 1) (k / 5)) (by kernel_rfl) _ _ 1 Tryz.underlying161 (by kernel_rfl) (by omega))) <| spq (uN (Kec.g s (Kec.at_ ((k % 5) + 1) (k / 5)))) (exec_ld 24 (.tmp 25) gw (Kec.at_ ((k % 5) + 1) (k / 5)) Tryz.underlying24 (rc (h18) (Wz_get _ (Kec.at_ ((k % 5) + 1) (k / 5)) (by rw [hs]; omega)))) <| spq (uN (Kec.W - 1 - (Kec.g s (Kec.at_ ((k % 5) + 1) (k / 5))))) (exec_cast (notU (Kec.g s (Kec.at_ ((k % 5) + 1) (k / 5))) (ws _)) (by kernel_rfl)) <| skq (iN (k % 5)) <| spq (iN ((k % 5) + 2)) (exec_cast (congrArg (Value.int .i64) (wrapN ((k % 5) + 2) (by omega))) (by kernel_rfl)) ?_
      refine skq (iN (k / 5)) <| scq 168 #[iN ((k % 5) + 2), iN (k / 5)] (iN (Kec.at_ ((k % 5) + 2) (k / 5))) Tryz.func168 (kat_as ((k % 5) + 2) (k / 5) (Kec.at_ ((k % 5) + 2) (k / 5)) _ (by omega) (by omega) (rfl)) <| spq (.pointer (some ⟨gw, Kec.at_ ((k % 5) + 2) (k / 5), none⟩)) (exec_cast (v := .pointer (some ⟨gw, 0 + (Kec.at_ ((k % 5) + 2) (k / 5)) * 1, none⟩)) (by simp) (exec_indexAt_arr 161 (.tmp 2) (.tmp 31) (by kernel_rfl) gw 0 (by kernel_rfl) .i64 (Kec.at_ ((k % 5) + 2) (k / 5)) (by kernel_rfl) _ _ 1 Tryz.underlying161 (by kernel_rfl) (by omega))) <| spq (uN (Kec.g s (Kec.at_ ((k % 5) + 2) (k / 5)))) (exec_ld 24 (.tmp 32) gw (Kec.at_ ((k % 5) + 2) (k / 5)) Tryz.underlying24 (rc (h18) (Wz_get _ (Kec.at_ ((k % 5) + 2) (k / 5)) (by rw [hs]; omega)))) <| spq (uN ((Kec.W - 1 - (Kec.g s (Kec.at_ ((k % 5) + 1) (k / 5)))) &&& (Kec.g s (Kec.at_ ((k % 5) + 2) (k / 5))))) (exec_cast (andU (Kec.W - 1 - (Kec.g s (Kec.at_ ((k % 5) + 1) (k / 5)))) (Kec.g s (Kec.at_ ((k % 5) + 2) (k / 5))) (Kec.sub_lt _) (ws _)) (by kernel_rfl)) <| spq (uN ((Kec.g s k) ^^^ ((Kec.W - 1 - (Kec.g s (Kec.at_ ((k % 5) + 1) (k / 5)))) &&& (Kec.g s (Kec.at_ ((k % 5) + 2) (k / 5)))))) (exec_cast (xorU (Kec.g s k) ((Kec.W - 1 - (Kec.g s (Kec.at_ ((k % 5) + 1) (k / 5)))) &&& (Kec.g s (Kec.at_ ((k % 5) + 2) (k / 5)))) (ws _) (Kec.and_lt (ws _))) (by kernel_rfl)) <| skq (pT b 0) <| spq (pT b k) (exec_cast (v := pT b (0 + k * 1)) (by simp) (exec_indexAt_arr 161 (.tmp 36) (.tmp 17) (by kernel_rfl) b 0 (by kernel_rfl) .i64 k (by kernel_rfl) _ _ 1 Tryz.underlying161 (by kernel_rfl) (by omega))) <| st_end ?_
      obtain ⟨V20, eV20, kV20⟩ := cell_step V16 b k (.int .u64 (((Kec.g s k) ^^^ ((Kec.W - 1 - (Kec.g s (Kec.at_ ((k % 5) + 1) (k / 5)))) &&& (Kec.g s (Kec.at_ ((k % 5) + 2) (k / 5)))) : Nat) : Int))
      have h21 : V20.heap[b]? = some (.cells (Wz (stp (fun i => Kec.g s i ^^^ ((Kec.W - 1 - Kec.g s (Kec.at_ (i % 5 + 1) (i / 5))) &&& Kec.g s (Kec.at_ (i % 5 + 2) (i / 5)))) (k + 1) s)) 161 (0, 0)) := eV20 ▸ ((heap_setCell_same _ b k _ _ (.int .u64 (((Kec.g s k) ^^^ ((Kec.W - 1 - (Kec.g s (Kec.at_ ((k % 5) + 1) (k / 5)))) &&& (Kec.g s (Kec.at_ ((k % 5) + 2) (k / 5)))) : Nat) : Int)) h17).trans (congrArg (fun c => some (Obj.cells c 161 (0, 0))) (show (Wz (stp (fun i => Kec.g s i ^^^ ((Kec.W - 1 - Kec.g s (Kec.at_ (i % 5 + 1) (i / 5))) &&& Kec.g s (Kec.at_ (i % 5 + 2) (i / 5)))) k s) : Array Value).setIfInBounds k (.int .u64 (((Kec.g s k) ^^^ ((Kec.W - 1 - (Kec.g s (Kec.at_ ((k % 5) + 1) (k / 5)))) &&& (Kec.g s (Kec.at_ ((k % 5) + 2) (k / 5)))) : Nat) : Int)) = Wz (stp (fun i => Kec.g s i ^^^ ((Kec.W - 1 - Kec.g s (Kec.at_ (i % 5 + 1) (i / 5))) &&& Kec.g s (Kec.at_ (i % 5 + 2) (i / 5)))) (k + 1) s) from by rw [Wz_set]; exact congrArg Wz (by rw [stp_succ] <;> rfl))))
      refine ls_skip (qo43_3 1843 22) (w' := V20) (by kernel_rfl) (by rw [← eV20]; exact exec_store_cell 24 (.tmp 37) (.tmp 35) (by kernel_rfl) b k (by kernel_rfl) (.int .u64 (((Kec.g s k) ^^^ ((Kec.W - 1 - (Kec.g s (Kec.at_ ((k % 5) + 1) (k / 5)))) &&& (Kec.g s (Kec.at_ ((k % 5) + 2) (k / 5)))) : Nat) : Int)) (by kernel_rfl) (by kernel_rfl) (by kernel_rfl) (.int .u64 ((Kec.g s k : Nat) : Int)) (rc (h17) (Wz_get' _ k _ (by rw [stp_len, hs]; omega) (by rw [stp_get _ _ _ _ (by omega), if_neg (by omega)]))) (frozen_of_row _ _ _ _ _ h17) (by kernel_rfl)) ?_
      clear eV20
      have h22 := kV20.bo h18 (by omega)
      have K23 : Keeps (One b) w V20 := K19.then kV20 (fun i hi hm => by unfold Own.One at hm; subst hm; exact rfl)
      refine ls_end <| sy_a ⟨#[pT b 0, ud, pT gw 0, iN k, iN (k % 5), iN (k / 5), pT b 0, pT b 0, .agg (Wz s), iN k, .bool true, iN k, iN k, iN (k % 5), iN k, iN (k / 5), pT b 0, iN k, pT b 0, pT b k, uN (Kec.g s k), iN (k % 5), iN ((k % 5) + 1), iN (k / 5), iN (Kec.at_ ((k % 5) + 1) (k / 5)), .pointer (some ⟨gw, Kec.at_ ((k % 5) + 1) (k / 5), none⟩), uN (Kec.g s (Kec.at_ ((k % 5) + 1) (k / 5))), uN (Kec.W - 1 - (Kec.g s (Kec.at_ ((k % 5) + 1) (k / 5)))), iN (k % 5), iN ((k % 5) + 2), iN (k / 5), iN (Kec.at_ ((k % 5) + 2) (k / 5)), .pointer (some ⟨gw, Kec.at_ ((k % 5) + 2) (k / 5), none⟩), uN (Kec.g s (Kec.at_ ((k % 5) + 2) (k / 5))), uN ((Kec.W - 1 - (Kec.g s (Kec.at_ ((k % 5) + 1) (k / 5)))) &&& (Kec.g s (Kec.at_ ((k % 5) + 2) (k / 5)))), uN ((Kec.g s k) ^^^ ((Kec.W - 1 - (Kec.g s (Kec.at_ ((k % 5) + 1) (k / 5)))) &&& (Kec.g s (Kec.at_ ((k % 5) + 2) (k / 5))))), pT b 0, pT b k, u38], []⟩ <| blk_n <| then_n <| sy_reg <| rg_q 6 [0, 1] <| ppq (iN (k + 1)) (exec_cast (congrArg (Value.int .i64) (wrapN (k + 1) (by omega))) (by kernel_rfl)) <| pkq (iN (k + 1)) <| ps_end <| then_n ?_
      refine ⟨⟨k + 1, (iN k), (iN (k % 5)), (iN (k / 5)), (.bool true), (iN k), (iN k), (iN (k % 5)), (iN k), (iN (k / 5)), (pT b 0), (iN k), (pT b 0), (pT b k), (uN (Kec.g s k)), (iN (k % 5)), (iN ((k % 5) + 1)), (iN (k / 5)), (iN (Kec.at_ ((k % 5) + 1) (k / 5))), (.pointer (some ⟨gw, Kec.at_ ((k % 5) + 1) (k / 5), none⟩)), (uN (Kec.g s (Kec.at_ ((k % 5) + 1) (k / 5)))), (uN (Kec.W - 1 - (Kec.g s (Kec.at_ ((k % 5) + 1) (k / 5))))), (iN (k % 5)), (iN ((k % 5) + 2)), (iN (k / 5)), (iN (Kec.at_ ((k % 5) + 2) (k / 5))), (.pointer (some ⟨gw, Kec.at_ ((k % 5) + 2) (k / 5), none⟩)), (uN (Kec.g s (Kec.at_ ((k % 5) + 2) (k / 5)))), (uN ((Kec.W - 1 - (Kec.g s (Kec.at_ ((k % 5) + 1) (k / 5)))) &&& (Kec.g s (Kec.at_ ((k % 5) + 2) (k / 5))))), (uN ((Kec.g s k) ^^^ ((Kec.W - 1 - (Kec.g s (Kec.at_ ((k % 5) + 1) (k / 5)))) &&& (Kec.g s (Kec.at_ ((k % 5) + 2) (k / 5)))))), (pT b 0), (pT b k), (iN (k + 1)), by kernel_rfl, by omega, h21, h22, K23⟩, ?_⟩
      exact lt_meas (x := 25 - (k + 1)) (y := 25 - k) (by kernel_rfl) (by kernel_rfl) (by omega)
    · have eq_k : k = 25 := by omega
      refine sy_sq (qc43_3 56) (qc43_3 57) <| sy_reg <| rg_q 2 [0] <| ppq (.bool false) (dcf ((((k : Nat) : Int)) < ((25) : Int)) (by omega)) <| ps_end <| then_n <| sy_sq (qc43_3 114) (qc43_3 115) <| sy_n (.tmp 10) (qc43_3 228) (qc43_3 229) <| sy_exit 0 (by kernel_rfl) <| then_e <| then_e <| blk_e <| sy_fall (.tuple #[]) rfl (by kernel_rfl) ?_
      exact ⟨rfl, h12.trans (by rw [eq_k, stp_all _ _ 25 hs]; rfl), K14⟩
end Go.Proofs.YtcbfnflnokoacaaGreat
namespace Go.Own
set_option maxRecDepth 100000
set_option maxHeartbeats 4000000
open Go Go.RowKit Go.Shelf
section
variable {P : Program} {ops : Array Oper} {Q : Exit → Act → World → Prop} {md : Region.Mode} {l n : Nat}
theorem wpIn_of_wpOper {o : Oper} {a : Act} {w : World} {K K' : Act → World → Prop} (hd : ∀ c, o.op ≠ .defer c) (hL : ¬ LetsOut Q) (h : ∀ a w, K a w → K' a w) (hh : o.wp P a w K Q) : o.wpIn (Fence.wide.inRound l) n P a w K' Q := by
  unfold Oper.wp at hh
  unfold Oper.wpIn
  refine ⟨fun _ _ => trivial, ?_⟩
  rw [Oper.semAt_eq _ _ _ hd]
  generalize (execOp a.eval o).run P w = r at *
  cases r with
  | ok x w' =>
    cases x <;> simp only [Oper.upon] at hh <;> simp only [Oper.uponIn]
    case value u => exact h _ _ hh
    case skip => exact h _ _ hh
    case defer d => exact h _ _ hh
    case enter f args =>
      refine ⟨fun hx => by simp [Fence.wide, Fence.inRound] at hx, (CallsIn.inRound l (callsIn_wide.2 hh)).mono fun e w'' he => ?_⟩
      cases e with
      | returned v => exact h _ _ he
      | panicked c => exact he
      | outgrown => exact absurd he hL
    case row row args =>
      refine ⟨fun hx => by simp [Fence.wide, Fence.inRound] at hx, ?_⟩
      have h2 : RowsIn Fence.wide (n - 1) P row args w' fun v w'' => K' (a.put o.dst v) w'' := fun c cs _ => let ⟨v, w2, r, s⟩ := hh c cs; ⟨v, w2, h _ _ r, stepsIn_wide.2 s⟩
      exact h2
  | halt x w' =>
    cases x <;> simp only [Oper.upon] at hh <;> simp only [Oper.uponIn]
    exact hh
theorem wpOpIn_of_wpOp {i : Nat} {a : Act} {w : World} {K K' : Act → World → Prop} (hd : noDefer ops = true) (hL : ¬ LetsOut Q) (h : ∀ a w, K a w → K' a w) (hh : wpOp P ops Q i K a w) : wpOpIn (Fence.wide.inRound l) n P ops Q i K' a w := by
  unfold wpOp at hh
  unfold wpOpIn
  split
  · rename_i ho; simp only [ho] at hh; exact h _ _ hh
  · rename_i o ho
    simp only [ho] at hh
    split
    · rename_i hw; simp only [hw, if_true] at hh
      rcases hh with hh | hh
      · refine wpIn_of_wpOper (fun c hc => ?_) hL h hh
        have := Array.all_eq_true.1 hd i (Array.getElem?_eq_some_iff.1 ho).1
        rw [(Array.getElem?_eq_some_iff.1 ho).2, hc] at this
        cases this
      · exact absurd hh.2 hL
    · rename_i hw; simp only [hw] at hh; exact ⟨fun _ _ => trivial, h _ _ hh⟩
theorem wpOpsIn_of_wpOps (hd : noDefer ops = true) (hL : ¬ LetsOut Q) : ∀ (is : List Nat) (a : Act) (w : World), wpOps P ops Q is a w → wpOpsIn (Fence.wide.inRound l) n P ops Q is a w
  | [], _, _, h => h
  | i :: r, a, w, h => by
    rw [wpOpsIn_cons]
    rw [wpOps_cons] at h
    exact wpOpIn_of_wpOp hd hL (fun a w => wpOpsIn_of_wpOps hd hL r a w) h
theorem wpAnyIn_of_wpAny (hd : noDefer ops = true) (hL : ¬ LetsOut Q) : ∀ (fuel : Nat) (listed : Array Bool) (a : Act) (w : World), wpAny P md ops Q fuel listed a w → wpAnyIn (Fence.wide.inRound l) n P md ops Q fuel listed a w
  | 0, _, _, _, h => h
  | fuel + 1, _, _, _, h => ⟨h.1, fun i hi => wpOpIn_of_wpOp hd hL (fun a w => wpAnyIn_of_wpAny hd hL fuel _ a w) (h.2 i hi)⟩
variable {a : Act} {w : World} {c : Code}
theorem syI_reg (hd : noDefer (opsAt c) = true) (hL : ¬ LetsOut Q) (h : RegW P c Q a w) : c.wpIn (Fence.wide.inRound l) n P Q a w := by
  rcases h with ⟨id, ops, rfl, h⟩ | ⟨id, ops, rfl, hm, h⟩
  · exact wpIn_region (wpOpsIn_of_wpOps hd hL _ _ _ h)
  · exact wpIn_region_any hm (wpAnyIn_of_wpAny hd hL _ _ _ _ h)
variable {F : Fence}
theorem syI_seq (x y : Code) (hc : c = .seq x y) (h : x.wpIn F n P (Exit.then (y.wpIn F n P Q) Q) a w) : c.wpIn F n P Q a w := hc ▸ wpIn_seq h
theorem syI_block (id : Nat) (x : Code) (hc : c = .block id x) (h : x.wpIn F n P (Exit.inBlock id Q) a w) : c.wpIn F n P Q a w := hc ▸ wpIn_block h
theorem syI_yes (o : Operand) (x y : Code) (hc : c = .cond o x y) (ho : a.eval o = .bool true) (h : x.wpIn F n P Q a w) : c.wpIn F n P Q a w := hc ▸ wpIn_cond_true ho h
theorem syI_no (o : Operand) (x y : Code) (hc : c = .cond o x y) (ho : a.eval o = .bool false) (h : y.wpIn F n P Q a w) : c.wpIn F n P Q a w := hc ▸ wpIn_cond_false ho h
theorem syI_skip (hc : c = .skip) (h : Q .normal a w) : c.wpIn F n P Q a w := hc ▸ wpIn_skip h
theorem syI_exit (id : Nat) (hc : c = .exit id) (h : Q (.exit id) a w) : c.wpIn F n P Q a w := hc ▸ wpIn_exit h
theorem syI_frame (b : Act) (h : a = b) (hq : c.wpIn F n P Q b w) : c.wpIn F n P Q a w := h ▸ hq
end
end Go.Own
namespace Go.Proofs.YtcbfnflnokoacaaGreat
set_option maxRecDepth 100000
set_option maxHeartbeats 4000000
open Go Go.RowKit Go.Own Go.Shelf
attribute [local go_sem] Oper.semAt_some
theorem kregister_ok (w : World) : Calls Tryz.prog 171 #[] w fun e w' => e = .returned (.func (.func 172) #[] #[]) ∧ w = w' := by
  go_enter Tryz.func171, Tryz.ntmps171
  go_wp2
  go_ret
  exact ⟨rfl, rfl⟩
theorem reg_and1 (k : Nat) : bits .and .u64 ((Kec.regn k : Nat) : Int) 1 = ((Kec.bitn k : Nat) : Int) := u64_and_nat (Kec.regn k) 1 (by have := Kec.regn_lt k; omega) (by decide)
theorem reg_and255 (m : Nat) (h : m < 512) : bits .and .u64 ((m : Nat) : Int) 255 = ((m &&& 255 : Nat) : Int) := u64_and_nat m 255 (by omega) (by decide)
theorem reg_xor113 (m : Nat) (h : m < 256) : bits .xor .u64 ((m : Nat) : Int) 113 = ((m ^^^ 113 : Nat) : Int) := u64_xor_nat m 113 (by omega) (by decide)
/-- The bits of the register, of which the caller takes n. -/
theorem kregister_seq (n : Nat) (hn : 1 ≤ n) (m : Nat) :
    SeqOwnG True Fence.wide n Tryz.prog 172 #[] (fun x : Nat => #[.int .u64 (x : Int)]) ((List.range m).map Kec.bitn) Nob (fun _ _ => True) := by
  intro l J Jx W0 hJ hJx hY hE h0 _
  have HY := Lib.hid hY; clear hY
  have HE := Lib.hid (hE trivial); clear hE
  refine callsIn_of_wp Tryz.func172 rfl trivial ?_ rfl
  simp only [Tryz.ntmps172, List.size_toArray, List.length_cons, List.length_nil, Nat.reduceAdd, Nat.reduceSub, Array.replicate_succ, Array.replicate_zero, List.push_toArray, List.append_toArray, List.nil_append, List.cons_append]
  gi_wp2_with fail
  gi_loopg [2] m (fun g e wr => ∃ k : Nat, k ≤ m ∧ g = m - k ∧ e = .int .u64 ((Kec.regn k : Nat) : Int) ∧ J k wr)
  case atStart => exact ⟨0, by omega, by omega, rfl, h0⟩
  case round =>
    obtain ⟨k, hk, hg, rfl, hj⟩ := hrel
    by_cases hlt : k < m
    · have hget : ((List.range m).map Kec.bitn)[k]? = some (Kec.bitn k) := by simp [hlt]
      obtain ⟨fn, tmps, assign, body, hy, hR⟩ := HY.out k _ wr hget hj trivial
      have hb := reg_and1 k
      have hr := Kec.regn_lt k
      have hn2 : Kec.regn (k + 1) = if 256 ≤ 2 * Kec.regn k then ((2 * Kec.regn k) &&& 255) ^^^ 113 else 2 * Kec.regn k := rfl
      have HN := Lib.hid hn2
      clear hn2 hget
      generalize Kec.regn k = r at *
      generalize Kec.bitn k = bt at *
      gi_wp2_with fail
      refine hR.mono ?_
      rintro e W3 (⟨rfl, hj3, _⟩ | ⟨rfl, hx3⟩)
      · by_cases h256 : 256 ≤ 2 * r
        · have d1 : decide ((256 : Int) ≤ (r : Int) * 2) = true := by simp; omega
          have e1 := reg_and255 (2 * r) (by omega)
          have e2 : (2 * r) &&& 255 < 2 ^ 8 := Nat.and_lt_two_pow _ (by decide)
          have e3 := reg_xor113 ((2 * r) &&& 255) e2
          rw [show ((2 * r : Nat) : Int) = (r : Int) * 2 by omega] at e1
          have w1 : IntKind.u64.wrap ((r : Int) * 2) = (r : Int) * 2 := by rw [show (r : Int) * 2 = ((2 * r : Nat) : Int) by omega]; exact wrapU _ (by omega)
          clear e2
          gi_wp2_with fail
          gi_roundg (m - (k + 1))
          case measure => omega
          case rel => exact ⟨k + 1, by omega, rfl, by rw [HN.out, if_pos h256], hj3⟩
        · have d1 : decide ((256 : Int) ≤ (r : Int) * 2) = false := by simp; omega
          have w1 : IntKind.u64.wrap ((r : Int) * 2) = (r : Int) * 2 := by rw [show (r : Int) * 2 = ((2 * r : Nat) : Int) by omega]; exact wrapU _ (by omega)
          gi_wp2_with fail
          gi_roundg (m - (k + 1))
          case measure => omega
          case rel => exact ⟨k + 1, by omega, rfl, by rw [HN.out, if_neg h256]; congr 1; omega, hj3⟩
      · gi_wp2
        go_end0
        exact ⟨⟨_, rfl⟩, .inr hx3⟩
    · exfalso
      have : k = m := by omega
      subst this
      exact HE.out wr (by simpa using hj)
theorem shl1 (j : Nat) (h : j < 7) : (1 <<< j) % Kec.W = 1 <<< j ∧ 1 <<< j ≤ 64 ∧ 1 ≤ 1 <<< j := by
  have : ∀ j : Fin 7, (1 <<< j.val) % Kec.W = 1 <<< j.val ∧ 1 <<< j.val ≤ 64 ∧ 1 ≤ 1 <<< j.val := by decide
  exact this ⟨j, h⟩
noncomputable def qc45_0 (n : Nat) : Code := partOf Tryz.f165 n
noncomputable abbrev qo45_0 (n k : Nat) : Oper := (opsAt (qc45_0 n)).getD k default
theorem kconst_more {l N : Nat} {u0 u4 u6 u7 u8 u9 u10 u11 u12 u13 u14 u15 u16 u17 u18 u19 u20 u21 u22 : Value} (k x go gs : Nat) (hx : x < Kec.W) (hxk : x = Kec.bitn k) (hlt : k < 168) (h168 : k + 1 ≠ 168) (hne : go ≠ gs) (w : World) (Q : Exit → Act → World → Prop) (hL : ¬ LetsOut Q) (hgo : w.heap[go]? = some (.cells (Wz (Kec.outn k)) 169 (0, 0))) (hgs : w.heap[gs]? = some (.cells #[.int .i64 ((k : Nat) : Int)] 3 (0, 0))) (hQ : ∀ a W, W.heap[go]? = some (.cells (Wz (Kec.outn (k + 1))) 169 (0, 0)) → W.heap[gs]? = some (.cells #[.int .i64 ((k + 1 : Nat) : Int)] 3 (0, 0)) → Keeps (fun j => j = go ∨ j = gs) w W → Q .normal a W) :
    (qc45_0 245).wpIn (Fence.wide.inRound l) N Tryz.prog Q ⟨#[u0, .pointer (some ⟨go, 0, none⟩), .pointer (some ⟨gs, 0, none⟩), .int .u64 ((x : Nat) : Int), u4, .int .u64 ((x : Nat) : Int), u6, u7, u8, u9, u10, u11, u12, u13, u14, u15, u16, u17, u18, u19, u20, u21, u22], []⟩ w := by
  have s1 := shl1 (k % 7) (by omega)
  obtain ⟨_, s2, s3⟩ := s1
  have K0 : Keeps ((fun j => j = go ∨ j = gs)) w w := Keeps.refl _ _
  refine syI_block 1 (qc45_0 490) (by kernel_rfl) <| syI_seq (qc45_0 980) (qc45_0 981) (by kernel_rfl) <| syI_reg (by kernel_rfl) (fun ⟨a, w, h⟩ => hL ⟨a, w, h⟩) <| rg_still 5 12 (opsAt (qc45_0 980)) [qo45_0 980 0, qo45_0 980 1, qo45_0 980 2, qo45_0 980 3, qo45_0 980 4, qo45_0 980 5, qo45_0 980 6, qo45_0 980 7, qo45_0 980 8, qo45_0 980 9, qo45_0 980 10, qo45_0 980 11] [qo45_0 980 12] (by kernel_rfl) (by kernel_rfl) (by kernel_rfl) (by kernel_rfl) (by kernel_rfl) ?_
  obtain ⟨V2, eV2, kV2⟩ := drew_step w
  rw [eV2]
  clear eV2
  have h3 := kV2.bk hgo
  have h4 := kV2.bk hgs
  have K5 := K0.nn kV2
  refine spq (iN k) (exec_ld 3 (.tmp 2) gs 0 Tryz.underlying3 (rc (h4) (by kernel_rfl))) <| spq (iN (k / 7)) (exec_cast (congrArg (Value.int .i64) (wrapN (k / 7) (by omega))) (by kernel_rfl)) <| spq (.pointer (some ⟨go, k / 7, none⟩)) (exec_cast (v := .pointer (some ⟨go, 0 + (k / 7) * 1, none⟩)) (by simp) (exec_indexAt_arr 169 (.tmp 1) (.tmp 7) (by kernel_rfl) go 0 (by kernel_rfl) .i64 (k / 7) (by kernel_rfl) _ _ 1 Tryz.underlying169 (by kernel_rfl) (by omega))) <| spq (uN (Kec.g (Kec.outn k) (k / 7))) (exec_ld 24 (.tmp 8) go (k / 7) Tryz.underlying24 (rc (h3) (Wz_get _ (k / 7) (by rw [Kec.outn_len]; omega)))) <| skq (uN x) <| spq (iN k) (exec_ld 3 (.tmp 2) gs 0 Tryz.underlying3 (rc (h4) (by kernel_rfl))) <| skq (iN (k % 7)) <| spq (uN (1 <<< (k % 7))) (exec_cast (congrArg (fun n : Nat => Value.int .u64 (n : Int)) (shl1 (k % 7) (by omega)).1) (exec_binop .shl 186 3 (.const (.int .u64 1)) (.tmp 12) (by kernel_rfl) (uN 1) (iN (k % 7)) _ (by kernel_rfl) (by kernel_rfl) (by kernel_rfl) (run_shlU _ _ 1 (k % 7) (by omega)))) <| spq (uN (1 <<< (k % 7) - 1)) (exec_cast (v := .int .u64 (IntKind.u64.wrap (((1 <<< (k % 7) : Nat) : Int) - 1))) (congrArg (Value.int .u64) (by rw [show ((1 <<< (k % 7) : Nat) : Int) - (1 : Int) = ((1 <<< (k % 7) - 1 : Nat) : Int) by omega]; exact wrapU _ (by omega))) (by kernel_rfl)) <| spq (uN ((x <<< (1 <<< (k % 7) - 1)) % Kec.W)) (exec_binop .shl 24 186 (.tmp 10) (.tmp 14) (by kernel_rfl) (uN x) (uN (1 <<< (k % 7) - 1)) _ (by kernel_rfl) (by kernel_rfl) (by kernel_rfl) (run_shlU _ _ x _ (by omega))) <| spq (uN ((Kec.g (Kec.outn k) (k / 7)) ||| ((x <<< (1 <<< (k % 7) - 1)) % Kec.W))) (exec_cast (orU (Kec.g (Kec.outn k) (k / 7)) ((x <<< (1 <<< (k % 7) - 1)) % Kec.W) (Kec.ws_outn _ _) (Nat.mod_lt _ Kec.W_pos)) (by kernel_rfl)) <| spq (.pointer (some ⟨go, k / 7, none⟩)) (exec_cast (v := .pointer (some ⟨go, 0 + (k / 7) * 1, none⟩)) (by simp) (exec_indexAt_arr 169 (.tmp 1) (.tmp 7) (by kernel_rfl) go 0 (by kernel_rfl) .i64 (k / 7) (by kernel_rfl) _ _ 1 Tryz.underlying169 (by kernel_rfl) (by omega))) <| st_end ?_
  obtain ⟨V6, eV6, kV6⟩ := cell_step V2 go (k / 7) (.int .u64 (((Kec.g (Kec.outn k) (k / 7)) ||| ((x <<< (1 <<< (k % 7) - 1)) % Kec.W) : Nat) : Int))
  have h7 : V6.heap[go]? = some (.cells (Wz (Kec.outn (k + 1))) 169 (0, 0)) := eV6 ▸ ((heap_setCell_same _ go (k / 7) _ _ (.int .u64 (((Kec.g (Kec.outn k) (k / 7)) ||| ((x <<< (1 <<< (k % 7) - 1)) % Kec.W) : Nat) : Int)) h3).trans (congrArg (fun c => some (Obj.cells c 169 (0, 0))) (show (Wz (Kec.outn k) : Array Value).setIfInBounds (k / 7) (.int .u64 (((Kec.g (Kec.outn k) (k / 7)) ||| ((x <<< (1 <<< (k % 7) - 1)) % Kec.W) : Nat) : Int)) = Wz (Kec.outn (k + 1)) from by rw [Wz_set]; exact congrArg Wz (by subst hxk; rfl))))
  refine ls_skip (qo45_0 980 12) (w' := V6) (by kernel_rfl) (by rw [← eV6]; exact exec_store_cell 24 (.tmp 17) (.tmp 16) (by kernel_rfl) go (k / 7) (by kernel_rfl) (.int .u64 (((Kec.g (Kec.outn k) (k / 7)) ||| ((x <<< (1 <<< (k % 7) - 1)) % Kec.W) : Nat) : Int)) (by kernel_rfl) (by kernel_rfl) (by kernel_rfl) (.int .u64 ((Kec.g (Kec.outn k) (k / 7) : Nat) : Int)) (rc (h3) (Wz_get _ (k / 7) (by rw [Kec.outn_len]; omega))) (frozen_of_row _ _ _ _ _ h3) (by kernel_rfl)) ?_
  clear eV6
  have h8 := kV6.bo h4 (by omega)
  have K9 : Keeps ((fun j => j = go ∨ j = gs)) w V6 := K5.then kV6 (fun i hi hm => by unfold Own.One at hm; subst hm; exact .inl rfl)
  refine ls_end <| sy_a ⟨#[u0, pT go 0, pT gs 0, uN x, u4, uN x, iN k, iN (k / 7), .pointer (some ⟨go, k / 7, none⟩), uN (Kec.g (Kec.outn k) (k / 7)), uN x, iN k, iN (k % 7), uN (1 <<< (k % 7)), uN (1 <<< (k % 7) - 1), uN ((x <<< (1 <<< (k % 7) - 1)) % Kec.W), uN ((Kec.g (Kec.outn k) (k / 7)) ||| ((x <<< (1 <<< (k % 7) - 1)) % Kec.W)), .pointer (some ⟨go, k / 7, none⟩), u18, u19, u20, u21, u22], []⟩ <| then_n <| syI_seq (qc45_0 1962) (qc45_0 1963) (by kernel_rfl) <| syI_reg (by kernel_rfl) (fun ⟨a, w, h⟩ => hL ⟨a, w, h⟩) <| rg_q 6 [0, 1, 2] <| ppq (iN k) (exec_ld 3 (.tmp 2) gs 0 Tryz.underlying3 (rc (h8) (by kernel_rfl))) <| ppq (iN (k + 1)) (exec_cast (congrArg (Value.int .i64) (wrapN (k + 1) (by omega))) (by kernel_rfl)) ?_
  obtain ⟨V10, eV10, kV10⟩ := cell_step V6 gs 0 (.int .i64 ((k + 1 : Nat) : Int))
  have h11 : V10.heap[gs]? = some (.cells (#[.int .i64 ((k + 1 : Nat) : Int)]) 3 (0, 0)) := eV10 ▸ ((heap_setCell_same _ gs 0 _ _ (.int .i64 ((k + 1 : Nat) : Int)) h8).trans (congrArg (fun c => some (Obj.cells c 3 (0, 0))) (show (#[.int .i64 ((k : Nat) : Int)] : Array Value).setIfInBounds 0 (.int .i64 ((k + 1 : Nat) : Int)) = #[.int .i64 ((k + 1 : Nat) : Int)] from by kernel_rfl)))
  refine pzq (w' := V10) (by rw [← eV10]; exact exec_store_cell 3 (.tmp 2) (.tmp 19) (by kernel_rfl) gs 0 (by kernel_rfl) (iN (k + 1)) (by kernel_rfl) (by kernel_rfl) (by kernel_rfl) (iN k) (rc (h8) (by kernel_rfl)) (frozen_of_row _ _ _ _ _ h8) (by kernel_rfl)) ?_
  clear eV10
  have h12 := kV10.bo h7 (by omega)
  have K13 : Keeps ((fun j => j = go ∨ j = gs)) w V10 := K9.then kV10 (fun i hi hm => by unfold Own.One at hm; subst hm; exact .inr rfl)
  refine ps_end <| sy_a ⟨#[u0, pT go 0, pT gs 0, uN x, u4, uN x, iN k, iN (k / 7), .pointer (some ⟨go, k / 7, none⟩), uN (Kec.g (Kec.outn k) (k / 7)), uN x, iN k, iN (k % 7), uN (1 <<< (k % 7)), uN (1 <<< (k % 7) - 1), uN ((x <<< (1 <<< (k % 7) - 1)) % Kec.W), uN ((Kec.g (Kec.outn k) (k / 7)) ||| ((x <<< (1 <<< (k % 7) - 1)) % Kec.W)), .pointer (some ⟨go, k / 7, none⟩), iN k, iN (k + 1), u20, u21, u22], []⟩ <| then_n <| syI_seq (qc45_0 3926) (qc45_0 3927) (by kernel_rfl) <| syI_reg (by kernel_rfl) (fun ⟨a, w, h⟩ => hL ⟨a, w, h⟩) <| rg_q 7 [0, 1] <| ppq (iN (k + 1)) (exec_ld 3 (.tmp 2) gs 0 Tryz.underlying3 (rc (h11) (by kernel_rfl))) <| ppq (.bool false) (eqf (((k + 1 : Nat) : Int)) ((168) : Int) (by omega)) <| ps_end <| sy_a ⟨#[u0, pT go 0, pT gs 0, uN x, u4, uN x, iN k, iN (k / 7), .pointer (some ⟨go, k / 7, none⟩), uN (Kec.g (Kec.outn k) (k / 7)), uN x, iN k, iN (k % 7), uN (1 <<< (k % 7)), uN (1 <<< (k % 7) - 1), uN ((x <<< (1 <<< (k % 7) - 1)) % Kec.W), uN ((Kec.g (Kec.outn k) (k / 7)) ||| ((x <<< (1 <<< (k % 7) - 1)) % Kec.W)), .pointer (some ⟨go, k / 7, none⟩), iN k, iN (k + 1), iN (k + 1), .bool false, u22], []⟩ <| then_n <| syI_no (.tmp 21) (qc45_0 7854) (qc45_0 7855) (by kernel_rfl) (by kernel_rfl) <| syI_skip (by kernel_rfl) <| blk_n ?_
  exact hQ _ _ h12 h11 K13
theorem kconst_last {l N : Nat} {u0 u4 u6 u7 u8 u9 u10 u11 u12 u13 u14 u15 u16 u17 u18 u19 u20 u21 u22 : Value} (k x go gs : Nat) (hx : x < Kec.W) (hxk : x = Kec.bitn k) (hlt : k < 168) (h168 : k + 1 = 168) (hne : go ≠ gs) (w : World) (Q : Exit → Act → World → Prop) (hL : ¬ LetsOut Q) (hgo : w.heap[go]? = some (.cells (Wz (Kec.outn k)) 169 (0, 0))) (hgs : w.heap[gs]? = some (.cells #[.int .i64 ((k : Nat) : Int)] 3 (0, 0))) (hQ : ∀ a W, W.heap[go]? = some (.cells (Wz (Kec.outn (k + 1))) 169 (0, 0)) → W.heap[gs]? = some (.cells #[.int .i64 ((k + 1 : Nat) : Int)] 3 (0, 0)) → Keeps (fun j => j = go ∨ j = gs) w W → Q (.exit 0) a W) :
    (qc45_0 245).wpIn (Fence.wide.inRound l) N Tryz.prog Q ⟨#[u0, .pointer (some ⟨go, 0, none⟩), .pointer (some ⟨gs, 0, none⟩), .int .u64 ((x : Nat) : Int), u4, .int .u64 ((x : Nat) : Int), u6, u7, u8, u9, u10, u11, u12, u13, u14, u15, u16, u17, u18, u19, u20, u21, u22], []⟩ w := by
  have s1 := shl1 (k % 7) (by omega)
  obtain ⟨_, s2, s3⟩ := s1
  have K0 : Keeps ((fun j => j = go ∨ j = gs)) w w := Keeps.refl _ _
  refine syI_block 1 (qc45_0 490) (by kernel_rfl) <| syI_seq (qc45_0 980) (qc45_0 981) (by kernel_rfl) <| syI_reg (by kernel_rfl) (fun ⟨a, w, h⟩ => hL ⟨a, w, h⟩) <| rg_still 5 12 (opsAt (qc45_0 980)) [qo45_0 980 0, qo45_0 980 1, qo45_0 980 2, qo45_0 980 3, qo45_0 980 4, qo45_0 980 5, qo45_0 980 6, qo45_0 980 7, qo45_0 980 8, qo45_0 980 9, qo45_0 980 10, qo45_0 980 11] [qo45_0 980 12] (by kernel_rfl) (by kernel_rfl) (by kernel_rfl) (by kernel_rfl) (by kernel_rfl) ?_
  obtain ⟨V15, eV15, kV15⟩ := drew_step w
  rw [eV15]
  clear eV15
  have h16 := kV15.bk hgo
  have h17 := kV15.bk hgs
  have K18 := K0.nn kV15
  refine spq (iN k) (exec_ld 3 (.tmp 2) gs 0 Tryz.underlying3 (rc (h17) (by kernel_rfl))) <| spq (iN (k / 7)) (exec_cast (congrArg (Value.int .i64) (wrapN (k / 7) (by omega))) (by kernel_rfl)) <| spq (.pointer (some ⟨go, k / 7, none⟩)) (exec_cast (v := .pointer (some ⟨go, 0 + (k / 7) * 1, none⟩)) (by simp) (exec_indexAt_arr 169 (.tmp 1) (.tmp 7) (by kernel_rfl) go 0 (by kernel_rfl) .i64 (k / 7) (by kernel_rfl) _ _ 1 Tryz.underlying169 (by kernel_rfl) (by omega))) <| spq (uN (Kec.g (Kec.outn k) (k / 7))) (exec_ld 24 (.tmp 8) go (k / 7) Tryz.underlying24 (rc (h16) (Wz_get _ (k / 7) (by rw [Kec.outn_len]; omega)))) <| skq (uN x) <| spq (iN k) (exec_ld 3 (.tmp 2) gs 0 Tryz.underlying3 (rc (h17) (by kernel_rfl))) <| skq (iN (k % 7)) <| spq (uN (1 <<< (k % 7))) (exec_cast (congrArg (fun n : Nat => Value.int .u64 (n : Int)) (shl1 (k % 7) (by omega)).1) (exec_binop .shl 186 3 (.const (.int .u64 1)) (.tmp 12) (by kernel_rfl) (uN 1) (iN (k % 7)) _ (by kernel_rfl) (by kernel_rfl) (by kernel_rfl) (run_shlU _ _ 1 (k % 7) (by omega)))) <| spq (uN (1 <<< (k % 7) - 1)) (exec_cast (v := .int .u64 (IntKind.u64.wrap (((1 <<< (k % 7) : Nat) : Int) - 1))) (congrArg (Value.int .u64) (by rw [show ((1 <<< (k % 7) : Nat) : Int) - (1 : Int) = ((1 <<< (k % 7) - 1 : Nat) : Int) by omega]; exact wrapU _ (by omega))) (by kernel_rfl)) <| spq (uN ((x <<< (1 <<< (k % 7) - 1)) % Kec.W)) (exec_binop .shl 24 186 (.tmp 10) (.tmp 14) (by kernel_rfl) (uN x) (uN (1 <<< (k % 7) - 1)) _ (by kernel_rfl) (by kernel_rfl) (by kernel_rfl) (run_shlU _ _ x _ (by omega))) <| spq (uN ((Kec.g (Kec.outn k) (k / 7)) ||| ((x <<< (1 <<< (k % 7) - 1)) % Kec.W))) (exec_cast (orU (Kec.g (Kec.outn k) (k / 7)) ((x <<< (1 <<< (k % 7) - 1)) % Kec.W) (Kec.ws_outn _ _) (Nat.mod_lt _ Kec.W_pos)) (by kernel_rfl)) <| spq (.pointer (some ⟨go, k / 7, none⟩)) (exec_cast (v := .pointer (some ⟨go, 0 + (k / 7) * 1, none⟩)) (by simp) (exec_indexAt_arr 169 (.tmp 1) (.tmp 7) (by kernel_rfl) go 0 (by kernel_rfl) .i64 (k / 7) (by kernel_rfl) _ _ 1 Tryz.underlying169 (by kernel_rfl) (by omega))) <| st_end ?_
  obtain ⟨V19, eV19, kV19⟩ := cell_step V15 go (k / 7) (.int .u64 (((Kec.g (Kec.outn k) (k / 7)) ||| ((x <<< (1 <<< (k % 7) - 1)) % Kec.W) : Nat) : Int))
  have h20 : V19.heap[go]? = some (.cells (Wz (Kec.outn (k + 1))) 169 (0, 0)) := eV19 ▸ ((heap_setCell_same _ go (k / 7) _ _ (.int .u64 (((Kec.g (Kec.outn k) (k / 7)) ||| ((x <<< (1 <<< (k % 7) - 1)) % Kec.W) : Nat) : Int)) h16).trans (congrArg (fun c => some (Obj.cells c 169 (0, 0))) (show (Wz (Kec.outn k) : Array Value).setIfInBounds (k / 7) (.int .u64 (((Kec.g (Kec.outn k) (k / 7)) ||| ((x <<< (1 <<< (k % 7) - 1)) % Kec.W) : Nat) : Int)) = Wz (Kec.outn (k + 1)) from by rw [Wz_set]; exact congrArg Wz (by subst hxk; rfl))))
  refine ls_skip (qo45_0 980 12) (w' := V19) (by kernel_rfl) (by rw [← eV19]; exact exec_store_cell 24 (.tmp 17) (.tmp 16) (by kernel_rfl) go (k / 7) (by kernel_rfl) (.int .u64 (((Kec.g (Kec.outn k) (k / 7)) ||| ((x <<< (1 <<< (k % 7) - 1)) % Kec.W) : Nat) : Int)) (by kernel_rfl) (by kernel_rfl) (by kernel_rfl) (.int .u64 ((Kec.g (Kec.outn k) (k / 7) : Nat) : Int)) (rc (h16) (Wz_get _ (k / 7) (by rw [Kec.outn_len]; omega))) (frozen_of_row _ _ _ _ _ h16) (by kernel_rfl)) ?_
  clear eV19
  have h21 := kV19.bo h17 (by omega)
  have K22 : Keeps ((fun j => j = go ∨ j = gs)) w V19 := K18.then kV19 (fun i hi hm => by unfold Own.One at hm; subst hm; exact .inl rfl)
  refine ls_end <| sy_a ⟨#[u0, pT go 0, pT gs 0, uN x, u4, uN x, iN k, iN (k / 7), .pointer (some ⟨go, k / 7, none⟩), uN (Kec.g (Kec.outn k) (k / 7)), uN x, iN k, iN (k % 7), uN (1 <<< (k % 7)), uN (1 <<< (k % 7) - 1), uN ((x <<< (1 <<< (k % 7) - 1)) % Kec.W), uN ((Kec.g (Kec.outn k) (k / 7)) ||| ((x <<< (1 <<< (k % 7) - 1)) % Kec.W)), .pointer (some ⟨go, k / 7, none⟩), u18, u19, u20, u21, u22], []⟩ <| then_n <| syI_seq (qc45_0 1962) (qc45_0 1963) (by kernel_rfl) <| syI_reg (by kernel_rfl) (fun ⟨a, w, h⟩ => hL ⟨a, w, h⟩) <| rg_q 6 [0, 1, 2] <| ppq (iN k) (exec_ld 3 (.tmp 2) gs 0 Tryz.underlying3 (rc (h21) (by kernel_rfl))) <| ppq (iN (k + 1)) (exec_cast (congrArg (Value.int .i64) (wrapN (k + 1) (by omega))) (by kernel_rfl)) ?_
  obtain ⟨V23, eV23, kV23⟩ := cell_step V19 gs 0 (.int .i64 ((k + 1 : Nat) : Int))
  have h24 : V23.heap[gs]? = some (.cells (#[.int .i64 ((k + 1 : Nat) : Int)]) 3 (0, 0)) := eV23 ▸ ((heap_setCell_same _ gs 0 _ _ (.int .i64 ((k + 1 : Nat) : Int)) h21).trans (congrArg (fun c => some (Obj.cells c 3 (0, 0))) (show (#[.int .i64 ((k : Nat) : Int)] : Array Value).setIfInBounds 0 (.int .i64 ((k + 1 : Nat) : Int)) = #[.int .i64 ((k + 1 : Nat) : Int)] from by kernel_rfl)))
  refine pzq (w' := V23) (by rw [← eV23]; exact exec_store_cell 3 (.tmp 2) (.tmp 19) (by kernel_rfl) gs 0 (by kernel_rfl) (iN (k + 1)) (by kernel_rfl) (by kernel_rfl) (by kernel_rfl) (iN k) (rc (h21) (by kernel_rfl)) (frozen_of_row _ _ _ _ _ h21) (by kernel_rfl)) ?_
  clear eV23
  have h25 := kV23.bo h20 (by omega)
  have K26 : Keeps ((fun j => j = go ∨ j = gs)) w V23 := K22.then kV23 (fun i hi hm => by unfold Own.One at hm; subst hm; exact .inr rfl)
  refine ps_end <| sy_a ⟨#[u0, pT go 0, pT gs 0, uN x, u4, uN x, iN k, iN (k / 7), .pointer (some ⟨go, k / 7, none⟩), uN (Kec.g (Kec.outn k) (k / 7)), uN x, iN k, iN (k % 7), uN (1 <<< (k % 7)), uN (1 <<< (k % 7) - 1), uN ((x <<< (1 <<< (k % 7) - 1)) % Kec.W), uN ((Kec.g (Kec.outn k) (k / 7)) ||| ((x <<< (1 <<< (k % 7) - 1)) % Kec.W)), .pointer (some ⟨go, k / 7, none⟩), iN k, iN (k + 1), u20, u21, u22], []⟩ <| then_n <| syI_seq (qc45_0 3926) (qc45_0 3927) (by kernel_rfl) <| syI_reg (by kernel_rfl) (fun ⟨a, w, h⟩ => hL ⟨a, w, h⟩) <| rg_q 7 [0, 1] <| ppq (iN (k + 1)) (exec_ld 3 (.tmp 2) gs 0 Tryz.underlying3 (rc (h24) (by kernel_rfl))) <| ppq (.bool true) (eqt (((k + 1 : Nat) : Int)) ((168) : Int) (by omega)) <| ps_end <| sy_a ⟨#[u0, pT go 0, pT gs 0, uN x, u4, uN x, iN k, iN (k / 7), .pointer (some ⟨go, k / 7, none⟩), uN (Kec.g (Kec.outn k) (k / 7)), uN x, iN k, iN (k % 7), uN (1 <<< (k % 7)), uN (1 <<< (k % 7) - 1), uN ((x <<< (1 <<< (k % 7) - 1)) % Kec.W), uN ((Kec.g (Kec.outn k) (k / 7)) ||| ((x <<< (1 <<< (k % 7) - 1)) % Kec.W)), .pointer (some ⟨go, k / 7, none⟩), iN k, iN (k + 1), iN (k + 1), .bool true, u22], []⟩ <| then_n <| syI_yes (.tmp 21) (qc45_0 7854) (qc45_0 7855) (by kernel_rfl) (by kernel_rfl) <| syI_exit 0 (by kernel_rfl) <| blk_p (by decide) ?_
  exact hQ _ _ h25 h24 K26
theorem kconst_assign {l N : Nat} {u0 u1 u2 u3 u4 u6 u7 u8 u9 u10 u11 u12 u13 u14 u15 u16 u17 u18 u19 u20 u21 u22 : Value} (x : Nat) (w : World) (Q : Exit → Act → World → Prop) (hL : ¬ LetsOut Q) (hQ : Q .normal ⟨#[u0, u1, u2, .int .u64 ((x : Nat) : Int), u4, .int .u64 ((x : Nat) : Int), u6, u7, u8, u9, u10, u11, u12, u13, u14, u15, u16, u17, u18, u19, u20, u21, u22], []⟩ w) :
    (qc45_0 244).wpIn (Fence.wide.inRound l) N Tryz.prog Q ⟨#[u0, u1, u2, u3, u4, .int .u64 ((x : Nat) : Int), u6, u7, u8, u9, u10, u11, u12, u13, u14, u15, u16, u17, u18, u19, u20, u21, u22], []⟩ w := by
  have K0 : Keeps Nob w w := Keeps.refl _ _
  refine syI_reg (by kernel_rfl) (fun ⟨a, w, h⟩ => hL ⟨a, w, h⟩) <| rg_q 4 [0] <| pkq (uN x) <| ps_end <| sy_a ⟨#[u0, u1, u2, uN x, u4, uN x, u6, u7, u8, u9, u10, u11, u12, u13, u14, u15, u16, u17, u18, u19, u20, u21, u22], []⟩ ?_
  exact hQ
theorem kconstants_ok (w : World) :
    Calls Tryz.prog 165 #[] w (fun e w' => e = .returned (.agg (Wz Kec.K)) ∧ Keeps Nob w w') := by
  have K0 : Keeps Nob w w := Keeps.refl _ _
  refine calls_marks 3 (c := (qc45_0 1)) Tryz.func165 (by kernel_rfl) <| sy_frame ⟨#[ud, ud, ud, ud, ud, ud, ud, ud, ud, ud, ud, ud, ud, ud, ud, ud, ud, ud, ud, ud, ud, ud, ud], []⟩ (by kernel_rfl) <| sy_sq (qc45_0 2) (qc45_0 3) <| sy_reg <| rg_q 0 [0] ?_
  obtain ⟨V27, eV27, gr, egr, h28, kV27⟩ := alloc_step w (zr_u64_24) 169
  have n29 : w.heap.size ≤ gr := egr ▸ K0.size
  refine prq (pT gr 0) (w' := V27) (by rw [← eV27, ← egr]; exact exec_alloc0 169 (by kernel_rfl) (.agg (zr_u64_24)) (by kernel_rfl)) ?_
  clear eV27
  have K30 := K0.nn kV27
  refine ps_end <| sy_a ⟨#[pT gr 0, ud, ud, ud, ud, ud, ud, ud, ud, ud, ud, ud, ud, ud, ud, ud, ud, ud, ud, ud, ud, ud, ud], []⟩ <| then_n <| sy_sq (qc45_0 6) (qc45_0 7) <| sy_reg <| rg_q 1 [0] ?_
  obtain ⟨V31, eV31, go, ego, h32, kV31⟩ := alloc_step V27 (zr_u64_24) 169
  have n33 : gr < go := ego ▸ lt_of_block h28
  have n34 : w.heap.size ≤ go := ego ▸ K30.size
  refine prq (pT go 0) (w' := V31) (by rw [← eV31, ← ego]; exact exec_alloc0 169 (by kernel_rfl) (.agg (zr_u64_24)) (by kernel_rfl)) ?_
  clear eV31
  have h35 := kV31.bk h28
  have K36 := K30.nn kV31
  refine ps_end <| sy_a ⟨#[pT gr 0, pT go 0, ud, ud, ud, ud, ud, ud, ud, ud, ud, ud, ud, ud, ud, ud, ud, ud, ud, ud, ud, ud, ud], []⟩ <| then_n <| sy_sq (qc45_0 14) (qc45_0 15) <| sy_reg <| rg_q 2 [0, 1] ?_
  obtain ⟨V37, eV37, gs, egs, h38, kV37⟩ := alloc_step V31 (#[.int .i64 0]) 3
  have n39 : gr < gs := egs ▸ lt_of_block h35
  have n40 : go < gs := egs ▸ lt_of_block h32
  have n41 : w.heap.size ≤ gs := egs ▸ K36.size
  refine prq (pT gs 0) (w' := V37) (by rw [← eV37, ← egs]; exact exec_alloc0 3 (by kernel_rfl) (.int .i64 0) (by kernel_rfl)) ?_
  clear eV37
  have h42 := kV37.bk h35
  have h43 := kV37.bk h32
  have K44 := K36.nn kV37
  obtain ⟨V45, eV45, kV45⟩ := cell_step V37 gs 0 (.int .i64 0)
  have h46 : V45.heap[gs]? = some (.cells (#[.int .i64 0]) 3 (0, 0)) := eV45 ▸ ((heap_setCell_same _ gs 0 _ _ (.int .i64 0) h38).trans (congrArg (fun c => some (Obj.cells c 3 (0, 0))) (show (#[.int .i64 0] : Array Value).setIfInBounds 0 (.int .i64 0) = #[.int .i64 0] from by kernel_rfl)))
  refine pzq (w' := V45) (by rw [← eV45]; exact exec_store_cell 3 (.tmp 2) (.const (.int .i64 0)) (by kernel_rfl) gs 0 (by kernel_rfl) (.int .i64 0) (by kernel_rfl) (by kernel_rfl) (by kernel_rfl) (.int .i64 0) (rc (h38) (by kernel_rfl)) (frozen_of_row _ _ _ _ _ h38) (by kernel_rfl)) ?_
  clear eV45
  have h47 := kV45.bo h42 (by omega)
  have h48 := kV45.bo h43 (by omega)
  have K49 := K44.no kV45 (by omega)
  refine ps_end <| sy_a ⟨#[pT gr 0, pT go 0, pT gs 0, ud, ud, ud, ud, ud, ud, ud, ud, ud, ud, ud, ud, ud, ud, ud, ud, ud, ud, ud, ud], []⟩ <| then_n <| sy_sq (qc45_0 30) (qc45_0 31) <| sy_sq (qc45_0 60) (qc45_0 61) <| sy_reg <| rg_q 3 [0] ?_
  refine pcq 171 #[] Tryz.func171 ((kregister_ok _).mono ?_)
  rintro e w1 ⟨rfl, rfl⟩
  refine ⟨_, rfl, ?_⟩
  refine ps_end <| sy_a ⟨#[pT gr 0, pT go 0, pT gs 0, ud, .func (.func 172) #[] #[], ud, ud, ud, ud, ud, ud, ud, ud, ud, ud, ud, ud, ud, ud, ud, ud, ud, ud], []⟩ <| then_n <| sy_bk 0 (qc45_0 122) ?_
  have szW : w.heap.size ≤ V45.heap.size := K49.size
  have ltr := lt_of_block h47
  have lto := lt_of_block h48
  have lts := lt_of_block h46
  refine sy_part (.rangeFunc (.tmp 4) #[5] (qc45_0 244) (qc45_0 245)) (by kernel_rfl) ?_
  refine wp_range1G True 3 (gf := 172) (lb := #[]) (by kernel_rfl) (enters_of Tryz.func172 (by kernel_rfl) rfl) (encs := fun x : Nat => #[.int .u64 (x : Int)]) (fun _ => rfl) (xs := (List.range 168).map Kec.bitn) (Mi := Nob) (S := fun _ _ => True) (fun _ h => h.elim) (kregister_seq 5 (by omega) 168) (fun _ _ _ _ _ => trivial) trivial
    (fun k V => k < 168 ∧ V.heap[gr]? = some (.cells zr_u64_24 169 (0, 0)) ∧ V.heap[go]? = some (.cells (Wz (Kec.outn k)) 169 (0, 0)) ∧ V.heap[gs]? = some (.cells #[.int .i64 ((k : Nat) : Int)] 3 (0, 0)) ∧ Keeps Nob w V) (fun c V => c = .exit 0 ∧ V.heap[gr]? = some (.cells zr_u64_24 169 (0, 0)) ∧ V.heap[go]? = some (.cells (Wz (Kec.outn 168)) 169 (0, 0)) ∧ V.heap[gs]? = some (.cells #[.int .i64 ((168 : Nat) : Int)] 3 (0, 0)) ∧ Keeps Nob w V) ?hI ?hIx ?h0 ?hE (fun x => ⟨#[.pointer (some ⟨gr, 0, none⟩), .pointer (some ⟨go, 0, none⟩), .pointer (some ⟨gs, 0, none⟩), .int .u64 ((x : Nat) : Int), .func (.func 172) #[] #[], .int .u64 ((x : Nat) : Int), ud, ud, ud, ud, ud, ud, ud, ud, ud, ud, ud, ud, ud, ud, ud, ud, ud], []⟩) ?assign ?body ?done ?stop
  case h0 => exact ⟨by omega, h47, h48.trans (by kernel_rfl), h46.trans (by kernel_rfl), K49⟩
  case hE => rintro _ V ⟨h, _⟩; simp at h
  case hI =>
    rintro k A V ⟨h1, h2, h3, h4, h5⟩ t
    exact ⟨h1, t.same _ _ h2 (fun x => x) (.inr rfl), t.same _ _ h3 (fun x => x) (.inr rfl), t.same _ _ h4 (fun x => x) (.inr rfl), t.keepsN h5 szW⟩
  case hIx =>
    rintro k A V ⟨h1, h2, h3, h4, h5⟩ t
    exact ⟨h1, t.same _ _ h2 (fun x => x) (.inr rfl), t.same _ _ h3 (fun x => x) (.inr rfl), t.same _ _ h4 (fun x => x) (.inr rfl), t.keepsN h5 szW⟩
  case assign =>
    intro l k x V K hx hi hs hK
    refine syI_frame ⟨#[.pointer (some ⟨gr, 0, none⟩), .pointer (some ⟨go, 0, none⟩), .pointer (some ⟨gs, 0, none⟩), ud, .func (.func 172) #[] #[], .int .u64 ((x : Nat) : Int), ud, ud, ud, ud, ud, ud, ud, ud, ud, ud, ud, ud, ud, ud, ud, ud, ud], []⟩ (by kernel_rfl) ?_
    refine kconst_assign x V _ ?_ ?_
    · exact fun h => h.elim fun _ h => h.elim fun _ h => h
    · exact hK
  case body =>
    rintro l k x V hl hr hx ⟨h1, h2, h3, h4, h5⟩ _
    have hxk : x = Kec.bitn k := by rw [List.getElem?_map, List.getElem?_range h1] at hx; simpa using hx.symm
    have hxl : x < Kec.W := by have := Kec.bitn_lt k; have := Kec.W_eq; rw [hxk]; omega
    by_cases h168 : k + 1 = 168
    · refine kconst_last k x go gs hxl hxk h1 h168 (by omega) V _ (fun h => h.elim fun _ h => h.elim fun _ h => h) h3 h4 (fun a W g1 g2 g3 => ?_)
      have e1 := (g3.block gr (lt_of_block h2) (by intro e; omega)).trans h2
      refine ⟨g3.from (fun j hj => by rcases hj with rfl | rfl <;> omega), rfl, e1, ?_, ?_, h5.then g3 (fun i hi hm => by omega)⟩
      · rw [h168] at g1; exact g1
      · rw [h168] at g2; exact g2
    · refine kconst_more k x go gs hxl hxk h1 h168 (by omega) V _ (fun h => h.elim fun _ h => h.elim fun _ h => h) h3 h4 (fun a W g1 g2 g3 => ?_)
      have e1 := (g3.block gr (lt_of_block h2) (by intro e; omega)).trans h2
      exact ⟨g3.from (fun j hj => by rcases hj with rfl | rfl <;> omega), ⟨by omega, e1, g1, g2, h5.then g3 (fun i hi hm => by omega)⟩, trivial⟩
  case done =>
    rintro D V hD ⟨h, _⟩ hK
    simp at h
  case stop =>
    rintro D c Vz hD ⟨rfl, h2, h3, h4, h5⟩ hK
    have hDs : V45.heap.size ≤ D := hD
    refine sy_exit 0 rfl <| blk_e <| then_n <| sy_sq (qc45_0 62) (qc45_0 63) <| sy_reg <| rg_q 8 [0, 1] <| ppq (.agg (Wz (Kec.outn 168))) (exec_load_row 169 (.tmp 1) (by kernel_rfl) go (by kernel_rfl) _ _ (0, 0) _ (h3) Tryz.underlying169 rfl (by rw [Wz_size, Kec.outn_len]; kernel_rfl)) ?_
    obtain ⟨V50, eV50, kV50⟩ := rowset_step Vz gr ((Wz (Kec.outn 168)))
    have h51 : V50.heap[gr]? = some (.cells (Wz (Kec.outn 168)) 169 (0, 0)) := eV50 ▸ setRow_heap _ _ _ _ _ _ h2
    refine pzq (w' := V50) (by rw [← eV50]; exact exec_store_row 169 (.tmp 0) (.tmp 22) (by kernel_rfl) gr ((Wz (Kec.outn 168))) (by kernel_rfl) (by kernel_rfl) 169 (zr_u64_24) h2 (by rw [Wz_size, Kec.outn_len]; kernel_rfl) (by rw [Wz_size, Kec.outn_len]; rfl) (Wz_one _)) ?_
    clear eV50
    have h54 : V50.heap[D]? = some (.deferred (some [])) := (kV50.block D (Array.getElem?_eq_some_iff.1 hK).1 (by intro e; first | exact e.elim | (unfold Own.One at e; omega) | omega)).trans hK
    have K55 := h5.no kV50 (by omega)
    refine ps_end <| sy_a ⟨#[pT gr 0, pT go 0, pT gs 0, undef, .func (.func 172) #[] #[], undef, undef, undef, undef, undef, undef, undef, undef, undef, undef, undef, undef, undef, undef, undef, undef, undef, .agg (Wz (Kec.outn 168))], [{ target := .collected D, args := #[] }]⟩ <| then_n <| sy_ret (by kernel_rfl) ?_
    obtain ⟨V56, eV56⟩ : ∃ V, V50.putObj D (.deferred none) = V := ⟨_, rfl⟩
    have tV56 : Turn V45.heap.size Nob V50 V56 := eV56 ▸ Turn.put _ _ _ _ hDs h54 rfl
    have h59 : V56.heap[gr]? = some (.cells (Wz (Kec.outn 168)) 169 (0, 0)) := tV56.same _ _ h51 (fun x => x) (.inr rfl)
    have K60 : Keeps Nob w V56 := tV56.keepsN K55 (by omega)
    refine marks_ret h54 (v := .agg (Wz (Kec.outn 168))) (by rw [eV56]; exact results_cell_row (p := 0) (ty := 169) (by kernel_rfl) _ _ gr 169 (Wz (Kec.outn 168)) (0, 0) _ (by kernel_rfl) h59 Tryz.underlying169 rfl (by rw [Wz_size, Kec.outn_len]; kernel_rfl)) ?_
    rw [eV56]
    exact ⟨by rw [Kec.outn_K], K60⟩
theorem K_len : Kec.K.length = 24 := rfl
theorem ws_K : Kec.Ws Kec.K := by
  intro i
  by_cases h : i < 24
  · have : ∀ j : Fin 24, Kec.g Kec.K j.val < Kec.W := by decide
    exact this ⟨i, h⟩
  · rw [Kec.g_big _ _ (by rw [K_len]; omega)]; exact Kec.W_pos
/-- So many rounds. -/
def permn (s : List Nat) (r : Nat) : List Nat := (Kec.K.take r).foldl Kec.round s
theorem permn_succ (s : List Nat) (r : Nat) (h : r < 24) : permn s (r + 1) = Kec.round (permn s r) (Kec.g Kec.K r) := by
  unfold permn Kec.g
  rw [List.take_succ_eq_append_getElem (by rw [K_len]; exact h), List.foldl_append]
  simp [List.getElem?_eq_getElem (show r < Kec.K.length by rw [K_len]; exact h)]
theorem permn_len (s : List Nat) (hs : s.length = 25) (r : Nat) : (permn s r).length = 25 := Kec.len_fold _ _ hs
theorem permn_ws (s : List Nat) (ws : Kec.Ws s) (r : Nat) : Kec.Ws (permn s r) := Kec.ws_fold _ (fun k hk => Kec.K_lt k (List.mem_of_mem_take hk)) s ws
theorem permn_all (s : List Nat) : permn s 24 = Kec.perm s := by
  unfold permn Kec.perm
  rw [List.take_of_length_le (by rw [K_len]; omega)]
noncomputable def qc45_1 (n : Nat) : Code := partOf Tryz.f159 n
noncomputable abbrev qo45_1 (n k : Nat) : Oper := (opsAt (qc45_1 n)).getD k default
theorem kpermuted_ok (s : List Nat) (w : World) (hs : s.length = 25) (ws : Kec.Ws s) :
    Calls Tryz.prog 159 #[.agg (Wz s)] w (fun e w' => e = .returned (.agg (Wz (Kec.perm s))) ∧ Keeps Nob w w') := by
  have K0 : Keeps Nob w w := Keeps.refl _ _
  refine sy_enter (qc45_1 1) ⟨#[.agg (Wz s), ud, ud, ud, ud, ud, ud, ud, ud, ud, ud, ud, ud, ud, ud, ud, ud, ud, ud, ud, ud, ud, ud, ud, ud, ud, ud, ud, ud, ud], []⟩ Tryz.func159 (by kernel_rfl) (by kernel_rfl) <| sy_sq (qc45_1 2) (qc45_1 3) <| sy_reg <| rg_q 0 [0, 1] ?_
  obtain ⟨V1, eV1, gb, egb, h2, kV1⟩ := alloc_step w ((Wz s)) 161
  have n3 : w.heap.size ≤ gb := egb ▸ K0.size
  refine prq (pT gb 0) (w' := V1) (by rw [← eV1, ← egb]; exact exec_box 161 (.tmp 0) (by kernel_rfl) (.agg (Wz s)) (by kernel_rfl)) ?_
  clear eV1
  have K4 := K0.nn kV1
  obtain ⟨V5, eV5, gr, egr, h6, kV5⟩ := alloc_step V1 (zr_u64_25) 161
  have n7 : gb < gr := egr ▸ lt_of_block h2
  have n8 : w.heap.size ≤ gr := egr ▸ K4.size
  refine prq (pT gr 0) (w' := V5) (by rw [← eV5, ← egr]; exact exec_alloc0 161 (by kernel_rfl) (.agg (zr_u64_25)) (by kernel_rfl)) ?_
  clear eV5
  have h9 := kV5.bk h2
  have K10 := K4.nn kV5
  refine ps_end <| then_n <| sy_sq (qc45_1 6) (qc45_1 7) <| sy_reg <| rg_q 1 [0, 1, 2, 3, 4, 5] <| pkq (.func (.func 162) #[pT gb 0] #[]) <| pkq (.func (.func 163) #[pT gb 0] #[]) <| pkq (.func (.func 164) #[pT gb 0] #[]) <| pkq (.agg #[.func (.func 162) #[pT gb 0] #[], .func (.func 163) #[pT gb 0] #[], .func (.func 164) #[pT gb 0] #[]]) ?_
  obtain ⟨V11, eV11, gt, egt, h12, kV11⟩ := alloc_step V5 (#[.nilFunc, .nilFunc, .nilFunc]) 200
  have n13 : gb < gt := egt ▸ lt_of_block h9
  have n14 : gr < gt := egt ▸ lt_of_block h6
  have n15 : w.heap.size ≤ gt := egt ▸ K10.size
  refine prq (pT gt 0) (w' := V11) (by rw [← eV11, ← egt]; exact exec_alloc0 200 (by kernel_rfl) (.agg (#[.nilFunc, .nilFunc, .nilFunc])) (by kernel_rfl)) ?_
  clear eV11
  have h16 := kV11.bk h9
  have h17 := kV11.bk h6
  have K18 := K10.nn kV11
  obtain ⟨V19, eV19, kV19⟩ := rowset_step V11 gt (#[.func (.func 162) #[.pointer (some ⟨gb, 0, none⟩)] #[], .func (.func 163) #[.pointer (some ⟨gb, 0, none⟩)] #[], .func (.func 164) #[.pointer (some ⟨gb, 0, none⟩)] #[]])
  have h20 : V19.heap[gt]? = some (.cells (#[.func (.func 162) #[.pointer (some ⟨gb, 0, none⟩)] #[], .func (.func 163) #[.pointer (some ⟨gb, 0, none⟩)] #[], .func (.func 164) #[.pointer (some ⟨gb, 0, none⟩)] #[]]) 200 (0, 0)) := eV19 ▸ setRow_heap _ _ _ _ _ _ h12
  refine pzq (w' := V19) (by rw [← eV19]; exact exec_store_row 200 (.tmp 3) (.tmp 11) (by kernel_rfl) gt (#[.func (.func 162) #[pT gb 0] #[], .func (.func 163) #[pT gb 0] #[], .func (.func 164) #[pT gb 0] #[]]) (by kernel_rfl) (by kernel_rfl) 200 (#[.nilFunc, .nilFunc, .nilFunc]) h12 (by kernel_rfl) (by kernel_rfl) (by kernel_rfl)) ?_
  clear eV19
  have h21 := kV19.bo h16 (by omega)
  have h22 := kV19.bo h17 (by omega)
  have K23 := K18.no kV19 (by omega)
  refine ps_end <| then_n <| sy_sq (qc45_1 14) (qc45_1 15) <| sy_sq (qc45_1 28) (qc45_1 29) <| sy_reg <| rg_q 2 [0, 1] ?_
  refine pcq 165 #[] Tryz.func165 ((kconstants_ok _).mono ?_)
  rintro e V24 ⟨rfl, kV24⟩
  refine ⟨_, rfl, ?_⟩
  have h25 := kV24.bk h21
  have h26 := kV24.bk h22
  have h27 := kV24.bk h20
  have K28 := K23.nn kV24
  refine pkq (.int .i64 0) <| ps_end <| then_n <| sy_bk 0 (qc45_1 58) ?_
  refine sy_loop (qc45_1 116) (fun a V => ∃ (r : Nat) (u5 u7 u14 u15 u16 u17 u18 u19 u20 u21 u22 u23 u24 u25 u26 u27 u28 : Value), (a = ⟨#[.agg (Wz s), pT gb 0, pT gr 0, pT gt 0, ud, u5, ud, u7, .func (.func 162) #[pT gb 0] #[], .func (.func 163) #[pT gb 0] #[], .func (.func 164) #[pT gb 0] #[], .agg #[.func (.func 162) #[pT gb 0] #[], .func (.func 163) #[pT gb 0] #[], .func (.func 164) #[pT gb 0] #[]], .agg (Wz Kec.K), iN r, u14, u15, u16, u17, u18, u19, u20, u21, u22, u23, u24, u25, u26, u27, u28, ud], []⟩) ∧ (r ≤ 24) ∧ (V.heap[gb]? = some (.cells (Wz (permn s r)) 161 (0, 0))) ∧ (V.heap[gr]? = some (.cells (zr_u64_25) 161 (0, 0))) ∧ (V.heap[gt]? = some (.cells (#[.func (.func 162) #[pT gb 0] #[], .func (.func 163) #[pT gb 0] #[], .func (.func 164) #[pT gb 0] #[]]) 200 (0, 0))) ∧ (Keeps Nob w V)) (fun a _ => 24 - (intOf (a.tmps.getD 13 undef)).toNat) (by kernel_rfl) ?_ ?_
  · exact ⟨0, undef, undef, undef, undef, undef, undef, undef, undef, undef, undef, undef, undef, undef, undef, undef, undef, undef, by kernel_rfl, by omega, h25, h26, h27, K28⟩
  · rintro a V29 ⟨r, u5, u7, u14, u15, u16, u17, u18, u19, u20, u21, u22, u23, u24, u25, u26, u27, u28, rfl, hr, h30, h31, h32, K33⟩
    by_cases lt_r : r < 24
    · show _
      refine sy_sq (qc45_1 232) (qc45_1 233) <| sy_reg <| rg_q 3 [0] <| ppq (.bool true) (dct ((((r : Nat) : Int)) < ((24) : Int)) (by omega)) <| ps_end <| then_n <| sy_sq (qc45_1 466) (qc45_1 467) <| sy_ys (.tmp 14) (qc45_1 932) (qc45_1 933) <| sy_sk <| then_n <| sy_sq (qc45_1 934) (qc45_1 935) <| sy_bk 1 (qc45_1 1868) <| sy_sq (qc45_1 3736) (qc45_1 3737) <| sy_reg ?_
      refine rg_q 4 [0, 1] <| ppq (uN (Kec.g Kec.K r)) (exec_index_arr 169 (.tmp 12) (.tmp 13) (by kernel_rfl) (Wz Kec.K) (by kernel_rfl) .i64 r (by kernel_rfl) 24 24 Tryz.underlying169 (by kernel_rfl) (by kernel_rfl) (by omega) _ (Wz_get Kec.K r (by rw [K_len]; omega))) <| pkq (uN (Kec.g Kec.K r)) <| ps_end <| then_n <| sy_sq (qc45_1 7474) (qc45_1 7475) <| sy_sq (qc45_1 14948) (qc45_1 14949) <| sy_reg <| rg_q 5 [0, 1] <| ppq (.agg #[.func (.func 162) #[pT gb 0] #[], .func (.func 163) #[pT gb 0] #[], .func (.func 164) #[pT gb 0] #[]]) (exec_load_row 200 (.tmp 3) (by kernel_rfl) gt (by kernel_rfl) _ _ (0, 0) _ (h32) Tryz.underlying200 rfl (by kernel_rfl)) <| pkq (.int .i64 0) <| ps_end <| then_n <| sy_bk 2 (qc45_1 29898) ?_
      refine sy_rounds 4 (qc45_1 59796) (by kernel_rfl) <| rd_step <| sy_sq (qc45_1 119592) (qc45_1 119593) <| sy_reg <| rg_q 6 [0] <| pkq (.bool true) <| ps_end <| then_n <| sy_sq (qc45_1 239186) (qc45_1 239187) <| sy_ys (.tmp 18) (qc45_1 478372) (qc45_1 478373) <| sy_sk <| then_n <| sy_sq (qc45_1 478374) (qc45_1 478375) <| sy_bk 3 (qc45_1 956748) ?_
      refine sy_sq (qc45_1 1913496) (qc45_1 1913497) <| sy_reg <| rg_q 7 [0, 1] <| pkq (.func (.func 162) #[pT gb 0] #[]) <| pkq (.func (.func 162) #[pT gb 0] #[]) <| ps_end <| then_n <| sy_reg <| rg_q 8 [0, 1] <| pkq (.func (.func 162) #[pT gb 0] #[]) ?_
      refine ps_callV (qo45_1 1913497 1) (.tmp 20) 162 #[pT gb 0] #[] #[pT gb 0] (by kernel_rfl) (by kernel_rfl) (by kernel_rfl) (by kernel_rfl) (by kernel_rfl) (enters_of Tryz.func162 (by kernel_rfl) rfl) ((kcolumns_ok gb (permn s r) _ (by rw [permn_len s hs]) (permn_ws s ws r) h30).mono ?_)
      rintro e V34 ⟨rfl, h35, kV34⟩
      refine ⟨_, rfl, ?_⟩
      have h36 := kV34.bo h31 (by omega)
      have h37 := kV34.bo h32 (by omega)
      have K38 := K33.no kV34 (by omega)
      refine ps_end <| blk_n <| then_n <| sy_reg <| rg_q 9 [0, 1] <| pkq (.int .i64 1) <| pkq (.int .i64 1) <| ps_end <| then_n <| rd_step <| sy_sq (qc45_1 119592) (qc45_1 119593) <| sy_reg <| rg_q 6 [0] <| pkq (.bool true) ?_
      refine ps_end <| then_n <| sy_sq (qc45_1 239186) (qc45_1 239187) <| sy_ys (.tmp 18) (qc45_1 478372) (qc45_1 478373) <| sy_sk <| then_n <| sy_sq (qc45_1 478374) (qc45_1 478375) <| sy_bk 3 (qc45_1 956748) <| sy_sq (qc45_1 1913496) (qc45_1 1913497) <| sy_reg <| rg_q 7 [0, 1] <| pkq (.func (.func 163) #[pT gb 0] #[]) <| pkq (.func (.func 163) #[pT gb 0] #[]) <| ps_end ?_
      refine then_n <| sy_reg <| rg_q 8 [0, 1] <| pkq (.func (.func 163) #[pT gb 0] #[]) ?_
      refine ps_callV (qo45_1 1913497 1) (.tmp 20) 163 #[pT gb 0] #[] #[pT gb 0] (by kernel_rfl) (by kernel_rfl) (by kernel_rfl) (by kernel_rfl) (by kernel_rfl) (enters_of Tryz.func163 (by kernel_rfl) rfl) ((kmoves_ok gb (Kec.columns (permn s r)) _ (by rw [show (Kec.columns (permn s r)).length = 25 from Kec.len_columns _]) (Kec.ws_columns (permn_ws s ws r)) h35).mono ?_)
      rintro e V39 ⟨rfl, h40, kV39⟩
      refine ⟨_, rfl, ?_⟩
      have h41 := kV39.bo h36 (by omega)
      have h42 := kV39.bo h37 (by omega)
      have K43 := K38.no kV39 (by omega)
      refine ps_end <| blk_n <| then_n <| sy_reg <| rg_q 9 [0, 1] <| pkq (.int .i64 2) <| pkq (.int .i64 2) <| ps_end <| then_n <| rd_step <| sy_sq (qc45_1 119592) (qc45_1 119593) <| sy_reg <| rg_q 6 [0] <| pkq (.bool true) ?_
      refine ps_end <| then_n <| sy_sq (qc45_1 239186) (qc45_1 239187) <| sy_ys (.tmp 18) (qc45_1 478372) (qc45_1 478373) <| sy_sk <| then_n <| sy_sq (qc45_1 478374) (qc45_1 478375) <| sy_bk 3 (qc45_1 956748) <| sy_sq (qc45_1 1913496) (qc45_1 1913497) <| sy_reg <| rg_q 7 [0, 1] <| pkq (.func (.func 164) #[pT gb 0] #[]) <| pkq (.func (.func 164) #[pT gb 0] #[]) <| ps_end ?_
      refine then_n <| sy_reg <| rg_q 8 [0, 1] <| pkq (.func (.func 164) #[pT gb 0] #[]) ?_
      refine ps_callV (qo45_1 1913497 1) (.tmp 20) 164 #[pT gb 0] #[] #[pT gb 0] (by kernel_rfl) (by kernel_rfl) (by kernel_rfl) (by kernel_rfl) (by kernel_rfl) (enters_of Tryz.func164 (by kernel_rfl) rfl) ((kmixes_ok gb (Kec.moves (Kec.columns (permn s r))) _ (by rw [show (Kec.moves (Kec.columns (permn s r))).length = 25 from Kec.len_moves _]) (Kec.ws_moves (Kec.ws_columns (permn_ws s ws r))) h40).mono ?_)
      rintro e V44 ⟨rfl, h45, kV44⟩
      refine ⟨_, rfl, ?_⟩
      have h46 := kV44.bo h41 (by omega)
      have h47 := kV44.bo h42 (by omega)
      have K48 := K43.no kV44 (by omega)
      refine ps_end <| sy_a ⟨#[.agg (Wz s), pT gb 0, pT gr 0, pT gt 0, ud, uN (Kec.g Kec.K r), ud, .func (.func 164) #[pT gb 0] #[], .func (.func 162) #[pT gb 0] #[], .func (.func 163) #[pT gb 0] #[], .func (.func 164) #[pT gb 0] #[], .agg #[.func (.func 162) #[pT gb 0] #[], .func (.func 163) #[pT gb 0] #[], .func (.func 164) #[pT gb 0] #[]], .agg (Wz Kec.K), iN r, .bool true, uN (Kec.g Kec.K r), .agg #[.func (.func 162) #[pT gb 0] #[], .func (.func 163) #[pT gb 0] #[], .func (.func 164) #[pT gb 0] #[]], .int .i64 2, .bool true, .func (.func 164) #[pT gb 0] #[], .func (.func 164) #[pT gb 0] #[], .tuple #[], .int .i64 2, u23, u24, u25, u26, u27, u28, ud], []⟩ <| blk_n <| then_n <| sy_reg <| rg_q 9 [0, 1] <| pkq (.int .i64 3) <| pkq (.int .i64 3) <| ps_end <| then_n <| rd_step <| sy_sq (qc45_1 119592) (qc45_1 119593) <| sy_reg <| rg_q 6 [0] ?_
      refine pkq (.bool false) <| ps_end <| then_n <| sy_sq (qc45_1 239186) (qc45_1 239187) <| sy_n (.tmp 18) (qc45_1 478372) (qc45_1 478373) <| sy_exit 2 (by kernel_rfl) <| then_e <| then_e <| blk_e <| then_n <| sy_reg <| rg_q 10 [0, 1, 2, 3, 4, 5] <| ppq (pT gb 0) (exec_cast (v := pT gb (0 + 0 * 1)) (by simp) (exec_indexAt_arr 161 (.tmp 1) (.const (.int .i64 0)) (by kernel_rfl) gb 0 (by kernel_rfl) .i64 0 (by kernel_rfl) _ _ 1 Tryz.underlying161 (by kernel_rfl) (by omega))) <| ppq (uN (Kec.g (Kec.mixes (Kec.moves (Kec.columns (permn s r)))) 0)) (exec_ld 24 (.tmp 23) gb 0 Tryz.underlying24 (rc (h45) (Wz_get _ 0 (by rw [show (Kec.mixes (Kec.moves (Kec.columns (permn s r)))).length = 25 from Kec.len_mixes _]; omega)))) ?_
      refine pkq (uN (Kec.g Kec.K r)) <| ppq (uN ((Kec.g (Kec.mixes (Kec.moves (Kec.columns (permn s r)))) 0) ^^^ (Kec.g Kec.K r))) (exec_cast (xorU (Kec.g (Kec.mixes (Kec.moves (Kec.columns (permn s r)))) 0) (Kec.g Kec.K r) (Kec.ws_mixes (Kec.ws_moves (Kec.ws_columns (permn_ws s ws r))) _) (ws_K r)) (by kernel_rfl)) <| ppq (pT gb 0) (exec_cast (v := pT gb (0 + 0 * 1)) (by simp) (exec_indexAt_arr 161 (.tmp 1) (.const (.int .i64 0)) (by kernel_rfl) gb 0 (by kernel_rfl) .i64 0 (by kernel_rfl) _ _ 1 Tryz.underlying161 (by kernel_rfl) (by omega))) ?_
      obtain ⟨V49, eV49, kV49⟩ := cell_step V44 gb 0 (.int .u64 (((Kec.g (Kec.mixes (Kec.moves (Kec.columns (permn s r)))) 0) ^^^ (Kec.g Kec.K r) : Nat) : Int))
      have h50 : V49.heap[gb]? = some (.cells (Wz ((Kec.mixes (Kec.moves (Kec.columns (permn s r)))).set 0 ((Kec.g (Kec.mixes (Kec.moves (Kec.columns (permn s r)))) 0) ^^^ (Kec.g Kec.K r)))) 161 (0, 0)) := eV49 ▸ ((heap_setCell_same _ gb 0 _ _ (.int .u64 (((Kec.g (Kec.mixes (Kec.moves (Kec.columns (permn s r)))) 0) ^^^ (Kec.g Kec.K r) : Nat) : Int)) h45).trans (congrArg (fun c => some (Obj.cells c 161 (0, 0))) (show (Wz (Kec.mixes (Kec.moves (Kec.columns (permn s r)))) : Array Value).setIfInBounds 0 (.int .u64 (((Kec.g (Kec.mixes (Kec.moves (Kec.columns (permn s r)))) 0) ^^^ (Kec.g Kec.K r) : Nat) : Int)) = Wz ((Kec.mixes (Kec.moves (Kec.columns (permn s r)))).set 0 ((Kec.g (Kec.mixes (Kec.moves (Kec.columns (permn s r)))) 0) ^^^ (Kec.g Kec.K r))) from by rw [Wz_set])))
      refine pzq (w' := V49) (by rw [← eV49]; exact exec_store_cell 24 (.tmp 27) (.tmp 26) (by kernel_rfl) gb 0 (by kernel_rfl) (uN ((Kec.g (Kec.mixes (Kec.moves (Kec.columns (permn s r)))) 0) ^^^ (Kec.g Kec.K r))) (by kernel_rfl) (by kernel_rfl) (by kernel_rfl) (uN (Kec.g (Kec.mixes (Kec.moves (Kec.columns (permn s r)))) 0)) (rc (h45) (Wz_get _ 0 (by rw [show (Kec.mixes (Kec.moves (Kec.columns (permn s r)))).length = 25 from Kec.len_mixes _]; omega))) (frozen_of_row _ _ _ _ _ h45) (by kernel_rfl)) ?_
      clear eV49
      have h51 := kV49.bo h46 (by omega)
      have h52 := kV49.bo h47 (by omega)
      have K53 := K48.no kV49 (by omega)
      refine ps_end <| blk_n <| then_n <| sy_reg <| rg_q 11 [0, 1] <| ppq (iN (r + 1)) (exec_cast (congrArg (Value.int .i64) (wrapN (r + 1) (by omega))) (by kernel_rfl)) <| pkq (iN (r + 1)) <| ps_end <| then_n ?_
      refine ⟨⟨r + 1, (uN (Kec.g Kec.K r)), (.func (.func 164) #[pT gb 0] #[]), (.bool true), (uN (Kec.g Kec.K r)), (.agg #[.func (.func 162) #[pT gb 0] #[], .func (.func 163) #[pT gb 0] #[], .func (.func 164) #[pT gb 0] #[]]), (.int .i64 3), (.bool false), (.func (.func 164) #[pT gb 0] #[]), (.func (.func 164) #[pT gb 0] #[]), (.tuple #[]), (.int .i64 3), (pT gb 0), (uN (Kec.g (Kec.mixes (Kec.moves (Kec.columns (permn s r)))) 0)), (uN (Kec.g Kec.K r)), (uN ((Kec.g (Kec.mixes (Kec.moves (Kec.columns (permn s r)))) 0) ^^^ (Kec.g Kec.K r))), (pT gb 0), (iN (r + 1)), by kernel_rfl, by omega, h50.trans (by rw [permn_succ s r lt_r]; rfl), h51, h52, K53⟩, ?_⟩
      exact lt_meas (x := 24 - (r + 1)) (y := 24 - r) (by kernel_rfl) (by kernel_rfl) (by omega)
    · have eq_r : r = 24 := by omega
      have h54 : V29.heap[gb]? = some (.cells (Wz (Kec.perm s)) 161 (0, 0)) := h30.trans (by rw [eq_r, permn_all])
      refine sy_sq (qc45_1 232) (qc45_1 233) <| sy_reg <| rg_q 3 [0] <| ppq (.bool false) (dcf ((((r : Nat) : Int)) < ((24) : Int)) (by omega)) <| ps_end <| then_n <| sy_sq (qc45_1 466) (qc45_1 467) <| sy_n (.tmp 14) (qc45_1 932) (qc45_1 933) <| sy_exit 0 (by kernel_rfl) <| then_e <| then_e <| blk_e <| then_n <| sy_sq (qc45_1 30) (qc45_1 31) ?_
      refine sy_reg <| rg_q 12 [0, 1] <| ppq (.agg (Wz (Kec.perm s))) (exec_load_row 161 (.tmp 1) (by kernel_rfl) gb (by kernel_rfl) _ _ (0, 0) _ (h54) Tryz.underlying161 rfl (by rw [Wz_size, Kec.len_perm hs]; kernel_rfl)) ?_
      obtain ⟨V55, eV55, kV55⟩ := rowset_step V29 gr ((Wz (Kec.perm s)))
      have h56 : V55.heap[gr]? = some (.cells (Wz (Kec.perm s)) 161 (0, 0)) := eV55 ▸ setRow_heap _ _ _ _ _ _ h31
      refine pzq (w' := V55) (by rw [← eV55]; exact exec_store_row 161 (.tmp 2) (.tmp 29) (by kernel_rfl) gr ((Wz (Kec.perm s))) (by kernel_rfl) (by kernel_rfl) 161 (zr_u64_25) h31 (by rw [Wz_size, Kec.len_perm hs]; kernel_rfl) (by rw [Wz_size, Kec.len_perm hs]; rfl) (Wz_one _)) ?_
      clear eV55
      have K59 := K33.no kV55 (by omega)
      refine ps_end <| then_n <| sy_ret (by kernel_rfl) <| sy_out (.agg (Wz (Kec.perm s))) rfl (results_cell_row (p := 2) (ty := 161) (by kernel_rfl) _ _ gr 161 (Wz (Kec.perm s)) (0, 0) _ (by kernel_rfl) h56 Tryz.underlying161 rfl (by rw [Wz_size, Kec.len_perm hs]; kernel_rfl)) ?_
      exact ⟨rfl, K59⟩
end Go.Proofs.YtcbfnflnokoacaaGreat
namespace Go.Proofs.YtcbfnflnokoacaaGreat
set_option maxRecDepth 100000
set_option maxHeartbeats 4000000
open Go Go.RowKit Go.Own Go.Shelf
theorem word_snoc (l : List UInt8) (k : Nat) (hk : k < l.length) : Kec.word (l.take (k + 1)) = Kec.word (l.take k) + 256 ^ k * (l.getD k 0).toNat := by
  induction l generalizing k with
  | nil => simp at hk
  | cons x r ih =>
    cases k with
    | zero => simp [Kec.word]
    | succ k =>
      have := ih k (by simpa using hk)
      simp only [List.take_succ_cons, Kec.word, List.getD_cons_succ]
      rw [this, Nat.pow_succ, Nat.mul_add]
      have e : 256 ^ k * 256 * (r.getD k 0).toNat = 256 * (256 ^ k * (r.getD k 0).toNat) := by rw [Nat.mul_comm (256 ^ k) 256, Nat.mul_assoc]
      omega
theorem word_step (l : List UInt8) (k : Nat) (hk : k < l.length) (h8 : k < 8) : Kec.word (l.take k) ||| (((l.getD k 0).toNat <<< (8 * k)) % Kec.W) = Kec.word (l.take (k + 1)) := by
  have h1 := Kec.word_lt (l.take k)
  have h2 : (l.take k).length = k := by rw [List.length_take]; omega
  rw [h2] at h1
  have h3 := (l.getD k 0).toNat_lt
  have e1 : (256 : Nat) ^ k = 2 ^ (8 * k) := by rw [Nat.pow_mul]
  have h4 : (l.getD k 0).toNat <<< (8 * k) < Kec.W := by
    rw [Nat.shiftLeft_eq, Kec.W_eq]
    calc (l.getD k 0).toNat * 2 ^ (8 * k) < 256 * 2 ^ (8 * k) := Nat.mul_lt_mul_of_pos_right h3 (Nat.two_pow_pos _)
      _ = 2 ^ (8 * k + 8) := by rw [Nat.pow_add, Nat.mul_comm]
      _ ≤ 2 ^ 64 := Nat.pow_le_pow_right (by decide) (by omega)
  rw [Nat.mod_eq_of_lt h4, Nat.or_comm, ← Nat.shiftLeft_add_eq_or_of_lt (by rw [← e1]; exact h1), word_snoc l k hk, Nat.shiftLeft_eq, ← e1, Nat.mul_comm, Nat.add_comm]
theorem word_take_lt (l : List UInt8) (k : Nat) (h8 : k ≤ 8) : Kec.word (l.take k) < Kec.W := by
  have h1 := Kec.word_lt (l.take k)
  have h2 : (l.take k).length ≤ 8 := by rw [List.length_take]; omega
  have h3 : (256 : Nat) ^ (l.take k).length ≤ 256 ^ 8 := Nat.pow_le_pow_right (by decide) h2
  have h4 : (256 : Nat) ^ 8 = Kec.W := by decide
  omega
/-- The cells of a sponge: its words, its block, how many bytes of it are taken, how many came. -/
def Sp (s : List Nat) (blk : List UInt8) (n m : Nat) : Array Value := Wz s ++ (B blk).toArray ++ #[.int .i64 (n : Int), .int .i64 (m : Int)]
theorem Sp_size (s : List Nat) (blk : List UInt8) (n m : Nat) (hs : s.length = 25) (hb : blk.length = 136) : (Sp s blk n m).size = 163 := by simp [Sp, Wz_size, B_length, hs, hb]
theorem Sp_word (s : List Nat) (blk : List UInt8) (n m : Nat) (hs : s.length = 25) (i : Nat) (hi : i < 25) : (Sp s blk n m)[i]? = some (.int .u64 ((Kec.g s i : Nat) : Int)) := by
  unfold Sp
  rw [Array.append_assoc, Array.getElem?_append_left (by rw [Wz_size]; omega)]
  exact Wz_get s i (by omega)
theorem Sp_byte (s : List Nat) (blk : List UInt8) (n m : Nat) (hs : s.length = 25) (i : Nat) (x : UInt8) (hi : blk[i]? = some x) : (Sp s blk n m)[25 + i]? = some (.int .u8 ((x.toNat : Nat) : Int)) := by
  have hlt : i < blk.length := (List.getElem?_eq_some_iff.1 hi).1
  unfold Sp
  rw [Array.append_assoc, Array.getElem?_append_right (by rw [Wz_size]; omega), Wz_size, hs, Nat.add_sub_cancel_left, Array.getElem?_append_left (by simp [B_length]; omega)]
  simpa using B_get blk i x hi
theorem Sp_n (s : List Nat) (blk : List UInt8) (n m : Nat) (hs : s.length = 25) (hb : blk.length = 136) : (Sp s blk n m)[161]? = some (.int .i64 (n : Int)) := by
  unfold Sp
  rw [Array.getElem?_append_right (by simp [Wz_size, B_length, hs, hb])]
  simp [Wz_size, B_length, hs, hb]
theorem Sp_m (s : List Nat) (blk : List UInt8) (n m : Nat) (hs : s.length = 25) (hb : blk.length = 136) : (Sp s blk n m)[162]? = some (.int .i64 (m : Int)) := by
  unfold Sp
  rw [Array.getElem?_append_right (by simp [Wz_size, B_length, hs, hb])]
  simp [Wz_size, B_length, hs, hb]
theorem Sp_set_word (s : List Nat) (blk : List UInt8) (n m : Nat) (hs : s.length = 25) (i v : Nat) (hi : i < 25) : (Sp s blk n m).setIfInBounds i (.int .u64 ((v : Nat) : Int)) = Sp (s.set i v) blk n m := by
  unfold Sp
  rw [Array.append_assoc, Array.append_assoc, ← Wz_set]
  apply Array.toList_inj.1
  simp [List.set_append, Wz_size, hs, hi, Wz]
theorem Sp_set_n (s : List Nat) (blk : List UInt8) (n m k : Nat) (hs : s.length = 25) (hb : blk.length = 136) : (Sp s blk n m).setIfInBounds 161 (.int .i64 ((k : Nat) : Int)) = Sp s blk k m := by
  unfold Sp
  apply Array.toList_inj.1
  simp [List.set_append, Wz_size, B_length, hs, hb, Wz]
theorem Sp_set_m (s : List Nat) (blk : List UInt8) (n m k : Nat) (hs : s.length = 25) (hb : blk.length = 136) : (Sp s blk n m).setIfInBounds 162 (.int .i64 ((k : Nat) : Int)) = Sp s blk n k := by
  unfold Sp
  apply Array.toList_inj.1
  simp [List.set_append, Wz_size, B_length, hs, hb, Wz]
theorem Sp_set_byte (s : List Nat) (blk : List UInt8) (n m : Nat) (hs : s.length = 25) (i : Nat) (x : UInt8) (hi : i < blk.length) : (Sp s blk n m).setIfInBounds (25 + i) (.int .u8 ((x.toNat : Nat) : Int)) = Sp s (blk.set i x) n m := by
  unfold Sp
  apply Array.toList_inj.1
  have hl : (s.map fun (x : Nat) => Value.int .u64 (x : Int)).length = 25 := by simp [hs]
  simp only [Array.toList_setIfInBounds, Array.toList_append, Wz]
  rw [List.append_assoc, List.set_append, if_neg (by omega), hl, Nat.add_sub_cancel_left, List.set_append, if_pos (by simpa [B_length] using hi)]
  simp [B, List.map_set]
theorem Sp_seg_words (s s' : List Nat) (blk : List UInt8) (n m : Nat) (hs : s.length = 25) (hs' : s'.length = 25) : seg (Sp s blk n m) 0 (Wz s').toList = Sp s' blk n m := by
  apply Array.toList_inj.1
  have hl : (s.map fun (x : Nat) => Value.int .u64 (x : Int)).length = 25 := by simp [hs]
  have hl' : (s'.map fun (x : Nat) => Value.int .u64 (x : Int)).length = 25 := by simp [hs']
  simp only [seg, Sp, Wz, Array.toList_append, List.take_zero, List.nil_append, hl', Nat.zero_add]
  rw [List.append_assoc, List.drop_append_of_le_length (by omega), List.drop_of_length_le (by omega), List.nil_append, List.append_assoc]
theorem seg_lists (A B C L : List Value) (k : Nat) (hA : A.length = 25) (hk : k + L.length ≤ B.length) : (A ++ B ++ C).take (25 + k) ++ L ++ (A ++ B ++ C).drop (25 + k + L.length) = A ++ (B.take k ++ L ++ B.drop (k + L.length)) ++ C := by
  rw [List.append_assoc A B C, List.take_append, List.take_of_length_le (by omega), hA, Nat.add_sub_cancel_left, List.take_append_of_le_length (by omega)]
  rw [List.drop_append, List.drop_of_length_le (by omega), hA, List.nil_append, show 25 + k + L.length - 25 = k + L.length by omega, List.drop_append_of_le_length (by omega)]
  simp
theorem Sp_seg_bytes (s : List Nat) (blk l : List UInt8) (n m k : Nat) (hs : s.length = 25) (hk : k + l.length ≤ blk.length) : seg (Sp s blk n m) (25 + k) (B l) = Sp s (blk.take k ++ l ++ blk.drop (k + l.length)) n m := by
  apply Array.toList_inj.1
  have := seg_lists (s.map fun (x : Nat) => Value.int .u64 (x : Int)) (B blk) [.int .i64 (n : Int), .int .i64 (m : Int)] (B l) k (by simp [hs]) (by rw [B_length, B_length]; exact hk)
  simp only [seg, Sp, Wz, Array.toList_append, B_append, ← B_take, ← B_drop]
  rw [B_length] at this
  simpa [B_length] using this
theorem Sp_load (s : List Nat) (blk : List UInt8) (n m : Nat) (hs : s.length = 25) : ∀ j v, (Wz s).toList[j]? = some v → (Sp s blk n m)[0 + j]? = some v := by
  intro j v hj
  have hlt : j < 25 := by have := (List.getElem?_eq_some_iff.1 hj).1; simp [Wz] at this; omega
  rw [Nat.zero_add]
  unfold Sp
  rw [Array.append_assoc, Array.getElem?_append_left (by rw [Wz_size]; omega)]
  simpa using hj
/-- The block of a sponge as bytes. -/
theorem Sp_bytes {w : World} {g : Nat} {T : TypeId} {s : List Nat} {blk : List UInt8} {n m : Nat} (h : w.heap[g]? = some (.cells (Sp s blk n m) T (0, 0))) (hs : s.length = 25) (hb : blk.length = 136) (k : Nat) (hk : k < 136) :
    BytesAt w (.slice (some ⟨g, 25 + k, none⟩) (136 - k) (136 - k)) (blk.drop k) := by
  refine ⟨⟨_, _, by rw [List.length_drop, hb], by rw [List.length_drop]; omega, by unfold maxLen; omega, fun h => by cases h⟩, fun i x hi => ?_⟩
  rw [List.getElem?_drop] at hi
  refine ⟨g, 25 + k, _, by rw [List.length_drop, hb], lt_of_block h, ?_⟩
  rw [Nat.add_assoc]
  exact (cell_of_row _ _ _ _ _ _ h).trans (Sp_byte s blk n m hs (k + i) x hi)
end Go.Proofs.YtcbfnflnokoacaaGreat
