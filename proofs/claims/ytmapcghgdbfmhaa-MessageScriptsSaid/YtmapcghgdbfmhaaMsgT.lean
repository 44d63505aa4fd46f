/-
  Lists of byte slices: that come in, copied, compared (printed by msg13.py). Conditions: none.
-/
import Derived.Test.YtmapcghgdbfmhaaKitB
import Derived.Test.YtmapcghgdbfmhaaLaw
import Derived.Test.YtmapcghgdbfmhaaSymD
import Derived.Test.YtmapcghgdbfmhaaSeg
namespace Go.Proofs.Ytmapcghgdbfmhaa
open Go Go.RowKit Go.Own Go.ChangeShapes Go.WideShapes Go.ChangeAt Go.WideElems
/-- A slice of byte slices: its header, its cells, and what each of them holds. -/
structure ListsAt (w : World) (v : Value) (us : List Value) (ls : List (List UInt8)) : Prop where
  form : ∃ A cap, v = .slice A ls.length cap ∧ ls.length ≤ cap ∧ cap ≤ maxLen ∧ (A = none → cap = 0)
  len : us.length = ls.length
  at_ : ∀ (k : Nat) (u : Value), us[k]? = some u → ∃ b o cap, v = .slice (some ⟨b, o, none⟩) ls.length cap ∧ b < w.heap.size ∧ w.cell? ⟨b, o + k, none⟩ = some u
  bytes : ∀ (k : Nat) (u : Value) (l : List UInt8), us[k]? = some u → ls[k]? = some l → BytesAt w u l
theorem ListsAt.keepsN {w w' : World} {v : Value} {us : List Value} {ls : List (List UInt8)} (h : ListsAt w v us ls) (k : Keeps Nob w w') : ListsAt w' v us ls :=
  ⟨h.form, h.len, fun i u hi => by
    obtain ⟨b, o, cap, e, hb, hc⟩ := h.at_ i u hi
    exact ⟨b, o, cap, e, Nat.lt_of_lt_of_le hb k.size, (k.cell hb (fun x => x)).trans hc⟩,
   fun i u l hi hl => (h.bytes i u l hi hl).keepsN k⟩
theorem open_bytes1 {H : Type} {enc : TypeId × Value → H} {W : World} {sp : Nat → Bool} {held : Bool} {n : Nat} {u : Value} {z : DataW H × List MemPlace}
    (h : DataW.trod enc Try.prog W 0 sp held n 22 [u] = some z) : ∃ l, BytesAt W u l := by
  obtain ⟨d, ps⟩ := z
  have hu : ∃ a len cap, u = .slice a len cap := by
    rcases Go.Deep.open_slice Try.underlying22 h with ⟨h0, _⟩ | ⟨a, len, cap, m, n, D, Pl, hcs, _⟩
    · exact ⟨none, 0, 0, by simpa using h0⟩
    · exact ⟨a, len, cap, by simpa using hcs⟩
  obtain ⟨a, len, cap, rfl⟩ := hu
  exact open_bytesAt (P := Try.prog) (v := .slice a len cap) (d := d) (ps := ps) Try.underlying22 Try.underlying5 (by kernel_rfl) ⟨n, h⟩ ⟨_, _, _, rfl⟩
theorem open_lists {H : Type} {enc : TypeId × Value → H} {W : World} {sp : Nat → Bool} {held : Bool} {v : Value} {d : DataW H} {ps : List MemPlace} (h : DataW.Trod enc Try.prog W 0 sp held 54 v d ps) (hv : ∃ a len cap, v = .slice a len cap) : ∃ us ls, ListsAt W v us ls := by
  have hC : Try.prog.cellsOf 22 = 1 := by kernel_rfl
  obtain ⟨a, len, cap, rfl, hl, hm, hnz, hi⟩ := open_elemsN Try.underlying54 (by rw [hC]; omega) h hv
  rw [hC] at hi
  obtain ⟨q, hql, hq⟩ := list_of (fun i (x : Value × List UInt8) => BytesAt W x.1 x.2 ∧ ∃ b o, a = some ⟨b, o, none⟩ ∧ W.cell? ⟨b, o + i, none⟩ = some x.1) len (fun i hlt => by
    obtain ⟨b, o, cs, n, y, ha, hcl, hcell, ht'⟩ := hi i hlt
    match cs, hcl, hcell, ht' with
    | [u], _, hcell, ht' =>
      obtain ⟨l, hb⟩ := open_bytes1 ht'
      exact ⟨(u, l), hb, b, o, ha, by simpa using hcell 0 (by omega)⟩)
  subst hql
  refine ⟨q.map (·.1), q.map (·.2), ⟨a, cap, by rw [List.length_map], by rw [List.length_map]; exact hl, hm, hnz⟩, by simp, fun k u hk => ?_, fun k u l hk hk2 => ?_⟩
  · obtain ⟨x, hx, rfl⟩ : ∃ x, q[k]? = some x ∧ x.1 = u := by simpa [List.getElem?_map] using hk
    obtain ⟨_, b, o, rfl, hc⟩ := hq k x hx
    exact ⟨b, o, cap, by rw [List.length_map], World.block_lt_of_cell? W _ hc, hc⟩
  · obtain ⟨x, hx, rfl⟩ : ∃ x, q[k]? = some x ∧ x.1 = u := by simpa [List.getElem?_map] using hk
    obtain ⟨y, hy, rfl⟩ : ∃ y, q[k]? = some y ∧ y.2 = l := by simpa [List.getElem?_map] using hk2
    rw [hx] at hy; cases hy
    exact (hq k x hx).1
theorem exec_len_bytes {P : Program} {o : Oper} {ρ : Operand → Value} {w w0 : World} (x : Operand) (t e : TypeId) (ho : o.op = .call { callee := .builtin .len, args := #[x], argTypes := #[t] }) (ht : P.underlying t = some (.slice e)) {v : Value} (hx : ρ x = v) {l : List UInt8} (hv : BytesAt w0 v l) :
    (execOp ρ o).run P w = .ok (.value (.int .i64 (l.length : Int))) w := by
  obtain ⟨A, cap, rfl, _⟩ := hv.form
  exact exec_len x t e ho ht A l.length cap hx
theorem exec_len_lists {P : Program} {o : Oper} {ρ : Operand → Value} {w w0 : World} (x : Operand) (t e : TypeId) (ho : o.op = .call { callee := .builtin .len, args := #[x], argTypes := #[t] }) (ht : P.underlying t = some (.slice e)) {v : Value} (hx : ρ x = v) {us : List Value} {ls : List (List UInt8)} (hv : ListsAt w0 v us ls) :
    (execOp ρ o).run P w = .ok (.value (.int .i64 (ls.length : Int))) w := by
  obtain ⟨A, cap, rfl, _⟩ := hv.form
  exact exec_len x t e ho ht A ls.length cap hx

theorem ListsAt.open_ {w : World} {A : Option Addr} {cap : Nat} {us : List Value} {ls : List (List UInt8)} (h : ListsAt w (.slice A ls.length cap) us ls) (k : Nat) (hk : k < ls.length) :
    ∃ u l b o c, us[k]? = some u ∧ ls[k]? = some l ∧ Value.slice A ls.length cap = .slice (some ⟨b, o, none⟩) ls.length c := by
  obtain ⟨u, hu⟩ : ∃ u, us[k]? = some u := ⟨_, List.getElem?_eq_getElem (by rw [h.len]; exact hk)⟩
  obtain ⟨b, o, c, e, _, _⟩ := h.at_ k u hu
  exact ⟨u, _, b, o, c, hu, List.getElem?_eq_getElem hk, e⟩
theorem ListsAt.cell {w : World} {v : Value} {us : List Value} {ls : List (List UInt8)} (h : ListsAt w v us ls) {k : Nat} {u : Value} (hu : us[k]? = some u) {b o n c : Nat} (hv : v = .slice (some ⟨b, o, none⟩) n c) : w.cell? ⟨b, o + k, none⟩ = some u := by
  obtain ⟨b', o', c', e, _, hc⟩ := h.at_ k u hu
  rw [hv] at e
  simp only [Value.slice.injEq, Option.some.injEq, Addr.mk.injEq, and_true] at e
  obtain ⟨⟨rfl, rfl⟩, _, _⟩ := e
  exact hc
theorem ListsAt.keepsB {M : Nat → Prop} {w0 w w' : World} {v : Value} {us : List Value} {ls : List (List UInt8)} (h0 : ListsAt w0 v us ls) (h : ListsAt w v us ls) (k : Keeps M w w') (hM : ∀ j, j < w0.heap.size → ¬ M j) : ListsAt w' v us ls :=
  ⟨h.form, h.len, fun i u hi => by
    obtain ⟨b0, o0, c0, e0, hb0, _⟩ := h0.at_ i u hi
    obtain ⟨b, o, cap, e, hb, hc⟩ := h.at_ i u hi
    have e1 := e0.symm.trans e
    simp only [Value.slice.injEq, Option.some.injEq, Addr.mk.injEq, and_true, true_and] at e1
    obtain ⟨⟨rfl, rfl⟩, _⟩ := e1
    exact ⟨_, _, cap, e, Nat.lt_of_lt_of_le hb k.size, (k.cell hb (hM _ hb0)).trans hc⟩,
   fun i u l hi hl => (h.bytes i u l hi hl).keeps0 k (fun hn j hj => hM j ((h0.bytes i u l hi hl).blockLt hn j hj))⟩
theorem ListsAt.blockLt {w : World} {v : Value} {us : List Value} {ls : List (List UInt8)} (h : ListsAt w v us ls) {k : Nat} {u : Value} {l : List UInt8} (hu : us[k]? = some u) (hl : ls[k]? = some l) (hn : 0 < l.length) : ∀ j, u.ownBlock = some j → j < w.heap.size := (h.bytes k u l hu hl).blockLt hn
theorem ListsAt.sizes {w : World} {v : Value} {us : List Value} {ls : List (List UInt8)} (h : ListsAt w v us ls) {k : Nat} {l : List UInt8} (hl : ls[k]? = some l) : l.length ≤ 9223372036854775807 := by
  obtain ⟨u, hu⟩ : ∃ u, us[k]? = some u := ⟨_, List.getElem?_eq_getElem (by rw [h.len]; exact (List.getElem?_eq_some_iff.1 hl).1)⟩
  exact (h.bytes k u l hu hl).length_le
/-- How many bytes the first lists have. -/
def tot (ls : List (List UInt8)) (i : Nat) : Nat := ((ls.take i).map List.length).sum
theorem tot_succ {ls : List (List UInt8)} {i : Nat} {l : List UInt8} (h : ls[i]? = some l) : tot ls (i + 1) = tot ls i + l.length := by
  unfold tot; rw [List.take_add_one, h]; simp
theorem tot_mono (ls : List (List UInt8)) {i j : Nat} (h : i ≤ j) : tot ls i ≤ tot ls j := by
  induction j with
  | zero => rw [Nat.le_zero.1 h]; exact Nat.le_refl _
  | succ j ih =>
    rcases Nat.eq_or_lt_of_le h with rfl | h
    · exact Nat.le_refl _
    · refine Nat.le_trans (ih (by omega)) ?_
      cases e : ls[j]? with
      | none => unfold tot; rw [List.take_of_length_le (by simpa using e), List.take_of_length_le (by have := List.getElem?_eq_none_iff.1 e; omega)]; exact Nat.le_refl _
      | some l => rw [tot_succ e]; omega
def tall (ls : List (List UInt8)) : Nat := tot ls ls.length
theorem tot_le (ls : List (List UInt8)) (i : Nat) : tot ls i ≤ tall ls := by
  rcases Nat.lt_or_ge i ls.length with h | h
  · exact tot_mono ls (by omega)
  · unfold tall tot; rw [List.take_of_length_le h, List.take_length]; exact Nat.le_refl _
theorem len_le_tall {ls : List (List UInt8)} {i : Nat} {l : List UInt8} (h : ls[i]? = some l) : l.length ≤ tall ls := by
  have := tot_succ h; have := tot_le ls (i + 1); omega
/-- Copies of lists, each in a block of its own. -/
def Copied (w : World) (N : Nat) (xs : List Value) (ls : List (List UInt8)) : Prop := ∀ (k : Nat) (u : Value), xs[k]? = some u → ∃ l, ls[k]? = some l ∧ Row w 5 1 u l.length (B l) ∧ NewFrom N u
theorem row_other {w w' : World} {t e : TypeId} {n m : Nat} {u v : Value} {xs ys : List Value} (h : Row w t 1 u n xs) (k : Keeps (fun j => v.ownBlock = some j) w w') (hv : Row w e 1 v m ys) (hne : t ≠ e) : Row w' t 1 u n xs :=
  h.keeps k fun j hj hj2 => by
    obtain ⟨c1, h1⟩ := h.elem hj; obtain ⟨c2, h2⟩ := Row.elem hv hj2
    rw [h1] at h2; simp only [Option.some.injEq, Obj.cells.injEq] at h2
    exact hne h2.2.1
theorem Copied.keepsN {w w' : World} {N : Nat} {xs : List Value} {ls : List (List UInt8)} (h : Copied w N xs ls) (k : Keeps Nob w w') : Copied w' N xs ls := fun i u hi => by
  obtain ⟨l, hl, hr, hn⟩ := h i u hi; exact ⟨l, hl, hr.keeps k (fun _ _ x => x), hn⟩
theorem Copied.keepsRow {w w' : World} {N m : Nat} {xs ys : List Value} {v : Value} {ls : List (List UInt8)} (h : Copied w N xs ls) (k : Keeps (fun j => v.ownBlock = some j) w w') (hv : Row w 22 1 v m ys) : Copied w' N xs ls := fun i u hi => by
  obtain ⟨l, hl, hr, hn⟩ := h i u hi; exact ⟨l, hl, row_other hr k hv (by decide), hn⟩
theorem Copied.snoc {w : World} {N i : Nat} {xs : List Value} {u : Value} {l : List UInt8} {ls : List (List UInt8)} (h : Copied w N xs ls) (hi : xs.length = i) (hl : ls[i]? = some l) (hr : Row w 5 1 u l.length (B l)) (hn : NewFrom N u) : Copied w N (xs ++ [u]) ls := fun k x hk => by
  rw [List.getElem?_append] at hk
  split at hk
  · exact h k x hk
  · have : k - xs.length = 0 := by
      have := (List.getElem?_eq_some_iff.1 hk).1; simp at this; omega
    rw [this] at hk; simp at hk; subst hk
    exact ⟨l, by rw [show k = i by omega]; exact hl, hr, hn⟩
theorem Copied.lists {w : World} {N : Nat} {xs : List Value} {v : Value} {ls : List (List UInt8)} (h : Copied w N xs ls) (hr : Row w 22 1 v ls.length xs) : ListsAt w v xs ls := by
  have hx : xs.length = ls.length := by have := hr.1; omega
  refine ⟨?_, hx, fun k u hu => ?_, fun k u l hu hl => ?_⟩
  · rcases hr.2 with ⟨rfl, h0⟩ | ⟨g, cap, cur, rfl, _, _, hn, hc, _⟩
    · exact ⟨none, 0, by rw [h0], by omega, by unfold maxLen; omega, fun _ => rfl⟩
    · exact ⟨_, _, rfl, hn, hc, fun h => by cases h⟩
  · rcases hr.2 with ⟨rfl, h0⟩ | ⟨g, cap, cur, rfl, _, hg, hn, hc, _⟩
    · have := (List.getElem?_eq_some_iff.1 hu).1; omega
    · refine ⟨g, 0, cap, rfl, (Array.getElem?_eq_some_iff.1 hg).1, ?_⟩
      have := World.ownsRow.cells hr (g := g) rfl k u hu
      simpa [Addr.add_lit] using this
  · obtain ⟨l', hl', hr', _⟩ := h k u hu
    rw [hl] at hl'; cases hl'; exact Row.bytes hr'
theorem ListsAt.src {w : World} {v : Value} {us : List Value} {ls : List (List UInt8)} (h : ListsAt w v us ls) : Src w 1 v ls.length us := by
  refine ⟨by rw [h.len]; omega, fun u hu => ?_, ?_⟩
  · obtain ⟨k, hk⟩ := List.getElem?_of_mem hu
    obtain ⟨l, hl⟩ : ∃ l, ls[k]? = some l := ⟨_, List.getElem?_eq_getElem (by rw [← h.len]; exact (List.getElem?_eq_some_iff.1 hk).1)⟩
    obtain ⟨A, c, rfl⟩ := (h.bytes k u l hk hl).len
    rfl
  · obtain ⟨A, cap, rfl, h1, h2, h3⟩ := h.form
    cases A with
    | none => have := h3 rfl; subst this; exact .inl ⟨by rw [show ls.length = 0 by omega], by omega⟩
    | some a =>
      refine .inr ⟨a, cap, rfl, fun j u hu => ?_⟩
      obtain ⟨b, o, c, e, _, hc⟩ := h.at_ j u hu
      simp only [Value.slice.injEq, Option.some.injEq] at e
      obtain ⟨rfl, _, _⟩ := e
      rw [Addr.add_lit]; exact hc
theorem row_lists {w : World} {n : Nat} {v : Value} {xs : List Value} {ls : List (List UInt8)} (hr : Row w 22 1 v n xs) (hn : ls.length = n) (hb : ∀ (k : Nat) (u : Value) (l : List UInt8), xs[k]? = some u → ls[k]? = some l → BytesAt w u l) : ListsAt w v xs ls := by
  subst hn
  have hx : xs.length = ls.length := by have := hr.1; omega
  refine ⟨?_, hx, fun k u hu => ?_, hb⟩
  · rcases hr.2 with ⟨rfl, h0⟩ | ⟨g, cap, cur, rfl, _, _, hn, hc, _⟩
    · exact ⟨none, 0, by rw [h0], by omega, by unfold maxLen; omega, fun _ => rfl⟩
    · exact ⟨_, _, rfl, hn, hc, fun h => by cases h⟩
  · rcases hr.2 with ⟨rfl, h0⟩ | ⟨g, cap, cur, rfl, _, hg, hn, hc, _⟩
    · have := (List.getElem?_eq_some_iff.1 hu).1; omega
    · refine ⟨g, 0, cap, rfl, (Array.getElem?_eq_some_iff.1 hg).1, ?_⟩
      have := World.ownsRow.cells hr (g := g) rfl k u hu
      simpa [Addr.add_lit] using this
theorem cons_lists {w : World} {v u lv : Value} {us : List Value} {l : List UInt8} {ls : List (List UInt8)} (hr : Row w 22 1 v (1 + ls.length) ([u] ++ us)) (hu : BytesAt w u l) (hls : ListsAt w lv us ls) : ListsAt w v ([u] ++ us) (l :: ls) :=
  row_lists hr (by simp; omega) fun k x y hx hy => by
    cases k with
    | zero => simp at hx hy; subst hx; subst hy; exact hu
    | succ k => exact hls.bytes k x y (by simpa using hx) (by simpa using hy)

theorem sameBytes_same {w : World} {a b : Value} {l m : List UInt8} (ha : BytesAt w a l) (hb : BytesAt w b m) (he : l = m) : Calls Try.prog 16 #[a, b] w fun e w' => e = .returned (.bool true) ∧ w = w' := by
  have := sameBytes_ok a b l m w ha hb
  rwa [show (l == m) = true by simpa using he] at this
noncomputable def part_kSameLists (n : Nat) : Code := partOf Try.f31 n
noncomputable abbrev o_kSameLists (n k : Nat) : Oper := (opsAt (part_kSameLists n)).getD k default
set_option maxRecDepth 100000 in
set_option maxHeartbeats 4000000 in
theorem kSameLists_ok (A A2 : Option Addr) (cap cap2 : Nat) (us us2 : List Value) (ls : List (List UInt8)) (w : World) (h0 : ListsAt w (.slice A ls.length cap) us ls) (h1 : ListsAt w (.slice A2 ls.length cap2) us2 ls) :
    Calls Try.prog 31 #[.slice A ls.length cap, .slice A2 ls.length cap2] w (fun e w' => e = .returned (.bool true) ∧ Keeps Nob w w') := by
  have hmax : ls.length ≤ 9223372036854775807 := by obtain ⟨_, _, e, h1, h2, _⟩ := h0.form; simp only [Value.slice.injEq] at e; obtain ⟨_, _, rfl⟩ := e; unfold maxLen at h2; omega
  have K0 : Keeps Nob w w := Keeps.refl _ _
  refine sy_enter (part_kSameLists 1) ⟨#[.slice A ls.length cap, .slice A2 ls.length cap2, undef, undef, undef, undef, undef, undef, undef, undef, undef, undef, undef, undef, undef, undef, undef, undef, undef, undef, undef, undef, undef, undef, undef, undef, undef, undef, undef, undef, undef], []⟩ Try.func31 (by kernel_rfl) (by kernel_rfl) ?_
  refine sy_sq (part_kSameLists 2) (part_kSameLists 3) ?_
  refine sy_reg ?_
  refine rg_plain 0 (opsAt (part_kSameLists 2)) [0] (by kernel_rfl) (by kernel_rfl) ?_
  refine ps_k (o_kSameLists 2 0) (.bool false) ?_
  refine ps_end ?_
  refine then_n ?_
  refine sy_sq (part_kSameLists 6) (part_kSameLists 7) ?_
  refine sy_reg ?_
  refine rg_plain 1 (opsAt (part_kSameLists 6)) [0, 1, 2, 3, 4, 5] (by kernel_rfl) (by kernel_rfl) ?_
  refine ps_k (o_kSameLists 6 0) (.slice A ls.length cap) ?_
  refine ps_p (o_kSameLists 6 1) (iN ls.length) (exec_len (.tmp 7) 54 _ (by kernel_rfl) Try.underlying54 A ls.length cap (by kernel_rfl)) ?_
  refine ps_k (o_kSameLists 6 2) (.slice A2 ls.length cap2) ?_
  refine ps_p (o_kSameLists 6 3) (iN ls.length) (exec_len (.tmp 9) 54 _ (by kernel_rfl) Try.underlying54 A2 ls.length cap2 (by kernel_rfl)) ?_
  refine ps_p (o_kSameLists 6 4) (.bool true) (exec_cast (congrArg Value.bool (show (((((ls.length : Nat) : Int)) == (((ls.length : Nat) : Int)))) = true from by simp)) (by kernel_rfl)) ?_
  refine ps_k (o_kSameLists 6 5) (.bool true) ?_
  refine ps_end ?_
  refine then_n ?_
  refine sy_sq (part_kSameLists 14) (part_kSameLists 15) ?_
  refine sy_sq (part_kSameLists 28) (part_kSameLists 29) ?_
  refine sy_reg ?_
  refine rg_plain 2 (opsAt (part_kSameLists 28)) [0] (by kernel_rfl) (by kernel_rfl) ?_
  refine ps_k (o_kSameLists 28 0) (.int .i64 0) ?_
  refine ps_end ?_
  refine then_n ?_
  refine sy_bk 0 (part_kSameLists 58) ?_
  refine sy_loop (part_kSameLists 116) (fun a V => ∃ (i : Nat) (u12 u13 u14 u15 u16 u17 u18 u19 u20 u21 u22 u23 u24 u25 u26 u27 u28 u29 : Value), (a = ⟨#[.slice A ls.length cap, .slice A2 ls.length cap2, undef, undef, .bool false, .bool true, iN i, .slice A ls.length cap, iN ls.length, .slice A2 ls.length cap2, iN ls.length, .bool true, u12, u13, u14, u15, u16, u17, u18, u19, u20, u21, u22, u23, u24, u25, u26, u27, u28, u29, undef], []⟩) ∧ (i ≤ ls.length) ∧ (ListsAt V (.slice A ls.length cap) us ls) ∧ (ListsAt V (.slice A2 ls.length cap2) us2 ls) ∧ (Keeps Nob w V)) (fun a _ => ls.length - (intOf (a.tmps.getD 6 undef)).toNat) (by kernel_rfl) ?_ ?_
  · exact ⟨0, undef, undef, undef, undef, undef, undef, undef, undef, undef, undef, undef, undef, undef, undef, undef, undef, undef, undef, by kernel_rfl, by omega, h0, h1, K0⟩
  · rintro a V1 ⟨i, u12, u13, u14, u15, u16, u17, u18, u19, u20, u21, u22, u23, u24, u25, u26, u27, u28, u29, rfl, hi, h2, h3, K4⟩
    by_cases lt_i : i < ls.length
    · obtain ⟨u, l, b_, o_, c_, hu, hl, hv⟩ := h0.open_ i lt_i
      obtain ⟨u2, l2, b_2, o_2, c_2, hu2, hl2, hv2⟩ := h1.open_ i lt_i
      refine sy_sq (part_kSameLists 232) (part_kSameLists 233) ?_
      refine sy_sq (part_kSameLists 464) (part_kSameLists 465) ?_
      refine sy_reg ?_
      refine rg_plain 3 (opsAt (part_kSameLists 464)) [0, 1, 2, 3, 4, 5, 6] (by kernel_rfl) (by kernel_rfl) ?_
      refine ps_k (o_kSameLists 464 0) (.bool true) ?_
      refine ps_k (o_kSameLists 464 1) (.bool true) ?_
      refine ps_k (o_kSameLists 464 2) (iN i) ?_
      refine ps_k (o_kSameLists 464 3) (.slice A ls.length cap) ?_
      refine ps_p (o_kSameLists 464 4) (iN ls.length) (exec_len (.tmp 15) 54 _ (by kernel_rfl) Try.underlying54 A ls.length cap (by kernel_rfl)) ?_
      refine ps_p (o_kSameLists 464 5) (.bool true) (dct ((((i : Nat) : Int)) < (((ls.length : Nat) : Int))) (by omega)) ?_
      refine ps_k (o_kSameLists 464 6) (.bool true) ?_
      refine ps_end ?_
      refine then_n ?_
      refine sy_ys (.tmp 18) (part_kSameLists 930) (part_kSameLists 931) ?_
      refine sy_sk ?_
      refine then_n ?_
      refine sy_sq (part_kSameLists 466) (part_kSameLists 467) ?_
      refine sy_bk 1 (part_kSameLists 932) ?_
      refine sy_reg ?_
      refine rg_still 5 9 (opsAt (part_kSameLists 932)) [o_kSameLists 932 0, o_kSameLists 932 1, o_kSameLists 932 2, o_kSameLists 932 3, o_kSameLists 932 4, o_kSameLists 932 5, o_kSameLists 932 6, o_kSameLists 932 7, o_kSameLists 932 8] [o_kSameLists 932 9] (by kernel_rfl) (by kernel_rfl) (by kernel_rfl) (by kernel_rfl) (by kernel_rfl) ?_
      obtain ⟨V6, eV6, kV6⟩ := drew_step V1
      rw [eV6]
      clear eV6
      have h7 : ListsAt V6 (.slice A ls.length cap) us ls := h2.keepsN kV6
      have h8 : ListsAt V6 (.slice A2 ls.length cap2) us2 ls := h3.keepsN kV6
      have K9 := K4.nn kV6
      refine st_k (o_kSameLists 932 0) (.slice A ls.length cap) ?_
      refine st_k (o_kSameLists 932 1) (iN i) ?_
      refine st_p (o_kSameLists 932 2) (pT b_ (o_ + i)) (exec_cast (v := pT b_ (o_ + i * 1)) (by simp) (exec_indexAt_slice 54 (.tmp 21) (.tmp 22) (by kernel_rfl) b_ o_ ls.length c_ (Eq.trans (b := .slice A ls.length cap) (by kernel_rfl) hv) .i64 i (by kernel_rfl) _ 1 Try.underlying54 (by kernel_rfl) (by omega))) ?_
      refine st_p (o_kSameLists 932 3) (u) (exec_ld 22 (.tmp 23) b_ (o_ + i) Try.underlying22 (ListsAt.cell h7 hu hv)) ?_
      refine st_k (o_kSameLists 932 4) (.slice A2 ls.length cap2) ?_
      refine st_k (o_kSameLists 932 5) (iN i) ?_
      refine st_p (o_kSameLists 932 6) (pT b_2 (o_2 + i)) (exec_cast (v := pT b_2 (o_2 + i * 1)) (by simp) (exec_indexAt_slice 54 (.tmp 25) (.tmp 26) (by kernel_rfl) b_2 o_2 ls.length c_2 (Eq.trans (b := .slice A2 ls.length cap2) (by kernel_rfl) hv2) .i64 i (by kernel_rfl) _ 1 Try.underlying54 (by kernel_rfl) (by omega))) ?_
      refine st_p (o_kSameLists 932 7) (u2) (exec_ld 22 (.tmp 27) b_2 (o_2 + i) Try.underlying22 (ListsAt.cell h8 hu2 hv2)) ?_
      refine st_c (o_kSameLists 932 8) 16 #[u, u2] (.bool true) Try.func16 (sameBytes_same (ListsAt.bytes h7 _ _ _ hu hl) (ListsAt.bytes h8 _ _ _ hu2 hl2) (by rw [hl] at hl2; exact Option.some.inj hl2)) ?_
      refine st_end ?_
      refine ls_run (o_kSameLists 932 9) (.bool true) (w' := V6) (by kernel_rfl) (by kernel_rfl) ?_
      refine ls_end ?_
      refine blk_n ?_
      refine then_n ?_
      refine sy_reg ?_
      refine rg_plain 4 (opsAt (part_kSameLists 467)) [0, 1, 2] (by kernel_rfl) (by kernel_rfl) ?_
      refine ps_k (o_kSameLists 467 0) (iN i) ?_
      refine ps_p (o_kSameLists 467 1) (iN (i + 1)) (exec_cast (congrArg (Value.int .i64) (wrapN (i + 1) (by omega))) (by kernel_rfl)) ?_
      refine ps_k (o_kSameLists 467 2) (iN (i + 1)) ?_
      refine ps_end ?_
      refine then_n ?_
      refine ⟨⟨i + 1, (.bool true), (.bool true), (iN i), (.slice A ls.length cap), (iN ls.length), (.bool true), (.bool true), (iN i), (iN (i + 1)), (.slice A ls.length cap), (iN i), (pT b_ (o_ + i)), u, (.slice A2 ls.length cap2), (iN i), (pT b_2 (o_2 + i)), u2, (.bool true), by kernel_rfl, by omega, h7, h8, K9⟩, ?_⟩
      exact lt_meas (x := ls.length - (i + 1)) (y := ls.length - i) (by kernel_rfl) (by kernel_rfl) (by omega)
    · have eq_i : i = ls.length := by omega
      refine sy_sq (part_kSameLists 232) (part_kSameLists 233) ?_
      refine sy_sq (part_kSameLists 464) (part_kSameLists 465) ?_
      refine sy_reg ?_
      refine rg_plain 3 (opsAt (part_kSameLists 464)) [0, 1, 2, 3, 4, 5, 6] (by kernel_rfl) (by kernel_rfl) ?_
      refine ps_k (o_kSameLists 464 0) (.bool true) ?_
      refine ps_k (o_kSameLists 464 1) (.bool true) ?_
      refine ps_k (o_kSameLists 464 2) (iN i) ?_
      refine ps_k (o_kSameLists 464 3) (.slice A ls.length cap) ?_
      refine ps_p (o_kSameLists 464 4) (iN ls.length) (exec_len (.tmp 15) 54 _ (by kernel_rfl) Try.underlying54 A ls.length cap (by kernel_rfl)) ?_
      refine ps_p (o_kSameLists 464 5) (.bool false) (dcf ((((i : Nat) : Int)) < (((ls.length : Nat) : Int))) (by omega)) ?_
      refine ps_k (o_kSameLists 464 6) (.bool false) ?_
      refine ps_end ?_
      refine then_n ?_
      refine sy_n (.tmp 18) (part_kSameLists 930) (part_kSameLists 931) ?_
      refine sy_exit 0 (by kernel_rfl) ?_
      refine then_e ?_
      refine then_e ?_
      refine blk_e ?_
      refine then_n ?_
      refine sy_sq (part_kSameLists 30) (part_kSameLists 31) ?_
      refine sy_reg ?_
      refine rg_plain 6 (opsAt (part_kSameLists 30)) [0, 1] (by kernel_rfl) (by kernel_rfl) ?_
      refine ps_k (o_kSameLists 30 0) (.bool true) ?_
      refine ps_k (o_kSameLists 30 1) (.bool true) ?_
      refine ps_end ?_
      refine then_n ?_
      refine sy_ret (by kernel_rfl) ?_
      refine sy_out (.bool true) rfl (by kernel_rfl) ?_
      exact ⟨rfl, K4⟩
theorem bytes_info0 : (Try.prog.info? 22).map (fun i => (i.zero, i.size, i.bytes)) = some (some (.slice none 0 0), 1, 24) := by kernel_rfl
noncomputable def part_kCopyLists (n : Nat) : Code := partOf Try.f27 n
noncomputable abbrev o_kCopyLists (n k : Nat) : Oper := (opsAt (part_kCopyLists n)).getD k default
set_option maxRecDepth 100000 in
set_option maxHeartbeats 4000000 in
theorem kCopyLists_ok (A : Option Addr) (cap : Nat) (us : List Value) (ls : List (List UInt8)) (w : World) (h0 : ListsAt w (.slice A ls.length cap) us ls) (hB : ∀ (k : Nat) (l : List UInt8), ls[k]? = some l → l.length ≤ 100000) (hn : ls.length ≤ 100000) :
    Calls Try.prog 27 #[.slice A ls.length cap] w (fun e w' => ∃ v xs, e = .returned v ∧ Row w' 22 1 v ls.length xs ∧ NewFrom w.heap.size v ∧ Copied w' w.heap.size xs ls ∧ Keeps Nob w w') := by
  obtain ⟨i0, hi0, hz0, hz1, hz2⟩ := info_parts bytes_info0
  have hmax : ls.length ≤ 9223372036854775807 := by obtain ⟨_, _, e, h1, h2, _⟩ := h0.form; simp only [Value.slice.injEq] at e; obtain ⟨_, _, rfl⟩ := e; unfold maxLen at h2; omega
  have r0 : Row w 22 1 (.slice none 0 0) 0 [] := World.ownsRow_nil _ _ _ _
  have nw0 := NewFrom.nil w.heap.size
  have cp0 : Copied w w.heap.size [] ls := fun k u h => by simp at h
  have K0 : Keeps Nob w w := Keeps.refl _ _
  refine sy_enter (part_kCopyLists 1) ⟨#[.slice A ls.length cap, undef, undef, undef, undef, undef, undef, undef, undef, undef, undef, undef, undef, undef, undef, undef, undef, undef, undef, undef], []⟩ Try.func27 (by kernel_rfl) (by kernel_rfl) ?_
  refine sy_sq (part_kCopyLists 2) (part_kCopyLists 3) ?_
  refine sy_reg ?_
  refine rg_plain 0 (opsAt (part_kCopyLists 2)) [0] (by kernel_rfl) (by kernel_rfl) ?_
  refine ps_k (o_kCopyLists 2 0) (.slice none 0 0) ?_
  refine ps_end ?_
  refine then_n ?_
  refine sy_sq (part_kCopyLists 6) (part_kCopyLists 7) ?_
  refine sy_reg ?_
  refine rg_plain 1 (opsAt (part_kCopyLists 6)) [0] (by kernel_rfl) (by kernel_rfl) ?_
  refine ps_k (o_kCopyLists 6 0) (.slice none 0 0) ?_
  refine ps_end ?_
  refine then_n ?_
  refine sy_sq (part_kCopyLists 14) (part_kCopyLists 15) ?_
  refine sy_sq (part_kCopyLists 28) (part_kCopyLists 29) ?_
  refine sy_reg ?_
  refine rg_plain 2 (opsAt (part_kCopyLists 28)) [0] (by kernel_rfl) (by kernel_rfl) ?_
  refine ps_k (o_kCopyLists 28 0) (.int .i64 0) ?_
  refine ps_end ?_
  refine then_n ?_
  refine sy_bk 0 (part_kCopyLists 58) ?_
  refine sy_loop (part_kCopyLists 116) (fun a V => ∃ (i : Nat) (v : Value) (xs : List Value) (u5 u6 u7 u8 u9 u10 u11 u12 u13 u14 u15 u16 u17 u18 : Value), (a = ⟨#[.slice A ls.length cap, undef, .slice none 0 0, v, iN i, u5, u6, u7, u8, u9, u10, u11, u12, u13, u14, u15, u16, u17, u18, undef], []⟩) ∧ (i ≤ ls.length) ∧ (ListsAt V (.slice A ls.length cap) us ls) ∧ (Row V 22 1 v i xs) ∧ (Copied V w.heap.size xs ls) ∧ (Keeps Nob w V) ∧ (NewFrom w.heap.size v)) (fun a _ => ls.length - (intOf (a.tmps.getD 4 undef)).toNat) (by kernel_rfl) ?_ ?_
  · exact ⟨0, .slice none 0 0, [], undef, undef, undef, undef, undef, undef, undef, undef, undef, undef, undef, undef, undef, undef, by kernel_rfl, by omega, h0, r0, cp0, K0, NewFrom.nil _⟩
  · rintro a V1 ⟨i, v, xs, u5, u6, u7, u8, u9, u10, u11, u12, u13, u14, u15, u16, u17, u18, rfl, hi, h2, h3, h4, K5, hnw⟩
    by_cases lt_i : i < ls.length
    · obtain ⟨u, l, b_, o_, c_, hu, hl, hv⟩ := h0.open_ i lt_i
      refine sy_sq (part_kCopyLists 232) (part_kCopyLists 233) ?_
      refine sy_sq (part_kCopyLists 464) (part_kCopyLists 465) ?_
      refine sy_reg ?_
      refine rg_plain 3 (opsAt (part_kCopyLists 464)) [0, 1, 2, 3] (by kernel_rfl) (by kernel_rfl) ?_
      refine ps_k (o_kCopyLists 464 0) (iN i) ?_
      refine ps_k (o_kCopyLists 464 1) (.slice A ls.length cap) ?_
      refine ps_p (o_kCopyLists 464 2) (iN ls.length) (exec_len (.tmp 6) 54 _ (by kernel_rfl) Try.underlying54 A ls.length cap (by kernel_rfl)) ?_
      refine ps_p (o_kCopyLists 464 3) (.bool true) (dct ((((i : Nat) : Int)) < (((ls.length : Nat) : Int))) (by omega)) ?_
      refine ps_end ?_
      refine then_n ?_
      refine sy_ys (.tmp 8) (part_kCopyLists 930) (part_kCopyLists 931) ?_
      refine sy_sk ?_
      refine then_n ?_
      refine sy_sq (part_kCopyLists 466) (part_kCopyLists 467) ?_
      refine sy_bk 1 (part_kCopyLists 932) ?_
      refine sy_reg ?_
      refine rg_plain 5 (opsAt (part_kCopyLists 932)) [0, 1, 2, 3, 4, 5, 6, 7, 8] (by kernel_rfl) (by kernel_rfl) ?_
      refine ps_k (o_kCopyLists 932 0) (v) ?_
      refine ps_k (o_kCopyLists 932 1) (.slice A ls.length cap) ?_
      refine ps_k (o_kCopyLists 932 2) (iN i) ?_
      refine ps_p (o_kCopyLists 932 3) (pT b_ (o_ + i)) (exec_cast (v := pT b_ (o_ + i * 1)) (by simp) (exec_indexAt_slice 54 (.tmp 12) (.tmp 13) (by kernel_rfl) b_ o_ ls.length c_ (Eq.trans (b := .slice A ls.length cap) (by kernel_rfl) hv) .i64 i (by kernel_rfl) _ 1 Try.underlying54 (by kernel_rfl) (by omega))) ?_
      refine ps_p (o_kCopyLists 932 4) (u) (exec_ld 22 (.tmp 14) b_ (o_ + i) Try.underlying22 (ListsAt.cell h2 hu hv)) ?_
      refine ps_c (o_kCopyLists 932 5) 56 #[u] Try.func56 ((copyBytes_ok u l _ (ListsAt.bytes h2 _ _ _ hu hl) (by have := hB i l hl; omega)).mono ?_)
      rintro e V6 ⟨u', rfl, h7, hnu, hnz, kV6⟩
      obtain ⟨g1, cap1, rfl⟩ := h7.slice hnz
      refine ⟨_, rfl, ?_⟩
      have h8 : ListsAt V6 (.slice A ls.length cap) us ls := h2.keepsN kV6
      have h9 : Row V6 22 1 v i xs := h3.keeps kV6 (fun _ _ x => x)
      have h10 : Copied V6 w.heap.size xs ls := h4.keepsN kV6
      have K11 := K5.nn kV6
      have one' := h7.one
      have hnu' : NewFrom w.heap.size (.slice (some ⟨g1, 0, none⟩) l.length cap1) := fun j hj => by have := hnu j hj; have := K5.size; omega
      obtain ⟨V12, eV12, gx, egx, h13, kV12⟩ := alloc_step V6 (#[.slice (some ⟨g1, 0, none⟩) l.length cap1]) 22
      have n14 : w.heap.size ≤ gx := egx ▸ K11.size
      refine ps_r (o_kCopyLists 932 6) (.slice (some ⟨gx, 0, none⟩) 1 1) (w' := V12) (by rw [← eV12, ← egx]; kernel_rfl) ?_
      have h15 : ListsAt V12 (.slice A ls.length cap) us ls := h8.keepsN kV12
      have h16 : Row V12 22 1 v i xs := h9.keeps kV12 (fun _ _ x => x)
      have h17 : Copied V12 w.heap.size xs ls := h10.keepsN kV12
      have h18 : Row V12 5 1 (.slice (some ⟨g1, 0, none⟩) l.length cap1) l.length (B l) := h7.keeps kV12 (fun _ _ x => x)
      have K19 := K11.nn kV12
      obtain ⟨v20, V21, hr22, h23, hg24, hn25, ha26⟩ := run_append_any (P := Try.prog) (w := V12) 54 (Oper.type (o_kCopyLists 932 7)) 22 i0 (.slice none 0 0) 1 24 Try.underlying54 hi0 hz0 hz1 hz2 rfl (by decide) v i xs h16 (.slice (some ⟨gx, 0, none⟩) 1 1) 1 ([(.slice (some ⟨g1, 0, none⟩) l.length cap1)]) (src_block h13 1 1 rfl (by simp [one'])) (by unfold maxLen; omega) (by omega)
      have kV21 : Keeps (fun j => v.ownBlock = some j) V12 V21 := Keeps.rowAdd hg24
      have hw27 : NewFrom w.heap.size v20 := hnw.next K19.size ha26
      refine ps_r (o_kCopyLists 932 7) v20 (w' := V21) (exec_append (.tmp 11) (.tmp 17) 54 (by kernel_rfl) v (.slice (some ⟨gx, 0, none⟩) 1 1) (by kernel_rfl) (by kernel_rfl) hr22) ?_
      have h28 : Row V21 22 1 v20 (i + 1) (xs ++ [(.slice (some ⟨g1, 0, none⟩) l.length cap1)]) := h23
      have h29 : ListsAt V21 (.slice A ls.length cap) us ls := ListsAt.keepsB h0 h15 kV21 (fun j hj e => by have := hnw j e; omega)
      have h30 : Copied V21 w.heap.size xs ls := h17.keepsRow kV21 h16
      have h31 : Row V21 5 1 (.slice (some ⟨g1, 0, none⟩) l.length cap1) l.length (B l) := row_other h18 kV21 h16 (by decide)
      have K32 : Keeps Nob w V21 := K19.then kV21 (fun i hi hm => absurd hi (by have := hnw i hm; omega))
      refine ps_k (o_kCopyLists 932 8) (v20) ?_
      refine ps_end ?_
      refine blk_n ?_
      refine then_n ?_
      refine sy_reg ?_
      refine rg_plain 4 (opsAt (part_kCopyLists 467)) [0, 1, 2] (by kernel_rfl) (by kernel_rfl) ?_
      refine ps_k (o_kCopyLists 467 0) (iN i) ?_
      refine ps_p (o_kCopyLists 467 1) (iN (i + 1)) (exec_cast (congrArg (Value.int .i64) (wrapN (i + 1) (by omega))) (by kernel_rfl)) ?_
      refine ps_k (o_kCopyLists 467 2) (iN (i + 1)) ?_
      refine ps_end ?_
      refine then_n ?_
      refine ⟨⟨i + 1, v20, xs ++ [(.slice (some ⟨g1, 0, none⟩) l.length cap1)], (iN i), (.slice A ls.length cap), (iN ls.length), (.bool true), (iN i), (iN (i + 1)), v, (.slice A ls.length cap), (iN i), (pT b_ (o_ + i)), u, (.slice (some ⟨g1, 0, none⟩) l.length cap1), (.slice (some ⟨gx, 0, none⟩) 1 1), v20, by kernel_rfl, by omega, h29, h28, h30.snoc (by have := (h16).1; omega) hl h31 hnu', K32, hw27⟩, ?_⟩
      exact lt_meas (x := ls.length - (i + 1)) (y := ls.length - i) (by kernel_rfl) (by kernel_rfl) (by omega)
    · have eq_i : i = ls.length := by omega
      refine sy_sq (part_kCopyLists 232) (part_kCopyLists 233) ?_
      refine sy_sq (part_kCopyLists 464) (part_kCopyLists 465) ?_
      refine sy_reg ?_
      refine rg_plain 3 (opsAt (part_kCopyLists 464)) [0, 1, 2, 3] (by kernel_rfl) (by kernel_rfl) ?_
      refine ps_k (o_kCopyLists 464 0) (iN i) ?_
      refine ps_k (o_kCopyLists 464 1) (.slice A ls.length cap) ?_
      refine ps_p (o_kCopyLists 464 2) (iN ls.length) (exec_len (.tmp 6) 54 _ (by kernel_rfl) Try.underlying54 A ls.length cap (by kernel_rfl)) ?_
      refine ps_p (o_kCopyLists 464 3) (.bool false) (dcf ((((i : Nat) : Int)) < (((ls.length : Nat) : Int))) (by omega)) ?_
      refine ps_end ?_
      refine then_n ?_
      refine sy_n (.tmp 8) (part_kCopyLists 930) (part_kCopyLists 931) ?_
      refine sy_exit 0 (by kernel_rfl) ?_
      refine then_e ?_
      refine then_e ?_
      refine blk_e ?_
      refine then_n ?_
      refine sy_sq (part_kCopyLists 30) (part_kCopyLists 31) ?_
      refine sy_reg ?_
      refine rg_plain 6 (opsAt (part_kCopyLists 30)) [0, 1] (by kernel_rfl) (by kernel_rfl) ?_
      refine ps_k (o_kCopyLists 30 0) (v) ?_
      refine ps_k (o_kCopyLists 30 1) (v) ?_
      refine ps_end ?_
      refine then_n ?_
      refine sy_ret (by kernel_rfl) ?_
      refine sy_out (v) rfl (by kernel_rfl) ?_
      exact ⟨v, xs, rfl, by have e := h3; rw [eq_i] at e; exact e, hnw, h4, K5⟩
/-- Are there more lists than n, or one of more bytes than m? -/
def lngL (ls : List (List UInt8)) (n m : Nat) : Bool := decide (n < ls.length) || (ls.take (n + 1)).any (fun l => decide (m < l.length))
theorem lngL_some {ls : List (List UInt8)} {n m i : Nat} {l : List UInt8} (hi : i ≤ n) (hl : ls[i]? = some l) (h : m < l.length) : lngL ls n m = true := by
  unfold lngL
  rw [Bool.or_eq_true]
  refine .inr (List.any_eq_true.2 ⟨l, List.mem_of_getElem? (i := i) (by rw [List.getElem?_take_of_lt (by omega)]; exact hl), decide_eq_true h⟩)
theorem lngL_none {ls : List (List UInt8)} {n m : Nat} (h : ∀ (i : Nat) (l : List UInt8), i ≤ n → ls[i]? = some l → l.length ≤ m) : lngL ls n m = decide (((ls.length : Nat) : Int) > (n : Int)) := by
  unfold lngL
  have : (ls.take (n + 1)).any (fun l => decide (m < l.length)) = false := by
    rw [List.any_eq_false]
    intro l hl
    obtain ⟨i, hi⟩ := List.getElem?_of_mem hl
    rw [List.getElem?_take] at hi
    split at hi
    · have := h i l (by omega) hi; simp; omega
    · cases hi
  rw [this, Bool.or_false]
  by_cases h2 : n < ls.length
  · rw [decide_eq_true h2, decide_eq_true (by omega)]
  · rw [decide_eq_false h2, decide_eq_false (by omega)]
theorem lngL_small {ls : List (List UInt8)} {n m : Nat} (h : lngL ls n m = false) : ls.length ≤ n ∧ ∀ l ∈ ls, l.length ≤ m := by
  unfold lngL at h
  rw [Bool.or_eq_false_iff] at h
  have h1 : ls.length ≤ n := by have := of_decide_eq_false h.1; omega
  refine ⟨h1, fun l hl => ?_⟩
  have h2 := h.2
  rw [List.take_of_length_le (by omega), List.any_eq_false] at h2
  have := h2 l hl
  simp at this; omega
noncomputable def part_kLongLists (n : Nat) : Code := partOf Try.f26 n
noncomputable abbrev o_kLongLists (n k : Nat) : Oper := (opsAt (part_kLongLists n)).getD k default
set_option maxRecDepth 100000 in
set_option maxHeartbeats 4000000 in
theorem kLongLists_ok (A : Option Addr) (cap : Nat) (us : List Value) (ls : List (List UInt8)) (n m : Nat) (w : World) (h0 : ListsAt w (.slice A ls.length cap) us ls) (hB : ∀ (k : Nat) (l : List UInt8), ls[k]? = some l → l.length ≤ 9223372036854775807) (hn : n ≤ 100000) (hm : m ≤ 100000) :
    Calls Try.prog 26 #[.slice A ls.length cap, .int .i64 ((n : Nat) : Int), .int .i64 ((m : Nat) : Int)] w (fun e w' => e = .returned (.bool (lngL ls n m)) ∧ w = w') := by
  have hmax : ls.length ≤ 9223372036854775807 := by obtain ⟨_, _, e, h1, h2, _⟩ := h0.form; simp only [Value.slice.injEq] at e; obtain ⟨_, _, rfl⟩ := e; unfold maxLen at h2; omega
  have K0 : Keeps Nob w w := Keeps.refl _ _
  refine sy_enter (part_kLongLists 1) ⟨#[.slice A ls.length cap, iN n, iN m, undef, undef, undef, undef, undef, undef, undef, undef, undef, undef, undef, undef, undef, undef, undef, undef, undef, undef, undef, undef, undef, undef, undef, undef, undef, undef, undef], []⟩ Try.func26 (by kernel_rfl) (by kernel_rfl) ?_
  refine sy_sq (part_kLongLists 2) (part_kLongLists 3) ?_
  refine sy_reg ?_
  refine rg_plain 0 (opsAt (part_kLongLists 2)) [0] (by kernel_rfl) (by kernel_rfl) ?_
  refine ps_k (o_kLongLists 2 0) (.bool false) ?_
  refine ps_end ?_
  refine then_n ?_
  refine sy_sq (part_kLongLists 6) (part_kLongLists 7) ?_
  refine sy_sq (part_kLongLists 12) (part_kLongLists 13) ?_
  refine sy_reg ?_
  refine rg_plain 1 (opsAt (part_kLongLists 12)) [0] (by kernel_rfl) (by kernel_rfl) ?_
  refine ps_k (o_kLongLists 12 0) (.int .i64 0) ?_
  refine ps_end ?_
  refine then_n ?_
  refine sy_bk 0 (part_kLongLists 26) ?_
  refine sy_loop (part_kLongLists 52) (fun a V => ∃ (i : Nat) (u6 u8 u9 u10 u11 u12 u13 u14 u15 u16 u17 u18 u19 u20 u21 u22 u23 u24 u25 : Value), (a = ⟨#[.slice A ls.length cap, iN n, iN m, undef, undef, undef, u6, iN i, u8, u9, u10, u11, u12, u13, u14, u15, u16, u17, u18, u19, u20, u21, u22, u23, u24, u25, undef, undef, undef, undef], []⟩) ∧ (i ≤ ls.length ∧ i ≤ n + 1) ∧ (∀ (j : Nat) (l : List UInt8), j < i → ls[j]? = some l → l.length ≤ m) ∧ (w = V)) (fun a _ => ls.length - (intOf (a.tmps.getD 7 undef)).toNat) (by kernel_rfl) ?_ ?_
  · exact ⟨0, (.bool false), undef, undef, undef, undef, undef, undef, undef, undef, undef, undef, undef, undef, undef, undef, undef, undef, undef, undef, by kernel_rfl, by omega, fun j l h => absurd h (by omega), rfl⟩
  · rintro a V1 ⟨i, u6, u8, u9, u10, u11, u12, u13, u14, u15, u16, u17, u18, u19, u20, u21, u22, u23, u24, u25, rfl, hi, hs, rfl⟩
    rcases (show (i < ls.length ∧ i ≤ n ∧ ∃ l, ls[i]? = some l ∧ m < l.length) ∨ (i < ls.length ∧ i ≤ n ∧ ∃ l, ls[i]? = some l ∧ l.length ≤ m) ∨ (i < ls.length ∧ ¬ i ≤ n) ∨ i = ls.length by
        by_cases h : i < ls.length
        · by_cases h2 : i ≤ n
          · by_cases h3 : m < (ls[i]'h).length
            · exact .inl ⟨h, h2, _, List.getElem?_eq_getElem h, h3⟩
            · exact .inr (.inl ⟨h, h2, _, List.getElem?_eq_getElem h, by omega⟩)
          · exact .inr (.inr (.inl ⟨h, h2⟩))
        · exact .inr (.inr (.inr (by omega)))) with ⟨lt_i, ln_i, l, hl, big⟩ | ⟨lt_i, ln_i, l, hl, big⟩ | ⟨lt_i, ln_i⟩ | eq_i
    · obtain ⟨u, l', b_, o_, c_, hu, hl', hv⟩ := h0.open_ i lt_i
      obtain rfl : l = l' := Option.some.inj (hl.symm.trans hl')
      have hln := hB _ _ hl
      refine sy_sq (part_kLongLists 104) (part_kLongLists 105) ?_
      refine sy_sq (part_kLongLists 208) (part_kLongLists 209) ?_
      refine sy_reg ?_
      refine rg_plain 2 (opsAt (part_kLongLists 208)) [0, 1, 2, 3, 4, 5, 6, 7, 8] (by kernel_rfl) (by kernel_rfl) ?_
      refine ps_k (o_kLongLists 208 0) (iN i) ?_
      refine ps_k (o_kLongLists 208 1) (.slice A ls.length cap) ?_
      refine ps_p (o_kLongLists 208 2) (iN ls.length) (exec_len (.tmp 9) 54 _ (by kernel_rfl) Try.underlying54 A ls.length cap (by kernel_rfl)) ?_
      refine ps_p (o_kLongLists 208 3) (.bool true) (dct ((((i : Nat) : Int)) < (((ls.length : Nat) : Int))) (by omega)) ?_
      refine ps_k (o_kLongLists 208 4) (.bool true) ?_
      refine ps_k (o_kLongLists 208 5) (iN i) ?_
      refine ps_k (o_kLongLists 208 6) (iN n) ?_
      refine ps_p (o_kLongLists 208 7) (.bool true) (dct ((((i : Nat) : Int)) ≤ (((n : Nat) : Int))) (by omega)) ?_
      refine ps_k (o_kLongLists 208 8) (.bool true) ?_
      refine ps_end ?_
      refine then_n ?_
      refine sy_ys (.tmp 16) (part_kLongLists 418) (part_kLongLists 419) ?_
      refine sy_sk ?_
      refine then_n ?_
      refine sy_sq (part_kLongLists 210) (part_kLongLists 211) ?_
      refine sy_bk 1 (part_kLongLists 420) ?_
      refine sy_sq (part_kLongLists 840) (part_kLongLists 841) ?_
      refine sy_reg ?_
      refine rg_plain 4 (opsAt (part_kLongLists 840)) [0, 1, 2, 3, 4, 5, 6] (by kernel_rfl) (by kernel_rfl) ?_
      refine ps_k (o_kLongLists 840 0) (.slice A ls.length cap) ?_
      refine ps_k (o_kLongLists 840 1) (iN i) ?_
      refine ps_p (o_kLongLists 840 2) (pT b_ (o_ + i)) (exec_cast (v := pT b_ (o_ + i * 1)) (by simp) (exec_indexAt_slice 54 (.tmp 19) (.tmp 20) (by kernel_rfl) b_ o_ ls.length c_ (Eq.trans (b := .slice A ls.length cap) (by kernel_rfl) hv) .i64 i (by kernel_rfl) _ 1 Try.underlying54 (by kernel_rfl) (by omega))) ?_
      refine ps_p (o_kLongLists 840 3) (u) (exec_ld 22 (.tmp 21) b_ (o_ + i) Try.underlying22 (ListsAt.cell h0 hu hv)) ?_
      refine ps_p (o_kLongLists 840 4) (iN l.length) (exec_len_bytes (.tmp 22) 22 5 (by kernel_rfl) Try.underlying22 (by kernel_rfl) (ListsAt.bytes h0 _ _ _ hu hl)) ?_
      refine ps_k (o_kLongLists 840 5) (iN m) ?_
      refine ps_p (o_kLongLists 840 6) (.bool true) (dct ((((l.length : Nat) : Int)) > (((m : Nat) : Int))) (by omega)) ?_
      refine ps_end ?_
      refine then_n ?_
      refine sy_ys (.tmp 25) (part_kLongLists 1682) (part_kLongLists 1683) ?_
      refine sy_sq (part_kLongLists 3364) (part_kLongLists 3365) ?_
      refine sy_reg ?_
      refine rg_plain 5 (opsAt (part_kLongLists 3364)) [0] (by kernel_rfl) (by kernel_rfl) ?_
      refine ps_k (o_kLongLists 3364 0) (.bool true) ?_
      refine ps_end ?_
      refine then_n ?_
      refine sy_ret (by kernel_rfl) ?_
      refine blk_r ?_
      refine then_r ?_
      refine then_r ?_
      refine blk_r ?_
      refine then_r ?_
      refine sy_out (.bool true) rfl (by kernel_rfl) ?_
      exact ⟨by rw [lngL_some ln_i hl big], rfl⟩
    · obtain ⟨u, l', b_, o_, c_, hu, hl', hv⟩ := h0.open_ i lt_i
      obtain rfl : l = l' := Option.some.inj (hl.symm.trans hl')
      have hln := hB _ _ hl
      refine sy_sq (part_kLongLists 104) (part_kLongLists 105) ?_
      refine sy_sq (part_kLongLists 208) (part_kLongLists 209) ?_
      refine sy_reg ?_
      refine rg_plain 2 (opsAt (part_kLongLists 208)) [0, 1, 2, 3, 4, 5, 6, 7, 8] (by kernel_rfl) (by kernel_rfl) ?_
      refine ps_k (o_kLongLists 208 0) (iN i) ?_
      refine ps_k (o_kLongLists 208 1) (.slice A ls.length cap) ?_
      refine ps_p (o_kLongLists 208 2) (iN ls.length) (exec_len (.tmp 9) 54 _ (by kernel_rfl) Try.underlying54 A ls.length cap (by kernel_rfl)) ?_
      refine ps_p (o_kLongLists 208 3) (.bool true) (dct ((((i : Nat) : Int)) < (((ls.length : Nat) : Int))) (by omega)) ?_
      refine ps_k (o_kLongLists 208 4) (.bool true) ?_
      refine ps_k (o_kLongLists 208 5) (iN i) ?_
      refine ps_k (o_kLongLists 208 6) (iN n) ?_
      refine ps_p (o_kLongLists 208 7) (.bool true) (dct ((((i : Nat) : Int)) ≤ (((n : Nat) : Int))) (by omega)) ?_
      refine ps_k (o_kLongLists 208 8) (.bool true) ?_
      refine ps_end ?_
      refine then_n ?_
      refine sy_ys (.tmp 16) (part_kLongLists 418) (part_kLongLists 419) ?_
      refine sy_sk ?_
      refine then_n ?_
      refine sy_sq (part_kLongLists 210) (part_kLongLists 211) ?_
      refine sy_bk 1 (part_kLongLists 420) ?_
      refine sy_sq (part_kLongLists 840) (part_kLongLists 841) ?_
      refine sy_reg ?_
      refine rg_plain 4 (opsAt (part_kLongLists 840)) [0, 1, 2, 3, 4, 5, 6] (by kernel_rfl) (by kernel_rfl) ?_
      refine ps_k (o_kLongLists 840 0) (.slice A ls.length cap) ?_
      refine ps_k (o_kLongLists 840 1) (iN i) ?_
      refine ps_p (o_kLongLists 840 2) (pT b_ (o_ + i)) (exec_cast (v := pT b_ (o_ + i * 1)) (by simp) (exec_indexAt_slice 54 (.tmp 19) (.tmp 20) (by kernel_rfl) b_ o_ ls.length c_ (Eq.trans (b := .slice A ls.length cap) (by kernel_rfl) hv) .i64 i (by kernel_rfl) _ 1 Try.underlying54 (by kernel_rfl) (by omega))) ?_
      refine ps_p (o_kLongLists 840 3) (u) (exec_ld 22 (.tmp 21) b_ (o_ + i) Try.underlying22 (ListsAt.cell h0 hu hv)) ?_
      refine ps_p (o_kLongLists 840 4) (iN l.length) (exec_len_bytes (.tmp 22) 22 5 (by kernel_rfl) Try.underlying22 (by kernel_rfl) (ListsAt.bytes h0 _ _ _ hu hl)) ?_
      refine ps_k (o_kLongLists 840 5) (iN m) ?_
      refine ps_p (o_kLongLists 840 6) (.bool false) (dcf ((((l.length : Nat) : Int)) > (((m : Nat) : Int))) (by omega)) ?_
      refine ps_end ?_
      refine then_n ?_
      refine sy_n (.tmp 25) (part_kLongLists 1682) (part_kLongLists 1683) ?_
      refine sy_sk ?_
      refine blk_n ?_
      refine then_n ?_
      refine sy_reg ?_
      refine rg_plain 3 (opsAt (part_kLongLists 211)) [0, 1, 2] (by kernel_rfl) (by kernel_rfl) ?_
      refine ps_k (o_kLongLists 211 0) (iN i) ?_
      refine ps_p (o_kLongLists 211 1) (iN (i + 1)) (exec_cast (congrArg (Value.int .i64) (wrapN (i + 1) (by omega))) (by kernel_rfl)) ?_
      refine ps_k (o_kLongLists 211 2) (iN (i + 1)) ?_
      refine ps_end ?_
      refine then_n ?_
      refine ⟨⟨i + 1, u6, (iN i), (.slice A ls.length cap), (iN ls.length), (.bool true), (.bool true), (iN i), (iN n), (.bool true), (.bool true), (iN i), (iN (i + 1)), (.slice A ls.length cap), (iN i), (pT b_ (o_ + i)), u, (iN l.length), (iN m), (.bool false), by kernel_rfl, by omega, fun j l2 hj hl2 => by by_cases e : j = i; (rw [e, hl] at hl2; exact Option.some.inj hl2 ▸ big); exact hs j l2 (by omega) hl2, rfl⟩, ?_⟩
      exact lt_meas (x := ls.length - (i + 1)) (y := ls.length - i) (by kernel_rfl) (by kernel_rfl) (by omega)
    · skip
      refine sy_sq (part_kLongLists 104) (part_kLongLists 105) ?_
      refine sy_sq (part_kLongLists 208) (part_kLongLists 209) ?_
      refine sy_reg ?_
      refine rg_plain 2 (opsAt (part_kLongLists 208)) [0, 1, 2, 3, 4, 5, 6, 7, 8] (by kernel_rfl) (by kernel_rfl) ?_
      refine ps_k (o_kLongLists 208 0) (iN i) ?_
      refine ps_k (o_kLongLists 208 1) (.slice A ls.length cap) ?_
      refine ps_p (o_kLongLists 208 2) (iN ls.length) (exec_len (.tmp 9) 54 _ (by kernel_rfl) Try.underlying54 A ls.length cap (by kernel_rfl)) ?_
      refine ps_p (o_kLongLists 208 3) (.bool true) (dct ((((i : Nat) : Int)) < (((ls.length : Nat) : Int))) (by omega)) ?_
      refine ps_k (o_kLongLists 208 4) (.bool true) ?_
      refine ps_k (o_kLongLists 208 5) (iN i) ?_
      refine ps_k (o_kLongLists 208 6) (iN n) ?_
      refine ps_p (o_kLongLists 208 7) (.bool false) (dcf ((((i : Nat) : Int)) ≤ (((n : Nat) : Int))) (by omega)) ?_
      refine ps_k (o_kLongLists 208 8) (.bool false) ?_
      refine ps_end ?_
      refine then_n ?_
      refine sy_n (.tmp 16) (part_kLongLists 418) (part_kLongLists 419) ?_
      refine sy_exit 0 (by kernel_rfl) ?_
      refine then_e ?_
      refine then_e ?_
      refine blk_e ?_
      refine then_n ?_
      refine sy_sq (part_kLongLists 14) (part_kLongLists 15) ?_
      refine sy_reg ?_
      refine rg_plain 6 (opsAt (part_kLongLists 14)) [0, 1, 2, 3, 4] (by kernel_rfl) (by kernel_rfl) ?_
      refine ps_k (o_kLongLists 14 0) (.slice A ls.length cap) ?_
      refine ps_p (o_kLongLists 14 1) (iN ls.length) (exec_len (.tmp 26) 54 _ (by kernel_rfl) Try.underlying54 A ls.length cap (by kernel_rfl)) ?_
      refine ps_k (o_kLongLists 14 2) (iN n) ?_
      refine ps_p (o_kLongLists 14 3) (.bool (lngL ls n m)) (exec_cast (congrArg Value.bool (show decide (((ls.length : Nat) : Int) > ((n : Nat) : Int)) = lngL ls n m from (lngL_none (fun j l h1 h2 => hs j l (by have := (List.getElem?_eq_some_iff.1 h2).1; omega) h2)).symm)) (by kernel_rfl)) ?_
      refine ps_k (o_kLongLists 14 4) (.bool (lngL ls n m)) ?_
      refine ps_end ?_
      refine then_n ?_
      refine sy_ret (by kernel_rfl) ?_
      refine sy_out (.bool (lngL ls n m)) rfl (by kernel_rfl) ?_
      exact ⟨rfl, rfl⟩
    · skip
      refine sy_sq (part_kLongLists 104) (part_kLongLists 105) ?_
      refine sy_sq (part_kLongLists 208) (part_kLongLists 209) ?_
      refine sy_reg ?_
      refine rg_plain 2 (opsAt (part_kLongLists 208)) [0, 1, 2, 3, 4, 5, 6, 7, 8] (by kernel_rfl) (by kernel_rfl) ?_
      refine ps_k (o_kLongLists 208 0) (iN i) ?_
      refine ps_k (o_kLongLists 208 1) (.slice A ls.length cap) ?_
      refine ps_p (o_kLongLists 208 2) (iN ls.length) (exec_len (.tmp 9) 54 _ (by kernel_rfl) Try.underlying54 A ls.length cap (by kernel_rfl)) ?_
      refine ps_p (o_kLongLists 208 3) (.bool false) (dcf ((((i : Nat) : Int)) < (((ls.length : Nat) : Int))) (by omega)) ?_
      refine ps_k (o_kLongLists 208 4) (.bool false) ?_
      refine ps_n (o_kLongLists 208 5) ?_
      refine ps_n (o_kLongLists 208 6) ?_
      refine ps_n (o_kLongLists 208 7) ?_
      refine ps_k (o_kLongLists 208 8) (.bool false) ?_
      refine ps_end ?_
      refine then_n ?_
      refine sy_n (.tmp 16) (part_kLongLists 418) (part_kLongLists 419) ?_
      refine sy_exit 0 (by kernel_rfl) ?_
      refine then_e ?_
      refine then_e ?_
      refine blk_e ?_
      refine then_n ?_
      refine sy_sq (part_kLongLists 14) (part_kLongLists 15) ?_
      refine sy_reg ?_
      refine rg_plain 6 (opsAt (part_kLongLists 14)) [0, 1, 2, 3, 4] (by kernel_rfl) (by kernel_rfl) ?_
      refine ps_k (o_kLongLists 14 0) (.slice A ls.length cap) ?_
      refine ps_p (o_kLongLists 14 1) (iN ls.length) (exec_len (.tmp 26) 54 _ (by kernel_rfl) Try.underlying54 A ls.length cap (by kernel_rfl)) ?_
      refine ps_k (o_kLongLists 14 2) (iN n) ?_
      refine ps_p (o_kLongLists 14 3) (.bool (lngL ls n m)) (exec_cast (congrArg Value.bool (show decide (((ls.length : Nat) : Int) > ((n : Nat) : Int)) = lngL ls n m from (lngL_none (fun j l h1 h2 => hs j l (by have := (List.getElem?_eq_some_iff.1 h2).1; omega) h2)).symm)) (by kernel_rfl)) ?_
      refine ps_k (o_kLongLists 14 4) (.bool (lngL ls n m)) ?_
      refine ps_end ?_
      refine then_n ?_
      refine sy_ret (by kernel_rfl) ?_
      refine sy_out (.bool (lngL ls n m)) rfl (by kernel_rfl) ?_
      exact ⟨rfl, rfl⟩
end Go.Proofs.Ytmapcghgdbfmhaa
