/-
  The frame of a law's proof: what is left of 'post' once the walk says 'true' and 'nothing that was there has turned'. Conditions: none.
-/
import Derived.Test.YtpflmldmbpnllaaDoorBase
import Derived.Test.YtpflmldmbpnllaaDoorBytes
import Derived.ProofKit
import Derived.OpenShut
import Derived.ShutString
import Derived.Carry
import Derived.Deep.Slices
import Derived.Deep.Fields
namespace Go.Own
open Go Go.ChangeShapes Go.WideShapes Go.ChangeAt Go.RowKit Go.WideElems

variable {H : Type} {enc : TypeId × Value → H} {P : Program}

theorem trodAll_stays (hl : laidOutB P = true) {W W' : World} {sp : Nat → Bool} : ∀ (ts : List TypeId) (vs : List Value) (ds : List (DataW H)) (ps : List MemPlace),
    ts.all (fun t => P.readableRec t && decide (t < P.types.size)) = true → DataW.TrodAll enc P W 0 (fun _ => true) true ts vs ds ps → (∀ p ∈ ps, W.sameAt W' p) → (∀ p ∈ ps, sp p.block = true) →
    DataW.TrodAll enc P W' 0 sp true ts vs ds ps
  | [], vs, ds, ps, _, h, _, _ => by
    obtain ⟨rfl, rfl, rfl⟩ := trodAll_nil h
    exact trodAll_mk0
  | t :: ts, vs, ds, ps, hr, h, hs, hsp => by
    obtain ⟨v, vs', d, ds', p, q, rfl, rfl, rfl, h0, r⟩ := trodAll_cons h
    simp only [List.all_cons, Bool.and_eq_true, decide_eq_true_eq] at hr
    exact trodAll_cons_mk (Trod_stays hl hr.1.1 hr.1.2 h0 (fun x hx => hs x (by simp [hx])) (fun x hx => hsp x (by simp [hx])))
      (trodAll_stays hl ts vs' ds' q hr.2 r (fun x hx => hs x (by simp [hx])) (fun x hx => hsp x (by simp [hx])))

theorem law_post {f : Func} {s : ChangeSpec} {W W' : World} {args : Array Value} {ds gs : List (DataW H)} {before : List MemPlace} {tb : TypeId} (hl : laidOutB P = true) (hr : f.params.toList.all (fun t => P.readableRec t && decide (t < P.types.size)) = true)
    (hres : f.resultTypes = #[tb]) (hb : P.underlying tb = some .bool) (hvars : s.vars = []) (hfn : s.fn H (ds ++ gs) = { results := [.lit (.bool true)], args := ds })
    (hW : DataW.Whole enc P f.params.toList s.vars false W args.toList ds gs before) (hB : Below W.heap.size W W') : s.post enc P f false true false false W args (.bool true) W' := by
  have hlt := hW.lt
  have hW0 := hW
  obtain ⟨p, q, hA, hV, rfl, hfz, hnd⟩ := hW
  rw [hvars] at hV
  obtain ⟨rfl, rfl⟩ := trodVars_none hV
  refine ⟨ds, [], p ++ [], [], p, [], hW0, ?_, ?_, ?_, hB.frame _, fun h => by cases h⟩
  · rw [hfn, hres]
    exact trodAll_mk1 (shut_bool hb _)
  · rw [hfn]
    exact trodAll_stays hl _ _ _ _ hr hA (fun x hx => hB.same (hlt x (by simp [hx]))) (fun x hx => by simpa using hlt x (by simp [hx]))
  · rw [hfn, hvars]
    rfl


/-- A slice that came in: its length, and each element's cells with the element's own reading. -/
theorem open_elems {t e : TypeId} {W : World} {sp : Nat → Bool} {held : Bool} {v : Value} {d : DataW H} {ps : List MemPlace} (ht : P.underlying t = some (.slice e)) (hpos : 0 < P.cellsOf e) (h : DataW.Trod enc P W 0 sp held t v d ps) (hv : ∃ a len cap, v = .slice a len cap) :
    ∃ (a : Option Addr) (len cap : Nat), v = .slice a len cap ∧ len ≤ cap ∧ cap ≤ maxLen ∧ ∀ i, i < len → ∃ b o cs n y, a = some ⟨b, o, none⟩ ∧ cs.length = P.cellsOf e ∧
      (∀ j, j < P.cellsOf e → W.cell? ⟨b, o + i * P.cellsOf e + j, none⟩ = cs[j]?) ∧ DataW.trod enc P W 0 sp held n e cs = some y := by
  obtain ⟨fuel, hf⟩ := h
  obtain ⟨a0, len0, cap0, rfl⟩ := hv
  rcases Go.Deep.open_slice ht (by simpa [Value.cells] using hf) with ⟨h0, _⟩ | ⟨a, len, cap, m, n, D, Pl, hcs, _, hl, hm, hmm, _, hi⟩
  · simp only [List.cons.injEq, Value.slice.injEq, and_true] at h0
    obtain ⟨rfl, rfl, rfl⟩ := h0
    exact ⟨_, _, _, rfl, Nat.le_refl _, Nat.zero_le _, fun i h => absurd h (Nat.not_lt_zero i)⟩
  · simp only [List.cons.injEq, Value.slice.injEq, and_true] at hcs
    obtain ⟨rfl, rfl, rfl⟩ := hcs
    refine ⟨_, _, _, rfl, hl, hm, fun i hlt => ?_⟩
    have him : i < m := by rw [hmm]; split <;> omega
    obtain ⟨cs', hc, ht'⟩ := hi i him
    obtain ⟨_, hcl, hat⟩ := World.cells?_some hc
    have hsp : a.spot = none := by
      obtain ⟨cs0, hc0, _⟩ := hi 0 (by omega)
      obtain ⟨_, hcl0, hat0⟩ := World.cells?_some hc0
      have h0 := hat0 0 hpos
      have e1 : (a.add (0 * P.cellsOf e)).add 0 = a := by simp [Addr.add]
      rw [e1, List.getElem?_eq_getElem (by omega)] at h0
      cases hs : a.spot with
      | none => rfl
      | some s =>
        exfalso
        unfold World.cell? at h0
        split at h0
        · rw [if_pos (by simp [hs])] at h0; cases h0
        · cases h0
    obtain ⟨b, o, s⟩ := a
    cases hsp
    refine ⟨b, o, cs', n, _, rfl, hcl, fun j hj => ?_, ht'⟩
    have h2 := hat j hj
    have e2 : ((⟨b, o, none⟩ : Addr).add (i * P.cellsOf e)).add j = ⟨b, o + i * P.cellsOf e + j, none⟩ := by simp [Addr.add_lit]
    rw [e2] at h2
    exact h2

/-- A slice that came in: its length, and each element's cells with the element's own reading. -/
theorem open_elemsN {t e : TypeId} {W : World} {sp : Nat → Bool} {held : Bool} {v : Value} {d : DataW H} {ps : List MemPlace} (ht : P.underlying t = some (.slice e)) (hpos : 0 < P.cellsOf e) (h : DataW.Trod enc P W 0 sp held t v d ps) (hv : ∃ a len cap, v = .slice a len cap) :
    ∃ (a : Option Addr) (len cap : Nat), v = .slice a len cap ∧ len ≤ cap ∧ cap ≤ maxLen ∧ (a = none → cap = 0) ∧ ∀ i, i < len → ∃ b o cs n y, a = some ⟨b, o, none⟩ ∧ cs.length = P.cellsOf e ∧
      (∀ j, j < P.cellsOf e → W.cell? ⟨b, o + i * P.cellsOf e + j, none⟩ = cs[j]?) ∧ DataW.trod enc P W 0 sp held n e cs = some y := by
  obtain ⟨fuel, hf⟩ := h
  obtain ⟨a0, len0, cap0, rfl⟩ := hv
  rcases Go.Deep.open_slice ht (by simpa [Value.cells] using hf) with ⟨h0, _⟩ | ⟨a, len, cap, m, n, D, Pl, hcs, _, hl, hm, hmm, _, hi⟩
  · simp only [List.cons.injEq, Value.slice.injEq, and_true] at h0
    obtain ⟨rfl, rfl, rfl⟩ := h0
    exact ⟨_, _, _, rfl, Nat.le_refl _, Nat.zero_le _, fun _ => rfl, fun i h => absurd h (Nat.not_lt_zero i)⟩
  · simp only [List.cons.injEq, Value.slice.injEq, and_true] at hcs
    obtain ⟨rfl, rfl, rfl⟩ := hcs
    refine ⟨_, _, _, rfl, hl, hm, (fun h => by cases h), fun i hlt => ?_⟩
    have him : i < m := by rw [hmm]; split <;> omega
    obtain ⟨cs', hc, ht'⟩ := hi i him
    obtain ⟨_, hcl, hat⟩ := World.cells?_some hc
    have hsp : a.spot = none := by
      obtain ⟨cs0, hc0, _⟩ := hi 0 (by omega)
      obtain ⟨_, hcl0, hat0⟩ := World.cells?_some hc0
      have h0 := hat0 0 hpos
      have e1 : (a.add (0 * P.cellsOf e)).add 0 = a := by simp [Addr.add]
      rw [e1, List.getElem?_eq_getElem (by omega)] at h0
      cases hs : a.spot with
      | none => rfl
      | some s =>
        exfalso
        unfold World.cell? at h0
        split at h0
        · rw [if_pos (by simp [hs])] at h0; cases h0
        · cases h0
    obtain ⟨b, o, s⟩ := a
    cases hsp
    refine ⟨b, o, cs', n, _, rfl, hcl, fun j hj => ?_, ht'⟩
    have h2 := hat j hj
    have e2 : ((⟨b, o, none⟩ : Addr).add (i * P.cellsOf e)).add j = ⟨b, o + i * P.cellsOf e + j, none⟩ := by simp [Addr.add_lit]
    rw [e2] at h2
    exact h2

theorem list_of {α : Type} (Q : Nat → α → Prop) (n : Nat) (h : ∀ i, i < n → ∃ x, Q i x) : ∃ l : List α, l.length = n ∧ ∀ k x, l[k]? = some x → Q k x := by
  induction n with
  | zero => exact ⟨[], rfl, fun k x hk => by simp at hk⟩
  | succ n ih =>
    obtain ⟨l, hl, hq⟩ := ih (fun i hi => h i (by omega))
    obtain ⟨x, hx⟩ := h n (by omega)
    refine ⟨l ++ [x], by simp [hl], fun k y hk => ?_⟩
    rw [List.getElem?_append] at hk
    split at hk
    · exact hq k y hk
    · rename_i hlt
      obtain ⟨hk1, hk2⟩ := List.getElem?_eq_some_iff.1 hk
      have : k = n := by simp at hk1; omega
      subst this
      simp at hk2
      rw [← hk2]; exact hx
/-- One cell of a struct that is read as an integer. -/
theorem field_int {t : TypeId} {k : IntKind} {W : World} {sp : Nat → Bool} {held : Bool} {n off : Nat} {cs : List Value} {y : Option (DataW H × List MemPlace)} {z : DataW H × List MemPlace} (ht : P.underlying t = some (.int k)) (h1 : P.cellsOf t = 1) (h : DataW.trod enc P W 0 sp held n t ((cs.drop off).take (P.cellsOf t)) = y) (hy : y = some z) :
    ∃ q : Int, cs[off]? = some (.int k q) ∧ (Lit.int k q).wf = true := by
  subst hy
  rw [h1] at h
  obtain ⟨q, e1, _, e3⟩ := DataW.trod_int ht h
  refine ⟨q, ?_, e3⟩
  cases hc : cs.drop off with
  | nil => rw [hc] at e1; simp at e1
  | cons c r =>
    rw [hc] at e1
    simp at e1
    have : (cs.drop off)[0]? = some c := by rw [hc]; rfl
    rw [List.getElem?_drop] at this
    rw [show off = off + 0 by omega, this, e1]

/-- A slice of ints that came in. -/
structure IntsAt (w : World) (v : Value) (l : List Int) : Prop where
  len : ∃ a cap, v = .slice a l.length cap
  at_ : ∀ k x, l[k]? = some x → -9223372036854775808 ≤ x ∧ x ≤ 9223372036854775807 ∧ ∃ b o cap, v = .slice (some ⟨b, o, none⟩) l.length cap ∧ b < w.heap.size ∧ w.cell? ⟨b, o + k, none⟩ = some (.int .i64 x)
theorem open_intsAt {t e : TypeId} {W : World} {sp : Nat → Bool} {held : Bool} {v : Value} {d : DataW H} {ps : List MemPlace} (ht : P.underlying t = some (.slice e)) (he : P.underlying e = some (.int .i64)) (hC : P.cellsOf e = 1)
    (h : DataW.Trod enc P W 0 sp held t v d ps) (hv : ∃ a len cap, v = .slice a len cap) : ∃ l, IntsAt W v l := by
  obtain ⟨a, len, cap, rfl, hl, hm, hi⟩ := open_elems ht (by rw [hC]; omega) h hv
  rw [hC] at hi
  obtain ⟨l, hll, hq⟩ := list_of (fun i (x : Int) => -9223372036854775808 ≤ x ∧ x ≤ 9223372036854775807 ∧ ∃ b o, a = some ⟨b, o, none⟩ ∧ W.cell? ⟨b, o + i, none⟩ = some (.int .i64 x)) len (fun i hlt => by
    obtain ⟨b, o, cs, n, y, ha, hcl, hcell, ht'⟩ := hi i hlt
    obtain ⟨q, e1, _, e3⟩ := DataW.trod_int he ht'
    have h0 := hcell 0 (by omega)
    rw [e1] at h0
    have hb := bounds_i64 e3
    exact ⟨q, hb.1, hb.2, b, o, ha, by simpa using h0⟩)
  subst hll
  refine ⟨l, ⟨a, cap, rfl⟩, fun k x hk => ?_⟩
  obtain ⟨b1, b2, b, o, rfl, c0⟩ := hq k x hk
  exact ⟨b1, b2, b, o, cap, rfl, World.block_lt_of_cell? W _ c0, c0⟩

theorem IntsAt.keeps {w w' : World} {v : Value} {l : List Int} (h : IntsAt w v l) (k : Keeps Nob w w') : IntsAt w' v l :=
  ⟨h.len, fun i x hi => by
    obtain ⟨b1, b2, b, o, cap, e, hb, hc⟩ := h.at_ i x hi
    exact ⟨b1, b2, b, o, cap, e, Nat.lt_of_lt_of_le hb k.size, (k.cell hb (fun x => x)).trans hc⟩⟩

theorem u64_nat {a : Int} (h : (Lit.int .u64 a).wf = true) : ∃ n : Nat, n < 2 ^ 64 ∧ a = (n : Int) := by
  have h1 : 0 ≤ a ∧ a < 18446744073709551616 := by
    simp [Lit.wf, IntKind.min, IntKind.max, IntKind.bits, IntKind.signed] at h
    omega
  exact ⟨a.toNat, by omega, by omega⟩
theorem u8_nat {a : Int} (h : (Lit.int .u8 a).wf = true) : ∃ c : UInt8, a = (c.toNat : Int) := by
  have h1 : 0 ≤ a ∧ a < 256 := by
    simp [Lit.wf, IntKind.min, IntKind.max, IntKind.bits, IntKind.signed] at h
    omega
  exact ⟨UInt8.ofNat a.toNat, by simp; omega⟩
/-- A slice of bytes that came in. -/
theorem open_bytesAt {t e : TypeId} {W : World} {sp : Nat → Bool} {held : Bool} {v : Value} {d : DataW H} {ps : List MemPlace} (ht : P.underlying t = some (.slice e)) (he : P.underlying e = some (.int .u8)) (hC : P.cellsOf e = 1)
    (h : DataW.Trod enc P W 0 sp held t v d ps) (hv : ∃ a len cap, v = .slice a len cap) : ∃ l, BytesAt W v l := by
  obtain ⟨a, len, cap, rfl, hl, hm, hn, hi⟩ := open_elemsN ht (by rw [hC]; omega) h hv
  rw [hC] at hi
  obtain ⟨l, hll, hq⟩ := list_of (fun i (x : UInt8) => ∃ b o, a = some ⟨b, o, none⟩ ∧ W.cell? ⟨b, o + i, none⟩ = some (.int .u8 (x.toNat : Int))) len (fun i hlt => by
    obtain ⟨b, o, cs, n, y, ha, hcl, hcell, ht'⟩ := hi i hlt
    obtain ⟨q, e1, _, e3⟩ := DataW.trod_int he ht'
    obtain ⟨c, rfl⟩ := u8_nat e3
    have h0 := hcell 0 (by omega)
    rw [e1] at h0
    exact ⟨c, b, o, ha, by simpa using h0⟩)
  subst hll
  refine ⟨l, ⟨a, cap, rfl, hl, hm, hn⟩, fun k x hk => ?_⟩
  obtain ⟨b, o, rfl, c0⟩ := hq k x hk
  exact ⟨b, o, cap, rfl, World.block_lt_of_cell? W _ c0, c0⟩

end Go.Own
