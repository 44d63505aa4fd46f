/-
  Codec: a reader and a writer side by side. Conditions: none.
-/
import Derived.Test.YtbdjphaiohinnaaCodOw
namespace Go.Proofs.Ytbdjphaiohinnaa
open Go Go.RowKit Go.Own Go.Shelf

/-- A reader and a writer side by side, neither of them there at w. -/
def RW (w V : World) (b c : Nat) (l : List UInt8) (s : RS) (t : WS) : Prop :=
  ∃ F G, Rd V F b l s ∧ Wr V G c t ∧ Dis F G ∧ Ge F w ∧ Ge G w ∧ Keeps Nob w V
section
variable {w V V' : World} {b c : Nat} {l : List UInt8} {s : RS} {t : WS} {M : Nat → Prop}
theorem RW.new (h : RW w V b c l s t) (k : Keeps M V V') (hm : ∀ j, M j → V.heap.size ≤ j) : RW w V' b c l s t := by
  obtain ⟨F, G, h1, h2, d, g1, g2, hk⟩ := h
  exact ⟨F, G, h1.keeps k (fun j hj hx => by have := h1.lt j hj; have := hm j hx; omega), h2.keeps k (fun j hj hx => by have := h2.lt j hj; have := hm j hx; omega), d, g1, g2, hk.then k (fun i hi hx => by have := hm i hx; have := hk.size; omega)⟩
theorem RW.nob (h : RW w V b c l s t) (k : Keeps Nob V V') : RW w V' b c l s t := h.new k (fun _ x => x.elim)
theorem RW.keep (h : RW w V b c l s t) : Keeps Nob w V := by
  obtain ⟨F, G, h1, h2, d, g1, g2, hk⟩ := h
  exact hk
theorem RW.u (h : RW w V b c l s t) : Calls Try.prog 38 #[.pointer (some ⟨b, 0, none⟩)] V fun e V' => e = .returned (.int .u64 (rdU l s).1) ∧ RW w V' b c l (rdU l s).2 t := by
  obtain ⟨F, G, h1, h2, d, g1, g2, hk⟩ := h
  exact h1.u.mono fun e V' ⟨he, F', h3, st⟩ => ⟨he, F', G, h3, h2.keeps st.1 d.symm, st.dis d h2.lt, st.ge g1 hk.size, g2, st.keeps hk g1⟩
theorem RW.hash (h : RW w V b c l s t) (hll : l.length ≤ 100000000) : Calls Try.prog 41 #[.pointer (some ⟨b, 0, none⟩)] V fun e V' => e = .returned (.agg (B (rdH l s).1).toArray) ∧ RW w V' b c l (rdH l s).2 t := by
  obtain ⟨F, G, h1, h2, d, g1, g2, hk⟩ := h
  exact (h1.hash hll).mono fun e V' ⟨he, F', h3, st⟩ => ⟨he, F', G, h3, h2.keeps st.1 d.symm, st.dis d h2.lt, st.ge g1 hk.size, g2, st.keeps hk g1⟩
theorem RW.blob (h : RW w V b c l s t) (hll : l.length ≤ 100000000) (most : Int) (m1 : -9223372036854775808 ≤ most ∧ most ≤ 9223372036854775807) :
    Calls Try.prog 37 #[.pointer (some ⟨b, 0, none⟩), .int .i64 most] V fun e V' => ∃ X, e = .returned X ∧ BytesAt V' X (rdB l s most).1 ∧ RW w V' b c l (rdB l s most).2 t := by
  obtain ⟨F, G, h1, h2, d, g1, g2, hk⟩ := h
  exact (h1.blob hll most m1).mono fun e V' ⟨X, he, hX, F', h3, st, _, _⟩ => ⟨X, he, Row.bytes hX, F', G, h3, h2.keeps st.1 d.symm, st.dis d h2.lt, st.ge g1 hk.size, g2, st.keeps hk g1⟩
theorem RW.at_ (h : RW w V b c l s t) : Calls Try.prog 23 #[.pointer (some ⟨b, 0, none⟩)] V fun e V' => e = .returned (.int .i64 s.pos) ∧ V = V' := by
  obtain ⟨F, G, h1, h2, d, g1, g2, hk⟩ := h
  exact h1.at_
theorem RW.left (h : RW w V b c l s t) : Calls Try.prog 25 #[.pointer (some ⟨b, 0, none⟩)] V fun e V' => e = .returned (.int .i64 (s.left l)) ∧ ∃ n, V' = V.drewN n := by
  obtain ⟨F, G, h1, h2, d, g1, g2, hk⟩ := h
  exact h1.left
theorem RW.faulty (h : RW w V b c l s t) (hp : s.err = 0 → 0 ≤ s.pos ∧ s.pos ≤ l.length) (hll : l.length ≤ 100000000) : Calls Try.prog 47 #[.pointer (some ⟨b, 0, none⟩)] V fun e V' => e = .returned (.bool (decide (s.err ≠ 0))) ∧ Keeps Nob V V' := by
  obtain ⟨F, G, h1, h2, d, g1, g2, hk⟩ := h
  exact faulty_ok F b l s V h1 hp hll
theorem RW.w_ (h : RW w V b c l s t) {fid : FuncId} {args : Array Value} {t' : WS} (hc : ∀ G, Wr V G c t → Calls Try.prog fid args V (WPost2 V G c t')) : Calls Try.prog fid args V fun e V' => e = .returned (.int .i64 t'.err) ∧ RW w V' b c l s t' := by
  obtain ⟨F, G, h1, h2, d, g1, g2, hk⟩ := h
  exact (hc G h2).mono fun e V' ⟨he, G', h3, st⟩ => ⟨he, F, G', h1.keeps st.1 d, h3, (st.dis d.symm h1.lt).symm, g1, st.ge g2 hk.size, st.keeps hk g2⟩
theorem RW.done (h : RW w V b c l s t) : Calls Try.prog 35 #[.pointer (some ⟨c, 0, none⟩)] V (DPost t V) := by
  obtain ⟨F, G, h1, h2, d, g1, g2, hk⟩ := h
  exact h2.done
end
end Go.Proofs.Ytbdjphaiohinnaa
