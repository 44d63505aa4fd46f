/-
  Codec: readers with the blocks that they own. Conditions: none.
-/
import Derived.Test.YtenaakldccjnbaaCodSw
import Derived.Test.YtenaakldccjnbaaCodO
namespace Go.Proofs.Ytenaakldccjnbaa
open Go Go.RowKit Go.Own Go.Shelf

def Rd (w : World) (F : Nat → Prop) (b : Nat) (l : List UInt8) (s : RS) : Prop := ∃ v fp, RdAt w b v fp l s ∧ (∀ j, v.ownBlock = some j → j < w.heap.size) ∧ F = rdBlk b v fp
section
variable {w w' : World} {F M : Nat → Prop} {b : Nat} {l : List UInt8} {s s' : RS}
theorem Rd.lt (h : Rd w F b l s) : Lt F w := by
  obtain ⟨v, fp, h1, h2, rfl⟩ := h
  intro j hj
  rcases hj with rfl | hj | hj
  · exact h1.lt
  · exact h2 j hj
  · obtain ⟨at_, hb, hl, hf⟩ := h1.ex
    rcases hf with ⟨_, _, rfl⟩ | ⟨_, g, rfl, _, hc⟩
    · cases hj
    · cases hj; exact lt_of_block hc
theorem Rd.keeps (h : Rd w F b l s) (k : Keeps M w w') (d : Dis F M) : Rd w' F b l s := by
  obtain ⟨v, fp, h1, h2, rfl⟩ := h
  exact ⟨v, fp, h1.keeps k d, fun j hj => Nat.lt_of_lt_of_le (h2 j hj) k.size, rfl⟩
theorem Rd.keepsN (h : Rd w F b l s) (k : Keeps Nob w w') : Rd w' F b l s := h.keeps k (fun _ _ x => x)
theorem rd_step {v fp fp' : Value} (h : RdAt w b v fp l s) (hv : ∀ j, v.ownBlock = some j → j < w.heap.size) (hr : RdAt w' b v fp' l s') (hn : NewPtr w fp fp') (k : Keeps (One b) w w') :
    ∃ F', Rd w' F' b l s' ∧ Step w w' (rdBlk b v fp) F' := by
  have hv' := fun j hj => Nat.lt_of_lt_of_le (hv j hj) k.size
  have hR : Rd w' (rdBlk b v fp') b l s' := ⟨v, fp', hr, hv', rfl⟩
  refine ⟨_, hR, k.mono (fun _ _ e => .inl e), fun j hj => ?_⟩
  rcases hj with hj | hj | hj
  · exact .inl (.inl hj)
  · exact .inl (.inr (.inl hj))
  · rcases hn with rfl | ⟨g, rfl, hg⟩
    · exact .inl (.inr (.inr hj))
    · refine .inr ⟨?_, hR.lt j (.inr (.inr hj))⟩
      cases hj; exact hg
def RPost (w : World) (F : Nat → Prop) (b : Nat) (l : List UInt8) (x : Value) (s' : RS) (e : Ending) (w' : World) : Prop := e = .returned x ∧ ∃ F', Rd w' F' b l s' ∧ Step w w' F F'
theorem Rd.u (h : Rd w F b l s) : Calls Try.prog 47 #[.pointer (some ⟨b, 0, none⟩)] w (RPost w F b l (.int .u64 (rdU l s).1) (rdU l s).2) := by
  obtain ⟨v, fp, h1, h2, rfl⟩ := h
  exact (rU_ok b v fp l s w h1).mono fun e w' ⟨he, ⟨fp', h3, h4⟩, h5⟩ => ⟨he, rd_step h1 h2 h3 h4 h5⟩
theorem Rd.n (h : Rd w F b l s) (least most : Int) (m2 : -9223372036854775808 ≤ least ∧ least ≤ 9223372036854775807) (m1 : -9223372036854775808 ≤ most ∧ most ≤ 9223372036854775807) :
    Calls Try.prog 45 #[.pointer (some ⟨b, 0, none⟩), .int .i64 least, .int .i64 most] w (RPost w F b l (.int .i64 (rdN l s least most).1) (rdN l s least most).2) := by
  obtain ⟨v, fp, h1, h2, rfl⟩ := h
  exact (rN_ok b v fp l s least most w h1 m2 m1).mono fun e w' ⟨he, ⟨fp', h3, h4⟩, h5⟩ => ⟨he, rd_step h1 h2 h3 h4 h5⟩
theorem Rd.hash (h : Rd w F b l s) (hll : l.length ≤ 100000000) : Calls Try.prog 46 #[.pointer (some ⟨b, 0, none⟩)] w (RPost w F b l (.agg (B (rdH l s).1).toArray) (rdH l s).2) := by
  obtain ⟨v, fp, h1, h2, rfl⟩ := h
  exact (rHash_ok b v fp l s w h1 hll).mono fun e w' ⟨he, ⟨fp', h3, h4⟩, h5⟩ => ⟨he, rd_step h1 h2 h3 h4 h5⟩
theorem Rd.fin (h : Rd w F b l s) : Calls Try.prog 44 #[.pointer (some ⟨b, 0, none⟩)] w fun e w' => e = .returned (.agg #[.int .i64 (s.fin l).1, .int .i64 (s.fin l).2]) ∧ Keeps Nob w w' := by
  obtain ⟨v, fp, h1, _, _⟩ := h
  exact rEnd_ok b v fp l s w h1
theorem rd_new (a : Value) (l : List UInt8) (w : World) (ha : BytesAt w a l) (hl : l.length ≤ 100000000) :
    Calls Try.prog 42 #[a] w fun e w' => ∃ b F, e = .returned (.pointer (some ⟨b, 0, none⟩)) ∧ Rd w' F b l ⟨0, 0⟩ ∧ Ge F w ∧ Keeps Nob w w' :=
  (newReader_ok a l w ha hl).mono fun e w' ⟨b, v, he, hr, hb, hf, hk⟩ => by
    refine ⟨b, _, he, ⟨v, _, hr, fun j hj => (hf j hj).2, rfl⟩, ?_, hk⟩
    intro j hj
    rcases hj with rfl | hj | hj
    · exact hb
    · exact (hf j hj).1
    · cases hj
end
end Go.Proofs.Ytenaakldccjnbaa
