/-
  Codec: readers with the blocks that they own. Conditions: none.
-/
import Derived.Test.YtmapcghgdbfmhaaCodSw
import Derived.Test.YtmapcghgdbfmhaaCodO
namespace Go.Proofs.Ytmapcghgdbfmhaa
open Go Go.RowKit Go.Own Go.Shelf

def Rd (w : World) (F : Nat → Prop) (b : Nat) (l : List UInt8) (s : RS) : Prop := ∃ v fp, RdAt w b v fp l s ∧ (∀ j, v.ownBlock = some j → j < w.heap.size) ∧ F = rdBlk b v fp
section
variable {w w' : World} {F M : Nat → Prop} {b : Nat} {l : List UInt8} {s s' : RS}
theorem Rd.lt (h : Rd w F b l s) : Lt F w := by
  obtain ⟨v, fp, h1, h2, rfl⟩ := h
  intro j hj
  rcases hj with rfl | hj | hj
  · exact h1.lt
  · exact h2 j hj
  · obtain ⟨at_, hb, hl, hf⟩ := h1.ex
    rcases hf with ⟨_, _, rfl⟩ | ⟨_, g, rfl, _, hc⟩
    · cases hj
    · cases hj; exact lt_of_block hc
theorem Rd.keeps (h : Rd w F b l s) (k : Keeps M w w') (d : Dis F M) : Rd w' F b l s := by
  obtain ⟨v, fp, h1, h2, rfl⟩ := h
  exact ⟨v, fp, h1.keeps k d, fun j hj => Nat.lt_of_lt_of_le (h2 j hj) k.size, rfl⟩
theorem Rd.keepsN (h : Rd w F b l s) (k : Keeps Nob w w') : Rd w' F b l s := h.keeps k (fun _ _ x => x)
theorem rd_step {v fp fp' : Value} (h : RdAt w b v fp l s) (hv : ∀ j, v.ownBlock = some j → j < w.heap.size) (hr : RdAt w' b v fp' l s') (hn : NewPtr w fp fp') (k : Keeps (One b) w w') :
    ∃ F', Rd w' F' b l s' ∧ Step w w' (rdBlk b v fp) F' := by
  have hv' := fun j hj => Nat.lt_of_lt_of_le (hv j hj) k.size
  have hR : Rd w' (rdBlk b v fp') b l s' := ⟨v, fp', hr, hv', rfl⟩
  refine ⟨_, hR, k.mono (fun _ _ e => .inl e), fun j hj => ?_⟩
  rcases hj with hj | hj | hj
  · exact .inl (.inl hj)
  · exact .inl (.inr (.inl hj))
  · rcases hn with rfl | ⟨g, rfl, hg⟩
    · exact .inl (.inr (.inr hj))
    · refine .inr ⟨?_, hR.lt j (.inr (.inr hj))⟩
      cases hj; exact hg
def RPost (w : World) (F : Nat → Prop) (b : Nat) (l : List UInt8) (x : Value) (s' : RS) (e : Ending) (w' : World) : Prop := e = .returned x ∧ ∃ F', Rd w' F' b l s' ∧ Step w w' F F'
theorem Rd.u (h : Rd w F b l s) : Calls Try.prog 138 #[.pointer (some ⟨b, 0, none⟩)] w (RPost w F b l (.int .u64 (rdU l s).1) (rdU l s).2) := by
  obtain ⟨v, fp, h1, h2, rfl⟩ := h
  exact (rU_ok b v fp l s w h1).mono fun e w' ⟨he, ⟨fp', h3, h4⟩, h5⟩ => ⟨he, rd_step h1 h2 h3 h4 h5⟩
theorem Rd.n (h : Rd w F b l s) (least most : Int) (m2 : -9223372036854775808 ≤ least ∧ least ≤ 9223372036854775807) (m1 : -9223372036854775808 ≤ most ∧ most ≤ 9223372036854775807) :
    Calls Try.prog 39 #[.pointer (some ⟨b, 0, none⟩), .int .i64 least, .int .i64 most] w (RPost w F b l (.int .i64 (rdN l s least most).1) (rdN l s least most).2) := by
  obtain ⟨v, fp, h1, h2, rfl⟩ := h
  exact (rN_ok b v fp l s least most w h1 m2 m1).mono fun e w' ⟨he, ⟨fp', h3, h4⟩, h5⟩ => ⟨he, rd_step h1 h2 h3 h4 h5⟩
theorem Rd.hash (h : Rd w F b l s) (hll : l.length ≤ 100000000) : Calls Try.prog 139 #[.pointer (some ⟨b, 0, none⟩)] w (RPost w F b l (.agg (B (rdH l s).1).toArray) (rdH l s).2) := by
  obtain ⟨v, fp, h1, h2, rfl⟩ := h
  exact (rHash_ok b v fp l s w h1 hll).mono fun e w' ⟨he, ⟨fp', h3, h4⟩, h5⟩ => ⟨he, rd_step h1 h2 h3 h4 h5⟩
theorem Rd.blob (h : Rd w F b l s) (hll : l.length ≤ 100000000) (most : Int) (m1 : -9223372036854775808 ≤ most ∧ most ≤ 9223372036854775807) :
    Calls Try.prog 58 #[.pointer (some ⟨b, 0, none⟩), .int .i64 most] w fun e w' => ∃ X, e = .returned X ∧ Row w' 5 1 X (rdB l s most).1.length (B (rdB l s most).1) ∧ ∃ F', Rd w' F' b l (rdB l s most).2 ∧ Step w w' F F' ∧ Ge (OwnB X) w ∧ Dis (OwnB X) F' := by
  obtain ⟨v, fp, h1, h2, rfl⟩ := h
  refine (rBlob_ok b v fp l s most w h1 hll m1).mono fun e w' ⟨X, he, hr, ⟨fp', h3, h4, h5⟩, h6⟩ => ?_
  have hv' := fun j hj => Nat.lt_of_lt_of_le (h2 j hj) h6.size
  have hR : Rd w' (rdBlk b v fp') b l (rdB l s most).2 := ⟨v, fp', h3, hv', rfl⟩
  refine ⟨X, he, hr, _, hR, ⟨h6.mono (fun _ _ e => .inl e), fun j hj => ?_⟩, fun j hj => (h5 j hj).1, fun j hj hf => ?_⟩
  · rcases hj with hj | hj | hj
    · exact .inl (.inl hj)
    · exact .inl (.inr (.inl hj))
    · rcases h4 with rfl | ⟨g, rfl, hg⟩
      · exact .inl (.inr (.inr hj))
      · refine .inr ⟨?_, hR.lt j (.inr (.inr hj))⟩
        cases hj; exact hg
  · have h7 := (h5 j hj).1
    rcases hf with hf | hf | hf
    · have := h1.lt; omega
    · have := h2 j hf; omega
    · exact (h5 j hj).2 hf
theorem Rd.fin (h : Rd w F b l s) : Calls Try.prog 42 #[.pointer (some ⟨b, 0, none⟩)] w fun e w' => e = .returned (.agg #[.int .i64 (s.fin l).1, .int .i64 (s.fin l).2]) ∧ Keeps Nob w w' := by
  obtain ⟨v, fp, h1, _, _⟩ := h
  exact rEnd_ok b v fp l s w h1
theorem rd_new (a : Value) (l : List UInt8) (w : World) (ha : BytesAt w a l) (hl : l.length ≤ 100000000) :
    Calls Try.prog 38 #[a] w fun e w' => ∃ b F, e = .returned (.pointer (some ⟨b, 0, none⟩)) ∧ Rd w' F b l ⟨0, 0⟩ ∧ Ge F w ∧ Keeps Nob w w' :=
  (newReader_ok a l w ha hl).mono fun e w' ⟨b, v, he, hr, hb, hf, hk⟩ => by
    refine ⟨b, _, he, ⟨v, _, hr, fun j hj => (hf j hj).2, rfl⟩, ?_, hk⟩
    intro j hj
    rcases hj with rfl | hj | hj
    · exact hb
    · exact (hf j hj).1
    · cases hj
end
end Go.Proofs.Ytmapcghgdbfmhaa
