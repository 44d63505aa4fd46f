/-
  Codec: writers with the blocks that they own. Conditions: none.
-/
import Derived.Test.YtmapcghgdbfmhaaSep
import Derived.Test.YtmapcghgdbfmhaaCodWs
namespace Go.Proofs.Ytmapcghgdbfmhaa
open Go Go.RowKit Go.Own Go.Shelf

/-- A slice's own block. -/
def OwnB (v : Value) : Nat → Prop := fun j => v.ownBlock = some j
def Wr (w : World) (F : Nat → Prop) (b : Nat) (s : WS) : Prop := ∃ v, WrAt w b v s ∧ F = WBlk b v
section
variable {w w' : World} {F M : Nat → Prop} {b : Nat} {t t' : WS}
theorem Wr.lt (h : Wr w F b t) : Lt F w := by
  obtain ⟨v, h1, rfl⟩ := h
  exact h1.blk_lt
theorem Wr.keeps (h : Wr w F b t) (k : Keeps M w w') (d : Dis F M) : Wr w' F b t := by
  obtain ⟨v, h1, rfl⟩ := h
  exact ⟨v, h1.keeps k d, rfl⟩
theorem Wr.keepsN (h : Wr w F b t) (k : Keeps Nob w w') : Wr w' F b t := h.keeps k (fun _ _ x => x)
theorem wr_step {v : Value} {e : Ending} (hp : WPost b v t' w e w') : e = .returned (.int .i64 t'.err) ∧ ∃ F', Wr w' F' b t' ∧ Step w w' (WBlk b v) F' := by
  obtain ⟨h1, ⟨v', h2, h3⟩, h4⟩ := hp
  refine ⟨h1, _, ⟨v', h2, rfl⟩, h4, fun j hj => ?_⟩
  rcases hj with hj | hj
  · exact .inl (.inl hj)
  · rcases h3 j hj with h | h
    · exact .inl (.inr h)
    · exact .inr ⟨h, h2.row.lt hj⟩

def WPost2 (w : World) (F : Nat → Prop) (b : Nat) (t' : WS) (e : Ending) (w' : World) : Prop := e = .returned (.int .i64 t'.err) ∧ ∃ F', Wr w' F' b t' ∧ Step w w' F F'

theorem wr_new (lim : Int) (w : World) (h0 : 0 ≤ lim) (h1 : lim ≤ 1048576) :
    Calls Try.prog 47 #[.int .i64 lim] w fun e w' => ∃ b F, e = .returned (.tuple #[.pointer (some ⟨b, 0, none⟩), .int .i64 0]) ∧ Wr w' F b ⟨lim, [], 0⟩ ∧ Ge F w ∧ Keeps Nob w w' :=
  (newWriter_ok lim w h0 h1).mono fun e w' ⟨b, he, hr, hb, hk⟩ => by
    refine ⟨b, _, he, ⟨_, hr, rfl⟩, ?_, hk⟩
    intro j hj
    rcases hj with rfl | hj
    · exact hb
    · cases hj
theorem Wr.u (h : Wr w F b t) (n : Nat) (hn : n < 2 ^ 64) : Calls Try.prog 72 #[.pointer (some ⟨b, 0, none⟩), .int .u64 (n : Int)] w (WPost2 w F b (t.add (Cod.enc n))) := by
  obtain ⟨v, h1, rfl⟩ := h
  exact (wU_ok b v t n w h1 hn).mono fun e w' hp => wr_step hp
theorem Wr.n (h : Wr w F b t) (n : Int) (h0 : 0 ≤ n) (h1 : n ≤ 9223372036854775807) : Calls Try.prog 48 #[.pointer (some ⟨b, 0, none⟩), .int .i64 n] w (WPost2 w F b (t.add (Cod.enc n.toNat))) := by
  obtain ⟨v, h2, rfl⟩ := h
  exact (wN_ok b v t n w h2 h0 h1).mono fun e w' hp => wr_step hp
theorem Wr.hash (h : Wr w F b t) (l : List UInt8) (hl : l.length = 32) : Calls Try.prog 147 #[.pointer (some ⟨b, 0, none⟩), .agg (B l).toArray] w (WPost2 w F b (t.add l)) := by
  obtain ⟨v, h1, rfl⟩ := h
  exact (wHash_ok b v t l w h1 hl).mono fun e w' hp => wr_step hp
theorem Wr.blob (h : Wr w F b t) (x : Value) (l : List UInt8) (hx : BytesAt w x l) (hl : l.length ≤ 9000000) : Calls Try.prog 57 #[.pointer (some ⟨b, 0, none⟩), x] w (WPost2 w F b (t.add (Cod.enc l.length ++ l))) := by
  obtain ⟨v, h1, rfl⟩ := h
  exact (wBlob_ok b v t x l w h1 hx hl).mono fun e w' hp => wr_step hp
theorem Wr.done (h : Wr w F b t) : Calls Try.prog 49 #[.pointer (some ⟨b, 0, none⟩)] w (DPost t w) := by
  obtain ⟨v, h1, _⟩ := h
  exact wDone_ok b v t w h1
end
end Go.Proofs.Ytmapcghgdbfmhaa
