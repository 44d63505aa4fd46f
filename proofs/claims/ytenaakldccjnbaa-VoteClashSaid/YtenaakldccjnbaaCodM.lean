/-
  Codec: what a reader reads: blobs. Conditions: none.
-/
import Derived.Test.YtenaakldccjnbaaCodL
namespace Go.Proofs.Ytenaakldccjnbaa
open Go Go.RowKit Go.Own Go.Shelf

/-- Why a blob is none; its length with its number; its bytes. -/
def errB (r : Nat × Nat × Int) (rest : List UInt8) (most : Int) : Int :=
  if r.2.2 = 0 then (if most < 0 ∨ most < (r.1 : Int) then 4 else if (rest.length : Int) - r.2.1 < r.1 then 6 else 0) else r.2.2
def lenB (r : Nat × Nat × Int) (rest : List UInt8) (most : Int) : Nat := if errB r rest most = 0 then r.2.1 + r.1 else 0
def bytesB (r : Nat × Nat × Int) (rest : List UInt8) : List UInt8 := (rest.drop r.2.1).take r.1
theorem errB_zero {r : Nat × Nat × Int} {rest : List UInt8} {most : Int} (h : errB r rest most = 0) : r.2.2 = 0 ∧ 0 ≤ most ∧ (r.1 : Int) ≤ most ∧ (r.2.1 : Int) + r.1 ≤ rest.length := by
  unfold errB at h
  split at h
  · rename_i h0
    split at h
    · omega
    · split at h <;> omega
  · rename_i h0; exact absurd h h0

/-- 's[k:h]'. -/
theorem run_cut2 {t : TypeId} (ht : Try.prog.underlying t = some (.slice (Try.prog.elem t))) (hz : ∀ w, (Go.sizeOf (Try.prog.elem t)).run Try.prog w = .ok 1 w) (A : Option Addr) (n cap k m : Nat) (hk : k ≤ m) (hm : m ≤ cap) (W : World) :
    (Instr.sliceAt t (.slice A n cap) (some (.int .i64 (k : Int))) (some (.int .i64 (m : Int))) none).run Try.prog W = .ok (.slice (if cap = k then A else A.map (·.add k)) (m - k) (cap - k)) W := by
  rw [run_sliceAt_slice W t _ _ _ _ ht, run_slice_lh W t _ _ _ ht _ _ _ _ (by omega) (by omega) (by omega), hz]
  simp [Result.andThen, sliced]

def RS.rest (s : RS) (l : List UInt8) : List UInt8 := l.drop s.pos.toNat
/-- Blob: what is told, and the state behind. -/
def rdB (l : List UInt8) (s : RS) (most : Int) : List UInt8 × RS :=
  (if s.err = 0 ∧ errB (s.num l) (s.rest l) most = 0 then bytesB (s.num l) (s.rest l) else [], s.read (lenB (s.num l) (s.rest l) most) (errB (s.num l) (s.rest l) most))
theorem RdAt.clean {w : World} {b : Nat} {v fp : Value} {l : List UInt8} {s : RS} (h : RdAt w b v fp l s) (h0 : s.err = 0) : fp = .pointer none := by
  obtain ⟨at_, hb, hl, hf⟩ := h.ex
  rcases hf with ⟨_, hp, h1⟩ | ⟨h1, _⟩
  · exact h1
  · exact absurd h0 h1
theorem RS.read_ok {s : RS} {k : Nat} {er : Int} (h0 : s.err = 0) (he : er = 0) : (s.read k er).err = 0 := by
  unfold RS.read; rw [if_pos h0, if_pos he]

end Go.Proofs.Ytenaakldccjnbaa
