/-
  Codec: regions of the laws 'asked' and 'back' (printed by codask.py). Conditions: none.
-/
import Derived.Test.YtmapcghgdbfmhaaCodSp
import Derived.Test.YtmapcghgdbfmhaaRegion2
import Derived.Test.YtmapcghgdbfmhaaMore
import Derived.Test.YtmapcghgdbfmhaaArr
namespace Go.Proofs.Ytmapcghgdbfmhaa
open Go Go.RowKit Go.Own Go.Shelf
theorem hash_eql (l m : List UInt8) (hl : l.length = 32) (hm : m.length = 32) (w : World) : (binOp .eql 29 (.agg (B l).toArray) (.agg (B m).toArray)).run Try.prog w = .ok (.bool (l == m)) w := by
  obtain ⟨i0, hi, _, _, _⟩ := info_parts u8_info0
  have h := run_equalIn_bytes (P := Try.prog) (t := 29) (e := 5) (n := 32) Try.underlying29 hi (by kernel_rfl) Try.underlying5 (by kernel_rfl) 9998 l m w hl hm
  rw [run_eql_struct, h]
  rfl
theorem hash_guard0 : Try.prog.eqGuardType Try.prog.depth 29 = false := by kernel_rfl

theorem fault_eql (e1 e2 : Int) (w : World) : (binOp .eql 38 (.agg #[.int .i64 e1, .int .i64 e2]) (.agg #[.int .i64 e1, .int .i64 e2])).run Try.prog w = .ok (.bool true) w := by
  have h1 := Try.underlying38
  have h2 := Try.underlying3
  have h3 := Try.underlying36
  have hs : Try.prog.stoodInHeld 38 = false := by kernel_rfl
  have hu : Try.prog.underlying 38 = some (.struct (Try.prog.fieldsOf 38)) := by kernel_rfl
  have hl : (Try.prog.fieldsOf 38).toList = [{ name := "Err", type := 36, offset := 0, embedded := false, tag := "", pkgPath := "", byteOffset := 0 }, { name := "At", type := 3, offset := 1, embedded := false, tag := "", pkgPath := "", byteOffset := 8 }] := by kernel_rfl
  rw [run_eql_struct, run_equalIn_agg _ _ _ _ _ hu hs, hl]
  simp [go_sem, Op.eqFields, h2, h3]
end Go.Proofs.Ytmapcghgdbfmhaa
