/-
  Params: what the listed tables give the walks; ParamsTell's walk in the frame's order. Conditions: none.
-/
import Derived.Test.YtpflmldmbpnllaaDoorPmF
import Derived.Test.YtpflmldmbpnllaaDoorRows
import Derived.Lib.LaidU8
import Derived.LaidMore
namespace Go.Proofs.YtpflmldmbpnllaaDoor
open Go Go.RowKit Go.Own Go.Shelf
theorem pow_of {l : List (String × DataW Unit)} {W : World} (h : laidMet Tryd.prog l W) (hm : ("internal/strconv.uint64pow10", Lib.tabData .u64 Lib.pow10Tab) ∈ l) : PowTab W := by
  obtain ⟨g, t, cs, fuel, p, hg, ht, hv, hd⟩ := Lib.laidMet.reads h hm
  have h1 : (do let g ← Tryd.prog.globalNamed "internal/strconv.uint64pow10"; let v ← Tryd.prog.globals[g]?; Tryd.prog.underlying v.type) = some (.array 20 22) := by kernel_rfl
  have h2 : (do let g ← Tryd.prog.globalNamed "internal/strconv.uint64pow10"; let v ← Tryd.prog.globals[g]?; some (Tryd.prog.cellsOf v.type)) = some 20 := by kernel_rfl
  have h3 : Tryd.prog.cellsOf 22 = 1 := by kernel_rfl
  cases hx : Tryd.prog.globals[g]? with
  | none => rw [hx] at ht; cases ht
  | some v =>
    rw [hx] at ht
    simp only [Option.map_some, Option.some.injEq] at ht
    simp only [hg, hx, Option.bind_eq_bind, Option.bind_some, Option.some.injEq] at h1 h2
    rw [ht] at h1 h2
    unfold PowTab Lib.TabIs
    rw [hv, ← Lib.cells_of_tab h1 Tryd.underlying22 h3 h2 hd]
theorem pow_data {H : Type} : (Rows.laid_internal_strconv_uint64pow10 : DataW H) = Lib.tabData .u64 Lib.pow10Tab := rfl
theorem pow_tell {W : World} (h : laidMetH Tryd.prog Rows.paramsTellRow.laid W) : PowTab W := by
  rw [MakeChecks.laidMetH_plain _ _ _ (by kernel_rfl)] at h
  exact pow_of h (List.Mem.tail _ (List.Mem.tail _ (List.Mem.head _)))
theorem tell_all (p : Par) (hp : p.Ok) (s : List UInt8) (n : Nat) (hn : n < 2 ^ 64) (w : World) (htab : PowTab w) : Calls Tryd.prog 3 #[.agg p.cells, .string ⟨⟨s⟩⟩, .int .u64 ((n : Nat) : Int)] w (fun e w' => e = .returned (.bool true) ∧ Keeps Nob w w') := tell_ok p ⟨⟨s⟩⟩ n w hp htab
end Go.Proofs.YtpflmldmbpnllaaDoor
