/-
  Codec: CodecBack's walk, its arguments in the frame's order. Conditions: none.
-/
import Derived.Test.YtbdjphaiohinnaaCodBw
namespace Go.Proofs.Ytbdjphaiohinnaa
open Go Go.RowKit Go.Own Go.Shelf
theorem codecBack_fr (v : Value) (l : List Th) (cut : Int) (hcut : -9223372036854775808 ≤ cut ∧ cut ≤ 9223372036854775807) (n : Nat) (hn : n < 2 ^ 64) (m : Nat) (hm : m < 2 ^ 64) (w : World) (h : ThingsAt w v l) :
    Calls Try.prog 7 #[v, .int .i64 cut, .int .u64 (n : Int), .int .u64 (m : Int)] w fun e w' => e = .returned (.bool true) ∧ Keeps Nob w w' := codecBack_ok v l cut n m w hcut hn hm h
end Go.Proofs.Ytbdjphaiohinnaa
