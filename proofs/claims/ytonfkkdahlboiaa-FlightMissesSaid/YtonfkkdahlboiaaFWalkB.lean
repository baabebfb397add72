/- FlightMisses, from the cells of its arguments. -/
import Derived.Test.YtonfkkdahlboiaaFMiss
import Derived.Test.YtonfkkdahlboiaaFWalkH
namespace Go.Proofs.Ytonfkkdahlboiaa
open Go.RowKit

theorem flightMisses_walk (w : World) (x : Int) (a : Option Addr) (len cap : Nat) (g : Bool) (h0 : Rds w [.int .u32] (Value.int .u32 x).cells.toList) (h1 : Rds w [.sl [.int .u8]] (Value.slice a len cap).cells.toList)
    (_ : Rds w [.bool] (Value.bool g).cells.toList) :
    Calls Try.prog 3 #[.int .u32 x, .slice a len cap, .bool g] w fun e w' => e = .returned (.bool true) ∧ Below w.heap.size w w' := by
  obtain ⟨hn1, l1, hl1, hs1⟩ := u8_slice h1
  exact law_calls (flMisses_cd _ x a len cap l1 g (wfu32 (wf_cell h0)) hn1 hl1 hs1)
end Go.Proofs.Ytonfkkdahlboiaa
