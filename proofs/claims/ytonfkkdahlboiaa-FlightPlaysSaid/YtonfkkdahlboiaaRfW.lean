/- FlightPlays, from the cells of its arguments. -/
import Derived.Test.YtonfkkdahlboiaaRfP
import Derived.Test.YtonfkkdahlboiaaFWalkL
namespace Go.Proofs.Ytonfkkdahlboiaa
open Go.RowKit

theorem flightPlays_walk (w : World) (paths x : Int) (a : Option Addr) (len cap : Nat) (_ : Rds w [.int .i64] (Value.int .i64 paths).cells.toList) (h0 : Rds w [.int .u32] (Value.int .u32 x).cells.toList)
    (h1 : Rds w [.sl [.int .i64, .int .u32, .int .u16, .int .u16, .bool, .bool, .bool, .sl [.int .u8], .int .i64, .int .i64, .int .i64, .int .u32, .sl [.int .u16, .int .u16]]] (Value.slice a len cap).cells.toList) :
    Calls Try.prog 8 #[.int .i64 paths, .int .u32 x, .slice a len cap] w fun e w' => e = .returned (.bool true) ∧ Below w.heap.size w w' := by
  obtain ⟨ops, hl, ho, hs⟩ := lops_read h1
  exact law_calls (plays_pre _ paths x a len cap ops (wfu32 (wf_cell h0)) hl ho hs)
end Go.Proofs.Ytonfkkdahlboiaa
