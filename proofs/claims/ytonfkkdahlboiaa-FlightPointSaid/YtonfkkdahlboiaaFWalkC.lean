/- FlightPoint, from the cells of its arguments. -/
import Derived.Test.YtonfkkdahlboiaaFPoint
import Derived.Test.YtonfkkdahlboiaaFWalkH
namespace Go.Proofs.Ytonfkkdahlboiaa
open Go.RowKit

theorem flightPoint_walk (w : World) (x : Int) (a : Option Addr) (len cap : Nat) (g : Int) (h0 : Rds w [.int .u32] (Value.int .u32 x).cells.toList) (h1 : Rds w [.sl [.int .u8]] (Value.slice a len cap).cells.toList)
    (h2 : Rds w [.int .u8] (Value.int .u8 g).cells.toList) :
    Calls Try.prog 5 #[.int .u32 x, .slice a len cap, .int .u8 g] w fun e w' => e = .returned (.bool true) ∧ Below w.heap.size w w' := by
  obtain ⟨hn1, l1, hl1, hs1⟩ := u8_slice h1
  exact law_calls (flPoint_cd _ x a len cap l1 g (wfu32 (wf_cell h0)) (wfu8 (wf_cell h2)) hn1 hl1 hs1)
end Go.Proofs.Ytonfkkdahlboiaa
