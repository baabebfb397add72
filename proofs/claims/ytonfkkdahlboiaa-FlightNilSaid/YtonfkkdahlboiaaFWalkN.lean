/- FlightNil, from the cells of its arguments. -/
import Derived.Test.YtonfkkdahlboiaaFNilW
import Derived.Test.YtonfkkdahlboiaaFWalkL
namespace Go.Proofs.Ytonfkkdahlboiaa
open Go.RowKit

theorem flightNil_walk (w : World) (c : List Value) (h0 : Rds w [.int .i64, .int .u32, .int .u16, .int .u16, .bool, .bool, .bool, .sl [.int .u8], .int .i64, .int .i64, .int .i64, .int .u32, .sl [.int .u16, .int .u16]] c) :
    Calls Try.prog 9 #[.agg c.toArray] w fun e w' => e = .returned (.bool true) ∧ Below w.heap.size w w' := by
  obtain ⟨o, rfl, ho⟩ := lop_read h0
  exact law_calls (flNil_cd _ o ho)
end Go.Proofs.Ytonfkkdahlboiaa
