/- WindowNil: no window lets anything be under way: the walk of the law from its argument's cells. -/
import Derived.Test.YtjfnbobkipaldaaWinL
import Derived.Test.YtjfnbobkipaldaaLibG
namespace Go.Proofs.Ytjfnbobkipaldaa
open Go.RowKit

theorem wop_read {w : World} {c : List Value} (h : Rds w [.int .i64, .int .i64, .bool] c) : ∃ o : WOp, c = o.cells ∧ -9223372036854775808 ≤ o.n ∧ o.n ≤ 9223372036854775807 := by
  obtain ⟨v1, l, rfl, h1, h⟩ := rds_cons h
  obtain ⟨v2, l, rfl, h2, h⟩ := rds_cons h
  obtain ⟨v3, l, rfl, h3, h⟩ := rds_cons h
  obtain rfl := rds_nil h
  obtain ⟨k, rfl, _⟩ := rd_int h1
  obtain ⟨n, rfl, hn⟩ := rd_int h2
  obtain ⟨b, rfl⟩ := rd_bool h3
  exact ⟨⟨k, n, b⟩, rfl, wf64 hn⟩

theorem windowNil_walk (w : World) (c : List Value) (h : Rds w [.int .i64, .int .i64, .bool] c) :
    Calls Try.prog 8 #[.agg c.toArray] w fun e w' => e = .returned (.bool true) ∧ Below w.heap.size w w' := by
  obtain ⟨o, rfl, _⟩ := wop_read h
  exact law_calls (windowNil_cd _ o)
end Go.Proofs.Ytjfnbobkipaldaa
