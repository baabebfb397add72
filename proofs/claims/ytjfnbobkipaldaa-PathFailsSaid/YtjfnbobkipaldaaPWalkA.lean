/- PathNil and PathPlays, from the cells of their arguments. -/
import Derived.Test.YtjfnbobkipaldaaPPlays
namespace Go.Proofs.Ytjfnbobkipaldaa
open Go.RowKit

theorem pop_read {w : World} {c : List Value} (h : Rds w [.int .i64, .int .i64, .bool, .int .i64, .int .i64] c) : ∃ o : POp, c = o.cells ∧ POpOk o := by
  obtain ⟨v1, l, rfl, h1, h⟩ := rds_cons h
  obtain ⟨v2, l, rfl, h2, h⟩ := rds_cons h
  obtain ⟨v3, l, rfl, h3, h⟩ := rds_cons h
  obtain ⟨v4, l, rfl, h4, h⟩ := rds_cons h
  obtain ⟨v5, l, rfl, h5, h⟩ := rds_cons h
  obtain rfl := rds_nil h
  obtain ⟨k, rfl, _⟩ := rd_int h1
  obtain ⟨n, rfl, hn⟩ := rd_int h2
  obtain ⟨b, rfl⟩ := rd_bool h3
  obtain ⟨t, rfl, ht⟩ := rd_int h4
  obtain ⟨u, rfl, hu⟩ := rd_int h5
  exact ⟨⟨k, n, b, t, u⟩, rfl, ⟨(wf64 ht).2, (wf64 hu).2⟩⟩

theorem pops_read {w : World} {a : Option Addr} {len cap : Nat} (h : Rds w [.sl [.int .i64, .int .i64, .bool, .int .i64, .int .i64]] (Value.slice a len cap).cells.toList) :
    ∃ ops : List POp, len ≤ 9223372036854775807 ∧ (∀ o ∈ ops, POpOk o) ∧ SliceAt (heapSeg w) 5 a len (ops.map POp.cells) := by
  obtain ⟨v', l, e, h, _⟩ := rds_cons h
  obtain ⟨rfl, _⟩ := List.cons.inj e
  obtain ⟨a', len', cap', xs, ev, hl, hs, hx⟩ := slice_of_rd h
  cases ev
  obtain ⟨ops, rfl, ho⟩ := map_of_all (q := POpOk) (fun x h => pop_read h) xs hx
  exact ⟨ops, (by unfold maxLen at hl; omega), ho, hs⟩

theorem cfg_read {w : World} {c : List Value} (h : Rds w [.int .i64, .int .i64, .int .i64, .int .i64, .int .i64, .int .i64, .int .i64, .int .i64, .int .i64, .int .i64, .int .i64, .int .i64, .int .i64, .int .i64] c) :
    ∃ o : Cfg, c = o.cells ∧ -9223372036854775808 ≤ o.mtu ∧ o.mtu ≤ 9223372036854775807 := by
  obtain ⟨v1, l, rfl, h1, h⟩ := rds_cons h
  obtain ⟨v2, l, rfl, h2, h⟩ := rds_cons h
  obtain ⟨v3, l, rfl, h3, h⟩ := rds_cons h
  obtain ⟨v4, l, rfl, h4, h⟩ := rds_cons h
  obtain ⟨v5, l, rfl, h5, h⟩ := rds_cons h
  obtain ⟨v6, l, rfl, h6, h⟩ := rds_cons h
  obtain ⟨v7, l, rfl, h7, h⟩ := rds_cons h
  obtain ⟨v8, l, rfl, h8, h⟩ := rds_cons h
  obtain ⟨v9, l, rfl, h9, h⟩ := rds_cons h
  obtain ⟨v10, l, rfl, h10, h⟩ := rds_cons h
  obtain ⟨v11, l, rfl, h11, h⟩ := rds_cons h
  obtain ⟨v12, l, rfl, h12, h⟩ := rds_cons h
  obtain ⟨v13, l, rfl, h13, h⟩ := rds_cons h
  obtain ⟨v14, l, rfl, h14, h⟩ := rds_cons h
  obtain rfl := rds_nil h
  obtain ⟨a1, rfl, _⟩ := rd_int h1
  obtain ⟨a2, rfl, hm⟩ := rd_int h2
  obtain ⟨a3, rfl, _⟩ := rd_int h3
  obtain ⟨a4, rfl, _⟩ := rd_int h4
  obtain ⟨a5, rfl, _⟩ := rd_int h5
  obtain ⟨a6, rfl, _⟩ := rd_int h6
  obtain ⟨a7, rfl, _⟩ := rd_int h7
  obtain ⟨a8, rfl, _⟩ := rd_int h8
  obtain ⟨a9, rfl, _⟩ := rd_int h9
  obtain ⟨a10, rfl, _⟩ := rd_int h10
  obtain ⟨a11, rfl, _⟩ := rd_int h11
  obtain ⟨a12, rfl, _⟩ := rd_int h12
  obtain ⟨a13, rfl, _⟩ := rd_int h13
  obtain ⟨a14, rfl, _⟩ := rd_int h14
  exact ⟨⟨a1, a2, a3, a4, a5, a6, a7, a8, a9, a10, a11, a12, a13, a14⟩, rfl, wf64 hm⟩

theorem pathNil_walk (w : World) (c : List Value) (h : Rds w [.int .i64, .int .i64, .bool, .int .i64, .int .i64] c) :
    Calls Try.prog 14 #[.agg c.toArray] w fun e w' => e = .returned (.bool true) ∧ Below w.heap.size w w' := by
  obtain ⟨o, rfl, _⟩ := pop_read h
  exact law_calls (pathNil_cd _ o)
theorem pathPlays_walk (w : World) (c : List Value) (now : Int) (a : Option Addr) (len cap : Nat) (h0 : Rds w [.int .i64, .int .i64, .int .i64, .int .i64, .int .i64, .int .i64, .int .i64, .int .i64, .int .i64, .int .i64, .int .i64, .int .i64, .int .i64, .int .i64] c)
    (h1 : Rds w [.int .i64] (Value.int .i64 now).cells.toList) (h2 : Rds w [.sl [.int .i64, .int .i64, .bool, .int .i64, .int .i64]] (Value.slice a len cap).cells.toList) :
    Calls Try.prog 11 #[.agg c.toArray, .int .i64 now, .slice a len cap] w fun e w' => e = .returned (.bool true) ∧ Below w.heap.size w w' := by
  obtain ⟨o, rfl, hm⟩ := cfg_read h0
  obtain ⟨ops, hl, ho, hs⟩ := pops_read h2
  exact law_calls (pathPlays_cd _ o now a len cap ops hm hl ho hs)
end Go.Proofs.Ytjfnbobkipaldaa
