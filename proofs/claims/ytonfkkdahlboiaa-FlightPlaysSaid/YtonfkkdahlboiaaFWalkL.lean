/- Operations from the cells of the arguments. (Not to be imported beside FWalkM, which has the same lemmas.) -/
import Derived.Test.YtonfkkdahlboiaaFOps
import Derived.Test.YtonfkkdahlboiaaFWalkH
namespace Go.Proofs.Ytonfkkdahlboiaa
open Go.RowKit

theorem lop_read {w : World} {c : List Value} (h : Rds w [.int .i64, .int .u32, .int .u16, .int .u16, .bool, .bool, .bool, .sl [.int .u8], .int .i64, .int .i64, .int .i64, .int .u32, .sl [.int .u16, .int .u16]] c) :
    ∃ o : LOp, c = o.cells ∧ o.ok (heapSeg w) := by
  obtain ⟨v1, l, rfl, h1, h⟩ := rds_cons h
  obtain ⟨v2, l, rfl, h2, h⟩ := rds_cons h
  obtain ⟨v3, l, rfl, h3, h⟩ := rds_cons h
  obtain ⟨v4, l, rfl, h4, h⟩ := rds_cons h
  obtain ⟨v5, l, rfl, h5, h⟩ := rds_cons h
  obtain ⟨v6, l, rfl, h6, h⟩ := rds_cons h
  obtain ⟨v7, l, rfl, h7, h⟩ := rds_cons h
  obtain ⟨v8, l, rfl, h8, h⟩ := rds_cons h
  obtain ⟨v9, l, rfl, h9, h⟩ := rds_cons h
  obtain ⟨v10, l, rfl, h10, h⟩ := rds_cons h
  obtain ⟨v11, l, rfl, h11, h⟩ := rds_cons h
  obtain ⟨v12, l, rfl, h12, h⟩ := rds_cons h
  obtain ⟨v13, l, rfl, h13, h⟩ := rds_cons h
  obtain rfl := rds_nil h
  obtain ⟨n1, rfl, _⟩ := rd_int h1
  obtain ⟨n2, rfl, _⟩ := rd_int h2
  obtain ⟨n3, rfl, _⟩ := rd_int h3
  obtain ⟨n4, rfl, _⟩ := rd_int h4
  obtain ⟨b5, rfl⟩ := rd_bool h5
  obtain ⟨b6, rfl⟩ := rd_bool h6
  obtain ⟨b7, rfl⟩ := rd_bool h7
  obtain ⟨a8, len8, cap8, xs8, rfl, hl8, hs8, hx8⟩ := slice_of_rd h8
  obtain ⟨n9, rfl, _⟩ := rd_int h9
  obtain ⟨n10, rfl, _⟩ := rd_int h10
  obtain ⟨n11, rfl, _⟩ := rd_int h11
  obtain ⟨n12, rfl, hn12⟩ := rd_int h12
  obtain ⟨a13, len13, cap13, xs13, rfl, hl13, hs13, hx13⟩ := slice_of_rd h13
  obtain ⟨ys8, rfl, _⟩ := map_of_all (c := fun x : Int => [Value.int .u8 x]) (q := fun _ => True) (fun x h => by
    obtain ⟨v1, l, rfl, h1, h⟩ := rds_cons h
    obtain rfl := rds_nil h
    obtain ⟨n, rfl, hn⟩ := rd_int h1
    exact ⟨n, rfl, trivial⟩) xs8 hx8
  obtain ⟨ys13, rfl, hy13⟩ := map_of_all (c := fun x : Int × Int => [u16 x.1, u16 x.2]) (q := fun x => 0 ≤ x.1 ∧ x.1 ≤ 65535 ∧ 0 ≤ x.2 ∧ x.2 ≤ 65535) (fun x h => by
    obtain ⟨v1, l, rfl, h1, h⟩ := rds_cons h
    obtain ⟨v2, l, rfl, h2, h⟩ := rds_cons h
    obtain rfl := rds_nil h
    obtain ⟨n, rfl, hn⟩ := rd_int h1
    obtain ⟨m, rfl, hm⟩ := rd_int h2
    have e1 := wfu16 hn
    have e2 := wfu16 hm
    exact ⟨(n, m), rfl, e1.1, e1.2, e2.1, e2.2⟩) xs13 hx13
  obtain rfl : ys8.length = len8 := by simpa using hs8.len
  obtain rfl : ys13.length = len13 := by simpa using hs13.len
  have hb := wfu32 hn12
  exact ⟨⟨n1, ⟨n2, n3, n4, b5, b6, b7, ys8⟩, a8, cap8, n9, n10, n11, n12, ys13, a13, cap13⟩, rfl, hs8, hs13, hy13, hb.1, hb.2, by unfold maxLen at hl8; show ys8.length ≤ _; omega, by unfold maxLen at hl13; show ys13.length ≤ _; omega⟩
theorem lops_read {w : World} {a : Option Addr} {len cap : Nat}
    (h : Rds w [.sl [.int .i64, .int .u32, .int .u16, .int .u16, .bool, .bool, .bool, .sl [.int .u8], .int .i64, .int .i64, .int .i64, .int .u32, .sl [.int .u16, .int .u16]]] (Value.slice a len cap).cells.toList) :
    ∃ ops : List LOp, len ≤ 9223372036854775807 ∧ (∀ o ∈ ops, o.ok (heapSeg w)) ∧ SliceAt (heapSeg w) 13 a len (ops.map LOp.cells) := by
  obtain ⟨v', l, e, h, _⟩ := rds_cons h
  obtain ⟨rfl, _⟩ := List.cons.inj e
  obtain ⟨a', len', cap', xs, ev, hl, hs, hx⟩ := slice_of_rd h
  cases ev
  obtain ⟨ops, rfl, ho⟩ := map_of_all (q := fun o : LOp => o.ok (heapSeg w)) (fun x h => lop_read h) xs hx
  exact ⟨ops, (by unfold maxLen at hl; omega), ho, hs⟩

end Go.Proofs.Ytonfkkdahlboiaa
