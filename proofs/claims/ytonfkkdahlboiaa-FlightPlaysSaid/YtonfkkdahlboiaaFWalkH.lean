/- Arguments from their cells. (Not to be imported beside FWalkA, which has the same lemmas.) -/
import Derived.Test.YtonfkkdahlboiaaLibL
namespace Go.Proofs.Ytonfkkdahlboiaa
open Go.RowKit

theorem wf_cell {w : World} {k : IntKind} {n : Int} (h : Rds w [.int k] (Value.int k n).cells.toList) : (Lit.int k n).wf = true := by
  obtain ⟨v, l, e, h, _⟩ := rds_cons h
  obtain ⟨rfl, _⟩ := List.cons.inj e
  obtain ⟨m, e, hm⟩ := rd_int h
  cases e; exact hm
theorem u8_slice {w : World} {a : Option Addr} {len cap : Nat} (h : Rds w [.sl [.int .u8]] (Value.slice a len cap).cells.toList) :
    len ≤ 9223372036854775807 ∧ ∃ l : List Int, (∀ s ∈ l, 0 ≤ s ∧ s ≤ 255) ∧ SliceAt (heapSeg w) 1 a len (l.map fun x => [.int .u8 x]) := by
  obtain ⟨v', l, e, h, _⟩ := rds_cons h
  obtain ⟨rfl, _⟩ := List.cons.inj e
  obtain ⟨a', len', cap', xs, ev, hl, hs, hx⟩ := slice_of_rd h
  cases ev
  obtain ⟨ys, rfl, hy⟩ := map_of_all (c := fun x : Int => [Value.int .u8 x]) (q := fun x => 0 ≤ x ∧ x ≤ 255) (fun x h => by
    obtain ⟨v1, l, rfl, h1, h⟩ := rds_cons h
    obtain rfl := rds_nil h
    obtain ⟨n, rfl, hn⟩ := rd_int h1
    exact ⟨n, rfl, wfu8 hn⟩) xs hx
  exact ⟨by unfold maxLen at hl; omega, ys, hy, hs⟩
theorem bool_slice {w : World} {a : Option Addr} {len cap : Nat} (h : Rds w [.sl [.bool]] (Value.slice a len cap).cells.toList) :
    len ≤ 9223372036854775807 ∧ ∃ l : List Bool, SliceAt (heapSeg w) 1 a len (l.map fun x => [.bool x]) := by
  obtain ⟨v', l, e, h, _⟩ := rds_cons h
  obtain ⟨rfl, _⟩ := List.cons.inj e
  obtain ⟨a', len', cap', xs, ev, hl, hs, hx⟩ := slice_of_rd h
  cases ev
  obtain ⟨ys, rfl, _⟩ := map_of_all (c := fun x : Bool => [Value.bool x]) (q := fun _ => True) (fun x h => by
    obtain ⟨v1, l, rfl, h1, h⟩ := rds_cons h
    obtain rfl := rds_nil h
    obtain ⟨n, rfl⟩ := rd_bool h1
    exact ⟨n, rfl, trivial⟩) xs hx
  exact ⟨by unfold maxLen at hl; omega, ys, hs⟩

end Go.Proofs.Ytonfkkdahlboiaa
