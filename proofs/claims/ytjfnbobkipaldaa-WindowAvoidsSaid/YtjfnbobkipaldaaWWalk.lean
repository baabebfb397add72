/- The window laws, from the cells of their arguments. -/
import Derived.Test.YtjfnbobkipaldaaWSlow
namespace Go.Proofs.Ytjfnbobkipaldaa
open Go.RowKit

theorem wops_read {w : World} {a : Option Addr} {len cap : Nat} (h : Rds w [.sl [.int .i64, .int .i64, .bool]] (Value.slice a len cap).cells.toList) :
    ∃ ops : List WOp, len ≤ maxLen ∧ SliceAt (heapSeg w) 3 a len (ops.map WOp.cells) := by
  obtain ⟨v', l, e, h, _⟩ := rds_cons h
  obtain ⟨rfl, _⟩ := List.cons.inj e
  obtain ⟨a', len', cap', xs, ev, hl, hs, hx⟩ := slice_of_rd h
  cases ev
  obtain ⟨ops, rfl, _⟩ := map_of_all (q := fun _ => True) (fun x h => by obtain ⟨o, e, _⟩ := wop_read h; exact ⟨o, e, trivial⟩) xs hx
  exact ⟨ops, hl, hs⟩

theorem int_of_cells {w : World} {k : IntKind} {n : Int} (h : Rds w [.int k] (Value.int k n).cells.toList) : (Lit.int k n).wf = true := by
  obtain ⟨v, l, e, h, _⟩ := rds_cons h
  obtain ⟨rfl, _⟩ := List.cons.inj e
  obtain ⟨m, e, hm⟩ := rd_int h
  cases e; exact hm

theorem maxLen_le {n : Nat} (h : n ≤ maxLen) : n ≤ 9223372036854775807 := by
  have : maxLen ≤ 9223372036854775807 := by unfold maxLen; omega
  omega

theorem windowPlays_walk (w : World) (mtu last : Int) (a : Option Addr) (len cap : Nat) (h0 : Rds w [.int .i64] (Value.int .i64 mtu).cells.toList) (h1 : Rds w [.int .i64] (Value.int .i64 last).cells.toList)
    (h2 : Rds w [.sl [.int .i64, .int .i64, .bool]] (Value.slice a len cap).cells.toList) :
    Calls Try.prog 3 #[.int .i64 mtu, .int .i64 last, .slice a len cap] w fun e w' => e = .returned (.bool true) ∧ Below w.heap.size w w' := by
  obtain ⟨ops, hl, hs⟩ := wops_read h2
  exact law_calls (windowPlays_cd _ mtu last a len cap ops (wf64 (int_of_cells h0)) (maxLen_le hl) hs)
theorem windowBounds_walk (w : World) (mtu last : Int) (a : Option Addr) (len cap : Nat) (h0 : Rds w [.int .i64] (Value.int .i64 mtu).cells.toList) (h1 : Rds w [.int .i64] (Value.int .i64 last).cells.toList)
    (h2 : Rds w [.sl [.int .i64, .int .i64, .bool]] (Value.slice a len cap).cells.toList) :
    Calls Try.prog 4 #[.int .i64 mtu, .int .i64 last, .slice a len cap] w fun e w' => e = .returned (.bool true) ∧ Below w.heap.size w w' := by
  obtain ⟨ops, hl, hs⟩ := wops_read h2
  exact law_calls (windowBounds_cd _ mtu last a len cap ops (wf64 (int_of_cells h0)) (maxLen_le hl) hs)
theorem windowHalves_walk (w : World) (mtu last : Int) (a : Option Addr) (len cap : Nat) (b : Bool) (h0 : Rds w [.int .i64] (Value.int .i64 mtu).cells.toList) (h1 : Rds w [.int .i64] (Value.int .i64 last).cells.toList)
    (h2 : Rds w [.sl [.int .i64, .int .i64, .bool]] (Value.slice a len cap).cells.toList) (h3 : Rds w [.bool] (Value.bool b).cells.toList) :
    Calls Try.prog 7 #[.int .i64 mtu, .int .i64 last, .slice a len cap, .bool b] w fun e w' => e = .returned (.bool true) ∧ Below w.heap.size w w' := by
  obtain ⟨ops, hl, hs⟩ := wops_read h2
  exact law_calls (windowHalves_cd _ mtu last a len cap ops b (wf64 (int_of_cells h0)) (maxLen_le hl) hs)
theorem windowSlow_walk (w : World) (mtu last n : Int) (h0 : Rds w [.int .i64] (Value.int .i64 mtu).cells.toList) (h1 : Rds w [.int .i64] (Value.int .i64 last).cells.toList) (h2 : Rds w [.int .u16] (Value.int .u16 n).cells.toList) :
    Calls Try.prog 5 #[.int .i64 mtu, .int .i64 last, .int .u16 n] w fun e w' => e = .returned (.bool true) ∧ Below w.heap.size w w' :=
  law_calls (windowSlow_cd _ mtu last n (wf64 (int_of_cells h0)) (wfu16 (int_of_cells h2)))
theorem windowAvoids_walk (w : World) (mtu : Int) (a : Option Addr) (len cap : Nat) (h0 : Rds w [.int .i64] (Value.int .i64 mtu).cells.toList) (h1 : Rds w [.sl [.int .u16]] (Value.slice a len cap).cells.toList) :
    Calls Try.prog 6 #[.int .i64 mtu, .slice a len cap] w fun e w' => e = .returned (.bool true) ∧ Below w.heap.size w w' := by
  obtain ⟨v', l, e, h, _⟩ := rds_cons h1
  obtain ⟨rfl, _⟩ := List.cons.inj e
  obtain ⟨a', len', cap', xs, ev, hl, hs, hx⟩ := slice_of_rd h
  cases ev
  obtain ⟨ys, rfl, hy⟩ := map_of_all (c := fun x : Int => [Value.int .u16 x]) (q := fun x => 0 ≤ x ∧ x ≤ 65535) (fun x h => by
    obtain ⟨v1, l, rfl, h1, h⟩ := rds_cons h
    obtain rfl := rds_nil h
    obtain ⟨n, rfl, hn⟩ := rd_int h1
    exact ⟨n, rfl, wfu16 hn⟩) xs hx
  exact law_calls (windowAvoids_cd _ mtu a len cap ys (wf64 (int_of_cells h0)) (maxLen_le hl) hy hs)
end Go.Proofs.Ytjfnbobkipaldaa
