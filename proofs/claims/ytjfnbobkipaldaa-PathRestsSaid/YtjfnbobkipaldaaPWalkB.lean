/- PathOnce, PathRests, PathBeats, PathFails, from the cells of their arguments. -/
import Derived.Test.YtjfnbobkipaldaaPFails
import Derived.Test.YtjfnbobkipaldaaPWalkA
namespace Go.Proofs.Ytjfnbobkipaldaa
open Go.RowKit

theorem wf_cell {w : World} {k : IntKind} {n : Int} (h : Rds w [.int k] (Value.int k n).cells.toList) : (Lit.int k n).wf = true := by
  obtain ⟨v, l, e, h, _⟩ := rds_cons h
  obtain ⟨rfl, _⟩ := List.cons.inj e
  obtain ⟨m, e, hm⟩ := rd_int h
  cases e; exact hm

theorem pathOnce_walk (w : World) (x y : Int) (h0 : Rds w [.int .u8] (Value.int .u8 x).cells.toList) (h1 : Rds w [.int .u8] (Value.int .u8 y).cells.toList) :
    Calls Try.prog 9 #[.int .u8 x, .int .u8 y] w fun e w' => e = .returned (.bool true) ∧ Below w.heap.size w w' :=
  law_calls (pathOnce_cd _ x y (wfu8 (wf_cell h0)) (wfu8 (wf_cell h1)))
theorem pathRests_walk (w : World) (x : Int) (a : Option Addr) (len cap : Nat) (h0 : Rds w [.int .u8] (Value.int .u8 x).cells.toList) (h1 : Rds w [.sl [.int .i64, .int .i64, .bool, .int .i64, .int .i64]] (Value.slice a len cap).cells.toList) :
    Calls Try.prog 13 #[.int .u8 x, .slice a len cap] w fun e w' => e = .returned (.bool true) ∧ Below w.heap.size w w' := by
  obtain ⟨ops, hl, ho, hs⟩ := pops_read h1
  exact law_calls (pathRests_cd _ x a len cap ops (wfu8 (wf_cell h0)) hl ho hs)
theorem pathFails_walk (w : World) (x : Int) (a : Option Addr) (len cap : Nat) (h0 : Rds w [.int .u8] (Value.int .u8 x).cells.toList) (h1 : Rds w [.sl [.int .i64, .int .i64, .bool, .int .i64, .int .i64]] (Value.slice a len cap).cells.toList) :
    Calls Try.prog 12 #[.int .u8 x, .slice a len cap] w fun e w' => e = .returned (.bool true) ∧ Below w.heap.size w w' := by
  obtain ⟨ops, hl, ho, hs⟩ := pops_read h1
  exact law_calls (pathFails_cd _ x a len cap ops (wfu8 (wf_cell h0)) hl ho hs)
theorem pathBeats_walk (w : World) (x : Int) (a : Option Addr) (len cap : Nat) (h0 : Rds w [.int .u8] (Value.int .u8 x).cells.toList) (h1 : Rds w [.sl [.int .u16]] (Value.slice a len cap).cells.toList) :
    Calls Try.prog 10 #[.int .u8 x, .slice a len cap] w fun e w' => e = .returned (.bool true) ∧ Below w.heap.size w w' := by
  obtain ⟨v', l, e, h, _⟩ := rds_cons h1
  obtain ⟨rfl, _⟩ := List.cons.inj e
  obtain ⟨a', len', cap', xs, ev, hl, hs, hx⟩ := slice_of_rd h
  cases ev
  obtain ⟨ys, rfl, hy⟩ := map_of_all (c := fun x : Int => [Value.int .u16 x]) (q := fun x => 0 ≤ x ∧ x ≤ 65535) (fun x h => by
    obtain ⟨v1, l, rfl, h1, h⟩ := rds_cons h
    obtain rfl := rds_nil h
    obtain ⟨n, rfl, hn⟩ := rd_int h1
    exact ⟨n, rfl, wfu16 hn⟩) xs hx
  exact law_calls (pathBeats_cd _ x a len cap ys (wfu8 (wf_cell h0)) (by unfold maxLen at hl; omega) hy hs)
end Go.Proofs.Ytjfnbobkipaldaa
