/- The flight as the document has it: a list of records; no program in sight. -/
import Derived.Test.YtonfkkdahlboiaaFltM
namespace Go.Proofs.Ytonfkkdahlboiaa
open Go.RowKit

structure Flt where
  l : List FRec
  cum : Int
  paths : Int

def FL.abs (X : FL) : Flt := ⟨X.recs, X.cum, X.paths⟩

/-- The place of a TSN. -/
def Flt.idx (F : Flt) (tsn : Int) : Option Nat := if 1 ≤ (tsn - F.cum) % 4294967296 ∧ (tsn - F.cum) % 4294967296 ≤ F.l.length then some ((tsn - F.cum) % 4294967296 - 1).toNat else none
def Flt.get (F : Flt) (tsn : Int) : Option FRec := (F.idx tsn).bind fun k => F.l[k]?
def Flt.next (F : Flt) : Int := (F.cum + 1 + F.l.length) % 4294967296
def Flt.addE (F : Flt) (d : Pc) (path : Int) : Int := if path < 0 ∨ F.paths ≤ path ∨ d.bytes.length = 0 then 1 else if 2048 ≤ F.l.length then 6 else 0
def newRec (d : Pc) (tsn path now id : Int) : FRec := ⟨{ d with tsn := tsn }, path, id, 0, now, false, false, false, false⟩
def Flt.add (F : Flt) (d : Pc) (path now id : Int) : Flt := if F.addE d path = 0 then { F with l := F.l ++ [newRec d F.next path now id] } else F
def Flt.addT (F : Flt) (d : Pc) (path : Int) : Int := if F.addE d path = 0 then F.next else 0
def Flt.againE (F : Flt) (tsn path : Int) : Int := if path < 0 ∨ F.paths ≤ path then 1 else match F.get tsn with
  | none => 11
  | some r => if r.open_ then 0 else 11
def againR (path now : Int) (r : FRec) : FRec := { r with path := path, at_ := now, lost := false, again := true }
def Flt.again (F : Flt) (tsn path now : Int) : Flt := if F.againE tsn path = 0 then match F.idx tsn with
  | none => F
  | some k => { F with l := F.l.modify k (againR path now) } else F
def Flt.mark (F : Flt) (path : Int) : Flt := { F with l := F.l.map (markR path) }
def Flt.abandon (F : Flt) (id : Int) : Flt := if livesOf id F.l = 0 then F else { F with l := F.l.map (goneR id) }
/-- Those that follow the cumulative TSN and are gone. -/
def Flt.over (F : Flt) : List Pc := (F.l.takeWhile (·.gone)).map (·.d)

theorem idx_some {F : Flt} {tsn : Int} {k : Nat} (h : F.idx tsn = some k) : (tsn - F.cum) % 4294967296 = k + 1 ∧ k < F.l.length := by
  unfold Flt.idx at h
  split at h
  · simp only [Option.some.injEq] at h; omega
  · cases h
theorem idx_none {F : Flt} {tsn : Int} (h : F.idx tsn = none) : serialIn tsn F.cum F.l.length = false := by
  unfold Flt.idx at h
  split at h
  · cases h
  · rename_i hc
    unfold serialIn
    by_cases h1 : 0 < (tsn - F.cum) % 4294967296
    · by_cases h2 : (tsn - F.cum) % 4294967296 ≤ F.l.length
      · omega
      · rw [decide_eq_false h2]; simp
    · rw [decide_eq_false h1]; simp
theorem get_of_idx {F : Flt} {tsn : Int} {k : Nat} (h : F.idx tsn = some k) : F.get tsn = F.l[k]? := by rw [Flt.get, h]; rfl
end Go.Proofs.Ytonfkkdahlboiaa
