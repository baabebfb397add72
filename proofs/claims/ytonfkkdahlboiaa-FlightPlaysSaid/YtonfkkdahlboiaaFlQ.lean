/- An acknowledgement, as the program takes it; no program in sight. -/
import Derived.Test.YtonfkkdahlboiaaFltB
namespace Go.Proofs.Ytonfkkdahlboiaa
open Go.RowKit

/-- What is told of a path. -/
structure Tp where
  acked : Int
  pseudo : Bool
  fast : Bool
  at_ : Int
  some_ : Bool
abbrev Tp.cells (p : Tp) : List Value := [i64 p.acked, .bool p.pseudo, .bool p.fast, i64 p.at_, .bool p.some_]
abbrev tp0 : Tp := ⟨0, false, false, 0, false⟩

def at4 {α : Type} (g : Nat → α) (i : Nat) (v : α) : Nat → α := fun j => if j = i then v else g j
def four (g : Nat → Value) : List Value := [g 0, g 1, g 2, g 3]
theorem four_get (g : Nat → Value) {i : Nat} (h : i < 4) : (four g)[i]? = some (g i) := by
  match i, h with
  | 0, _ => rfl
  | 1, _ => rfl
  | 2, _ => rfl
  | 3, _ => rfl
theorem four_set (g : Nat → Value) {i : Nat} (h : i < 4) (v : Value) : (four g).set i v = four (at4 g i v) := by
  match i, h with
  | 0, _ => rfl
  | 1, _ => rfl
  | 2, _ => rfl
  | 3, _ => rfl
/-- The cells of what an acknowledgement says. -/
def toldCells (freed : Int) (whole : Bool) (t : Nat → Tp) : List Value := i64 freed :: .bool whole :: ((t 0).cells ++ ((t 1).cells ++ ((t 2).cells ++ (t 3).cells)))

theorem setp {α : Type} (pre m : List α) (i : Nat) (v : α) : (pre ++ m).set (pre.length + i) v = pre ++ m.set i v := by
  rw [List.set_append_right _ _ (by omega)]; congr 2; omega
theorem getp {α : Type} (pre m : List α) (i : Nat) : (pre ++ m)[pre.length + i]? = m[i]? := by
  rw [List.getElem?_append_right (by omega)]; congr 1; omega
/-- Ahead of a path, and behind it. -/
def toldPre (freed : Int) (whole : Bool) (t : Nat → Tp) : Nat → List Value
  | 0 => [i64 freed, .bool whole]
  | 1 => i64 freed :: .bool whole :: (t 0).cells
  | 2 => i64 freed :: .bool whole :: ((t 0).cells ++ (t 1).cells)
  | _ => i64 freed :: .bool whole :: ((t 0).cells ++ ((t 1).cells ++ (t 2).cells))
def toldPost (t : Nat → Tp) : Nat → List Value
  | 0 => (t 1).cells ++ ((t 2).cells ++ (t 3).cells)
  | 1 => (t 2).cells ++ (t 3).cells
  | 2 => (t 3).cells
  | _ => []
theorem told_at (freed : Int) (whole : Bool) (t : Nat → Tp) {p : Nat} (h : p < 4) (v : Tp) : toldCells freed whole (at4 t p v) = toldPre freed whole t p ++ (v.cells ++ toldPost t p) := by
  match p, h with
  | 0, _ => rfl
  | 1, _ => rfl
  | 2, _ => rfl
  | 3, _ => rfl
theorem at4_same {α : Type} (g : Nat → α) (i : Nat) : at4 g i (g i) = g := by
  funext j; unfold at4; split
  · subst_vars; rfl
  · rfl
theorem toldPre_length (freed : Int) (whole : Bool) (t : Nat → Tp) {p : Nat} (h : p < 4) : (toldPre freed whole t p).length = 2 + p * 5 := by
  match p, h with
  | 0, _ => rfl
  | 1, _ => rfl
  | 2, _ => rfl
  | 3, _ => rfl

structure SK where
  l : List FRec
  t : Nat → Tp
  high : Nat → Int

def lowIdx (l : List FRec) (p : Nat) : Option Nat := l.findIdx? fun r => decide (r.path = (p : Int)) && !r.acked && !r.gone
def ackR (r : FRec) : FRec := { r with acked := true }
def tkT (r : FRec) (isLow : Bool) (p : Tp) : Tp :=
  { acked := if r.gone then p.acked else p.acked + r.d.bytes.length, pseudo := p.pseudo || isLow, fast := p.fast, at_ := if r.again then p.at_ else r.at_, some_ := if r.again then p.some_ else true }
/-- The record at a place is acknowledged. -/
def ackStep (low : Nat → Option Nat) (s : SK) (i : Nat) : SK := match s.l[i]? with
  | none => s
  | some r => if r.acked then s else ⟨s.l.modify i ackR, at4 s.t r.path.toNat (tkT r (decide (low r.path.toNat = some i)) (s.t r.path.toNat)), at4 s.high r.path.toNat i⟩
def missR (r : FRec) : FRec := { r with miss := r.miss + 1, lost := r.lost || decide (3 ≤ r.miss + 1) }
/-- One that is missed. -/
def missStep (high : Nat → Int) (s : List FRec × (Nat → Tp)) (i : Nat) : List FRec × (Nat → Tp) := match s.1[i]? with
  | none => s
  | some r => if r.away = false ∨ r.again = true ∨ high r.path.toNat ≤ i then s
    else (s.1.modify i missR, if 3 ≤ r.miss + 1 then at4 s.2 r.path.toNat { s.2 r.path.toNat with fast := true } else s.2)

/-- The gaps of an acknowledgement, as places from and to. -/
def spansOf (base : Nat) (gs : List (Int × Int)) : List (Nat × Nat) := (0, base) :: gs.map fun g => (base + g.1.toNat - 1, base + g.2.toNat)
def idxsOf (sp : List (Nat × Nat)) : List Nat := (sp.map fun s => List.range' s.1 (s.2 - s.1)).flatten
def mayG (len base : Int) : Int → List (Int × Int) → Bool
  | _, [] => true
  | last, (f, t) :: gs => decide (¬ (f < last + 2 ∨ t < f ∨ len < base + t)) && mayG len base t gs

def Flt.base (F : Flt) (c : Int) : Nat := ((c - F.cum) % 4294967296).toNat
def Flt.may (F : Flt) (c : Int) (gs : List (Int × Int)) : Bool := decide (F.base c ≤ F.l.length) && mayG F.l.length (F.base c) 0 gs
def Flt.idxs (F : Flt) (c : Int) (gs : List (Int × Int)) : List Nat := idxsOf (spansOf (F.base c) gs)
def sk0 (l : List FRec) : SK := ⟨l, fun _ => tp0, fun _ => -1⟩
def Flt.acks (F : Flt) (c : Int) (gs : List (Int × Int)) : SK := (F.idxs c gs).foldl (ackStep (lowIdx F.l)) (sk0 F.l)
def Flt.misses (F : Flt) (c : Int) (gs : List (Int × Int)) : List FRec × (Nat → Tp) := (List.range F.l.length).foldl (missStep (F.acks c gs).high) ((F.acks c gs).l, (F.acks c gs).t)
def Flt.sack (F : Flt) (c : Int) (gs : List (Int × Int)) : Flt := { F with l := (F.misses c gs).1.drop (F.base c), cum := c }
def wide2 (sp : List (Nat × Nat)) : Int := (sp.map fun s => (s.2 : Int) - s.1).sum
structure Told where
  freed : Int
  whole : Bool
  t : Nat → Tp
def Flt.sackT (F : Flt) (c : Int) (gs : List (Int × Int)) : Told :=
  ⟨sumIf (fun _ => true) ((F.misses c gs).1.take (F.base c)), decide (c ≠ F.cum) || decide (wide2 (spansOf (F.base c) gs) - countIf (·.acked) (F.misses c gs).1 = 0), (F.misses c gs).2⟩
def Told.cells (x : Told) : List Value := toldCells x.freed x.whole x.t

theorem ackStep_len (low : Nat → Option Nat) (s : SK) (i : Nat) : (ackStep low s i).l.length = s.l.length := by
  unfold ackStep
  split
  · rfl
  · split
    · rfl
    · simp
theorem missStep_len (high : Nat → Int) (s : List FRec × (Nat → Tp)) (i : Nat) : (missStep high s i).1.length = s.1.length := by
  unfold missStep
  split
  · rfl
  · split
    · rfl
    · simp
end Go.Proofs.Ytonfkkdahlboiaa
