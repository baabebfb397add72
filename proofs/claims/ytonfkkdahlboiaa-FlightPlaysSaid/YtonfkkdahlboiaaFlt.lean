/- The flight of the program: its records, what is asked of one, Clone, serial numbers, the iterator over those of a kind. -/
import Derived.Test.YtonfkkdahlboiaaTy
import Derived.Test.YtonfkkdahlboiaaLibL
namespace Go.Proofs.Ytonfkkdahlboiaa
open Go.RowKit
set_option maxHeartbeats 4000000

abbrev u32 (n : Int) : Value := .int .u32 n
abbrev u16 (n : Int) : Value := .int .u16 n
def u8s (l : List Int) : List Value := l.map (Value.int .u8)
theorem u8s_length (l : List Int) : (u8s l).length = l.length := List.length_map _
theorem u8s_one (l : List Int) : (u8s l).all one = true := by
  rw [List.all_eq_true]
  intro x hx
  obtain ⟨n, _, rfl⟩ := List.mem_map.1 hx
  rfl

/-- A piece. -/
structure Pc where
  tsn : Int
  stream : Int
  ssn : Int
  unord : Bool
  first : Bool
  last : Bool
  bytes : List Int

/-- A piece's cells; s: its bytes' slice. -/
abbrev Pc.cells (d : Pc) (s : Value) : List Value := [u32 d.tsn, u16 d.stream, u16 d.ssn, .bool d.unord, .bool d.first, .bool d.last, s]

/-- A record. -/
structure FRec where
  d : Pc
  path : Int
  id : Int
  miss : Int
  at_ : Int
  acked : Bool
  lost : Bool
  gone : Bool
  again : Bool

def FRec.away (r : FRec) : Bool := !r.acked && !r.lost && !r.gone
def FRec.open_ (r : FRec) : Bool := r.lost && !r.acked && !r.gone
abbrev FRec.cells (r : FRec) (s : Value) : List Value :=
  [u32 r.d.tsn, u16 r.d.stream, u16 r.d.ssn, .bool r.d.unord, .bool r.d.first, .bool r.d.last, s, i64 r.path, i64 r.id, i64 r.miss, i64 r.at_, .bool r.acked, .bool r.lost, .bool r.gone, .bool r.again]

/-- A record where it lies: its block, its bytes. -/
structure RL where
  r : FRec
  p : Nat
  w : Row
abbrev RL.bv (x : RL) : Value := x.w.val x.r.d.bytes.length
abbrev RL.bk (x : RL) : Seg := blk x.p 90 (x.r.cells x.bv)
def RL.seg (x : RL) : Seg := x.bk ++ x.w.C
abbrev RL.ok (x : RL) : Prop := x.w.ok 5 1 x.r.d.bytes.length (u8s x.r.d.bytes)

/-- A flight where it lies. -/
structure FL where
  l : List RL
  w : Row
  cum : Int
  paths : Int
def rsegs (l : List RL) : Seg := (l.map RL.seg).flatten
abbrev FL.bk (b : Nat) (X : FL) : Seg := blk b 86 [X.w.val X.l.length, u32 X.cum, i64 X.paths]
def FL.seg (b : Nat) (X : FL) : Seg := X.bk b ++ (X.w.C ++ rsegs X.l)
def FL.ptrs (X : FL) : List Nat := X.l.map RL.p

structure FRecOk (r : FRec) (paths : Int) : Prop where
  p0 : 0 ≤ r.path
  p1 : r.path < paths
  b0 : 1 ≤ r.d.bytes.length
  b1 : r.d.bytes.length ≤ 1048576
  m0 : 0 ≤ r.miss
  m1 : r.miss ≤ 3
  m2 : r.lost = false → r.again = false → r.miss ≤ 2

structure FlOk (X : FL) : Prop where
  row : X.w.ok 88 1 X.l.length (X.ptrs.map ptr)
  recs : ∀ x ∈ X.l, x.ok ∧ FRecOk x.r X.paths
  len : X.l.length ≤ 2048
  c0 : 0 ≤ X.cum
  c1 : X.cum ≤ 4294967295
  q0 : 1 ≤ X.paths
  q1 : X.paths ≤ 4
  tsn : ∀ (k : Nat) x, X.l[k]? = some x → x.r.d.tsn = (X.cum + 1 + k) % 4294967296

theorem rsegs_append (l m : List RL) : rsegs (l ++ m) = rsegs l ++ rsegs m := by simp [rsegs]
theorem rsegs_cons (x : RL) (l : List RL) : rsegs (x :: l) = x.seg ++ rsegs l := by simp [rsegs]
theorem split_at {α : Type} {l : List α} {k : Nat} {x : α} (h : l[k]? = some x) : l = l.take k ++ x :: l.drop (k + 1) := by
  obtain ⟨hk, rfl⟩ := List.getElem?_eq_some_iff.1 h
  rw [List.getElem_cons_drop, List.take_append_drop]
theorem rsegs_at {l : List RL} {k : Nat} {x : RL} (h : l[k]? = some x) : rsegs l = rsegs (l.take k) ++ (x.bk ++ (x.w.C ++ rsegs (l.drop (k + 1)))) := by
  conv => lhs; rw [split_at h]
  rw [rsegs_append, rsegs_cons, RL.seg, List.append_assoc]
/-- The flight's parts, one record by itself. -/
theorem FL.seg_at (b : Nat) {X : FL} {k : Nat} {x : RL} (h : X.l[k]? = some x) : X.seg b = X.bk b ++ (X.w.C ++ (rsegs (X.l.take k) ++ (x.bk ++ (x.w.C ++ rsegs (X.l.drop (k + 1)))))) := by
  rw [FL.seg, rsegs_at h]

/-! ### Of one record -/
theorem away_cd (x : RL) : Cd Try.prog 45 [ptr x.p] [x.bk] (.bool x.r.away) [x.bk] := by
  obtain ⟨⟨d, path, id, miss, at_, acked, lost, gone, again⟩, p, w⟩ := x
  refine Ct_intro Try.func45 rfl (by simp only [Try.ntmps45, List.length_cons, List.length_nil]; omega) ?_
  intro w₀ R
  cases acked <;> cases lost <;> cases gone <;> repeat' first
    | refine TC_seq ?_
    | refine TQ_then ?_
    | (refine TC_plain (id := 0) (by kernel_rfl) ?_; refine TR_pv0 PV_assign rfl ?_; refine TR_nil ?_)
    | (refine TC_plain (id := 1) (by kernel_rfl) ?_; all_goals refine TR_pv0 PV_move rfl ?_; all_goals refine TR_pv0 (PV_nil rfl) rfl ?_; all_goals refine TR_pv0 (PV_fieldAddr rfl) rfl ?_; all_goals refine TR_load0 rfl 0 rfl rfl rfl ?_; all_goals refine TR_pv0 (PV_not rfl) rfl ?_; all_goals refine TR_pv0 PV_move rfl ?_; all_goals (first | refine TR_pv0 PV_move rfl ?_ | refine TR_skip0 rfl ?_); all_goals (first | refine TR_pv0 (PV_nil rfl) rfl ?_ | refine TR_skip0 rfl ?_); all_goals (first | refine TR_pv0 (PV_fieldAddr rfl) rfl ?_ | refine TR_skip0 rfl ?_); all_goals (first | refine TR_load0 rfl 0 rfl rfl rfl ?_ | refine TR_skip0 rfl ?_); all_goals (first | refine TR_pv0 (PV_not rfl) rfl ?_ | refine TR_skip0 rfl ?_); all_goals (first | refine TR_pv0 (PV_pick_t rfl) rfl ?_ | refine TR_pv0 (PV_pick_f rfl) rfl ?_); all_goals refine TR_pv0 PV_move rfl ?_; all_goals (first | refine TR_pv0 PV_move rfl ?_ | refine TR_skip0 rfl ?_); all_goals (first | refine TR_pv0 (PV_nil rfl) rfl ?_ | refine TR_skip0 rfl ?_); all_goals (first | refine TR_pv0 (PV_fieldAddr rfl) rfl ?_ | refine TR_skip0 rfl ?_); all_goals (first | refine TR_load0 rfl 0 rfl rfl rfl ?_ | refine TR_skip0 rfl ?_); all_goals (first | refine TR_pv0 (PV_not rfl) rfl ?_ | refine TR_skip0 rfl ?_); all_goals (first | refine TR_pv0 (PV_pick_t rfl) rfl ?_ | refine TR_pv0 (PV_pick_f rfl) rfl ?_); all_goals refine TR_pv0 PV_assign rfl ?_; all_goals refine TR_nil ?_)
    | refine TC_ret ?_
  all_goals exact TQ_ret1 rfl rfl rfl ⟨rfl, rfl⟩ (.cons .here .nil)

theorem open_cd (x : RL) : Cd Try.prog 41 [ptr x.p] [x.bk] (.bool x.r.open_) [x.bk] := by
  obtain ⟨⟨d, path, id, miss, at_, acked, lost, gone, again⟩, p, w⟩ := x
  refine Ct_intro Try.func41 rfl (by simp only [Try.ntmps41, List.length_cons, List.length_nil]; omega) ?_
  intro w₀ R
  cases acked <;> cases lost <;> cases gone <;> repeat' first
    | refine TC_seq ?_
    | refine TQ_then ?_
    | (refine TC_plain (id := 0) (by kernel_rfl) ?_; refine TR_pv0 PV_assign rfl ?_; refine TR_nil ?_)
    | (refine TC_plain (id := 1) (by kernel_rfl) ?_; all_goals refine TR_pv0 PV_move rfl ?_; all_goals refine TR_pv0 (PV_nil rfl) rfl ?_; all_goals refine TR_pv0 (PV_fieldAddr rfl) rfl ?_; all_goals refine TR_load0 rfl 0 rfl rfl rfl ?_; all_goals refine TR_pv0 PV_move rfl ?_; all_goals (first | refine TR_pv0 PV_move rfl ?_ | refine TR_skip0 rfl ?_); all_goals (first | refine TR_pv0 (PV_nil rfl) rfl ?_ | refine TR_skip0 rfl ?_); all_goals (first | refine TR_pv0 (PV_fieldAddr rfl) rfl ?_ | refine TR_skip0 rfl ?_); all_goals (first | refine TR_load0 rfl 0 rfl rfl rfl ?_ | refine TR_skip0 rfl ?_); all_goals (first | refine TR_pv0 (PV_not rfl) rfl ?_ | refine TR_skip0 rfl ?_); all_goals (first | refine TR_pv0 (PV_pick_t rfl) rfl ?_ | refine TR_pv0 (PV_pick_f rfl) rfl ?_); all_goals refine TR_pv0 PV_move rfl ?_; all_goals (first | refine TR_pv0 PV_move rfl ?_ | refine TR_skip0 rfl ?_); all_goals (first | refine TR_pv0 (PV_nil rfl) rfl ?_ | refine TR_skip0 rfl ?_); all_goals (first | refine TR_pv0 (PV_fieldAddr rfl) rfl ?_ | refine TR_skip0 rfl ?_); all_goals (first | refine TR_load0 rfl 0 rfl rfl rfl ?_ | refine TR_skip0 rfl ?_); all_goals (first | refine TR_pv0 (PV_not rfl) rfl ?_ | refine TR_skip0 rfl ?_); all_goals (first | refine TR_pv0 (PV_pick_t rfl) rfl ?_ | refine TR_pv0 (PV_pick_f rfl) rfl ?_); all_goals refine TR_pv0 PV_assign rfl ?_; all_goals refine TR_nil ?_)
    | refine TC_ret ?_
  all_goals exact TQ_ret1 rfl rfl rfl ⟨rfl, rfl⟩ (.cons .here .nil)

abbrev ibox (b : Nat) (n : Int) : Seg := blk b 3 [i64 n]

theorem by1_cd (x : RL) (b : Nat) (path : Int) : Cd Try.prog 59 [ptr x.p, ptr b] [x.bk, ibox b path] (.bool (decide (x.r.path = path) && x.r.away)) [x.bk, ibox b path] := by
  have ha := away_cd x
  by_cases h : x.r.path = path
  · rw [decide_eq_true h, Bool.true_and]
    refine Ct_intro Try.func59 rfl (by simp only [Try.ntmps59, List.length_cons, List.length_nil]; omega) ?_
    intro w₀ R
    repeat' first
      | refine TC_seq ?_
      | refine TQ_then ?_
      | refine TQ_noPanic ?_
      | (refine TC_plain (id := 0) (by kernel_rfl) ?_; refine TR_pv0 PV_assign rfl ?_; refine TR_nil ?_)
      | (refine TC_drawn' (id := 1) [(0, 1), (1, 1), (2, 1), (3, 1), (4, 1), (5, 1), (6, 1), (7, 1), (8, 0), (9, 0), (10, 0)] mixed (by kernel_rfl) ?_; all_goals refine TR_pv1 PV_move rfl (fun _ h => h) ?_; all_goals refine TR_pv1 (PV_nil rfl) rfl (fun _ h => h) ?_; all_goals refine TR_pv1 (PV_fieldAddr rfl) rfl (fun _ h => h) ?_; all_goals refine TR_load1 rfl 0 rfl rfl rfl (fun _ h => h) ?_; all_goals refine TR_load1 rfl 1 rfl rfl rfl (fun _ h => h) ?_; all_goals refine TR_pv1 (PV_eql rfl rfl) rfl (fun _ h => h) ?_; all_goals refine TR_pv1 PV_move rfl (fun _ h => h) ?_; all_goals (refine TR_gsplit rfl rfl rfl (fun hq => ?_) (fun hq => ?_) <;> (try simp only [qs] at hq) <;> (try simp only [reduceCtorEq] at hq) <;> (try (exfalso; omega)) <;> (try contradiction) <;> refine TR_pv1 PV_move rfl (fun _ h => h) ?_); all_goals refine TR_calld1_0 (ha) rfl rfl rfl rfl ?_; all_goals refine TR_pv0 (PV_pick_t rfl) rfl ?_; all_goals refine TR_pv0 PV_assign rfl ?_; all_goals refine TR_nil ?_)
      | refine TC_ret ?_
    exact TQ_ret1 rfl rfl rfl ⟨rfl, rfl⟩ (.cons .here (.cons .here .nil))
  · rw [decide_eq_false h, Bool.false_and]
    refine Ct_intro Try.func59 rfl (by simp only [Try.ntmps59, List.length_cons, List.length_nil]; omega) ?_
    intro w₀ R
    repeat' first
      | refine TC_seq ?_
      | refine TQ_then ?_
      | refine TQ_noPanic ?_
      | (refine TC_plain (id := 0) (by kernel_rfl) ?_; refine TR_pv0 PV_assign rfl ?_; refine TR_nil ?_)
      | (refine TC_drawn' (id := 1) [(0, 1), (1, 1), (2, 1), (3, 1), (4, 1), (5, 1), (6, 1), (7, 1), (8, 0), (9, 0), (10, 0)] mixed (by kernel_rfl) ?_; all_goals refine TR_pv1 PV_move rfl (fun _ h => h) ?_; all_goals refine TR_pv1 (PV_nil rfl) rfl (fun _ h => h) ?_; all_goals refine TR_pv1 (PV_fieldAddr rfl) rfl (fun _ h => h) ?_; all_goals refine TR_load1 rfl 0 rfl rfl rfl (fun _ h => h) ?_; all_goals refine TR_load1 rfl 1 rfl rfl rfl (fun _ h => h) ?_; all_goals refine TR_pv1 (PV_eql rfl rfl) rfl (fun _ h => h) ?_; all_goals refine TR_pv1 PV_move rfl (fun _ h => h) ?_; all_goals (refine TR_gsplit rfl rfl rfl (fun hq => ?_) (fun hq => ?_) <;> (try simp only [qs] at hq) <;> (try simp only [reduceCtorEq] at hq) <;> (try (exfalso; omega)) <;> (try contradiction) <;> refine TR_skip1 rfl (fun _ h => h) ?_); all_goals refine TR_skip0 rfl ?_; all_goals refine TR_pv0 (PV_pick_f rfl) rfl ?_; all_goals refine TR_pv0 PV_assign rfl ?_; all_goals refine TR_nil ?_)
      | refine TC_ret ?_
    exact TQ_ret1 rfl rfl rfl ⟨rfl, rfl⟩ (.cons .here (.cons .here .nil))

theorem abandon1_cd (x : RL) (b : Nat) (id : Int) : Cd Try.prog 47 [ptr x.p, ptr b] [x.bk, ibox b id] (.bool (decide (x.r.id = id) && !x.r.acked && !x.r.gone)) [x.bk, ibox b id] := by
  obtain ⟨⟨d, path, i, miss, at_, acked, lost, gone, again⟩, p, w⟩ := x
  dsimp only
  by_cases h : i = id
  · rw [decide_eq_true h]
    refine Ct_intro Try.func47 rfl (by simp only [Try.ntmps47, List.length_cons, List.length_nil]; omega) ?_
    intro w₀ R
    cases acked <;> cases gone <;> repeat' first
      | refine TC_seq ?_
      | refine TQ_then ?_
      | refine TQ_noPanic ?_
      | (refine TC_plain (id := 0) (by kernel_rfl) ?_; refine TR_pv0 PV_assign rfl ?_; refine TR_nil ?_)
      | (refine TC_drawn' (id := 1) [(0, 1), (1, 1), (2, 1), (3, 1), (4, 1), (5, 1), (6, 1), (7, 1), (8, 1), (9, 1), (10, 1), (11, 1), (12, 1), (13, 1), (14, 1), (15, 1), (16, 1), (17, 1), (18, 1), (19, 1), (20, 1)] mixed (by kernel_rfl) ?_; all_goals refine TR_pv1 PV_move rfl (fun _ h => h) ?_; all_goals refine TR_pv1 (PV_nil rfl) rfl (fun _ h => h) ?_; all_goals refine TR_pv1 (PV_fieldAddr rfl) rfl (fun _ h => h) ?_; all_goals refine TR_load1 rfl 0 rfl rfl rfl (fun _ h => h) ?_; all_goals refine TR_load1 rfl 1 rfl rfl rfl (fun _ h => h) ?_; all_goals refine TR_pv1 (PV_eql rfl rfl) rfl (fun _ h => h) ?_; all_goals refine TR_pv1 PV_move rfl (fun _ h => h) ?_; all_goals (refine TR_gsplit rfl rfl rfl (fun hq => ?_) (fun hq => ?_) <;> (try simp only [qs] at hq) <;> (try simp only [reduceCtorEq] at hq) <;> (try (exfalso; omega)) <;> (try contradiction) <;> refine TR_pv1 PV_move rfl (fun _ h => h) ?_); all_goals refine TR_pv1 (PV_nil rfl) rfl (fun _ h => h) ?_; all_goals refine TR_pv1 (PV_fieldAddr rfl) rfl (fun _ h => h) ?_; all_goals refine TR_load1 rfl 0 rfl rfl rfl (fun _ h => h) ?_; all_goals refine TR_pv1 (PV_not rfl) rfl (fun _ h => h) ?_; all_goals refine TR_pv1 (PV_pick_t rfl) rfl (fun _ h => h) ?_; all_goals refine TR_pv1 PV_move rfl (fun _ h => h) ?_; all_goals (first | refine TR_pv1 PV_move rfl (fun _ h => h) ?_ | refine TR_skip1 rfl (fun _ h => h) ?_); all_goals (first | refine TR_pv1 (PV_nil rfl) rfl (fun _ h => h) ?_ | refine TR_skip1 rfl (fun _ h => h) ?_); all_goals (first | refine TR_pv1 (PV_fieldAddr rfl) rfl (fun _ h => h) ?_ | refine TR_skip1 rfl (fun _ h => h) ?_); all_goals (first | refine TR_load1 rfl 0 rfl rfl rfl (fun _ h => h) ?_ | refine TR_skip1 rfl (fun _ h => h) ?_); all_goals (first | refine TR_pv1 (PV_not rfl) rfl (fun _ h => h) ?_ | refine TR_skip1 rfl (fun _ h => h) ?_); all_goals (first | refine TR_pv1 (PV_pick_t rfl) rfl (fun _ h => h) ?_ | refine TR_pv1 (PV_pick_f rfl) rfl (fun _ h => h) ?_); all_goals refine TR_pv1 PV_assign rfl (fun _ h => h) ?_; all_goals refine TR_nil ?_)
      | refine TC_ret ?_
    all_goals exact TQ_ret1 rfl rfl rfl ⟨rfl, rfl⟩ (.cons .here (.cons .here .nil))
  · rw [decide_eq_false h, Bool.false_and, Bool.false_and]
    refine Ct_intro Try.func47 rfl (by simp only [Try.ntmps47, List.length_cons, List.length_nil]; omega) ?_
    intro w₀ R
    repeat' first
      | refine TC_seq ?_
      | refine TQ_then ?_
      | refine TQ_noPanic ?_
      | (refine TC_plain (id := 0) (by kernel_rfl) ?_; refine TR_pv0 PV_assign rfl ?_; refine TR_nil ?_)
      | (refine TC_drawn' (id := 1) [(0, 1), (1, 1), (2, 1), (3, 1), (4, 1), (5, 1), (6, 1), (7, 1), (8, 1), (9, 1), (10, 1), (11, 1), (12, 1), (13, 1), (14, 1), (15, 1), (16, 1), (17, 1), (18, 1), (19, 1), (20, 1)] mixed (by kernel_rfl) ?_; all_goals refine TR_pv1 PV_move rfl (fun _ h => h) ?_; all_goals refine TR_pv1 (PV_nil rfl) rfl (fun _ h => h) ?_; all_goals refine TR_pv1 (PV_fieldAddr rfl) rfl (fun _ h => h) ?_; all_goals refine TR_load1 rfl 0 rfl rfl rfl (fun _ h => h) ?_; all_goals refine TR_load1 rfl 1 rfl rfl rfl (fun _ h => h) ?_; all_goals refine TR_pv1 (PV_eql rfl rfl) rfl (fun _ h => h) ?_; all_goals refine TR_pv1 PV_move rfl (fun _ h => h) ?_; all_goals (refine TR_gsplit rfl rfl rfl (fun hq => ?_) (fun hq => ?_) <;> (try simp only [qs] at hq) <;> (try simp only [reduceCtorEq] at hq) <;> (try (exfalso; omega)) <;> (try contradiction) <;> refine TR_skip1 rfl (fun _ h => h) ?_); all_goals refine TR_skip1 rfl (fun _ h => h) ?_; all_goals refine TR_skip1 rfl (fun _ h => h) ?_; all_goals refine TR_skip1 rfl (fun _ h => h) ?_; all_goals refine TR_skip1 rfl (fun _ h => h) ?_; all_goals refine TR_pv1 (PV_pick_f rfl) rfl (fun _ h => h) ?_; all_goals refine TR_pv1 PV_move rfl (fun _ h => h) ?_; all_goals refine TR_skip1 rfl (fun _ h => h) ?_; all_goals refine TR_skip1 rfl (fun _ h => h) ?_; all_goals refine TR_skip1 rfl (fun _ h => h) ?_; all_goals refine TR_skip1 rfl (fun _ h => h) ?_; all_goals refine TR_skip1 rfl (fun _ h => h) ?_; all_goals refine TR_pv1 (PV_pick_f rfl) rfl (fun _ h => h) ?_; all_goals refine TR_pv1 PV_assign rfl (fun _ h => h) ?_; all_goals refine TR_nil ?_)
      | refine TC_ret ?_
    all_goals exact TQ_ret1 rfl rfl rfl ⟨rfl, rfl⟩ (.cons .here (.cons .here .nil))
theorem abandon2_cd (x : RL) (b : Nat) (id : Int) : Cd Try.prog 48 [ptr x.p, ptr b] [x.bk, ibox b id] (.bool (decide (x.r.id = id))) [x.bk, ibox b id] := by
  refine Ct_intro Try.func48 rfl (by simp only [Try.ntmps48, List.length_cons, List.length_nil]; omega) ?_
  intro w₀ R
  repeat' first
    | refine TC_seq ?_
    | refine TQ_then ?_
    | refine TQ_noPanic ?_
    | (refine TC_plain (id := 0) (by kernel_rfl) ?_; refine TR_pv0 PV_assign rfl ?_; refine TR_nil ?_)
    | (refine TC_drawn' (id := 1) [(0, 1), (1, 1), (2, 1), (3, 1), (4, 1), (5, 1), (6, 1)] mixed (by kernel_rfl) ?_; refine TR_pv1 PV_move rfl (fun _ h => h) ?_; refine TR_pv1 (PV_nil rfl) rfl (fun _ h => h) ?_; refine TR_pv1 (PV_fieldAddr rfl) rfl (fun _ h => h) ?_; refine TR_load1 rfl 0 rfl rfl rfl (fun _ h => h) ?_; refine TR_load1 rfl 1 rfl rfl rfl (fun _ h => h) ?_; refine TR_pv1 (PV_eql rfl rfl) rfl (fun _ h => h) ?_; refine TR_pv1 PV_assign rfl (fun _ h => h) ?_; refine TR_nil ?_)
    | refine TC_ret ?_
  exact TQ_ret1 rfl rfl rfl ⟨rfl, rfl⟩ (.cons .here (.cons .here .nil))
theorem open1_cd (x : RL) : Cd Try.prog 50 [ptr x.p] [x.bk] (.bool (!x.r.acked)) [x.bk] := by
  refine Ct_intro Try.func50 rfl (by simp only [Try.ntmps50, List.length_cons, List.length_nil]; omega) ?_
  intro w₀ R
  repeat' first
    | refine TC_seq ?_
    | refine TQ_then ?_
    | (refine TC_plain (id := 0) (by kernel_rfl) ?_; refine TR_pv0 PV_assign rfl ?_; refine TR_nil ?_)
    | (refine TC_plain (id := 1) (by kernel_rfl) ?_; refine TR_pv0 PV_move rfl ?_; refine TR_pv0 (PV_nil rfl) rfl ?_; refine TR_pv0 (PV_fieldAddr rfl) rfl ?_; refine TR_load0 rfl 0 rfl rfl rfl ?_; refine TR_pv0 (PV_not rfl) rfl ?_; refine TR_pv0 PV_assign rfl ?_; refine TR_nil ?_)
    | refine TC_ret ?_
  exact TQ_ret1 rfl rfl rfl ⟨rfl, rfl⟩ (.cons .here .nil)
theorem sack1_cd (x : RL) : Cd Try.prog 46 [ptr x.p] [x.bk] (.bool x.r.acked) [x.bk] := by
  refine Ct_intro Try.func46 rfl (by simp only [Try.ntmps46, List.length_cons, List.length_nil]; omega) ?_
  intro w₀ R
  repeat' first
    | refine TC_seq ?_
    | refine TQ_then ?_
    | (refine TC_plain (id := 0) (by kernel_rfl) ?_; refine TR_pv0 PV_assign rfl ?_; refine TR_nil ?_)
    | (refine TC_plain (id := 1) (by kernel_rfl) ?_; refine TR_pv0 PV_move rfl ?_; refine TR_pv0 (PV_nil rfl) rfl ?_; refine TR_pv0 (PV_fieldAddr rfl) rfl ?_; refine TR_load0 rfl 0 rfl rfl rfl ?_; refine TR_pv0 PV_assign rfl ?_; refine TR_nil ?_)
    | refine TC_ret ?_
  exact TQ_ret1 rfl rfl rfl ⟨rfl, rfl⟩ (.cons .here .nil)
theorem lowest1_cd (x : RL) : Cd Try.prog 62 [ptr x.p] [x.bk] (.bool (!x.r.acked && !x.r.gone)) [x.bk] := by
  obtain ⟨⟨d, path, id, miss, at_, acked, lost, gone, again⟩, p, w⟩ := x
  refine Ct_intro Try.func62 rfl (by simp only [Try.ntmps62, List.length_cons, List.length_nil]; omega) ?_
  intro w₀ R
  cases acked <;> cases gone <;> repeat' first
    | refine TC_seq ?_
    | refine TQ_then ?_
    | (refine TC_plain (id := 0) (by kernel_rfl) ?_; refine TR_pv0 PV_assign rfl ?_; refine TR_nil ?_)
    | (refine TC_plain (id := 1) (by kernel_rfl) ?_; all_goals refine TR_pv0 PV_move rfl ?_; all_goals refine TR_pv0 (PV_nil rfl) rfl ?_; all_goals refine TR_pv0 (PV_fieldAddr rfl) rfl ?_; all_goals refine TR_load0 rfl 0 rfl rfl rfl ?_; all_goals refine TR_pv0 (PV_not rfl) rfl ?_; all_goals refine TR_pv0 PV_move rfl ?_; all_goals (first | refine TR_pv0 PV_move rfl ?_ | refine TR_skip0 rfl ?_); all_goals (first | refine TR_pv0 (PV_nil rfl) rfl ?_ | refine TR_skip0 rfl ?_); all_goals (first | refine TR_pv0 (PV_fieldAddr rfl) rfl ?_ | refine TR_skip0 rfl ?_); all_goals (first | refine TR_load0 rfl 0 rfl rfl rfl ?_ | refine TR_skip0 rfl ?_); all_goals (first | refine TR_pv0 (PV_not rfl) rfl ?_ | refine TR_skip0 rfl ?_); all_goals (first | refine TR_pv0 (PV_pick_t rfl) rfl ?_ | refine TR_pv0 (PV_pick_f rfl) rfl ?_); all_goals refine TR_pv0 PV_assign rfl ?_; all_goals refine TR_nil ?_)
    | refine TC_ret ?_
  all_goals exact TQ_ret1 rfl rfl rfl ⟨rfl, rfl⟩ (.cons .here .nil)

/-! ### Numbers -/
theorem ahead_cd (a b : Int) : Cd Try.prog 61 [u32 a, u32 b] [] (u32 ((b - a) % 4294967296)) [] := by
  refine Ct_intro Try.func61 rfl (by simp only [Try.ntmps61, List.length_cons, List.length_nil]; omega) ?_
  intro w₀ R
  repeat' first
    | refine TC_seq ?_
    | refine TQ_then ?_
    | (refine TC_plain (id := 0) (by kernel_rfl) ?_; refine TR_pv0 PV_assign rfl ?_; refine TR_nil ?_)
    | (refine TC_plain (id := 1) (by kernel_rfl) ?_; refine TR_pv0 PV_move rfl ?_; refine TR_pv0 PV_move rfl ?_; refine TR_pv0 (PV_sub32 rfl rfl) rfl ?_; refine TR_pv0 PV_assign rfl ?_; refine TR_nil ?_)
    | refine TC_ret ?_
  exact TQ_ret1 rfl rfl rfl ⟨rfl, rfl⟩ .nil
def serialIn (x base width : Int) : Bool := decide (0 < (x - base) % 4294967296) && decide (0 < width) && decide ((x - base) % 4294967296 ≤ width)
theorem in_cd (x base width : Int) (hw : 0 ≤ width ∧ width ≤ 9223372036854775807) : Cd Try.prog 60 [u32 x, u32 base, i64 width] [] (.bool (serialIn x base width)) [] := by
  have ha := ahead_cd base x
  have e1 : (x - base) % 4294967296 % 18446744073709551616 = (x - base) % 4294967296 := by omega
  have e2 : width % 18446744073709551616 = width := by omega
  unfold serialIn
  by_cases h1 : 0 < (x - base) % 4294967296
  · by_cases h2 : 0 < width
    · rw [decide_eq_true h1, decide_eq_true h2, Bool.true_and, Bool.true_and, show decide ((x - base) % 4294967296 ≤ width) = decide ((x - base) % 4294967296 % 18446744073709551616 ≤ width % 18446744073709551616) by rw [e1, e2]]
      refine Ct_intro Try.func60 rfl (by simp only [Try.ntmps60, List.length_cons, List.length_nil]; omega) ?_
      intro w₀ R
      repeat' first
        | refine TC_seq ?_
        | refine TQ_then ?_
        | (refine TC_plain (id := 0) (by kernel_rfl) ?_; refine TR_pv0 PV_assign rfl ?_; refine TR_nil ?_)
        | (refine TC_plain (id := 1) (by kernel_rfl) ?_; refine TR_pv0 PV_move rfl ?_; refine TR_pv0 PV_move rfl ?_; refine TR_calld0 (ha) rfl rfl rfl rfl ?_; refine TR_pv0 PV_assign rfl ?_; refine TR_nil ?_)
        | (refine TC_plain (id := 2) (by kernel_rfl) ?_; all_goals refine TR_pv0 PV_move rfl ?_; all_goals refine TR_pv0 (PV_gtr rfl rfl) rfl ?_; all_goals refine TR_pv0 PV_move rfl ?_; all_goals (refine TR_gsplit rfl rfl rfl (fun hq => ?_) (fun hq => ?_) <;> (try simp only [qs] at hq) <;> (try simp only [reduceCtorEq] at hq) <;> (try (exfalso; omega)) <;> (try contradiction) <;> refine TR_pv0 PV_move rfl ?_); all_goals refine TR_pv0 (PV_gtr rfl rfl) rfl ?_; all_goals refine TR_pv0 (PV_pick_t rfl) rfl ?_; all_goals refine TR_pv0 PV_move rfl ?_; all_goals (refine TR_gsplit rfl rfl rfl (fun hq => ?_) (fun hq => ?_) <;> (try simp only [qs] at hq) <;> (try simp only [reduceCtorEq] at hq) <;> (try (exfalso; omega)) <;> (try contradiction) <;> refine TR_pv0 PV_move rfl ?_); all_goals refine TR_pv0 (PV_convu64 rfl) rfl ?_; all_goals refine TR_pv0 PV_move rfl ?_; all_goals refine TR_pv0 (PV_convu64 rfl) rfl ?_; all_goals refine TR_pv0 (PV_leq rfl rfl) rfl ?_; all_goals refine TR_pv0 (PV_pick_t rfl) rfl ?_; all_goals refine TR_pv0 PV_assign rfl ?_; all_goals refine TR_nil ?_)
        | refine TC_ret ?_
      exact TQ_ret1 rfl rfl rfl ⟨rfl, rfl⟩ .nil
    · rw [decide_eq_false h2, Bool.and_false, Bool.false_and]
      refine Ct_intro Try.func60 rfl (by simp only [Try.ntmps60, List.length_cons, List.length_nil]; omega) ?_
      intro w₀ R
      repeat' first
        | refine TC_seq ?_
        | refine TQ_then ?_
        | (refine TC_plain (id := 0) (by kernel_rfl) ?_; refine TR_pv0 PV_assign rfl ?_; refine TR_nil ?_)
        | (refine TC_plain (id := 1) (by kernel_rfl) ?_; refine TR_pv0 PV_move rfl ?_; refine TR_pv0 PV_move rfl ?_; refine TR_calld0 (ha) rfl rfl rfl rfl ?_; refine TR_pv0 PV_assign rfl ?_; refine TR_nil ?_)
        | (refine TC_plain (id := 2) (by kernel_rfl) ?_; all_goals refine TR_pv0 PV_move rfl ?_; all_goals refine TR_pv0 (PV_gtr rfl rfl) rfl ?_; all_goals refine TR_pv0 PV_move rfl ?_; all_goals (refine TR_gsplit rfl rfl rfl (fun hq => ?_) (fun hq => ?_) <;> (try simp only [qs] at hq) <;> (try simp only [reduceCtorEq] at hq) <;> (try (exfalso; omega)) <;> (try contradiction) <;> refine TR_pv0 PV_move rfl ?_); all_goals refine TR_pv0 (PV_gtr rfl rfl) rfl ?_; all_goals refine TR_pv0 (PV_pick_t rfl) rfl ?_; all_goals refine TR_pv0 PV_move rfl ?_; all_goals (refine TR_gsplit rfl rfl rfl (fun hq => ?_) (fun hq => ?_) <;> (try simp only [qs] at hq) <;> (try simp only [reduceCtorEq] at hq) <;> (try (exfalso; omega)) <;> (try contradiction) <;> refine TR_skip0 rfl ?_); all_goals refine TR_skip0 rfl ?_; all_goals refine TR_skip0 rfl ?_; all_goals refine TR_skip0 rfl ?_; all_goals refine TR_skip0 rfl ?_; all_goals refine TR_pv0 (PV_pick_f rfl) rfl ?_; all_goals refine TR_pv0 PV_assign rfl ?_; all_goals refine TR_nil ?_)
        | refine TC_ret ?_
      exact TQ_ret1 rfl rfl rfl ⟨rfl, rfl⟩ .nil
  · rw [decide_eq_false h1, Bool.false_and, Bool.false_and]
    refine Ct_intro Try.func60 rfl (by simp only [Try.ntmps60, List.length_cons, List.length_nil]; omega) ?_
    intro w₀ R
    repeat' first
      | refine TC_seq ?_
      | refine TQ_then ?_
      | (refine TC_plain (id := 0) (by kernel_rfl) ?_; refine TR_pv0 PV_assign rfl ?_; refine TR_nil ?_)
      | (refine TC_plain (id := 1) (by kernel_rfl) ?_; refine TR_pv0 PV_move rfl ?_; refine TR_pv0 PV_move rfl ?_; refine TR_calld0 (ha) rfl rfl rfl rfl ?_; refine TR_pv0 PV_assign rfl ?_; refine TR_nil ?_)
      | (refine TC_plain (id := 2) (by kernel_rfl) ?_; all_goals refine TR_pv0 PV_move rfl ?_; all_goals refine TR_pv0 (PV_gtr rfl rfl) rfl ?_; all_goals refine TR_pv0 PV_move rfl ?_; all_goals (refine TR_gsplit rfl rfl rfl (fun hq => ?_) (fun hq => ?_) <;> (try simp only [qs] at hq) <;> (try simp only [reduceCtorEq] at hq) <;> (try (exfalso; omega)) <;> (try contradiction) <;> refine TR_skip0 rfl ?_); all_goals refine TR_skip0 rfl ?_; all_goals refine TR_pv0 (PV_pick_f rfl) rfl ?_; all_goals refine TR_pv0 PV_move rfl ?_; all_goals refine TR_skip0 rfl ?_; all_goals refine TR_skip0 rfl ?_; all_goals refine TR_skip0 rfl ?_; all_goals refine TR_skip0 rfl ?_; all_goals refine TR_skip0 rfl ?_; all_goals refine TR_pv0 (PV_pick_f rfl) rfl ?_; all_goals refine TR_pv0 PV_assign rfl ?_; all_goals refine TR_nil ?_)
      | refine TC_ret ?_
    exact TQ_ret1 rfl rfl rfl ⟨rfl, rfl⟩ .nil
end Go.Proofs.Ytonfkkdahlboiaa
