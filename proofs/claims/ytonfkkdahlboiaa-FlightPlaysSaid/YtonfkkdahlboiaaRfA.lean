/- The flight of the reference: where it lies, what is read of it and written to it. -/
import Derived.Test.YtonfkkdahlboiaaFltE
namespace Go.Proofs.Ytonfkkdahlboiaa
open Go.RowKit
set_option maxHeartbeats 4000000

/-- A record of the reference: its bytes. -/
structure QL where
  r : FRec
  w : Row
abbrev QL.cells (x : QL) : List Value :=
  [u32 x.r.d.tsn, u16 x.r.d.stream, u16 x.r.d.ssn, .bool x.r.d.unord, .bool x.r.d.first, .bool x.r.d.last, x.w.val x.r.d.bytes.length, i64 x.r.path, i64 x.r.at_, i64 x.r.id, i64 x.r.miss, .bool x.r.acked, .bool x.r.lost, .bool x.r.gone, .bool x.r.again]
abbrev QL.ok (x : QL) : Prop := x.w.ok 5 1 x.r.d.bytes.length (u8s x.r.d.bytes)
def qcells (l : List QL) : List Value := (l.map QL.cells).flatten
def qsegs (l : List QL) : Seg := (l.map fun x => x.w.C).flatten
structure QF where
  l : List QL
  w : Row
  cum : Int
  paths : Int
abbrev QF.bk (b : Nat) (X : QF) : Seg := blk b 107 [X.w.val X.l.length, u32 X.cum, i64 X.paths]
def QF.seg (b : Nat) (X : QF) : Seg := X.bk b ++ (X.w.C ++ qsegs X.l)
def QF.recs (X : QF) : List FRec := X.l.map QL.r
def QF.abs (X : QF) : Flt := ⟨X.recs, X.cum, X.paths⟩
/-- Where its rows lie. -/
structure QfOk (X : QF) : Prop where
  row : X.w.ok 111 15 X.l.length (qcells X.l)
  recs : ∀ x ∈ X.l, x.ok
/-- What is known of a flight as such. -/
structure FrOk (F : Flt) : Prop where
  recs : ∀ r ∈ F.l, FRecOk r F.paths
  len : F.l.length ≤ 2048
  c0 : 0 ≤ F.cum
  c1 : F.cum ≤ 4294967295
  q0 : 1 ≤ F.paths
  q1 : F.paths ≤ 4
  tsn : ∀ (k : Nat) r, F.l[k]? = some r → r.d.tsn = (F.cum + 1 + k) % 4294967296
theorem FlOk.fr {X : FL} (h : FlOk X) : FrOk X.abs :=
  ⟨h.rec_ok, by show X.recs.length ≤ _; rw [recs_length]; exact h.len, h.c0, h.c1, h.q0, h.q1, fun k r hk => by
    obtain ⟨x, hx, rfl⟩ := Option.map_eq_some_iff.1 (show (X.l[k]?).map RL.r = some r by rw [← List.getElem?_map]; exact hk)
    exact h.tsn k x hx⟩

theorem qsegs_append (l m : List QL) : qsegs (l ++ m) = qsegs l ++ qsegs m := by simp [qsegs]
theorem qsegs_cons (x : QL) (l : List QL) : qsegs (x :: l) = x.w.C ++ qsegs l := by simp [qsegs]
theorem qsegs_at {l : List QL} {k : Nat} {x : QL} (h : l[k]? = some x) : qsegs l = qsegs (l.take k) ++ (x.w.C ++ qsegs (l.drop (k + 1))) := by
  conv => lhs; rw [split_at h]
  rw [qsegs_append, qsegs_cons]
theorem qrecs_length (X : QF) : X.recs.length = X.l.length := List.length_map _
theorem qrecs_at {X : QF} {k : Nat} {e : QL} (h : X.l[k]? = some e) : X.recs[k]? = some e.r := by rw [QF.recs, List.getElem?_map, h]; rfl
theorem QF.seg_at (b : Nat) {X : QF} {k : Nat} {x : QL} (h : X.l[k]? = some x) : X.seg b = X.bk b ++ (X.w.C ++ (qsegs (X.l.take k) ++ (x.w.C ++ qsegs (X.l.drop (k + 1))))) := by
  rw [QF.seg, qsegs_at h]
theorem qcells_len (l : List QL) : (qcells l).length = l.length * 15 := by
  induction l with
  | nil => rfl
  | cons x l ih => simp only [qcells, List.map_cons, List.flatten_cons, List.length_append] at ih ⊢; rw [ih]; simp only [List.length_cons, List.length_nil]; omega

/-- The cells of a row of records. -/
structure QAt (off cap : Nat) (cells : List Value) (l : List QL) : Prop where
  c : l.length ≤ cap
  m : cap ≤ maxLen
  b : off + cap * 15 ≤ cells.length
  t : (cells.drop off).take (l.length * 15) = qcells l
theorem QAt.sl {off cap : Nat} {cells : List Value} {l : List QL} (h : QAt off cap cells l) (rb : Nat) : Sl 111 15 (some ⟨rb, off, none⟩) l.length cap [(rb, .cells cells.toArray 111 (0, 0))] (qcells l) :=
  .row (qcells_len l) h.c h.m h.b h.t
theorem qat_of {T : Nat} {a : Option Addr} {cap : Nat} {C : Seg} {l : List QL} (h : Sl T 15 a l.length cap C (qcells l)) (h0 : 0 < l.length) :
    ∃ (rb off : Nat) (cells : List Value), a = some ⟨rb, off, none⟩ ∧ C = [(rb, .cells cells.toArray T (0, 0))] ∧ QAt off cap cells l := by
  obtain ⟨h1, h2⟩ := h.cap
  obtain ⟨rb, off, cells, ha, hC, hl, ht⟩ := h.opened h0
  exact ⟨rb, off, cells, ha, hC, h1, h2, hl, ht⟩
theorem QAt.get {off cap : Nat} {cells : List Value} {l : List QL} (h : QAt off cap cells l) {k : Nat} {x : QL} (hx : l[k]? = some x) : (cells.drop (off + k * 15)).take 15 = x.cells :=
  flat_at (xs := l.map QL.cells) (fun y hy => by obtain ⟨z, _, rfl⟩ := List.mem_map.1 hy; rfl) (by rw [List.length_map]; exact h.t) (by rw [List.getElem?_map, hx]; rfl)
theorem QAt.cell {off cap : Nat} {cells : List Value} {l : List QL} (h : QAt off cap cells l) {k : Nat} {x : QL} (hx : l[k]? = some x) {j : Nat} {v : Value} (hj : j < 15) (hv : x.cells[j]? = some v) : cells[off + k * 15 + j]? = some v := by
  rw [take_at (h.get hx) hj]; exact hv
theorem QAt.lt {off cap : Nat} {cells : List Value} {l : List QL} (h : QAt off cap cells l) {k : Nat} (hk : k < l.length) {j : Nat} (hj : j < 15) : off + k * 15 + j < cells.length := by
  have h1 := h.b
  have h2 := h.c
  have : (k + 1) * 15 ≤ cap * 15 := Nat.mul_le_mul_right _ (by omega)
  omega
theorem flatten_set {α : Type} : ∀ (xs : List (List α)) (k : Nat) (x : List α) (j : Nat) (v : α) (sz : Nat), (∀ y ∈ xs, y.length = sz) → xs[k]? = some x → j < sz → xs.flatten.set (k * sz + j) v = (xs.set k (x.set j v)).flatten
  | [], k, x, j, v, sz, _, h, _ => by cases h
  | y :: xs, 0, x, j, v, sz, hs, h, hj => by
    obtain rfl : y = x := Option.some.inj h
    have := hs y (.head _)
    simp only [List.flatten_cons, Nat.zero_mul, Nat.zero_add, List.set_cons_zero]
    rw [List.set_append_left _ _ (by omega)]
  | y :: xs, k + 1, x, j, v, sz, hs, h, hj => by
    have hy := hs y (.head _)
    have ih := flatten_set xs k x j v sz (fun z hz => hs z (.tail _ hz)) h hj
    simp only [List.flatten_cons, List.set_cons_succ]
    rw [List.set_append_right _ _ (by rw [Nat.add_mul]; omega), ← ih]
    congr 2
    rw [Nat.add_mul, hy]; omega
theorem take_drop_set {cells : List Value} {off n i : Nat} {v : Value} (hi : i < n) : ((cells.set (off + i) v).drop off).take n = ((cells.drop off).take n).set i v := by
  apply List.ext_getElem?
  intro j
  simp only [List.getElem?_take, List.getElem?_drop, List.getElem?_set, List.length_take, List.length_drop]
  by_cases h1 : j < n
  · rw [if_pos h1]
    by_cases h2 : i = j
    · subst h2
      rw [if_pos rfl, if_pos rfl]
      by_cases h3 : off + i < cells.length
      · rw [if_pos h3, if_pos (by omega)]
      · rw [if_neg h3, if_neg (by omega)]
    · rw [if_neg (by omega), if_neg h2, if_pos h1]
  · rw [if_neg h1]
    by_cases h2 : i = j
    · omega
    · rw [if_neg h2, if_neg h1]
theorem QAt.store {off cap : Nat} {cells : List Value} {l : List QL} (h : QAt off cap cells l) {k : Nat} {x y : QL} (hx : l[k]? = some x) {j : Nat} {v : Value} (hj : j < 15) (hy : y.cells = x.cells.set j v) :
    QAt off cap (cells.set (off + k * 15 + j) v) (l.set k y) := by
  have hk := (List.getElem?_eq_some_iff.1 hx).1
  refine ⟨by rw [List.length_set]; exact h.c, h.m, by rw [List.length_set]; exact h.b, ?_⟩
  rw [List.length_set, Nat.add_assoc, take_drop_set (by have : (k + 1) * 15 ≤ l.length * 15 := Nat.mul_le_mul_right _ hk; omega), h.t, qcells, flatten_set _ k x.cells j v 15 (fun z hz => by obtain ⟨q, _, rfl⟩ := List.mem_map.1 hz; rfl) (by rw [List.getElem?_map, hx]; rfl) hj,
    ← hy, ← List.map_set]
  rfl
theorem qsegs_set {l : List QL} {k : Nat} {x y : QL} (hx : l[k]? = some x) (hy : y.w = x.w) : qsegs (l.set k y) = qsegs l := by
  unfold qsegs
  rw [List.map_set]
  congr 1
  apply List.ext_getElem?
  intro j
  rw [List.getElem?_set, List.getElem?_map]
  by_cases h : k = j
  · subst h
    rw [if_pos rfl, hx, if_pos (by rw [List.length_map]; exact (List.getElem?_eq_some_iff.1 hx).1), hy]; rfl
  · rw [if_neg h]
/-- A record is another one; what its row is then. -/
def QF.put (X : QF) (k : Nat) (y : QL) (a : Option Addr) (C : Seg) : QF := { X with l := X.l.set k y, w := ⟨a, X.w.cap, C⟩ }
theorem QF.put_bk (b : Nat) {X : QF} {k : Nat} {y : QL} {a : Option Addr} (ha : X.w.a = a) {C : Seg} : (X.put k y a C).bk b = X.bk b := by
  show blk b 107 [Value.slice a (X.l.set k y).length X.w.cap, u32 X.cum, i64 X.paths] = _
  rw [List.length_set]; subst ha; rfl
theorem QF.put_seg (b : Nat) {X : QF} {k : Nat} {x y : QL} (hx : X.l[k]? = some x) (hy : y.w = x.w) {a : Option Addr} (ha : X.w.a = a) (C : Seg) : (X.put k y a C).seg b = X.bk b ++ (C ++ qsegs X.l) := by
  show blk b 107 [Value.slice a (X.l.set k y).length X.w.cap, u32 X.cum, i64 X.paths] ++ (C ++ qsegs (X.l.set k y)) = _
  rw [List.length_set, qsegs_set hx hy]
  subst ha; rfl
theorem recs_set {l : List QL} {k : Nat} {x : QL} (hx : l[k]? = some x) (f : FRec → FRec) : (l.set k { x with r := f x.r }).map QL.r = (l.map QL.r).modify k f := by
  apply List.ext_getElem?
  intro j
  rw [List.getElem?_map, List.getElem?_set, List.getElem?_modify, List.getElem?_map]
  by_cases h : k = j
  · subst h
    rw [if_pos rfl, hx, if_pos (List.getElem?_eq_some_iff.1 hx).1]; simp
  · rw [if_neg h]; cases l[j]? <;> simp [h]
theorem oks_set {l : List QL} {k : Nat} {x y : QL} (h : ∀ z ∈ l, z.ok) (hx : l[k]? = some x) (hw : y.w = x.w) (hd : y.r.d = x.r.d) : ∀ z ∈ l.set k y, z.ok := by
  intro z hz
  rcases List.mem_or_eq_of_mem_set hz with h1 | rfl
  · exact h z h1
  · have := h x (List.mem_of_getElem? hx)
    simp only [QL.ok] at this ⊢
    rw [hw, hd]; exact this
end Go.Proofs.Ytonfkkdahlboiaa
