/- FlightMarks: the plain law. -/
import Derived.Test.YtonfkkdahlboiaaFDoesC
namespace Go.Proofs.Ytonfkkdahlboiaa
open Go.RowKit

theorem doF_paths (F : Flt) (o : LOp) (cum : Int) : (F.doF o cum).paths = F.paths := by
  rw [Flt.doF]
  by_cases h0 : o.kind = 0
  · rw [if_pos h0, Flt.add]; split <;> rfl
  rw [if_neg h0]
  by_cases h1 : o.kind = 1
  · rw [if_pos h1, Flt.again]
    split
    · split <;> rfl
    · rfl
  rw [if_neg h1]
  by_cases h2 : o.kind = 2
  · rw [if_pos h2]
  rw [if_neg h2]
  by_cases h3 : o.kind = 3
  · rw [if_pos h3]; rfl
  rw [if_neg h3]
  by_cases h4 : o.kind = 4
  · rw [if_pos h4, Flt.abandon]; split <;> rfl
  rw [if_neg h4]
  by_cases h5 : o.kind = 5
  · rw [if_pos h5]; split <;> rfl
  rw [if_neg h5]
theorem lostOf_cons (r : FRec) (l : List FRec) : lostOf (r :: l) = if r.open_ then r.d.tsn :: lostOf l else lostOf l := by
  unfold lostOf
  cases h : r.open_ with
  | true => rw [List.filter_cons_of_pos h, List.map_cons]; rfl
  | false => rw [List.filter_cons_of_neg (by rw [h]; simp)]; rfl
theorem countIf_cons (p : FRec → Bool) (r : FRec) (l : List FRec) : countIf p (r :: l) = (if p r then 1 else 0) + countIf p l := by simp [countIf]
theorem sumIf_cons (p : FRec → Bool) (r : FRec) (l : List FRec) : sumIf p (r :: l) = (if p r then (r.d.bytes.length : Int) else 0) + sumIf p l := by simp [sumIf]
theorem mark_open (path : Int) (r : FRec) : (markR path r).open_ = (r.open_ || (decide (r.path = path) && r.away)) ∧ (r.open_ && (decide (r.path = path) && r.away)) = false := by
  unfold markR
  obtain ⟨d, p, id, miss, at_, acked, lost, gone, again⟩ := r
  simp only [FRec.open_, FRec.away]
  by_cases hp : p = path
  · rw [decide_eq_true hp]; cases acked <;> cases lost <;> cases gone <;> simp
  · rw [decide_eq_false hp]; cases acked <;> cases lost <;> cases gone <;> simp
theorem mark_count (path : Int) : ∀ l : List FRec, ((lostOf (l.map (markR path))).length : Int) = (lostOf l).length + countIf (fun r => decide (r.path = path) && r.away) l
  | [] => rfl
  | r :: l => by
    have ih := mark_count path l
    obtain ⟨h1, h2⟩ := mark_open path r
    rw [List.map_cons, lostOf_cons, lostOf_cons, countIf_cons, h1]
    cases ho : r.open_ <;> cases ha : (decide (r.path = path) && r.away) <;> simp_all <;> omega
theorem mark_out (path p : Int) : ∀ l : List FRec, sumIf (fun r => decide (r.path = p) && r.away) (l.map (markR path)) = if p = path then 0 else sumIf (fun r => decide (r.path = p) && r.away) l
  | [] => by simp [sumIf]
  | r :: l => by
    have ih := mark_out path p l
    rw [List.map_cons, sumIf_cons, sumIf_cons, ih]
    unfold markR
    by_cases hp : p = path
    · subst hp
      rw [if_pos rfl, if_pos rfl]
      by_cases hr : (decide (r.path = p) && r.away) = true
      · rw [if_pos hr]; simp [FRec.away]
      · rw [if_neg hr, if_neg hr]; rfl
    · rw [if_neg hp, if_neg hp]
      by_cases hr : (decide (r.path = path) && r.away) = true
      · rw [if_pos hr]
        simp only [Bool.and_eq_true, decide_eq_true_eq] at hr
        have hne : ¬ r.path = p := fun h => hp (h.symm.trans hr.1)
        simp [hne]
      · rw [if_neg hr]
theorem lost_first : ∀ {l : List FRec} {t : Int} {ts : List Int}, lostOf l = t :: ts → ∃ (j : Nat) (r : FRec), l[j]? = some r ∧ r.open_ = true ∧ r.d.tsn = t ∧ ∀ g : FRec → FRec, (g r).open_ = false → lostOf (l.modify j g) = ts
  | [], _, _, h => by cases h
  | r :: l, t, ts, h => by
    rw [lostOf_cons] at h
    cases ho : r.open_ with
    | true =>
      rw [ho, if_pos rfl] at h
      obtain ⟨rfl, rfl⟩ := List.cons.inj h
      refine ⟨0, r, rfl, ho, rfl, fun g hg => ?_⟩
      show lostOf (g r :: l) = _
      rw [lostOf_cons, hg]; rfl
    | false =>
      rw [ho, if_neg (by simp)] at h
      obtain ⟨j, r', h1, h2, h3, h4⟩ := lost_first h
      refine ⟨j + 1, r', h1, h2, h3, fun g hg => ?_⟩
      show lostOf (r :: l.modify j g) = _
      rw [lostOf_cons, ho, if_neg (by simp)]
      exact h4 g hg

/-- The first that is lost. -/
structure Head (X : FL) (t : Int) (k : Nat) (x : RL) : Prop where
  idx : X.abs.idx t = some k
  at_ : X.l[k]? = some x
theorem recs_some {X : FL} {j : Nat} {r : FRec} (h : X.recs[j]? = some r) : ∃ x, X.l[j]? = some x ∧ x.r = r := by
  rw [FL.recs, List.getElem?_map] at h; exact Option.map_eq_some_iff.1 h
theorem head_of {X : FL} (h : FlOk X) {t : Int} {ts : List Int} (hl : lostOf X.recs = t :: ts) : ∃ k x, Head X t k x ∧ x.r.open_ = true ∧ 1 ≤ x.r.d.bytes.length ∧ ∀ g : FRec → FRec, (g x.r).open_ = false → lostOf (X.recs.modify k g) = ts := by
  obtain ⟨j, r, h1, h2, h3, h4⟩ := lost_first hl
  obtain ⟨x, hx, rfl⟩ := recs_some h1
  exact ⟨j, x, ⟨by rw [← h3]; exact idx_of_tsn h hx, hx⟩, h2, (h.recs x (List.mem_of_getElem? hx)).2.b0, h4⟩
theorem Head.get {X : FL} {t : Int} {k : Nat} {x : RL} (h : Head X t k x) : X.abs.get t = some x.r := by
  rw [get_of_idx h.idx]
  show X.recs[k]? = _
  rw [FL.recs, List.getElem?_map, h.at_]; rfl
/-- Sent again: it may be. -/
theorem again_yes_ct (b : Nat) (X : FL) (h : FlOk X) {t : Int} {ts : List Int} (hl : lostOf X.recs = t :: ts) {by_ : Int} (hb : 0 ≤ by_ ∧ by_ < X.paths) (now : Int) : Ct Try.prog 13 [ptr b, u32 t, i64 by_, i64 now] [X.seg b]
    (fun v D => v = i64 0 ∧ ∃ X', D = [X'.seg b] ∧ FlOk X' ∧ lostOf X'.recs = ts ∧ X'.paths = X.paths ∧ ∃ k x, Head X' t k x ∧ x.r.path = by_ ∧ x.r.open_ = false) := by
  obtain ⟨k, x, hh, ho, _, hg⟩ := head_of h hl
  have hE : X.abs.againE t by_ = 0 := by
    rw [Flt.againE, if_neg (show ¬ (by_ < 0 ∨ X.abs.paths ≤ by_) from (show ¬ (by_ < 0 ∨ X.paths ≤ by_) by omega)), hh.get]
    show (if x.r.open_ then (0 : Int) else 11) = 0
    rw [ho]; rfl
  have hA : X.abs.again t by_ now = { X.abs with l := X.abs.l.modify k (againR by_ now) } := by rw [Flt.again, if_pos hE, hh.idx]
  have hno : (againR by_ now x.r).open_ = false := by simp [againR, FRec.open_]
  refine Ct.post (againF_ct b X h t by_ now) fun v D ⟨h1, X', h2, h3, h4, _⟩ => ⟨D, ⟨by rw [h1, hE], X', h2, h3, ?_, ?_, ?_⟩, fun _ _ hs => hs⟩
  · have e : X'.recs = X.recs.modify k (againR by_ now) := congrArg Flt.l (h4.trans hA)
    rw [e]; exact hg _ hno
  · exact congrArg Flt.paths (h4.trans hA)
  · have e : X'.recs = X.recs.modify k (againR by_ now) := congrArg Flt.l (h4.trans hA)
    have hr : X'.recs[k]? = some (againR by_ now x.r) := by
      rw [e, List.getElem?_modify, FL.recs, List.getElem?_map, hh.at_]; simp
    obtain ⟨x', hx', hxr⟩ := recs_some hr
    refine ⟨k, x', ⟨?_, hx'⟩, by rw [hxr]; rfl, by rw [hxr]; exact hno⟩
    have := hh.idx
    rw [h4, hA]
    unfold Flt.idx at this ⊢
    simp only [List.length_modify]
    exact this
/-- It may not: it is not lost any more. -/
theorem again_none_ct (b : Nat) (X : FL) (h : FlOk X) {t : Int} {k : Nat} {x : RL} (hh : Head X t k x) (ho : x.r.open_ = false) {by_ : Int} (hb : 0 ≤ by_ ∧ by_ < X.paths) (now : Int) : Ct Try.prog 13 [ptr b, u32 t, i64 by_, i64 now] [X.seg b]
    (fun v D => v = i64 11 ∧ ∃ X', D = [X'.seg b] ∧ FlOk X' ∧ X'.abs = X.abs) := by
  have hE : X.abs.againE t by_ = 11 := by
    rw [Flt.againE, if_neg (show ¬ (by_ < 0 ∨ X.abs.paths ≤ by_) from (show ¬ (by_ < 0 ∨ X.paths ≤ by_) by omega)), hh.get]
    show (if x.r.open_ then (0 : Int) else 11) = 11
    rw [ho]; rfl
  exact Ct.post (againF_ct b X h t by_ now) fun v D ⟨h1, X', h2, h3, h4, _⟩ => ⟨D, ⟨by rw [h1, hE], X', h2, h3, by rw [h4, Flt.again, if_neg (by rw [hE]; omega)]⟩, fun _ _ hs => hs⟩
/-- It may not: there is no such path. -/
theorem again_arg_ct (b : Nat) (X : FL) (h : FlOk X) (t : Int) {by_ : Int} (hb : by_ < 0 ∨ X.paths ≤ by_) (now : Int) : Ct Try.prog 13 [ptr b, u32 t, i64 by_, i64 now] [X.seg b]
    (fun v D => v = i64 1 ∧ ∃ X', D = [X'.seg b] ∧ FlOk X' ∧ X'.abs = X.abs) := by
  have hE : X.abs.againE t by_ = 1 := if_pos hb
  exact Ct.post (againF_ct b X h t by_ now) fun v D ⟨h1, X', h2, h3, h4, _⟩ => ⟨D, ⟨by rw [h1, hE], X', h2, h3, by rw [h4, Flt.again, if_neg (by rw [hE]; omega)]⟩, fun _ _ hs => hs⟩
theorem vast2_ct (H : Seg) (a : Option Addr) (n cap : Nat) (ops : List LOp) (hn : n ≤ 9223372036854775807) (ho : ∀ o ∈ ops, o.ok H) (hs : SliceAt H 13 a n (ops.map LOp.cells)) :
    Ct Try.prog 21 [.slice a n cap] [H] (fun v D => ∃ r : Bool, v = .bool r ∧ D = [H] ∧ (r = false → Few ops)) :=
  Ct.post (vast_ct H a n cap ops hn ho hs) fun v D ⟨h1, h2⟩ => by
    rcases h2 with h2 | ⟨h2, h3⟩
    · exact ⟨D, ⟨true, h2, h1, fun h => by cases h⟩, fun _ _ hs => hs⟩
    · exact ⟨D, ⟨false, h2, h1, fun _ => h3⟩, fun _ _ hs => hs⟩
end Go.Proofs.Ytonfkkdahlboiaa
