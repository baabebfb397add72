/- The functions of a flight, by what they make of its records. -/
import Derived.Test.YtonfkkdahlboiaaFlR
namespace Go.Proofs.Ytonfkkdahlboiaa
open Go.RowKit

theorem markF_ct (b : Nat) (X : FL) (h : FlOk X) (path : Int) : Ct Try.prog 12 [ptr b, i64 path] [X.seg b]
    (fun v D => v = i64 (countIf (fun r => decide (r.path = path) && r.away) X.recs) ∧ ∃ X', D = [X'.seg b] ∧ FlOk X' ∧ X'.abs = X.abs.mark path ∧ X'.ptrs = X.ptrs) :=
  Ct.post (markF_cd b X h path) fun v D ⟨h1, h2⟩ => ⟨D, ⟨h1, _, h2, upTo_ok h _ _ (markR_d path) (fun r => markR_ok path), by rw [FL.abs, upTo_recs]; rfl, upTo_ptrs X _ _⟩, fun _ _ hs => hs⟩
theorem abandon_abs (X : FL) (id : Int) : (X.abandon id).abs = X.abs.abandon id := by
  rw [FL.abandon, Flt.abandon]
  show _ = if livesOf id X.recs = 0 then X.abs else _
  by_cases h : livesOf id X.recs = 0
  · rw [if_pos h, if_pos h]
  · rw [if_neg h, if_neg h, FL.abs, upTo_recs]; rfl
theorem abandon_ok {X : FL} (h : FlOk X) (id : Int) : FlOk (X.abandon id) ∧ (X.abandon id).ptrs = X.ptrs := by
  rw [FL.abandon]
  by_cases hz : livesOf id X.recs = 0
  · rw [if_pos hz]; exact ⟨h, rfl⟩
  · rw [if_neg hz]; exact ⟨upTo_ok h _ _ (goneR_d id) (fun r => goneR_ok id), upTo_ptrs X _ _⟩
theorem abandonF_ct (b : Nat) (X : FL) (h : FlOk X) (id : Int) : Ct Try.prog 19 [ptr b, i64 id] [X.seg b]
    (fun v D => v = i64 (livesOf id X.recs) ∧ ∃ X', D = [X'.seg b] ∧ FlOk X' ∧ X'.abs = X.abs.abandon id ∧ X'.ptrs = X.ptrs) :=
  Ct.post (abandonF_cd b X h id) fun v D ⟨h1, h2⟩ => ⟨D, ⟨h1, _, h2, (abandon_ok h id).1, abandon_abs X id, (abandon_ok h id).2⟩, fun _ _ hs => hs⟩

/-- An add of bytes that lie in a block of their own. -/
theorem addB_ct (b qb : Nat) (X : FL) (h : FlOk X) (d : Pc) (path now id : Int) (hn : d.bytes.length ≤ 1048576) (he : X.abs.addE d path = 0) :
    Ct Try.prog 11 [ptr b, .agg (d.cells (.slice (some ⟨qb, 0, none⟩) d.bytes.length d.bytes.length)).toArray, i64 path, i64 now, i64 id] [X.seg b, blk qb 5 (u8s d.bytes)]
      (fun v D => v = .tuple #[u32 X.abs.next, i64 0] ∧ ∃ X', D = [X'.seg b, blk qb 5 (u8s d.bytes)] ∧ FlOk X' ∧ X'.abs = X.abs.add d path now id) :=
  addF_yes b X h d (some ⟨qb, 0, none⟩) d.bytes.length path now id (blk qb 5 (u8s d.bytes))
    (fun w hw => .of (sat_one hw (.head _)) (m := d.bytes.length) (by rw [List.drop_zero, List.take_of_length_le (by rw [u8s_length]; omega)])) hn he
theorem lost_head {X : FL} (h : FlOk X) {r0 : FRec} (h0 : X.recs[0]? = some r0) :
    (r0.open_ = true → ∃ ts, lostOf X.recs = r0.d.tsn :: ts) ∧ (r0.open_ = false → ∀ t ts, lostOf X.recs = t :: ts → t ≠ r0.d.tsn) := by
  refine ⟨fun ho => ?_, fun ho t ts hl ht => ?_⟩
  · cases hX : X.recs with
    | nil => rw [hX] at h0; cases h0
    | cons r l =>
      rw [hX] at h0
      obtain rfl : r = r0 := by simpa using h0
      exact ⟨(l.filter FRec.open_).map (·.d.tsn), by rw [lostOf, List.filter_cons_of_pos ho]; rfl⟩
  · obtain ⟨j, r, hj, hr, hrt⟩ := lost_at (l := X.recs) (q := 0) (t := t) (by rw [hl]; rfl)
    obtain ⟨x, hx, rfl⟩ : ∃ x, X.l[j]? = some x ∧ x.r = r := by rw [FL.recs, List.getElem?_map] at hj; exact Option.map_eq_some_iff.1 hj
    obtain ⟨x0, hx0, rfl⟩ : ∃ x, X.l[0]? = some x ∧ x.r = r0 := by rw [FL.recs, List.getElem?_map] at h0; exact Option.map_eq_some_iff.1 h0
    have e1 := idx_of_tsn h hx
    have e2 := idx_of_tsn h hx0
    rw [hrt, ht, e2] at e1
    obtain rfl : 0 = j := by simpa using e1
    rw [hx0] at hx
    obtain rfl := Option.some.inj hx
    rw [hr] at ho; cases ho
end Go.Proofs.Ytonfkkdahlboiaa
