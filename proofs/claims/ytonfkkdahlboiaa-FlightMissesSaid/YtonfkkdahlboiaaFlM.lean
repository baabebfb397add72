/- FlightMisses: the plain law. -/
import Derived.Test.YtonfkkdahlboiaaFlX
namespace Go.Proofs.Ytonfkkdahlboiaa
open Go.RowKit

structure MI (n : Nat) (c : Int) (again : Bool) (seen : List Bool) (fresh : Nat) (F : Flt) : Prop where
  len : F.l.length = n + 1
  cum : F.cum = c
  slen : seen.length = n + 1
  at_ : ∀ (j : Nat) r, F.l[j]? = some r → r.path = 0 ∧ (1 ≤ j → seen[j]? = some r.acked)
  zero : ∃ r, F.l[0]? = some r ∧ r.acked = false ∧ r.gone = false ∧ r.again = again ∧ (again = true → r.lost = false) ∧ (again = false → r.miss = min (fresh : Int) 3 ∧ r.lost = decide (3 ≤ fresh))
  fr : ∀ j : Nat, 1 ≤ j → seen[j]? = some true → 1 ≤ fresh
theorem MI.step {n : Nat} {c : Int} {again : Bool} {seen : List Bool} {fresh : Nat} {F : Flt} (h : MI n c again seen fresh F) {k : Nat} (h1 : 1 ≤ k) (h2 : k ≤ n) {s : Bool} (hs : seen[k]? = some s) :
    MI n c again (seen.set k true) (if s then fresh else fresh + 1) (F.sack c [((k : Int) + 1, (k : Int) + 1)]) := by
  have hkl : k < F.l.length := by rw [h.len]; omega
  obtain ⟨r, hr⟩ : ∃ r, F.l[k]? = some r := ⟨F.l[k], List.getElem?_eq_getElem hkl⟩
  have hk := (h.at_ k r hr).2 h1
  obtain rfl : r.acked = s := by rw [hs] at hk; exact (Option.some.inj hk).symm
  have hrp := (h.at_ k r hr).1
  rw [← h.cum]
  have hsk := sack_one F hr
  have hat : ∀ (j : Nat) y, (F.sack F.cum [((k : Int) + 1, (k : Int) + 1)]).l[j]? = some y → ∃ x, F.l[j]? = some x ∧ y.path = x.path ∧ y.acked = (if k = j then true else x.acked) := fun j y hy => by
    rw [hsk j, List.getElem?_modify] at hy
    cases hx : F.l[j]? with
    | none => rw [hx] at hy; simp at hy
    | some x =>
      rw [hx] at hy
      simp only [Option.map_eq_map, Option.map_some, Option.some.injEq] at hy
      refine ⟨x, rfl, ?_⟩
      have hm : ∀ (q : Prop) [Decidable q] (z : FRec), (if q then missR z else z).path = z.path ∧ (if q then missR z else z).acked = z.acked := fun q _ z => by
        by_cases hq : q
        · rw [if_pos hq]; exact ⟨rfl, rfl⟩
        · rw [if_neg hq]; exact ⟨rfl, rfl⟩
      subst hy
      obtain ⟨m1, m2⟩ := hm (r.acked = false ∧ (if k = j then ackR x else x).path.toNat = r.path.toNat ∧ j < k ∧ (if k = j then ackR x else x).away = true ∧ (if k = j then ackR x else x).again = false) (if k = j then ackR x else x)
      refine ⟨m1.trans ?_, m2.trans ?_⟩
      · by_cases e : k = j
        · rw [if_pos e]; rfl
        · rw [if_neg e]
      · by_cases e : k = j
        · rw [if_pos e, if_pos e]; rfl
        · rw [if_neg e, if_neg e]
  refine ⟨by rw [sack_one_length F hkl, h.len], rfl, by rw [List.length_set, h.slen], fun j y hy => ?_, ?_, fun j hj hjs => ?_⟩
  · obtain ⟨x, hx, e1, e2⟩ := hat j y hy
    obtain ⟨a1, a2⟩ := h.at_ j x hx
    refine ⟨e1.trans a1, fun hj => ?_⟩
    rw [List.getElem?_set, e2]
    by_cases e : k = j
    · rw [if_pos e, if_pos e, if_pos (by rw [h.slen]; omega)]
    · rw [if_neg e, if_neg e]; exact a2 hj
  · obtain ⟨r0, hr0, z1, z2, z3, z4, z5⟩ := h.zero
    have hp0 := (h.at_ 0 r0 hr0).1
    have e0 := hsk 0
    rw [List.getElem?_modify, hr0] at e0
    simp only [Option.map_eq_map, Option.map_some] at e0
    rw [if_neg (show ¬ k = 0 by omega)] at e0
    by_cases hc : r.acked = false ∧ r0.path.toNat = r.path.toNat ∧ 0 < k ∧ r0.away = true ∧ r0.again = false
    · rw [if_pos hc] at e0
      obtain ⟨c1, c2, c3, c4, c5⟩ := hc
      rw [c1]
      have hag : again = false := by rw [← z3]; exact c5
      obtain ⟨m1, m2⟩ := z5 hag
      have hl0 : r0.lost = false := by
        unfold FRec.away at c4
        cases hl : r0.lost with
        | false => rfl
        | true => rw [hl] at c4; simp at c4
      have hf : ¬ 3 ≤ fresh := fun h3 => by rw [m2, decide_eq_true h3] at hl0; cases hl0
      refine ⟨missR r0, e0, z1, z2, z3, (fun h => by rw [hag] at h; cases h), fun _ => ⟨?_, ?_⟩⟩
      · show r0.miss + 1 = _
        rw [m1]
        show min (fresh : Int) 3 + 1 = min ((fresh + 1 : Nat) : Int) 3
        omega
      · show (r0.lost || decide (3 ≤ r0.miss + 1)) = decide (3 ≤ fresh + 1)
        rw [hl0, Bool.false_or, m1]
        have : (3 ≤ min (fresh : Int) 3 + 1) ↔ (3 ≤ fresh + 1) := by omega
        simp only [this]
    · rw [if_neg hc] at e0
      refine ⟨r0, e0, z1, z2, z3, z4, fun hag => ?_⟩
      obtain ⟨m1, m2⟩ := z5 hag
      cases ha : r.acked with
      | true => exact ⟨m1, m2⟩
      | false =>
        have hl : r0.lost = true := by
          cases hl : r0.lost with
          | true => rfl
          | false => exact absurd ⟨ha, by rw [hp0, hrp], by omega, by rw [FRec.away, z1, z2, hl]; rfl, by rw [z3, hag]⟩ hc
        have h3 : 3 ≤ fresh := by rw [m2] at hl; exact of_decide_eq_true hl
        refine ⟨by rw [m1]; show min (fresh : Int) 3 = min ((fresh + 1 : Nat) : Int) 3; omega, ?_⟩
        rw [hl]; show true = decide (3 ≤ fresh + 1)
        exact (decide_eq_true (by omega)).symm
  · rw [List.getElem?_set] at hjs
    split at hjs
    · cases ha : r.acked with
      | false => show 1 ≤ fresh + 1; omega
      | true => exact h.fr k h1 (ha ▸ hk)
    · have := h.fr j hj hjs
      split <;> omega
theorem MI.fresh1 {n : Nat} {c : Int} {again : Bool} {seen : List Bool} {fresh : Nat} {F : Flt} (h : MI n c again seen fresh F) {k : Nat} (h1 : 1 ≤ k) (hs : seen[k]? = some true) : 1 ≤ fresh := h.fr k h1 hs

/-- The pieces as they are added. -/
structure MA (k : Nat) (c : Int) (again : Bool) (F : Flt) : Prop where
  len : F.l.length = k
  cum : F.cum = c
  paths : F.paths = 1
  at_ : ∀ (j : Nat) r, F.l[j]? = some r → r.path = 0 ∧ r.acked = false
  zero : 1 ≤ k → ∃ r, F.l[0]? = some r ∧ r.gone = false ∧ r.again = again ∧ r.lost = false ∧ r.miss = 0
theorem MA.addE {k : Nat} {c : Int} {again : Bool} {F : Flt} (h : MA k c again F) (hk : k < 2048) {d : Pc} (hd : d.bytes.length = 1) : F.addE d 0 = 0 := by
  rw [Flt.addE, if_neg (by rw [h.paths, hd]; omega), if_neg (by rw [h.len]; omega)]
theorem MA.add {k : Nat} {c : Int} {again : Bool} {F : Flt} (h : MA k c again F) (hk : 1 ≤ k) (hk2 : k < 2048) {d : Pc} (hd : d.bytes.length = 1) (now id : Int) : MA (k + 1) c again (F.add d 0 now id) := by
  rw [Flt.add, if_pos (h.addE hk2 hd)]
  refine ⟨by simp [h.len], h.cum, h.paths, fun j r hr => ?_, fun _ => ?_⟩
  · simp only at hr
    rw [List.getElem?_append] at hr
    split at hr
    · exact h.at_ j r hr
    · have := List.mem_of_getElem? hr
      obtain rfl := List.mem_singleton.1 this
      exact ⟨rfl, rfl⟩
  · obtain ⟨r, hr, hz⟩ := h.zero hk
    refine ⟨r, ?_, hz⟩
    simp only
    rw [List.getElem?_append_left (by rw [h.len]; omega)]; exact hr
theorem MA.first {c : Int} {F : Flt} (h : F = ⟨[], c, 1⟩) {d : Pc} (hd : d.bytes.length = 1) (now id : Int) : F.add d 0 now id = ⟨[newRec d F.next 0 now id], c, 1⟩ ∧ MA 1 c false (F.add d 0 now id) := by
  subst h
  have he : Flt.addE ⟨[], c, 1⟩ d 0 = 0 := by rw [Flt.addE, if_neg (by show ¬ ((0 : Int) < 0 ∨ (1 : Int) ≤ 0 ∨ _); rw [hd]; omega), if_neg (by show ¬ 2048 ≤ 0; omega)]
  rw [Flt.add, if_pos he]
  refine ⟨rfl, rfl, rfl, rfl, fun j r hr => ?_, fun _ => ⟨_, rfl, rfl, rfl, rfl, rfl⟩⟩
  obtain rfl := List.mem_singleton.1 (List.mem_of_getElem? hr)
  exact ⟨rfl, rfl⟩
theorem MA.begun {n : Nat} {c : Int} {again : Bool} {F : Flt} (h : MA (n + 1) c again F) : MI n c again (List.replicate (n + 1) false) 0 F := by
  refine ⟨h.len, h.cum, List.length_replicate, fun j r hr => ⟨(h.at_ j r hr).1, fun _ => ?_⟩, ?_, fun j _ hj => ?_⟩
  · have := (List.getElem?_eq_some_iff.1 hr).1
    rw [h.len] at this
    rw [List.getElem?_replicate, if_pos this, (h.at_ j r hr).2]
  · obtain ⟨r, hr, z1, z2, z3, z4⟩ := h.zero (by omega)
    exact ⟨r, hr, (h.at_ 0 r hr).2, z1, z2, fun _ => z3, fun _ => ⟨by rw [z4]; rfl, by rw [z3]; rfl⟩⟩
  · rw [List.getElem?_replicate] at hj
    split at hj <;> simp at hj

theorem mark1_ct (b : Nat) (X : FL) (h : FlOk X) {d : Pc} {t c : Int} (hA : X.abs = ⟨[newRec d t 0 0 0], c, 1⟩) : Ct Try.prog 12 [ptr b, i64 0] [X.seg b]
    (fun v D => v = i64 1 ∧ ∃ X', D = [X'.seg b] ∧ FlOk X' ∧ X'.abs = ⟨[{ newRec d t 0 0 0 with lost := true }], c, 1⟩) := by
  refine Ct.post (markF_ct b X h 0) fun v D ⟨h1, X', h2, h3, h4, _⟩ => ⟨D, ⟨?_, X', h2, h3, ?_⟩, fun _ _ hs => hs⟩
  · rw [h1, show X.recs = [newRec d t 0 0 0] from congrArg Flt.l hA]; rfl
  · rw [h4, hA]; rfl
theorem again1_ct (b : Nat) (X : FL) (h : FlOk X) {d : Pc} {t c f : Int} (hA : X.abs = ⟨[{ newRec d t 0 0 0 with lost := true }], c, 1⟩) (hf : (f - c) % 4294967296 = 1) : Ct Try.prog 13 [ptr b, u32 f, i64 0, i64 0] [X.seg b]
    (fun v D => v = i64 0 ∧ ∃ X', D = [X'.seg b] ∧ FlOk X' ∧ MA 1 c true X'.abs) := by
  have hi : X.abs.idx f = some 0 := by
    rw [hA, Flt.idx]
    show (if 1 ≤ (f - c) % 4294967296 ∧ (f - c) % 4294967296 ≤ ((1 : Nat) : Int) then some ((f - c) % 4294967296 - 1).toNat else none) = some 0
    rw [hf]; rfl
  have hE : X.abs.againE f 0 = 0 := by rw [Flt.againE, get_of_idx hi, hA]; rfl
  refine Ct.post (againF_ct b X h f 0 0) fun v D ⟨h1, X', h2, h3, h4, _⟩ => ⟨D, ⟨by rw [h1, hE], X', h2, h3, ?_⟩, fun _ _ hs => hs⟩
  have hB : X.abs.again f 0 0 = ⟨[againR 0 0 { newRec d t 0 0 0 with lost := true }], c, 1⟩ := by
    rw [Flt.again, if_pos hE, hi, hA]; rfl
  rw [h4, hB]
  refine ⟨rfl, rfl, rfl, fun j r hr => ?_, fun _ => ⟨_, rfl, rfl, rfl, rfl, rfl⟩⟩
  obtain rfl := List.mem_singleton.1 (List.mem_of_getElem? hr)
  exact ⟨rfl, rfl⟩
end Go.Proofs.Ytonfkkdahlboiaa
