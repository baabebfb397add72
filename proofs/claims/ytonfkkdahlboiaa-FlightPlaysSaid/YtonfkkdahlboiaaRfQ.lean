/- An acknowledgement, as the reference takes it, is as the program takes it; no program in sight. -/
import Derived.Test.YtonfkkdahlboiaaRfA
import Derived.Test.YtonfkkdahlboiaaFlF
namespace Go.Proofs.Ytonfkkdahlboiaa
open Go.RowKit
set_option maxHeartbeats 4000000

/-- Is the record at a place told of? -/
def toldB (base : Nat) (gs : List (Int × Int)) (k : Nat) : Bool := decide (k < base) || gs.any fun g => decide ((base : Int) + g.1 ≤ k + 1) && decide ((k : Int) + 1 ≤ base + g.2)
def inSp (sp : List (Nat × Nat)) (k : Nat) : Bool := sp.any fun s => decide (s.1 ≤ k) && decide (k < s.2)
def Asc : Nat → Nat → List (Nat × Nat) → Prop
  | lo, len, [] => lo ≤ len
  | lo, len, s :: sp => lo ≤ s.1 ∧ s.1 ≤ s.2 ∧ Asc s.2 len sp
theorem asc_le : ∀ (sp : List (Nat × Nat)) (lo len : Nat), Asc lo len sp → lo ≤ len
  | [], _, _, h => h
  | s :: sp, lo, len, ⟨h1, h2, h3⟩ => by have := asc_le sp s.2 len h3; omega
theorem asc_in : ∀ (sp : List (Nat × Nat)) (lo len k : Nat), Asc lo len sp → inSp sp k = true → lo ≤ k
  | [], _, _, _, _, h => by simp [inSp] at h
  | s :: sp, lo, len, k, ⟨h1, h2, h3⟩, h => by
    simp only [inSp, List.any_cons, Bool.or_eq_true, Bool.and_eq_true, decide_eq_true_eq] at h
    rcases h with h | h
    · omega
    · have := asc_in sp s.2 len k h3 h; omega
theorem asc_filter : ∀ (sp : List (Nat × Nat)) (lo len : Nat), Asc lo len sp → idxsOf sp = (List.range' lo (len - lo)).filter (inSp sp)
  | [], lo, len, _ => by
    rw [List.filter_eq_nil_iff.2 fun k _ => by simp [inSp]]; rfl
  | s :: sp, lo, len, ⟨h1, h2, h3⟩ => by
    have hl := asc_le sp s.2 len h3
    have ih := asc_filter sp s.2 len h3
    have e : List.range' lo (len - lo) = List.range' lo (s.1 - lo) ++ (List.range' s.1 (s.2 - s.1) ++ List.range' s.2 (len - s.2)) := by
      have e1 := List.range'_append_1 (s := s.1) (m := s.2 - s.1) (n := len - s.2)
      rw [show s.1 + (s.2 - s.1) = s.2 by omega] at e1
      have e2 := List.range'_append_1 (s := lo) (m := s.1 - lo) (n := s.2 - s.1 + (len - s.2))
      rw [show lo + (s.1 - lo) = s.1 by omega] at e2
      rw [e1, e2]
      congr 1
      omega
    rw [e, List.filter_append, List.filter_append]
    have f1 : (List.range' lo (s.1 - lo)).filter (inSp (s :: sp)) = [] := by
      refine List.filter_eq_nil_iff.2 fun k hk h => ?_
      have hk' := List.mem_range'_1.1 hk
      simp only [inSp, List.any_cons, Bool.or_eq_true, Bool.and_eq_true, decide_eq_true_eq] at h
      rcases h with h | h
      · omega
      · have := asc_in sp s.2 len k h3 h; omega
    have f2 : (List.range' s.1 (s.2 - s.1)).filter (inSp (s :: sp)) = List.range' s.1 (s.2 - s.1) := by
      refine List.filter_eq_self.2 fun k hk => ?_
      have hk' := List.mem_range'_1.1 hk
      simp only [inSp, List.any_cons, Bool.or_eq_true, Bool.and_eq_true, decide_eq_true_eq]
      exact .inl (by omega)
    have f3 : (List.range' s.2 (len - s.2)).filter (inSp (s :: sp)) = (List.range' s.2 (len - s.2)).filter (inSp sp) := by
      refine List.filter_congr fun k hk => ?_
      have hk' := List.mem_range'_1.1 hk
      simp only [inSp, List.any_cons]
      rw [decide_eq_false (show ¬ k < s.2 by omega)]
      simp
    rw [f1, f2, f3, ← ih]
    simp [idxsOf]
theorem asc_may {len base : Nat} : ∀ {gs : List (Int × Int)} {last : Int}, 0 ≤ last → mayG len base last gs = true → base + last ≤ len → Asc (base + last.toNat) len (gs.map fun g => (base + g.1.toNat - 1, base + g.2.toNat))
  | [], last, h0, _, hb => by simp only [List.map_nil, Asc]; omega
  | (f, t) :: gs, last, h0, h, hb => by
    simp only [mayG, Bool.and_eq_true, decide_eq_true_eq, not_or, Int.not_lt] at h
    obtain ⟨⟨h1, h2, h3⟩, h4⟩ := h
    refine ⟨by show _ ≤ base + f.toNat - 1; omega, by show base + f.toNat - 1 ≤ base + t.toNat; omega, ?_⟩
    exact asc_may (gs := gs) (last := t) (by omega) h4 h3
theorem inSp_told (base : Nat) (gs : List (Int × Int)) (hg : ∀ g ∈ gs, 2 ≤ g.1 ∧ g.1 ≤ g.2) (k : Nat) : inSp (spansOf base gs) k = toldB base gs k := by
  unfold inSp toldB spansOf
  rw [List.any_cons, List.any_map]
  congr 1
  rw [Bool.eq_iff_iff, List.any_eq_true, List.any_eq_true]
  constructor
  · rintro ⟨g, h1, h2⟩
    have := hg g h1
    refine ⟨g, h1, ?_⟩
    simp only [Function.comp, Bool.and_eq_true, decide_eq_true_eq] at h2 ⊢
    omega
  · rintro ⟨g, h1, h2⟩
    have := hg g h1
    refine ⟨g, h1, ?_⟩
    simp only [Function.comp, Bool.and_eq_true, decide_eq_true_eq] at h2 ⊢
    omega
theorem idxs_told {F : Flt} {c : Int} {gs : List (Int × Int)} (h : F.may c gs = true) : F.idxs c gs = (List.range F.l.length).filter (toldB (F.base c) gs) := by
  have h' := h
  simp only [Flt.may, Bool.and_eq_true, decide_eq_true_eq] at h'
  obtain ⟨h1, h2⟩ := h'
  obtain ⟨i1, _⟩ := mayG_spans (by omega) h2 (by omega)
  have hasc : Asc 0 F.l.length (spansOf (F.base c) gs) := ⟨Nat.zero_le _, Nat.zero_le _, by have := asc_may (by omega) h2 (by omega); simpa using this⟩
  rw [Flt.idxs, asc_filter _ 0 _ hasc, Nat.sub_zero, List.range_eq_range']
  exact List.filter_congr fun k _ => inSp_told _ _ (fun g hg => ⟨(i1 g hg).1, (i1 g hg).2.1⟩) k
/-- One record after the other. -/
def ackTo (F : Flt) (c : Int) (gs : List (Int × Int)) (i : Nat) : SK := (List.range i).foldl (fun s k => if toldB (F.base c) gs k = true then ackStep (lowIdx F.l) s k else s) (sk0 F.l)
theorem ackTo_next (F : Flt) (c : Int) (gs : List (Int × Int)) (i : Nat) : ackTo F c gs (i + 1) = if toldB (F.base c) gs i = true then ackStep (lowIdx F.l) (ackTo F c gs i) i else ackTo F c gs i := by
  rw [ackTo, List.range_succ, List.foldl_append]; rfl
theorem acks_told {F : Flt} {c : Int} {gs : List (Int × Int)} (h : F.may c gs = true) : F.acks c gs = ackTo F c gs F.l.length := by
  rw [Flt.acks, idxs_told h, List.foldl_filter]; rfl
theorem ackTo_len (F : Flt) (c : Int) (gs : List (Int × Int)) : ∀ i, (ackTo F c gs i).l.length = F.l.length
  | 0 => rfl
  | i + 1 => by
    rw [ackTo_next]
    split
    · rw [ackStep_len, ackTo_len F c gs i]
    · exact ackTo_len F c gs i
/-- What is not reached yet is as it was. -/
theorem ackTo_get (F : Flt) (c : Int) (gs : List (Int × Int)) : ∀ i k, i ≤ k → (ackTo F c gs i).l[k]? = F.l[k]?
  | 0, k, _ => rfl
  | i + 1, k, h => by
    rw [ackTo_next]
    split
    · rw [ackStep_l, List.getElem?_modify, ackTo_get F c gs i k (by omega)]; simp [show ¬ i = k by omega]
    · exact ackTo_get F c gs i k (by omega)

/-! ### The lowest of each path, from the end -/
def lowFrom (l : List FRec) (i : Nat) (p : Nat) : Int := match lowIdx (l.drop i) p with
  | none => -1
  | some j => (i : Int) + j
theorem lowFrom_end (l : List FRec) (p : Nat) : lowFrom l l.length p = -1 := by
  rw [lowFrom, List.drop_length]; rfl
theorem lowFrom_step {l : List FRec} {i : Nat} {r : FRec} (h : l[i]? = some r) (p : Nat) : lowFrom l i p = if (decide (r.path = (p : Int)) && !r.acked && !r.gone) = true then (i : Int) else lowFrom l (i + 1) p := by
  obtain ⟨hk, rfl⟩ := List.getElem?_eq_some_iff.1 h
  rw [lowFrom, ← List.getElem_cons_drop hk, lowIdx, List.findIdx?_cons]
  by_cases h1 : (decide (l[i].path = (p : Int)) && !l[i].acked && !l[i].gone) = true
  · rw [if_pos h1, if_pos h1]; simp
  · rw [if_neg h1, if_neg h1, lowFrom, lowIdx]
    cases List.findIdx? (fun r => decide (r.path = (p : Int)) && !r.acked && !r.gone) (List.drop (i + 1) l) with
    | none => rfl
    | some j => simp only [Option.map_some]; omega
theorem lowFrom_zero (l : List FRec) (p i : Nat) : decide (lowFrom l 0 p = (i : Int)) = decide (lowIdx l p = some i) := by
  rw [lowFrom, List.drop_zero]
  cases lowIdx l p with
  | none => simp <;> omega
  | some j => simp <;> omega
theorem lowFrom_bound (l : List FRec) (i p : Nat) : -1 ≤ lowFrom l i p ∧ lowFrom l i p ≤ l.length := by
  rw [lowFrom]
  cases h : lowIdx (l.drop i) p with
  | none => simp only; omega
  | some j =>
    have := (List.findIdx?_eq_some_iff_getElem.1 h).1
    rw [List.length_drop] at this
    simp only; omega

/-! ### Whole -/
def ackAt (l : List FRec) (i : Nat) : Bool := match l[i]? with
  | none => false
  | some r => r.acked
def wholeTo (n : Nat) (told : Nat → Bool) (l : List FRec) (k : Nat) : Bool := !(decide (n = 0) && (List.range k).any fun j => ackAt l j && !told j)
theorem wholeTo_zero (n : Nat) (told : Nat → Bool) (l : List FRec) : wholeTo n told l 0 = true := by simp [wholeTo]
theorem wholeTo_next (n : Nat) (told : Nat → Bool) (l : List FRec) (k : Nat) : wholeTo n told l (k + 1) = if (decide (n = 0) && ackAt l k && !told k) = true then false else wholeTo n told l k := by
  unfold wholeTo
  rw [List.range_succ, List.any_append]
  simp only [List.any_cons, List.any_nil, Bool.or_false]
  cases decide (n = 0) <;> cases ackAt l k <;> cases told k <;> simp
theorem count_told {l : List FRec} {told : Nat → Bool} (h : ∀ i r, l[i]? = some r → told i = true → r.acked = true) : ∀ k, k ≤ l.length →
    (((List.range k).filter told).length : Int) ≤ countIf (·.acked) (l.take k) ∧ ((countIf (·.acked) (l.take k) = (((List.range k).filter told).length : Int)) ↔ ((List.range k).any fun j => ackAt l j && !told j) = false)
  | 0, _ => by simp [countIf]
  | k + 1, hk => by
    obtain ⟨r, hr⟩ : ∃ r, l[k]? = some r := ⟨l[k], List.getElem?_eq_getElem hk⟩
    obtain ⟨i1, i2⟩ := count_told h k (by omega)
    have ha : ackAt l k = r.acked := by rw [ackAt, hr]
    rw [countIf_next _ hr, List.range_succ, List.filter_append, List.length_append, List.any_append]
    simp only [List.any_cons, List.any_nil, Bool.or_false, ha]
    cases ht : told k with
    | true =>
      have hr' := h k r hr ht
      rw [hr']
      simp only [List.filter_cons, ht, if_true, List.filter_nil, List.length_cons, List.length_nil, Bool.not_true, Bool.and_false, Bool.or_false]
      exact ⟨by omega, by rw [← i2]; omega⟩
    | false =>
      simp only [List.filter_cons, ht, Bool.false_eq_true, if_false, List.filter_nil, List.length_nil, Bool.not_false, Bool.and_true]
      cases hx : r.acked with
      | true =>
        simp only [if_true, Bool.or_true]
        exact ⟨by omega, ⟨fun h => by omega, fun h => by cases h⟩⟩
      | false =>
        simp only [Bool.false_eq_true, if_false, Bool.or_false]
        exact ⟨by omega, by rw [← i2]; omega⟩
theorem base_zero {F : Flt} {c : Int} (hc : 0 ≤ c ∧ c ≤ 4294967295) (h0 : 0 ≤ F.cum) (h1 : F.cum ≤ 4294967295) : F.base c = 0 ↔ c = F.cum := by
  unfold Flt.base; omega
theorem whole_eq {F : Flt} {c : Int} {gs : List (Int × Int)} (h : F.may c gs = true) (hc : 0 ≤ c ∧ c ≤ 4294967295) (h0 : 0 ≤ F.cum) (h1 : F.cum ≤ 4294967295) :
    wholeTo (F.base c) (toldB (F.base c) gs) (F.misses c gs).1 F.l.length = (F.sackT c gs).whole := by
  have hlen : (F.misses c gs).1.length = F.l.length := by
    have := congrArg List.length (miss_same (w := fun r : FRec => r.acked) (fun _ => rfl) (F.acks c gs).high ((F.acks c gs).l, (F.acks c gs).t) F.l.length)
    rw [List.length_map, List.length_map] at this
    exact this.trans (by rw [acks_told h]; exact ackTo_len F c gs _)
  show _ = (decide (c ≠ F.cum) || decide (wide2 (spansOf (F.base c) gs) - countIf (·.acked) (F.misses c gs).1 = 0))
  have hz := base_zero (F := F) hc h0 h1
  by_cases hcc : c = F.cum
  · have hb : F.base c = 0 := hz.2 hcc
    obtain ⟨f1, f2, f3⟩ := may_facts h
    have hw := wide2_len _ fun s hs => (f2 s hs).1
    have hids : idxsOf (spansOf (F.base c) gs) = F.idxs c gs := rfl
    rw [hids, idxs_told h] at hw
    have hall : ∀ i r, (F.misses c gs).1[i]? = some r → toldB (F.base c) gs i = true → r.acked = true := by
      intro i r hr ht
      have hm := congrArg (fun l => l[i]?) (miss_same (w := fun r : FRec => r.acked) (fun _ => rfl) (F.acks c gs).high ((F.acks c gs).l, (F.acks c gs).t) F.l.length)
      dsimp only at hm
      rw [List.getElem?_map, List.getElem?_map] at hm
      have hr2 : ((List.range F.l.length).foldl (missStep (F.acks c gs).high) ((F.acks c gs).l, (F.acks c gs).t)).1[i]? = some r := hr
      rw [hr2] at hm
      obtain ⟨r', hr', he⟩ := Option.map_eq_some_iff.1 hm.symm
      have he' : r'.acked = r.acked := he
      rw [← he']
      have hi : i < F.l.length := by have := (List.getElem?_eq_some_iff.1 hr).1; omega
      refine ack_all (lowIdx F.l) (F.idxs c gs) (sk0 F.l) i r' hr' (.inl ?_)
      rw [idxs_told h]
      exact List.mem_filter.2 ⟨List.mem_range.2 hi, ht⟩
    obtain ⟨_, i2⟩ := count_told hall F.l.length (by omega)
    rw [List.take_of_length_le (by omega)] at i2
    rw [wholeTo, decide_eq_true hb, Bool.true_and, decide_eq_false (show ¬ (c ≠ F.cum) by simpa using hcc), Bool.false_or, hw]
    cases hx : (List.range F.l.length).any fun j => ackAt (F.misses c gs).1 j && !toldB (F.base c) gs j with
    | false => rw [hx] at i2; rw [decide_eq_true (by have := i2.2 rfl; omega)]; rfl
    | true => rw [hx] at i2; rw [decide_eq_false (fun e => by have := i2.1 (by omega); cases this)]; rfl
  · have hb : ¬ F.base c = 0 := fun e => hcc (hz.1 e)
    rw [wholeTo, decide_eq_false hb, decide_eq_true (show c ≠ F.cum from hcc)]; simp
end Go.Proofs.Ytonfkkdahlboiaa
