/- FlightPoint: the plain law. -/
import Derived.Test.YtonfkkdahlboiaaFlX
namespace Go.Proofs.Ytonfkkdahlboiaa
open Go.RowKit

def bitOf (g i : Int) : Int := g / 2 ^ i.toNat % 2
theorem bitOf_01 (g i : Int) : bitOf g i = 0 ∨ bitOf g i = 1 := by unfold bitOf; omega
def cntId (id : Int) (l : List Int) : Nat := l.countP fun x => decide (x % 4 = id)
def cntZ (g : Int) (l : List Int) : Nat := l.countP fun x => decide (bitOf g (x % 4) = 0)
theorem sum_countP (q : Int → Bool) : ∀ l : List Int, (l.map fun x => if q x then (1 : Int) else 0).sum = (l.countP q : Nat)
  | [] => rfl
  | x :: l => by
    rw [List.map_cons, List.sum_cons, sum_countP q l, List.countP_cons]
    cases q x <;> simp <;> omega
theorem countP_take (q : Int → Bool) {l : List Int} {k : Nat} {x : Int} (h : l[k]? = some x) : (l.take (k + 1)).countP q = (l.take k).countP q + (if q x then 1 else 0) := by
  rw [take_next h, List.countP_append]; simp [List.countP_cons]

structure PI (ids : List Int) (c g m : Int) (k : Nat) (F : Flt) : Prop where
  len : F.l.length = k
  kl : k ≤ ids.length
  cum : F.cum = c
  paths : F.paths = 1
  at_ : ∀ (j : Nat) r x, F.l[j]? = some r → ids[j]? = some x → r.path = 0 ∧ r.id = x % 4 ∧ r.d.stream = j ∧ r.d.bytes.length = 1 ∧ r.acked = false ∧ r.lost = false ∧ r.gone = decide (x % 4 < m ∧ bitOf g (x % 4) = 1)
theorem PI.addE {ids : List Int} {c g m : Int} {k : Nat} {F : Flt} (h : PI ids c g m k F) (hn : ids.length ≤ 60) {d : Pc} (hd : d.bytes.length = 1) : F.addE d 0 = 0 := by
  have := h.kl
  rw [Flt.addE, if_neg (by rw [h.paths, hd]; omega), if_neg (by rw [h.len]; omega)]
theorem PI.add {ids : List Int} {c g : Int} {k : Nat} {F : Flt} (h : PI ids c g 0 k F) (hn : ids.length ≤ 60) {d : Pc} (hd : d.bytes.length = 1) (hs : d.stream = k) {x : Int} (hx : ids[k]? = some x) (now : Int) : PI ids c g 0 (k + 1) (F.add d 0 now (x % 4)) := by
  rw [Flt.add, if_pos (h.addE hn hd)]
  have hk := (List.getElem?_eq_some_iff.1 hx).1
  refine ⟨by simp [h.len], hk, h.cum, h.paths, fun j r y hr hy => ?_⟩
  simp only at hr
  rw [List.getElem?_append] at hr
  split at hr
  · exact h.at_ j r y hr hy
  · rename_i hj
    obtain rfl := List.mem_singleton.1 (List.mem_of_getElem? hr)
    have hjk : j = k := by
      have := (List.getElem?_eq_some_iff.1 hr).1
      rw [List.length_singleton, h.len] at this
      rw [h.len] at hj
      omega
    subst hjk
    rw [hx] at hy
    obtain rfl := Option.some.inj hy
    refine ⟨rfl, rfl, hs, hd, rfl, rfl, ?_⟩
    exact (decide_eq_false (fun h => by have := h.1; omega)).symm
theorem PI.mapEq {ids : List Int} {c g m : Int} {F : Flt} (h : PI ids c g m ids.length F) {α : Type} (f : FRec → α) (f' : Int → α)
    (hf : ∀ (r : FRec) (x : Int), r.path = 0 → r.id = x % 4 → r.d.bytes.length = 1 → r.acked = false → r.lost = false → r.gone = decide (x % 4 < m ∧ bitOf g (x % 4) = 1) → f r = f' x) : F.l.map f = ids.map f' := by
  apply List.ext_getElem?
  intro j
  rw [List.getElem?_map, List.getElem?_map]
  by_cases hj : j < ids.length
  · have hj' : j < F.l.length := by rw [h.len]; exact hj
    rw [List.getElem?_eq_getElem hj, List.getElem?_eq_getElem hj']
    obtain ⟨a1, a2, a3, a4, a5, a6, a7⟩ := h.at_ j _ _ (List.getElem?_eq_getElem hj') (List.getElem?_eq_getElem hj)
    simp only [Option.map_some]
    rw [hf _ _ a1 a2 a4 a5 a6 a7]
  · rw [List.getElem?_eq_none (by rw [h.len]; omega), List.getElem?_eq_none (by omega)]; rfl
theorem PI.lives {ids : List Int} {c g m id : Int} {F : Flt} (h : PI ids c g m ids.length F) (hm : ¬ id < m) : livesOf id F.l = (cntId id ids : Nat) := by
  rw [livesOf, countIf, cntId, ← sum_countP]
  congr 1
  refine h.mapEq _ _ fun r x a1 a2 a4 a5 a6 a7 => ?_
  rw [a2, a5, a7]
  by_cases hx : x % 4 = id
  · rw [decide_eq_false (show ¬ (x % 4 < m ∧ bitOf g (x % 4) = 1) by rw [hx]; exact fun h => hm h.1), decide_eq_true hx]; rfl
  · rw [decide_eq_false hx]; rfl
theorem PI.lives0 {ids : List Int} {c g m id : Int} {F : Flt} (h : PI ids c g m ids.length F) (hm : id < m) (hb : bitOf g id = 1) : livesOf id F.l = 0 := by
  rw [livesOf, countIf, h.mapEq _ (fun _ => (0 : Int)) fun r x a1 a2 a4 a5 a6 a7 => ?_]
  · rw [List.map_const']
    induction ids.length with
    | zero => rfl
    | succ n ih => rw [List.replicate_succ, List.sum_cons, ih]; rfl
  · rw [a2, a5, a7]
    by_cases hx : x % 4 = id
    · rw [decide_eq_true (show x % 4 < m ∧ bitOf g (x % 4) = 1 by rw [hx]; exact ⟨hm, hb⟩), decide_eq_true hx]; rfl
    · rw [decide_eq_false hx]; rfl
theorem PI.abandon {ids : List Int} {c g id : Int} {F : Flt} (h : PI ids c g id ids.length F) (hb : bitOf g id = 1) : PI ids c g (id + 1) ids.length (F.abandon id) := by
  have gen : PI ids c g (id + 1) ids.length { F with l := F.l.map (goneR id) } := by
    refine ⟨by simp [h.len], h.kl, h.cum, h.paths, fun j r x hr hx => ?_⟩
    simp only [List.getElem?_map] at hr
    obtain ⟨r', hr', rfl⟩ := Option.map_eq_some_iff.1 hr
    obtain ⟨a1, a2, a3, a4, a5, a6, a7⟩ := h.at_ j r' x hr' hx
    by_cases hid : r'.id = id
    · rw [show goneR id r' = { r' with gone := true } from if_pos hid]
      refine ⟨a1, a2, a3, a4, a5, a6, ?_⟩
      have hx4 : x % 4 = id := a2.symm.trans hid
      exact (decide_eq_true (by rw [hx4]; exact ⟨by omega, hb⟩)).symm
    · rw [show goneR id r' = r' from if_neg hid]
      refine ⟨a1, a2, a3, a4, a5, a6, a7.trans ?_⟩
      have hne : x % 4 ≠ id := fun e => hid (a2.trans e)
      have : (x % 4 < id ∧ bitOf g (x % 4) = 1) ↔ (x % 4 < id + 1 ∧ bitOf g (x % 4) = 1) := ⟨fun h => ⟨by omega, h.2⟩, fun h => ⟨by omega, h.2⟩⟩
      simp only [this]
  rw [Flt.abandon]
  by_cases hz : livesOf id F.l = 0
  · rw [if_pos hz]
    have hc : cntId id ids = 0 := by have := h.lives (id := id) (by omega); omega
    have hall := List.countP_eq_zero.1 hc
    have e : F.l.map (goneR id) = F.l := by
      apply List.ext_getElem?
      intro j
      rw [List.getElem?_map]
      cases hr : F.l[j]? with
      | none => rfl
      | some r =>
        have hj : j < ids.length := by rw [← h.len]; exact (List.getElem?_eq_some_iff.1 hr).1
        have hx := List.getElem?_eq_getElem hj
        have := hall _ (List.mem_of_getElem? hx)
        obtain ⟨_, a2, _⟩ := h.at_ j r _ hr hx
        simp only [decide_eq_true_eq] at this
        rw [Option.map_some, show goneR id r = r from if_neg (by rw [a2]; exact this)]
    rw [e] at gen
    exact gen
  · rw [if_neg hz]; exact gen
theorem PI.skip {ids : List Int} {c g id : Int} {k : Nat} {F : Flt} (h : PI ids c g id k F) (hb : ¬ bitOf g id = 1) : PI ids c g (id + 1) k F := by
  refine ⟨h.len, h.kl, h.cum, h.paths, fun j r x hr hx => ?_⟩
  obtain ⟨a1, a2, a3, a4, a5, a6, a7⟩ := h.at_ j r x hr hx
  refine ⟨a1, a2, a3, a4, a5, a6, a7.trans ?_⟩
  have : (x % 4 < id ∧ bitOf g (x % 4) = 1) ↔ (x % 4 < id + 1 ∧ bitOf g (x % 4) = 1) := ⟨fun h => ⟨by omega, h.2⟩, fun h => by
    refine ⟨?_, h.2⟩
    rcases Int.lt_or_eq_of_le (show x % 4 ≤ id by omega) with h1 | h1
    · exact h1
    · exact absurd (h1 ▸ h.2) hb⟩
  simp only [this]
theorem PI.out {ids : List Int} {c g : Int} {F : Flt} (h : PI ids c g 4 ids.length F) : sumIf (fun r => decide (r.path = 0) && r.away) F.l = (cntZ g ids : Nat) := by
  rw [sumIf, cntZ, ← sum_countP]
  congr 1
  refine h.mapEq _ _ fun r x a1 a2 a4 a5 a6 a7 => ?_
  rw [a1, FRec.away, a5, a6, a7, a4]
  have hx : x % 4 < 4 := by omega
  rcases bitOf_01 g (x % 4) with hb | hb
  · rw [decide_eq_false (show ¬ (x % 4 < 4 ∧ bitOf g (x % 4) = 1) by omega), decide_eq_true hb]; rfl
  · rw [decide_eq_true (show x % 4 < 4 ∧ bitOf g (x % 4) = 1 from ⟨hx, hb⟩), decide_eq_false (show ¬ bitOf g (x % 4) = 0 by omega)]; rfl
theorem PI.lost {ids : List Int} {c g m : Int} {F : Flt} (h : PI ids c g m ids.length F) : lostOf F.l = [] := by
  have e : F.l.filter FRec.open_ = [] := by
    refine List.filter_eq_nil_iff.2 fun r hr => ?_
    obtain ⟨j, hj⟩ := List.getElem?_of_mem hr
    have hjl : j < ids.length := by rw [← h.len]; exact (List.getElem?_eq_some_iff.1 hj).1
    obtain ⟨_, _, _, _, _, a6, _⟩ := h.at_ j r _ hj (List.getElem?_eq_getElem hjl)
    rw [FRec.open_, a6]; simp
  rw [lostOf, e]; rfl
theorem PI.over {ids : List Int} {c g : Int} {F : Flt} (h : PI ids c g 4 ids.length F) {n : Nat} (hn : n ≤ ids.length) (ha : ∀ j x, j < n → ids[j]? = some x → bitOf g (x % 4) = 1) (hs : n = ids.length ∨ ∃ x, ids[n]? = some x ∧ ¬ bitOf g (x % 4) = 1) :
    F.over = (F.l.take n).map (·.d) := by
  have e : F.l.takeWhile (·.gone) = F.l.take n := by
    refine over_stop (by rw [h.len]; exact hn) (fun r hr => ?_) ?_
    · obtain ⟨j, hj⟩ := List.getElem?_of_mem hr
      rw [List.getElem?_take] at hj
      split at hj
      · rename_i hjn
        have hjl : j < ids.length := by omega
        obtain ⟨_, _, _, _, _, _, a7⟩ := h.at_ j r _ hj (List.getElem?_eq_getElem hjl)
        rw [a7]
        exact decide_eq_true ⟨by omega, ha j _ hjn (List.getElem?_eq_getElem hjl)⟩
      · cases hj
    · rcases hs with rfl | ⟨x, hx, hb⟩
      · exact .inl h.len.symm
      · have hnl := (List.getElem?_eq_some_iff.1 hx).1
        have hr := List.getElem?_eq_getElem (l := F.l) (i := n) (by rw [h.len]; exact hnl)
        obtain ⟨_, _, _, _, _, _, a7⟩ := h.at_ n _ x hr hx
        exact .inr ⟨_, hr, a7.trans (decide_eq_false fun h => hb h.2)⟩
  rw [Flt.over, e]
end Go.Proofs.Ytonfkkdahlboiaa
