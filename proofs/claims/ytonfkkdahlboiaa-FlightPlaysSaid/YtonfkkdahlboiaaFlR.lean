/- Laws of an acknowledgement of one record; no program in sight. -/
import Derived.Test.YtonfkkdahlboiaaFlW
namespace Go.Proofs.Ytonfkkdahlboiaa
open Go.RowKit

theorem ackR_acked {r : FRec} (h : r.acked = true) : ackR r = r := by
  obtain ⟨d, path, id, miss, at_, acked, lost, gone, again⟩ := r
  simp only at h; subst h; rfl
theorem ackStep_l (low : Nat → Option Nat) (s : SK) (i : Nat) : (ackStep low s i).l = s.l.modify i ackR := by
  unfold ackStep
  cases h : s.l[i]? with
  | none =>
    apply List.ext_getElem?
    intro j
    rw [List.getElem?_modify]
    by_cases hj : i = j
    · subst hj; simp [h]
    · simp [hj]
  | some r =>
    dsimp only
    split
    · rename_i ha
      apply List.ext_getElem?
      intro j
      rw [List.getElem?_modify]
      by_cases hj : i = j
      · subst hj; simp [h, ackR_acked ha]
      · simp [hj]
    · rfl

def missC (high : Nat → Int) (j : Nat) (r : FRec) : Prop := ¬ (r.away = false ∨ r.again = true ∨ high r.path.toNat ≤ j)
instance (high : Nat → Int) (j : Nat) (r : FRec) : Decidable (missC high j r) := by unfold missC; infer_instance
theorem missStep_at (high : Nat → Int) (s : List FRec × (Nat → Tp)) (i j : Nat) : (missStep high s i).1[j]? = s.1[j]?.map (fun r => if i = j ∧ missC high j r then missR r else r) := by
  unfold missStep
  cases h : s.1[i]? with
  | none =>
    dsimp only
    by_cases hj : i = j
    · subst hj; simp [h]
    · simp [hj]
  | some r =>
    dsimp only
    split
    · rename_i hc
      by_cases hj : i = j
      · subst hj
        rw [h]
        simp only [Option.map_some, Option.some.injEq, true_and]
        rw [if_neg]; unfold missC; exact fun h' => h' hc
      · simp [hj]
    · rename_i hc
      rw [List.getElem?_modify]
      by_cases hj : i = j
      · subst hj
        rw [h]
        have hm : missC high i r := hc
        simp [hm]
      · simp [hj]
theorem misses_at (high : Nat → Int) (s : List FRec × (Nat → Tp)) : ∀ (n j : Nat), ((List.range n).foldl (missStep high) s).1[j]? = s.1[j]?.map (fun r => if j < n ∧ missC high j r then missR r else r)
  | 0, j => by simp
  | n + 1, j => by
    rw [List.range_succ, List.foldl_append, List.foldl_cons, List.foldl_nil, missStep_at, misses_at high s n j, Option.map_map]
    cases s.1[j]? with
    | none => rfl
    | some r =>
      simp only [Option.map_some, Function.comp]
      congr 1
      by_cases hj : n = j
      · subst hj
        rw [if_neg (show ¬ (n < n ∧ missC high n r) from fun h => Nat.lt_irrefl _ h.1)]
        by_cases hm : missC high n r
        · rw [if_pos ⟨rfl, hm⟩, if_pos ⟨Nat.lt_succ_self _, hm⟩]
        · rw [if_neg (fun h => hm h.2), if_neg (fun h => hm h.2)]
      · rw [if_neg (fun h => hj h.1)]
        by_cases hm : missC high j r
        · by_cases hlt : j < n
          · rw [if_pos ⟨hlt, hm⟩, if_pos ⟨by omega, hm⟩]
          · rw [if_neg (fun h => hlt h.1), if_neg (fun h => by omega)]
        · rw [if_neg (fun h => hm h.2), if_neg (fun h => hm h.2)]

theorem idxs_one (F : Flt) (k : Nat) (hb : F.base F.cum = 0) : F.idxs F.cum [((k : Int) + 1, (k : Int) + 1)] = [k] := by
  rw [Flt.idxs, hb]
  show List.range' 0 (0 - 0) ++ (List.range' (0 + ((k : Int) + 1).toNat - 1) (0 + ((k : Int) + 1).toNat - (0 + ((k : Int) + 1).toNat - 1)) ++ []) = [k]
  rw [show ((k : Int) + 1).toNat = k + 1 by omega, show 0 + (k + 1) - 1 = k by omega, show 0 + (k + 1) - k = 1 by omega]
  rfl
theorem base_same (F : Flt) : F.base F.cum = 0 := by simp [Flt.base]
theorem may_one (F : Flt) {k : Nat} (h1 : 1 ≤ k) (h2 : k < F.l.length) : F.may F.cum [((k : Int) + 1, (k : Int) + 1)] = true := by
  rw [Flt.may, base_same]
  simp only [mayG, Bool.and_true, Bool.and_eq_true, decide_eq_true_eq]
  omega

/-- What an acknowledgement of one record makes of the records. -/
theorem sack_one (F : Flt) {k : Nat} {r : FRec} (hr : F.l[k]? = some r) (j : Nat) :
    (F.sack F.cum [((k : Int) + 1, (k : Int) + 1)]).l[j]? = (F.l.modify k ackR)[j]?.map (fun x => if r.acked = false ∧ x.path.toNat = r.path.toNat ∧ j < k ∧ x.away = true ∧ x.again = false then missR x else x) := by
  have hi := idxs_one F k (base_same F)
  have hacks : F.acks F.cum [((k : Int) + 1, (k : Int) + 1)] = ackStep (lowIdx F.l) (sk0 F.l) k := by rw [Flt.acks, hi]; rfl
  have hl : (ackStep (lowIdx F.l) (sk0 F.l) k).l = F.l.modify k ackR := ackStep_l _ _ _
  show ((F.misses F.cum [((k : Int) + 1, (k : Int) + 1)]).1.drop (F.base F.cum))[j]? = _
  rw [base_same, List.drop_zero, Flt.misses, hacks, misses_at]
  show (ackStep (lowIdx F.l) (sk0 F.l) k).l[j]?.map _ = _
  rw [hl]
  have hk := (List.getElem?_eq_some_iff.1 hr).1
  cases hx : (F.l.modify k ackR)[j]? with
  | none => rfl
  | some x =>
    simp only [Option.map_some]
    congr 1
    have hj : j < F.l.length := by have := (List.getElem?_eq_some_iff.1 hx).1; simpa using this
    cases ha : r.acked with
    | true =>
      have hh : (ackStep (lowIdx F.l) (sk0 F.l) k).high = fun _ => -1 := by rw [ackStep_no (s := sk0 F.l) hr ha]; rfl
      rw [hh, if_neg, if_neg]
      · rintro ⟨h, _⟩; cases h
      · rintro ⟨_, h⟩; exact h (.inr (.inr (show (-1 : Int) ≤ (j : Int) by omega)))
    | false =>
      have hh : (ackStep (lowIdx F.l) (sk0 F.l) k).high = at4 (fun _ => -1) r.path.toNat (k : Int) := by rw [ackStep_yes (s := sk0 F.l) hr ha]; rfl
      rw [hh]
      by_cases hc : missC (at4 (fun _ => -1) r.path.toNat (k : Int)) j x
      · rw [if_pos ⟨hj, hc⟩, if_pos]
        unfold missC at4 at hc
        simp only [not_or] at hc
        obtain ⟨c1, c2, c3⟩ := hc
        by_cases hp : x.path.toNat = r.path.toNat
        · rw [if_pos hp] at c3
          exact ⟨rfl, hp, by omega, by simpa using c1, by simpa using c2⟩
        · rw [if_neg hp] at c3; have c3' : ¬ (-1 : Int) ≤ (j : Int) := c3; omega
      · rw [if_neg (fun h => hc h.2), if_neg]
        rintro ⟨_, h1, h2, h3, h4⟩
        refine hc fun h => ?_
        unfold at4 at h
        rw [if_pos h1] at h
        rcases h with h | h | h
        · rw [h3] at h; cases h
        · rw [h4] at h; cases h
        · omega
theorem sack_one_length (F : Flt) {k : Nat} (h : k < F.l.length) : (F.sack F.cum [((k : Int) + 1, (k : Int) + 1)]).l.length = F.l.length := by
  obtain ⟨r, hr⟩ : ∃ r, F.l[k]? = some r := ⟨F.l[k], List.getElem?_eq_getElem h⟩
  have hs := sack_one F hr
  have e : ∀ j, ((F.sack F.cum [((k : Int) + 1, (k : Int) + 1)]).l[j]?).isSome = (F.l[j]?).isSome := fun j => by
    rw [hs j, List.getElem?_modify]
    cases F.l[j]? <;> simp
  apply Nat.le_antisymm
  · rcases Nat.lt_or_ge F.l.length (F.sack F.cum [((k : Int) + 1, (k : Int) + 1)]).l.length with h' | h'
    · have := e F.l.length
      rw [List.getElem?_eq_getElem h'] at this
      simp at this
    · exact h'
  · rcases Nat.lt_or_ge (F.sack F.cum [((k : Int) + 1, (k : Int) + 1)]).l.length F.l.length with h' | h'
    · have := e (F.sack F.cum [((k : Int) + 1, (k : Int) + 1)]).l.length
      rw [List.getElem?_eq_getElem h'] at this
      simp at this
    · exact h'

/-! ### Pieces on two paths -/
structure SplitOk (ps : List Bool) (F : Flt) : Prop where
  len : F.l.length = ps.length
  paths : F.paths = 2
  at_ : ∀ (j : Nat) r b, F.l[j]? = some r → ps[j]? = some b → r.d.bytes.length = 10 ∧ r.path = (if b then 1 else 0) ∧ r.gone = false ∧ (b = true → r.acked = false ∧ r.lost = false)
theorem SplitOk.add {ps : List Bool} {F : Flt} (h : SplitOk ps F) (b : Bool) {d : Pc} {path : Int} (now id : Int) (hd : d.bytes.length = 10) (hp : path = if b then 1 else 0) (he : F.addE d path = 0) : SplitOk (ps ++ [b]) (F.add d path now id) := by
  rw [Flt.add, if_pos he]
  refine ⟨by simp [h.len], h.paths, fun j r b' hr hb => ?_⟩
  simp only at hr
  rw [List.getElem?_append] at hr hb
  rw [← h.len] at hb
  split at hr
  · rename_i hj; rw [if_pos hj] at hb; exact h.at_ j r b' hr hb
  · rename_i hj
    rw [if_neg hj] at hb
    have : j - F.l.length = 0 := by
      rcases Nat.lt_or_ge (j - F.l.length) 1 with h' | h'
      · omega
      · rw [List.getElem?_eq_none (by simpa using h')] at hr; cases hr
    rw [this] at hr hb
    simp only [List.getElem?_cons_zero, Option.some.injEq] at hr hb
    subst hr; subst hb
    exact ⟨hd, hp, rfl, fun _ => ⟨rfl, rfl⟩⟩
theorem SplitOk.addE {ps : List Bool} {F : Flt} (h : SplitOk ps F) (hn : ps.length < 2048) {d : Pc} {path : Int} (hd : d.bytes.length = 10) (hp : path = 0 ∨ path = 1) : F.addE d path = 0 := by
  rw [Flt.addE, if_neg (by rw [h.paths, hd]; omega), if_neg (by rw [h.len]; omega)]
theorem SplitOk.sack {ps : List Bool} {F : Flt} (h : SplitOk ps F) {k : Nat} (hk : ps[k]? = some false) : SplitOk ps (F.sack F.cum [((k : Int) + 1, (k : Int) + 1)]) := by
  have hkl : k < F.l.length := by rw [h.len]; exact (List.getElem?_eq_some_iff.1 hk).1
  obtain ⟨r0, hr0⟩ : ∃ r, F.l[k]? = some r := ⟨F.l[k], List.getElem?_eq_getElem hkl⟩
  have h0 := h.at_ k r0 false hr0 hk
  refine ⟨by rw [sack_one_length F hkl, h.len], h.paths, fun j r b hr hb => ?_⟩
  rw [sack_one F hr0 j, List.getElem?_modify] at hr
  have hjl : j < F.l.length := by rw [h.len]; exact (List.getElem?_eq_some_iff.1 hb).1
  obtain ⟨x, hx⟩ : ∃ x, F.l[j]? = some x := ⟨F.l[j], List.getElem?_eq_getElem hjl⟩
  have hxa := h.at_ j x b hx hb
  rw [hx] at hr
  simp only [Option.map_eq_map, Option.map_some, Option.some.injEq] at hr
  subst hr
  have hpath : (if k = j then ackR x else x).path = x.path := by split <;> rfl
  by_cases hb1 : b = true
  · subst hb1
    have hkj : ¬ k = j := fun e => by subst e; rw [hk] at hb; cases hb
    rw [if_neg hkj, if_neg]
    · exact hxa
    · rintro ⟨_, h2, _⟩
      rw [hxa.2.1, h0.2.1] at h2
      simp at h2
  · have hbf : b = false := by simpa using hb1
    subst hbf
    have key : ∀ y : FRec, (y.d.bytes.length = 10 ∧ y.path = 0 ∧ y.gone = false) → ∀ z, (z = y ∨ z = missR y) → z.d.bytes.length = 10 ∧ z.path = (if false = true then 1 else 0) ∧ z.gone = false ∧ (false = true → z.acked = false ∧ z.lost = false) := by
      rintro y ⟨y1, y2, y3⟩ z (rfl | rfl)
      · exact ⟨y1, y2, y3, fun h => by cases h⟩
      · exact ⟨y1, y2, y3, fun h => by cases h⟩
    have ite_or : ∀ (c : Prop) [Decidable c] (a b : FRec), ((if c then a else b) = b ∨ (if c then a else b) = a) := fun c _ a b => by
      by_cases hc : c
      · exact .inr (if_pos hc)
      · exact .inl (if_neg hc)
    refine key (if k = j then ackR x else x) ?_ _ (ite_or _ _ _)
    split
    · exact ⟨hxa.1, hxa.2.1, hxa.2.2.1⟩
    · exact ⟨hxa.1, hxa.2.1, hxa.2.2.1⟩
def tenOf (ps : List Bool) : Int := (ps.map fun b => if b then (10 : Int) else 0).sum
theorem SplitOk.out {ps : List Bool} {F : Flt} (h : SplitOk ps F) : sumIf (fun r => decide (r.path = 1) && r.away) F.l = tenOf ps := by
  rw [sumIf, tenOf]
  congr 1
  apply List.ext_getElem?
  intro j
  rw [List.getElem?_map, List.getElem?_map]
  by_cases hj : j < F.l.length
  · have hj' : j < ps.length := by rw [← h.len]; exact hj
    rw [List.getElem?_eq_getElem hj, List.getElem?_eq_getElem hj']
    have := h.at_ j _ _ (List.getElem?_eq_getElem hj) (List.getElem?_eq_getElem hj')
    simp only [Option.map_some, Option.some.injEq]
    obtain ⟨h1, h2, h3, h4⟩ := this
    cases hb : ps[j] with
    | true =>
      rw [hb] at h2 h4
      obtain ⟨h5, h6⟩ := h4 rfl
      rw [h2, FRec.away, h5, h6, h3, h1]; rfl
    | false =>
      rw [hb] at h2
      rw [h2]; rfl
  · rw [List.getElem?_eq_none (by omega), List.getElem?_eq_none (by rw [← h.len]; omega)]; rfl
theorem lost_at {l : List FRec} {q : Nat} {t : Int} (h : (lostOf l)[q]? = some t) : ∃ (j : Nat) (r : FRec), l[j]? = some r ∧ r.open_ = true ∧ r.d.tsn = t := by
  obtain ⟨r, hr, rfl⟩ := List.mem_map.1 (List.mem_of_getElem? h)
  obtain ⟨hm, ho⟩ := List.mem_filter.1 hr
  obtain ⟨j, hj⟩ := List.getElem?_of_mem hm
  exact ⟨j, r, hj, ho, rfl⟩
theorem idx_of_tsn {X : FL} (h : FlOk X) {j : Nat} {x : RL} (hx : X.l[j]? = some x) : X.abs.idx x.r.d.tsn = some j := by
  have ht := h.tsn j x hx
  have hj := (List.getElem?_eq_some_iff.1 hx).1
  have hlen := h.len
  have hc0 := h.c0
  have hc1 := h.c1
  have e : (x.r.d.tsn - X.cum) % 4294967296 = j + 1 := by rw [ht]; omega
  rw [Flt.idx]
  show (if 1 ≤ (x.r.d.tsn - X.cum) % 4294967296 ∧ (x.r.d.tsn - X.cum) % 4294967296 ≤ (X.recs.length : Int) then some ((x.r.d.tsn - X.cum) % 4294967296 - 1).toNat else none) = some j
  rw [e, recs_length, if_pos (by omega)]
  congr 1; omega
end Go.Proofs.Ytonfkkdahlboiaa
