/- FlightFrees: the plain law. -/
import Derived.Test.YtonfkkdahlboiaaFlK
namespace Go.Proofs.Ytonfkkdahlboiaa
open Go.RowKit

def szs (l : List FRec) : List Int := l.map fun r => (r.d.bytes.length : Int)
def wOpen (r : FRec) : Int := if !r.acked then (r.d.bytes.length : Int) else 0
def opn (l : List FRec) : Int := (l.map wOpen).sum
def t4 (t : Nat → Tp) : Int := (t 0).acked + (t 1).acked + (t 2).acked + (t 3).acked
theorem opn_eq (l : List FRec) : sumIf (fun r => !r.acked) l = opn l := rfl
theorem wOpen_0 (r : FRec) : 0 ≤ wOpen r ∧ wOpen r ≤ r.d.bytes.length := by unfold wOpen; split <;> omega
theorem opn_0 : ∀ l : List FRec, 0 ≤ opn l
  | [] => by simp [opn]
  | r :: l => by
    have := opn_0 l
    have := (wOpen_0 r).1
    simp only [opn, List.map_cons, List.sum_cons] at *
    omega
theorem opn_szs : ∀ l : List FRec, opn l ≤ (szs l).sum
  | [] => by simp [opn, szs]
  | r :: l => by
    have := opn_szs l
    have := (wOpen_0 r).2
    simp only [opn, szs, List.map_cons, List.sum_cons] at *
    omega
theorem opn_append (l m : List FRec) : opn (l ++ m) = opn l + opn m := by simp [opn]
theorem opn_cons (r : FRec) (l : List FRec) : opn (r :: l) = wOpen r + opn l := by simp [opn]
theorem modify_zero (r : FRec) (l : List FRec) (g : FRec → FRec) : (r :: l).modify 0 g = g r :: l := rfl
theorem modify_succ (r : FRec) (l : List FRec) (i : Nat) (g : FRec → FRec) : (r :: l).modify (i + 1) g = r :: l.modify i g := rfl
theorem opn_modify (r' : FRec) (ha : r'.acked = false) : ∀ (l : List FRec) (i : Nat), l[i]? = some r' → opn (l.modify i ackR) = opn l - r'.d.bytes.length := by
  intro l
  induction l with
  | nil => intro i h; cases h
  | cons r l ih =>
    intro i h
    cases i with
    | zero =>
      have hr : r = r' := Option.some.inj h
      rw [modify_zero, opn_cons, opn_cons, hr]
      have e1 : wOpen (ackR r') = 0 := rfl
      have e2 : wOpen r' = r'.d.bytes.length := by rw [wOpen, ha]; rfl
      omega
    | succ i =>
      have := ih i h
      rw [modify_succ, opn_cons, opn_cons]
      omega
theorem t4_at (t : Nat → Tp) (v : Tp) {p : Nat} (h : p < 4) : t4 (at4 t p v) = t4 t - (t p).acked + v.acked := by
  rcases (show p = 0 ∨ p = 1 ∨ p = 2 ∨ p = 3 by omega) with rfl | rfl | rfl | rfl <;> simp only [t4, at4] <;> simp <;> omega
abbrev PathsOk (l : List FRec) : Prop := ∀ r ∈ l, 0 ≤ r.path ∧ r.path < 4
theorem map_modify_same {α : Type} {g : FRec → FRec} {w : FRec → α} (hw : ∀ r, w (g r) = w r) (l : List FRec) (i : Nat) : (l.modify i g).map w = l.map w := by
  apply List.ext_getElem?
  intro j
  rw [List.getElem?_map, List.getElem?_map, List.getElem?_modify]
  cases l[j]? with
  | none => rfl
  | some r => simp only [Option.map_eq_map, Option.map_some]; split <;> simp [hw]
theorem paths_modify {l : List FRec} (h : PathsOk l) {g : FRec → FRec} (hg : ∀ r, (g r).path = r.path) (i : Nat) : PathsOk (l.modify i g) := by
  intro r hr
  obtain ⟨j, hj⟩ := List.getElem?_of_mem hr
  rw [List.getElem?_modify] at hj
  cases hx : l[j]? with
  | none => rw [hx] at hj; simp at hj
  | some x =>
    rw [hx] at hj
    have hx' := h x (List.mem_of_getElem? hx)
    simp only [Option.map_eq_map, Option.map_some, Option.some.injEq] at hj
    subst hj
    split
    · rw [hg]; exact hx'
    · exact hx'
theorem ack_step (low : Nat → Option Nat) (s : SK) (i : Nat) (hp : PathsOk s.l) : t4 (ackStep low s i).t + opn (ackStep low s i).l ≤ t4 s.t + opn s.l ∧ t4 s.t ≤ t4 (ackStep low s i).t := by
  cases h : s.l[i]? with
  | none =>
    have e : ackStep low s i = s := by unfold ackStep; rw [h]
    rw [e]; omega
  | some r =>
    cases ha : r.acked with
    | true => rw [ackStep_no h ha]; omega
    | false =>
      rw [ackStep_yes h ha]
      have hr := hp r (List.mem_of_getElem? h)
      simp only
      rw [opn_modify r ha _ _ h, t4_at _ _ (show r.path.toNat < 4 by omega)]
      unfold tkT
      simp only
      split <;> omega
theorem ack_fold (low : Nat → Option Nat) : ∀ (is : List Nat) (s : SK), PathsOk s.l → t4 (is.foldl (ackStep low) s).t + opn (is.foldl (ackStep low) s).l ≤ t4 s.t + opn s.l ∧ t4 s.t ≤ t4 (is.foldl (ackStep low) s).t ∧
    szs (is.foldl (ackStep low) s).l = szs s.l
  | [], s, _ => by simp
  | i :: is, s, hp => by
    rw [List.foldl_cons]
    have h1 := ack_step low s i hp
    have hp' : PathsOk (ackStep low s i).l := by rw [ackStep_l]; exact paths_modify hp (g := ackR) (fun _ => rfl) i
    obtain ⟨h2, h3, h4⟩ := ack_fold low is (ackStep low s i) hp'
    refine ⟨by omega, by omega, h4.trans ?_⟩
    rw [ackStep_l]
    exact map_modify_same (g := ackR) (w := fun r : FRec => (r.d.bytes.length : Int)) (fun _ => rfl) _ _
theorem ack_all (low : Nat → Option Nat) : ∀ (is : List Nat) (s : SK) (j : Nat) (r : FRec), (is.foldl (ackStep low) s).l[j]? = some r → (j ∈ is ∨ ∃ r0, s.l[j]? = some r0 ∧ r0.acked = true) → r.acked = true
  | [], s, j, r, h, hj => by
    rcases hj with hj | ⟨r0, h0, h1⟩
    · cases hj
    · have h' : s.l[j]? = some r := h
      rw [h0] at h'
      obtain rfl := Option.some.inj h'
      exact h1
  | i :: is, s, j, r, h, hj => by
    rw [List.foldl_cons] at h
    by_cases hin : j ∈ is
    · exact ack_all low is _ j r h (.inl hin)
    · refine ack_all low is _ j r h (.inr ?_)
      have hex : ∃ r1, s.l[j]? = some r1 ∧ (j = i ∨ r1.acked = true) := by
        rcases hj with hj | ⟨r0, h0, h1⟩
        · rcases List.mem_cons.1 hj with rfl | hj
          · cases hx : s.l[j]? with
            | some x => exact ⟨x, rfl, .inl rfl⟩
            | none =>
              exfalso
              have hlen : ∀ (is : List Nat) (s : SK), (is.foldl (ackStep low) s).l.length = s.l.length := by
                intro is
                induction is with
                | nil => intro s; rfl
                | cons k is ih => intro s; rw [List.foldl_cons, ih, ackStep_l, List.length_modify]
              have h1 := (List.getElem?_eq_some_iff.1 h).1
              rw [hlen, ackStep_l, List.length_modify] at h1
              rw [List.getElem?_eq_getElem h1] at hx
              cases hx
          · exact absurd hj hin
        · exact ⟨r0, h0, .inr h1⟩
      obtain ⟨r1, h1, h2⟩ := hex
      rw [ackStep_l, List.getElem?_modify, h1]
      simp only [Option.map_eq_map, Option.map_some]
      refine ⟨_, rfl, ?_⟩
      rcases h2 with rfl | h2
      · rw [if_pos rfl]; rfl
      · split
        · rfl
        · exact h2
theorem miss_same {α : Type} {w : FRec → α} (hw : ∀ r, w (missR r) = w r) (high : Nat → Int) (s : List FRec × (Nat → Tp)) (n : Nat) : ((List.range n).foldl (missStep high) s).1.map w = s.1.map w := by
  apply List.ext_getElem?
  intro j
  rw [List.getElem?_map, List.getElem?_map, misses_at]
  cases s.1[j]? with
  | none => rfl
  | some r =>
    simp only [Option.map_some]
    by_cases hc : j < n ∧ missC high j r
    · rw [if_pos hc, hw]
    · rw [if_neg hc]
theorem miss_t (high : Nat → Int) (s : List FRec × (Nat → Tp)) : ∀ (n p : Nat), (((List.range n).foldl (missStep high) s).2 p).acked = (s.2 p).acked
  | 0, p => rfl
  | n + 1, p => by
    rw [List.range_succ, List.foldl_append, List.foldl_cons, List.foldl_nil]
    refine Eq.trans ?_ (miss_t high s n p)
    generalize (List.range n).foldl (missStep high) s = z
    unfold missStep
    cases z.1[n]? with
    | none => rfl
    | some r =>
      dsimp only
      split
      · rfl
      · simp only
        split
        · unfold at4
          split
          · subst_vars; rfl
          · rfl
        · rfl

structure FI (c0 : Int) (lens : List Int) (n : Nat) (freed acked : Int) (F : Flt) : Prop where
  nl : n ≤ lens.length
  cum : F.cum = (c0 + n) % 4294967296
  sz : szs F.l = lens.drop n
  freed : freed = (lens.take n).sum
  ack : acked + opn F.l ≤ lens.sum
  a0 : 0 ≤ acked
theorem FI.sack {c0 : Int} {lens : List Int} {n : Nat} {freed acked : Int} {F : Flt} (h : FI c0 lens n freed acked F) (hp : PathsOk F.l) {c : Int} (hc : 0 ≤ c ∧ c ≤ 4294967295) {gs : List (Int × Int)} (hm : F.may c gs = true) :
    FI c0 lens (n + F.base c) (freed + (F.sackT c gs).freed) (acked + t4 (F.sackT c gs).t) (F.sack c gs) := by
  obtain ⟨f1, _, _⟩ := may_facts hm
  have hlen : F.l.length = lens.length - n := by have := congrArg List.length h.sz; simpa [szs] using this
  have hnl := h.nl
  obtain ⟨a1, a2, a3⟩ := ack_fold (lowIdx F.l) (F.idxs c gs) (sk0 F.l) hp
  have hz : t4 (sk0 F.l).t = 0 := rfl
  have hl0 : (sk0 F.l).l = F.l := rfl
  rw [hz, hl0] at a1
  rw [hz] at a2
  rw [hl0] at a3
  have hall := ack_all (lowIdx F.l) (F.idxs c gs) (sk0 F.l)
  change t4 (F.acks c gs).t + opn (F.acks c gs).l ≤ 0 + opn F.l at a1
  change 0 ≤ t4 (F.acks c gs).t at a2
  change szs (F.acks c gs).l = szs F.l at a3
  have m1 : (F.misses c gs).1.map wOpen = (F.acks c gs).l.map wOpen := miss_same (fun _ => rfl) _ _ _
  have m2 : szs (F.misses c gs).1 = szs (F.acks c gs).l := miss_same (fun _ => rfl) _ _ _
  have m3 : t4 (F.misses c gs).2 = t4 (F.acks c gs).t := by simp only [t4, Flt.misses, miss_t]
  have hb : F.base c ≤ F.l.length := f1
  have hidx : ∀ j, j < F.base c → j ∈ F.idxs c gs := fun j hj => by
    rw [Flt.idxs, idxsOf, spansOf, List.map_cons, List.flatten_cons]
    refine List.mem_append_left _ ?_
    rw [List.mem_range']
    exact ⟨j, by show j < F.base c - 0; omega, by show j = 0 + 1 * j; omega⟩
  have hdrop : opn ((F.misses c gs).1.drop (F.base c)) = opn (F.acks c gs).l := by
    have e1 : opn ((F.misses c gs).1.drop (F.base c)) = (((F.misses c gs).1.map wOpen).drop (F.base c)).sum := by rw [opn, List.map_drop]
    rw [e1, m1]
    have e2 : opn (F.acks c gs).l = (((F.acks c gs).l.map wOpen).take (F.base c)).sum + (((F.acks c gs).l.map wOpen).drop (F.base c)).sum := by
      rw [← List.sum_append, List.take_append_drop]; rfl
    have e3 : (((F.acks c gs).l.map wOpen).take (F.base c)).sum = 0 := by
      have : ∀ x ∈ ((F.acks c gs).l.map wOpen).take (F.base c), x = 0 := fun x hx => by
        obtain ⟨j, hj⟩ := List.getElem?_of_mem hx
        rw [List.getElem?_take] at hj
        split at hj
        · rename_i hjb
          rw [List.getElem?_map] at hj
          obtain ⟨r, hr, rfl⟩ := Option.map_eq_some_iff.1 hj
          have := hall j r hr (.inl (hidx j hjb))
          rw [wOpen, this]; rfl
        · cases hj
      generalize ((F.acks c gs).l.map wOpen).take (F.base c) = q at this
      induction q with
      | nil => rfl
      | cons x q ih => rw [List.sum_cons, this x (.head _), ih fun y hy => this y (.tail _ hy)]; rfl
    omega
  refine ⟨by omega, ?_, ?_, ?_, ?_, ?_⟩
  · show c = _
    have := h.cum
    have hbe : ((F.base c : Nat) : Int) = (c - F.cum) % 4294967296 := by unfold Flt.base; omega
    omega
  · show szs ((F.misses c gs).1.drop (F.base c)) = _
    rw [szs, List.map_drop]
    show (szs (F.misses c gs).1).drop (F.base c) = _
    rw [m2, a3, h.sz, List.drop_drop]
  · have e : (F.sackT c gs).freed = ((szs (F.misses c gs).1).take (F.base c)).sum := by
      show sumIf (fun _ => true) ((F.misses c gs).1.take (F.base c)) = _
      rw [sumIf, szs, List.map_take]; rfl
    rw [e, m2, a3, h.sz, h.freed, ← List.sum_append, ← List.take_add]
  · show acked + t4 (F.misses c gs).2 + opn ((F.misses c gs).1.drop (F.base c)) ≤ _
    rw [m3, hdrop]
    have := h.ack
    omega
  · show 0 ≤ acked + t4 (F.misses c gs).2
    rw [m3]
    have := h.a0
    omega
theorem FI.keep {c0 : Int} {lens : List Int} {n : Nat} {freed acked : Int} {F F' : Flt} (h : FI c0 lens n freed acked F) (hs : szs F'.l = szs F.l) (ho : opn F'.l = opn F.l) (hc : F'.cum = F.cum) : FI c0 lens n freed acked F' :=
  ⟨h.nl, hc.trans h.cum, hs.trans h.sz, h.freed, by rw [ho]; exact h.ack, h.a0⟩
theorem FI.add {c0 : Int} {lens : List Int} {n : Nat} {freed acked : Int} {F : Flt} (h : FI c0 lens n freed acked F) {d : Pc} {path now id : Int} (he : F.addE d path = 0) :
    FI c0 (lens ++ [(d.bytes.length : Int)]) n freed acked (F.add d path now id) := by
  rw [Flt.add, if_pos he]
  have hnl := h.nl
  refine ⟨by rw [List.length_append]; omega, h.cum, ?_, ?_, ?_, h.a0⟩
  · show szs (F.l ++ [newRec d F.next path now id]) = _
    rw [List.drop_append_of_le_length hnl, ← h.sz]
    simp [szs, newRec]
  · rw [List.take_append_of_le_length hnl]; exact h.freed
  · show acked + opn (F.l ++ [newRec d F.next path now id]) ≤ _
    rw [opn_append, List.sum_append]
    have e : opn [newRec d F.next path now id] = d.bytes.length := by simp [opn, wOpen, newRec]
    have := h.ack
    rw [e]
    simp only [List.sum_cons, List.sum_nil]
    omega
theorem map_same {α : Type} {g : FRec → FRec} {w : FRec → α} (hw : ∀ r, w (g r) = w r) (l : List FRec) : (l.map g).map w = l.map w := by
  rw [List.map_map]; exact List.map_congr_left fun r _ => hw r
/-- What an operation makes of it. -/
theorem FI.step {c0 : Int} {lens : List Int} {n : Nat} {freed acked : Int} {F : Flt} (h : FI c0 lens n freed acked F) (hp : PathsOk F.l) (o : LOp) (cum : Int) :
    (o.kind = 0 ∧ (F.doA o cum).e = 0 → FI c0 (lens ++ [(o.d.bytes.length : Int)]) n (freed + (F.doA o cum).t.freed) (acked + t4 (F.doA o cum).t.t) (F.doF o cum)) ∧
    (¬ (o.kind = 0 ∧ (F.doA o cum).e = 0) → ∃ n', FI c0 lens n' (freed + (F.doA o cum).t.freed) (acked + t4 (F.doA o cum).t.t) (F.doF o cum)) := by
  have z1 : freed + ans0.t.freed = freed := by show freed + 0 = freed; omega
  have z2 : acked + t4 ans0.t.t = acked := by show acked + 0 = acked; omega
  rw [Flt.doF, Flt.doA]
  by_cases h0 : o.kind = 0
  · rw [if_pos h0, if_pos h0]
    refine ⟨fun hh => ?_, fun hh => ⟨n, ?_⟩⟩
    · show FI c0 _ n (freed + ans0.t.freed) (acked + t4 ans0.t.t) _
      rw [z1, z2]; exact h.add hh.2
    · show FI c0 _ n (freed + ans0.t.freed) (acked + t4 ans0.t.t) _
      rw [z1, z2]
      have he : ¬ F.addE o.d o.path = 0 := fun e => hh ⟨h0, e⟩
      rw [Flt.add, if_neg he]; exact h
  rw [if_neg h0, if_neg h0]
  refine ⟨fun hh => absurd hh.1 h0, fun _ => ?_⟩
  by_cases h1 : o.kind = 1
  · rw [if_pos h1, if_pos h1]
    refine ⟨n, ?_⟩
    show FI c0 _ n (freed + ans0.t.freed) (acked + t4 ans0.t.t) _
    rw [z1, z2, Flt.again]
    split
    · split
      · exact h
      · exact h.keep (map_modify_same (g := againR o.path o.now) (w := fun r : FRec => (r.d.bytes.length : Int)) (fun _ => rfl) _ _) (by rw [opn, opn, map_modify_same (g := againR o.path o.now) (fun _ => rfl)]) rfl
    · exact h
  rw [if_neg h1, if_neg h1]
  by_cases h2 : o.kind = 2
  · rw [if_pos h2, if_pos h2]
    refine ⟨n, ?_⟩
    cases F.get (doTsn o cum) with
    | none =>
      show FI c0 _ n (freed + ans0.t.freed) (acked + t4 ans0.t.t) _
      rw [z1, z2]; exact h
    | some r =>
      show FI c0 _ n (freed + ans0.t.freed) (acked + t4 ans0.t.t) _
      rw [z1, z2]; exact h
  rw [if_neg h2, if_neg h2]
  by_cases h3 : o.kind = 3
  · rw [if_pos h3, if_pos h3]
    refine ⟨n, ?_⟩
    show FI c0 _ n (freed + ans0.t.freed) (acked + t4 ans0.t.t) _
    rw [z1, z2, Flt.mark]
    have hw : ∀ r, wOpen (markR o.path r) = wOpen r := fun r => by unfold markR; split <;> rfl
    have hz : ∀ r : FRec, ((markR o.path r).d.bytes.length : Int) = r.d.bytes.length := fun r => by rw [markR_d]
    exact h.keep (map_same hz _) (by rw [opn, opn, map_same hw]) rfl
  rw [if_neg h3, if_neg h3]
  by_cases h4 : o.kind = 4
  · rw [if_pos h4, if_pos h4]
    refine ⟨n, ?_⟩
    show FI c0 _ n (freed + ans0.t.freed) (acked + t4 ans0.t.t) _
    rw [z1, z2, Flt.abandon]
    have hw : ∀ r, wOpen (goneR o.id r) = wOpen r := fun r => by unfold goneR; split <;> rfl
    have hz : ∀ r : FRec, ((goneR o.id r).d.bytes.length : Int) = r.d.bytes.length := fun r => by rw [goneR_d]
    split
    · exact h
    · exact h.keep (map_same hz _) (by rw [opn, opn, map_same hw]) rfl
  rw [if_neg h4, if_neg h4]
  by_cases h5 : o.kind = 5
  · rw [if_pos h5, if_pos h5]
    by_cases hm : F.may (doTsn o cum) o.gaps = true
    · rw [if_pos hm, if_pos hm]
      exact ⟨_, h.sack hp (by unfold doTsn; omega) hm⟩
    · rw [if_neg hm, if_neg hm]
      refine ⟨n, ?_⟩
      show FI c0 _ n (freed + ans0.t.freed) (acked + t4 ans0.t.t) _
      rw [z1, z2]; exact h
  rw [if_neg h5, if_neg h5]
  refine ⟨n, ?_⟩
  rw [z1, z2]; exact h
end Go.Proofs.Ytonfkkdahlboiaa
