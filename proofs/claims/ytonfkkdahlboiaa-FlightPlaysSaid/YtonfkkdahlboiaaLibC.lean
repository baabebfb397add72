/- Frames as functions; a region's operations one behind the other over such a frame (wpSeq), and from there to the region's own rule. -/
import Derived.Test.YtonfkkdahlboiaaLibB
import Derived.Tactics
namespace Go.Proofs.Ytonfkkdahlboiaa

abbrev Sig := Nat → Value

def upd (σ : Sig) (d : Nat) (v : Value) : Sig := fun t => bif Nat.beq t d then v else σ t
def updO (σ : Sig) : Option Nat → Value → Sig
  | some d, v => upd σ d v
  | none, _ => σ

theorem upd_same (σ : Sig) (d : Nat) (v : Value) : upd σ d v d = v := by simp [upd]
theorem upd_ne (σ : Sig) {d t : Nat} (v : Value) (h : t ≠ d) : upd σ d v t = σ t := by
  have hb : Nat.beq t d = false := by
    cases hc : Nat.beq t d with
    | false => rfl
    | true => exact absurd (Nat.eq_of_beq_eq_true hc) h
  simp only [upd, hb, cond_false]

/-- The frame of a function: n temporaries. -/
def fr (n : Nat) (σ : Sig) (ds : List Deferred) : Act := { tmps := Array.ofFn (n := n) (fun i => σ i.val), defers := ds }

theorem fr_put (n : Nat) (σ : Sig) (ds : List Deferred) (d : Option Nat) (v : Value) : (fr n σ ds).put d v = fr n (updO σ d v) ds := by
  cases d with
  | none => rfl
  | some d =>
    simp only [fr, Act.put, updO, Act.mk.injEq, and_true]
    apply Array.ext_getElem?
    intro i
    by_cases hi : d = i
    · subst hi
      by_cases hd : d < n
      · simp [Array.getElem?_setIfInBounds, hd, upd_same]
      · simp [Array.getElem?_setIfInBounds, hd]
    · simp only [Array.getElem?_setIfInBounds_ne hi, Array.getElem?_ofFn, upd_ne σ v (Ne.symm hi)]

def ev (σ : Sig) : Operand → Value
  | .tmp t => σ t
  | .const v => v
  | .global g => .pointer (some ⟨g, 0, none⟩)
  | .func f => .func (.func f) #[] #[]

def okO (n : Nat) : Operand → Bool
  | .tmp t => Nat.blt t n
  | _ => true

theorem fr_get {n t : Nat} (σ : Sig) (ds : List Deferred) (h : t < n) : (fr n σ ds).tmps[t]? = some (σ t) := by
  simp [fr, h]

theorem fr_eval {n : Nat} (σ : Sig) (ds : List Deferred) {x : Operand} (h : okO n x = true) : (fr n σ ds).eval x = ev σ x := by
  cases x with
  | tmp t =>
    have ht : t < n := by simpa [okO, Nat.blt_eq] using h
    simp [Act.eval, ev, fr, ht]
  | _ => rfl

/-- What a guard's operation has yielded. -/
def yieldS (ops : Array Oper) (σ : Sig) (j : Nat) : Option Bool :=
  match (ops[j]?).bind (·.dst) with
  | some d => match σ d with
    | .bool b => some b
    | _ => none
  | none => none

def wantS (ops : Array Oper) (σ : Sig) (o : Oper) : Bool :=
  match o.guard with
  | none => true
  | some (j, w) => yieldS ops σ j == some w

def opOk (n : Nat) (o : Oper) : Bool :=
  (match o.op with | .select .. | .defer _ => false | _ => true) && o.op.operands.all (okO n) && (match o.dst with | some d => Nat.blt d n | none => true)

def opsOk (n : Nat) (ops : Array Oper) : Bool := ops.all (opOk n)

theorem opsOk_spec {n : Nat} {ops : Array Oper} (h : opsOk n ops = true) {j : Nat} {o : Oper} (ho : ops[j]? = some o) : opOk n o = true :=
  Array.all_eq_true_iff_forall_mem.1 h o (Array.mem_of_getElem? ho)

theorem opOk_exec {n : Nat} {o : Oper} (h : opOk n o = true) (σ : Sig) (ds : List Deferred) : execOp (fr n σ ds).eval o = execOp (ev σ) o := by
  simp only [opOk, Bool.and_eq_true] at h
  refine execOp_congr o (fun cs b heq => ?_) (fun x hx => fr_eval σ ds (Array.all_eq_true_iff_forall_mem.1 h.1.2 x hx))
  simp [heq] at h

theorem opOk_defer {n : Nat} {o : Oper} (h : opOk n o = true) (c : Call) : o.op ≠ .defer c := by
  intro heq
  simp [opOk, heq] at h

theorem opOk_wanted {n : Nat} {ops : Array Oper} (h : opsOk n ops = true) (o : Oper) (σ : Sig) (ds : List Deferred) :
    Region.wanted o (yielded ops (fr n σ ds).tmps) = wantS ops σ o := by
  unfold Region.wanted wantS
  cases o.guard with
  | none => rfl
  | some g =>
    obtain ⟨j, w⟩ := g
    have : yielded ops (fr n σ ds).tmps j = yieldS ops σ j := by
      unfold yielded yieldS
      cases hj : ops[j]? with
      | none => simp
      | some oj =>
        have hok := opsOk_spec h hj
        cases hd : oj.dst with
        | none => simp [hd]
        | some d =>
          have hdn : d < n := by simp only [opOk, hd, Bool.and_eq_true] at hok; simpa [Nat.blt_eq] using hok.2
          simp only [Option.bind_some, hd, fr_get σ ds hdn]
          cases σ d <;> rfl
    simp [this]

/-- A round of a loop over a function, called. -/
def Rounds (P : Program) (l : Nat) (f : FuncId) (tmps : Array Value) (assign body : Code) (w : World) (R : Value → World → Prop) : Prop :=
  RoundIn (wide none) 0 P l f tmps assign body w fun e w' => ∃ v, e = .returned v ∧ R v w'

/-- What an operation has come to. -/
def uponS (P : Program) (next : Value → World → Prop) : Result Next → Prop
  | .ok (.value v) w => next v w
  | .ok .skip w => next undef w
  | .ok (.enter f args) w => Calls P f args w fun e w' => ∃ v, e = .returned v ∧ next v w'
  | .ok (.round l f tmps assign body) w => Rounds P l f tmps assign body w next
  | _ => False

theorem wide_fenced (P : Program) (ro : Option Nat) (m : Machine) : m.fenced P (wide ro) := by
  intro g _
  refine ⟨fun h => ?_, Or.inl trivial, fun _ _ => trivial, fun _ h => ?_⟩
  · simp [wide] at h
  · simp [wide] at h

theorem wide_room (ro : Option Nat) (n : Nat) : (wide ro).room n := fun _ h => by simp [wide] at h

theorem stepsIn_w {P : Program} {ro : Option Nat} {m m' : Machine} : StepsIn (Machine.fenced P (wide ro)) P m m' ↔ Steps P m m' :=
  ⟨StepsIn.steps, fun h => (StepsIn.of_steps h).mono fun m _ => wide_fenced P ro m⟩

theorem comesIn_w {P : Program} {ro : Option Nat} {m m' : Machine} {e : Ending} : ComesIn (Machine.fenced P (wide ro)) P m m' e ↔ Comes P m m' e := by
  cases e with
  | returned v => exact stepsIn_w
  | panicked chain => exact stepsIn_w
  | outgrown => exact Iff.rfl

theorem callsIn_w {P : Program} {ro : Option Nat} {n : Nat} {f : FuncId} {args : Array Value} {w : World} {R : Ending → World → Prop} :
    CallsIn (wide ro) n P f args w R ↔ Calls P f args w R :=
  ⟨fun h cs => let ⟨e, w', fr, r, s, x⟩ := h.2 cs (wide_room _ _); ⟨e, w', fr, r, comesIn_w.1 s, x⟩,
   fun h => ⟨trivial, fun cs _ => let ⟨e, w', fr, r, s, x⟩ := h cs; ⟨e, w', fr, r, comesIn_w.2 s, x⟩⟩⟩

theorem roundIn_w {P : Program} {ro ro' : Option Nat} {n n' : Nat} {l : Nat} {f : FuncId} {tmps : Array Value} {assign body : Code} {w : World} {R : Ending → World → Prop}
    (h : RoundIn (wide ro) n P l f tmps assign body w R) : RoundIn (wide ro') n' P l f tmps assign body w R :=
  ⟨trivial, fun c cs _ => let ⟨e, w', r, s⟩ := h.2 c cs (wide_room _ _); ⟨e, w', r, comesIn_w.2 (comesIn_w.1 s)⟩⟩

section
variable {P : Program} {ops : Array Oper} {Q : Exit → Act → World → Prop} {ro : Option Nat} {n : Nat} {ds : List Deferred} {w₀ : World} {LS : List Seg}

/-- 0: an operation (behind it nothing is asked); 1: one that is taken first; 2: an operation behind which LS still holds. -/
def wpSeq (P : Program) (ops : Array Oper) (Q : Exit → Act → World → Prop) (n : Nat) (ds : List Deferred) (w₀ : World) (LS : List Seg) : List (Oper × Nat) → Sig → World → Prop
  | [], σ, w => Q .normal (fr n σ ds) w
  | (o, 1) :: rest, σ, w => St w₀ w LS ∧ if wantS ops σ o then ∃ v, (∀ w', St w₀ w' LS → (execOp (ev σ) o).run P w' = .ok (.value v) w') ∧ wpSeq P ops Q n ds w₀ LS rest (updO σ o.dst v) w
      else wpSeq P ops Q n ds w₀ LS rest (updO σ o.dst undef) w
  | (o, 3) :: rest, σ, w => St w₀ w LS.tail ∧ if wantS ops σ o then ∃ v, (∀ w', St w₀ w' LS.tail → (execOp (ev σ) o).run P w' = .ok (.value v) w') ∧ wpSeq P ops Q n ds w₀ LS rest (updO σ o.dst v) w
      else wpSeq P ops Q n ds w₀ LS rest (updO σ o.dst undef) w
  | (o, k) :: rest, σ, w => if wantS ops σ o then uponS P (fun v w' => (k = 2 → St w₀ w' LS) ∧ (k = 5 → St w₀ w' LS.tail) ∧ wpSeq P ops Q n ds w₀ LS rest (updO σ o.dst v) w') ((execOp (ev σ) o).run P w)
      else (k = 2 → St w₀ w LS) ∧ (k = 5 → St w₀ w LS.tail) ∧ wpSeq P ops Q n ds w₀ LS rest (updO σ o.dst undef) w

theorem uponIn_of_uponS {o : Oper} {σ : Sig} {K : Act → World → Prop} {next : Value → World → Prop} {r : Result Next}
    (hK : ∀ v w', next v w' → K (fr n (updO σ o.dst v) ds) w') (h : uponS P next r) : o.uponIn (wide ro) 0 P (fr n σ ds) K Q r := by
  cases r with
  | halt x w => simp [uponS] at h
  | ok x w =>
    cases x <;> simp only [uponS] at h <;> simp only [Oper.uponIn, fr_put]
    case value v => exact hK _ _ h
    case skip => exact hK _ _ h
    case enter f args =>
      refine ⟨fun h => by simp [wide] at h, callsIn_w.2 (h.mono fun e w' ⟨v, he, hn⟩ => ?_)⟩
      subst he
      exact hK _ _ hn
    case round l f tmps assign body =>
      refine ⟨fun h => by simp [wide] at h, roundIn_w (RoundIn.mono h fun e w' ⟨v, he, hn⟩ => ?_)⟩
      subst he
      exact hK _ _ hn

/-- The text's own order. -/
theorem wpOpsIn_of_seq (hok : opsOk n ops = true) : ∀ (l : List Oper) (k : Nat) (σ : Sig) (w : World), (∀ j, l[j]? = ops[k + j]?) →
    wpSeq P ops Q n ds w₀ LS (l.map (·, 0)) σ w → wpOpsIn (wide ro) 0 P ops Q (List.range' k l.length) (fr n σ ds) w
  | [], _, _, _, _, h => by simpa [wpOpsIn, wpSeq] using h
  | o :: l, k, σ, w, hl, h => by
    have h0 : ops[k]? = some o := by simpa using (hl 0).symm
    have hl' : ∀ j, l[j]? = ops[(k + 1) + j]? := fun j => by have := hl (j + 1); simpa [Nat.add_assoc, Nat.add_comm 1 j] using this
    simp only [List.map_cons, wpSeq] at h
    simp only [List.length_cons, List.range'_succ, wpOpsIn, h0, opOk_wanted hok]
    split
    · rename_i hw
      simp only [hw, if_true] at h
      refine ⟨wide_about o, ?_⟩
      rw [Oper.semAt_eq _ _ _ (opOk_defer (opsOk_spec hok h0)), opOk_exec (opsOk_spec hok h0)]
      exact uponIn_of_uponS (fun v w' hn => wpOpsIn_of_seq hok l (k + 1) _ w' hl' hn.2.2) h
    · rename_i hw
      simp only [hw] at h
      refine ⟨wide_about o, ?_⟩
      rw [fr_put]
      exact wpOpsIn_of_seq hok l (k + 1) _ w hl' h.2.2

theorem wp_plain {id : Nat} {σ : Sig} {w : World} (hok : opsOk n ops = true) (h : wpSeq P ops Q n ds w₀ LS (ops.toList.map (·, 0)) σ w) :
    (Code.region id ops false).wpIn (wide ro) 0 P Q (fr n σ ds) w := by
  refine wpIn_region ?_
  rw [List.range_eq_range', ← Array.length_toList]
  exact wpOpsIn_of_seq hok ops.toList 0 σ w (by simp) h

/-- A schedule's operations. -/
def schedL (l : List Oper) : List (Nat × Nat) → List (Oper × Nat)
  | [] => []
  | (i, k) :: π => (l.getD i default, k) :: schedL l π

def sealedOf (π : List (Nat × Nat)) : Bool → List Nat
  | true => (π.filter fun x => x.2 == 0 || x.2 == 5).map (·.1)
  | false => (π.filter fun x => x.2 == 0).map (·.1)
def kindOf (k : Nat) : Option Bool := if k == 1 then some true else if k == 3 then some false else none
/-- What is kept: all segments, or all but the first. -/
def keptOf (w₀ : World) (LS : List Seg) : Bool → World → Prop
  | true => fun w => St w₀ w LS
  | false => fun w => St w₀ w LS.tail

theorem St.tail {w₀ w : World} {LS : List Seg} (h : St w₀ w LS) : St w₀ w LS.tail := by
  cases LS with
  | nil => exact h
  | cons C L => exact ⟨sat_drop h.sat, h.env⟩

theorem wpSched_of_seq (hok : opsOk n ops = true) (sl : Bool → List Nat) : ∀ (π : List (Nat × Nat)) (σ : Sig) (w : World), (∀ x ∈ π, x.1 < ops.size) → (∀ x ∈ π, x.2 < 6 ∧ x.2 ≠ 4) →
    (∀ x ∈ π, (x.2 = 0 → (sl true).contains x.1 = true ∧ (sl false).contains x.1 = true) ∧ (x.2 = 5 → (sl true).contains x.1 = true)) →
    wpSeq P ops Q n ds w₀ LS (schedL ops.toList π) σ w → wpSched ro P ops Q (keptOf w₀ LS) (fun b j => (sl b).contains j) (π.map fun x => (x.1, kindOf x.2)) (fr n σ ds) w
  | [], _, _, _, _, _, h => by simpa [wpSched, wpSeq, schedL] using h
  | (i, k) :: π, σ, w, hi, hk, hs, h => by
    have hlt : i < ops.size := hi (i, k) (.head _)
    have h0 : ops[i]? = some (ops.toList.getD i default) := by
      simp [hlt]
    have hi' : ∀ x ∈ π, x.1 < ops.size := fun x hx => hi x (.tail _ hx)
    have hk' : ∀ x ∈ π, x.2 < 6 ∧ x.2 ≠ 4 := fun x hx => hk x (.tail _ hx)
    have hs' := fun x hx => hs x (.tail _ hx)
    simp only [schedL] at h
    generalize ops.toList.getD i default = o at h0 h
    have hoko := opsOk_spec hok h0
    have hex := opOk_exec hoko σ ds
    have hwt := opOk_wanted hok o σ ds
    by_cases h1 : k = 1
    · subst h1
      simp only [wpSeq] at h
      obtain ⟨hS, h⟩ := h
      simp only [List.map_cons, kindOf, beq_self_eq_true, if_true, wpSched]
      refine ⟨hS, ?_⟩
      by_cases hw : wantS ops σ o = true
      · simp only [hw, if_true] at h
        obtain ⟨v, hv, hn⟩ := h
        refine ⟨v, o, h0, .inl ⟨by rw [hwt]; exact hw, fun w' hw' => by rw [hex]; exact hv w' hw'⟩, ?_⟩
        rw [fr_put]
        exact wpSched_of_seq hok sl π _ w hi' hk' hs' hn
      · simp only [hw] at h
        refine ⟨undef, o, h0, .inr ⟨by rw [hwt]; simpa using hw, rfl⟩, ?_⟩
        rw [fr_put]
        exact wpSched_of_seq hok sl π _ w hi' hk' hs' h
    · by_cases h3 : k = 3
      · subst h3
        simp only [wpSeq] at h
        obtain ⟨hS, h⟩ := h
        have hkd : kindOf 3 = some false := rfl
        simp only [List.map_cons, hkd, wpSched]
        refine ⟨hS, ?_⟩
        by_cases hw : wantS ops σ o = true
        · simp only [hw, if_true] at h
          obtain ⟨v, hv, hn⟩ := h
          refine ⟨v, o, h0, .inl ⟨by rw [hwt]; exact hw, fun w' hw' => by rw [hex]; exact hv w' hw'⟩, ?_⟩
          rw [fr_put]
          exact wpSched_of_seq hok sl π _ w hi' hk' hs' hn
        · simp only [hw] at h
          refine ⟨undef, o, h0, .inr ⟨by rw [hwt]; simpa using hw, rfl⟩, ?_⟩
          rw [fr_put]
          exact wpSched_of_seq hok sl π _ w hi' hk' hs' h
      · have hb : kindOf k = none := by simp [kindOf, h1, h3]
        simp only [List.map_cons, hb, wpSched]
        have hk0 := hk (i, k) (.head _)
        have hs0 := hs (i, k) (.head _)
        simp only at hk0 hs0
        have h' : if wantS ops σ o then uponS P (fun v w' => (k = 2 → St w₀ w' LS) ∧ (k = 5 → St w₀ w' LS.tail) ∧ wpSeq P ops Q n ds w₀ LS (schedL ops.toList π) (updO σ o.dst v) w') ((execOp (ev σ) o).run P w)
            else (k = 2 → St w₀ w LS) ∧ (k = 5 → St w₀ w LS.tail) ∧ wpSeq P ops Q n ds w₀ LS (schedL ops.toList π) (updO σ o.dst undef) w := by
          rcases (show k = 0 ∨ k = 2 ∨ k = 5 by omega) with h2 | h2 | h2 <;> subst h2 <;> simpa [wpSeq] using h
        have keep : ∀ w', (k = 2 → St w₀ w' LS) → (k = 5 → St w₀ w' LS.tail) → ∀ b, (sl b).contains i = false → keptOf w₀ LS b w → keptOf w₀ LS b w' := by
          intro w' k2 k5 b hf _
          rcases (show k = 0 ∨ k = 2 ∨ k = 5 by omega) with h2 | h2 | h2
          · have := hs0.1 h2
            cases b
            · rw [this.2] at hf; cases hf
            · rw [this.1] at hf; cases hf
          · cases b
            · exact (k2 h2).tail
            · exact k2 h2
          · cases b
            · exact k5 h2
            · have := hs0.2 h2; rw [this] at hf; cases hf
        unfold wpOpIn
        simp only [h0, hwt]
        split
        · rename_i hw
          simp only [hw, if_true] at h'
          refine ⟨wide_about o, ?_⟩
          rw [Oper.semAt_eq _ _ _ (opOk_defer hoko), hex]
          exact uponIn_of_uponS (fun v w' hn => ⟨keep w' hn.1 hn.2.1, wpSched_of_seq hok sl π _ w' hi' hk' hs' hn.2.2⟩) h'
        · rename_i hw
          simp only [hw] at h'
          refine ⟨wide_about o, keep w h'.1 h'.2.1, ?_⟩
          rw [fr_put]
          exact wpSched_of_seq hok sl π _ w hi' hk' hs' h'.2.2

def drawB (n : Nat) (ops : Array Oper) (π : List (Nat × Nat)) : Bool :=
  opsOk n ops && (Region.noSelect ops && noDefer ops && ((π.map fun x => (x.1, kindOf x.2)).length == ops.size) && schedB .any ops (sealedOf π) (π.map fun x => (x.1, kindOf x.2)) (Array.replicate ops.size false)) &&
    π.all (fun x => Nat.blt x.1 ops.size) && π.all (fun x => Nat.blt x.2 6 && !(Nat.beq x.2 4))

theorem wp_drawn {id : Nat} {σ : Sig} {w : World} (π : List (Nat × Nat)) (hm : P.follows .mixedOrders = true) (hB : drawB n ops π = true)
    (h : wpSeq P ops (NoPanic Q) n ds w₀ LS (schedL ops.toList π) σ { w with drawn := w.drawn + 1 }) : (Code.region id ops true).wpIn (wide ro) 0 P Q (fr n σ ds) w := by
  simp only [drawB, Bool.and_eq_true] at hB
  refine wpIn_region_sched (SS := keptOf w₀ LS) (π.map fun x => (x.1, kindOf x.2)) (sealedOf π) hm (by simpa using hB.1.1.2) ?_
  refine wpSched_of_seq hB.1.1.1 (sealedOf π) π σ _ (fun x hx => ?_) (fun x hx => ?_) (fun x hx => ⟨fun h0 => ?_, fun h0 => ?_⟩) h
  · have := List.all_eq_true.1 hB.1.2 x hx
    simpa [Nat.blt_eq] using this
  · have := List.all_eq_true.1 hB.2 x hx
    simp only [Bool.and_eq_true, Nat.blt_eq, Bool.not_eq_true'] at this
    exact ⟨this.1, fun h => by rw [h] at this; exact absurd this.2 (by decide)⟩
  · constructor <;> simp only [sealedOf, List.contains_eq_mem, decide_eq_true_eq, List.mem_map, List.mem_filter, beq_iff_eq, Bool.or_eq_true]
    · exact ⟨x, ⟨hx, .inl h0⟩, rfl⟩
    · exact ⟨x, ⟨hx, h0⟩, rfl⟩
  · simp only [sealedOf, List.contains_eq_mem, decide_eq_true_eq, List.mem_map, List.mem_filter, beq_iff_eq, Bool.or_eq_true]
    exact ⟨x, ⟨hx, .inr h0⟩, rfl⟩

end
end Go.Proofs.Ytonfkkdahlboiaa
