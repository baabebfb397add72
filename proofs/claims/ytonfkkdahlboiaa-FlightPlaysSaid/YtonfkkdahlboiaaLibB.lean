/- A region whose order is drawn comes to one walk along one schedule; what must hold for that is looked at by a Bool. -/
import Derived.Test.YtonfkkdahlboiaaLibA
import Derived.OrdersHeld
import Derived.Deep.RegionHeld3
namespace Go.Proofs.Ytonfkkdahlboiaa

/-- No fence; a round's frame or none. -/
def wide (ro : Option Nat) : Fence := { fn := fun _ => True, depth := none, alive := false, round := ro }

section
variable {P : Program} {ops : Array Oper} {Q : Exit → Act → World → Prop} {md : Region.Mode} {S : World → Prop} {SS : Bool → World → Prop} {ro : Option Nat} {sealed : Bool → Nat → Bool}

def wpAnyG (ro : Option Nat) (P : Program) (md : Region.Mode) (ops : Array Oper) (Q : Exit → Act → World → Prop) (SS : Bool → World → Prop) (sealed : Bool → Nat → Bool) : Nat → Array Bool → Act → World → Prop
  | 0, listed, a, w => Region.ready md ops listed = [] ∧ Q .normal a w
  | fuel + 1, listed, a, w =>
    (Region.ready md ops listed = [] → Q .normal a w) ∧
    ∀ i ∈ Region.ready md ops listed, wpOpIn (wide ro) 0 P ops Q i (fun a' w' => (∀ b, sealed b i = false → SS b w → SS b w') ∧ wpAnyG ro P md ops Q SS sealed fuel (listed.setIfInBounds i true) a' w') a w

theorem wpAnyIn_of_G : ∀ (fuel : Nat) (listed : Array Bool) (a : Act) (w : World), wpAnyG ro P md ops Q SS sealed fuel listed a w → wpAnyIn (wide ro) 0 P md ops Q fuel listed a w
  | 0, _, _, _, h => h
  | fuel + 1, _, _, _, h => ⟨h.1, fun i hi => wpOpIn_mono (fun a' w' h' => wpAnyIn_of_G fuel _ a' w' h'.2) (h.2 i hi)⟩

def noDefer (ops : Array Oper) : Bool := ops.all fun o => match o.op with | .defer _ => false | _ => true

theorem noDefer_spec (h : noDefer ops = true) (j : Nat) (o : Oper) (c : Call) (ho : ops[j]? = some o) : o.op ≠ .defer c := by
  intro heq
  have := Array.all_eq_true_iff_forall_mem.1 h o (Array.mem_of_getElem? ho)
  simp [heq] at this

/-- j waits for i, directly or through others. -/
def reach (md : Region.Mode) (ops : Array Oper) : Nat → Nat → Nat → Bool
  | 0, _, _ => false
  | f + 1, j, i => match ops[j]? with
    | none => false
    | some oj => oj.after.any fun e => Region.binds md e && (e.on == i || reach md ops f e.on i)

def Closed (md : Region.Mode) (ops : Array Oper) (listed : Array Bool) : Prop :=
  ∀ j oj, ops[j]? = some oj → listed.getD j false = true → ∀ e ∈ oj.after, Region.binds md e = true → listed.getD e.on false = true

theorem reach_listed {listed : Array Bool} (hc : Closed md ops listed) {i : Nat} : ∀ (f j : Nat) (oj : Oper), ops[j]? = some oj →
    (∀ e ∈ oj.after, Region.binds md e = true → listed.getD e.on false = true) → reach md ops f j i = true → listed.getD i false = true
  | 0, _, _, _, _, h => by simp [reach] at h
  | f + 1, j, oj, hj, hall, h => by
    simp only [reach, hj] at h
    obtain ⟨e, he, hb⟩ := Array.any_eq_true'.1 h
    simp only [Bool.and_eq_true, Bool.or_eq_true, beq_iff_eq] at hb
    have h1 := hall e he hb.1
    rcases hb.2 with h2 | h2
    · exact h2 ▸ h1
    · cases ho : ops[e.on]? with
      | none => cases f <;> simp [reach, ho] at h2
      | some oe => exact reach_listed hc f e.on oe ho (fun e' he' hb' => hc e.on oe ho h1 e' he' hb') h2

theorem Closed.set {listed : Array Bool} (h : Closed md ops listed) {i : Nat} (hi : i ∈ Region.ready md ops listed) : Closed md ops (listed.setIfInBounds i true) := by
  obtain ⟨_, oi, hoi, hall⟩ := mem_ready.1 hi
  intro j oj hj hl e he hb
  by_cases hij : i = j
  · subst hij
    obtain rfl : oj = oi := Option.some.inj (hj.symm.trans hoi)
    exact getD_set_true (hall e he hb)
  · rw [getD_set_ne false hij] at hl
    exact getD_set_true (h j oj hj hl e he hb)

theorem wide_about {w : World} {a : Act} (o : Oper) : ∀ f, o.about P w a.eval = some f → (wide ro).fn f := fun _ _ => trivial

theorem YieldsIf_wpOpIn {i : Nat} {o : Oper} {v : Value} {a : Act} (hi : ops[i]? = some o) (hd : ∀ c, o.op ≠ .defer c) (hy : YieldsIf P ops S o v a)
    {K : Act → World → Prop} {w : World} (hS : S w) (h : K (a.put o.dst v) w) : wpOpIn (wide ro) 0 P ops Q i K a w := by
  unfold wpOpIn
  simp only [hi]
  rcases hy with ⟨hw, hv⟩ | ⟨hw, rfl⟩
  · simp only [hw, if_true, Oper.wpIn, Oper.semAt_eq _ _ _ hd, hv w hS, Oper.uponIn]; exact ⟨wide_about o, h⟩
  · simp only [hw, Bool.false_eq_true, if_false]; exact ⟨wide_about o, h⟩

theorem wpOpIn_putIf {j : Nat} {oi oj : Oper} {v : Value} (hj : ops[j]? = some oj) (hap : oi.apart ops oj = true)
    (hsi : ∀ cs b, oi.op ≠ .select cs b) (hsj : ∀ cs b, oj.op ≠ .select cs b) (hdj : ∀ c, oj.op ≠ .defer c)
    (hQ : ∀ c a w, ¬ Q (.panic c) a w) {K : Act → World → Prop} {a : Act} {w : World}
    (hy : YieldsIf P ops S oi v a) (h : wpOpIn (wide ro) 0 P ops Q j K (a.put oi.dst v) w) :
    wpOpIn (wide ro) 0 P ops Q j (fun a' w' => YieldsIf P ops S oi v a' ∧ K (a'.put oi.dst v) w') a w := by
  obtain ⟨h1, h2, h3⟩ := Oper.apart_spec hap
  have keep : ∀ (a : Act), YieldsIf P ops S oi v a → ∀ u, YieldsIf P ops S oi v (a.put oj.dst u) := fun a hy u =>
    hy.of_same (execOp_put oi hsi a oj.dst u h3) (wanted_put oi a oj.dst u h3)
  have keepD : ∀ d, YieldsIf P ops S oi v { a with defers := d :: a.defers } := fun d => hy.of_same rfl rfl
  unfold wpOpIn at *
  simp only [hj] at *
  rw [wanted_put oj a oi.dst v h1] at h
  split
  · rename_i hw
    simp only [hw, if_true] at h
    unfold Oper.wpIn at *
    refine ⟨wide_about oj, ?_⟩
    have h := h.2
    rw [Oper.semAt_eq _ _ _ hdj, execOp_put oj hsj a oi.dst v h1] at h
    rw [Oper.semAt_eq _ _ _ hdj]
    generalize (execOp a.eval oj).run P w = r at *
    cases r with
    | ok x w' =>
      cases x <;> simp only [Oper.uponIn] at h ⊢
      case value u => exact ⟨keep a hy u, by rw [← Act.put_comm a v u h2]; exact h⟩
      case skip => exact ⟨keep a hy _, by rw [← Act.put_comm a v undef h2]; exact h⟩
      case defer d =>
        refine ⟨keep _ (keepD d) _, ?_⟩
        rw [← Act.put_comm _ v undef h2, ← Act.put_defers]
        exact h
      case enter f args =>
        refine ⟨h.1, CallsIn.mono h.2 fun e w'' he => ?_⟩
        cases e with
        | returned u => exact ⟨keep a hy u, by rw [← Act.put_comm a v u h2]; exact he⟩
        | panicked c => exact (hQ _ _ _ he).elim
        | outgrown => exact he
      case row row args => exact ⟨h.1, RowsIn.mono h.2 fun u w'' he => ⟨keep a hy u, by rw [← Act.put_comm a v u h2]; exact he⟩⟩
      case round l f tmps assign body =>
        refine ⟨h.1, RoundIn.mono h.2 fun e w'' he => ?_⟩
        cases e with
        | returned u => exact ⟨keep a hy u, by rw [← Act.put_comm a v u h2]; exact he⟩
        | panicked c => exact (hQ _ _ _ he).elim
        | outgrown => exact he
    | halt x w' =>
      cases x <;> simp only [Oper.uponIn] at h ⊢
      case panic u => exact (hQ _ _ _ h).elim
  · rename_i hw
    simp only [hw] at h
    exact ⟨wide_about oj, keep a hy _, by rw [← Act.put_comm a v undef h2]; exact h.2⟩

theorem unlisted_both {listed : Array Bool} {i : Nat} (h : listed.getD i true = false) : listed.getD i false = false := by
  rcases Nat.lt_or_ge i listed.size with h' | h'
  · simp [h'] at h ⊢; exact h
  · simp [Array.getElem?_eq_none h'] at h

/-- An operation that may come up now may be taken first. -/
theorem wpAnyG_first {b : Bool} {i f : Nat} {oi : Oper} {v : Value} (hi : ops[i]? = some oi) (hsel : ∀ (j : Nat) (o : Oper) cs b, ops[j]? = some o → o.op ≠ .select cs b)
    (hdef : ∀ (j : Nat) (o : Oper) c, ops[j]? = some o → o.op ≠ .defer c) 
    (hQ : ∀ c a w, ¬ Q (.panic c) a w) :
    ∀ (fuel : Nat) (listed : Array Bool) (a : Act) (w : World), Closed md ops listed → (∀ j, sealed b j = true → reach md ops f j i = true ∨ listed.getD j false = true) →
      (∀ j oj, ops[j]? = some oj → j ≠ i → listed.getD j true = false → (∀ e ∈ oj.after, Region.binds md e = true → e.on ≠ i) → oi.apart ops oj = true) →
      i ∈ Region.ready md ops listed → YieldsIf P ops (SS b) oi v a → SS b w →
      wpAnyG ro P md ops Q SS sealed fuel (listed.setIfInBounds i true) (a.put oi.dst v) w → wpAnyG ro P md ops Q SS sealed (fuel + 1) listed a w := by
  intro fuel
  induction fuel with
  | zero =>
    intro listed a w _ _ _ hr hy hS H
    refine ⟨fun h => (by rw [h] at hr; cases hr), fun j hj => ?_⟩
    by_cases hji : j = i
    · subst hji; exact YieldsIf_wpOpIn hi (fun c => hdef _ _ c hi) hy hS ⟨fun _ _ h => h, H⟩
    · have := ready_mono hj hji
      rw [H.1] at this
      cases this
  | succ fuel ih =>
    intro listed a w hcl hse hfree hr hy hS H
    refine ⟨fun h => (by rw [h] at hr; cases hr), fun j hj => ?_⟩
    by_cases hji : j = i
    · subst hji; exact YieldsIf_wpOpIn hi (fun c => hdef _ _ c hi) hy hS ⟨fun _ _ h => h, H⟩
    · have h1 := H.2 j (ready_mono hj hji)
      have hun := unlisted_both (mem_ready.1 hr).1
      obtain ⟨hjun, oj, hoj, hall⟩ := mem_ready.1 hj
      have hnse : sealed b j = false := by
        cases hs : sealed b j with
        | false => rfl
        | true =>
          rcases hse j hs with h3 | h3
          · rw [reach_listed hcl f j oj hoj hall h3] at hun; cases hun
          · rw [unlisted_both hjun] at h3; cases h3
      have hnot : ∀ e ∈ oj.after, Region.binds md e = true → e.on ≠ i := fun e he hb heq => by
        have h1 := hall e he hb
        rw [heq, hun] at h1
        cases h1
      have h2 := wpOpIn_putIf hoj (hfree j oj hoj hji hjun hnot) (fun cs b => hsel i oi cs b hi) (fun cs b => hsel j oj cs b hoj) (fun c => hdef j oj c hoj) hQ hy h1
      have hfree' : ∀ k ok, ops[k]? = some ok → k ≠ i → (listed.setIfInBounds j true).getD k true = false →
          (∀ e ∈ ok.after, Region.binds md e = true → e.on ≠ i) → oi.apart ops ok = true := fun k ok hk hki hun hno => by
        refine hfree k ok hk hki ?_ hno
        by_cases hjk : j = k
        · subst hjk; exact hjun
        · rw [getD_set_ne true hjk] at hun; exact hun
      refine wpOpIn_mono (fun a' w' h3 => ⟨h3.2.1, ih (listed.setIfInBounds j true) a' w' (hcl.set hj) (fun k hk => (hse k hk).imp_right getD_set_true) hfree' (ready_mono hr (Ne.symm hji)) h3.1 (h3.2.1 b hnse hS) ?_⟩) h2
      rw [Array.setIfInBounds_comm _ _ hji]
      exact h3.2.2

/-- One walk along a schedule: 'some b': an operation that is taken first, as long as SS b holds; 'none': the only one that may come up. -/
def wpSched (ro : Option Nat) (P : Program) (ops : Array Oper) (Q : Exit → Act → World → Prop) (SS : Bool → World → Prop) (sealed : Bool → Nat → Bool) : List (Nat × Option Bool) → Act → World → Prop
  | [], a, w => Q .normal a w
  | (i, some b) :: rest, a, w => SS b w ∧ ∃ v oi, ops[i]? = some oi ∧ YieldsIf P ops (SS b) oi v a ∧ wpSched ro P ops Q SS sealed rest (a.put oi.dst v) w
  | (i, none) :: rest, a, w => wpOpIn (wide ro) 0 P ops Q i (fun a' w' => (∀ b, sealed b i = false → SS b w → SS b w') ∧ wpSched ro P ops Q SS sealed rest a' w') a w

def schedB (md : Region.Mode) (ops : Array Oper) (sl : Bool → List Nat) : List (Nat × Option Bool) → Array Bool → Bool
  | [], listed => (Region.ready md ops listed).isEmpty
  | (i, some b) :: rest, listed => (Region.ready md ops listed).contains i && Region.free md ops listed i && (sl b).all (fun j => reach md ops ops.size j i || listed.getD j false) &&
      schedB md ops sl rest (listed.setIfInBounds i true)
  | (i, none) :: rest, listed => decide (Region.ready md ops listed = [i]) && schedB md ops sl rest (listed.setIfInBounds i true)

theorem wpAnyG_of_sched (sl : Bool → List Nat) (hs : Region.noSelect ops = true) (hd : noDefer ops = true) (hQ : ∀ c a w, ¬ Q (.panic c) a w) :
    ∀ (π : List (Nat × Option Bool)) (listed : Array Bool) (a : Act) (w : World), Closed md ops listed → schedB md ops sl π listed = true →
      wpSched ro P ops Q SS (fun b j => (sl b).contains j) π a w → wpAnyG ro P md ops Q SS (fun b j => (sl b).contains j) π.length listed a w
  | [], _, _, _, _, hB, h => ⟨by simpa [schedB] using hB, h⟩
  | (i, some b) :: rest, listed, a, w, hcl, hB, h => by
    simp only [schedB, Bool.and_eq_true] at hB
    obtain ⟨⟨⟨hr, hf⟩, hsl⟩, hB'⟩ := hB
    obtain ⟨hS, v, oi, hoi, hy, hK⟩ := h
    have hr' : i ∈ Region.ready md ops listed := by simpa using hr
    refine wpAnyG_first (b := b) (f := ops.size) hoi (Region.noSelect_spec hs) (noDefer_spec hd) hQ rest.length listed a w hcl (fun j hj => ?_) (Region.free_spec hoi hf) hr' hy hS
      (wpAnyG_of_sched sl hs hd hQ rest _ _ w (hcl.set hr') hB' hK)
    have := List.all_eq_true.1 hsl j (by simpa using hj)
    simpa using this
  | (i, none) :: rest, listed, a, w, hcl, hB, h => by
    simp only [schedB, Bool.and_eq_true, decide_eq_true_eq] at hB
    have hr' : i ∈ Region.ready md ops listed := by rw [hB.1]; simp
    refine ⟨fun h0 => (by rw [hB.1] at h0; cases h0), fun j hj => ?_⟩
    obtain rfl : j = i := by rw [hB.1] at hj; simpa using hj
    exact wpOpIn_mono (fun a' w' h' => ⟨h'.1, wpAnyG_of_sched sl hs hd hQ rest _ _ w' (hcl.set hr') hB.2 h'.2⟩) h

theorem closed_none (n : Nat) : Closed md ops (Array.replicate n false) := by
  intro j oj _ hl
  rcases Nat.lt_or_ge j n with h | h
  · simp [h] at hl
  · simp [Nat.not_lt.2 h] at hl

/-- A region that draws: along one schedule. -/
theorem wpIn_region_sched {id : Nat} {a : Act} {w : World} (π : List (Nat × Option Bool)) (sl : Bool → List Nat) (hm : P.follows .mixedOrders = true)
    (hB : (Region.noSelect ops && noDefer ops && (π.length == ops.size) && schedB .any ops sl π (Array.replicate ops.size false)) = true)
    (h : wpSched ro P ops (NoPanic Q) SS (fun b j => (sl b).contains j) π a { w with drawn := w.drawn + 1 }) : (Code.region id ops true).wpIn (wide ro) 0 P Q a w := by
  simp only [Bool.and_eq_true, beq_iff_eq] at hB
  refine wpIn_mono (wpIn_region_any hm (Q := NoPanic Q) ?_) NoPanic.imp
  have hl : ops.size = π.length := hB.1.2.symm
  have := wpAnyIn_of_G _ _ _ _ (wpAnyG_of_sched sl hB.1.1.1 hB.1.1.2 (fun _ _ _ h => h) π (Array.replicate ops.size false) a _ (closed_none _) hB.2 h)
  rw [← hl] at this
  exact this

end
end Go.Proofs.Ytonfkkdahlboiaa
