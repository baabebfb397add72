/- Triples over frames as functions: code, operations, calls, loops, returns. -/
import Derived.Test.YtonfkkdahlboiaaLibC
import Derived.WalkKit
namespace Go.Proofs.Ytonfkkdahlboiaa

/-- The code leads from L, σ to Q. -/
structure TC (P : Program) (ro : Option Nat) (n : Nat) (ds : List Deferred) (w₀ : World) (c : Code) (Q : Exit → Act → World → Prop) (L : List Seg) (σ : Sig) : Prop where
  out : ∀ w, St w₀ w L → c.wpIn (wide ro) 0 P Q (fr n σ ds) w

structure TQ (n : Nat) (ds : List Deferred) (w₀ : World) (Q : Exit → Act → World → Prop) (e : Exit) (L : List Seg) (σ : Sig) : Prop where
  out : ∀ w, St w₀ w L → Q e (fr n σ ds) w

structure TR (P : Program) (ops : Array Oper) (Q : Exit → Act → World → Prop) (n : Nat) (ds : List Deferred) (w₀ : World) (LS : List Seg) (l : List (Oper × Nat)) (L : List Seg) (σ : Sig) : Prop where
  out : ∀ w, St w₀ w L → wpSeq P ops Q n ds w₀ LS l σ w

def mk0 : List Oper → List (Oper × Nat)
  | [] => []
  | o :: l => (o, 0) :: mk0 l

theorem mk0_eq (l : List Oper) : mk0 l = l.map (·, 0) := by
  induction l with
  | nil => rfl
  | cons o l ih => simp [mk0, ih]

section
variable {P : Program} {ro : Option Nat} {n : Nat} {ds : List Deferred} {w₀ : World} {Q : Exit → Act → World → Prop} {L : List Seg} {σ : Sig}

theorem St.drew {w : World} (h : St w₀ w L) : St w₀ { w with drawn := w.drawn + 1 } L := ⟨sat_heap h.sat rfl, ⟨h.env.os, h.env.tape, h.env.output, h.env.size⟩⟩

/-! ### Code -/
theorem TC_seq {x y : Code} (h : TC P ro n ds w₀ x (Exit.then (y.wpIn (wide ro) 0 P Q) Q) L σ) : TC P ro n ds w₀ (.seq x y) Q L σ := ⟨fun w hw => wpIn_seq (h.out w hw)⟩
theorem TC_skip (h : TQ n ds w₀ Q .normal L σ) : TC P ro n ds w₀ .skip Q L σ := ⟨fun w hw => wpIn_skip (h.out w hw)⟩
theorem TC_label {l : Nat} (h : TQ n ds w₀ Q .normal L σ) : TC P ro n ds w₀ (.label l) Q L σ := ⟨fun w hw => wpIn_label (h.out w hw)⟩
theorem TC_exit {id : Nat} (h : TQ n ds w₀ Q (.exit id) L σ) : TC P ro n ds w₀ (.exit id) Q L σ := ⟨fun w hw => wpIn_exit (h.out w hw)⟩
theorem TC_ret (h : TQ n ds w₀ Q .ret L σ) : TC P ro n ds w₀ .ret Q L σ := ⟨fun w hw => wpIn_ret (h.out w hw)⟩
theorem TC_block {id : Nat} {c : Code} (h : TC P ro n ds w₀ c (Exit.inBlock id Q) L σ) : TC P ro n ds w₀ (.block id c) Q L σ := ⟨fun w hw => wpIn_block (h.out w hw)⟩
theorem TC_cond_t {c : Nat} {x y : Code} (hc : σ c = .bool true) (hn : Nat.blt c n = true) (h : TC P ro n ds w₀ x Q L σ) : TC P ro n ds w₀ (.cond (.tmp c) x y) Q L σ :=
  ⟨fun w hw => wpIn_cond_true (by rw [fr_eval σ ds (show okO n (.tmp c) = true from hn)]; exact hc) (h.out w hw)⟩
theorem TC_cond_f {c : Nat} {x y : Code} (hc : σ c = .bool false) (hn : Nat.blt c n = true) (h : TC P ro n ds w₀ y Q L σ) : TC P ro n ds w₀ (.cond (.tmp c) x y) Q L σ :=
  ⟨fun w hw => wpIn_cond_false (by rw [fr_eval σ ds (show okO n (.tmp c) = true from hn)]; exact hc) (h.out w hw)⟩
theorem TC_cond {c : Nat} {x y : Code} {b : Bool} (hc : σ c = .bool b) (hn : Nat.blt c n = true) (ht : b = true → TC P ro n ds w₀ x Q L σ) (hf : b = false → TC P ro n ds w₀ y Q L σ) :
    TC P ro n ds w₀ (.cond (.tmp c) x y) Q L σ :=
  ⟨fun w hw => wpIn_cond_split (by rw [fr_eval σ ds (show okO n (.tmp c) = true from hn)]; exact hc) (fun h => (ht h).out w hw) (fun h => (hf h).out w hw)⟩
theorem TC_plain {id : Nat} {ops : Array Oper} (hok : opsOk n ops = true) (h : TR P ops Q n ds w₀ [] (mk0 ops.toList) L σ) : TC P ro n ds w₀ (.region id ops false) Q L σ :=
  ⟨fun w hw => wp_plain (LS := []) hok (by rw [← mk0_eq]; exact h.out w hw)⟩
theorem TC_drawn {id : Nat} {ops : Array Oper} (LS : List Seg) (π : List (Nat × Nat)) (hm : P.follows .mixedOrders = true) (hB : drawB n ops π = true)
    (h : TR P ops (NoPanic Q) n ds w₀ LS (schedL ops.toList π) L σ) : TC P ro n ds w₀ (.region id ops true) Q L σ :=
  ⟨fun w hw => wp_drawn π hm hB (h.out _ hw.drew)⟩

/-! ### Exits -/
theorem TQ_noPanic (h : TQ n ds w₀ Q .normal L σ) : TQ n ds w₀ (NoPanic Q) .normal L σ := ⟨h.out⟩
theorem TQ_then {y : Code} (h : TC P ro n ds w₀ y Q L σ) : TQ n ds w₀ (Exit.then (y.wpIn (wide ro) 0 P Q) Q) .normal L σ := ⟨h.out⟩
theorem TQ_then_ret {K : Act → World → Prop} (h : TQ n ds w₀ Q .ret L σ) : TQ n ds w₀ (Exit.then K Q) .ret L σ := ⟨h.out⟩
theorem TQ_then_exit {K : Act → World → Prop} {id : Nat} (h : TQ n ds w₀ Q (.exit id) L σ) : TQ n ds w₀ (Exit.then K Q) (.exit id) L σ := ⟨h.out⟩
theorem TQ_blk {id : Nat} (h : TQ n ds w₀ Q .normal L σ) : TQ n ds w₀ (Exit.inBlock id Q) .normal L σ := ⟨h.out⟩
theorem TQ_blk_ret {id : Nat} (h : TQ n ds w₀ Q .ret L σ) : TQ n ds w₀ (Exit.inBlock id Q) .ret L σ := ⟨h.out⟩
theorem TQ_blk_here {id : Nat} (h : TQ n ds w₀ Q .normal L σ) : TQ n ds w₀ (Exit.inBlock id Q) (.exit id) L σ := ⟨fun w hw => by
  simp only [Exit.inBlock, if_true]; exact h.out w hw⟩
theorem TQ_blk_past {id id' : Nat} (hne : Nat.beq id' id = false) (h : TQ n ds w₀ Q (.exit id') L σ) : TQ n ds w₀ (Exit.inBlock id Q) (.exit id') L σ := ⟨fun w hw => by
  have : id' ≠ id := fun e => by subst e; simp at hne
  simp only [Exit.inBlock, this, if_false]; exact h.out w hw⟩

/-! ### Slots -/
def slots : List (Nat × Value) → Sig → Sig
  | [], σ => σ
  | (d, v) :: l, σ => upd (slots l σ) d v

def Holds (σ : Sig) : List (Nat × Value) → Prop
  | [] => True
  | (d, v) :: l => σ d = v ∧ Holds σ l

theorem slots_self {σ : Sig} : ∀ {l : List (Nat × Value)}, Holds σ l → σ = slots l σ
  | [], _ => rfl
  | (d, v) :: l, h => by
    have ih := slots_self (σ := σ) (l := l) h.2
    funext t
    simp only [slots, ← ih]
    by_cases ht : t = d
    · subst ht; rw [upd_same]; exact h.1
    · rw [upd_ne _ _ ht]

theorem TC_slots {c : Code} (l : List (Nat × Value)) (hl : Holds σ l) (h : ∀ σ', TC P ro n ds w₀ c Q L (slots l σ')) : TC P ro n ds w₀ c Q L σ := by
  rw [slots_self hl]; exact h σ

/-- A loop: its state x says what the slots and the heap hold. -/
theorem TC_loop {X : Type} {body : Code} (Lx : X → List Seg) (sx : X → List (Nat × Value)) (Pre : X → Prop) (μ : X → Nat) (x₀ : X) (hP : Pre x₀) (hσ : Holds σ (sx x₀))
    (hL : ∀ w, St w₀ w L → St w₀ w (Lx x₀))
    (round : ∀ x σg, Pre x → TC P ro n ds w₀ body (Exit.then (fun a w => ∃ x' σ', Pre x' ∧ μ x' < μ x ∧ a = fr n (slots (sx x') σ') ds ∧ St w₀ w (Lx x')) Q) (Lx x) (slots (sx x) σg)) :
    TC P ro n ds w₀ (.loop body) Q L σ := by
  refine ⟨fun w hw => ?_⟩
  refine wpIn_mono (wpIn_loop (Q := Q) (fun a w => ∃ x σ', Pre x ∧ a = fr n (slots (sx x) σ') ds ∧ St w₀ w (Lx x))
    (fun a w => Classical.epsilon fun m => ∃ x σ', Pre x ∧ a = fr n (slots (sx x) σ') ds ∧ St w₀ w (Lx x) ∧ m = μ x ∧ ∀ x' σ'', Pre x' → a = fr n (slots (sx x') σ'') ds → St w₀ w (Lx x') → μ x ≤ μ x') ?_ ?_) (fun _ _ _ h => h)
  · exact ⟨x₀, σ, hP, by rw [← slots_self hσ], hL w hw⟩
  · rintro a w ⟨x, σ', hx, ha, hS⟩
    -- the least measure of a state that fits
    have key : ∀ (a : Act) (w : World), (∃ x σ', Pre x ∧ a = fr n (slots (sx x) σ') ds ∧ St w₀ w (Lx x)) →
        ∃ m, ∃ x σ', Pre x ∧ a = fr n (slots (sx x) σ') ds ∧ St w₀ w (Lx x) ∧ m = μ x ∧ ∀ x' σ'', Pre x' → a = fr n (slots (sx x') σ'') ds → St w₀ w (Lx x') → μ x ≤ μ x' := by
      intro a w hex
      have : ∀ k, (∃ x σ', Pre x ∧ a = fr n (slots (sx x) σ') ds ∧ St w₀ w (Lx x) ∧ μ x ≤ k) →
          ∃ m, ∃ x σ', Pre x ∧ a = fr n (slots (sx x) σ') ds ∧ St w₀ w (Lx x) ∧ m = μ x ∧ ∀ x' σ'', Pre x' → a = fr n (slots (sx x') σ'') ds → St w₀ w (Lx x') → μ x ≤ μ x' := by
        intro k
        induction k with
        | zero =>
          rintro ⟨x, σ', h1, h2, h3, h4⟩
          exact ⟨_, x, σ', h1, h2, h3, rfl, fun x' σ'' _ _ _ => by omega⟩
        | succ k ih =>
          rintro ⟨x, σ', h1, h2, h3, h4⟩
          by_cases hex : ∃ x σ', Pre x ∧ a = fr n (slots (sx x) σ') ds ∧ St w₀ w (Lx x) ∧ μ x ≤ k
          · exact ih hex
          · refine ⟨_, x, σ', h1, h2, h3, rfl, fun x' σ'' g1 g2 g3 => ?_⟩
            have : ¬ μ x' ≤ k := fun hle => hex ⟨x', σ'', g1, g2, g3, hle⟩
            omega
      obtain ⟨x, σ', h1, h2, h3⟩ := hex
      exact this (μ x) ⟨x, σ', h1, h2, h3, Nat.le_refl _⟩
    have spec := fun a w h => Classical.epsilon_spec (key a w h)
    obtain ⟨y, σy, hy, hay, hSy, hm, -⟩ := spec a w ⟨x, σ', hx, ha, hS⟩
    rw [hm]
    subst hay
    refine wpIn_mono ((round y σy hy).out w hSy) (fun e a' w' h => ?_)
    cases e with
    | normal =>
      obtain ⟨x', σ'', g1, g2, g3, g4⟩ := h
      refine ⟨⟨x', σ'', g1, g3, g4⟩, ?_⟩
      obtain ⟨z, σz, -, -, -, hmz, hleast⟩ := spec a' w' ⟨x', σ'', g1, g3, g4⟩
      rw [hmz]
      exact Nat.lt_of_le_of_lt (hleast x' σ'' g1 g3 g4) g2
    | _ => exact h

theorem TQ_round {X : Type} {Lx : X → List Seg} {sx : X → List (Nat × Value)} {Pre : X → Prop} {μ : X → Nat} {x : X} (x' : X) (hP : Pre x') (hμ : μ x' < μ x) (hσ : Holds σ (sx x'))
    (hL : ∀ w, St w₀ w L → St w₀ w (Lx x')) :
    TQ n ds w₀ (Exit.then (fun a w => ∃ x' σ', Pre x' ∧ μ x' < μ x ∧ a = fr n (slots (sx x') σ') ds ∧ St w₀ w (Lx x')) Q) .normal L σ :=
  ⟨fun w hw => ⟨x', σ, hP, hμ, by rw [← slots_self hσ], hL w hw⟩⟩

/-- Where ways meet again: what follows is walked once. -/
theorem TC_cut {X : Type} {x y : Code} (Lx : X → List Seg) (sx : X → List (Nat × Value)) (Pre : X → Prop)
    (h : TC P ro n ds w₀ x (Exit.then (fun a w => ∃ x' σ', Pre x' ∧ a = fr n (slots (sx x') σ') ds ∧ St w₀ w (Lx x')) Q) L σ)
    (k : ∀ x' σg, Pre x' → TC P ro n ds w₀ y Q (Lx x') (slots (sx x') σg)) : TC P ro n ds w₀ (.seq x y) Q L σ := by
  refine ⟨fun w hw => ?_⟩
  refine wpIn_seq (wpIn_mono (h.out w hw) fun e a w' h => ?_)
  cases e with
  | normal =>
    obtain ⟨x', σ', h1, rfl, h3⟩ := h
    exact (k x' σ' h1).out w' h3
  | _ => exact h

theorem TQ_cut {X : Type} {Lx : X → List Seg} {sx : X → List (Nat × Value)} {Pre : X → Prop} (x' : X) (hP : Pre x') (hσ : Holds σ (sx x')) (hL : ∀ w, St w₀ w L → St w₀ w (Lx x')) :
    TQ n ds w₀ (Exit.then (fun a w => ∃ x' σ', Pre x' ∧ a = fr n (slots (sx x') σ') ds ∧ St w₀ w (Lx x')) Q) .normal L σ :=
  ⟨fun w hw => ⟨x', σ, hP, by rw [← slots_self hσ], hL w hw⟩⟩

end

/-! ### Calls -/
/-- What a call does to the segments C, whatever else there is. -/
structure Ct (P : Program) (f : FuncId) (args : List Value) (C : List Seg) (Post : Value → List Seg → Prop) : Prop where
  out : ∀ w R, sat w (C ++ R) → Calls P f args.toArray w fun e w' => ∃ v C', e = .returned v ∧ Post v C' ∧ sat w' (C' ++ R) ∧ Env w w'

/-- What a function's body owes. -/
def Owes (Post : Value → List Seg → Prop) (R : List Seg) (w₀ : World) (e : Ending) (w' : World) : Prop := ∃ v C', e = .returned v ∧ Post v C' ∧ sat w' (C' ++ R) ∧ Env w₀ w'

def sig0 (l : List Value) : Sig := fun t => l.getD t undef

theorem fr_sig0 (l : List Value) (n : Nat) (h : l.length ≤ n) : ({ tmps := l.toArray ++ Array.replicate (n - l.toArray.size) undef, defers := [] } : Act) = fr n (sig0 l) [] := by
  simp only [fr, Act.mk.injEq, and_true]
  apply Array.ext_getElem?
  intro i
  simp only [Array.getElem?_append, List.size_toArray, Array.getElem?_ofFn, List.getElem?_toArray, sig0]
  by_cases h1 : i < l.length
  · rw [if_pos h1, dif_pos (by omega)]
    simp [h1]
  · rw [if_neg h1]
    by_cases h2 : i < n
    · rw [dif_pos h2, Array.getElem?_replicate, if_pos (by omega)]
      simp [List.getD_eq_getElem?_getD, List.getElem?_eq_none (Nat.le_of_not_lt h1)]
    · rw [dif_neg h2, Array.getElem?_replicate, if_neg (by omega)]

theorem Ct_intro {P : Program} {f : FuncId} {fn : Func} {c : Code} {args : List Value} {C : List Seg} {Post : Value → List Seg → Prop} (hf : P.funcs[f]? = some fn) (hb : fn.body = some c)
    (hn : args.length ≤ fn.ntmps) (h : ∀ w₀ R, TC P none fn.ntmps [] w₀ c (bodyPost P fn (Owes Post R w₀)) (C ++ R) (sig0 args)) : Ct P f args C Post := by
  refine ⟨fun w R hs => callsIn_w.1 (callsIn_of_wp (F := wide none) (n := 0) hf hb trivial ?_ rfl)⟩
  rw [fr_sig0 _ _ hn]
  exact (h w R).out w ⟨hs, Env.refl w⟩

section
variable {P : Program} {n : Nat} {w₀ : World} {L R : List Seg} {σ : Sig} {fn : Func} {Post : Value → List Seg → Prop} {v : Value} {C' : List Seg}

theorem Owes_of (hp : Post v C') (hL : Pulls C' L R) {w : World} (hw : St w₀ w L) : Owes Post R w₀ (.returned v) w :=
  ⟨v, C', rfl, hp, sat_perm hw.sat hL.perm, hw.env⟩

theorem TQ_ret0 (hr : fn.results = #[]) (hp : Post (.tuple #[]) C') (hL : Pulls C' L R) : TQ n [] w₀ (bodyPost P fn (Owes Post R w₀)) .ret L σ :=
  ⟨fun _ hw => ⟨rfl, _, results_none hr _ _ _, Owes_of hp hL hw⟩⟩
theorem TQ_end0 (hr : fn.results = #[]) (hp : Post (.tuple #[]) C') (hL : Pulls C' L R) : TQ n [] w₀ (bodyPost P fn (Owes Post R w₀)) .normal L σ :=
  ⟨fun _ hw => ⟨rfl, _, results_none hr _ _ _, Owes_of hp hL hw⟩⟩

theorem fr_getD {n t : Nat} (σ : Sig) (ds : List Deferred) (h : Nat.blt t n = true) : (fr n σ ds).tmps.getD t undef = σ t := by
  have : t < n := by simpa [Nat.blt_eq] using h
  simp [fr, this]

theorem TQ_ret1 {t : Nat} (hr : fn.results = #[.tmp t]) (hn : Nat.blt t n = true) (hv : σ t = v) (hp : Post v C') (hL : Pulls C' L R) : TQ n [] w₀ (bodyPost P fn (Owes Post R w₀)) .ret L σ :=
  ⟨fun w hw => ⟨rfl, v, by rw [results_tmp hr]; rw [fr_getD σ [] hn, hv], Owes_of hp hL hw⟩⟩
theorem TQ_ret2 {t u : Nat} {v u' : Value} (hr : fn.results = #[.tmp t, .tmp u]) (hn : Nat.blt t n = true) (hn' : Nat.blt u n = true) (hv : σ t = v) (hu : σ u = u') (hp : Post (.tuple #[v, u']) C')
    (hL : Pulls C' L R) : TQ n [] w₀ (bodyPost P fn (Owes Post R w₀)) .ret L σ :=
  ⟨fun w hw => ⟨rfl, _, by rw [results_tmp2 hr, fr_getD σ [] hn, fr_getD σ [] hn', hv, hu], Owes_of hp hL hw⟩⟩
end

/-! ### Operations -/
/-- The operation yields v in whatever world. -/
structure PV (P : Program) (σ : Sig) (o : Oper) (v : Value) : Prop where
  out : ∀ w, (execOp (ev σ) o).run P w = .ok (.value v) w

section
variable {P : Program} {ops : Array Oper} {Q : Exit → Act → World → Prop} {n : Nat} {ds : List Deferred} {w₀ : World} {LS L : List Seg} {σ : Sig} {o : Oper} {rest : List (Oper × Nat)} {v : Value}
variable {d : Nat} {op : Op} {ty : Nat} {p : String} {af : Array Edge} {g : Option (Nat × Bool)}

theorem TR_nil (h : TQ n ds w₀ Q .normal L σ) : TR P ops Q n ds w₀ LS [] L σ := ⟨h.out⟩

theorem TR_pv0 (h : PV P σ ⟨some d, op, ty, p, af, g⟩ v) (hw : wantS ops σ ⟨some d, op, ty, p, af, g⟩ = true) (k : TR P ops Q n ds w₀ LS rest L (upd σ d v)) : TR P ops Q n ds w₀ LS ((⟨some d, op, ty, p, af, g⟩, 0) :: rest) L σ := ⟨fun w hs => by
  simp only [wpSeq, hw, if_true, h.out w, uponS]
  exact ⟨fun h => by simp at h, fun h => by simp at h, k.out w hs⟩⟩
theorem TR_pv1 (h : PV P σ ⟨some d, op, ty, p, af, g⟩ v) (hw : wantS ops σ ⟨some d, op, ty, p, af, g⟩ = true) (hL : ∀ w, St w₀ w L → St w₀ w LS) (k : TR P ops Q n ds w₀ LS rest L (upd σ d v)) : TR P ops Q n ds w₀ LS ((⟨some d, op, ty, p, af, g⟩, 1) :: rest) L σ :=
  ⟨fun w hs => by
    simp only [wpSeq, hw, if_true]
    exact ⟨hL w hs, v, fun w' _ => h.out w', k.out w hs⟩⟩
/-- An operation that yields v and leaves the world as it is, the segments being there. -/
theorem TR_ld0 (h : ∀ w, St w₀ w L → (execOp (ev σ) ⟨some d, op, ty, p, af, g⟩).run P w = .ok (.value v) w) (hw : wantS ops σ ⟨some d, op, ty, p, af, g⟩ = true) (k : TR P ops Q n ds w₀ LS rest L (upd σ d v)) :
    TR P ops Q n ds w₀ LS ((⟨some d, op, ty, p, af, g⟩, 0) :: rest) L σ := ⟨fun w hs => by
  simp only [wpSeq, hw, if_true, h w hs, uponS]
  exact ⟨fun h => by simp at h, fun h => by simp at h, k.out w hs⟩⟩
theorem TR_ld1 (h : ∀ w, St w₀ w LS → (execOp (ev σ) ⟨some d, op, ty, p, af, g⟩).run P w = .ok (.value v) w) (hw : wantS ops σ ⟨some d, op, ty, p, af, g⟩ = true) (hL : ∀ w, St w₀ w L → St w₀ w LS)
    (k : TR P ops Q n ds w₀ LS rest L (upd σ d v)) : TR P ops Q n ds w₀ LS ((⟨some d, op, ty, p, af, g⟩, 1) :: rest) L σ := ⟨fun w hs => by
  simp only [wpSeq, hw, if_true]
  exact ⟨hL w hs, v, fun w' hs' => h w' hs', k.out w hs⟩⟩
theorem TR_skip0 (hw : wantS ops σ ⟨some d, op, ty, p, af, g⟩ = false) (k : TR P ops Q n ds w₀ LS rest L (upd σ d undef)) : TR P ops Q n ds w₀ LS ((⟨some d, op, ty, p, af, g⟩, 0) :: rest) L σ := ⟨fun w hs => by
  simp only [wpSeq, hw]
  exact ⟨fun h => by simp at h, fun h => by simp at h, k.out w hs⟩⟩
theorem TR_skip1 (hw : wantS ops σ ⟨some d, op, ty, p, af, g⟩ = false) (hL : ∀ w, St w₀ w L → St w₀ w LS) (k : TR P ops Q n ds w₀ LS rest L (upd σ d undef)) : TR P ops Q n ds w₀ LS ((⟨some d, op, ty, p, af, g⟩, 1) :: rest) L σ := ⟨fun w hs => by
  simp only [wpSeq, hw]
  exact ⟨hL w hs, k.out w hs⟩⟩
theorem TR_skip2 (hw : wantS ops σ ⟨some d, op, ty, p, af, g⟩ = false) (hL : ∀ w, St w₀ w L → St w₀ w LS) (k : TR P ops Q n ds w₀ LS rest L (upd σ d undef)) : TR P ops Q n ds w₀ LS ((⟨some d, op, ty, p, af, g⟩, 2) :: rest) L σ := ⟨fun w hs => by
  simp only [wpSeq, hw]
  exact ⟨fun _ => hL w hs, fun h => by simp at h, k.out w hs⟩⟩
theorem TR_skipN0 (hw : wantS ops σ ⟨none, op, ty, p, af, g⟩ = false) (k : TR P ops Q n ds w₀ LS rest L (σ)) : TR P ops Q n ds w₀ LS ((⟨none, op, ty, p, af, g⟩, 0) :: rest) L σ := ⟨fun w hs => by
  simp only [wpSeq, hw]
  exact ⟨fun h => by simp at h, fun h => by simp at h, k.out w hs⟩⟩
theorem TR_skipN1 (hw : wantS ops σ ⟨none, op, ty, p, af, g⟩ = false) (hL : ∀ w, St w₀ w L → St w₀ w LS) (k : TR P ops Q n ds w₀ LS rest L (σ)) : TR P ops Q n ds w₀ LS ((⟨none, op, ty, p, af, g⟩, 1) :: rest) L σ := ⟨fun w hs => by
  simp only [wpSeq, hw]
  exact ⟨hL w hs, k.out w hs⟩⟩
theorem TR_skipN2 (hw : wantS ops σ ⟨none, op, ty, p, af, g⟩ = false) (hL : ∀ w, St w₀ w L → St w₀ w LS) (k : TR P ops Q n ds w₀ LS rest L (σ)) : TR P ops Q n ds w₀ LS ((⟨none, op, ty, p, af, g⟩, 2) :: rest) L σ := ⟨fun w hs => by
  simp only [wpSeq, hw]
  exact ⟨fun _ => hL w hs, fun h => by simp at h, k.out w hs⟩⟩

theorem upd_self {σ : Sig} {d : Nat} {v : Value} (h : σ d = v) : upd σ d v = σ := by
  funext t
  by_cases ht : t = d
  · subst ht; rw [upd_same, h]
  · rw [upd_ne _ _ ht]
/-- A guard is decided. -/
theorem TR_split {l : List (Oper × Nat)} (d : Nat) {b : Bool} (hd : σ d = .bool b) (ht : b = true → TR P ops Q n ds w₀ LS l L (upd σ d (.bool true)))
    (hf : b = false → TR P ops Q n ds w₀ LS l L (upd σ d (.bool false))) : TR P ops Q n ds w₀ LS l L σ := by
  cases b with
  | true => have := ht rfl; rwa [upd_self hd] at this
  | false => have := hf rfl; rwa [upd_self hd] at this

/-- An operation that turns the world. -/
theorem TR_eff0 {L' : List Seg} (hw : wantS ops σ o = true) (h : ∀ w, St w₀ w L → ∃ w', (execOp (ev σ) o).run P w = .ok (.value v) w' ∧ St w₀ w' L')
    (k : TR P ops Q n ds w₀ LS rest L' (updO σ o.dst v)) : TR P ops Q n ds w₀ LS ((o, 0) :: rest) L σ := ⟨fun w hs => by
  obtain ⟨w', h1, h2⟩ := h w hs
  simp only [wpSeq, hw, if_true, h1, uponS]
  exact ⟨fun h => by simp at h, fun h => by simp at h, k.out w' h2⟩⟩
theorem TR_unit0 {L' : List Seg} (hw : wantS ops σ o = true) (h : ∀ w, St w₀ w L → ∃ w', (execOp (ev σ) o).run P w = .ok .skip w' ∧ St w₀ w' L')
    (k : TR P ops Q n ds w₀ LS rest L' (updO σ o.dst undef)) : TR P ops Q n ds w₀ LS ((o, 0) :: rest) L σ := ⟨fun w hs => by
  obtain ⟨w', h1, h2⟩ := h w hs
  simp only [wpSeq, hw, if_true, h1, uponS]
  exact ⟨fun h => by simp at h, fun h => by simp at h, k.out w' h2⟩⟩
/-- One that makes something of which the number of a new block is a part. -/
theorem TR_new0 (hw : wantS ops σ o = true) (h : ∀ w, St w₀ w L → ∃ v L' w', (execOp (ev σ) o).run P w = .ok (.value v) w' ∧ St w₀ w' L' ∧ TR P ops Q n ds w₀ LS rest L' (updO σ o.dst v)) :
    TR P ops Q n ds w₀ LS ((o, 0) :: rest) L σ := ⟨fun w hs => by
  obtain ⟨v, L', w', h1, h2, k⟩ := h w hs
  simp only [wpSeq, hw, if_true, h1, uponS]
  exact ⟨fun h => by simp at h, fun h => by simp at h, k.out w' h2⟩⟩

/-! Among operations that may come behind or ahead: flags 2, 3, 5. -/
theorem TR_pv3 (h : PV P σ ⟨some d, op, ty, p, af, g⟩ v) (hw : wantS ops σ ⟨some d, op, ty, p, af, g⟩ = true) (hL : ∀ w, St w₀ w L → St w₀ w LS.tail) (k : TR P ops Q n ds w₀ LS rest L (upd σ d v)) : TR P ops Q n ds w₀ LS ((⟨some d, op, ty, p, af, g⟩, 3) :: rest) L σ :=
  ⟨fun w hs => by
    simp only [wpSeq, hw, if_true]
    exact ⟨hL w hs, v, fun w' _ => h.out w', k.out w hs⟩⟩
theorem TR_ld3 (h : ∀ w, St w₀ w LS.tail → (execOp (ev σ) ⟨some d, op, ty, p, af, g⟩).run P w = .ok (.value v) w) (hw : wantS ops σ ⟨some d, op, ty, p, af, g⟩ = true) (hL : ∀ w, St w₀ w L → St w₀ w LS.tail)
    (k : TR P ops Q n ds w₀ LS rest L (upd σ d v)) : TR P ops Q n ds w₀ LS ((⟨some d, op, ty, p, af, g⟩, 3) :: rest) L σ := ⟨fun w hs => by
  simp only [wpSeq, hw, if_true]
  exact ⟨hL w hs, v, fun w' hs' => h w' hs', k.out w hs⟩⟩
theorem TR_skip3 (hw : wantS ops σ ⟨some d, op, ty, p, af, g⟩ = false) (hL : ∀ w, St w₀ w L → St w₀ w LS.tail) (k : TR P ops Q n ds w₀ LS rest L (upd σ d undef)) : TR P ops Q n ds w₀ LS ((⟨some d, op, ty, p, af, g⟩, 3) :: rest) L σ := ⟨fun w hs => by
  simp only [wpSeq, hw]
  exact ⟨hL w hs, k.out w hs⟩⟩
theorem TR_unit5 {L' : List Seg} (hw : wantS ops σ o = true) (h : ∀ w, St w₀ w L → ∃ w', (execOp (ev σ) o).run P w = .ok .skip w' ∧ St w₀ w' L') (hK : ∀ w, St w₀ w L' → St w₀ w LS.tail)
    (k : TR P ops Q n ds w₀ LS rest L' (updO σ o.dst undef)) : TR P ops Q n ds w₀ LS ((o, 5) :: rest) L σ := ⟨fun w hs => by
  obtain ⟨w', h1, h2⟩ := h w hs
  simp only [wpSeq, hw, if_true, h1, uponS]
  exact ⟨fun h => by simp at h, fun _ => hK w' h2, k.out w' h2⟩⟩
theorem TR_new2 (hw : wantS ops σ o = true) (h : ∀ w, St w₀ w L → ∃ v L' w', (execOp (ev σ) o).run P w = .ok (.value v) w' ∧ St w₀ w' L' ∧ (∀ w, St w₀ w L' → St w₀ w LS) ∧ TR P ops Q n ds w₀ LS rest L' (updO σ o.dst v)) :
    TR P ops Q n ds w₀ LS ((o, 2) :: rest) L σ := ⟨fun w hs => by
  obtain ⟨v, L', w', h1, h2, hK, k⟩ := h w hs
  simp only [wpSeq, hw, if_true, h1, uponS]
  exact ⟨fun _ => hK w' h2, fun h => by simp at h, k.out w' h2⟩⟩

/-- A call. -/
theorem TR_enter {f : FuncId} {args : List Value} {C R : List Seg} {Post : Value → List Seg → Prop} {k : Nat} (hk : k = 0 ∨ k = 2 ∧ ∀ v C' w, Post v C' → St w₀ w (C' ++ R) → St w₀ w LS)
    (hw : wantS ops σ o = true) (he : ∀ w, (execOp (ev σ) o).run P w = .ok (.enter f args.toArray) w) (hc : Ct P f args C Post) (hp : Pulls C L R)
    (kk : ∀ v C', Post v C' → TR P ops Q n ds w₀ LS rest (C' ++ R) (updO σ o.dst v)) : TR P ops Q n ds w₀ LS ((o, k) :: rest) L σ := ⟨fun w hs => by
  have hcalls := hc.out w R (sat_perm hs.sat hp.perm)
  have hmain : Calls P f args.toArray w fun e w' => ∃ v, e = .returned v ∧ (k = 2 → St w₀ w' LS) ∧ (k = 5 → St w₀ w' LS.tail) ∧ wpSeq P ops Q n ds w₀ LS rest (updO σ o.dst v) w' :=
    hcalls.mono fun e w' ⟨v, C', he', hpost, hsat, henv⟩ => by
      have hst : St w₀ w' (C' ++ R) := ⟨hsat, hs.env.trans henv⟩
      refine ⟨v, he', fun h2 => ?_, fun h5 => (by rcases hk with h | ⟨h, _⟩ <;> omega), (kk v C' hpost).out w' hst⟩
      rcases hk with h | ⟨_, h⟩
      · omega
      · exact h v C' w' hpost hst
  rcases hk with rfl | ⟨rfl, _⟩
  · simp only [wpSeq, hw, if_true, he w, uponS]; exact hmain
  · simp only [wpSeq, hw, if_true, he w, uponS]; simpa using hmain⟩
end
end Go.Proofs.Ytonfkkdahlboiaa
