/- Loops whose state is a tuple: the measure of the round's own state is a number m. -/
import Derived.Test.YtonfkkdahlboiaaLibG
namespace Go.Proofs.Ytonfkkdahlboiaa
open Go.RowKit
section
variable {P : Program} {ro : Option Nat} {n : Nat} {ds : List Deferred} {w₀ : World} {Q : Exit → Act → World → Prop} {L : List Seg} {σ : Sig}

theorem TC_loopP {X : Type} {body : Code} (Lx : X → List Seg) (sx : X → List (Nat × Value)) (Pre : X → Prop) (μ : X → Nat) (x₀ : X) (hP : Pre x₀) (hσ : Holds σ (sx x₀))
    (hL : ∀ w, St w₀ w L → St w₀ w (Lx x₀))
    (round : ∀ x σg m, m = μ x → Pre x → TC P ro n ds w₀ body (Exit.then (fun a w => ∃ x' σ', Pre x' ∧ μ x' < m ∧ a = fr n (slots (sx x') σ') ds ∧ St w₀ w (Lx x')) Q) (Lx x) (slots (sx x) σg)) :
    TC P ro n ds w₀ (.loop body) Q L σ :=
  TC_loop Lx sx Pre μ x₀ hP hσ hL fun x σg hx => round x σg _ rfl hx

theorem TQ_roundP {X : Type} {Lx : X → List Seg} {sx : X → List (Nat × Value)} {Pre : X → Prop} {μ : X → Nat} {m : Nat} (x' : X) (hP : Pre x') (hμ : μ x' < m) (hσ : Holds σ (sx x'))
    (hL : ∀ w, St w₀ w L → St w₀ w (Lx x')) :
    TQ n ds w₀ (Exit.then (fun a w => ∃ x' σ', Pre x' ∧ μ x' < m ∧ a = fr n (slots (sx x') σ') ds ∧ St w₀ w (Lx x')) Q) .normal L σ :=
  ⟨fun w hw => ⟨x', σ, hP, hμ, by rw [← slots_self hσ], hL w hw⟩⟩
end
/-- A call that leaves the segments as they are, among operations that may come ahead of it. -/
theorem TR_calldk {P : Program} {ops : Array Oper} {Q : Exit → Act → World → Prop} {n : Nat} {ds : List Deferred} {w₀ : World} {LS : List Seg} {σ : Sig} {rest : List (Oper × Nat)}
    {d ty : Nat} {p : String} {af : Array Edge} {g : Option (Nat × Bool)}
    {f : Nat} [TFn P f] {fo : Operand} {l : List Operand} {tys : Array Nat} {fs cs avs : List Value} {C R : List Seg} {X : Value} (hc : Cd P f avs C X C)
    (hf : ev σ fo = .func (.func f) fs.toArray cs.toArray) (ha : fs ++ evs σ l ++ cs = avs) (hp : Pulls C LS R)
    (hw : wantS ops σ ⟨some d, .call ⟨.value fo, l.toArray, tys⟩, ty, p, af, g⟩ = true)
    (k : TR P ops Q n ds w₀ LS rest LS (upd σ d X)) : TR P ops Q n ds w₀ LS ((⟨some d, .call ⟨.value fo, l.toArray, tys⟩, ty, p, af, g⟩, 2) :: rest) LS σ :=
  TR_call2 hc hf ha hp hw (fun v D w ⟨_, hD⟩ hs => by subst hD; exact hs.perm hp.perm.symm) fun v D ⟨hv, hD⟩ => by
    subst hv; subst hD
    exact ⟨fun w hs => k.out w (hs.perm hp.perm.symm)⟩
end Go.Proofs.Ytonfkkdahlboiaa
