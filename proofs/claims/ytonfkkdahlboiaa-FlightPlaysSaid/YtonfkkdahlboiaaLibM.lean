/- A region in which two effects may come up at once: a walk along each order of them. -/
import Derived.Test.YtonfkkdahlboiaaLibL
namespace Go.Proofs.Ytonfkkdahlboiaa
open Go.RowKit

/-- Orders of a region: a list; or a list, then either of two operations. -/
inductive Tr where
  | fin (π : List (Nat × Nat)) : Tr
  | alt (π : List (Nat × Nat)) (i k : Nat) (a : Tr) (j l : Nat) (b : Tr) : Tr
def Tr.depth : Tr → Nat
  | .fin π => π.length
  | .alt π _ _ a _ _ _ => a.depth + 1 + π.length
def Tr.all : Tr → List (Nat × Nat)
  | .fin π => π
  | .alt π i k a j l b => π ++ (i, k) :: (j, l) :: (a.all ++ b.all)
def QK (n : Nat) (ds : List Deferred) (K : Sig → World → Prop) : Exit → Act → World → Prop := fun e a w => e = .normal ∧ ∃ σ, a = fr n σ ds ∧ K σ w

section
variable {P : Program} {ops : Array Oper} {Q : Exit → Act → World → Prop} {md : Region.Mode} {ro : Option Nat} {n : Nat} {ds : List Deferred} {w₀ : World} {LS : List Seg}

def wpT (P : Program) (ops : Array Oper) (Q : Exit → Act → World → Prop) (n : Nat) (ds : List Deferred) (w₀ : World) (LS : List Seg) : Tr → Sig → World → Prop
  | .fin π, σ, w => wpSeq P ops Q n ds w₀ LS (schedL ops.toList π) σ w
  | .alt π i k a j l b, σ, w => wpSeq P ops (QK n ds fun σ w => wpSeq P ops (QK n ds (wpT P ops Q n ds w₀ LS a)) n ds w₀ LS (schedL ops.toList [(i, k)]) σ w ∧ wpSeq P ops (QK n ds (wpT P ops Q n ds w₀ LS b)) n ds w₀ LS (schedL ops.toList [(j, l)]) σ w) n ds w₀ LS
      (schedL ops.toList π) σ w

def runB (md : Region.Mode) (ops : Array Oper) (sl : Bool → List Nat) : List (Nat × Nat) → Array Bool → Option (Array Bool)
  | [], listed => some listed
  | (i, k) :: rest, listed => match kindOf k with
    | some b => if ((Region.ready md ops listed).contains i && Region.free md ops listed i && (sl b).all (fun j => reach md ops ops.size j i || listed.getD j false)) = true then runB md ops sl rest (listed.setIfInBounds i true) else none
    | none => if Region.ready md ops listed = [i] then runB md ops sl rest (listed.setIfInBounds i true) else none
def treeB (md : Region.Mode) (ops : Array Oper) (sl : Bool → List Nat) : Tr → Array Bool → Bool
  | .fin π, listed => schedB md ops sl (π.map fun x => (x.1, kindOf x.2)) listed
  | .alt π i k a j l b, listed => match runB md ops sl π listed with
    | none => false
    | some Ls => decide (Region.ready md ops Ls = [i, j]) && ((kindOf k).isNone && (kindOf l).isNone && (a.depth == b.depth)) && treeB md ops sl a (Ls.setIfInBounds i true) && treeB md ops sl b (Ls.setIfInBounds j true)

/-- An effect. -/
theorem seq_eff (hok : opsOk n ops = true) (sl : Bool → List Nat) {i k : Nat} {o : Oper} (h0 : ops[i]? = some o) (hk : k = 0 ∨ k = 2 ∨ k = 5) (hs : (k = 0 → (sl true).contains i = true ∧ (sl false).contains i = true) ∧ (k = 5 → (sl true).contains i = true))
    {σ : Sig} {w : World} {Next : Sig → World → Prop}
    (h : if wantS ops σ o then uponS P (fun v w' => (k = 2 → St w₀ w' LS) ∧ (k = 5 → St w₀ w' LS.tail) ∧ Next (updO σ o.dst v) w') ((execOp (ev σ) o).run P w)
      else (k = 2 → St w₀ w LS) ∧ (k = 5 → St w₀ w LS.tail) ∧ Next (updO σ o.dst undef) w) :
    wpOpIn (wide ro) 0 P ops Q i (fun a' w' => (∀ b, (sl b).contains i = false → keptOf w₀ LS b w → keptOf w₀ LS b w') ∧ ∃ σ', a' = fr n σ' ds ∧ Next σ' w') (fr n σ ds) w := by
  have hoko := opsOk_spec hok h0
  have hex := opOk_exec hoko σ ds
  have hwt := opOk_wanted hok o σ ds
  have keep : ∀ w', (k = 2 → St w₀ w' LS) → (k = 5 → St w₀ w' LS.tail) → ∀ b, (sl b).contains i = false → keptOf w₀ LS b w → keptOf w₀ LS b w' := by
    intro w' k2 k5 b hf _
    rcases hk with h2 | h2 | h2
    · have := hs.1 h2
      cases b
      · rw [this.2] at hf; cases hf
      · rw [this.1] at hf; cases hf
    · cases b
      · exact (k2 h2).tail
      · exact k2 h2
    · cases b
      · exact k5 h2
      · have := hs.2 h2; rw [this] at hf; cases hf
  unfold wpOpIn
  simp only [h0, hwt]
  split
  · rename_i hw
    simp only [hw, if_true] at h
    refine ⟨wide_about o, ?_⟩
    rw [Oper.semAt_eq _ _ _ (opOk_defer hoko), hex]
    exact uponIn_of_uponS (fun v w' hn => ⟨keep w' hn.1 hn.2.1, _, rfl, hn.2.2⟩) h
  · rename_i hw
    simp only [hw] at h
    refine ⟨wide_about o, keep w h.1 h.2.1, ?_⟩
    rw [fr_put]
    exact ⟨_, rfl, h.2.2⟩
theorem wpSeq_eff {o : Oper} {k : Nat} {rest : List (Oper × Nat)} {σ : Sig} {w : World} (hk : k = 0 ∨ k = 2 ∨ k = 5) (h : wpSeq P ops Q n ds w₀ LS ((o, k) :: rest) σ w) :
    if wantS ops σ o then uponS P (fun v w' => (k = 2 → St w₀ w' LS) ∧ (k = 5 → St w₀ w' LS.tail) ∧ wpSeq P ops Q n ds w₀ LS rest (updO σ o.dst v) w') ((execOp (ev σ) o).run P w)
      else (k = 2 → St w₀ w LS) ∧ (k = 5 → St w₀ w LS.tail) ∧ wpSeq P ops Q n ds w₀ LS rest (updO σ o.dst undef) w := by
  rcases hk with h2 | h2 | h2 <;> subst h2 <;> simpa [wpSeq] using h

/-- What must hold of all operations of the tree. -/
structure AllOk (ops : Array Oper) (sl : Bool → List Nat) (Ω : List (Nat × Nat)) : Prop where
  lt : ∀ x ∈ Ω, x.1 < ops.size
  k : ∀ x ∈ Ω, x.2 < 6 ∧ x.2 ≠ 4
  s : ∀ x ∈ Ω, (x.2 = 0 → (sl true).contains x.1 = true ∧ (sl false).contains x.1 = true) ∧ (x.2 = 5 → (sl true).contains x.1 = true)

theorem seq_run (hok : opsOk n ops = true) (hs : Region.noSelect ops = true) (hd : noDefer ops = true) (hQ : ∀ c a w, ¬ Q (.panic c) a w) (sl : Bool → List Nat) {Ω : List (Nat × Nat)} (hΩ : AllOk ops sl Ω) (f : Nat) (K : Sig → World → Prop) (Ls : Array Bool)
    (hK : ∀ σ w, K σ w → Closed md ops Ls → wpAnyG ro P md ops Q (keptOf w₀ LS) (fun b j => (sl b).contains j) f Ls (fr n σ ds) w) :
    ∀ (π : List (Nat × Nat)) (listed : Array Bool) (σ : Sig) (w : World), (∀ x ∈ π, x ∈ Ω) → runB md ops sl π listed = some Ls → Closed md ops listed →
      wpSeq P ops (QK n ds K) n ds w₀ LS (schedL ops.toList π) σ w → wpAnyG ro P md ops Q (keptOf w₀ LS) (fun b j => (sl b).contains j) (f + π.length) listed (fr n σ ds) w
  | [], listed, σ, w, _, hr, hcl, h => by
    simp only [runB, Option.some.injEq] at hr
    subst hr
    obtain ⟨_, σ', e, hk⟩ := h
    rw [e]
    exact hK σ' w hk hcl
  | (i, k) :: π, listed, σ, w, hm, hr, hcl, h => by
    have hmem := hm (i, k) (.head _)
    have hm' : ∀ x ∈ π, x ∈ Ω := fun x hx => hm x (.tail _ hx)
    have hlt : i < ops.size := hΩ.lt _ hmem
    have h0 : ops[i]? = some (ops.toList.getD i default) := by simp [hlt]
    simp only [schedL] at h
    generalize ops.toList.getD i default = o at h0 h
    have hoko := opsOk_spec hok h0
    have hex := opOk_exec hoko σ ds
    have hwt := opOk_wanted hok o σ ds
    have hk := hΩ.k _ hmem
    have first : ∀ b : Bool, kindOf k = some b → keptOf w₀ LS b w → (∃ v, YieldsIf P ops (keptOf w₀ LS b) o v (fr n σ ds) ∧ wpSeq P ops (QK n ds K) n ds w₀ LS (schedL ops.toList π) (updO σ o.dst v) w) →
        wpAnyG ro P md ops Q (keptOf w₀ LS) (fun b j => (sl b).contains j) (f + ((i, k) :: π).length) listed (fr n σ ds) w := by
      rintro b hkb hS ⟨v, hy, hn⟩
      simp only [runB, hkb] at hr
      split at hr
      · rename_i hc
        simp only [Bool.and_eq_true] at hc
        obtain ⟨⟨hrd, hf⟩, hsl⟩ := hc
        have hr' : i ∈ Region.ready md ops listed := by simpa using hrd
        have ih := seq_run hok hs hd hQ sl hΩ f K Ls hK π (listed.setIfInBounds i true) (updO σ o.dst v) w hm' hr (hcl.set hr') hn
        refine wpAnyG_first (b := b) (f := ops.size) h0 (Region.noSelect_spec hs) (noDefer_spec hd) hQ (f + π.length) listed (fr n σ ds) w hcl (fun j hj => ?_) (Region.free_spec h0 hf) hr' hy hS ?_
        · have := List.all_eq_true.1 hsl j (by simpa using hj)
          simpa using this
        · rw [fr_put]; exact ih
      · cases hr
    by_cases h1 : k = 1
    · subst h1
      simp only [wpSeq] at h
      obtain ⟨hS, h⟩ := h
      refine first true rfl hS ?_
      by_cases hw : wantS ops σ o = true
      · simp only [hw, if_true] at h
        obtain ⟨v, hv, hn⟩ := h
        exact ⟨v, .inl ⟨by rw [hwt]; exact hw, fun w' hw' => by rw [hex]; exact hv w' hw'⟩, hn⟩
      · simp only [hw] at h
        exact ⟨undef, .inr ⟨by rw [hwt]; simpa using hw, rfl⟩, h⟩
    · by_cases h3 : k = 3
      · subst h3
        simp only [wpSeq] at h
        obtain ⟨hS, h⟩ := h
        refine first false rfl hS ?_
        by_cases hw : wantS ops σ o = true
        · simp only [hw, if_true] at h
          obtain ⟨v, hv, hn⟩ := h
          exact ⟨v, .inl ⟨by rw [hwt]; exact hw, fun w' hw' => by rw [hex]; exact hv w' hw'⟩, hn⟩
        · simp only [hw] at h
          exact ⟨undef, .inr ⟨by rw [hwt]; simpa using hw, rfl⟩, h⟩
      · have hb : kindOf k = none := by simp [kindOf, h1, h3]
        have hk' : k = 0 ∨ k = 2 ∨ k = 5 := by simp only at hk; omega
        simp only [runB, hb] at hr
        split at hr
        · rename_i hrd
          have hr' : i ∈ Region.ready md ops listed := by rw [hrd]; simp
          refine ⟨fun h0 => (by rw [hrd] at h0; cases h0), fun j hj => ?_⟩
          obtain rfl : j = i := by rw [hrd] at hj; simpa using hj
          refine wpOpIn_mono (fun a' w' h' => ⟨h'.1, ?_⟩) (seq_eff hok sl h0 hk' (hΩ.s _ hmem) (wpSeq_eff hk' h))
          obtain ⟨σ', rfl, hn⟩ := h'.2
          exact seq_run hok hs hd hQ sl hΩ f K Ls hK π (listed.setIfInBounds j true) σ' w' hm' hr (hcl.set hr') hn
        · cases hr

theorem wpAnyG_of_T (hok : opsOk n ops = true) (hs : Region.noSelect ops = true) (hd : noDefer ops = true) (hQ : ∀ c a w, ¬ Q (.panic c) a w) (sl : Bool → List Nat) {Ω : List (Nat × Nat)} (hΩ : AllOk ops sl Ω) :
    ∀ (t : Tr) (listed : Array Bool) (σ : Sig) (w : World), (∀ x ∈ t.all, x ∈ Ω) → treeB md ops sl t listed = true → Closed md ops listed → wpT P ops Q n ds w₀ LS t σ w →
      wpAnyG ro P md ops Q (keptOf w₀ LS) (fun b j => (sl b).contains j) t.depth listed (fr n σ ds) w
  | .fin π, listed, σ, w, hm, hB, hcl, h => by
    have := wpAnyG_of_sched (ro := ro) (P := P) (SS := keptOf w₀ LS) sl hs hd hQ _ listed (fr n σ ds) w hcl hB
      (wpSched_of_seq hok sl π σ w (fun x hx => hΩ.lt x (hm x hx)) (fun x hx => hΩ.k x (hm x hx)) (fun x hx => hΩ.s x (hm x hx)) h)
    rw [List.length_map] at this
    exact this
  | .alt π i k a j l b, listed, σ, w, hm, hB, hcl, h => by
    simp only [treeB] at hB
    cases hr : runB md ops sl π listed with
    | none => rw [hr] at hB; cases hB
    | some Ls =>
      rw [hr] at hB
      simp only [Bool.and_eq_true, decide_eq_true_eq, beq_iff_eq, Option.isNone_iff_eq_none] at hB
      obtain ⟨⟨⟨hrd, ⟨hki, hkj⟩, hdp⟩, hBa⟩, hBb⟩ := hB
      have hma : ∀ x ∈ a.all, x ∈ Ω := fun x hx => hm x (by simp [Tr.all, hx])
      have hmb : ∀ x ∈ b.all, x ∈ Ω := fun x hx => hm x (by simp [Tr.all, hx])
      have hmi : (i, k) ∈ Ω := hm _ (by simp [Tr.all])
      have hmj : (j, l) ∈ Ω := hm _ (by simp [Tr.all])
      have kk : ∀ {k : Nat}, kindOf k = none → k < 6 ∧ k ≠ 4 → k = 0 ∨ k = 2 ∨ k = 5 := fun {k} h1 h2 => by
        have e1 : k ≠ 1 := fun h => by subst h; cases h1
        have e3 : k ≠ 3 := fun h => by subst h; cases h1
        omega
      have one : ∀ {i k : Nat} {c : Tr} {σ : Sig} {w : World}, (i, k) ∈ Ω → kindOf k = none → i ∈ Region.ready md ops Ls → Closed md ops Ls → (∀ σ' w', wpT P ops Q n ds w₀ LS c σ' w' → wpAnyG ro P md ops Q (keptOf w₀ LS) (fun b j => (sl b).contains j) a.depth (Ls.setIfInBounds i true) (fr n σ' ds) w') →
          wpSeq P ops (QK n ds (wpT P ops Q n ds w₀ LS c)) n ds w₀ LS (schedL ops.toList [(i, k)]) σ w →
          wpOpIn (wide ro) 0 P ops Q i (fun a' w' => (∀ b, (sl b).contains i = false → keptOf w₀ LS b w → keptOf w₀ LS b w') ∧ wpAnyG ro P md ops Q (keptOf w₀ LS) (fun b j => (sl b).contains j) a.depth (Ls.setIfInBounds i true) a' w') (fr n σ ds) w := by
        intro i k c σ w hmi hki hri hcl' next h
        have hlt : i < ops.size := hΩ.lt _ hmi
        have h0 : ops[i]? = some (ops.toList.getD i default) := by simp [hlt]
        have hk' := kk hki (hΩ.k _ hmi)
        simp only [schedL] at h
        refine wpOpIn_mono (fun a' w' h' => ⟨h'.1, ?_⟩) (seq_eff hok sl h0 hk' (hΩ.s _ hmi) (wpSeq_eff hk' h))
        obtain ⟨σ', rfl, _, σ'', e, hn⟩ := h'.2
        rw [e]
        exact next σ'' w' hn
      refine seq_run hok hs hd hQ sl hΩ (a.depth + 1) _ Ls (fun σ' w' hc hcl' => ?_) π listed σ w (fun x hx => hm x (by simp [Tr.all, hx])) hr hcl h
      refine ⟨fun h0 => (by rw [hrd] at h0; cases h0), fun x hx => ?_⟩
      rw [hrd] at hx
      rcases List.mem_cons.1 hx with rfl | hx
      · have hri : x ∈ Region.ready md ops Ls := by rw [hrd]; simp
        exact one hmi hki hri hcl' (fun σ' w' hn => wpAnyG_of_T hok hs hd hQ sl hΩ a _ σ' w' hma hBa (hcl'.set hri) hn) hc.1
      · obtain rfl := List.mem_singleton.1 hx
        have hri : x ∈ Region.ready md ops Ls := by rw [hrd]; simp
        exact one hmj hkj hri hcl' (fun σ' w' hn => by rw [hdp]; exact wpAnyG_of_T hok hs hd hQ sl hΩ b _ σ' w' hmb hBb (hcl'.set hri) hn) hc.2

def forkB (n : Nat) (ops : Array Oper) (t : Tr) : Bool :=
  opsOk n ops && (Region.noSelect ops && noDefer ops && (t.depth == ops.size) && treeB .any ops (sealedOf t.all) t (Array.replicate ops.size false)) &&
    t.all.all (fun x => Nat.blt x.1 ops.size) && t.all.all (fun x => Nat.blt x.2 6 && !(Nat.beq x.2 4))

theorem wp_forked {id : Nat} {σ : Sig} {w : World} (t : Tr) (hm : P.follows .mixedOrders = true) (hB : forkB n ops t = true)
    (h : wpT P ops (NoPanic Q) n ds w₀ LS t σ { w with drawn := w.drawn + 1 }) : (Code.region id ops true).wpIn (wide ro) 0 P Q (fr n σ ds) w := by
  simp only [forkB, Bool.and_eq_true, beq_iff_eq] at hB
  obtain ⟨⟨⟨hok, ⟨⟨hs, hd⟩, hdp⟩, hT⟩, hlt⟩, hk⟩ := hB
  have hΩ : AllOk ops (sealedOf t.all) t.all := by
    refine ⟨fun x hx => ?_, fun x hx => ?_, fun x hx => ⟨fun h0 => ?_, fun h0 => ?_⟩⟩
    · have := List.all_eq_true.1 hlt x hx
      simpa [Nat.blt_eq] using this
    · have := List.all_eq_true.1 hk x hx
      simp only [Bool.and_eq_true, Nat.blt_eq, Bool.not_eq_true'] at this
      exact ⟨this.1, fun h => by rw [h] at this; exact absurd this.2 (by decide)⟩
    · constructor <;> simp only [sealedOf, List.contains_eq_mem, decide_eq_true_eq, List.mem_map, List.mem_filter, beq_iff_eq, Bool.or_eq_true]
      · exact ⟨x, ⟨hx, .inl h0⟩, rfl⟩
      · exact ⟨x, ⟨hx, h0⟩, rfl⟩
    · simp only [sealedOf, List.contains_eq_mem, decide_eq_true_eq, List.mem_map, List.mem_filter, beq_iff_eq, Bool.or_eq_true]
      exact ⟨x, ⟨hx, .inr h0⟩, rfl⟩
  refine wpIn_mono (wpIn_region_any hm (Q := NoPanic Q) ?_) NoPanic.imp
  have := wpAnyIn_of_G _ _ _ _ (wpAnyG_of_T (ro := ro) (P := P) (w₀ := w₀) (LS := LS) (ds := ds) (Q := NoPanic Q) hok hs hd (fun _ _ _ h => h) (sealedOf t.all) hΩ t (Array.replicate ops.size false) σ { w with drawn := w.drawn + 1 } (fun x hx => hx) hT (closed_none _) h)
  rw [hdp] at this
  exact this
end

/-! ### The same, of what is held -/
structure TT (P : Program) (ops : Array Oper) (Q : Exit → Act → World → Prop) (n : Nat) (ds : List Deferred) (w₀ : World) (LS : List Seg) (t : Tr) (L : List Seg) (σ : Sig) : Prop where
  out : ∀ w, St w₀ w L → wpT P ops Q n ds w₀ LS t σ w

section
variable {P : Program} {ops : Array Oper} {Q : Exit → Act → World → Prop} {ro : Option Nat} {n : Nat} {ds : List Deferred} {w₀ : World} {LS L : List Seg} {σ : Sig}
theorem TC_forked {id : Nat} {ops : Array Oper} (LS : List Seg) (t : Tr) (hm : P.follows .mixedOrders = true) (hB : forkB n ops t = true)
    (h : TT P ops (NoPanic Q) n ds w₀ LS t L σ) : TC P ro n ds w₀ (.region id ops true) Q L σ :=
  ⟨fun w hw => wp_forked t hm hB (h.out _ hw.drew)⟩
theorem TT_fin {π : List (Nat × Nat)} (h : TR P ops Q n ds w₀ LS (schedL ops.toList π) L σ) : TT P ops Q n ds w₀ LS (.fin π) L σ := ⟨h.out⟩
/-- Both ways. -/
structure TB (P : Program) (ops : Array Oper) (Q : Exit → Act → World → Prop) (n : Nat) (ds : List Deferred) (w₀ : World) (LS : List Seg) (i k : Nat) (a : Tr) (j l : Nat) (b : Tr) (σ : Sig) (w : World) : Prop where
  one : wpSeq P ops (QK n ds (wpT P ops Q n ds w₀ LS a)) n ds w₀ LS (schedL ops.toList [(i, k)]) σ w
  two : wpSeq P ops (QK n ds (wpT P ops Q n ds w₀ LS b)) n ds w₀ LS (schedL ops.toList [(j, l)]) σ w
theorem TT_alt {π : List (Nat × Nat)} {i k j l : Nat} {a b : Tr} (h : TR P ops (QK n ds (TB P ops Q n ds w₀ LS i k a j l b)) n ds w₀ LS (schedL ops.toList π) L σ) : TT P ops Q n ds w₀ LS (.alt π i k a j l b) L σ :=
  ⟨fun w hw => by
    have e : (TB P ops Q n ds w₀ LS i k a j l b) = (fun σ w => wpSeq P ops (QK n ds (wpT P ops Q n ds w₀ LS a)) n ds w₀ LS (schedL ops.toList [(i, k)]) σ w ∧ wpSeq P ops (QK n ds (wpT P ops Q n ds w₀ LS b)) n ds w₀ LS (schedL ops.toList [(j, l)]) σ w) := by
      funext σ w; exact propext ⟨fun h => ⟨h.1, h.2⟩, fun h => ⟨h.1, h.2⟩⟩
    have := h.out w hw
    rw [e] at this
    exact this⟩
theorem TQ_alt {i k j l : Nat} {a b : Tr} (h1 : TR P ops (QK n ds (wpT P ops Q n ds w₀ LS a)) n ds w₀ LS (schedL ops.toList [(i, k)]) L σ) (h2 : TR P ops (QK n ds (wpT P ops Q n ds w₀ LS b)) n ds w₀ LS (schedL ops.toList [(j, l)]) L σ) :
    TQ n ds w₀ (QK n ds (TB P ops Q n ds w₀ LS i k a j l b)) .normal L σ := ⟨fun w hw => ⟨rfl, σ, rfl, h1.out w hw, h2.out w hw⟩⟩
theorem TQ_tree {t : Tr} (h : TT P ops Q n ds w₀ LS t L σ) : TQ n ds w₀ (QK n ds (wpT P ops Q n ds w₀ LS t)) .normal L σ := ⟨fun w hw => ⟨rfl, σ, rfl, h.out w hw⟩⟩
end
end Go.Proofs.Ytonfkkdahlboiaa
