/- Struct literals, fields of struct values. -/
import Derived.Test.YtonfkkdahlboiaaLibE
namespace Go.Proofs.Ytonfkkdahlboiaa
open Go.RowKit

class TBuild (P : Program) (t : Nat) (zero : outParam (List Value)) (pl : outParam (List (Nat × Nat))) : Prop where
  z : (P.info? t).bind (fun i => i.zero.map (fun v => v.cells.toList)) = some zero
  h : (match P.underlying t with | some (.struct fs) => fs.toList.mapM (fun f => (P.info? f.type).map fun i => (f.offset, i.size)) | _ => none) = some pl

def setAll : List Value → Nat → List Value → List Value
  | cells, _, [] => cells
  | cells, off, c :: cs => setAll (cells.set off c) (off + 1) cs

def fillL (pl : List (Nat × Nat)) : List Value → List (Nat × Value) → Option (List Value)
  | cells, [] => some cells
  | cells, (i, v) :: rest =>
    match pl[i]? with
    | none => none
    | some (off, size) => if v.cells.size ≠ size || Nat.blt cells.length (off + v.cells.size) then none else fillL pl (setAll cells off v.cells.toList) rest

theorem foldl_setAll (off : Nat) : ∀ (l : List Value) (k : Nat) (cells : List Value),
    (l.zipIdx k).foldl (fun (cs : Array Value) (x : Value × Nat) => cs.setIfInBounds (off + x.2) x.1) cells.toArray = (setAll cells (off + k) l).toArray
  | [], _, _ => rfl
  | c :: l, k, cells => by
    simp only [List.zipIdx_cons, List.foldl_cons, setAll, List.setIfInBounds_toArray]
    rw [foldl_setAll off l (k + 1)]
    rfl

theorem fill_eq (pl : List (Nat × Nat)) : ∀ (parts : List (Nat × Value)) (cells : List Value), Instr.fill (fun i => pl[i]?) cells.toArray parts = (fillL pl cells parts).map List.toArray
  | [], _ => rfl
  | (i, v) :: rest, cells => by
    simp only [Instr.fill, fillL]
    cases pl[i]? with
    | none => rfl
    | some x =>
      obtain ⟨off, size⟩ := x
      simp only [List.size_toArray]
      have e : (Nat.blt cells.length (off + v.cells.size)) = decide (off + v.cells.size > cells.length) := by
        rw [Bool.eq_iff_iff]; simp [Nat.blt_eq]
      rw [e]
      split
      · rfl
      · have := foldl_setAll off v.cells.toList 0 cells
        rw [Nat.add_zero] at this
        rw [← fill_eq pl rest, ← this, ← Array.foldl_toList, Array.toList_zipIdx]

section
variable {P : Program}

theorem mapM_list_run {α β : Type} {g : α → Sem β} {h : α → Option β} (hg : ∀ a b, h a = some b → ∀ w, (g a).run P w = .ok b w) : ∀ (l : List α) (r : List β), l.mapM h = some r → ∀ w, (l.mapM g).run P w = .ok r w
  | [], r, e, w => by
    simp at e; subst e
    simp
  | a :: l, r, e, w => by
    simp only [List.mapM_cons, Option.pure_def, Option.bind_eq_bind] at e
    cases ha : h a with
    | none => simp [ha] at e
    | some b =>
      cases hl : l.mapM h with
      | none => simp [ha, hl] at e
      | some bs =>
        simp [ha, hl] at e
        subst e
        simp [List.mapM_cons, hg a b ha, mapM_list_run hg l bs hl]

theorem build_run (t : Nat) {zero : List Value} {pl : List (Nat × Nat)} [i : TBuild P t zero pl] (parts : List (Nat × Value)) {cells : List Value} (h : fillL pl zero parts = some cells) (w : World) :
    (Instr.build t parts.toArray).run P w = .ok (.agg cells.toArray) w := by
  have hz := i.z
  have hh := i.h
  cases hi : P.info? t with
  | none => simp [hi] at hz
  | some inf =>
    simp [hi] at hz
    obtain ⟨zv, h1, h2⟩ := hz
    have h2' : zv.cells = zero.toArray := by rw [← h2]
    cases hu : P.underlying t with
    | none => simp [hu] at hh
    | some dsc =>
      cases dsc <;> simp only [hu] at hh <;> try (cases hh)
      rename_i fields
      have hm : ∀ w, (fields.mapM fun f => (do pure (f.offset, ← sizeOf f.type) : Sem (Nat × Nat))).run P w = .ok pl.toArray w := by
        intro w
        rw [Array.mapM_eq_mapM_toList]
        have := mapM_list_run (P := P) (g := fun f => (do pure (f.offset, ← sizeOf f.type) : Sem (Nat × Nat))) (h := fun f : Field => (P.info? f.type).map fun i => (f.offset, i.size)) (fun a b hab w => by
          cases ha : P.info? a.type with
          | none => simp [ha] at hab
          | some ia =>
            simp [ha] at hab
            subst hab
            simp [sizeOf, typeInfo, ha]) fields.toList pl hh w
        rw [Sem.run_map, this]
        rfl
      simp only [Instr.build, Sem.run_bind, zeroValue, typeInfo, run_program, Result.andThen_ok, hi, Sem.run_pure, h1, run_underlying hu, hm, h2', List.getElem?_toArray, List.toList_toArray]
      rw [fill_eq, h]
      rfl

variable {σ : Sig} {d : Option Nat} {ty : Nat} {p : String} {af : Array Edge} {g : Option (Nat × Bool)} {x y : Operand} {t t' : Nat}

def evps (σ : Sig) : List (Nat × Operand) → List (Nat × Value)
  | [] => []
  | (i, x) :: l => (i, ev σ x) :: evps σ l
theorem evps_eq (σ : Sig) (l : List (Nat × Operand)) : l.map (fun x => (x.1, ev σ x.2)) = evps σ l := by induction l with | nil => rfl | cons x l ih => simp [evps, ih]

theorem PV_build {zero : List Value} {pl : List (Nat × Nat)} [TBuild P t zero pl] {l : List (Nat × Operand)} {vs : List (Nat × Value)} {cells : List Value} (hp : evps σ l = vs) (h : fillL pl zero vs = some cells) :
    PV P σ ⟨d, .build t l.toArray, ty, p, af, g⟩ (.agg cells.toArray) := ⟨fun w => by
  have : (l.toArray.map fun x => (x.1, ev σ x.2)) = vs.toArray := by rw [List.map_toArray, evps_eq, hp]
  simp only [execOp]
  rw [show (l.toArray.map fun (i, x) => (i, ev σ x)) = vs.toArray from this]
  simp [build_run t vs h]⟩

theorem PV_field {cs : List Value} {f off ft : Nat} {v : Value} [i : TField P t f off ft] [TScal P ft] (hx : ev σ x = .agg cs.toArray) (hv : cs[off]? = some v) : PV P σ ⟨d, .field t x f, ty, p, af, g⟩ v := ⟨fun w => by
  have h := i.h
  cases hu : P.underlying t with
  | none => simp [hu] at h
  | some dsc =>
    cases dsc <;> simp [hu] at h
    obtain ⟨fd, h1, h2, h3⟩ := h
    simp [execOp, hx, Instr.field, run_underlying hu, h1, asAgg, part, h3, isAgg_no, h2, hv]⟩
theorem PV_fieldA {cs : List Value} {f off ft s : Nat} [i : TField P t f off ft] [j : TAgg P ft s] (hx : ev σ x = .agg cs.toArray) (hl : Nat.ble (off + s) cs.length = true) :
    PV P σ ⟨d, .field t x f, ty, p, af, g⟩ (.agg ((cs.drop off).take s).toArray) := ⟨fun w => by
  have h := i.h
  cases hu : P.underlying t with
  | none => simp [hu] at h
  | some dsc =>
    cases dsc <;> simp [hu] at h
    obtain ⟨fd, h1, h2, h3⟩ := h
    simp [execOp, hx, Instr.field, run_underlying hu, h1, asAgg, part, h3, isAgg_yes, h2, sizeOf_run j.s]⟩
end

/-! ### Returns that leave segments behind; what a law owes -/
theorem sat_sub {w : World} {L K : List Seg} (h : sat w L) (hs : K.Sublist L) : sat w K := by
  have hf : K.flatten.Sublist L.flatten := by
    induction hs with
    | slnil => exact .slnil
    | cons a _ ih => simp only [List.flatten_cons]; exact (ih (sat_drop h)).trans (List.sublist_append_right _ _)
    | cons_cons a _ ih => simp only [List.flatten_cons]; exact List.Sublist.append (.refl _) (ih (sat_drop h))
  exact ⟨(hf.map _).nodup h.1, fun c hc => h.2 c (hf.subset hc)⟩

section
variable {P : Program} {n : Nat} {w₀ : World} {L R : List Seg} {σ : Sig} {fn : Func} {Post : Value → List Seg → Prop} {v : Value} {C' : List Seg}
theorem Owes_sub (hp : Post v C') (hL : (C' ++ R).Sublist L) {w : World} (hw : St w₀ w L) : Owes Post R w₀ (.returned v) w :=
  ⟨v, C', rfl, hp, sat_sub hw.sat hL, hw.env⟩
theorem TQ_ret0d (hr : fn.results = #[]) (hp : Post (.tuple #[]) C') (hL : (C' ++ R).Sublist L) : TQ n [] w₀ (bodyPost P fn (Owes Post R w₀)) .ret L σ :=
  ⟨fun _ hw => ⟨rfl, _, results_none hr _ _ _, Owes_sub hp hL hw⟩⟩
theorem TQ_end0d (hr : fn.results = #[]) (hp : Post (.tuple #[]) C') (hL : (C' ++ R).Sublist L) : TQ n [] w₀ (bodyPost P fn (Owes Post R w₀)) .normal L σ :=
  ⟨fun _ hw => ⟨rfl, _, results_none hr _ _ _, Owes_sub hp hL hw⟩⟩
theorem TQ_ret1d {t : Nat} (hr : fn.results = #[.tmp t]) (hn : Nat.blt t n = true) (hv : σ t = v) (hp : Post v C') (hL : (C' ++ R).Sublist L) : TQ n [] w₀ (bodyPost P fn (Owes Post R w₀)) .ret L σ :=
  ⟨fun w hw => ⟨rfl, v, by rw [results_tmp hr]; rw [fr_getD σ [] hn, hv], Owes_sub hp hL hw⟩⟩
theorem TQ_ret2d {t u : Nat} {v u' : Value} (hr : fn.results = #[.tmp t, .tmp u]) (hn : Nat.blt t n = true) (hn' : Nat.blt u n = true) (hv : σ t = v) (hu : σ u = u') (hp : Post (.tuple #[v, u']) C')
    (hL : (C' ++ R).Sublist L) : TQ n [] w₀ (bodyPost P fn (Owes Post R w₀)) .ret L σ :=
  ⟨fun w hw => ⟨rfl, _, by rw [results_tmp2 hr, fr_getD σ [] hn, fr_getD σ [] hn', hv, hu], Owes_sub hp hL hw⟩⟩
end

/-- The whole heap of a world, as one segment. -/
def heapSeg (w : World) : Seg := (List.range w.heap.size).map fun k => (k, w.heap.getD k default)

theorem heapSeg_mem {w : World} {b : Nat} {o : Obj} (h : w.heap[b]? = some o) : (b, o) ∈ heapSeg w := by
  have hb := lt_of_some h
  refine List.mem_map.2 ⟨b, List.mem_range.2 hb, ?_⟩
  simp [Array.getD_eq_getD_getElem?, h]

theorem heapSeg_sat (w : World) : sat w [heapSeg w] := by
  refine ⟨?_, fun c hc => ?_⟩
  · simp only [List.flatten_cons, List.flatten_nil, List.append_nil, heapSeg, List.map_map]
    have : (Prod.fst ∘ fun k => (k, w.heap.getD k default)) = id := by funext k; rfl
    rw [this, List.map_id]
    exact List.nodup_range
  · simp only [List.flatten_cons, List.flatten_nil, List.append_nil, heapSeg] at hc
    obtain ⟨k, hk, rfl⟩ := List.mem_map.1 hc
    have := List.mem_range.1 hk
    simp [Array.getD_eq_getD_getElem?, this]

/-- A law: whatever segment holds what the arguments lead to: from it to it, and the answer is true. -/
theorem law_calls {P : Program} {f : Nat} {args : List Value} {w : World} (h : Cd P f args [heapSeg w] (.bool true) [heapSeg w]) :
    Calls P f args.toArray w fun e w' => e = .returned (.bool true) ∧ Go.RowKit.Below w.heap.size w w' := by
  refine (h.out w [] (by simpa using heapSeg_sat w)).mono fun e w' ⟨v, C', he, ⟨hv, hC⟩, hs, hE⟩ => ?_
  subst hv; subst hC
  refine ⟨he, hE.os, hE.tape, hE.output, hE.size, fun k hk => ?_⟩
  have hk' : w.heap[k]? = some w.heap[k] := by simp [hk]
  have := sat_mem hs (C := heapSeg w) (by simp) (heapSeg_mem hk')
  rw [hk']
  exact this
/-- What a test says, as a row of rewritings. -/
theorem qs : (∀ (p : Prop) [Decidable p], (decide p = true) = p) ∧ (∀ (p : Prop) [Decidable p], (decide p = false) = ¬ p) ∧ (∀ a b : Int, (¬ a < b) = (b ≤ a)) ∧ (∀ a b : Int, (¬ a ≤ b) = (b < a)) ∧
    (∀ b : Bool, (¬ b = true) = (b = false)) ∧ (∀ b : Bool, (¬ b = false) = (b = true)) ∧ (∀ b : Bool, ((!b) = true) = (b = false)) ∧ (∀ b : Bool, ((!b) = false) = (b = true)) ∧
    ((¬ True) = False) ∧ ((¬ False) = True) ∧ (∀ (a b : Int), (a ≠ b) = ¬ (a = b)) ∧ (∀ (a b : Bool), (a ≠ b) = ¬ (a = b)) ∧ (∀ (p : Prop) [Decidable p], decide (¬ p) = !(decide p)) ∧
    (decide True = true) ∧ (decide False = false) ∧ ((false = true) = False) ∧ ((true = false) = False) ∧ (∀ x : Option Addr, (x.isNone = true) = (x = none)) ∧
    ((none : Option Addr).isNone = true) ∧ (∀ a : Addr, (some a).isNone = false) ∧ ((!true) = false) ∧ ((!false) = true) ∧
    (∀ a : Bool, (a == a) = true) ∧ (∀ b : Bool, (true == b) = b) ∧ (∀ b : Bool, (false == b) = !b) ∧ (∀ b : Bool, (b == true) = b) ∧ (∀ b : Bool, (b == false) = !b) := by
  refine ⟨?_, ?_, ?_, ?_, ?_, ?_, ?_, ?_, ?_, ?_, ?_, ?_, ?_, ?_, ?_, ?_, ?_, ?_, ?_, ?_, ?_, ?_, ?_, ?_, ?_, ?_, ?_⟩ <;> intros <;> first | rfl | simp
end Go.Proofs.Ytonfkkdahlboiaa
