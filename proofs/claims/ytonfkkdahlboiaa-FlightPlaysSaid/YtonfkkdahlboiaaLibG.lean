/- What the arguments of a row read as: cells of integers, bools and slices, whatever the structs. -/
import Derived.Test.YtonfkkdahlboiaaLibF
import Derived.Deep.Slices
import Derived.WideShapes
namespace Go.Proofs.Ytonfkkdahlboiaa
open Go.RowKit

inductive Sh where
  | int (k : IntKind)
  | bool
  | sl (e : List Sh)

mutual
inductive Rd (w : World) : Sh → Value → Prop
  | int {k : IntKind} {n : Int} (h : (Lit.int k n).wf = true) : Rd w (.int k) (.int k n)
  | bool {b : Bool} : Rd w .bool (.bool b)
  | nil {ss : List Sh} : Rd w (.sl ss) (.slice none 0 0)
  | empty {ss : List Sh} {a : Addr} {cap : Nat} : Rd w (.sl ss) (.slice (some a) 0 cap)
  | sl {ss : List Sh} {b off len cap T : Nat} {cs : List Value} {fz : Nat × Nat} (hb : w.heap[b]? = some (.cells cs.toArray T fz)) (hl : len ≤ cap) (hm : cap ≤ maxLen)
      (h : ∀ i, i < len → Rds w ss ((cs.drop (off + i * ss.length)).take ss.length)) : Rd w (.sl ss) (.slice (some ⟨b, off, none⟩) len cap)
inductive Rds (w : World) : List Sh → List Value → Prop
  | nil : Rds w [] []
  | cons {s : Sh} {ss : List Sh} {v : Value} {vs : List Value} (h : Rd w s v) (hs : Rds w ss vs) : Rds w (s :: ss) (v :: vs)
end

theorem Rds.append {w : World} : ∀ {s₁ : List Sh} {l₁ : List Value} {s₂ : List Sh} {l₂ : List Value}, Rds w s₁ l₁ → Rds w s₂ l₂ → Rds w (s₁ ++ s₂) (l₁ ++ l₂)
  | _, _, _, _, .nil, h => h
  | _, _, _, _, .cons h hs, h' => .cons h (Rds.append hs h')

theorem Rds.length {w : World} : ∀ {s : List Sh} {l : List Value}, Rds w s l → l.length = s.length
  | _, _, .nil => rfl
  | _, _, .cons _ hs => by simp [Rds.length hs]

def shFields (P : Program) (sh : TypeId → Option (List Sh)) : List Field → Nat → Option (List Sh × Nat)
  | [], off => some ([], off)
  | f :: fs, off =>
    if f.offset = off then
      match sh f.type with
      | none => none
      | some s => if P.cellsOf f.type = s.length then (shFields P sh fs (off + s.length)).map fun r => (s ++ r.1, r.2) else none
    else none

def shOf (P : Program) : Nat → TypeId → Option (List Sh)
  | 0, _ => none
  | n + 1, t =>
    match P.underlying t with
    | some .bool => some [.bool]
    | some (.int k) => some [.int k]
    | some (.slice e) => match shOf P n e with
      | none => none
      | some s => if P.cellsOf e = s.length ∧ s ≠ [] then some [.sl s] else none
    | some (.struct fs) => match shFields P (shOf P n) fs.toList 0 with
      | none => none
      | some (s, tot) => if P.cellsOf t = tot then some s else none
    | _ => none

section
variable {H : Type} {enc : TypeId × Value → H} {P : Program} {w : World} {base : Nat} {spare : Nat → Bool} {held : Bool}

theorem cells_take {a : Addr} {n : Nat} {l : List Value} (hn : 0 < n) (h : w.cells? base a n = some l) :
    ∃ (b off T : Nat) (cs : List Value) (fz : Nat × Nat), a = ⟨b, off, none⟩ ∧ w.heap[b]? = some (.cells cs.toArray T fz) ∧ (cs.drop off).take n = l := by
  obtain ⟨_, hlen, hat⟩ := World.cells?_some h
  have h0 := hat 0 hn
  obtain ⟨b, off, spot⟩ := a
  have hl0 : 0 < l.length := by omega
  rw [List.getElem?_eq_getElem hl0] at h0
  have hspot : spot = none := by
    cases spot with
    | none => rfl
    | some s => simp [Addr.add, World.cell?] at h0; split at h0 <;> simp_all
  subst hspot
  have hheap : ∃ c T fz, w.heap[b]? = some (.cells c T fz) := by
    simp only [Addr.add, if_true, World.cell?] at h0
    split at h0
    · rename_i c T fz hc; exact ⟨c, T, fz, hc⟩
    · cases h0
  obtain ⟨⟨c⟩, T, fz, hc⟩ := hheap
  refine ⟨b, off, T, c, fz, rfl, hc, ?_⟩
  apply List.ext_getElem?
  intro j
  by_cases hj : j < n
  · have h1 := hat j hj
    rw [addr_add] at h1
    simp only [World.cell?, hc, Option.isSome_none, Bool.false_eq_true, if_false] at h1
    rw [List.getElem?_take, if_pos hj, List.getElem?_drop]
    simpa using h1
  · rw [List.getElem?_take, if_neg hj, List.getElem?_eq_none (by omega)]

theorem read_fields {sh : TypeId → Option (List Sh)} (cs : List Value) (n : Nat)
    (ih : ∀ (t : TypeId) (l : List Value) (x : DataW H × List MemPlace) (s : List Sh), DataW.trod enc P w base spare held n t l = some x → sh t = some s → Rds w s l) :
    ∀ (fs : List Field) (off : Nat) (r : List Sh × Nat), (∀ f ∈ fs, ∃ x, DataW.trod enc P w base spare held n f.type ((cs.drop f.offset).take (P.cellsOf f.type)) = some x) →
      shFields P sh fs off = some r → cs.length = r.2 → off ≤ r.2 ∧ Rds w r.1 (cs.drop off)
  | [], off, r, _, hr, hl => by
    simp only [shFields, Option.some.injEq] at hr
    subst hr
    simp only at hl
    rw [List.drop_eq_nil_of_le (by omega)]
    exact ⟨Nat.le_refl _, .nil⟩
  | f :: fs, off, r, hall, hr, hl => by
    simp only [shFields] at hr
    split at hr
    · rename_i ho
      cases hs : sh f.type with
      | none => simp [hs] at hr
      | some s =>
        simp only [hs] at hr
        split at hr
        · rename_i hc
          cases hf : shFields P sh fs (off + s.length) with
          | none => simp [hf] at hr
          | some r' =>
            simp only [hf, Option.map_some, Option.some.injEq] at hr
            subst hr
            simp only at hl ⊢
            obtain ⟨x, hx⟩ := hall f (.head _)
            have h1 := ih f.type _ x s hx hs
            obtain ⟨hle, h2⟩ := read_fields cs n ih fs (off + s.length) r' (fun g hg => hall g (.tail _ hg)) hf hl
            refine ⟨by omega, ?_⟩
            have := h1.append h2
            rw [ho, hc] at this
            rw [← List.drop_drop, List.take_append_drop] at this
            exact this
        · cases hr
    · cases hr

theorem read_of_trod : ∀ (m : Nat) (fuel : Nat) (t : TypeId) (cs : List Value) (x : DataW H × List MemPlace) (s : List Sh),
    DataW.trod enc P w base spare held fuel t cs = some x → shOf P m t = some s → Rds w s cs
  | 0, _, _, _, _, _, _, hs => by simp [shOf] at hs
  | m + 1, fuel, t, cs, x, s, h, hs => by
    simp only [shOf] at hs
    cases hu : P.underlying t with
    | none => simp [hu] at hs
    | some d =>
      cases d <;> simp only [hu] at hs <;> try (cases hs; done)
      case bool =>
        obtain rfl : s = [.bool] := by simpa using hs.symm
        cases fuel with
        | zero => simp [DataW.trod] at h
        | succ fuel =>
        unfold DataW.trod at h
        rw [hu] at h
        split at h <;> simp_all
        exact .cons .bool .nil
      case int k =>
        obtain rfl : s = [.int k] := by simpa using hs.symm
        cases fuel with
        | zero => simp [DataW.trod] at h
        | succ fuel =>
        unfold DataW.trod at h
        rw [hu] at h
        split at h <;> simp_all
        obtain ⟨⟨rfl, hw⟩, _⟩ := h
        exact .cons (.int hw) .nil
      case slice e =>
        cases he : shOf P m e with
        | none => simp [he] at hs
        | some se =>
          simp only [he] at hs
          split at hs
          · rename_i hc
            obtain rfl : s = [.sl se] := by simpa using hs.symm
            have hpos : 0 < se.length := List.length_pos_iff.2 hc.2
            rcases Go.Deep.open_slice hu h with ⟨rfl, _⟩ | ⟨a, len, cap, m', n', D, Pl, rfl, _, hl, hm, hmm, _, hi⟩
            · exact .cons .nil .nil
            · by_cases h0 : len = 0
              · subst h0; exact .cons .empty .nil
              · have hm' : len ≤ m' := by rw [hmm]; split <;> omega
                obtain ⟨cs0, hc0, _⟩ := hi 0 (by omega)
                rw [hc.1] at hc0
                simp only [Nat.zero_mul, Addr.add_zero'] at hc0
                obtain ⟨b, off, T, c, fz, rfl, hb, _⟩ := cells_take hpos hc0
                refine .cons (.sl hb hl hm fun i hil => ?_) .nil
                obtain ⟨ci, hci, hti⟩ := hi i (by omega)
                rw [hc.1, addr_add] at hci
                obtain ⟨b', off', T', c', fz', ha, hb', htk⟩ := cells_take hpos hci
                simp only [Addr.mk.injEq] at ha
                obtain ⟨rfl, rfl, _⟩ := ha
                rw [hb] at hb'
                simp only [Option.some.injEq, Obj.cells.injEq] at hb'
                have e : c = c' := by simpa using hb'.1
                subst e
                rw [htk]
                exact read_of_trod m n' e ci (D i, Pl i) se hti he
          · cases hs
      case struct fs =>
        cases hf : shFields P (shOf P m) fs.toList 0 with
        | none => simp [hf] at hs
        | some r =>
          simp only [hf] at hs
          split at hs
          · rename_i hc
            obtain rfl : s = r.1 := by simpa using hs.symm
            obtain ⟨xs, n, hn, _, hcl, hxl, hall⟩ := DataW.trod_struct hu h
            have := (read_fields (sh := shOf P m) cs n (fun t l x s h' hs' => read_of_trod m n t l x s h' hs') fs.toList 0 r (fun f hfm => by
              obtain ⟨i, hi⟩ := List.getElem?_of_mem hfm
              have hi' : fs[i]? = some f := by simpa using hi
              have := hall i f hi'
              have hlt : i < xs.length := by rw [hxl]; exact lt_of_some hi'
              exact ⟨xs[i], by rw [this, List.getElem?_eq_getElem hlt]⟩) hf (by rw [hcl, hc])).2
            simpa using this
          · cases hs
end

theorem wf_of {k : IntKind} {n : Int} (h : (Lit.int k n).wf = true) : k.min ≤ n ∧ n ≤ k.max := by
  simpa [Lit.wf] using h
theorem wf64 {n : Int} (h : (Lit.int .i64 n).wf = true) : -9223372036854775808 ≤ n ∧ n ≤ 9223372036854775807 := wf_of h
theorem wfu8 {n : Int} (h : (Lit.int .u8 n).wf = true) : 0 ≤ n ∧ n ≤ 255 := wf_of h
theorem wfu16 {n : Int} (h : (Lit.int .u16 n).wf = true) : 0 ≤ n ∧ n ≤ 65535 := wf_of h
theorem wfu32 {n : Int} (h : (Lit.int .u32 n).wf = true) : 0 ≤ n ∧ n ≤ 4294967295 := wf_of h
theorem wfu64 {n : Int} (h : (Lit.int .u64 n).wf = true) : 0 ≤ n ∧ n ≤ 18446744073709551615 := wf_of h

theorem rd_int {w : World} {k : IntKind} {v : Value} (h : Rd w (.int k) v) : ∃ n, v = .int k n ∧ (Lit.int k n).wf = true := by
  cases h with | int h => exact ⟨_, rfl, h⟩
theorem rd_bool {w : World} {v : Value} (h : Rd w .bool v) : ∃ b, v = .bool b := by
  cases h with | bool => exact ⟨_, rfl⟩
theorem rds_cons {w : World} {s : Sh} {ss : List Sh} {l : List Value} (h : Rds w (s :: ss) l) : ∃ v vs, l = v :: vs ∧ Rd w s v ∧ Rds w ss vs := by
  cases h with | cons h hs => exact ⟨_, _, rfl, h, hs⟩
theorem rds_nil {w : World} {l : List Value} (h : Rds w [] l) : l = [] := by
  cases h with | nil => rfl

/-- A slice whose elements (n cells each) are xs, in the segment H. -/
structure SliceAt (H : Seg) (n : Nat) (a : Option Addr) (len : Nat) (xs : List (List Value)) : Prop where
  len : xs.length = len
  at_ : ∀ i x, xs[i]? = some x → ∃ (b off T : Nat) (cs : List Value) (fz : Nat × Nat), a = some ⟨b, off, none⟩ ∧ (b, Obj.cells cs.toArray T fz) ∈ H ∧ (cs.drop (off + i * n)).take n = x

theorem take_at {cs x : List Value} {o n j : Nat} (h : (cs.drop o).take n = x) (hj : j < n) : cs[o + j]? = x[j]? := by
  subst h
  rw [List.getElem?_take, if_pos hj, List.getElem?_drop]

/-- A slice argument, opened: its elements are cells that read as they should. -/
theorem slice_of_rd {w : World} {ss : List Sh} {v : Value} (h : Rd w (.sl ss) v) :
    ∃ a len cap xs, v = .slice a len cap ∧ len ≤ maxLen ∧ SliceAt (heapSeg w) ss.length a len xs ∧ ∀ x ∈ xs, Rds w ss x := by
  cases h with
  | nil => exact ⟨none, 0, 0, [], rfl, by unfold maxLen; omega, ⟨rfl, fun i x h => by simp at h⟩, fun x h => by cases h⟩
  | @empty _ a cap => exact ⟨some a, 0, cap, [], rfl, by unfold maxLen; omega, ⟨rfl, fun i x h => by simp at h⟩, fun x h => by cases h⟩
  | @sl _ b off len cap T cs fz hb hl hm h =>
    refine ⟨_, len, cap, (List.range len).map (fun i => (cs.drop (off + i * ss.length)).take ss.length), rfl, by omega, ⟨by simp, fun i x hx => ?_⟩, fun x hx => ?_⟩
    · have hi : i < len := by
        have := (List.getElem?_eq_some_iff.1 hx).1
        simpa using this
      rw [List.getElem?_map, List.getElem?_range hi] at hx
      simp only [Option.map_some, Option.some.injEq] at hx
      exact ⟨b, off, T, cs, fz, rfl, heapSeg_mem hb, hx⟩
    · obtain ⟨i, hi, rfl⟩ := List.mem_map.1 hx
      exact h i (by simpa using hi)

/-- Cells that read so are the cells of data. -/
theorem map_of_all {α : Type} {p : List Value → Prop} {c : α → List Value} {q : α → Prop} (hp : ∀ x, p x → ∃ a, x = c a ∧ q a) : ∀ (xs : List (List Value)), (∀ x ∈ xs, p x) → ∃ l : List α, xs = l.map c ∧ ∀ a ∈ l, q a
  | [], _ => ⟨[], rfl, fun _ h => by cases h⟩
  | x :: xs, h => by
    obtain ⟨a, rfl, ha⟩ := hp x (h x (.head _))
    obtain ⟨l, rfl, hl⟩ := map_of_all hp xs (fun y hy => h y (.tail _ hy))
    exact ⟨a :: l, rfl, fun b hb => by
      rcases List.mem_cons.1 hb with rfl | hb
      · exact ha
      · exact hl b hb⟩
end Go.Proofs.Ytonfkkdahlboiaa
