/- The heap as a list of segments (lists of blocks), what is laid, stored and loaded there; no program in sight. -/
import Derived.OrdersIn
import Derived.Below
namespace Go.Proofs.Ytonfkkdahlboiaa

abbrev Chunk := Nat × Obj
abbrev Seg := List Chunk

/-- The blocks of all segments are in the heap, each once. -/
def sat (w : World) (L : List Seg) : Prop := (L.flatten.map Prod.fst).Nodup ∧ ∀ c ∈ L.flatten, w.heap[c.1]? = some c.2

/-- What a call may not touch of the world. -/
structure Env (w w' : World) : Prop where
  os : w'.os = w.os
  tape : w'.tape = w.tape
  output : w'.output = w.output
  size : w.heap.size ≤ w'.heap.size

theorem Env.refl (w : World) : Env w w := ⟨rfl, rfl, rfl, Nat.le_refl _⟩
theorem Env.trans {a b c : World} (h : Env a b) (k : Env b c) : Env a c :=
  ⟨k.os.trans h.os, k.tape.trans h.tape, k.output.trans h.output, Nat.le_trans h.size k.size⟩

structure St (w₀ w : World) (L : List Seg) : Prop where
  sat : sat w L
  env : Env w₀ w

theorem sat_perm {w : World} {L L' : List Seg} (h : sat w L) (p : L.Perm L') : sat w L' := by
  have q : L.flatten.Perm L'.flatten := p.flatten
  exact ⟨((q.map Prod.fst).nodup_iff).1 h.1, fun c hc => h.2 c (q.mem_iff.2 hc)⟩

theorem St.perm {w₀ w : World} {L L' : List Seg} (h : St w₀ w L) (p : L.Perm L') : St w₀ w L' := ⟨sat_perm h.sat p, h.env⟩

theorem sat_heap {w w' : World} {L : List Seg} (h : sat w L) (e : w'.heap = w.heap) : sat w' L := ⟨h.1, fun c hc => by rw [e]; exact h.2 c hc⟩

theorem sat_drop {w : World} {C : Seg} {L : List Seg} (h : sat w (C :: L)) : sat w L := by
  refine ⟨?_, fun c hc => h.2 c (by simp only [List.flatten_cons, List.mem_append]; exact .inr hc)⟩
  have := h.1
  rw [List.flatten_cons, List.map_append] at this
  exact (List.nodup_append.1 this).2.1

theorem sat_mem {w : World} {L : List Seg} {C : Seg} {c : Chunk} (h : sat w L) (hC : C ∈ L) (hc : c ∈ C) : w.heap[c.1]? = some c.2 :=
  h.2 c (List.mem_flatten.2 ⟨C, hC, hc⟩)

theorem sat_one {w : World} {L : List Seg} {b : Nat} {o : Obj} (h : sat w L) (hC : [(b, o)] ∈ L) : w.heap[b]? = some o :=
  sat_mem h hC (List.mem_singleton.2 rfl)

theorem sat_join {w : World} {C D : Seg} {L : List Seg} : sat w (C :: D :: L) ↔ sat w ((C ++ D) :: L) := by
  simp only [sat, List.flatten_cons, List.append_assoc]

theorem sat_nil {w : World} {L : List Seg} : sat w ([] :: L) ↔ sat w L := by
  simp only [sat, List.flatten_cons, List.nil_append]

theorem lt_of_some {α : Type} {a : Array α} {i : Nat} {x : α} (h : a[i]? = some x) : i < a.size := (Array.getElem?_eq_some_iff.1 h).1

theorem sat_lt {w : World} {L : List Seg} {C : Seg} {c : Chunk} (h : sat w L) (hC : C ∈ L) (hc : c ∈ C) : c.1 < w.heap.size :=
  lt_of_some (sat_mem h hC hc)

/-- A new block. -/
theorem sat_push {w w' : World} {L : List Seg} {o : Obj} (h : sat w L) (e : w'.heap = w.heap.push o) : sat w' ([(w.heap.size, o)] :: L) := by
  refine ⟨?_, fun c hc => ?_⟩
  · simp only [List.flatten_cons, List.singleton_append, List.map_cons, List.nodup_cons]
    refine ⟨fun hm => ?_, h.1⟩
    obtain ⟨c, hc, he⟩ := List.mem_map.1 hm
    have := lt_of_some (h.2 c hc)
    omega
  · simp only [List.flatten_cons, List.singleton_append, List.mem_cons] at hc
    rw [e, Array.getElem?_push]
    rcases hc with rfl | hc
    · simp
    · have := lt_of_some (h.2 c hc)
      rw [if_neg (by omega)]; exact h.2 c hc

/-- One block is another object now. -/
theorem sat_modify {w w' : World} {L : List Seg} {b : Nat} {o o' : Obj} (h : sat w ([(b, o)] :: L)) (e₁ : w'.heap[b]? = some o')
    (e : ∀ k, k ≠ b → w'.heap[k]? = w.heap[k]?) : sat w' ([(b, o')] :: L) := by
  have hn : (b :: L.flatten.map Prod.fst).Nodup := by simpa [List.flatten_cons] using h.1
  refine ⟨by simpa [List.flatten_cons] using hn, fun c hc => ?_⟩
  simp only [List.flatten_cons, List.singleton_append, List.mem_cons] at hc
  rcases hc with rfl | hc
  · exact e₁
  · have hne : c.1 ≠ b := fun he => (List.nodup_cons.1 hn).1 (he ▸ List.mem_map.2 ⟨c, hc, rfl⟩)
    rw [e _ hne]
    exact h.2 c (by simp only [List.flatten_cons, List.singleton_append, List.mem_cons]; exact .inr hc)

/-- A segment in its place is another one. -/
inductive Repl (C C' : Seg) : List Seg → List Seg → Prop
  | here {L : List Seg} : Repl C C' (C :: L) (C' :: L)
  | there {D : Seg} {L L' : List Seg} (h : Repl C C' L L') : Repl C C' (D :: L) (D :: L')

theorem Repl.rest {C C' : Seg} {L L' : List Seg} (h : Repl C C' L L') : ∃ R, L.Perm (C :: R) ∧ L'.Perm (C' :: R) := by
  induction h with
  | here => exact ⟨_, .refl _, .refl _⟩
  | there _ ih =>
    obtain ⟨R, h1, h2⟩ := ih
    exact ⟨_ :: R, ((h1.cons _).trans (.swap _ _ _)), ((h2.cons _).trans (.swap _ _ _))⟩

/-- A segment is taken out. -/
inductive Pull : Seg → List Seg → List Seg → Prop
  | here {C : Seg} {L : List Seg} : Pull C (C :: L) L
  | there {C D : Seg} {L R : List Seg} (h : Pull C L R) : Pull C (D :: L) (D :: R)

theorem Pull.perm {C : Seg} {L R : List Seg} (h : Pull C L R) : L.Perm (C :: R) := by
  induction h with
  | here => exact .refl _
  | there _ ih => exact (ih.cons _).trans (.swap _ _ _)

/-- Several segments are taken out, one behind the other. -/
inductive Pulls : List Seg → List Seg → List Seg → Prop
  | nil {L : List Seg} : Pulls [] L L
  | cons {C : Seg} {Cs L M R : List Seg} (h : Pull C L M) (hs : Pulls Cs M R) : Pulls (C :: Cs) L R

theorem Pulls.perm {Cs L R : List Seg} (h : Pulls Cs L R) : L.Perm (Cs ++ R) := by
  induction h with
  | nil => exact .refl _
  | cons h _ ih => exact h.perm.trans (ih.cons _)

/-- What a row of cells reads as. -/
theorem cell_of {w : World} {b off : Nat} {cs : List Value} {T : TypeId} {fz : Nat × Nat} {v : Value} (h : w.heap[b]? = some (.cells cs.toArray T fz))
    (hv : cs[off]? = some v) : w.cell? ⟨b, off, none⟩ = some v := by
  simp [World.cell?, h, hv]

theorem frozen_of {w : World} {b off : Nat} {cs : List Value} {T : TypeId} (h : w.heap[b]? = some (.cells cs.toArray T (0, 0))) :
    w.frozen? ⟨b, off, none⟩ = false := by
  simp [World.frozen?, h]

theorem setCell_at {w : World} {b off : Nat} {cs : List Value} {T : TypeId} {fz : Nat × Nat} {v : Value} (h : w.heap[b]? = some (.cells cs.toArray T fz)) :
    (w.setCell ⟨b, off, none⟩ v).heap[b]? = some (.cells (cs.set off v).toArray T fz) := by
  simp [World.setCell, Array.getElem?_modify, h]

theorem setCell_ne {w : World} {b off k : Nat} {v : Value} (h : k ≠ b) : (w.setCell ⟨b, off, none⟩ v).heap[k]? = w.heap[k]? :=
  Go.RowKit.Below.heap_setCell w ⟨b, off, none⟩ v k h

theorem Env.setCell (w : World) (a : Addr) (v : Value) : Env w (w.setCell a v) := ⟨rfl, rfl, rfl, by simp [World.setCell]⟩

theorem sat_store {w : World} {L L' : List Seg} {b off : Nat} {cs : List Value} {T : TypeId} {fz : Nat × Nat} {v : Value} (h : sat w L)
    (hr : Repl [(b, .cells cs.toArray T fz)] [(b, .cells (cs.set off v).toArray T fz)] L L') : sat (w.setCell ⟨b, off, none⟩ v) L' := by
  obtain ⟨R, h1, h2⟩ := hr.rest
  have hs := sat_perm h h1
  refine sat_perm (sat_modify hs (setCell_at (sat_one hs (.head _))) (fun k hk => setCell_ne hk)) h2.symm

end Go.Proofs.Ytonfkkdahlboiaa
