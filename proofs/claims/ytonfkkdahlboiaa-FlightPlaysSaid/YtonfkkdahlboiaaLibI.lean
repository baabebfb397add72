/- Segments joined into one, results in cells, calls that make several blocks. -/
import Derived.Test.YtonfkkdahlboiaaLibH
namespace Go.Proofs.Ytonfkkdahlboiaa
open Go.RowKit

theorem sat_join4 {w : World} {a b c d : Seg} {R : List Seg} : sat w ((a ++ (b ++ (c ++ d))) :: R) ↔ sat w (a :: b :: c :: d :: R) := by
  rw [sat_join, sat_join, sat_join, List.append_assoc, List.append_assoc]
theorem sat_join3 {w : World} {a b c : Seg} {R : List Seg} : sat w ((a ++ (b ++ c)) :: R) ↔ sat w (a :: b :: c :: R) := by
  rw [sat_join, sat_join, List.append_assoc]

theorem Ct.post {P : Program} {f : FuncId} {args : List Value} {C : List Seg} {Post Post' : Value → List Seg → Prop} (h : Ct P f args C Post)
    (k : ∀ v D, Post v D → ∃ D', Post' v D' ∧ ∀ w R, sat w (D ++ R) → sat w (D' ++ R)) : Ct P f args C Post' :=
  ⟨fun w R hs => (h.out w R hs).mono fun e w' ⟨v, D, he, hp, hsat, henv⟩ => by
    obtain ⟨D', h1, h2⟩ := k v D hp
    exact ⟨v, D', he, h1, h2 w' R hsat, henv⟩⟩
theorem Ct.pre {P : Program} {f : FuncId} {args : List Value} {C C' : List Seg} {Post : Value → List Seg → Prop} (h : Ct P f args C Post) (k : ∀ w R, sat w (C' ++ R) → sat w (C ++ R)) : Ct P f args C' Post :=
  ⟨fun w R hs => h.out w R (k w R hs)⟩

theorem Cd.glue4 {P : Program} {f : FuncId} {args : List Value} {a b c d a' b' c' d' : Seg} {X : Value} (h : Cd P f args [a, b, c, d] X [a', b', c', d']) :
    Cd P f args [a ++ (b ++ (c ++ d))] X [a' ++ (b' ++ (c' ++ d'))] :=
  Ct.pre (Ct.post h fun _ _ ⟨hv, hD⟩ => ⟨_, ⟨hv, rfl⟩, fun _ _ hs => by subst hD; exact sat_join4.2 hs⟩) fun _ _ hs => sat_join4.1 hs
theorem Cd.glue3 {P : Program} {f : FuncId} {args : List Value} {a b c a' b' c' : Seg} {X : Value} (h : Cd P f args [a, b, c] X [a', b', c']) :
    Cd P f args [a ++ (b ++ c)] X [a' ++ (b' ++ c')] :=
  Ct.pre (Ct.post h fun _ _ ⟨hv, hD⟩ => ⟨_, ⟨hv, rfl⟩, fun _ _ hs => by subst hD; exact sat_join3.2 hs⟩) fun _ _ hs => sat_join3.1 hs
theorem Cd.frame {P : Program} {f : FuncId} {args : List Value} {C C' : List Seg} {X : Value} (F : List Seg) (h : Cd P f args C X C') : Cd P f args (C ++ F) X (C' ++ F) :=
  ⟨fun w R hs => (h.out w (F ++ R) (by rw [List.append_assoc] at hs; exact hs)).mono fun e w' ⟨v, D, he, ⟨hv, hD⟩, hsat, henv⟩ =>
    ⟨v, D ++ F, he, ⟨hv, by rw [hD]⟩, by rw [List.append_assoc]; exact hsat, henv⟩⟩

/-- A call that makes new things at places told by b. -/
abbrev Cm {α : Type} (P : Program) (f : FuncId) (args : List Value) (X : α → Value) (c : α → Seg) : Prop := Ct P f args [] (fun v D => ∃ b, v = X b ∧ D = [c b])

section
variable {P : Program} {ops : Array Oper} {Q : Exit → Act → World → Prop} {n : Nat} {ds : List Deferred} {w₀ : World} {LS L R : List Seg} {σ : Sig} {rest : List (Oper × Nat)}
variable {d : Nat} {ty : Nat} {p : String} {af : Array Edge} {g : Option (Nat × Bool)}
theorem TR_callm {α : Type} {f : Nat} [TFn P f] {fo : Operand} {l : List Operand} {tys : Array Nat} {fs cs avs : List Value} {X : α → Value} {c : α → Seg} (hc : Cm P f avs X c)
    (hf : ev σ fo = .func (.func f) fs.toArray cs.toArray) (ha : fs ++ evs σ l ++ cs = avs)
    (hw : wantS ops σ ⟨some d, .call ⟨.value fo, l.toArray, tys⟩, ty, p, af, g⟩ = true)
    (k : ∀ b, TR P ops Q n ds w₀ LS rest (c b :: L) (upd σ d (X b))) : TR P ops Q n ds w₀ LS ((⟨some d, .call ⟨.value fo, l.toArray, tys⟩, ty, p, af, g⟩, 0) :: rest) L σ :=
  TR_call0 hc hf ha .nil hw fun v D ⟨b, hv, hD⟩ => by subst hv; subst hD; exact k b

theorem results_cell {fn : Func} {a : Tmp} {t : TypeId} (h : fn.results = #[.cell a t]) (tmps : Array Value) (P : Program) (w : World) :
    (results fn tmps).run P w = ((asAddr (tmps.getD a undef)).run P w).andThen fun a w₁ => (loadVar t a).run P w₁ := by
  simp only [results, h]
  simp [Sem.run_bind, Result.andThen]

theorem TQ_retC {fn : Func} {Post : Value → List Seg → Prop} {C' : List Seg} {a t s b T : Nat} {cs : List Value} {fz : Nat × Nat} [TAgg P t s] (hr : fn.results = #[.cell a t]) (hn : Nat.blt a n = true)
    (hv : σ a = .pointer (some ⟨b, 0, none⟩)) (i : Nat) (hm : L[i]? = some [(b, .cells cs.toArray T fz)]) (hl : cs.length = s) (hp : Post (.agg cs.toArray) C') (hL : (C' ++ R).Sublist L) :
    TQ n [] w₀ (bodyPost P fn (Owes Post R w₀)) .ret L σ :=
  ⟨fun w hw => by
    have hmem := sat_one hw.sat (List.mem_of_getElem? hm)
    have h1 := loadAgg_run (P := P) (t := t) (off := 0) hmem (by omega)
    refine ⟨rfl, .agg cs.toArray, ?_, Owes_sub hp hL hw⟩
    rw [results_cell hr, fr_getD σ [] hn, hv]
    simp only [Instr.loadAt, Instr.sureAddr] at h1
    simp [asAddr, Result.andThen]
    simpa [← hl] using h1⟩
end

theorem storeCells_St {P : Program} {w₀ : World} {b T : Nat} {R : List Seg} : ∀ (vs : List Value) (i off : Nat) (cs : List Value) (w : World), vs.all one = true → off + i + vs.length ≤ cs.length →
    St w₀ w ([(b, .cells cs.toArray T (0, 0))] :: R) → ∃ w', (storeCells ⟨b, off, none⟩ vs i).run P w = .ok () w' ∧ St w₀ w' ([(b, .cells (setAll cs (off + i) vs).toArray T (0, 0))] :: R)
  | [], i, off, cs, w, _, _, h => ⟨w, rfl, h⟩
  | v :: vs, i, off, cs, w, h1, h2, h => by
    simp only [List.all_cons, Bool.and_eq_true] at h1
    simp only [List.length_cons] at h2
    have hb := sat_one h.sat (List.mem_cons_self)
    have hlt : off + i < cs.length := by omega
    have hst : St w₀ (w.setCell ⟨b, off + i, none⟩ v) ([(b, .cells (cs.set (off + i) v).toArray T (0, 0))] :: R) := ⟨sat_store h.sat .here, h.env.trans (Env.setCell _ _ _)⟩
    obtain ⟨w', h3, h4⟩ := storeCells_St (P := P) vs (i + 1) off (cs.set (off + i) v) _ h1.2 (by simp only [List.length_set]; omega) hst
    exact ⟨w', by simp [storeCells, addr_add, store_run h1.1 hb hlt, h3], h4⟩

section
variable {P : Program} {ops : Array Oper} {Q : Exit → Act → World → Prop} {n : Nat} {ds : List Deferred} {w₀ : World} {LS L L' : List Seg} {σ : Sig} {rest : List (Oper × Nat)}
variable {ty : Nat} {p : String} {af : Array Edge} {g : Option (Nat × Bool)} {x y : Operand} {t : Nat}
theorem TR_storeA {s : Nat} [i : TAgg P t s] {b off T : Nat} {cs vs : List Value} (hx : ev σ x = .pointer (some ⟨b, off, none⟩)) (hy : ev σ y = .agg vs.toArray) (hv1 : (vs.all one && Nat.beq vs.length s) = true)
    (hr : Repl [(b, .cells cs.toArray T (0, 0))] [(b, .cells (setAll cs off vs).toArray T (0, 0))] L L') (hl : Nat.ble (off + vs.length) cs.length = true)
    (hw : wantS ops σ ⟨none, .store t x y, ty, p, af, g⟩ = true) (k : TR P ops Q n ds w₀ LS rest L' σ) : TR P ops Q n ds w₀ LS ((⟨none, .store t x y, ty, p, af, g⟩, 0) :: rest) L σ := by
  simp only [Bool.and_eq_true, Nat.beq_eq] at hv1
  refine TR_unit0 hw (fun w hs => ?_) k
  obtain ⟨R, e1, e2⟩ := hr.rest
  obtain ⟨w', h3, h4⟩ := storeCells_St (P := P) (w₀ := w₀) vs 0 off cs w hv1.1 (by have := Nat.le_of_ble_eq_true hl; omega) (hs.perm e1)
  refine ⟨w', ?_, h4.perm e2.symm⟩
  simp [execOp, hx, hy, Instr.storeAt, Instr.sureAddr, storeVar, sizeOf_run i.s, Value.cells, hv1.2, h3]
theorem TR_storeA0_0 {s : Nat} [TAgg P t s] {b off T : Nat} {cs vs : List Value} {M : List Seg} (hx : ev σ x = .pointer (some ⟨b, off, none⟩)) (hL : L = [(b, .cells cs.toArray T (0, 0))] :: M) (hy : ev σ y = .agg vs.toArray)
    (hv1 : (vs.all one && Nat.beq vs.length s) = true) (hl : Nat.ble (off + vs.length) cs.length = true) (hw : wantS ops σ ⟨none, .store t x y, ty, p, af, g⟩ = true)
    (k : TR P ops Q n ds w₀ LS rest ([(b, .cells (setAll cs off vs).toArray T (0, 0))] :: M) σ) : TR P ops Q n ds w₀ LS ((⟨none, .store t x y, ty, p, af, g⟩, 0) :: rest) L σ := by
  subst hL; exact TR_storeA hx hy hv1 .here hl hw k
theorem TR_storeA0_1 {s : Nat} [TAgg P t s] {b off T : Nat} {cs vs : List Value} {X0 : Seg} {M : List Seg} (hx : ev σ x = .pointer (some ⟨b, off, none⟩)) (hL : L = X0 :: [(b, .cells cs.toArray T (0, 0))] :: M) (hy : ev σ y = .agg vs.toArray)
    (hv1 : (vs.all one && Nat.beq vs.length s) = true) (hl : Nat.ble (off + vs.length) cs.length = true) (hw : wantS ops σ ⟨none, .store t x y, ty, p, af, g⟩ = true)
    (k : TR P ops Q n ds w₀ LS rest (X0 :: [(b, .cells (setAll cs off vs).toArray T (0, 0))] :: M) σ) : TR P ops Q n ds w₀ LS ((⟨none, .store t x y, ty, p, af, g⟩, 0) :: rest) L σ := by
  subst hL; exact TR_storeA hx hy hv1 (.there .here) hl hw k
theorem TR_storeA0_2 {s : Nat} [TAgg P t s] {b off T : Nat} {cs vs : List Value} {X0 X1 : Seg} {M : List Seg} (hx : ev σ x = .pointer (some ⟨b, off, none⟩)) (hL : L = X0 :: X1 :: [(b, .cells cs.toArray T (0, 0))] :: M) (hy : ev σ y = .agg vs.toArray)
    (hv1 : (vs.all one && Nat.beq vs.length s) = true) (hl : Nat.ble (off + vs.length) cs.length = true) (hw : wantS ops σ ⟨none, .store t x y, ty, p, af, g⟩ = true)
    (k : TR P ops Q n ds w₀ LS rest (X0 :: X1 :: [(b, .cells (setAll cs off vs).toArray T (0, 0))] :: M) σ) : TR P ops Q n ds w₀ LS ((⟨none, .store t x y, ty, p, af, g⟩, 0) :: rest) L σ := by
  subst hL; exact TR_storeA hx hy hv1 (.there (.there .here)) hl hw k
theorem TR_storeA0_3 {s : Nat} [TAgg P t s] {b off T : Nat} {cs vs : List Value} {X0 X1 X2 : Seg} {M : List Seg} (hx : ev σ x = .pointer (some ⟨b, off, none⟩)) (hL : L = X0 :: X1 :: X2 :: [(b, .cells cs.toArray T (0, 0))] :: M) (hy : ev σ y = .agg vs.toArray)
    (hv1 : (vs.all one && Nat.beq vs.length s) = true) (hl : Nat.ble (off + vs.length) cs.length = true) (hw : wantS ops σ ⟨none, .store t x y, ty, p, af, g⟩ = true)
    (k : TR P ops Q n ds w₀ LS rest (X0 :: X1 :: X2 :: [(b, .cells (setAll cs off vs).toArray T (0, 0))] :: M) σ) : TR P ops Q n ds w₀ LS ((⟨none, .store t x y, ty, p, af, g⟩, 0) :: rest) L σ := by
  subst hL; exact TR_storeA hx hy hv1 (.there (.there (.there .here))) hl hw k
theorem TR_storeA0_4 {s : Nat} [TAgg P t s] {b off T : Nat} {cs vs : List Value} {X0 X1 X2 X3 : Seg} {M : List Seg} (hx : ev σ x = .pointer (some ⟨b, off, none⟩)) (hL : L = X0 :: X1 :: X2 :: X3 :: [(b, .cells cs.toArray T (0, 0))] :: M) (hy : ev σ y = .agg vs.toArray)
    (hv1 : (vs.all one && Nat.beq vs.length s) = true) (hl : Nat.ble (off + vs.length) cs.length = true) (hw : wantS ops σ ⟨none, .store t x y, ty, p, af, g⟩ = true)
    (k : TR P ops Q n ds w₀ LS rest (X0 :: X1 :: X2 :: X3 :: [(b, .cells (setAll cs off vs).toArray T (0, 0))] :: M) σ) : TR P ops Q n ds w₀ LS ((⟨none, .store t x y, ty, p, af, g⟩, 0) :: rest) L σ := by
  subst hL; exact TR_storeA hx hy hv1 (.there (.there (.there (.there .here)))) hl hw k
theorem TR_storeA0_5 {s : Nat} [TAgg P t s] {b off T : Nat} {cs vs : List Value} {X0 X1 X2 X3 X4 : Seg} {M : List Seg} (hx : ev σ x = .pointer (some ⟨b, off, none⟩)) (hL : L = X0 :: X1 :: X2 :: X3 :: X4 :: [(b, .cells cs.toArray T (0, 0))] :: M) (hy : ev σ y = .agg vs.toArray)
    (hv1 : (vs.all one && Nat.beq vs.length s) = true) (hl : Nat.ble (off + vs.length) cs.length = true) (hw : wantS ops σ ⟨none, .store t x y, ty, p, af, g⟩ = true)
    (k : TR P ops Q n ds w₀ LS rest (X0 :: X1 :: X2 :: X3 :: X4 :: [(b, .cells (setAll cs off vs).toArray T (0, 0))] :: M) σ) : TR P ops Q n ds w₀ LS ((⟨none, .store t x y, ty, p, af, g⟩, 0) :: rest) L σ := by
  subst hL; exact TR_storeA hx hy hv1 (.there (.there (.there (.there (.there .here))))) hl hw k
end

theorem St.sub {w₀ w : World} {L K : List Seg} (h : St w₀ w L) (hs : K.Sublist L) : St w₀ w K := ⟨sat_sub h.sat hs, h.env⟩

section
variable {P : Program} {ops : Array Oper} {Q : Exit → Act → World → Prop} {n : Nat} {ds : List Deferred} {w₀ : World} {LS L L' : List Seg} {σ : Sig} {rest : List (Oper × Nat)} {v : Value}
variable {d : Nat} {ty : Nat} {p : String} {af : Array Edge} {g : Option (Nat × Bool)} {x y : Operand} {t : Nat}
/-- A call that leaves the kept segments as they are. -/
theorem TR_callsP {f : Nat} [TFn P f] {fo : Operand} {l : List Operand} {tys : Array Nat} {fs cs avs : List Value} {C R C' : List Seg} {X : Value} (hc : Cd P f avs C X C')
    (hf : ev σ fo = .func (.func f) fs.toArray cs.toArray) (ha : fs ++ evs σ l ++ cs = avs) (hp : Pulls C L R) (hp' : Pulls C' L' R)
    (hw : wantS ops σ ⟨some d, .call ⟨.value fo, l.toArray, tys⟩, ty, p, af, g⟩ = true) (hS : LS.Sublist L')
    (k : TR P ops Q n ds w₀ LS rest L' (upd σ d X)) : TR P ops Q n ds w₀ LS ((⟨some d, .call ⟨.value fo, l.toArray, tys⟩, ty, p, af, g⟩, 2) :: rest) L σ :=
  TR_call2 hc hf ha hp hw (fun v D w ⟨_, hD⟩ hs => by subst hD; exact (hs.perm hp'.perm.symm).sub hS) fun v D ⟨hv, hD⟩ => by
    subst hv; subst hD
    exact ⟨fun w hs => k.out w (hs.perm hp'.perm.symm)⟩
theorem TR_loadM1 [TScal P t] {b off T : Nat} {cs : List Value} {fz : Nat × Nat} {C : Seg} (hx : ev σ x = .pointer (some ⟨b, off, none⟩)) (hc : (b, Obj.cells cs.toArray T fz) ∈ C) (i : Nat) (hm : LS[i]? = some C)
    (hv : cs[off]? = some v) (hw : wantS ops σ ⟨some d, .load t x, ty, p, af, g⟩ = true) (hL : ∀ w, St w₀ w L → St w₀ w LS) (k : TR P ops Q n ds w₀ LS rest L (upd σ d v)) :
    TR P ops Q n ds w₀ LS ((⟨some d, .load t x, ty, p, af, g⟩, 1) :: rest) L σ :=
  TR_ld1 (fun w hs => by simp [execOp, hx, load_run (cell_of (sat_mem hs.sat (List.mem_of_getElem? hm) hc) hv)]) hw hL k
theorem TR_loadAM1 {s : Nat} [TAgg P t s] {b off T : Nat} {cs l : List Value} {fz : Nat × Nat} {C : Seg} (hx : ev σ x = .pointer (some ⟨b, off, none⟩)) (hc : (b, Obj.cells cs.toArray T fz) ∈ C) (i : Nat) (hm : LS[i]? = some C)
    (hv : (cs.drop off).take s = l) (hl : l.length = s) (hw : wantS ops σ ⟨some d, .load t x, ty, p, af, g⟩ = true) (hL : ∀ w, St w₀ w L → St w₀ w LS)
    (k : TR P ops Q n ds w₀ LS rest L (upd σ d (.agg l.toArray))) : TR P ops Q n ds w₀ LS ((⟨some d, .load t x, ty, p, af, g⟩, 1) :: rest) L σ :=
  TR_ld1 (fun w hs => by
    have hle : off + s ≤ cs.length ∨ s = 0 := by
      by_cases h0 : s = 0
      · exact .inr h0
      · refine .inl ?_
        have := congrArg List.length hv
        rw [List.length_take, List.length_drop, hl] at this
        omega
    rcases hle with hle | h0
    · have := loadAgg_run (P := P) (t := t) (sat_mem hs.sat (List.mem_of_getElem? hm) hc) hle
      rw [hv] at this
      simp only [execOp, hx]
      simp [this]
    · subst h0
      obtain rfl : l = [] := List.length_eq_zero_iff.1 hl
      have hu := isAgg_yes (P := P) t w
      have hz := loadCells_run (P := P) (sat_mem hs.sat (List.mem_of_getElem? hm) hc)
      simp [execOp, hx, Instr.loadAt, Instr.sureAddr, loadVar, isAgg_yes, sizeOf_run (TAgg.s (P := P) (t := t)), loadCells, loadCellsFrom]) hw hL k
end
end Go.Proofs.Ytonfkkdahlboiaa
