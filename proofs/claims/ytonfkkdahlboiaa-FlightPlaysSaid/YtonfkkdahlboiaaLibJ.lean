/- Segments regrouped by counting their blocks; ranges over functions; functions that leave with marks. -/
import Derived.Test.YtonfkkdahlboiaaLibI
import Derived.RangeFuncRecord
namespace Go.Proofs.Ytonfkkdahlboiaa
open Go.RowKit

/-! ### Regrouping -/
open Classical in
noncomputable def cnt1 (a c : Chunk) : Nat := if c = a then 1 else 0
noncomputable def cnt (a : Chunk) : Seg → Nat
  | [] => 0
  | c :: l => cnt1 a c + cnt a l
theorem cnt_append (a : Chunk) (l m : Seg) : cnt a (l ++ m) = cnt a l + cnt a m := by
  induction l with
  | nil => simp [cnt]
  | cons c l ih => simp only [List.cons_append, cnt, ih]; omega

theorem mem_of_cnt {a : Chunk} {l : Seg} (h : 1 ≤ cnt a l) : a ∈ l := by
  induction l with
  | nil => simp [cnt] at h
  | cons c l ih =>
    by_cases hc : c = a
    · subst hc; exact .head _
    · refine .tail _ (ih ?_)
      simp only [cnt, cnt1, hc, if_false] at h
      omega

theorem perm_of_cnt : ∀ (l' l : Seg), (∀ a, cnt a l' ≤ cnt a l) → ∃ X, l.Perm (l' ++ X)
  | [], l, _ => ⟨l, .refl _⟩
  | c :: l', l, h => by
    have h1 : c ∈ l := mem_of_cnt (by have := h c; simp only [cnt, cnt1, if_true] at this; omega)
    obtain ⟨s, t, rfl⟩ := List.append_of_mem h1
    obtain ⟨X, hX⟩ := perm_of_cnt l' (s ++ t) fun a => by
      have := h a
      simp only [cnt, cnt_append] at this ⊢
      omega
    exact ⟨X, List.perm_middle.trans (hX.cons c)⟩

/-- Of each block L' has no more than L. -/
def Le (L L' : List Seg) : Prop := ∀ a, cnt a L'.flatten ≤ cnt a L.flatten

theorem cnt_one (a : Chunk) (c : Chunk) : cnt a [c] = cnt1 a c := by simp [cnt]
/-- What a sum of blocks is. -/
theorem les : (∀ (C : Seg) (L : List Seg), (C :: L).flatten = C ++ L.flatten) ∧ (([] : List Seg).flatten = []) ∧ (∀ (a : Chunk) (l m : Seg), cnt a (l ++ m) = cnt a l + cnt a m) ∧
    (∀ (a c : Chunk) (l : Seg), cnt a (c :: l) = cnt1 a c + cnt a l) ∧ (∀ a : Chunk, cnt a [] = 0) ∧ (∀ (L M : List Seg), (L ++ M).flatten = L.flatten ++ M.flatten) ∧
    (∀ (x : Value) (l : List Value) (v : Value), (x :: l).set 0 v = v :: l) ∧ (∀ (x : Value) (l : List Value) (n : Nat) (v : Value), (x :: l).set (n + 1) v = x :: l.set n v) ∧
    (∀ (l m : List Seg), ((l.append m : List Seg)) = l ++ m) := by
  refine ⟨?_, ?_, ?_, ?_, ?_, ?_, ?_, ?_, ?_⟩ <;> intros <;> first | rfl | simp [cnt_append]

theorem sat_le {w : World} {L L' : List Seg} (h : sat w L) (hc : Le L L') : sat w L' := by
  obtain ⟨X, hX⟩ := perm_of_cnt _ _ hc
  have hn := ((hX.map Prod.fst).nodup_iff).1 h.1
  rw [List.map_append] at hn
  exact ⟨(List.nodup_append.1 hn).1, fun c hc => h.2 c (hX.mem_iff.2 (List.mem_append_left _ hc))⟩
theorem St.le {w₀ w : World} {L L' : List Seg} (h : St w₀ w L) (hc : Le L L') : St w₀ w L' := ⟨sat_le h.sat hc, h.env⟩
theorem Le.refl (L : List Seg) : Le L L := fun _ => Nat.le_refl _
theorem Le.of_eq {L M : List Seg} (h : L = M) : Le L M := by subst h; exact Le.refl _
theorem Le.trans {L M K : List Seg} (h : Le L M) (k : Le M K) : Le L K := fun a => Nat.le_trans (k a) (h a)

section
variable {P : Program} {ro : Option Nat} {n : Nat} {ds : List Deferred} {w₀ : World} {Q : Exit → Act → World → Prop} {e : Exit} {L L' R : List Seg} {σ : Sig} {c : Code}
variable {ops : Array Oper} {LS : List Seg} {l : List (Oper × Nat)}
theorem TC_le (hc : Le L L') (k : TC P ro n ds w₀ c Q L' σ) : TC P ro n ds w₀ c Q L σ := ⟨fun w hs => k.out w (hs.le hc)⟩
theorem TQ_le (hc : Le L L') (k : TQ n ds w₀ Q e L' σ) : TQ n ds w₀ Q e L σ := ⟨fun w hs => k.out w (hs.le hc)⟩
theorem TR_le (hc : Le L L') (k : TR P ops Q n ds w₀ LS l L' σ) : TR P ops Q n ds w₀ LS l L σ := ⟨fun w hs => k.out w (hs.le hc)⟩

variable {fn : Func} {Post : Value → List Seg → Prop} {v : Value} {C' : List Seg}
theorem Owes_le (hp : Post v C') (hL : Le L (C' ++ R)) {w : World} (hw : St w₀ w L) : Owes Post R w₀ (.returned v) w := ⟨v, C', rfl, hp, sat_le hw.sat hL, hw.env⟩
theorem TQ_ret0e (hr : fn.results = #[]) (hp : Post (.tuple #[]) C') (hL : Le L (C' ++ R)) : TQ n [] w₀ (bodyPost P fn (Owes Post R w₀)) .ret L σ :=
  ⟨fun _ hw => ⟨rfl, _, results_none hr _ _ _, Owes_le hp hL hw⟩⟩
theorem TQ_end0e (hr : fn.results = #[]) (hp : Post (.tuple #[]) C') (hL : Le L (C' ++ R)) : TQ n [] w₀ (bodyPost P fn (Owes Post R w₀)) .normal L σ :=
  ⟨fun _ hw => ⟨rfl, _, results_none hr _ _ _, Owes_le hp hL hw⟩⟩
theorem TQ_ret1e {t : Nat} (hr : fn.results = #[.tmp t]) (hn : Nat.blt t n = true) (hv : σ t = v) (hp : Post v C') (hL : Le L (C' ++ R)) : TQ n [] w₀ (bodyPost P fn (Owes Post R w₀)) .ret L σ :=
  ⟨fun w hw => ⟨rfl, v, by rw [results_tmp hr]; rw [fr_getD σ [] hn, hv], Owes_le hp hL hw⟩⟩
theorem TQ_ret2e {t u : Nat} {v u' : Value} (hr : fn.results = #[.tmp t, .tmp u]) (hn : Nat.blt t n = true) (hn' : Nat.blt u n = true) (hv : σ t = v) (hu : σ u = u') (hp : Post (.tuple #[v, u']) C')
    (hL : Le L (C' ++ R)) : TQ n [] w₀ (bodyPost P fn (Owes Post R w₀)) .ret L σ :=
  ⟨fun w hw => ⟨rfl, _, by rw [results_tmp2 hr, fr_getD σ [] hn, fr_getD σ [] hn', hv, hu], Owes_le hp hL hw⟩⟩
theorem TQ_retCe {a t s b T : Nat} {cs : List Value} {fz : Nat × Nat} [TAgg P t s] (hr : fn.results = #[.cell a t]) (hn : Nat.blt a n = true)
    (hv : σ a = .pointer (some ⟨b, 0, none⟩)) (i : Nat) (hm : L[i]? = some [(b, .cells cs.toArray T fz)]) (hl : cs.length = s) (hp : Post (.agg cs.toArray) C') (hL : Le L (C' ++ R)) :
    TQ n [] w₀ (bodyPost P fn (Owes Post R w₀)) .ret L σ :=
  ⟨fun w hw => by
    have hmem := sat_one hw.sat (List.mem_of_getElem? hm)
    have h1 := loadAgg_run (P := P) (t := t) (off := 0) hmem (by omega)
    refine ⟨rfl, .agg cs.toArray, ?_, Owes_le hp hL hw⟩
    rw [results_cell hr, fr_getD σ [] hn, hv]
    simp only [Instr.loadAt, Instr.sureAddr] at h1
    simp [asAddr, Result.andThen]
    simpa [← hl] using h1⟩
end

/-- A call that leaves a part of a segment as it is, whole. -/
theorem Cd.within {P : Program} {f : FuncId} {args : List Value} {C : List Seg} {X : Value} {D E : List Seg} (h : Cd P f args C X C) (h1 : Le D (C ++ E)) (h2 : Le (C ++ E) D) : Cd P f args D X D :=
  ⟨fun w R hs => (h.out w (E ++ R) (sat_le hs fun a => by have := h1 a; simp only [les] at this ⊢; omega)).mono fun e w' ⟨v, C', he, ⟨hv, hD⟩, hsat, henv⟩ =>
    ⟨v, D, he, ⟨hv, rfl⟩, sat_le hsat (by subst hD; intro a; have := h2 a; simp only [les] at this ⊢; omega), henv⟩⟩

/-! ### Ranges over functions -/
theorem alloc_eq (w : World) (o : Obj) : (w.alloc o).heap = w.heap.push o := rfl
theorem Env.alloc (w : World) (o : Obj) : Env w (w.alloc o) := ⟨rfl, rfl, rfl, by simp [alloc_eq]⟩
theorem Env.putObj (w : World) (b : Nat) (o : Obj) : Env w (w.putObj b o) := ⟨rfl, rfl, rfl, by simp⟩

theorem sat_put {w : World} {L : List Seg} {b : Nat} {o o' : Obj} (h : sat w ([(b, o)] :: L)) : sat (w.putObj b o') ([(b, o')] :: L) :=
  sat_modify h (World.putObj_heap_same (lt_of_some (sat_one h (.head _)))) fun _ hk => World.putObj_heap_other hk
theorem St.put {w₀ w : World} {L : List Seg} {b : Nat} {o o' : Obj} (h : St w₀ w ([(b, o)] :: L)) : St w₀ (w.putObj b o') ([(b, o')] :: L) := ⟨sat_put h.sat, h.env.trans (Env.putObj _ _ _)⟩

abbrev yieldV (l : Nat) : Value := .func (.yield l) #[] #[]
abbrev loopSeg (l : Nat) (r : Loop) : Seg := [(l, .loop r)]
abbrev defSeg (d : Nat) : Seg := [(d, .deferred (some []))]
abbrev markOf (d : Nat) : Deferred := { target := .collected d, args := #[] }

theorem TC_range {P : Program} {n : Nat} {ds : List Deferred} {w₀ : World} {Q : Exit → Act → World → Prop} {L : List Seg} {σ : Sig} {g : Operand} {ps : Array Tmp} {assign body : Code} {f : FuncId} [TFn P f]
    {fs cs : List Value} {C R : List Seg} {Post : Nat → Value → List Seg → Prop}
    (hg : ev σ g = .func (.func f) fs.toArray cs.toArray) (hok : okO n g = true) (hp : Pulls C L R)
    (hc : ∀ fn l d, Ct P f (fs ++ [yieldV l] ++ cs) (loopSeg l ⟨.ready, none, fn, (fr n σ ds).tmps, ps, assign, body, d⟩ :: C) (Post l))
    (k : ∀ l d v C', Post l v C' → ∃ r D, r.state ≠ .busy ∧ r.pending = none ∧ Le C' (loopSeg l r :: D) ∧ TQ n (markOf d :: ds) w₀ Q .normal (defSeg d :: (D ++ R)) σ) :
    TC P none n ds w₀ (.rangeFunc g ps assign body) Q L σ := by
  refine ⟨fun w hs => wpIn_rangeFunc fun fn _ => ?_⟩
  let rec0 : Loop := ⟨.ready, none, fn, (fr n σ ds).tmps, ps, assign, body, w.heap.size⟩
  let w₁ : World := (w.alloc (.deferred (some []))).alloc (.loop rec0)
  have e1 : St w₀ (w.alloc (.deferred (some []))) (defSeg w.heap.size :: L) := ⟨sat_push hs.sat rfl, hs.env.trans (Env.alloc _ _)⟩
  have e2 : St w₀ w₁ (loopSeg (w.heap.size + 1) rec0 :: defSeg w.heap.size :: L) := by
    have hsz : (w.alloc (.deferred (some []))).heap.size = w.heap.size + 1 := by simp [alloc_eq]
    have := sat_push (o := .loop rec0) (w' := w₁) e1.sat rfl
    rw [hsz] at this
    exact ⟨this, e1.env.trans (Env.alloc _ _)⟩
  refine ⟨w.heap.size + 1, [markOf w.heap.size], w₁, { target := .fn (.func f) cs.toArray, args := fs.toArray ++ #[yieldV (w.heap.size + 1)] }, w₁, f, (fs ++ [yieldV (w.heap.size + 1)] ++ cs).toArray, w₁,
    run_enterLoop_outer (w := w) fn _ ps assign body, ?_, fun _ _ => trivial, ?_, fun h => by simp [wide] at h, ?_⟩
  · have hgv : (fr n σ ds).eval g = .func (.func f) fs.toArray cs.toArray := by rw [fr_eval σ ds hok]; exact hg
    have hev : ∀ v, (fr n σ ds).eval (.const v) = v := fun v => fr_eval (n := n) σ ds (x := .const v) rfl
    simp [resolve, hgv, hev, Deferred.ofValue]
  · simp [invoke, callFunc_run, List.append_assoc]
  · have hsat : sat w₁ ((loopSeg (w.heap.size + 1) rec0 :: C) ++ (defSeg w.heap.size :: R)) := by
      refine sat_perm e2.sat ?_
      have := hp.perm
      refine List.Perm.cons _ ?_
      exact ((this.cons (defSeg w.heap.size)).trans List.perm_middle.symm)
    refine callsIn_w.2 (((hc fn (w.heap.size + 1) w.heap.size).out w₁ _ hsat).mono fun e w₃ ⟨v, C', he, hpost, hs3, henv⟩ => ?_)
    subst he
    obtain ⟨r, D, hb, hpe, hle, hk⟩ := k _ _ _ _ hpost
    have h3 : St w₀ w₃ (loopSeg (w.heap.size + 1) r :: (defSeg w.heap.size :: (D ++ R))) := ⟨sat_le hs3 (fun a => by have := hle a; simp only [les] at this ⊢; omega), e2.env.trans henv⟩
    have hm := sat_one h3.sat (.head _)
    refine ⟨none, _, by have := run_endLoop (P := P) hm hb; rw [hpe] at this; exact this, ?_⟩
    exact hk.out _ h3.put.tail

/-- A call of a loop's yield: what a round does. -/
structure YCt (P : Program) (l : Nat) (args : List Value) (C : List Seg) (Post : Value → List Seg → Prop) : Prop where
  out : ∀ w R, sat w (C ++ R) → ∃ fn tmps assign body, (Instr.yield l args.toArray).run P w = .ok (.round l fn tmps assign body) w ∧
    Rounds P l fn tmps assign body w fun v w' => ∃ C', Post v C' ∧ sat w' (C' ++ R) ∧ Env w w'

theorem YCt.post {P : Program} {l : Nat} {args : List Value} {C : List Seg} {Post Post' : Value → List Seg → Prop} (h : YCt P l args C Post) (k : ∀ v D, Post v D → Post' v D) : YCt P l args C Post' :=
  ⟨fun w R hs => by
    obtain ⟨fn, tmps, assign, body, h1, h2⟩ := h.out w R hs
    exact ⟨fn, tmps, assign, body, h1, RoundIn.mono h2 fun e w' ⟨v, he, C', hp, hr⟩ => ⟨v, he, C', k v C' hp, hr⟩⟩⟩

section
variable {P : Program} {ops : Array Oper} {Q : Exit → Act → World → Prop} {n : Nat} {ds : List Deferred} {w₀ : World} {LS L R : List Seg} {σ : Sig} {rest : List (Oper × Nat)}
variable {d ty : Nat} {p : String} {af : Array Edge} {g : Option (Nat × Bool)}
theorem TR_yield {l : Nat} {fo : Operand} {ol : List Operand} {tys : Array Nat} {avs : List Value} {C : List Seg} {Post : Value → List Seg → Prop} (hc : YCt P l avs C Post)
    (hf : ev σ fo = yieldV l) (ha : evs σ ol = avs) (hp : Pulls C L R) (hw : wantS ops σ ⟨some d, .call ⟨.value fo, ol.toArray, tys⟩, ty, p, af, g⟩ = true)
    (k : ∀ v C', Post v C' → TR P ops Q n ds w₀ LS rest (C' ++ R) (upd σ d v)) : TR P ops Q n ds w₀ LS ((⟨some d, .call ⟨.value fo, ol.toArray, tys⟩, ty, p, af, g⟩, 0) :: rest) L σ := ⟨fun w hs => by
  obtain ⟨fn, tmps, assign, body, h1, h2⟩ := hc.out w R (sat_perm hs.sat hp.perm)
  have he : (execOp (ev σ) ⟨some d, .call ⟨.value fo, ol.toArray, tys⟩, ty, p, af, g⟩).run P w = .ok (.round l fn tmps assign body) w := by
    simp [execOp, resolve, hf, Deferred.ofValue, invoke, evs_eq, ha, h1]
  simp only [wpSeq, hw, if_true, he, uponS]
  exact RoundIn.mono h2 fun e w' ⟨v, hev, C', hpost, hsat, henv⟩ => ⟨v, hev, fun h => by simp at h, fun h => by simp at h, (k v C' hpost).out w' ⟨hsat, hs.env.trans henv⟩⟩⟩
end

/-- What a round owes. -/
def RoundOwes (Post : Value → List Seg → Prop) (R : List Seg) (w₀ : World) (e : Ending) (w' : World) : Prop := ∃ v, e = .returned v ∧ ∃ C', Post v C' ∧ sat w' (C' ++ R) ∧ Env w₀ w'
def AtBegin (P : Program) (l : Nat) (body : Code) (Q : Exit → Act → World → Prop) : Exit → Act → World → Prop :=
  Exit.then (fun a₁ w₁ => ∃ w₂, (Instr.beginRound l).run P w₁ = .ok () w₂ ∧ body.wpIn (wide (some l)) 0 P Q a₁ w₂) (fun _ _ _ => False)

theorem YCt_intro {P : Program} {l n t : Nat} {σ : Sig} {ds : List Deferred} {fn : FuncId} {assign body : Code} {d : Nat} {x : Value} {C : List Seg} {Post : Value → List Seg → Prop}
    (h : ∀ w₀ R, TC P (some l) n [] w₀ assign (AtBegin P l body (roundPost P l (RoundOwes Post R w₀))) (loopSeg l ⟨.ready, none, fn, (fr n σ ds).tmps, #[t], assign, body, d⟩ :: (C ++ R)) (upd σ t x)) :
    YCt P l [x] (loopSeg l ⟨.ready, none, fn, (fr n σ ds).tmps, #[t], assign, body, d⟩ :: C) Post :=
  ⟨fun w R hs => by
    have hm : w.heap[l]? = some (.loop ⟨.ready, none, fn, (fr n σ ds).tmps, #[t], assign, body, d⟩) := sat_one hs (.head _)
    refine ⟨fn, _, assign, body, run_yield hm rfl, ?_⟩
    refine roundIn_w (ro := none) (n := 0) (roundIn_of_wpIn trivial ?_)
    have he : ((#[t].zip [x].toArray).foldl (fun tmps (y : Nat × Value) => tmps.setIfInBounds y.1 y.2) (fr n σ ds).tmps) = (fr n (upd σ t x) []).tmps := by
      have := fr_put n σ ds (some t) x
      simp only [Act.put, updO] at this
      have h2 := congrArg Act.tmps this
      simp only [fr] at h2 ⊢
      simpa using h2
    have := (h w R).out w ⟨hs, Env.refl w⟩
    rw [show ({ tmps := ((#[t].zip [x].toArray).foldl (fun tmps (y : Nat × Value) => tmps.setIfInBounds y.1 y.2) (fr n σ ds).tmps), defers := [] } : Act) = fr n (upd σ t x) [] by rw [he]; rfl]
    exact this⟩

section
variable {P : Program} {n l : Nat} {w₀ : World} {L M : List Seg} {σ : Sig} {body : Code} {Q : Exit → Act → World → Prop}
theorem TQ_begin {r : Loop} (hr : r.state = .ready) (hL : Le L (loopSeg l r :: M)) (k : TC P (some l) n [] w₀ body Q (loopSeg l { r with state := .busy } :: M) σ) : TQ n [] w₀ (AtBegin P l body Q) .normal L σ :=
  ⟨fun w hs => by
    have h1 := hs.le hL
    exact ⟨_, run_beginRound (sat_one h1.sat (.head _)) hr, k.out _ h1.put⟩⟩
theorem TQ_roundEnd {r : Loop} {Post : Value → List Seg → Prop} {R C' : List Seg} (hL : Le L (loopSeg l r :: M)) (hp : Post (.bool true) C') (hC : Le (loopSeg l { r with state := .ready, pending := none } :: M) (C' ++ R)) :
    TQ n [] w₀ (roundPost P l (RoundOwes Post R w₀)) .normal L σ :=
  ⟨fun w hs => by
    have h1 := hs.le hL
    refine ⟨_, _, run_endRound none (sat_one h1.sat (.head _)), _, rfl, C', hp, ?_⟩
    have h2 := h1.put (o' := .loop { r with state := .ready, pending := none })
    exact ⟨sat_le h2.sat hC, h2.env⟩⟩
end

/-! ### Leaving with marks -/
theorem Ct_introM {P : Program} {f : FuncId} {fn : Func} {c : Code} {args : List Value} {C : List Seg} {Post : Value → List Seg → Prop} (hf : P.funcs[f]? = some fn) (hb : fn.body = some c)
    (hn : args.length ≤ fn.ntmps) (h : ∀ w₀ R, TC P none fn.ntmps [] w₀ c (bodyPostM (wide none) 0 P fn (Owes Post R w₀)) (C ++ R) (sig0 args)) : Ct P f args C Post := by
  refine ⟨fun w R hs => callsIn_w.1 (callsIn_of_wp_marks (F := wide none) (n := 0) hf hb trivial ?_ rfl)⟩
  rw [fr_sig0 _ _ hn]
  exact (h w R).out w ⟨hs, Env.refl w⟩

section
variable {P : Program} {n : Nat} {ds : List Deferred} {w₀ : World} {L M : List Seg} {σ : Sig} {fn : Func} {R : Ending → World → Prop}
theorem TQ_mark {d : Nat} (hL : Le L (defSeg d :: M)) (k : TQ n ds w₀ (bodyPostM (wide none) 0 P fn R) .ret M σ) : TQ n (markOf d :: ds) w₀ (bodyPostM (wide none) 0 P fn R) .ret L σ :=
  ⟨fun w hs => by
    have h1 := hs.le hL
    have h2 := k.out _ (h1.put (o' := .deferred none)).tail
    show LeavesInM (wide none) 0 P fn (fr n σ ds).tmps R (markOf d :: ds) .returning w
    unfold LeavesInM
    exact ⟨(fun h => by cases h), .inl ⟨d, _, rfl, run_takeDeferred (sat_one h1.sat (.head _)), h2⟩⟩⟩
theorem TQ_unmarked (k : TQ n [] w₀ (bodyPost P fn R) .ret L σ) : TQ n [] w₀ (bodyPostM (wide none) 0 P fn R) .ret L σ :=
  ⟨fun w hs => (k.out w hs).2⟩
theorem TQ_markEnd (k : TQ n ds w₀ (bodyPostM (wide none) 0 P fn R) .ret L σ) : TQ n ds w₀ (bodyPostM (wide none) 0 P fn R) .normal L σ := ⟨k.out⟩
end
end Go.Proofs.Ytonfkkdahlboiaa
