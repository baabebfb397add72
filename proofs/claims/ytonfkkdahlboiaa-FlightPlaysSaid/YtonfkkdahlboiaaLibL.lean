/- Ranges over functions whose rounds all go on; appends by the place of the slice; where cells come from. -/
import Derived.Test.YtonfkkdahlboiaaLibK
import Derived.LaidEqlPtr
import Derived.Lib.SliceRun
import Derived.Laws.StructEq
import Derived.Laws.Cover3
namespace Go.Proofs.Ytonfkkdahlboiaa
open Go.RowKit

theorem cnt_perm {l m : Seg} (h : l.Perm m) (a : Chunk) : cnt a l = cnt a m := by
  induction h with
  | nil => rfl
  | cons x _ ih => simp only [cnt, ih]
  | swap x y l => simp only [cnt]; omega
  | trans _ _ ih1 ih2 => exact ih1.trans ih2
theorem Le.of_perm {L M : List Seg} (h : L.Perm M) : Le L M := fun a => Nat.le_of_eq (cnt_perm h.flatten.symm a)
theorem Le.sub {L M : List Seg} (h : M.Sublist L) : Le L M := by
  induction h with
  | slnil => exact .refl _
  | cons a _ ih => intro c; have := ih c; simp only [les] at this ⊢; omega
  | cons_cons a _ ih => intro c; have := ih c; simp only [les] at this ⊢; omega

/-- What is known of the blocks: each is there once. -/
theorem TC_nodup {P : Program} {ro : Option Nat} {n : Nat} {ds : List Deferred} {w₀ : World} {c : Code} {Q : Exit → Act → World → Prop} {L : List Seg} {σ : Sig}
    (h : (L.flatten.map Prod.fst).Nodup → TC P ro n ds w₀ c Q L σ) : TC P ro n ds w₀ c Q L σ := ⟨fun w hs => (h hs.sat.1).out w hs⟩

theorem TC_have {P : Program} {ro : Option Nat} {n : Nat} {ds : List Deferred} {w₀ : World} {c : Code} {Q : Exit → Act → World → Prop} {L : List Seg} {σ : Sig} {q : Prop}
    (h : ∀ w, sat w L → q) (k : q → TC P ro n ds w₀ c Q L σ) : TC P ro n ds w₀ c Q L σ := ⟨fun w hs => (k (h w hs.sat)).out w hs⟩
theorem YCt.le {P : Program} {l : Nat} {args : List Value} {C C' : List Seg} {Post : Value → List Seg → Prop} (h : YCt P l args C Post) (hle : Le C' C) : YCt P l args C' Post :=
  ⟨fun w R hs => h.out w R (sat_le hs fun a => by have := hle a; simp only [les] at this ⊢; omega)⟩

def busy (r : Loop) : Loop := { r with state := .busy }

theorem TC_ranged {P : Program} {n : Nat} {ds : List Deferred} {w₀ : World} {Q : Exit → Act → World → Prop} {L : List Seg} {σ : Sig} {g : Operand} {ps : Array Tmp} {assign body : Code} {f : FuncId} [TFn P f]
    {fs cs : List Value} {C R : List Seg} (Post : Nat → Loop → Value → List Seg → Prop)
    (hg : ev σ g = .func (.func f) fs.toArray cs.toArray) (hok : okO n g = true) (hp : Pulls C L R)
    (hc : ∀ fn l d r, r = ⟨.ready, none, fn, (fr n σ ds).tmps, ps, assign, body, d⟩ → Ct P f (fs ++ [yieldV l] ++ cs) (loopSeg l r :: C) (Post l r))
    (k : ∀ l d r v C', Post l r v C' → ∃ D, Le C' (loopSeg l r :: D) ∧ TQ n (markOf d :: ds) w₀ Q .normal (defSeg d :: (D ++ R)) σ) :
    TC P none n ds w₀ (.rangeFunc g ps assign body) Q L σ :=
  TC_range (Post := fun l v C' => ∃ r, r.state = .ready ∧ r.pending = none ∧ Post l r v C') hg hok hp
    (fun fn l d => Ct.post (hc fn l d _ rfl) fun v D h => ⟨D, ⟨_, rfl, rfl, h⟩, fun _ _ hs => hs⟩)
    fun l d v C' ⟨r, h1, h2, h⟩ => by
      obtain ⟨D, h3, h4⟩ := k l d r v C' h
      exact ⟨r, D, by rw [h1]; simp, h2, h3, h4⟩

theorem YCt_body {P : Program} {l n t : Nat} {σ : Sig} {ds : List Deferred} {fn : FuncId} {assign body : Code} {d : Nat} {x : Value} {r : Loop} {C : List Seg} {Post : Value → List Seg → Prop}
    (hr : r = ⟨.ready, none, fn, (fr n σ ds).tmps, #[t], assign, body, d⟩)
    (h : ∀ w₀ R, TC P (some l) n [] w₀ assign (AtBegin P l body (roundPost P l (RoundOwes Post R w₀))) (loopSeg l r :: (C ++ R)) (upd σ t x)) : YCt P l [x] (loopSeg l r :: C) Post := by
  subst hr; exact YCt_intro h

section
variable {P : Program} {n l : Nat} {w₀ : World} {L M : List Seg} {σ : Sig} {body : Code} {Q : Exit → Act → World → Prop}
theorem TQ_begun {r : Loop} (hr : r.state = .ready) (hL : Le L (loopSeg l r :: M)) (k : TC P (some l) n [] w₀ body Q (loopSeg l (busy r) :: M) σ) : TQ n [] w₀ (AtBegin P l body Q) .normal L σ := TQ_begin hr hL k
theorem TQ_roundOn {r : Loop} {Post : Value → List Seg → Prop} {R C' : List Seg} (h1 : r.state = .ready) (h2 : r.pending = none) (hL : Le L (loopSeg l (busy r) :: M)) (hp : Post (.bool true) C')
    (hC : Le (loopSeg l r :: M) (C' ++ R)) : TQ n [] w₀ (roundPost P l (RoundOwes Post R w₀)) .normal L σ := by
  have e : ({ busy r with state := .ready, pending := none } : Loop) = r := by
    obtain ⟨a, b, c, d, e, f, g, h⟩ := r
    simp only at h1 h2
    subst h1; subst h2
    rfl
  exact TQ_roundEnd hL hp (by rw [e]; exact hC)
end

/-! ### Where cells come from -/
theorem src_at {L : List Seg} {b off T m : Nat} {cells news : List Value} {fz : Nat × Nat} (i : Nat) (hm : L[i]? = some [(b, .cells cells.toArray T fz)]) (ht : (cells.drop off).take m = news) :
    ∀ w, sat w L → SrcAt w (some ⟨b, off, none⟩) news := fun _ hs => .of (sat_one hs (List.mem_of_getElem? hm)) ht
theorem src_sl {L : List Seg} {T sz : Nat} {a : Option Addr} {n cap : Nat} {C : Seg} {cs : List Value} (h : Sl T sz a n cap C cs) (i : Nat) (hm : L[i]? = some C) : ∀ w, sat w L → SrcAt w a cs :=
  fun _ hs => .sl h fun _ hc => sat_mem hs (List.mem_of_getElem? hm) hc
theorem src_mem {L : List Seg} {C : Seg} {b off T m : Nat} {cells news : List Value} {fz : Nat × Nat} (hc : (b, Obj.cells cells.toArray T fz) ∈ C) (i : Nat) (hm : L[i]? = some C) (ht : (cells.drop off).take m = news) :
    ∀ w, sat w L → SrcAt w (some ⟨b, off, none⟩) news := fun _ hs => .of (sat_mem hs (List.mem_of_getElem? hm) hc) ht
theorem src_nil {L : List Seg} (a : Option Addr) : ∀ w, sat w L → SrcAt w a [] := fun _ _ => .nil _ _
/-- The elements of a slice that lies in the segment H. -/
theorem src_slice {L : List Seg} {H : Seg} {sz : Nat} {a : Option Addr} {len : Nat} {xs : List (List Value)} (h : SliceAt H sz a len xs) (hsz : 0 < sz) (hx : ∀ x ∈ xs, x.length = sz) (i : Nat) (hm : L[i]? = some H) :
    ∀ w, sat w L → SrcAt w a xs.flatten := fun w hs => by
  cases xs with
  | nil => exact .nil _ _
  | cons x0 xs =>
    obtain ⟨b, off, T, cs, fz, rfl, hmem, h0⟩ := h.at_ 0 x0 rfl
    have hb := sat_mem hs (List.mem_of_getElem? hm) hmem
    refine .inr ⟨_, rfl, fun j u hu => ?_⟩
    rw [addr_add]
    refine cell_of hb ?_
    have flat : ∀ (l : List (List Value)) (k : Nat), (∀ x ∈ l, x.length = sz) → (∀ i x, l[i]? = some x → (cs.drop (off + (k + i) * sz)).take sz = x) → ∀ j u, l.flatten[j]? = some u → cs[off + k * sz + j]? = some u := by
      intro l
      induction l with
      | nil => intro k _ _ j u hu; simp at hu
      | cons y l ih =>
        intro k hl hat j u hu
        rw [List.flatten_cons, List.getElem?_append] at hu
        have hy : y.length = sz := hl y (.head _)
        split at hu
        · rename_i hj
          have h0 := hat 0 y rfl
          rw [Nat.add_zero] at h0
          rw [take_at h0 (by omega)]
          exact hu
        · rename_i hj
          have := ih (k + 1) (fun x hx => hl x (.tail _ hx)) (fun i x hx => by have := hat (i + 1) x hx; rw [show k + 1 + i = k + (i + 1) by omega]; exact this) (j - y.length) u hu
          rw [hy] at this
          rw [show off + k * sz + j = off + (k + 1) * sz + (j - sz) by rw [Nat.add_mul]; omega]
          exact this
    have := flat (x0 :: xs) 0 hx (fun i x hxi => by
      obtain ⟨b', off', T', cs', fz', ha, hmem', hi⟩ := h.at_ i x hxi
      simp only [Option.some.injEq, Addr.mk.injEq] at ha
      obtain ⟨rfl, rfl, _⟩ := ha
      have hb' := sat_mem hs (List.mem_of_getElem? hm) hmem'
      rw [hb] at hb'
      simp only [Option.some.injEq, Obj.cells.injEq] at hb'
      have e : cs = cs' := by simpa using hb'.1
      rw [e, Nat.zero_add]
      exact hi) j u hu
    simpa using this

section
variable {P : Program} {ops : Array Oper} {Q : Exit → Act → World → Prop} {n : Nat} {ds : List Deferred} {w₀ : World} {LS L R : List Seg} {σ : Sig} {rest : List (Oper × Nat)}
variable {d ty : Nat} {p : String} {af : Array Edge} {g : Option (Nat × Bool)} {x y : Operand} {t : Nat}
/-- An append to a slice whose block is a segment. -/
theorem TR_appendP {e sz bytes : Nat} {z : List Value} [TApp P t e sz bytes z] {a xa : Option Addr} {k cap m xc f : Nat} {C : Seg} {cs news : List Value} (hf : f = 0 ∨ f = 2 ∧ ∀ w, St w₀ w R → St w₀ w LS)
    (hS : Sl e sz a k cap C cs) (hx : ev σ x = .slice a k cap) (hy : ev σ y = .slice xa m xc) (hp : Pulls [C] L R) (hsrc : ∀ w, sat w L → SrcAt w xa news) (hl : news.length = m * sz) (h1 : news.all one = true)
    (hm : (k + m) * (bytes + 1) ≤ 140737488355328) (hw : wantS ops σ ⟨some d, .call ⟨.builtin .append, #[x, y], #[t, t]⟩, ty, p, af, g⟩ = true)
    (kk : ∀ a' cap' C', Sl e sz a' (k + m) cap' C' (cs ++ news) → TR P ops Q n ds w₀ LS rest (C' :: R) (upd σ d (.slice a' (k + m) cap'))) :
    TR P ops Q n ds w₀ LS ((⟨some d, .call ⟨.builtin .append, #[x, y], #[t, t]⟩, ty, p, af, g⟩, f) :: rest) L σ :=
  TR_append hf hS hx hy (.of_perm hp.perm) hsrc hl (fun u hu => List.all_eq_true.1 h1 u hu) hm hw kk
/-- An append to a slice without a block. -/
theorem TR_appendN {e sz bytes : Nat} {z : List Value} [TApp P t e sz bytes z] {a xa : Option Addr} {k cap m xc f : Nat} {cs news : List Value} (hf : f = 0 ∨ f = 2 ∧ ∀ w, St w₀ w L → St w₀ w LS)
    (hS : Sl e sz a k cap [] cs) (hx : ev σ x = .slice a k cap) (hy : ev σ y = .slice xa m xc) (hsrc : ∀ w, sat w L → SrcAt w xa news) (hl : news.length = m * sz) (h1 : news.all one = true)
    (hm : (k + m) * (bytes + 1) ≤ 140737488355328) (hw : wantS ops σ ⟨some d, .call ⟨.builtin .append, #[x, y], #[t, t]⟩, ty, p, af, g⟩ = true)
    (kk : ∀ a' cap' C', Sl e sz a' (k + m) cap' C' (cs ++ news) → TR P ops Q n ds w₀ LS rest (C' :: L) (upd σ d (.slice a' (k + m) cap'))) :
    TR P ops Q n ds w₀ LS ((⟨some d, .call ⟨.builtin .append, #[x, y], #[t, t]⟩, ty, p, af, g⟩, f) :: rest) L σ :=
  TR_append hf hS hx hy (fun a => by simp only [les]; omega) hsrc hl (fun u hu => List.all_eq_true.1 h1 u hu) hm hw kk
end

section
variable {P : Program} {ops : Array Oper} {Q : Exit → Act → World → Prop} {n : Nat} {ds : List Deferred} {w₀ : World} {LS L : List Seg} {σ : Sig} {rest : List (Oper × Nat)}
variable {ty : Nat} {p : String} {af : Array Edge} {g : Option (Nat × Bool)} {x y : Operand} {t : Nat}
theorem TR_storeA5_0 {s : Nat} [i : TAgg P t s] {b off T : Nat} {cs vs : List Value} {M : List Seg} (hx : ev σ x = .pointer (some ⟨b, off, none⟩)) (hL : L = [(b, .cells cs.toArray T (0, 0))] :: M) (hy : ev σ y = .agg vs.toArray)
    (hv1 : (vs.all one && Nat.beq vs.length s) = true) (hl : Nat.ble (off + vs.length) cs.length = true) (hw : wantS ops σ ⟨none, .store t x y, ty, p, af, g⟩ = true) (hK : ∀ w, St w₀ w M → St w₀ w LS.tail)
    (k : TR P ops Q n ds w₀ LS rest ([(b, .cells (setAll cs off vs).toArray T (0, 0))] :: M) σ) : TR P ops Q n ds w₀ LS ((⟨none, .store t x y, ty, p, af, g⟩, 5) :: rest) L σ := by
  subst hL
  simp only [Bool.and_eq_true, Nat.beq_eq] at hv1
  refine TR_unit5 (L' := [(b, .cells (setAll cs off vs).toArray T (0, 0))] :: M) hw (fun w hs => ?_) (fun w h => hK w h.tail) k
  obtain ⟨w', h3, h4⟩ := storeCells_St (P := P) (w₀ := w₀) vs 0 off cs w hv1.1 (by have := Nat.le_of_ble_eq_true hl; omega) hs
  refine ⟨w', ?_, h4⟩
  simp [execOp, hx, hy, Instr.storeAt, Instr.sureAddr, storeVar, sizeOf_run i.s, Value.cells, hv1.2, h3]
end

/-! ### Comparing -/
section
variable {P : Program} {σ : Sig} {d : Option Nat} {ty : Nat} {p : String} {af : Array Edge} {g : Option (Nat × Bool)} {x y : Operand} {t t' : Nat}
theorem PV_convu64 {k' : IntKind} {a : Int} [TInt P t k'] [TInt P t' .u64] (hx : ev σ x = .int k' a) : PV P σ ⟨d, .convert t t' x, ty, p, af, g⟩ (.int .u64 (a % 18446744073709551616)) :=
  ⟨fun w => by simp [execOp, hx, conv_run (k := .u64) t t', u64_wrap]⟩
theorem PV_eql_slice {a : Option Addr} {n c e sz : Nat} [i : TSlice P t e sz] (hx : ev σ x = .slice a n c) (hy : ev σ y = .slice none 0 0) : PV P σ ⟨d, .binOp .eql t x y t', ty, p, af, g⟩ (.bool a.isNone) := ⟨fun w => by
  simp [execOp, hx, hy, eqGuard_at_slice, Go.Lib.run_eql_slice_nil _ _ _ _ _ _ _ _ i.h]⟩
theorem PV_neq_slice {a : Option Addr} {n c e sz : Nat} [i : TSlice P t e sz] (hx : ev σ x = .slice a n c) (hy : ev σ y = .slice none 0 0) : PV P σ ⟨d, .binOp .neq t x y t', ty, p, af, g⟩ (.bool (!a.isNone)) := ⟨fun w => by
  simp [execOp, hx, hy, eqGuard_at_slice, run_neq_slice_nil _ _ _ _ _ _ i.h]⟩
end
section
variable {P : Program} {ops : Array Oper} {Q : Exit → Act → World → Prop} {n : Nat} {ds : List Deferred} {w₀ : World} {LS L : List Seg} {σ : Sig} {rest : List (Oper × Nat)}
variable {d ty : Nat} {p : String} {af : Array Edge} {g : Option (Nat × Bool)} {x y : Operand} {t t' : Nat}
theorem peq_run {e : Nat} [i : TPtr P t e] {w : World} {b c Tb Tc : Nat} {cb cc : List Value} (hb : w.heap[b]? = some (.cells cb.toArray Tb (0, 0))) (hc : w.heap[c]? = some (.cells cc.toArray Tc (0, 0))) :
    (binOp .eql t (.pointer (some ⟨b, 0, none⟩)) (.pointer (some ⟨c, 0, none⟩))).run P w = .ok (.bool (decide (b = c))) w := by
  have hs := i.s
  cases hi : P.info? e with
  | none => simp [hi] at hs
  | some j =>
    have hz : j.size ≠ 0 := by simp [hi] at hs; omega
    by_cases h : b = c
    · subst h
      rw [run_eql_ptr_same w _ i.h hi, decide_eq_true rfl]
    · rw [run_eql_ptr_other w i.h hi hz (by simp [h]) hb hc, decide_eq_false h]
theorem TR_peq0 {e : Nat} [TPtr P t e] {b c Tb Tc : Nat} {cb cc : List Value} {C D : Seg} (hx : ev σ x = .pointer (some ⟨b, 0, none⟩)) (hy : ev σ y = .pointer (some ⟨c, 0, none⟩)) (hb : (b, Obj.cells cb.toArray Tb (0, 0)) ∈ C) (hC : C ∈ L)
    (hc : (c, Obj.cells cc.toArray Tc (0, 0)) ∈ D) (hD : D ∈ L) (hw : wantS ops σ ⟨some d, .binOp .eql t x y t', ty, p, af, g⟩ = true)
    (k : TR P ops Q n ds w₀ LS rest L (upd σ d (.bool (decide (b = c))))) : TR P ops Q n ds w₀ LS ((⟨some d, .binOp .eql t x y t', ty, p, af, g⟩, 0) :: rest) L σ :=
  TR_ld0 (fun w hs => by simp [execOp, hx, hy, eqGuard_at_pointer, peq_run (sat_mem hs.sat hC hb) (sat_mem hs.sat hD hc)]) hw k
end

/-! ### Results, whatever they are -/
inductive ResOk (P : Program) (n : Nat) (L : List Seg) (σ : Sig) : List ResultVar → List Value → Prop
  | nil : ResOk P n L σ [] []
  | tmp {t : Nat} {v : Value} {rs : List ResultVar} {vs : List Value} (hn : Nat.blt t n = true) (hv : σ t = v) (h : ResOk P n L σ rs vs) : ResOk P n L σ (.tmp t :: rs) (v :: vs)
  | agg {a t s b T : Nat} {cs : List Value} {fz : Nat × Nat} {rs : List ResultVar} {vs : List Value} (it : TAgg P t s) (hn : Nat.blt a n = true) (hv : σ a = .pointer (some ⟨b, 0, none⟩)) (i : Nat)
      (hm : L[i]? = some [(b, .cells cs.toArray T fz)]) (hl : cs.length = s) (h : ResOk P n L σ rs vs) : ResOk P n L σ (.cell a t :: rs) (.agg cs.toArray :: vs)
  | scal {a t b T : Nat} {v : Value} {fz : Nat × Nat} {rs : List ResultVar} {vs : List Value} (it : TScal P t) (hn : Nat.blt a n = true) (hv : σ a = .pointer (some ⟨b, 0, none⟩)) (i : Nat)
      (hm : L[i]? = some [(b, .cells [v].toArray T fz)]) (h : ResOk P n L σ rs vs) : ResOk P n L σ (.cell a t :: rs) (v :: vs)

def resF (tmps : Array Value) : ResultVar → Sem Value
  | .tmp t => pure (tmps.getD t undef)
  | .cell a t => do loadVar t (← asAddr (tmps.getD a undef))

theorem resOk_run {P : Program} {n : Nat} {L : List Seg} {σ : Sig} {w : World} (hs : sat w L) : ∀ {rs : List ResultVar} {vs : List Value}, ResOk P n L σ rs vs → (rs.mapM (resF (fr n σ []).tmps)).run P w = .ok vs w
  | _, _, .nil => by simp
  | _, _, .tmp hn hv h => by
    have ih := resOk_run hs h
    simp only [List.mapM_cons, Sem.run_bind, resF, fr_getD σ [] hn, hv, Sem.run_pure, Result.andThen_ok]
    rw [show (List.mapM (resF (fr n σ []).tmps) _).run P w = _ from ih]
    simp
  | _, _, .agg it hn hv i hm hl h => by
    have ih := resOk_run hs h
    have hmem := sat_one hs (List.mem_of_getElem? hm)
    have h1 := loadAgg_run (P := P) (off := 0) (i := it) hmem (by omega)
    simp only [Instr.loadAt, Instr.sureAddr, Sem.run_bind, Sem.run_pure, Result.andThen_ok] at h1
    simp only [List.mapM_cons, Sem.run_bind, resF, fr_getD σ [] hn, hv, asAddr, Sem.run_pure, Result.andThen_ok]
    rw [h1]
    simp only [Result.andThen_ok]
    rw [show (List.mapM (resF (fr n σ []).tmps) _).run P w = _ from ih]
    simp [← hl]
  | _, _, .scal (t := t') it hn hv i hm h => by
    have ih := resOk_run hs h
    have hmem := sat_one hs (List.mem_of_getElem? hm)
    have h1 := load_run (P := P) (t := t') (cell_of (off := 0) hmem rfl)
    simp only [Instr.loadAt, Instr.sureAddr, Sem.run_bind, Sem.run_pure, Result.andThen_ok] at h1
    simp only [List.mapM_cons, Sem.run_bind, resF, fr_getD σ [] hn, hv, asAddr, Sem.run_pure, Result.andThen_ok]
    rw [h1]
    simp only [Result.andThen_ok]
    rw [show (List.mapM (resF (fr n σ []).tmps) _).run P w = _ from ih]
    simp

section
variable {P : Program} {n : Nat} {w₀ : World} {L R : List Seg} {σ : Sig} {fn : Func} {Post : Value → List Seg → Prop} {C' : List Seg}
theorem TQ_retG {rs : List ResultVar} {vs : List Value} (hr : fn.results = rs.toArray) (hrs : ResOk P n L σ rs vs) (hne : (Nat.beq vs.length 1) = false) (hp : Post (.tuple vs.toArray) C') (hL : Le L (C' ++ R)) :
    TQ n [] w₀ (bodyPost P fn (Owes Post R w₀)) .ret L σ :=
  ⟨fun w hw => by
    refine ⟨rfl, .tuple vs.toArray, ?_, Owes_le hp hL hw⟩
    have h1 := resOk_run (P := P) hw.sat hrs
    have hne' : ¬ vs.length = 1 := fun h => by rw [h] at hne; cases hne
    have e : (fn.results.mapM (resF (fr n σ []).tmps)).run P w = .ok vs.toArray w := by
      rw [hr, Array.mapM_eq_mapM_toList, Sem.run_map, List.toList_toArray, h1]
      rfl
    have e2 : (results fn (fr n σ []).tmps).run P w = ((fn.results.mapM (resF (fr n σ []).tmps)).run P w).andThen fun vs w' => .ok (if h : vs.size = 1 then vs[0] else .tuple vs) w' := by
      unfold results
      simp only [Sem.run_bind, Sem.run_pure]
      rfl
    rw [e2, e]
    simp [hne']⟩
end

structure Row where
  a : Option Addr
  cap : Nat
  C : Seg
/-- A row of cells, as a slice. -/
abbrev Row.val (r : Row) (n : Nat) : Value := .slice r.a n r.cap
abbrev Row.ok (r : Row) (T sz n : Nat) (cs : List Value) : Prop := Sl T sz r.a n r.cap r.C cs
end Go.Proofs.Ytonfkkdahlboiaa
