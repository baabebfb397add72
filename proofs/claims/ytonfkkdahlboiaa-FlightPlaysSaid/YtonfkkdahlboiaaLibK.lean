/- Slices that are made, cut and appended to. -/
import Derived.Test.YtonfkkdahlboiaaLibJ
import Derived.Laws.AppendOwn
import Derived.Laws.Slices
import Derived.Laws.MakeOwn
namespace Go.Proofs.Ytonfkkdahlboiaa
open Go.RowKit

/-- A slice of n elements of sz cells each, which are cs, and the block C that is its own. -/
inductive Sl (T sz : Nat) : Option Addr → Nat → Nat → Seg → List Value → Prop where
  | nil : Sl T sz none 0 0 [] []
  | zero (a : Addr) : Sl T sz (some a) 0 0 [] []
  | row {b off n cap : Nat} {cells : List Value} {cs : List Value} (hn : cs.length = n * sz) (hc : n ≤ cap) (hm : cap ≤ maxLen) (hl : off + cap * sz ≤ cells.length) (ht : (cells.drop off).take (n * sz) = cs) :
      Sl T sz (some ⟨b, off, none⟩) n cap [(b, .cells cells.toArray T (0, 0))] cs

theorem Sl.length {T sz : Nat} {a : Option Addr} {n cap : Nat} {C : Seg} {cs : List Value} (h : Sl T sz a n cap C cs) : cs.length = n * sz := by
  cases h with
  | nil => simp
  | zero => simp
  | row hn => exact hn
theorem Sl.cap {T sz : Nat} {a : Option Addr} {n cap : Nat} {C : Seg} {cs : List Value} (h : Sl T sz a n cap C cs) : n ≤ cap ∧ cap ≤ maxLen := by
  cases h with
  | nil => exact ⟨Nat.le_refl _, Nat.zero_le _⟩
  | zero => exact ⟨Nat.le_refl _, Nat.zero_le _⟩
  | row hn hc hm => exact ⟨hc, hm⟩
theorem Sl.opened {T sz : Nat} {a : Option Addr} {n cap : Nat} {C : Seg} {cs : List Value} (h : Sl T sz a n cap C cs) (h0 : 0 < n) :
    ∃ (b off : Nat) (cells : List Value), a = some ⟨b, off, none⟩ ∧ C = [(b, .cells cells.toArray T (0, 0))] ∧ off + cap * sz ≤ cells.length ∧ (cells.drop off).take (n * sz) = cs := by
  cases h with
  | nil => omega
  | zero => omega
  | row hn hc hm hl ht => exact ⟨_, _, _, rfl, rfl, hl, ht⟩

class TApp (P : Program) (t : Nat) (e sz bytes : outParam Nat) (z : outParam (List Value)) : Prop where
  h : P.underlying t = some (.slice e)
  i : (P.info? e).map (fun i => (i.size, i.bytes, i.zero.map (fun v => v.cells.toList))) = some (sz, bytes, some z)
  zl : z.length = sz
  pos : 0 < sz

/-- Where cells come from. -/
def SrcAt (w : World) (a : Option Addr) (news : List Value) : Prop :=
  (a = none ∧ news = []) ∨ ∃ ad, a = some ad ∧ ∀ j u, news[j]? = some u → w.cell? (ad.add j) = some u

theorem SrcAt.nil (w : World) (a : Option Addr) : SrcAt w a [] := by
  cases a with
  | none => exact .inl ⟨rfl, rfl⟩
  | some ad => exact .inr ⟨ad, rfl, fun j u h => by simp at h⟩
theorem SrcAt.of {w : World} {b off T : Nat} {cells news : List Value} {fz : Nat × Nat} (h : w.heap[b]? = some (.cells cells.toArray T fz)) {m : Nat} (ht : (cells.drop off).take m = news) : SrcAt w (some ⟨b, off, none⟩) news :=
  .inr ⟨_, rfl, fun j u hu => by
    rw [addr_add]
    refine cell_of h ?_
    rw [← ht, List.getElem?_take] at hu
    split at hu
    · rw [List.getElem?_drop] at hu; exact hu
    · cases hu⟩
theorem SrcAt.sl {T sz : Nat} {a : Option Addr} {n cap : Nat} {C : Seg} {cs : List Value} (h : Sl T sz a n cap C cs) {w : World} (hw : ∀ c ∈ C, w.heap[c.1]? = some c.2) : SrcAt w a cs := by
  cases h with
  | nil => exact .inl ⟨rfl, rfl⟩
  | zero a => exact .nil _ _
  | row hn hc hm hl ht => exact .of (hw _ (.head _)) ht

theorem oneCell_of {v : Value} (h : one v = true) : v.oneCell' = true := by cases v <;> simp_all [one, Value.oneCell']

section
variable {P : Program}
theorem first_run {w : World} {sz m xc : Nat} {xa : Option Addr} {news : List Value} (h : SrcAt w xa news) (hl : news.length = m * sz) : (Builtin.firstCells sz m (.slice xa m xc)).run P w = .ok news.toArray w := by
  rcases h with ⟨rfl, rfl⟩ | ⟨ad, rfl, h⟩
  · exact run_firstCells_none _ _ _ _ _
  · exact run_firstCells_some _ _ _ _ _ _ _ hl h

theorem St.fresh {w₀ w : World} {C : Seg} {M : List Seg} (h0 : St w₀ w (C :: M)) (o : Obj) : St w₀ (w.drew.alloc o) ([(w.heap.size, o)] :: M) :=
  have h : St w₀ w M := h0.tail
  ⟨sat_push (w := w.drew) (sat_heap h.sat rfl) rfl, h.env.trans ⟨rfl, rfl, rfl, by rw [alloc_eq]; exact Nat.le_trans (Nat.le_succ _) (Nat.le_of_eq (Array.size_push _).symm)⟩⟩

theorem append_run {t e sz bytes : Nat} {z : List Value} [i : TApp P t e sz bytes z] (ty : Nat) {w₀ w : World} {M : List Seg} {a xa : Option Addr} {n cap m xc : Nat} {C : Seg} {cs news : List Value}
    (hS : Sl e sz a n cap C cs) (hst : St w₀ w (C :: M)) (hsrc : SrcAt w xa news) (hl : news.length = m * sz) (h1 : ∀ u ∈ news, one u = true) (hm : n + m ≤ maxLen) (hb : (n + m) * bytes ≤ 140737488355328) :
    ∃ a' cap' C' w', (Builtin.append_ #[t, t] ty #[.slice a n cap, .slice xa m xc]).run P w = .ok (.slice a' (n + m) cap') w' ∧ Sl e sz a' (n + m) cap' C' (cs ++ news) ∧ St w₀ w' (C' :: M) := by
  have ht := i.h
  have hpos := i.pos
  have hzl := i.zl
  have hsmall : n + m ≤ 9223372036854775807 := by simp only [maxLen] at hm; omega
  obtain ⟨inf, hi, hsz, hby, zv, hz, hzc⟩ : ∃ inf, P.info? e = some inf ∧ inf.size = sz ∧ inf.bytes = bytes ∧ ∃ zv, inf.zero = some zv ∧ zv.cells.toList = z := by
    have := i.i
    cases hi : P.info? e with
    | none => simp [hi] at this
    | some inf =>
      simp only [hi, Option.map_some, Option.some.injEq, Prod.mk.injEq] at this
      obtain ⟨h1, h2, h3⟩ := this
      cases hz : inf.zero with
      | none => simp [hz] at h3
      | some zv => exact ⟨inf, rfl, h1, h2, zv, hz, by simpa [hz] using h3⟩
  subst hsz
  subst hby
  have hzs : zv.cells.size = inf.size := by rw [← hzl, ← hzc]; simp
  have hf := first_run (P := P) (xc := xc) hsrc hl
  have hnews0 : m = 0 → news = [] := fun h => List.eq_nil_of_length_eq_zero (by rw [hl, h]; simp)
  have some_of : 0 < m → ∃ ad, xa = some ad ∧ ∀ j u, news[j]? = some u → w.cell? (ad.add j) = some u := fun h => by
    rcases hsrc with ⟨_, rfl⟩ | h'
    · have h2 : 0 < m * inf.size := Nat.mul_pos h hpos
      rw [← hl] at h2; exact absurd h2 (Nat.lt_irrefl _)
    · exact h'
  -- a new row
  have fresh : ∀ (olds : List Value) (k g : Nat), olds.length = k * inf.size → k + m ≤ g → g ≤ maxLen →
      Sl e inf.size (some ⟨w.heap.size, 0, none⟩) (k + m) g [(w.heap.size, .cells (olds.toArray ++ news.toArray ++ Builtin.zeroCells zv.cells (g - (k + m))) e (0, 0))] (olds ++ news) := by
    intro olds k g ho hg hgm
    have e1 : (olds.toArray ++ news.toArray ++ Builtin.zeroCells zv.cells (g - (k + m))) = (olds ++ news ++ (Builtin.zeroCells zv.cells (g - (k + m))).toList).toArray := by
      apply Array.ext'; simp
    have hlen : (olds ++ news).length = (k + m) * inf.size := by rw [List.length_append, ho, hl, Nat.add_mul]
    rw [e1]
    refine .row hlen hg hgm ?_ ?_
    · simp only [List.length_append, Array.length_toList, size_zeroCells, hzs] at hlen ⊢
      rw [Nat.zero_add, hlen, ← Nat.add_mul]
      exact Nat.mul_le_mul_right _ (by omega)
    · rw [List.drop_zero, ← hlen]; exact List.take_left
  have hgr : ∀ k old, k + m ≤ maxLen → k + m ≤ grownCap w (k + m) old e ∧ grownCap w (k + m) old e ≤ maxLen := fun k old h => ⟨grownCap_ge w _ _ _, grownCap_le_maxLen w _ _ _ h⟩
  cases hS with
  | nil =>
    by_cases h0 : m = 0
    · obtain rfl := hnews0 h0
      subst h0
      refine ⟨none, 0, [], w, ?_, .nil, hst⟩
      simp [Builtin.append_, run_underlying ht, sizeOf, typeInfo, hi, Builtin.lenOf, hf]
    · obtain ⟨ad, rfl, hc⟩ := some_of (by omega)
      have hr := run_append_nil (P := P) w t ty e inf zv ht hi hz ad m xc news hl hc (by omega) (by omega) (by simp only [Nat.zero_add] at hb; omega)
      have hfr := fresh [] 0 (grownCap w (0 + m) 0 e) (by simp) (hgr 0 0 hm).1 (hgr 0 0 hm).2
      simp only [Nat.zero_add, List.nil_append, Array.empty_append] at hfr ⊢
      exact ⟨_, _, _, _, hr, hfr, St.fresh (M := M) hst _⟩
  | zero ad' =>
    by_cases h0 : m = 0
    · obtain rfl := hnews0 h0
      subst h0
      refine ⟨some ad', 0, [], w, ?_, .zero ad', hst⟩
      simp [Builtin.append_, run_underlying ht, sizeOf, typeInfo, hi, Builtin.lenOf, hf, storeCells]
    · obtain ⟨ad, rfl, hc⟩ := some_of (by omega)
      have hr := run_append_grow (P := P) w t ty e inf zv ht hi hz ad' 0 0 [] (by simp) (fun j v h => by simp at h) ad m xc news hl hc (by omega) (by omega) (growslice_fits (by omega) hb)
      have hfr := fresh [] 0 (grownCap w (0 + m) 0 e) (by simp) (hgr 0 0 hm).1 (hgr 0 0 hm).2
      exact ⟨_, _, _, _, hr, hfr, St.fresh (M := M) hst _⟩
  | @row b off _ _ cells _ hn hc hcm hlen htk =>
    have hg : w.heap[b]? = some (.cells cells.toArray e (0, 0)) := sat_one hst.sat (.head _)
    have hadd : (n + m) * inf.size = n * inf.size + m * inf.size := Nat.add_mul _ _ _
    by_cases hroom : n + m ≤ cap
    · have hle : (n + m) * inf.size ≤ cap * inf.size := Nat.mul_le_mul_right _ hroom
      have hst' := run_storeCells_at P b (off + n * inf.size) e news 0 cells.toArray w hg (by simp only [List.size_toArray]; omega) (fun v hv => oneCell_of (h1 v hv))
      simp only [Nat.add_zero] at hst'
      refine ⟨some ⟨b, off, none⟩, cap, [(b, .cells (cells.take (off + n * inf.size) ++ news ++ cells.drop (off + n * inf.size + news.length)).toArray e (0, 0))],
        w.setRow b (cells.take (off + n * inf.size) ++ news ++ cells.drop (off + n * inf.size + news.length)).toArray, ?_, ?_, ?_⟩
      · simp [Builtin.append_, run_underlying ht, sizeOf, typeInfo, hi, Builtin.lenOf, hroom, hf, Addr.add_lit, hst']
      · refine .row (by rw [List.length_append, hn, hl, hadd]) hroom hcm ?_ ?_
        · simp only [List.length_append, List.length_take, List.length_drop]
          omega
        · have e1 : cells.take (off + n * inf.size) = cells.take off ++ (cells.drop off).take (n * inf.size) := List.take_add
          have l1 : (cells.take off).length = off := by rw [List.length_take]; omega
          have l2 : (cs ++ news).length = (n + m) * inf.size := by rw [List.length_append, hn, hl, hadd]
          have e2 : cells.take (off + n * inf.size) ++ news ++ cells.drop (off + n * inf.size + news.length) = cells.take off ++ ((cs ++ news) ++ cells.drop (off + n * inf.size + news.length)) := by
            rw [e1, htk, List.append_assoc, List.append_assoc, List.append_assoc]
          rw [e2, List.drop_left' l1, List.take_left' l2]
      · have hb' := hst.sat
        refine ⟨sat_modify hb' ?_ ?_, hst.env.trans ⟨rfl, rfl, rfl, by simp [World.setRow]⟩⟩
        · exact setRow_heap w b _ _ _ _ hg
        · exact fun k hk => setRow_other w b k _ hk
    · obtain ⟨ad, rfl, hcc⟩ := some_of (by omega)
      have hold : ∀ j v, cs[j]? = some v → w.cell? ((⟨b, off, none⟩ : Addr).add j) = some v := fun j u hu => by
        rw [addr_add]
        refine cell_of hg ?_
        rw [← htk, List.getElem?_take] at hu
        split at hu
        · rw [List.getElem?_drop] at hu; exact hu
        · cases hu
      have hr := run_append_grow (P := P) w t ty e inf zv ht hi hz ⟨b, off, none⟩ n cap cs hn hold ad m xc news hl hcc (by omega) (by omega) (growslice_fits (by omega) hb)
      have hfr := fresh cs n (grownCap w (n + m) cap e) hn (hgr n cap hm).1 (hgr n cap hm).2
      exact ⟨_, _, _, _, hr, hfr, St.fresh (M := M) hst _⟩
end

section
variable {P : Program} {ops : Array Oper} {Q : Exit → Act → World → Prop} {n : Nat} {ds : List Deferred} {w₀ : World} {LS L R : List Seg} {σ : Sig} {rest : List (Oper × Nat)}
variable {d ty : Nat} {p : String} {af : Array Edge} {g : Option (Nat × Bool)} {x y : Operand} {t : Nat}
theorem TR_append {e sz bytes : Nat} {z : List Value} [TApp P t e sz bytes z] {a xa : Option Addr} {k cap m xc f : Nat} {C : Seg} {cs news : List Value} (hf : f = 0 ∨ f = 2 ∧ ∀ w, St w₀ w R → St w₀ w LS)
    (hS : Sl e sz a k cap C cs) (hx : ev σ x = .slice a k cap) (hy : ev σ y = .slice xa m xc) (hp : Le L (C :: R)) (hsrc : ∀ w, sat w L → SrcAt w xa news) (hl : news.length = m * sz) (h1 : ∀ u ∈ news, one u = true)
    (hm : (k + m) * (bytes + 1) ≤ 140737488355328) (hw : wantS ops σ ⟨some d, .call ⟨.builtin .append, #[x, y], #[t, t]⟩, ty, p, af, g⟩ = true)
    (kk : ∀ a' cap' C', Sl e sz a' (k + m) cap' C' (cs ++ news) → TR P ops Q n ds w₀ LS rest (C' :: R) (upd σ d (.slice a' (k + m) cap'))) :
    TR P ops Q n ds w₀ LS ((⟨some d, .call ⟨.builtin .append, #[x, y], #[t, t]⟩, ty, p, af, g⟩, f) :: rest) L σ := by
  have hb : (k + m) * bytes ≤ 140737488355328 := Nat.le_trans (Nat.mul_le_mul_left _ (by omega)) hm
  have hmm : k + m ≤ maxLen := by
    have : (k + m) * 1 ≤ (k + m) * (bytes + 1) := Nat.mul_le_mul_left _ (by omega)
    simp only [maxLen]; omega
  have run : ∀ w, St w₀ w L → ∃ v L' w', (execOp (ev σ) ⟨some d, .call ⟨.builtin .append, #[x, y], #[t, t]⟩, ty, p, af, g⟩).run P w = .ok (.value v) w' ∧ St w₀ w' L' ∧ (f = 2 → ∀ w, St w₀ w L' → St w₀ w LS) ∧
      TR P ops Q n ds w₀ LS rest L' (upd σ d v) := fun w hs => by
    obtain ⟨a', cap', C', w', h1, h2, h3⟩ := append_run (P := P) (t := t) (xc := xc) ty hS (hs.le hp) (hsrc w hs.sat) hl h1 hmm hb
    refine ⟨_, _, w', ?_, h3, fun h w hs => ?_, kk a' cap' C' h2⟩
    · simp [execOp, resolve, hx, hy, invoke, builtin, h1]
    · rcases hf with h' | ⟨_, h'⟩
      · omega
      · exact h' w hs.tail
  rcases hf with rfl | ⟨rfl, _⟩
  · exact TR_new0 hw fun w hs => by obtain ⟨v, L', w', h1, h2, _, h3⟩ := run w hs; exact ⟨v, L', w', h1, h2, h3⟩
  · exact TR_new2 hw fun w hs => by obtain ⟨v, L', w', h1, h2, h4, h3⟩ := run w hs; exact ⟨v, L', w', h1, h2, h4 rfl, h3⟩

/-- A slice written out. -/
def fillS (sz : Nat) (cells : List Value) : List (Nat × Value) → Option (List Value)
  | [] => some cells
  | (i, v) :: rest => if v.cells.size ≠ sz || Nat.blt cells.length (i * sz + v.cells.size) then none else fillS sz (setAll cells (i * sz) v.cells.toList) rest
theorem fillS_eq (sz : Nat) : ∀ (parts : List (Nat × Value)) (cells : List Value), Instr.fill (fun i => some (i * sz, sz)) cells.toArray parts = (fillS sz cells parts).map List.toArray
  | [], _ => rfl
  | (i, v) :: rest, cells => by
    simp only [Instr.fill, fillS, List.size_toArray]
    have e : (Nat.blt cells.length (i * sz + v.cells.size)) = decide (i * sz + v.cells.size > cells.length) := by
      rw [Bool.eq_iff_iff]; simp [Nat.blt_eq]
    rw [e]
    split
    · rfl
    · have := foldl_setAll (i * sz) v.cells.toList 0 cells
      rw [Nat.add_zero] at this
      rw [← fillS_eq sz rest, ← this, ← Array.foldl_toList, Array.toList_zipIdx]

def zrow (z : List Value) (k : Nat) : List Value := (List.range k).map fun i => z.getD (i % z.length) undef
theorem zrow_eq (z : Value) (k : Nat) (hz : k = 0 ∨ 0 < z.cells.size) : ((Array.range k).map fun i => z.cells[i % z.cells.size]!) = (zrow z.cells.toList k).toArray := by
  apply Array.ext'
  simp only [zrow, Array.toList_map, Array.toList_range]
  refine List.map_congr_left fun i hi => ?_
  have hk : 0 < k := by have := List.mem_range.1 hi; omega
  have hm := Nat.mod_lt i (hz.resolve_left (by omega))
  simp [List.getD_eq_getElem?_getD, getElem!_def, hm]

theorem buildSlice_run {e sz bytes : Nat} {z : List Value} [i : TApp P t e sz bytes z] (len : Nat) (parts : List (Nat × Value)) {cells : List Value} (h : fillS sz (zrow z (len * sz)) parts = some cells) (hl : len * sz ≤ 16777216) (w : World) :
    (Instr.buildSlice t len parts.toArray).run P w = .ok (.slice (some ⟨w.heap.size, 0, none⟩) len len) { w with heap := w.heap.push (.cells cells.toArray e (0, 0)) } := by
  have hi := i.i
  cases hinf : P.info? e with
  | none => simp [hinf] at hi
  | some inf =>
    simp only [hinf, Option.map_some, Option.some.injEq, Prod.mk.injEq] at hi
    obtain ⟨rfl, _, h3⟩ := hi
    cases hz : inf.zero with
    | none => simp [hz] at h3
    | some zv =>
      simp only [hz, Option.map_some, Option.some.injEq] at h3
      subst h3
      have hpos : 0 < zv.cells.size := by have h1 := i.zl; have h2 := i.pos; simp at h1; omega
      by_cases h0 : len * inf.size = 0
      · have e0 : zrow zv.cells.toList (len * inf.size) = [] := by simp [zrow, h0]
        rw [e0] at h
        have := fillS_eq inf.size parts []
        rw [h] at this
        have r0 : Array.range 0 = #[] := rfl
        have hor : len = 0 ∨ inf.size = 0 := Nat.mul_eq_zero.1 h0
        simp only [Option.map_some] at this
        simp [Instr.buildSlice, run_underlying i.h, sizeOf, typeInfo, hinf, h0, hor, r0, this, newRow]
      · have hr := zrow_eq zv (len * inf.size) (.inr hpos)
        have := fillS_eq inf.size parts (zrow zv.cells.toList (len * inf.size))
        rw [h] at this
        have hor : ¬ (len = 0 ∨ inf.size = 0) := fun h => h0 (Nat.mul_eq_zero.2 h)
        simp only [Option.map_some] at this
        simp [Instr.buildSlice, run_underlying i.h, sizeOf, typeInfo, zeroValue, hinf, hz, hor, hr, this, newRow, show ¬ (16777216 < len * inf.size) by omega]
        exact fun h => absurd h h0

theorem TR_buildSlice {e sz bytes : Nat} {z : List Value} [TApp P t e sz bytes z] {len f : Nat} {l : List (Nat × Operand)} {vs : List (Nat × Value)} {cells : List Value} (hf : f = 0 ∨ f = 2 ∧ ∀ w, St w₀ w L → St w₀ w LS)
    (hp : evps σ l = vs) (h : fillS sz (zrow z (len * sz)) vs = some cells) (hl : Nat.ble (len * sz) 16777216 = true) (hw : wantS ops σ ⟨some d, .buildSlice t len l.toArray, ty, p, af, g⟩ = true)
    (k : ∀ b, TR P ops Q n ds w₀ LS rest ([(b, .cells cells.toArray e (0, 0))] :: L) (upd σ d (.slice (some ⟨b, 0, none⟩) len len))) : TR P ops Q n ds w₀ LS ((⟨some d, .buildSlice t len l.toArray, ty, p, af, g⟩, f) :: rest) L σ := by
  have run : ∀ w, (execOp (ev σ) ⟨some d, .buildSlice t len l.toArray, ty, p, af, g⟩).run P w = .ok (.value (.slice (some ⟨w.heap.size, 0, none⟩) len len)) { w with heap := w.heap.push (.cells cells.toArray e (0, 0)) } := fun w => by
    have hv : (l.toArray.map fun x => (x.1, ev σ x.2)) = vs.toArray := by rw [List.map_toArray, evps_eq, hp]
    simp only [execOp]
    rw [show (l.toArray.map fun (i, x) => (i, ev σ x)) = vs.toArray from hv]
    simp [buildSlice_run len vs h (Nat.le_of_ble_eq_true hl)]
  rcases hf with rfl | ⟨rfl, hf⟩
  · exact TR_new0 hw fun w hs => ⟨_, _, _, run w, newRow_St hs, k _⟩
  · exact TR_new2 hw fun w hs => ⟨_, _, _, run w, newRow_St hs, fun w h => hf w h.tail, k _⟩

theorem TR_boxk {v : Value} {cs : List Value} (hf : ∀ w, St w₀ w L → St w₀ w LS) (hx : ev σ x = v) (hc : v.cells = cs.toArray) (hw : wantS ops σ ⟨some d, .box t x, ty, p, af, g⟩ = true)
    (k : ∀ b, TR P ops Q n ds w₀ LS rest ([(b, .cells cs.toArray t (0, 0))] :: L) (upd σ d (.pointer (some ⟨b, 0, none⟩)))) : TR P ops Q n ds w₀ LS ((⟨some d, .box t x, ty, p, af, g⟩, 2) :: rest) L σ :=
  TR_new2 hw fun w hs => ⟨_, _, _, by simp [execOp, Instr.box, hx, newVar, newRow, hc], newRow_St hs, fun w h => hf w h.tail, k _⟩
theorem TR_allock {z : List Value} [TZero P t z] (hf : ∀ w, St w₀ w L → St w₀ w LS) (hw : wantS ops σ ⟨some d, .alloc t, ty, p, af, g⟩ = true)
    (k : ∀ b, TR P ops Q n ds w₀ LS rest ([(b, .cells z.toArray t (0, 0))] :: L) (upd σ d (.pointer (some ⟨b, 0, none⟩)))) : TR P ops Q n ds w₀ LS ((⟨some d, .alloc t, ty, p, af, g⟩, 2) :: rest) L σ :=
  TR_new2 hw fun w hs => by
    obtain ⟨zv, h1, h2⟩ := zero_run (P := P) (t := t) w
    exact ⟨_, _, _, by simp [execOp, Instr.alloc, h1, newVar, newRow, h2], newRow_St hs, fun w h => hf w h.tail, k _⟩

theorem TR_makeSlice {e sz bytes : Nat} {z : List Value} [i : TApp P t e sz bytes z] {f : Nat} {len : Int} {kd kd' : IntKind} (hf : f = 0 ∨ f = 2 ∧ ∀ w, St w₀ w L → St w₀ w LS)
    (hx : ev σ x = .int kd len) (hy : ev σ y = .int kd' len) (h0 : 0 ≤ len ∧ len * bytes ≤ 1099511627776) (h1 : 0 ≤ len ∧ len ≤ 1099511627776) (hw : wantS ops σ ⟨some d, .makeSlice t x y, ty, p, af, g⟩ = true)
    (k : ∀ b, TR P ops Q n ds w₀ LS rest ([(b, .cells (zrow z (len.toNat * sz)).toArray e (0, 0))] :: L) (upd σ d (.slice (some ⟨b, 0, none⟩) len.toNat len.toNat))) :
    TR P ops Q n ds w₀ LS ((⟨some d, .makeSlice t x y, ty, p, af, g⟩, f) :: rest) L σ := by
  have run : ∀ w, (execOp (ev σ) ⟨some d, .makeSlice t x y, ty, p, af, g⟩).run P w = .ok (.value (.slice (some ⟨w.heap.size, 0, none⟩) len.toNat len.toNat)) { w with heap := w.heap.push (.cells (zrow z (len.toNat * sz)).toArray e (0, 0)) } := fun w => by
    have hi := i.i
    cases hinf : P.info? e with
    | none => simp [hinf] at hi
    | some inf =>
      simp only [hinf, Option.map_some, Option.some.injEq, Prod.mk.injEq] at hi
      obtain ⟨rfl, rfl, h3⟩ := hi
      cases hz : inf.zero with
      | none => simp [hz] at h3
      | some zv =>
        simp only [hz, Option.map_some, Option.some.injEq] at h3
        subst h3
        have hpos : 0 < zv.cells.size := by have h1 := i.zl; have h2 := i.pos; simp at h1; omega
        have hwr : IntKind.i64.wrap len = len := i64_wrap (by omega)
        have hmul : (inf.bytes : Int) * len ≤ 1099511627776 := by rw [Int.mul_comm]; exact h0.2
        have hr := zrow_eq zv (len.toNat * inf.size) (.inr hpos)
        have hno : ¬ (len < 0) := by omega
        have hbig : ¬ (281474976710656 < (inf.bytes : Int) * len) := by omega
        by_cases hn0 : len.toNat * inf.size = 0
        · have e0 : zrow zv.cells.toList (len.toNat * inf.size) = [] := by simp [zrow, hn0]
          rw [e0]
          have r0 : Array.range 0 = #[] := rfl
          simp [r0, execOp, hx, hy, Instr.makeSlice, run_underlying i.h, asInt, asIntOf, typeInfo, hinf, hwr, hno, hbig, sizeOf, hn0, newRow, askRoom, hz]
        · simp [execOp, hx, hy, Instr.makeSlice, run_underlying i.h, asInt, asIntOf, typeInfo, hinf, hwr, hno, hbig, sizeOf, zeroValue, hn0, hr, newRow, askRoom, hz]
  rcases hf with rfl | ⟨rfl, hf⟩
  · exact TR_new0 hw fun w hs => ⟨_, _, _, run w, newRow_St hs, k _⟩
  · exact TR_new2 hw fun w hs => ⟨_, _, _, run w, newRow_St hs, fun w h => hf w h.tail, k _⟩
end

/-! ### An array written out -/
class TBuildA (P : Program) (t : Nat) (zero : outParam (List Value)) (sz : outParam Nat) : Prop where
  z : (P.info? t).bind (fun i => i.zero.map (fun v => v.cells.toList)) = some zero
  h : (match P.underlying t with | some (.array _ e) => (P.info? e).map (·.size) | _ => none) = some sz
theorem PV_buildA {P : Program} {σ : Sig} {d : Option Nat} {ty : Nat} {p : String} {af : Array Edge} {g : Option (Nat × Bool)} {t : Nat} {zero : List Value} {sz : Nat} [i : TBuildA P t zero sz] {l : List (Nat × Operand)} {vs : List (Nat × Value)}
    {cells : List Value} (hp : evps σ l = vs) (h : fillS sz zero vs = some cells) : PV P σ ⟨d, .build t l.toArray, ty, p, af, g⟩ (.agg cells.toArray) := ⟨fun w => by
  have hv : (l.toArray.map fun x => (x.1, ev σ x.2)) = vs.toArray := by rw [List.map_toArray, evps_eq, hp]
  have hz := i.z
  have hh := i.h
  cases hi : P.info? t with
  | none => simp [hi] at hz
  | some inf =>
    simp [hi] at hz
    obtain ⟨zv, h1, h2⟩ := hz
    have h2' : zv.cells = zero.toArray := by rw [← h2]
    cases hu : P.underlying t with
    | none => simp [hu] at hh
    | some dsc =>
      cases dsc <;> simp only [hu] at hh <;> try (cases hh)
      rename_i n e
      have hsz := sizeOf_run (P := P) hh
      have hf := fillS_eq sz vs zero
      rw [h] at hf
      simp only [Option.map_some] at hf
      simp only [execOp]
      rw [show (l.toArray.map fun (i, x) => (i, ev σ x)) = vs.toArray from hv]
      simp [Instr.build, zeroValue, typeInfo, hi, h1, run_underlying hu, hsz, h2', hf]⟩

/-! ### Cutting -/
section
variable {P : Program} {σ : Sig} {d : Option Nat} {ty : Nat} {p : String} {af : Array Edge} {g : Option (Nat × Bool)} {x lo hi : Operand} {t : Nat}
/-- Where a cut slice begins. -/
def cutAt (a : Option Addr) (cap l sz : Nat) : Option Addr := if cap = l then a else a.map (·.add (l * sz))
theorem sliceAt_run {e sz : Nat} [i : TSlice P t e sz] (a : Option Addr) (len cap : Nat) (low high : Option Value) {l h : Nat} (w : World)
    (hb : (Instr.sliceBounds true len cap low high none).run P w = .ok (l, h, cap) w) : (Instr.sliceAt t (.slice a len cap) low high none).run P w = .ok (.slice (cutAt a cap l sz) (h - l) (cap - l)) w := by
  simp [Instr.sliceAt, Instr.slice, run_underlying i.h, hb, sizeOf_run i.s, cutAt]
theorem PV_sliceLH {e sz len cap : Nat} [TSlice P t e sz] {a : Option Addr} {k k' : IntKind} {l h : Int} (hx : ev σ x = .slice a len cap) (hlo : ev σ lo = .int k l) (hhi : ev σ hi = .int k' h) (hb : 0 ≤ l ∧ l ≤ h ∧ h ≤ cap) :
    PV P σ ⟨d, .slice t x (some lo) (some hi) none, ty, p, af, g⟩ (.slice (cutAt a cap l.toNat sz) (h.toNat - l.toNat) (cap - l.toNat)) := ⟨fun w => by
  have : (Instr.sliceBounds true len cap (some (.int k l)) (some (.int k' h)) none).run P w = .ok (l.toNat, h.toNat, cap) w := by
    obtain ⟨l', rfl⟩ := Int.eq_ofNat_of_zero_le hb.1
    obtain ⟨h', rfl⟩ := Int.eq_ofNat_of_zero_le (show 0 ≤ h by omega)
    simp [Instr.sliceBounds, Instr.sliceBound, asIntOf, show h' ≤ cap by omega, show l' ≤ h' by omega]
  simp [execOp, hx, hlo, hhi, sliceAt_run a len cap _ _ w this]⟩
theorem PV_sliceL {e sz len cap : Nat} [TSlice P t e sz] {a : Option Addr} {k : IntKind} {l : Int} (hx : ev σ x = .slice a len cap) (hlo : ev σ lo = .int k l) (hb : 0 ≤ l ∧ l ≤ len) :
    PV P σ ⟨d, .slice t x (some lo) none none, ty, p, af, g⟩ (.slice (cutAt a cap l.toNat sz) (len - l.toNat) (cap - l.toNat)) := ⟨fun w => by
  have : (Instr.sliceBounds true len cap (some (.int k l)) none none).run P w = .ok (l.toNat, len, cap) w := by
    simp [Instr.sliceBounds, Instr.sliceBound, asIntOf, hb]
  simp [execOp, hx, hlo, sliceAt_run a len cap _ _ w this]⟩
theorem PV_sliceH {e sz len cap : Nat} [TSlice P t e sz] {a : Option Addr} {k : IntKind} {h : Int} (hx : ev σ x = .slice a len cap) (hhi : ev σ hi = .int k h) (hb : 0 ≤ h ∧ h ≤ cap) :
    PV P σ ⟨d, .slice t x none (some hi) none, ty, p, af, g⟩ (.slice (cutAt a cap 0 sz) h.toNat cap) := ⟨fun w => by
  have : (Instr.sliceBounds true len cap none (some (.int k h)) none).run P w = .ok (0, h.toNat, cap) w := by
    simp [Instr.sliceBounds, Instr.sliceBound, asIntOf, hb]
  simp [execOp, hx, hhi, sliceAt_run a len cap _ _ w this]⟩

/-- What is left of a slice behind its first elements. -/
theorem Sl.drop {T sz : Nat} {a : Option Addr} {n cap : Nat} {C : Seg} {cs : List Value} (h : Sl T sz a n cap C cs) {k : Nat} (hk : k ≤ n) :
    ∃ C', Sl T sz (cutAt a cap k sz) (n - k) (cap - k) C' (cs.drop (k * sz)) ∧ (C' = C ∨ C' = []) := by
  cases h with
  | nil =>
    obtain rfl : k = 0 := by omega
    exact ⟨[], by simp [cutAt]; exact .nil, .inl rfl⟩
  | zero ad =>
    obtain rfl : k = 0 := by omega
    exact ⟨[], by simp [cutAt]; exact .zero ad, .inl rfl⟩
  | @row b off _ _ cells _ hn hc hm hl ht =>
    unfold cutAt
    by_cases hck : cap = k
    · rw [if_pos hck]
      obtain rfl : k = n := by omega
      refine ⟨[], ?_, .inr rfl⟩
      rw [show k - k = 0 by omega, show cap - k = 0 by omega, List.drop_eq_nil_of_le (by omega)]
      exact .zero _
    · rw [if_neg hck]
      refine ⟨_, ?_, .inl rfl⟩
      simp only [Option.map_some, addr_add]
      have hks : k * sz ≤ n * sz := Nat.mul_le_mul_right _ hk
      have hkc : (cap - k) * sz + k * sz = cap * sz := by rw [← Nat.add_mul]; congr 1; omega
      have hkn : (n - k) * sz + k * sz = n * sz := by rw [← Nat.add_mul]; congr 1; omega
      refine .row (by rw [List.length_drop, hn]; omega) (by omega) (by omega) (by omega) ?_
      rw [← ht, List.drop_take, List.drop_drop]
      congr 1
      omega
end
end Go.Proofs.Ytonfkkdahlboiaa
