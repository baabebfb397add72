/- FlightFrees: the walk. -/
import Derived.Test.YtonfkkdahlboiaaFlF
namespace Go.Proofs.Ytonfkkdahlboiaa
open Go.RowKit
set_option maxHeartbeats 4000000
set_option maxRecDepth 10000

def outS (F : Flt) (p : Int) : Int := sumIf (fun r => decide (r.path = p) && r.away) F.l
theorem outS_0 (F : Flt) (p : Int) : 0 ≤ outS F p := by
  unfold outS
  induction F.l with
  | nil => simp [sumIf]
  | cons r l ih => rw [sumIf_cons]; split <;> omega
def outUp (F : Flt) : Nat → Int
  | 0 => 0
  | k + 1 => outUp F k + outS F k
theorem outUp_0 (F : Flt) : ∀ k, 0 ≤ outUp F k
  | 0 => by simp [outUp]
  | k + 1 => by have := outUp_0 F k; have := outS_0 F k; simp only [outUp]; omega
theorem away_open (r : FRec) : r.away = true → r.acked = false := by
  unfold FRec.away
  cases r.acked <;> simp
theorem out4_le (l : List FRec) (c p : Int) : outUp ⟨l, c, p⟩ 4 ≤ opn l := by
  simp only [outUp, outS]
  induction l with
  | nil => simp [sumIf, opn]
  | cons r l ih =>
    simp only [sumIf_cons]
    have e : opn (r :: l) = wOpen r + opn l := by simp [opn]
    rw [e]
    have h0 := (wOpen_0 r).1
    have hb : (0 : Int) ≤ r.d.bytes.length := by omega
    cases ha : r.away with
    | false => simp only [Bool.and_false, Bool.false_eq_true, if_false]; omega
    | true =>
      have hw : wOpen r = r.d.bytes.length := by rw [wOpen, away_open r ha]; rfl
      rw [hw]
      simp only [Bool.and_true, decide_eq_true_eq]
      by_cases h1 : r.path = 0
      · rw [if_pos (show r.path = ((0 : Nat) : Int) by omega), if_neg (show ¬ r.path = ((1 : Nat) : Int) by omega), if_neg (show ¬ r.path = ((2 : Nat) : Int) by omega), if_neg (show ¬ r.path = ((3 : Nat) : Int) by omega)]; omega
      · by_cases h2 : r.path = 1
        · rw [if_neg (show ¬ r.path = ((0 : Nat) : Int) by omega), if_pos (show r.path = ((1 : Nat) : Int) by omega), if_neg (show ¬ r.path = ((2 : Nat) : Int) by omega), if_neg (show ¬ r.path = ((3 : Nat) : Int) by omega)]; omega
        · by_cases h3 : r.path = 2
          · rw [if_neg (show ¬ r.path = ((0 : Nat) : Int) by omega), if_neg (show ¬ r.path = ((1 : Nat) : Int) by omega), if_pos (show r.path = ((2 : Nat) : Int) by omega), if_neg (show ¬ r.path = ((3 : Nat) : Int) by omega)]; omega
          · rw [if_neg (show ¬ r.path = ((0 : Nat) : Int) by omega), if_neg (show ¬ r.path = ((1 : Nat) : Int) by omega), if_neg (show ¬ r.path = ((2 : Nat) : Int) by omega)]
            split <;> omega
def tUp (t : Nat → Tp) : Nat → Int
  | 0 => 0
  | k + 1 => tUp t k + (t k).acked
theorem tUp4 (t : Nat → Tp) : tUp t 4 = t4 t := by simp only [tUp, t4]; omega
theorem acked_nonneg {F : Flt} (hb : ∀ r ∈ F.l, r.d.bytes.length ≤ 1048576) (o : LOp) (cum : Int) (p : Nat) : 0 ≤ ((F.doA o cum).t.t p).acked := by
  have z : 0 ≤ (ans0.t.t p).acked := by show (0 : Int) ≤ 0; omega
  rw [Flt.doA]
  by_cases h0 : o.kind = 0
  · rw [if_pos h0]; exact z
  rw [if_neg h0]
  by_cases h1 : o.kind = 1
  · rw [if_pos h1]; exact z
  rw [if_neg h1]
  by_cases h2 : o.kind = 2
  · rw [if_pos h2]; cases F.get (doTsn o cum) <;> exact z
  rw [if_neg h2]
  by_cases h3 : o.kind = 3
  · rw [if_pos h3]; exact z
  rw [if_neg h3]
  by_cases h4 : o.kind = 4
  · rw [if_pos h4]; exact z
  rw [if_neg h4]
  by_cases h5 : o.kind = 5
  · rw [if_pos h5]
    split
    · show 0 ≤ ((F.misses (doTsn o cum) o.gaps).2 p).acked
      rw [Flt.misses, miss_t]
      exact (acked_bound (lowIdx F.l) (F.idxs (doTsn o cum) o.gaps) (sk0 F.l) 0 hb (fun q => ⟨Int.le_refl _, Int.le_refl _⟩) p).1
    · exact z
  rw [if_neg h5]; exact z

/-- What is kept from one operation to the next. -/
structure FS (c0 paths : Int) (ops : List LOp) (i : Nat) (X : FL) (row : Row) (lens : List Int) (n : Nat) (freed acked : Int) : Prop where
  ok : FlOk X
  fi : FI c0 lens n freed acked X.abs
  row : row.ok 3 1 lens.length (lens.map fun x => i64 x)
  il : i ≤ ops.length
  ll : lens.length ≤ i
  pos : ∀ x ∈ lens, 0 ≤ x
  sum : lens.sum ≤ ((ops.take i).map fun o => (o.d.bytes.length : Int)).sum
theorem sum_take_le : ∀ (l : List Int) (k : Nat), (∀ x ∈ l, 0 ≤ x) → 0 ≤ (l.take k).sum ∧ (l.take k).sum ≤ l.sum
  | [], k, _ => by simp
  | x :: l, 0, h => by
    have h1 := sum_take_le l 0 fun y hy => h y (.tail _ hy)
    have h2 := sum_take_le l l.length fun y hy => h y (.tail _ hy)
    rw [List.take_length] at h2
    have hx := h x (.head _)
    simp; omega
  | x :: l, k + 1, h => by
    have := sum_take_le l k fun y hy => h y (.tail _ hy)
    have hx := h x (.head _)
    simp only [List.take_succ_cons, List.sum_cons]; omega
theorem sum_next {l : List Int} {k : Nat} {x : Int} (h : l[k]? = some x) : (l.take (k + 1)).sum = (l.take k).sum + x := by
  rw [take_next h, List.sum_append]; simp

theorem paths_ok {X : FL} (h : FlOk X) : PathsOk X.recs := fun r hr => by
  obtain ⟨x, hx, rfl⟩ := List.mem_map.1 hr
  have h1 := (h.recs x hx).2.p0
  have h2 := (h.recs x hx).2.p1
  have h3 := h.q1
  exact ⟨h1, by omega⟩
theorem bytes_ok {X : FL} (h : FlOk X) : ∀ r ∈ X.recs, r.d.bytes.length ≤ 1048576 := fun r hr => by
  obtain ⟨x, hx, rfl⟩ := List.mem_map.1 hr
  exact (h.recs x hx).2.b1

section
variable {P : Program} {ro : Option Nat} {n : Nat} {ds : List Deferred} {w₀ : World} {Q : Exit → Act → World → Prop} {L : List Seg} {σ : Sig}
theorem then_mono {K : Act → World → Prop} {Q1 Q2 : Exit → Act → World → Prop} (h : ∀ e a w, Q1 e a w → Q2 e a w) {K2 : Act → World → Prop} (hK : ∀ a w, K a w → K2 a w) (e : Exit) (a : Act) (w : World) (hq : Exit.then K Q1 e a w) : Exit.then K2 Q2 e a w := by
  cases e with
  | normal => exact hK a w hq
  | _ => exact h _ _ _ hq
/-- The same, the code being two in a row. -/
theorem TC_cut2 {X : Type} {x y z : Code} (Lx : X → List Seg) (sx : X → List (Nat × Value)) (Pre : X → Prop)
    (h : TC P ro n ds w₀ x (Exit.then (y.wpIn (wide ro) 0 P (Exit.then (fun a w => ∃ x' σ', Pre x' ∧ a = fr n (slots (sx x') σ') ds ∧ St w₀ w (Lx x')) Q)) (Exit.then (fun a w => ∃ x' σ', Pre x' ∧ a = fr n (slots (sx x') σ') ds ∧ St w₀ w (Lx x')) Q)) L σ)
    (k : ∀ x' σg, Pre x' → TC P ro n ds w₀ z Q (Lx x') (slots (sx x') σg)) :
    TC P ro n ds w₀ x (Exit.then (y.wpIn (wide ro) 0 P (Exit.then (z.wpIn (wide ro) 0 P Q) Q)) (Exit.then (z.wpIn (wide ro) 0 P Q) Q)) L σ := by
  have m : ∀ e a w, Exit.then (fun a w => ∃ x' σ', Pre x' ∧ a = fr n (slots (sx x') σ') ds ∧ St w₀ w (Lx x')) Q e a w → Exit.then (z.wpIn (wide ro) 0 P Q) Q e a w := fun e a w hq =>
    then_mono (fun _ _ _ h => h) (fun a w h => by
      obtain ⟨x', σ', h1, rfl, h3⟩ := h
      exact (k x' σ' h1).out w h3) e a w hq
  exact ⟨fun w hw => wpIn_mono (h.out w hw) fun e a w' hq => then_mono m (fun a w h => wpIn_mono h m) e a w' hq⟩
end

theorem frees_pre (H : Seg) (paths c : Int) (a : Option Addr) (n cap : Nat) (ops : List LOp) (hc : 0 ≤ c ∧ c ≤ 4294967295) (hn : n ≤ 9223372036854775807)
    (ho : ∀ o ∈ ops, o.ok H) (hs : SliceAt H 13 a n (ops.map LOp.cells)) :
    Cd Try.prog 7 [i64 paths, u32 c, .slice a n cap] [H] (.bool true) [H] := by
  have hv := vast2_ct H a n cap ops hn ho hs
  have hl : ops.length = n := by simpa using hs.len
  subst hl
  refine Ct_intro Try.func7 rfl (by simp only [Try.ntmps7, List.length_cons, List.length_nil]; omega) ?_
  intro w₀ R
  by_cases hp : 1 ≤ paths ∧ paths ≤ 4
  · repeat' first
    | refine TC_seq ?_
    | refine TQ_then ?_
    | refine TR_nil ?_
    | refine TQ_noPanic ?_
    | (refine TC_plain (id := 0) (by kernel_rfl) ?_; refine TR_pv0 PV_assign rfl ?_; refine TR_nil ?_)
    | (refine TC_plain (id := 1) (by kernel_rfl) ?_; refine TR_pv0 PV_move rfl ?_; (refine TR_call0 (hv) rfl rfl (.cons .here .nil) rfl ?_; rintro _ _ ⟨r, rfl, rfl, hr⟩); refine TR_nil ?_)
    | (refine TC_plain (id := 2) (by kernel_rfl) ?_; refine TR_calld0 (flWorks) rfl rfl rfl rfl ?_; refine TR_pv0 PV_assign rfl ?_; refine TR_nil ?_)
    | (refine TC_plain (id := 3) (by kernel_rfl) ?_; refine TR_pv0 PV_move rfl ?_; refine TR_pv0 PV_move rfl ?_; (refine TR_call0 (newF_ct paths c hp) rfl rfl .nil rfl ?_; rintro _ _ ⟨b, rfl, rfl⟩); refine TR_pv0 PV_move rfl ?_; refine TR_pv0 (PV_extract rfl rfl) rfl ?_; refine TR_pv0 (PV_extract rfl rfl) rfl ?_; refine TR_pv0 PV_assign rfl ?_; refine TR_pv0 PV_assign rfl ?_; refine TR_nil ?_)
    | (refine TC_plain (id := 4) (by kernel_rfl) ?_; refine TR_pv0 PV_move rfl ?_; refine TR_pv0 (PV_neq rfl rfl) rfl ?_; refine TR_nil ?_)
    | (refine TC_plain (id := 5) (by kernel_rfl) ?_; all_goals refine TR_pv0 PV_move rfl ?_; all_goals refine TR_pv0 (PV_lss rfl rfl) rfl ?_; all_goals refine TR_pv0 PV_move rfl ?_; all_goals (first | refine TR_pv0 PV_move rfl ?_ | refine TR_skip0 rfl ?_ | (refine TR_gsplit rfl rfl rfl (fun hq => ?_) (fun hq => ?_) <;> (try simp only [qs] at hq) <;> (try simp only [reduceCtorEq] at hq) <;> (try (exfalso; omega)) <;> (try contradiction) <;> (first | refine TR_pv0 PV_move rfl ?_ | refine TR_skip0 rfl ?_))); all_goals (first | refine TR_pv0 (PV_gtr rfl rfl) rfl ?_ | refine TR_skip0 rfl ?_ | (refine TR_gsplit rfl rfl rfl (fun hq => ?_) (fun hq => ?_) <;> (try simp only [qs] at hq) <;> (try simp only [reduceCtorEq] at hq) <;> (try (exfalso; omega)) <;> (try contradiction) <;> (first | refine TR_pv0 (PV_gtr rfl rfl) rfl ?_ | refine TR_skip0 rfl ?_))); all_goals (first | refine TR_pv0 (PV_pick_t rfl) rfl ?_ | refine TR_pv0 (PV_pick_f rfl) rfl ?_); all_goals refine TR_pv0 PV_move rfl ?_; all_goals (first | refine TR_calld0 (flWorks) rfl rfl rfl rfl ?_ | refine TR_skip0 rfl ?_ | (refine TR_gsplit rfl rfl rfl (fun hq => ?_) (fun hq => ?_) <;> (try simp only [qs] at hq) <;> (try simp only [reduceCtorEq] at hq) <;> (try (exfalso; omega)) <;> (try contradiction) <;> (first | refine TR_calld0 (flWorks) rfl rfl rfl rfl ?_ | refine TR_skip0 rfl ?_))); all_goals (first | refine TR_pv0 (PV_pick_t rfl) rfl ?_ | refine TR_pv0 (PV_pick_f rfl) rfl ?_); all_goals refine TR_pv0 PV_assign rfl ?_; all_goals refine TR_nil ?_)
    | (refine TC_plain (id := 6) (by kernel_rfl) ?_; refine TR_pv0 PV_assign rfl ?_; refine TR_nil ?_)
    | (refine TC_plain (id := 7) (by kernel_rfl) ?_; refine TR_pv0 PV_assign rfl ?_; refine TR_nil ?_)
    | (refine TC_plain (id := 8) (by kernel_rfl) ?_; refine TR_pv0 PV_assign rfl ?_; refine TR_nil ?_)
    | (refine TC_plain (id := 9) (by kernel_rfl) ?_; refine TR_pv0 PV_assign rfl ?_; refine TR_nil ?_)
    | refine TC_cond_t rfl rfl ?_
    | refine TC_cond_f rfl rfl ?_
    | refine TC_skip ?_
    | refine TC_ret ?_
    | refine TC_exit ?_
    | refine TC_block ?_
    | refine TQ_then_ret ?_
    | refine TQ_then_exit ?_
    | refine TQ_blk ?_
    | refine TQ_blk_ret ?_
    | refine TQ_blk_here ?_
    | refine TQ_blk_past rfl ?_
    | refine TC_label ?_
    | (refine TC_cond rfl rfl (fun hq => ?_) (fun hq => ?_) <;> (try simp only [qs] at hq) <;> (try simp only [reduceCtorEq] at hq) <;> (try (exfalso; omega)) <;> (try contradiction))
    · exact TQ_ret1e (v := .bool true) rfl rfl rfl ⟨rfl, rfl⟩ (fun a => by simp only [les]; omega)
    have hfew := hr hq
    refine TC_loopP (X := Nat × FL × Row × List Int × Int × Int) (fun s => s.2.1.seg b :: s.2.2.1.C :: H :: R) (fun s => [(1, u32 c), (2, .slice a ops.length cap), (7, ptr b), (9, s.2.2.1.val s.2.2.2.1.length), (10, i64 s.2.2.2.2.1), (11, i64 s.2.2.2.2.2), (12, i64 s.1)])
      (fun s => ∃ n, FS ((c - 1) % 4294967296) paths ops s.1 s.2.1 s.2.2.1 s.2.2.2.1 n s.2.2.2.2.1 s.2.2.2.2.2) (fun s => ops.length - s.1) (0, ⟨[], ⟨none, 0, []⟩, (c - 1) % 4294967296, paths⟩, ⟨none, 0, []⟩, [], 0, 0)
      ⟨0, newX_ok ⟨by omega, by omega⟩ hp, ⟨Nat.le_refl _, (by show (c - 1) % 4294967296 = ((c - 1) % 4294967296 + ((0 : Nat) : Int)) % 4294967296; omega), rfl, rfl, (by show (0 : Int) + 0 ≤ 0; omega), Int.le_refl _⟩, .nil, Nat.zero_le _, Nat.le_refl _, (fun x hx => by cases hx), (by simp)⟩
      ⟨rfl, rfl, rfl, rfl, rfl, rfl, rfl, trivial⟩ (fun w hs => hs.le (fun a => by simp only [les]; omega)) ?_
    rintro ⟨i, X, row, lens, freed, acked⟩ σg mm hmm ⟨n, hS⟩
    dsimp only at hmm hS ⊢
    by_cases hlt : i < ops.length
    · obtain ⟨o, hok⟩ : ∃ o, ops[i]? = some o := ⟨ops[i], List.getElem?_eq_getElem hlt⟩
      obtain ⟨bb, off, T, cs, fz, ha, hmem, htk⟩ := hs.at_ i o.cells (by rw [List.getElem?_map, hok]; rfl)
      have hosm := hfew.s o (List.mem_of_getElem? hok)
      have hdo := does_ct H b X hS.ok o (ho o (List.mem_of_getElem? hok)) hosm X.cum
      have hstep := hS.fi.step (paths_ok hS.ok) o X.cum
      have hnn := acked_nonneg (F := X.abs) (bytes_ok hS.ok) o X.cum
      revert hdo hstep hnn
      generalize X.abs.doA o X.cum = A
      generalize X.abs.doF o X.cum = F'
      intro hdo hstep hnn
      have hk0 : cs[off + (i : Int).toNat * 13 + 0]? = some (i64 o.kind) := take_at htk (j := 0) (by omega)
      have hk7 : cs[off + (i : Int).toNat * 13 + 1 + 6]? = some (.slice o.ba o.d.bytes.length o.bcap) := take_at htk (j := 7) (by omega)
      subst ha
      repeat' first
        | refine TC_seq ?_
        | refine TQ_then ?_
        | refine TR_nil ?_
        | refine TQ_noPanic ?_
        | (refine TC_plain (id := 10) (by kernel_rfl) ?_; refine TR_pv0 PV_move rfl ?_; refine TR_pv0 PV_move rfl ?_; refine TR_pv0 (PV_len rfl) rfl ?_; refine TR_pv0 (PV_lss rfl rfl) rfl ?_; refine TR_nil ?_)
        | refine TC_cond_t rfl rfl ?_
        | refine TC_cond_f rfl rfl ?_
        | refine TC_skip ?_
        | refine TC_ret ?_
        | refine TC_exit ?_
        | refine TC_block ?_
        | refine TQ_then_ret ?_
        | refine TQ_then_exit ?_
        | refine TQ_blk ?_
        | refine TQ_blk_ret ?_
        | refine TQ_blk_here ?_
        | refine TQ_blk_past rfl ?_
        | refine TC_label ?_
        | (refine TC_cond rfl rfl (fun hq => ?_) (fun hq => ?_) <;> (try simp only [qs] at hq) <;> (try simp only [reduceCtorEq] at hq) <;> (try (exfalso; omega)) <;> (try contradiction))
      refine TC_cutQ (X := Nat × FL × Row) (fun s => asbk s.1 (A.cells s.2.2) :: s.2.1.seg b :: row.C :: H :: R)
        (fun s => [(1, u32 c), (2, .slice (some ⟨bb, off, none⟩) ops.length cap), (7, ptr b), (9, row.val lens.length), (10, i64 freed), (11, i64 acked), (12, i64 i), (13, ptr s.1)]) (fun s => FlOk s.2.1 ∧ s.2.1.abs = F') ?_ ?_
      · refine TC_le (L' := X.seg b :: H :: row.C :: R) (fun a => by simp only [les]; omega) ?_
        repeat' first
          | refine TC_seq ?_
          | refine TQ_then ?_
          | refine TR_nil ?_
          | refine TQ_noPanic ?_
          | (refine TC_forked (id := 12) (H :: row.C :: R) (.alt [(0, 1), (1, 1), (2, 1), (3, 1), (4, 1), (5, 1)] 6 2 (.alt [] 7 2 (.fin [(8, 2), (9, 2)]) 8 2 (.fin [(7, 2), (9, 2)])) 8 2 (.fin [(6, 2), (7, 2), (9, 2)])) mixed (by kernel_rfl) ?_; refine TT_alt ?_; refine TR_pv1 PV_move rfl (fun _ h => h.sub (by first | exact .refl _ | exact .cons _ (.refl _) | exact .cons _ (.cons _ (.refl _)) | exact .cons_cons _ (.cons _ (.refl _)) | exact .cons _ (.cons _ (.cons _ (.refl _))) | exact .cons _ (.cons _ (.cons _ (.cons _ (.refl _)))) | exact .cons _ (.cons _ (.cons _ (.cons _ (.cons _ (.refl _))))) | exact .cons _ (.cons _ (.cons_cons _ (.cons _ (.refl _)))))) ?_; refine TR_pv1 PV_move rfl (fun _ h => h.sub (by first | exact .refl _ | exact .cons _ (.refl _) | exact .cons _ (.cons _ (.refl _)) | exact .cons_cons _ (.cons _ (.refl _)) | exact .cons _ (.cons _ (.cons _ (.refl _))) | exact .cons _ (.cons _ (.cons _ (.cons _ (.refl _)))) | exact .cons _ (.cons _ (.cons _ (.cons _ (.cons _ (.refl _))))) | exact .cons _ (.cons _ (.cons_cons _ (.cons _ (.refl _)))))) ?_; refine TR_pv1 PV_move rfl (fun _ h => h.sub (by first | exact .refl _ | exact .cons _ (.refl _) | exact .cons _ (.cons _ (.refl _)) | exact .cons_cons _ (.cons _ (.refl _)) | exact .cons _ (.cons _ (.cons _ (.refl _))) | exact .cons _ (.cons _ (.cons _ (.cons _ (.refl _)))) | exact .cons _ (.cons _ (.cons _ (.cons _ (.cons _ (.refl _))))) | exact .cons _ (.cons _ (.cons_cons _ (.cons _ (.refl _)))))) ?_; (first | refine TR_pv1 (PV_indexAddr rfl rfl (by omega)) rfl (fun _ h => h.sub (by first | exact .refl _ | exact .cons _ (.refl _) | exact .cons _ (.cons _ (.refl _)) | exact .cons_cons _ (.cons _ (.refl _)) | exact .cons _ (.cons _ (.cons _ (.refl _))) | exact .cons _ (.cons _ (.cons _ (.cons _ (.refl _)))) | exact .cons _ (.cons _ (.cons _ (.cons _ (.cons _ (.refl _))))) | exact .cons _ (.cons _ (.cons_cons _ (.cons _ (.refl _)))))) ?_ | refine TR_pv1 (PV_indexArr rfl rfl (by omega)) rfl (fun _ h => h.sub (by first | exact .refl _ | exact .cons _ (.refl _) | exact .cons _ (.cons _ (.refl _)) | exact .cons_cons _ (.cons _ (.refl _)) | exact .cons _ (.cons _ (.cons _ (.refl _))) | exact .cons _ (.cons _ (.cons _ (.cons _ (.refl _)))) | exact .cons _ (.cons _ (.cons _ (.cons _ (.cons _ (.refl _))))) | exact .cons _ (.cons _ (.cons_cons _ (.cons _ (.refl _)))))) ?_); (first | refine TR_loadAM1 rfl hmem 0 rfl htk rfl rfl (fun _ h => h.sub (by first | exact .refl _ | exact .cons _ (.refl _) | exact .cons _ (.cons _ (.refl _)) | exact .cons_cons _ (.cons _ (.refl _)) | exact .cons _ (.cons _ (.cons _ (.refl _))) | exact .cons _ (.cons _ (.cons _ (.cons _ (.refl _)))) | exact .cons _ (.cons _ (.cons _ (.cons _ (.cons _ (.refl _))))) | exact .cons _ (.cons _ (.cons_cons _ (.cons _ (.refl _)))))) ?_ | refine TR_loadA1 rfl 0 rfl rfl rfl (fun _ h => h.sub (by first | exact .refl _ | exact .cons _ (.refl _) | exact .cons _ (.cons _ (.refl _)) | exact .cons_cons _ (.cons _ (.refl _)) | exact .cons _ (.cons _ (.cons _ (.refl _))) | exact .cons _ (.cons _ (.cons _ (.cons _ (.refl _)))) | exact .cons _ (.cons _ (.cons _ (.cons _ (.cons _ (.refl _))))) | exact .cons _ (.cons _ (.cons_cons _ (.cons _ (.refl _)))))) ?_ | refine TR_loadA1 rfl 1 rfl rfl rfl (fun _ h => h.sub (by first | exact .refl _ | exact .cons _ (.refl _) | exact .cons _ (.cons _ (.refl _)) | exact .cons_cons _ (.cons _ (.refl _)) | exact .cons _ (.cons _ (.cons _ (.refl _))) | exact .cons _ (.cons _ (.cons _ (.cons _ (.refl _)))) | exact .cons _ (.cons _ (.cons _ (.cons _ (.cons _ (.refl _))))) | exact .cons _ (.cons _ (.cons_cons _ (.cons _ (.refl _)))))) ?_ | refine TR_loadA1 rfl 2 rfl rfl rfl (fun _ h => h.sub (by first | exact .refl _ | exact .cons _ (.refl _) | exact .cons _ (.cons _ (.refl _)) | exact .cons_cons _ (.cons _ (.refl _)) | exact .cons _ (.cons _ (.cons _ (.refl _))) | exact .cons _ (.cons _ (.cons _ (.cons _ (.refl _)))) | exact .cons _ (.cons _ (.cons _ (.cons _ (.cons _ (.refl _))))) | exact .cons _ (.cons _ (.cons_cons _ (.cons _ (.refl _)))))) ?_ | refine TR_loadA1 rfl 3 rfl rfl rfl (fun _ h => h.sub (by first | exact .refl _ | exact .cons _ (.refl _) | exact .cons _ (.cons _ (.refl _)) | exact .cons_cons _ (.cons _ (.refl _)) | exact .cons _ (.cons _ (.cons _ (.refl _))) | exact .cons _ (.cons _ (.cons _ (.cons _ (.refl _)))) | exact .cons _ (.cons _ (.cons _ (.cons _ (.cons _ (.refl _))))) | exact .cons _ (.cons _ (.cons_cons _ (.cons _ (.refl _)))))) ?_ | refine TR_loadA1 rfl 4 rfl rfl rfl (fun _ h => h.sub (by first | exact .refl _ | exact .cons _ (.refl _) | exact .cons _ (.cons _ (.refl _)) | exact .cons_cons _ (.cons _ (.refl _)) | exact .cons _ (.cons _ (.cons _ (.refl _))) | exact .cons _ (.cons _ (.cons _ (.cons _ (.refl _)))) | exact .cons _ (.cons _ (.cons _ (.cons _ (.cons _ (.refl _))))) | exact .cons _ (.cons _ (.cons_cons _ (.cons _ (.refl _)))))) ?_); refine TR_pv1 PV_move rfl (fun _ h => h.sub (by first | exact .refl _ | exact .cons _ (.refl _) | exact .cons _ (.cons _ (.refl _)) | exact .cons_cons _ (.cons _ (.refl _)) | exact .cons _ (.cons _ (.cons _ (.refl _))) | exact .cons _ (.cons _ (.cons _ (.cons _ (.refl _)))) | exact .cons _ (.cons _ (.cons _ (.cons _ (.cons _ (.refl _))))) | exact .cons _ (.cons _ (.cons_cons _ (.cons _ (.refl _)))))) ?_; refine TR_nil ?_; (refine TQ_alt ?_ ?_ <;> first | ((first | (refine TR_call2 (cumF_cd b X) rfl rfl (.cons .here .nil) rfl (fun _ _ _ _ hs => hs.sub (List.Sublist.trans (by first | exact .refl _ | exact .cons _ (.refl _) | exact .cons _ (.cons _ (.refl _)) | exact .cons_cons _ (.cons _ (.refl _)) | exact .cons _ (.cons _ (.cons _ (.refl _))) | exact .cons _ (.cons _ (.cons _ (.cons _ (.refl _)))) | exact .cons _ (.cons _ (.cons _ (.cons _ (.cons _ (.refl _))))) | exact .cons _ (.cons _ (.cons_cons _ (.cons _ (.refl _))))) (List.sublist_append_right _ _))) ?_; rintro _ _ ⟨rfl, rfl⟩) | (refine TR_call2 (cumF_cd b X) rfl rfl (.cons (.there .here) .nil) rfl (fun _ _ _ _ hs => hs.sub (List.Sublist.trans (by first | exact .refl _ | exact .cons _ (.refl _) | exact .cons _ (.cons _ (.refl _)) | exact .cons_cons _ (.cons _ (.refl _)) | exact .cons _ (.cons _ (.cons _ (.refl _))) | exact .cons _ (.cons _ (.cons _ (.cons _ (.refl _)))) | exact .cons _ (.cons _ (.cons _ (.cons _ (.cons _ (.refl _))))) | exact .cons _ (.cons _ (.cons_cons _ (.cons _ (.refl _))))) (List.sublist_append_right _ _))) ?_; rintro _ _ ⟨rfl, rfl⟩)); refine TR_nil ?_; refine TQ_tree ?_; refine TT_alt ?_; refine TR_nil ?_; (refine TQ_alt ?_ ?_ <;> first | ((first | (refine TR_call2 hdo rfl rfl (.cons .here (.cons .here .nil)) rfl (fun v C' w hP hs => by obtain ⟨w', X', _, rfl, _⟩ := hP; exact hs.le (fun a => by simp only [les, List.cons_append, List.nil_append]; omega)) ?_; rintro _ _ ⟨w, X', rfl, rfl, hX', hA', hw⟩) | (refine TR_call2 hdo rfl rfl (.cons .here (.cons (.there .here) .nil)) rfl (fun v C' w hP hs => by obtain ⟨w', X', _, rfl, _⟩ := hP; exact hs.le (fun a => by simp only [les, List.cons_append, List.nil_append]; omega)) ?_; rintro _ _ ⟨w, X', rfl, rfl, hX', hA', hw⟩) | (refine TR_call2 hdo rfl rfl (.cons (.there .here) (.cons (.there .here) .nil)) rfl (fun v C' w hP hs => by obtain ⟨w', X', _, rfl, _⟩ := hP; exact hs.le (fun a => by simp only [les, List.cons_append, List.nil_append]; omega)) ?_; rintro _ _ ⟨w, X', rfl, rfl, hX', hA', hw⟩)); refine TR_nil ?_; refine TQ_tree ?_; refine TT_fin ?_; (refine TR_allock (fun _ h => h.sub (by first | exact .refl _ | exact .cons _ (.refl _) | exact .cons _ (.cons _ (.refl _)) | exact .cons_cons _ (.cons _ (.refl _)) | exact .cons _ (.cons _ (.cons _ (.refl _))) | exact .cons _ (.cons _ (.cons _ (.cons _ (.refl _)))) | exact .cons _ (.cons _ (.cons _ (.cons _ (.cons _ (.refl _))))) | exact .cons _ (.cons _ (.cons_cons _ (.cons _ (.refl _)))))) rfl ?_; intro tb); (first | refine TR_storeA2 rfl rfl rfl .here rfl rfl (fun _ h => h.sub (by first | exact .refl _ | exact .cons _ (.refl _) | exact .cons _ (.cons _ (.refl _)) | exact .cons_cons _ (.cons _ (.refl _)) | exact .cons _ (.cons _ (.cons _ (.refl _))) | exact .cons _ (.cons _ (.cons _ (.cons _ (.refl _)))) | exact .cons _ (.cons _ (.cons _ (.cons _ (.cons _ (.refl _))))) | exact .cons _ (.cons _ (.cons_cons _ (.cons _ (.refl _)))))) ?_ | refine TR_storeA2 rfl rfl rfl (.there (.here)) rfl rfl (fun _ h => h.sub (by first | exact .refl _ | exact .cons _ (.refl _) | exact .cons _ (.cons _ (.refl _)) | exact .cons_cons _ (.cons _ (.refl _)) | exact .cons _ (.cons _ (.cons _ (.refl _))) | exact .cons _ (.cons _ (.cons _ (.cons _ (.refl _)))) | exact .cons _ (.cons _ (.cons _ (.cons _ (.cons _ (.refl _))))) | exact .cons _ (.cons _ (.cons_cons _ (.cons _ (.refl _)))))) ?_ | refine TR_storeA2 rfl rfl rfl (.there (.there (.here))) rfl rfl (fun _ h => h.sub (by first | exact .refl _ | exact .cons _ (.refl _) | exact .cons _ (.cons _ (.refl _)) | exact .cons_cons _ (.cons _ (.refl _)) | exact .cons _ (.cons _ (.cons _ (.refl _))) | exact .cons _ (.cons _ (.cons _ (.cons _ (.refl _)))) | exact .cons _ (.cons _ (.cons _ (.cons _ (.cons _ (.refl _))))) | exact .cons _ (.cons _ (.cons_cons _ (.cons _ (.refl _)))))) ?_ | refine TR_storeA2 rfl rfl rfl (.there (.there (.there (.here)))) rfl rfl (fun _ h => h.sub (by first | exact .refl _ | exact .cons _ (.refl _) | exact .cons _ (.cons _ (.refl _)) | exact .cons_cons _ (.cons _ (.refl _)) | exact .cons _ (.cons _ (.cons _ (.refl _))) | exact .cons _ (.cons _ (.cons _ (.cons _ (.refl _)))) | exact .cons _ (.cons _ (.cons _ (.cons _ (.cons _ (.refl _))))) | exact .cons _ (.cons _ (.cons_cons _ (.cons _ (.refl _)))))) ?_); refine TR_nil ?_) | ((refine TR_allock (fun _ h => h.sub (by first | exact .refl _ | exact .cons _ (.refl _) | exact .cons _ (.cons _ (.refl _)) | exact .cons_cons _ (.cons _ (.refl _)) | exact .cons _ (.cons _ (.cons _ (.refl _))) | exact .cons _ (.cons _ (.cons _ (.cons _ (.refl _)))) | exact .cons _ (.cons _ (.cons _ (.cons _ (.cons _ (.refl _))))) | exact .cons _ (.cons _ (.cons_cons _ (.cons _ (.refl _)))))) rfl ?_; intro tb); refine TR_nil ?_; refine TQ_tree ?_; refine TT_fin ?_; (first | (refine TR_call2 hdo rfl rfl (.cons .here (.cons .here .nil)) rfl (fun v C' w hP hs => by obtain ⟨w', X', _, rfl, _⟩ := hP; exact hs.le (fun a => by simp only [les, List.cons_append, List.nil_append]; omega)) ?_; rintro _ _ ⟨w, X', rfl, rfl, hX', hA', hw⟩) | (refine TR_call2 hdo rfl rfl (.cons .here (.cons (.there .here) .nil)) rfl (fun v C' w hP hs => by obtain ⟨w', X', _, rfl, _⟩ := hP; exact hs.le (fun a => by simp only [les, List.cons_append, List.nil_append]; omega)) ?_; rintro _ _ ⟨w, X', rfl, rfl, hX', hA', hw⟩) | (refine TR_call2 hdo rfl rfl (.cons (.there .here) (.cons (.there .here) .nil)) rfl (fun v C' w hP hs => by obtain ⟨w', X', _, rfl, _⟩ := hP; exact hs.le (fun a => by simp only [les, List.cons_append, List.nil_append]; omega)) ?_; rintro _ _ ⟨w, X', rfl, rfl, hX', hA', hw⟩)); (first | refine TR_storeA2 rfl rfl rfl .here rfl rfl (fun _ h => h.sub (by first | exact .refl _ | exact .cons _ (.refl _) | exact .cons _ (.cons _ (.refl _)) | exact .cons_cons _ (.cons _ (.refl _)) | exact .cons _ (.cons _ (.cons _ (.refl _))) | exact .cons _ (.cons _ (.cons _ (.cons _ (.refl _)))) | exact .cons _ (.cons _ (.cons _ (.cons _ (.cons _ (.refl _))))) | exact .cons _ (.cons _ (.cons_cons _ (.cons _ (.refl _)))))) ?_ | refine TR_storeA2 rfl rfl rfl (.there (.here)) rfl rfl (fun _ h => h.sub (by first | exact .refl _ | exact .cons _ (.refl _) | exact .cons _ (.cons _ (.refl _)) | exact .cons_cons _ (.cons _ (.refl _)) | exact .cons _ (.cons _ (.cons _ (.refl _))) | exact .cons _ (.cons _ (.cons _ (.cons _ (.refl _)))) | exact .cons _ (.cons _ (.cons _ (.cons _ (.cons _ (.refl _))))) | exact .cons _ (.cons _ (.cons_cons _ (.cons _ (.refl _)))))) ?_ | refine TR_storeA2 rfl rfl rfl (.there (.there (.here))) rfl rfl (fun _ h => h.sub (by first | exact .refl _ | exact .cons _ (.refl _) | exact .cons _ (.cons _ (.refl _)) | exact .cons_cons _ (.cons _ (.refl _)) | exact .cons _ (.cons _ (.cons _ (.refl _))) | exact .cons _ (.cons _ (.cons _ (.cons _ (.refl _)))) | exact .cons _ (.cons _ (.cons _ (.cons _ (.cons _ (.refl _))))) | exact .cons _ (.cons _ (.cons_cons _ (.cons _ (.refl _)))))) ?_ | refine TR_storeA2 rfl rfl rfl (.there (.there (.there (.here)))) rfl rfl (fun _ h => h.sub (by first | exact .refl _ | exact .cons _ (.refl _) | exact .cons _ (.cons _ (.refl _)) | exact .cons_cons _ (.cons _ (.refl _)) | exact .cons _ (.cons _ (.cons _ (.refl _))) | exact .cons _ (.cons _ (.cons _ (.cons _ (.refl _)))) | exact .cons _ (.cons _ (.cons _ (.cons _ (.cons _ (.refl _))))) | exact .cons _ (.cons _ (.cons_cons _ (.cons _ (.refl _)))))) ?_); refine TR_nil ?_))) | ((refine TR_allock (fun _ h => h.sub (by first | exact .refl _ | exact .cons _ (.refl _) | exact .cons _ (.cons _ (.refl _)) | exact .cons_cons _ (.cons _ (.refl _)) | exact .cons _ (.cons _ (.cons _ (.refl _))) | exact .cons _ (.cons _ (.cons _ (.cons _ (.refl _)))) | exact .cons _ (.cons _ (.cons _ (.cons _ (.cons _ (.refl _))))) | exact .cons _ (.cons _ (.cons_cons _ (.cons _ (.refl _)))))) rfl ?_; intro tb); refine TR_nil ?_; refine TQ_tree ?_; refine TT_fin ?_; (first | (refine TR_call2 (cumF_cd b X) rfl rfl (.cons .here .nil) rfl (fun _ _ _ _ hs => hs.sub (List.Sublist.trans (by first | exact .refl _ | exact .cons _ (.refl _) | exact .cons _ (.cons _ (.refl _)) | exact .cons_cons _ (.cons _ (.refl _)) | exact .cons _ (.cons _ (.cons _ (.refl _))) | exact .cons _ (.cons _ (.cons _ (.cons _ (.refl _)))) | exact .cons _ (.cons _ (.cons _ (.cons _ (.cons _ (.refl _))))) | exact .cons _ (.cons _ (.cons_cons _ (.cons _ (.refl _))))) (List.sublist_append_right _ _))) ?_; rintro _ _ ⟨rfl, rfl⟩) | (refine TR_call2 (cumF_cd b X) rfl rfl (.cons (.there .here) .nil) rfl (fun _ _ _ _ hs => hs.sub (List.Sublist.trans (by first | exact .refl _ | exact .cons _ (.refl _) | exact .cons _ (.cons _ (.refl _)) | exact .cons_cons _ (.cons _ (.refl _)) | exact .cons _ (.cons _ (.cons _ (.refl _))) | exact .cons _ (.cons _ (.cons _ (.cons _ (.refl _)))) | exact .cons _ (.cons _ (.cons _ (.cons _ (.cons _ (.refl _))))) | exact .cons _ (.cons _ (.cons_cons _ (.cons _ (.refl _))))) (List.sublist_append_right _ _))) ?_; rintro _ _ ⟨rfl, rfl⟩)); (first | (refine TR_call2 hdo rfl rfl (.cons .here (.cons .here .nil)) rfl (fun v C' w hP hs => by obtain ⟨w', X', _, rfl, _⟩ := hP; exact hs.le (fun a => by simp only [les, List.cons_append, List.nil_append]; omega)) ?_; rintro _ _ ⟨w, X', rfl, rfl, hX', hA', hw⟩) | (refine TR_call2 hdo rfl rfl (.cons .here (.cons (.there .here) .nil)) rfl (fun v C' w hP hs => by obtain ⟨w', X', _, rfl, _⟩ := hP; exact hs.le (fun a => by simp only [les, List.cons_append, List.nil_append]; omega)) ?_; rintro _ _ ⟨w, X', rfl, rfl, hX', hA', hw⟩) | (refine TR_call2 hdo rfl rfl (.cons (.there .here) (.cons (.there .here) .nil)) rfl (fun v C' w hP hs => by obtain ⟨w', X', _, rfl, _⟩ := hP; exact hs.le (fun a => by simp only [les, List.cons_append, List.nil_append]; omega)) ?_; rintro _ _ ⟨w, X', rfl, rfl, hX', hA', hw⟩)); (first | refine TR_storeA2 rfl rfl rfl .here rfl rfl (fun _ h => h.sub (by first | exact .refl _ | exact .cons _ (.refl _) | exact .cons _ (.cons _ (.refl _)) | exact .cons_cons _ (.cons _ (.refl _)) | exact .cons _ (.cons _ (.cons _ (.refl _))) | exact .cons _ (.cons _ (.cons _ (.cons _ (.refl _)))) | exact .cons _ (.cons _ (.cons _ (.cons _ (.cons _ (.refl _))))) | exact .cons _ (.cons _ (.cons_cons _ (.cons _ (.refl _)))))) ?_ | refine TR_storeA2 rfl rfl rfl (.there (.here)) rfl rfl (fun _ h => h.sub (by first | exact .refl _ | exact .cons _ (.refl _) | exact .cons _ (.cons _ (.refl _)) | exact .cons_cons _ (.cons _ (.refl _)) | exact .cons _ (.cons _ (.cons _ (.refl _))) | exact .cons _ (.cons _ (.cons _ (.cons _ (.refl _)))) | exact .cons _ (.cons _ (.cons _ (.cons _ (.cons _ (.refl _))))) | exact .cons _ (.cons _ (.cons_cons _ (.cons _ (.refl _)))))) ?_ | refine TR_storeA2 rfl rfl rfl (.there (.there (.here))) rfl rfl (fun _ h => h.sub (by first | exact .refl _ | exact .cons _ (.refl _) | exact .cons _ (.cons _ (.refl _)) | exact .cons_cons _ (.cons _ (.refl _)) | exact .cons _ (.cons _ (.cons _ (.refl _))) | exact .cons _ (.cons _ (.cons _ (.cons _ (.refl _)))) | exact .cons _ (.cons _ (.cons _ (.cons _ (.cons _ (.refl _))))) | exact .cons _ (.cons _ (.cons_cons _ (.cons _ (.refl _)))))) ?_ | refine TR_storeA2 rfl rfl rfl (.there (.there (.there (.here)))) rfl rfl (fun _ h => h.sub (by first | exact .refl _ | exact .cons _ (.refl _) | exact .cons _ (.cons _ (.refl _)) | exact .cons_cons _ (.cons _ (.refl _)) | exact .cons _ (.cons _ (.cons _ (.refl _))) | exact .cons _ (.cons _ (.cons _ (.cons _ (.refl _)))) | exact .cons _ (.cons _ (.cons _ (.cons _ (.cons _ (.refl _))))) | exact .cons _ (.cons _ (.cons_cons _ (.cons _ (.refl _)))))) ?_); refine TR_nil ?_)))
          | refine TC_cond_t rfl rfl ?_
          | refine TC_cond_f rfl rfl ?_
          | refine TC_skip ?_
          | refine TC_ret ?_
          | refine TC_exit ?_
          | refine TC_block ?_
          | refine TQ_then_ret ?_
          | refine TQ_then_exit ?_
          | refine TQ_blk ?_
          | refine TQ_blk_ret ?_
          | refine TQ_blk_here ?_
          | refine TQ_blk_past rfl ?_
          | refine TC_label ?_
          | (refine TC_cond rfl rfl (fun hq => ?_) (fun hq => ?_) <;> (try simp only [qs] at hq) <;> (try simp only [reduceCtorEq] at hq) <;> (try (exfalso; omega)) <;> (try contradiction))
        all_goals
          first
            | exact TQ_cut (tb, X', w) ⟨hX', hA'⟩ ⟨rfl, rfl, rfl, rfl, rfl, rfl, rfl, rfl, trivial⟩ (fun w' hs => by
                have hs2 : St w₀ w' (asbk tb (setAll zAns 0 (A.cells w)) :: w.C :: X'.seg b :: H :: row.C :: R) := hs
                rw [cp_ans0] at hs2
                exact hs2.le (fun a => by simp only [les]; omega))
            | exact TQ_cut (tb, X', w) ⟨hX', hA'⟩ ⟨rfl, rfl, rfl, rfl, rfl, rfl, rfl, rfl, trivial⟩ (fun w' hs => by
                have hs2 : St w₀ w' (w.C :: X'.seg b :: H :: asbk tb (setAll zAns 0 (A.cells w)) :: row.C :: R) := hs
                rw [cp_ans0] at hs2
                exact hs2.le (fun a => by simp only [les]; omega))
      · rintro ⟨tb, X', w⟩ σ2 ⟨hX', hA'⟩
        dsimp only at hX' hA' ⊢
        have hll := hS.ll
        have hfn := hfew.n
        have hSrow := hS.row
        repeat' first
          | refine TC_seq ?_
          | refine TQ_then ?_
          | refine TR_nil ?_
          | refine TQ_noPanic ?_
          | refine TC_cond_t rfl rfl ?_
          | refine TC_cond_f rfl rfl ?_
          | refine TC_skip ?_
          | refine TC_ret ?_
          | refine TC_exit ?_
          | refine TC_block ?_
          | refine TQ_then_ret ?_
          | refine TQ_then_exit ?_
          | refine TQ_blk ?_
          | refine TQ_blk_ret ?_
          | refine TQ_blk_here ?_
          | refine TQ_blk_past rfl ?_
          | refine TC_label ?_
          | (refine TC_cond rfl rfl (fun hq => ?_) (fun hq => ?_) <;> (try simp only [qs] at hq) <;> (try simp only [reduceCtorEq] at hq) <;> (try (exfalso; omega)) <;> (try contradiction))
        refine TC_cut2 (X := Row × List Int × Nat) (fun s => asbk tb (A.cells w) :: X'.seg b :: s.1.C :: H :: R)
          (fun s => [(1, u32 c), (2, .slice (some ⟨bb, off, none⟩) ops.length cap), (7, ptr b), (9, s.1.val s.2.1.length), (10, i64 freed), (11, i64 acked), (12, i64 i), (13, ptr tb)])
          (fun s => FS ((c - 1) % 4294967296) paths ops (i + 1) X' s.1 s.2.1 s.2.2 (freed + A.t.freed) (acked + t4 A.t.t)) ?_ ?_
        · have hsum := hS.sum
          have hsn : ((ops.take (i + 1)).map fun o => (o.d.bytes.length : Int)).sum = ((ops.take i).map fun o => (o.d.bytes.length : Int)).sum + o.d.bytes.length := by
            rw [take_next hok, List.map_append, List.sum_append]; simp
          have no : ¬ (o.kind = 0 ∧ A.e = 0) → ∃ n', FS ((c - 1) % 4294967296) paths ops (i + 1) X' row lens n' (freed + A.t.freed) (acked + t4 A.t.t) := fun hh => by
            obtain ⟨n', hf⟩ := hstep.2 hh
            exact ⟨n', hX', by rw [hA']; exact hf, hSrow, hlt, by omega, hS.pos, by rw [hsn]; omega⟩
          by_cases hk : o.kind = 0
          · by_cases he : A.e = 0
            · repeat' first
              | refine TC_seq ?_
              | refine TQ_then ?_
              | refine TR_nil ?_
              | refine TQ_noPanic ?_
              | (refine TC_plain (id := 13) (by kernel_rfl) ?_; all_goals refine TR_pv0 PV_move rfl ?_; all_goals refine TR_pv0 PV_move rfl ?_; all_goals (first | refine TR_pv0 (PV_indexAddr rfl rfl (by omega)) rfl ?_ | refine TR_pv0 (PV_indexArr rfl rfl (by omega)) rfl ?_); all_goals refine TR_pv0 (PV_fieldAddr rfl) rfl ?_; all_goals (first | refine TR_loadM0 rfl hmem 3 rfl hk0 rfl ?_ | refine TR_loadM0 rfl hmem 3 rfl hk7 rfl ?_ | refine TR_load0 rfl 0 rfl rfl rfl ?_ | refine TR_load0 rfl 1 rfl rfl rfl ?_ | refine TR_load0 rfl 2 rfl rfl rfl ?_ | refine TR_load0 rfl 3 rfl rfl rfl ?_ | refine TR_load0 rfl 4 rfl rfl rfl ?_); all_goals refine TR_pv0 (PV_eql rfl rfl) rfl ?_; all_goals refine TR_pv0 PV_move rfl ?_; all_goals (first | refine TR_pv0 (PV_fieldAddr rfl) rfl ?_ | refine TR_skip0 rfl ?_ | (refine TR_gsplit rfl rfl rfl (fun hq => ?_) (fun hq => ?_) <;> (try simp only [qs] at hq) <;> (try simp only [reduceCtorEq] at hq) <;> (try (exfalso; omega)) <;> (try contradiction) <;> (first | refine TR_pv0 (PV_fieldAddr rfl) rfl ?_ | refine TR_skip0 rfl ?_))); all_goals (first | refine TR_loadM0 rfl hmem 3 rfl hk0 rfl ?_ | refine TR_loadM0 rfl hmem 3 rfl hk7 rfl ?_ | refine TR_load0 rfl 0 rfl rfl rfl ?_ | refine TR_load0 rfl 1 rfl rfl rfl ?_ | refine TR_load0 rfl 2 rfl rfl rfl ?_ | refine TR_load0 rfl 3 rfl rfl rfl ?_ | refine TR_load0 rfl 4 rfl rfl rfl ?_ | refine TR_skip0 rfl ?_ | (refine TR_gsplit rfl rfl rfl (fun hq => ?_) (fun hq => ?_) <;> (try simp only [qs] at hq) <;> (try simp only [reduceCtorEq] at hq) <;> (try (exfalso; omega)) <;> (try contradiction) <;> (first | refine TR_loadM0 rfl hmem 3 rfl hk0 rfl ?_ | refine TR_loadM0 rfl hmem 3 rfl hk7 rfl ?_ | refine TR_load0 rfl 0 rfl rfl rfl ?_ | refine TR_load0 rfl 1 rfl rfl rfl ?_ | refine TR_load0 rfl 2 rfl rfl rfl ?_ | refine TR_load0 rfl 3 rfl rfl rfl ?_ | refine TR_load0 rfl 4 rfl rfl rfl ?_ | refine TR_skip0 rfl ?_))); all_goals (first | refine TR_pv0 (PV_eql rfl rfl) rfl ?_ | refine TR_skip0 rfl ?_ | (refine TR_gsplit rfl rfl rfl (fun hq => ?_) (fun hq => ?_) <;> (try simp only [qs] at hq) <;> (try simp only [reduceCtorEq] at hq) <;> (try (exfalso; omega)) <;> (try contradiction) <;> (first | refine TR_pv0 (PV_eql rfl rfl) rfl ?_ | refine TR_skip0 rfl ?_))); all_goals (first | refine TR_pv0 (PV_pick_t rfl) rfl ?_ | refine TR_pv0 (PV_pick_f rfl) rfl ?_); all_goals refine TR_nil ?_)
              | (refine TC_plain (id := 14) (by kernel_rfl) ?_; refine TR_pv0 PV_move rfl ?_; refine TR_pv0 PV_move rfl ?_; refine TR_pv0 PV_move rfl ?_; (first | refine TR_pv0 (PV_indexAddr rfl rfl (by omega)) rfl ?_ | refine TR_pv0 (PV_indexArr rfl rfl (by omega)) rfl ?_); refine TR_pv0 (PV_fieldAddr rfl) rfl ?_; refine TR_pv0 (PV_fieldAddr rfl) rfl ?_; (first | refine TR_loadM0 rfl hmem 3 rfl hk0 rfl ?_ | refine TR_loadM0 rfl hmem 3 rfl hk7 rfl ?_ | refine TR_load0 rfl 0 rfl rfl rfl ?_ | refine TR_load0 rfl 1 rfl rfl rfl ?_ | refine TR_load0 rfl 2 rfl rfl rfl ?_ | refine TR_load0 rfl 3 rfl rfl rfl ?_ | refine TR_load0 rfl 4 rfl rfl rfl ?_); refine TR_pv0 (PV_len rfl) rfl ?_; (refine TR_buildSlice (.inl rfl) rfl rfl rfl rfl ?_; intro q); (refine TR_appendP (.inl rfl) hSrow rfl rfl (.cons (.there (.there (.there .here))) .nil) (src_at (m := 1) 0 rfl rfl) rfl rfl (by omega) rfl ?_; intro a' cap' C' hR); refine TR_pv0 PV_assign rfl ?_; refine TR_nil ?_)
              | refine TC_cond_t rfl rfl ?_
              | refine TC_cond_f rfl rfl ?_
              | refine TC_skip ?_
              | refine TC_ret ?_
              | refine TC_exit ?_
              | refine TC_block ?_
              | refine TQ_then_ret ?_
              | refine TQ_then_exit ?_
              | refine TQ_blk ?_
              | refine TQ_blk_ret ?_
              | refine TQ_blk_here ?_
              | refine TQ_blk_past rfl ?_
              | refine TC_label ?_
              | (refine TC_cond rfl rfl (fun hq => ?_) (fun hq => ?_) <;> (try simp only [qs] at hq) <;> (try simp only [reduceCtorEq] at hq) <;> (try (exfalso; omega)) <;> (try contradiction))
              refine TQ_cut (⟨a', cap', C'⟩, lens ++ [(o.d.bytes.length : Int)], n) ⟨hX', by rw [hA']; exact hstep.1 ⟨hk, he⟩, ?_, hlt, ?_, ?_, ?_⟩ ⟨rfl, rfl, rfl, ?_, rfl, rfl, rfl, rfl, trivial⟩ (fun w' hs => ?_)
              · show Sl _ _ _ _ _ _ _
                rw [List.length_append, List.map_append]; exact hR
              · show (lens ++ [(o.d.bytes.length : Int)]).length ≤ i + 1
                rw [List.length_append]; exact Nat.succ_le_succ hll
              · intro x hx
                rcases List.mem_append.1 hx with h | h
                · exact hS.pos x h
                · obtain rfl := List.mem_singleton.1 h; omega
              · show (lens ++ [(o.d.bytes.length : Int)]).sum ≤ _
                rw [hsn, List.sum_append]
                simp only [List.sum_cons, List.sum_nil]
                omega
              · show _ = Value.slice a' (lens ++ [(o.d.bytes.length : Int)]).length cap'
                rw [List.length_append]; rfl
              · have hs2 : St w₀ w' (C' :: blk q 3 [i64 o.d.bytes.length] :: asbk tb (A.cells w) :: X'.seg b :: H :: R) := hs
                exact hs2.le (fun a => by simp only [les]; omega)
            · obtain ⟨n', hf⟩ := no fun h => he h.2
              repeat' first
                | refine TC_seq ?_
                | refine TQ_then ?_
                | refine TR_nil ?_
                | refine TQ_noPanic ?_
                | (refine TC_plain (id := 13) (by kernel_rfl) ?_; all_goals refine TR_pv0 PV_move rfl ?_; all_goals refine TR_pv0 PV_move rfl ?_; all_goals (first | refine TR_pv0 (PV_indexAddr rfl rfl (by omega)) rfl ?_ | refine TR_pv0 (PV_indexArr rfl rfl (by omega)) rfl ?_); all_goals refine TR_pv0 (PV_fieldAddr rfl) rfl ?_; all_goals (first | refine TR_loadM0 rfl hmem 3 rfl hk0 rfl ?_ | refine TR_load0 rfl 0 rfl rfl rfl ?_ | refine TR_load0 rfl 1 rfl rfl rfl ?_ | refine TR_load0 rfl 2 rfl rfl rfl ?_ | refine TR_load0 rfl 3 rfl rfl rfl ?_ | refine TR_load0 rfl 4 rfl rfl rfl ?_); all_goals refine TR_pv0 (PV_eql rfl rfl) rfl ?_; all_goals refine TR_pv0 PV_move rfl ?_; all_goals (first | refine TR_pv0 (PV_fieldAddr rfl) rfl ?_ | refine TR_skip0 rfl ?_ | (refine TR_gsplit rfl rfl rfl (fun hq => ?_) (fun hq => ?_) <;> (try simp only [qs] at hq) <;> (try simp only [reduceCtorEq] at hq) <;> (try (exfalso; omega)) <;> (try contradiction) <;> (first | refine TR_pv0 (PV_fieldAddr rfl) rfl ?_ | refine TR_skip0 rfl ?_))); all_goals (first | refine TR_loadM0 rfl hmem 3 rfl hk0 rfl ?_ | refine TR_load0 rfl 0 rfl rfl rfl ?_ | refine TR_load0 rfl 1 rfl rfl rfl ?_ | refine TR_load0 rfl 2 rfl rfl rfl ?_ | refine TR_load0 rfl 3 rfl rfl rfl ?_ | refine TR_load0 rfl 4 rfl rfl rfl ?_ | refine TR_skip0 rfl ?_ | (refine TR_gsplit rfl rfl rfl (fun hq => ?_) (fun hq => ?_) <;> (try simp only [qs] at hq) <;> (try simp only [reduceCtorEq] at hq) <;> (try (exfalso; omega)) <;> (try contradiction) <;> (first | refine TR_loadM0 rfl hmem 3 rfl hk0 rfl ?_ | refine TR_load0 rfl 0 rfl rfl rfl ?_ | refine TR_load0 rfl 1 rfl rfl rfl ?_ | refine TR_load0 rfl 2 rfl rfl rfl ?_ | refine TR_load0 rfl 3 rfl rfl rfl ?_ | refine TR_load0 rfl 4 rfl rfl rfl ?_ | refine TR_skip0 rfl ?_))); all_goals (first | refine TR_pv0 (PV_eql rfl rfl) rfl ?_ | refine TR_skip0 rfl ?_ | (refine TR_gsplit rfl rfl rfl (fun hq => ?_) (fun hq => ?_) <;> (try simp only [qs] at hq) <;> (try simp only [reduceCtorEq] at hq) <;> (try (exfalso; omega)) <;> (try contradiction) <;> (first | refine TR_pv0 (PV_eql rfl rfl) rfl ?_ | refine TR_skip0 rfl ?_))); all_goals (first | refine TR_pv0 (PV_pick_t rfl) rfl ?_ | refine TR_pv0 (PV_pick_f rfl) rfl ?_); all_goals refine TR_nil ?_)
                | (refine TC_plain (id := 14) (by kernel_rfl) ?_; refine TR_pv0 PV_move rfl ?_; refine TR_pv0 PV_move rfl ?_; refine TR_pv0 PV_move rfl ?_; (first | refine TR_pv0 (PV_indexAddr rfl rfl (by omega)) rfl ?_ | refine TR_pv0 (PV_indexArr rfl rfl (by omega)) rfl ?_); refine TR_pv0 (PV_fieldAddr rfl) rfl ?_; refine TR_pv0 (PV_fieldAddr rfl) rfl ?_; (first | refine TR_loadM0 rfl hmem 3 rfl hk0 rfl ?_ | refine TR_load0 rfl 0 rfl rfl rfl ?_ | refine TR_load0 rfl 1 rfl rfl rfl ?_ | refine TR_load0 rfl 2 rfl rfl rfl ?_ | refine TR_load0 rfl 3 rfl rfl rfl ?_ | refine TR_load0 rfl 4 rfl rfl rfl ?_); refine TR_pv0 (PV_len rfl) rfl ?_; (refine TR_buildSlice (.inl rfl) rfl rfl rfl rfl ?_; intro _))
                | refine TC_cond_t rfl rfl ?_
                | refine TC_cond_f rfl rfl ?_
                | refine TC_skip ?_
                | refine TC_ret ?_
                | refine TC_exit ?_
                | refine TC_block ?_
                | refine TQ_then_ret ?_
                | refine TQ_then_exit ?_
                | refine TQ_blk ?_
                | refine TQ_blk_ret ?_
                | refine TQ_blk_here ?_
                | refine TQ_blk_past rfl ?_
                | refine TC_label ?_
                | (refine TC_cond rfl rfl (fun hq => ?_) (fun hq => ?_) <;> (try simp only [qs] at hq) <;> (try simp only [reduceCtorEq] at hq) <;> (try (exfalso; omega)) <;> (try contradiction))
                | (refine TR_pv0 PV_assign rfl ?_; refine TR_nil ?_)
              exact TQ_cut (row, lens, n') hf ⟨rfl, rfl, rfl, rfl, rfl, rfl, rfl, rfl, trivial⟩ (fun w' hs => hs)
          · obtain ⟨n', hf⟩ := no fun h => hk h.1
            repeat' first
              | refine TC_seq ?_
              | refine TQ_then ?_
              | refine TR_nil ?_
              | refine TQ_noPanic ?_
              | (refine TC_plain (id := 13) (by kernel_rfl) ?_; all_goals refine TR_pv0 PV_move rfl ?_; all_goals refine TR_pv0 PV_move rfl ?_; all_goals (first | refine TR_pv0 (PV_indexAddr rfl rfl (by omega)) rfl ?_ | refine TR_pv0 (PV_indexArr rfl rfl (by omega)) rfl ?_); all_goals refine TR_pv0 (PV_fieldAddr rfl) rfl ?_; all_goals (first | refine TR_loadM0 rfl hmem 3 rfl hk0 rfl ?_ | refine TR_load0 rfl 0 rfl rfl rfl ?_ | refine TR_load0 rfl 1 rfl rfl rfl ?_ | refine TR_load0 rfl 2 rfl rfl rfl ?_ | refine TR_load0 rfl 3 rfl rfl rfl ?_ | refine TR_load0 rfl 4 rfl rfl rfl ?_); all_goals refine TR_pv0 (PV_eql rfl rfl) rfl ?_; all_goals refine TR_pv0 PV_move rfl ?_; all_goals (first | refine TR_pv0 (PV_fieldAddr rfl) rfl ?_ | refine TR_skip0 rfl ?_ | (refine TR_gsplit rfl rfl rfl (fun hq => ?_) (fun hq => ?_) <;> (try simp only [qs] at hq) <;> (try simp only [reduceCtorEq] at hq) <;> (try (exfalso; omega)) <;> (try contradiction) <;> (first | refine TR_pv0 (PV_fieldAddr rfl) rfl ?_ | refine TR_skip0 rfl ?_))); all_goals (first | refine TR_loadM0 rfl hmem 3 rfl hk0 rfl ?_ | refine TR_load0 rfl 0 rfl rfl rfl ?_ | refine TR_load0 rfl 1 rfl rfl rfl ?_ | refine TR_load0 rfl 2 rfl rfl rfl ?_ | refine TR_load0 rfl 3 rfl rfl rfl ?_ | refine TR_load0 rfl 4 rfl rfl rfl ?_ | refine TR_skip0 rfl ?_ | (refine TR_gsplit rfl rfl rfl (fun hq => ?_) (fun hq => ?_) <;> (try simp only [qs] at hq) <;> (try simp only [reduceCtorEq] at hq) <;> (try (exfalso; omega)) <;> (try contradiction) <;> (first | refine TR_loadM0 rfl hmem 3 rfl hk0 rfl ?_ | refine TR_load0 rfl 0 rfl rfl rfl ?_ | refine TR_load0 rfl 1 rfl rfl rfl ?_ | refine TR_load0 rfl 2 rfl rfl rfl ?_ | refine TR_load0 rfl 3 rfl rfl rfl ?_ | refine TR_load0 rfl 4 rfl rfl rfl ?_ | refine TR_skip0 rfl ?_))); all_goals (first | refine TR_pv0 (PV_eql rfl rfl) rfl ?_ | refine TR_skip0 rfl ?_ | (refine TR_gsplit rfl rfl rfl (fun hq => ?_) (fun hq => ?_) <;> (try simp only [qs] at hq) <;> (try simp only [reduceCtorEq] at hq) <;> (try (exfalso; omega)) <;> (try contradiction) <;> (first | refine TR_pv0 (PV_eql rfl rfl) rfl ?_ | refine TR_skip0 rfl ?_))); all_goals (first | refine TR_pv0 (PV_pick_t rfl) rfl ?_ | refine TR_pv0 (PV_pick_f rfl) rfl ?_); all_goals refine TR_nil ?_)
              | (refine TC_plain (id := 14) (by kernel_rfl) ?_; refine TR_pv0 PV_move rfl ?_; refine TR_pv0 PV_move rfl ?_; refine TR_pv0 PV_move rfl ?_; (first | refine TR_pv0 (PV_indexAddr rfl rfl (by omega)) rfl ?_ | refine TR_pv0 (PV_indexArr rfl rfl (by omega)) rfl ?_); refine TR_pv0 (PV_fieldAddr rfl) rfl ?_; refine TR_pv0 (PV_fieldAddr rfl) rfl ?_; (first | refine TR_loadM0 rfl hmem 3 rfl hk0 rfl ?_ | refine TR_load0 rfl 0 rfl rfl rfl ?_ | refine TR_load0 rfl 1 rfl rfl rfl ?_ | refine TR_load0 rfl 2 rfl rfl rfl ?_ | refine TR_load0 rfl 3 rfl rfl rfl ?_ | refine TR_load0 rfl 4 rfl rfl rfl ?_); refine TR_pv0 (PV_len rfl) rfl ?_; (refine TR_buildSlice (.inl rfl) rfl rfl rfl rfl ?_; intro _))
              | refine TC_cond_t rfl rfl ?_
              | refine TC_cond_f rfl rfl ?_
              | refine TC_skip ?_
              | refine TC_ret ?_
              | refine TC_exit ?_
              | refine TC_block ?_
              | refine TQ_then_ret ?_
              | refine TQ_then_exit ?_
              | refine TQ_blk ?_
              | refine TQ_blk_ret ?_
              | refine TQ_blk_here ?_
              | refine TQ_blk_past rfl ?_
              | refine TC_label ?_
              | (refine TC_cond rfl rfl (fun hq => ?_) (fun hq => ?_) <;> (try simp only [qs] at hq) <;> (try simp only [reduceCtorEq] at hq) <;> (try (exfalso; omega)) <;> (try contradiction))
              | (refine TR_pv0 PV_assign rfl ?_; refine TR_nil ?_)
            exact TQ_cut (row, lens, n') hf ⟨rfl, rfl, rfl, rfl, rfl, rfl, rfl, rfl, trivial⟩ (fun w' hs => hs)
        · rintro ⟨row', lens', n'⟩ σ3 hS'
          dsimp only at hS' ⊢
          have hX2 := hS'.ok
          have hrow' := hS'.row
          have hfi := hS'.fi
          have hnl' := hfi.nl
          have hll' := hS'.ll
          have hpos' := hS'.pos
          have hac := hfi.ack
          have hfr := hfi.freed
          have ha0 := hS.fi.a0
          have hf0 := hS.fi.freed
          have hfb := sum_take_le lens n hS.pos
          have htb := sum_take_le lens' n' hpos'
          have hop := opn_0 X'.recs
          have htot : lens'.sum ≤ 65536 := by
            have h1 := hS'.sum
            have h2 := sum_take_le (ops.map fun o => (o.d.bytes.length : Int)) (i + 1) (fun x hx => by obtain ⟨o, _, rfl⟩ := List.mem_map.1 hx; omega)
            rw [← List.map_take] at h2
            have := hfew.w
            omega
          have hcumX : X'.cum = ((c - 1) % 4294967296 + n') % 4294967296 := hfi.cum
          have hszl : X'.l.length = lens'.length - n' := by
            have := congrArg List.length hfi.sz
            simpa [szs, FL.abs, recs_length] using this
          have hszs : opn X'.recs ≤ (lens'.drop n').sum := by rw [← hfi.sz]; exact opn_szs X'.recs
          have hsplit : (lens'.take n').sum + (lens'.drop n').sum = lens'.sum := by rw [← List.sum_append, List.take_append_drop]
          have hout4 : outUp X'.abs 4 ≤ opn X'.recs := out4_le X'.recs _ _
          change acked + t4 A.t.t + opn X'.recs ≤ lens'.sum at hac
          have hfs : 0 ≤ freed ∧ freed ≤ 65536 := by
            have := hS.sum
            have h2 := sum_take_le (ops.map fun o => (o.d.bytes.length : Int)) i (fun x hx => by obtain ⟨o, _, rfl⟩ := List.mem_map.1 hx; omega)
            rw [← List.map_take] at h2
            have := hfew.w
            omega
          have hft : -65536 ≤ A.t.freed ∧ A.t.freed ≤ 65536 := by omega
          have n0 := hnn 0
          have n1 := hnn 1
          have n2 := hnn 2
          have n3 := hnn 3
          have htU : ∀ p, p ≤ 4 → 0 ≤ tUp A.t.t p ∧ tUp A.t.t p ≤ t4 A.t.t := fun p hp => by
            rcases (show p = 0 ∨ p = 1 ∨ p = 2 ∨ p = 3 ∨ p = 4 by omega) with rfl | rfl | rfl | rfl | rfl <;> simp only [tUp, t4] <;> omega
          repeat' first
            | refine TC_seq ?_
            | refine TQ_then ?_
            | refine TR_nil ?_
            | refine TQ_noPanic ?_
            | (refine TC_plain (id := 15) (by kernel_rfl) ?_; refine TR_pv0 PV_move rfl ?_; refine TR_pv0 (PV_fieldAddr rfl) rfl ?_; refine TR_pv0 (PV_fieldAddr rfl) rfl ?_; (first | refine TR_load0 rfl 0 rfl rfl rfl ?_ | refine TR_load0 rfl 1 rfl rfl rfl ?_ | refine TR_load0 rfl 2 rfl rfl rfl ?_); (first | refine TR_pv0 (PV_add64 rfl rfl (by omega)) rfl ?_ | refine TR_pv0 (PV_add64w rfl rfl) rfl ?_); refine TR_pv0 PV_assign rfl ?_; refine TR_nil ?_)
            | (refine TC_plain (id := 16) (by kernel_rfl) ?_; refine TR_pv0 PV_assign rfl ?_; refine TR_nil ?_)
            | refine TC_cond_t rfl rfl ?_
            | refine TC_cond_f rfl rfl ?_
            | refine TC_skip ?_
            | refine TC_ret ?_
            | refine TC_exit ?_
            | refine TC_block ?_
            | refine TQ_then_ret ?_
            | refine TQ_then_exit ?_
            | refine TQ_blk ?_
            | refine TQ_blk_ret ?_
            | refine TQ_blk_here ?_
            | refine TQ_blk_past rfl ?_
            | refine TC_label ?_
            | (refine TC_cond rfl rfl (fun hq => ?_) (fun hq => ?_) <;> (try simp only [qs] at hq) <;> (try simp only [reduceCtorEq] at hq) <;> (try (exfalso; omega)) <;> (try contradiction))
          refine TC_loopP (X := Nat) (fun _ => asbk tb (A.cells w) :: X'.seg b :: row'.C :: H :: R)
            (fun p => [(1, u32 c), (2, .slice (some ⟨bb, off, none⟩) ops.length cap), (7, ptr b), (9, row'.val lens'.length), (10, i64 (freed + A.t.freed)), (11, i64 (acked + tUp A.t.t p)), (12, i64 i), (13, ptr tb), (14, i64 p)])
            (fun p => p ≤ 4) (fun p => 4 - p) 0 (by omega) ⟨rfl, rfl, rfl, rfl, rfl, congrArg (fun x : Int => i64 x) (by show acked = acked + 0; omega), rfl, rfl, rfl, trivial⟩ (fun w hs => hs) ?_
          rintro p σp mm2 hmm2 hp4
          have htUp := htU p hp4
          by_cases hplt : p < 4
          · have hv : (A.cells w)[0 + 10 + 2 + (p : Int).toNat * 5 + 0]? = some (i64 (A.t.t p).acked) := by
              rcases (show p = 0 ∨ p = 1 ∨ p = 2 ∨ p = 3 by omega) with rfl | rfl | rfl | rfl <;> rfl
            have htUp1 := htU (p + 1) hplt
            have hte : tUp A.t.t (p + 1) = tUp A.t.t p + (A.t.t p).acked := rfl
            repeat' first
              | refine TC_seq ?_
              | refine TQ_then ?_
              | refine TR_nil ?_
              | refine TQ_noPanic ?_
              | (refine TC_plain (id := 17) (by kernel_rfl) ?_; refine TR_pv0 PV_move rfl ?_; refine TR_pv0 (PV_lss rfl rfl) rfl ?_; refine TR_nil ?_)
              | (refine TC_plain (id := 19) (by kernel_rfl) ?_; refine TR_pv0 PV_move rfl ?_; refine TR_pv0 PV_move rfl ?_; refine TR_pv0 (PV_fieldAddr rfl) rfl ?_; refine TR_pv0 (PV_fieldAddr rfl) rfl ?_; (first | refine TR_pv0 (PV_indexAddr rfl rfl (by omega)) rfl ?_ | refine TR_pv0 (PV_indexArr rfl rfl (by omega)) rfl ?_); refine TR_pv0 (PV_fieldAddr rfl) rfl ?_; (first | refine TR_loadM0 rfl (.head _) 0 rfl hv rfl ?_ | refine TR_load0 rfl 0 rfl rfl rfl ?_ | refine TR_load0 rfl 1 rfl rfl rfl ?_ | refine TR_load0 rfl 2 rfl rfl rfl ?_ | refine TR_load0 rfl 3 rfl rfl rfl ?_); (first | refine TR_pv0 (PV_add64 rfl rfl (by omega)) rfl ?_ | refine TR_pv0 (PV_add64w rfl rfl) rfl ?_); refine TR_pv0 PV_assign rfl ?_; refine TR_nil ?_)
              | (refine TC_plain (id := 18) (by kernel_rfl) ?_; refine TR_pv0 PV_move rfl ?_; (first | refine TR_pv0 (PV_add64 rfl rfl (by omega)) rfl ?_ | refine TR_pv0 (PV_add64w rfl rfl) rfl ?_); refine TR_pv0 PV_assign rfl ?_; refine TR_nil ?_)
              | refine TC_cond_t rfl rfl ?_
              | refine TC_cond_f rfl rfl ?_
              | refine TC_skip ?_
              | refine TC_ret ?_
              | refine TC_exit ?_
              | refine TC_block ?_
              | refine TQ_then_ret ?_
              | refine TQ_then_exit ?_
              | refine TQ_blk ?_
              | refine TQ_blk_ret ?_
              | refine TQ_blk_here ?_
              | refine TQ_blk_past rfl ?_
              | refine TC_label ?_
              | (refine TC_cond rfl rfl (fun hq => ?_) (fun hq => ?_) <;> (try simp only [qs] at hq) <;> (try simp only [reduceCtorEq] at hq) <;> (try (exfalso; omega)) <;> (try contradiction))
            exact TQ_roundP (p + 1) hplt (by show 4 - (p + 1) < mm2; omega) ⟨rfl, rfl, rfl, rfl, rfl, congrArg (fun x : Int => i64 x) (by rw [hte]; omega), rfl, rfl, rfl, trivial⟩ (fun w hs => hs)
          obtain rfl : p = 4 := by omega
          rw [tUp4]
          have hcn := countF_cd b X'
          rw [hszl] at hcn
          repeat' first
            | refine TC_seq ?_
            | refine TQ_then ?_
            | refine TR_nil ?_
            | refine TQ_noPanic ?_
            | (refine TC_plain (id := 17) (by kernel_rfl) ?_; refine TR_pv0 PV_move rfl ?_; refine TR_pv0 (PV_lss rfl rfl) rfl ?_; refine TR_nil ?_)
            | (refine TC_plain (id := 18) (by kernel_rfl) ?_; refine TR_pv0 PV_move rfl ?_; (first | refine TR_pv0 (PV_add64 rfl rfl (by omega)) rfl ?_ | refine TR_pv0 (PV_add64w rfl rfl) rfl ?_); refine TR_pv0 PV_assign rfl ?_; refine TR_nil ?_)
            | (refine TC_plain (id := 20) (by kernel_rfl) ?_; refine TR_pv0 PV_move rfl ?_; refine TR_calld1_1 (cumF_cd b X') rfl rfl rfl rfl ?_; refine TR_pv0 PV_move rfl ?_; refine TR_pv0 (PV_sub32 rfl rfl) rfl ?_; refine TR_pv0 (PV_sub32 rfl rfl) rfl ?_; refine TR_pv0 (PV_conv64 rfl (by omega)) rfl ?_; refine TR_pv0 PV_assign rfl ?_; refine TR_nil ?_)
            | refine TC_cond_t rfl rfl ?_
            | refine TC_cond_f rfl rfl ?_
            | refine TC_skip ?_
            | refine TC_ret ?_
            | refine TC_exit ?_
            | refine TC_block ?_
            | refine TQ_then_ret ?_
            | refine TQ_then_exit ?_
            | refine TQ_blk ?_
            | refine TQ_blk_ret ?_
            | refine TQ_blk_here ?_
            | refine TQ_blk_past rfl ?_
            | refine TC_label ?_
            | (refine TC_cond rfl rfl (fun hq => ?_) (fun hq => ?_) <;> (try simp only [qs] at hq) <;> (try simp only [reduceCtorEq] at hq) <;> (try (exfalso; omega)) <;> (try contradiction))
          refine TC_slots [(1, u32 c), (2, .slice (some ⟨bb, off, none⟩) ops.length cap), (7, ptr b), (9, row'.val lens'.length), (10, i64 (freed + A.t.freed)), (11, i64 (acked + t4 A.t.t)), (12, i64 i), (15, i64 n')]
            ⟨rfl, rfl, rfl, rfl, rfl, rfl, rfl, congrArg (fun x : Int => i64 x) (by omega), trivial⟩ fun σ5 => ?_
          refine TC_le (L' := X'.seg b :: row'.C :: H :: R) (fun a => by simp only [les]; omega) ?_
          repeat' first
            | refine TC_seq ?_
            | refine TQ_then ?_
            | refine TR_nil ?_
            | refine TQ_noPanic ?_
            | (refine TC_plain (id := 21) (by kernel_rfl) ?_; all_goals refine TR_pv0 PV_move rfl ?_; all_goals refine TR_pv0 PV_move rfl ?_; all_goals refine TR_pv0 (PV_len rfl) rfl ?_; all_goals refine TR_pv0 (PV_gtr rfl rfl) rfl ?_; all_goals refine TR_pv0 PV_move rfl ?_; all_goals (first | refine TR_pv0 PV_move rfl ?_ | refine TR_skip0 rfl ?_ | (refine TR_gsplit rfl rfl rfl (fun hq => ?_) (fun hq => ?_) <;> (try simp only [qs] at hq) <;> (try simp only [reduceCtorEq] at hq) <;> (try (exfalso; omega)) <;> (try contradiction) <;> (first | refine TR_pv0 PV_move rfl ?_ | refine TR_skip0 rfl ?_))); all_goals (first | refine TR_calld1_0 (hcn) rfl rfl rfl rfl ?_ | refine TR_skip0 rfl ?_ | (refine TR_gsplit rfl rfl rfl (fun hq => ?_) (fun hq => ?_) <;> (try simp only [qs] at hq) <;> (try simp only [reduceCtorEq] at hq) <;> (try (exfalso; omega)) <;> (try contradiction) <;> (first | refine TR_calld1_0 (hcn) rfl rfl rfl rfl ?_ | refine TR_skip0 rfl ?_))); all_goals (first | refine TR_pv0 PV_move rfl ?_ | refine TR_skip0 rfl ?_ | (refine TR_gsplit rfl rfl rfl (fun hq => ?_) (fun hq => ?_) <;> (try simp only [qs] at hq) <;> (try simp only [reduceCtorEq] at hq) <;> (try (exfalso; omega)) <;> (try contradiction) <;> (first | refine TR_pv0 PV_move rfl ?_ | refine TR_skip0 rfl ?_))); all_goals (first | refine TR_pv0 (PV_len rfl) rfl ?_ | refine TR_skip0 rfl ?_ | (refine TR_gsplit rfl rfl rfl (fun hq => ?_) (fun hq => ?_) <;> (try simp only [qs] at hq) <;> (try simp only [reduceCtorEq] at hq) <;> (try (exfalso; omega)) <;> (try contradiction) <;> (first | refine TR_pv0 (PV_len rfl) rfl ?_ | refine TR_skip0 rfl ?_))); all_goals (first | refine TR_pv0 PV_move rfl ?_ | refine TR_skip0 rfl ?_ | (refine TR_gsplit rfl rfl rfl (fun hq => ?_) (fun hq => ?_) <;> (try simp only [qs] at hq) <;> (try simp only [reduceCtorEq] at hq) <;> (try (exfalso; omega)) <;> (try contradiction) <;> (first | refine TR_pv0 PV_move rfl ?_ | refine TR_skip0 rfl ?_))); all_goals (first | refine TR_pv0 (PV_sub64 rfl rfl (by omega)) rfl ?_ | refine TR_pv0 (PV_sub64w rfl rfl) rfl ?_ | refine TR_skip0 rfl ?_ | (refine TR_gsplit rfl rfl rfl (fun hq => ?_) (fun hq => ?_) <;> (try simp only [qs] at hq) <;> (try simp only [reduceCtorEq] at hq) <;> (try (exfalso; omega)) <;> (try contradiction) <;> (first | refine TR_pv0 (PV_sub64 rfl rfl (by omega)) rfl ?_ | refine TR_pv0 (PV_sub64w rfl rfl) rfl ?_ | refine TR_skip0 rfl ?_))); all_goals (first | refine TR_pv0 (PV_neq rfl rfl) rfl ?_ | refine TR_skip0 rfl ?_ | (refine TR_gsplit rfl rfl rfl (fun hq => ?_) (fun hq => ?_) <;> (try simp only [qs] at hq) <;> (try simp only [reduceCtorEq] at hq) <;> (try (exfalso; omega)) <;> (try contradiction) <;> (first | refine TR_pv0 (PV_neq rfl rfl) rfl ?_ | refine TR_skip0 rfl ?_))); all_goals (first | refine TR_pv0 (PV_pick_t rfl) rfl ?_ | refine TR_pv0 (PV_pick_f rfl) rfl ?_); all_goals refine TR_nil ?_)
            | (refine TC_plain (id := 22) (by kernel_rfl) ?_; refine TR_pv0 PV_assign rfl ?_; refine TR_nil ?_)
            | (refine TC_plain (id := 23) (by kernel_rfl) ?_; refine TR_pv0 PV_assign rfl ?_; refine TR_nil ?_)
            | (refine TC_plain (id := 24) (by kernel_rfl) ?_; refine TR_pv0 PV_assign rfl ?_; refine TR_nil ?_)
            | (refine TC_plain (id := 25) (by kernel_rfl) ?_; refine TR_pv0 PV_assign rfl ?_; refine TR_nil ?_)
            | refine TC_cond_t rfl rfl ?_
            | refine TC_cond_f rfl rfl ?_
            | refine TC_skip ?_
            | refine TC_ret ?_
            | refine TC_exit ?_
            | refine TC_block ?_
            | refine TQ_then_ret ?_
            | refine TQ_then_exit ?_
            | refine TQ_blk ?_
            | refine TQ_blk_ret ?_
            | refine TQ_blk_here ?_
            | refine TQ_blk_past rfl ?_
            | refine TC_label ?_
            | (refine TC_cond rfl rfl (fun hq => ?_) (fun hq => ?_) <;> (try simp only [qs] at hq) <;> (try simp only [reduceCtorEq] at hq) <;> (try (exfalso; omega)) <;> (try contradiction))
          refine TC_loopP (X := Nat) (fun _ => X'.seg b :: row'.C :: H :: R)
            (fun k => [(1, u32 c), (2, .slice (some ⟨bb, off, none⟩) ops.length cap), (7, ptr b), (9, row'.val lens'.length), (10, i64 (freed + A.t.freed)), (11, i64 (acked + t4 A.t.t)), (12, i64 i), (15, i64 n'), (16, i64 (lens'.take (min k n')).sum), (17, i64 (lens'.take k).sum), (18, i64 k)])
            (fun k => k ≤ lens'.length) (fun k => lens'.length - k) 0 (Nat.zero_le _) ⟨rfl, rfl, rfl, rfl, rfl, rfl, rfl, rfl, congrArg (fun x : Int => i64 x) (by rw [Nat.zero_min]; rfl), rfl, rfl, trivial⟩ (fun w hs => hs) ?_
          rintro k σk mm3 hmm3 hk
          have hb1 := sum_take_le lens' k hpos'
          have hb2 := sum_take_le lens' (min k n') hpos'
          by_cases hklt : k < lens'.length
          · obtain ⟨x, hx⟩ : ∃ x, lens'[k]? = some x := ⟨lens'[k], List.getElem?_eq_getElem hklt⟩
            obtain ⟨rb3, off3, cells3, har3, hC3, hcl3, hct3⟩ := hrow'.opened (by omega)
            have hsl3 : Value.slice row'.a lens'.length row'.cap = .slice (some ⟨rb3, off3, none⟩) lens'.length row'.cap := by rw [har3]
            have hc3 : cells3[off3 + (k : Int).toNat * 1]? = some (i64 x) := by
              rw [Nat.mul_one, Int.toNat_natCast, take_at hct3 (j := k) (by omega), List.getElem?_map, hx]; rfl
            have hgm3 : (rb3, Obj.cells cells3.toArray 3 (0, 0)) ∈ row'.C := by rw [hC3]; exact .head _
            have hn1 := sum_next hx
            have hb3 := sum_take_le lens' (k + 1) hpos'
            have hx0 := hpos' x (List.mem_of_getElem? hx)
            by_cases hkn : k < n'
            · have e1 : min k n' = k := by omega
              have e2 : min (k + 1) n' = k + 1 := by omega
              rw [e1] at hb2 ⊢
              repeat' first
                | refine TC_seq ?_
                | refine TQ_then ?_
                | refine TR_nil ?_
                | refine TQ_noPanic ?_
                | (refine TC_plain (id := 26) (by kernel_rfl) ?_; refine TR_pv0 PV_move rfl ?_; refine TR_pv0 PV_move rfl ?_; refine TR_pv0 (PV_len rfl) rfl ?_; refine TR_pv0 (PV_lss rfl rfl) rfl ?_; refine TR_nil ?_)
                | (refine TC_plain (id := 28) (by kernel_rfl) ?_; refine TR_pv0 PV_move rfl ?_; refine TR_pv0 PV_move rfl ?_; refine TR_pv0 PV_move rfl ?_; (first | refine TR_pv0 (PV_indexAddr hsl3 rfl (by omega)) rfl ?_ | refine TR_pv0 (PV_indexAddr rfl rfl (by omega)) rfl ?_ | refine TR_pv0 (PV_indexArr rfl rfl (by omega)) rfl ?_); (first | refine TR_loadM0 rfl hgm3 1 rfl hc3 rfl ?_ | refine TR_load0 rfl 0 rfl rfl rfl ?_ | refine TR_load0 rfl 1 rfl rfl rfl ?_ | refine TR_load0 rfl 2 rfl rfl rfl ?_ | refine TR_load0 rfl 3 rfl rfl rfl ?_); (first | refine TR_pv0 (PV_add64 rfl rfl (by omega)) rfl ?_ | refine TR_pv0 (PV_add64w rfl rfl) rfl ?_); refine TR_pv0 PV_assign rfl ?_; refine TR_nil ?_)
                | (refine TC_plain (id := 29) (by kernel_rfl) ?_; refine TR_pv0 PV_move rfl ?_; refine TR_pv0 PV_move rfl ?_; refine TR_pv0 (PV_lss rfl rfl) rfl ?_; refine TR_nil ?_)
                | (refine TC_plain (id := 30) (by kernel_rfl) ?_; refine TR_pv0 PV_move rfl ?_; refine TR_pv0 PV_move rfl ?_; refine TR_pv0 PV_move rfl ?_; (first | refine TR_pv0 (PV_indexAddr hsl3 rfl (by omega)) rfl ?_ | refine TR_pv0 (PV_indexAddr rfl rfl (by omega)) rfl ?_ | refine TR_pv0 (PV_indexArr rfl rfl (by omega)) rfl ?_); (first | refine TR_loadM0 rfl hgm3 1 rfl hc3 rfl ?_ | refine TR_load0 rfl 0 rfl rfl rfl ?_ | refine TR_load0 rfl 1 rfl rfl rfl ?_ | refine TR_load0 rfl 2 rfl rfl rfl ?_ | refine TR_load0 rfl 3 rfl rfl rfl ?_); (first | refine TR_pv0 (PV_add64 rfl rfl (by omega)) rfl ?_ | refine TR_pv0 (PV_add64w rfl rfl) rfl ?_); refine TR_pv0 PV_assign rfl ?_; refine TR_nil ?_)
                | (refine TC_plain (id := 27) (by kernel_rfl) ?_; refine TR_pv0 PV_move rfl ?_; (first | refine TR_pv0 (PV_add64 rfl rfl (by omega)) rfl ?_ | refine TR_pv0 (PV_add64w rfl rfl) rfl ?_); refine TR_pv0 PV_assign rfl ?_; refine TR_nil ?_)
                | refine TC_cond_t rfl rfl ?_
                | refine TC_cond_f rfl rfl ?_
                | refine TC_skip ?_
                | refine TC_ret ?_
                | refine TC_exit ?_
                | refine TC_block ?_
                | refine TQ_then_ret ?_
                | refine TQ_then_exit ?_
                | refine TQ_blk ?_
                | refine TQ_blk_ret ?_
                | refine TQ_blk_here ?_
                | refine TQ_blk_past rfl ?_
                | refine TC_label ?_
                | (refine TC_cond rfl rfl (fun hq => ?_) (fun hq => ?_) <;> (try simp only [qs] at hq) <;> (try simp only [reduceCtorEq] at hq) <;> (try (exfalso; omega)) <;> (try contradiction))
              exact TQ_roundP (k + 1) hklt (by show lens'.length - (k + 1) < mm3; omega) ⟨rfl, rfl, rfl, rfl, rfl, rfl, rfl, rfl, congrArg (fun x : Int => i64 x) (by rw [e2, hn1]), congrArg (fun x : Int => i64 x) (by rw [hn1]), rfl, trivial⟩ (fun w hs => hs)
            · have e1 : min k n' = n' := by omega
              have e2 : min (k + 1) n' = n' := by omega
              rw [e1] at hb2 ⊢
              repeat' first
                | refine TC_seq ?_
                | refine TQ_then ?_
                | refine TR_nil ?_
                | refine TQ_noPanic ?_
                | (refine TC_plain (id := 26) (by kernel_rfl) ?_; refine TR_pv0 PV_move rfl ?_; refine TR_pv0 PV_move rfl ?_; refine TR_pv0 (PV_len rfl) rfl ?_; refine TR_pv0 (PV_lss rfl rfl) rfl ?_; refine TR_nil ?_)
                | (refine TC_plain (id := 28) (by kernel_rfl) ?_; refine TR_pv0 PV_move rfl ?_; refine TR_pv0 PV_move rfl ?_; refine TR_pv0 PV_move rfl ?_; (first | refine TR_pv0 (PV_indexAddr hsl3 rfl (by omega)) rfl ?_ | refine TR_pv0 (PV_indexAddr rfl rfl (by omega)) rfl ?_ | refine TR_pv0 (PV_indexArr rfl rfl (by omega)) rfl ?_); (first | refine TR_loadM0 rfl hgm3 1 rfl hc3 rfl ?_ | refine TR_load0 rfl 0 rfl rfl rfl ?_ | refine TR_load0 rfl 1 rfl rfl rfl ?_ | refine TR_load0 rfl 2 rfl rfl rfl ?_ | refine TR_load0 rfl 3 rfl rfl rfl ?_); (first | refine TR_pv0 (PV_add64 rfl rfl (by omega)) rfl ?_ | refine TR_pv0 (PV_add64w rfl rfl) rfl ?_); refine TR_pv0 PV_assign rfl ?_; refine TR_nil ?_)
                | (refine TC_plain (id := 29) (by kernel_rfl) ?_; refine TR_pv0 PV_move rfl ?_; refine TR_pv0 PV_move rfl ?_; refine TR_pv0 (PV_lss rfl rfl) rfl ?_; refine TR_nil ?_)
                | (refine TC_plain (id := 30) (by kernel_rfl) ?_; refine TR_pv0 PV_move rfl ?_; refine TR_pv0 PV_move rfl ?_; refine TR_pv0 PV_move rfl ?_; (first | refine TR_pv0 (PV_indexAddr hsl3 rfl (by omega)) rfl ?_ | refine TR_pv0 (PV_indexAddr rfl rfl (by omega)) rfl ?_ | refine TR_pv0 (PV_indexArr rfl rfl (by omega)) rfl ?_); (first | refine TR_loadM0 rfl hgm3 1 rfl hc3 rfl ?_ | refine TR_load0 rfl 0 rfl rfl rfl ?_ | refine TR_load0 rfl 1 rfl rfl rfl ?_ | refine TR_load0 rfl 2 rfl rfl rfl ?_ | refine TR_load0 rfl 3 rfl rfl rfl ?_); (first | refine TR_pv0 (PV_add64 rfl rfl (by omega)) rfl ?_ | refine TR_pv0 (PV_add64w rfl rfl) rfl ?_); refine TR_pv0 PV_assign rfl ?_; refine TR_nil ?_)
                | (refine TC_plain (id := 27) (by kernel_rfl) ?_; refine TR_pv0 PV_move rfl ?_; (first | refine TR_pv0 (PV_add64 rfl rfl (by omega)) rfl ?_ | refine TR_pv0 (PV_add64w rfl rfl) rfl ?_); refine TR_pv0 PV_assign rfl ?_; refine TR_nil ?_)
                | refine TC_cond_t rfl rfl ?_
                | refine TC_cond_f rfl rfl ?_
                | refine TC_skip ?_
                | refine TC_ret ?_
                | refine TC_exit ?_
                | refine TC_block ?_
                | refine TQ_then_ret ?_
                | refine TQ_then_exit ?_
                | refine TQ_blk ?_
                | refine TQ_blk_ret ?_
                | refine TQ_blk_here ?_
                | refine TQ_blk_past rfl ?_
                | refine TC_label ?_
                | (refine TC_cond rfl rfl (fun hq => ?_) (fun hq => ?_) <;> (try simp only [qs] at hq) <;> (try simp only [reduceCtorEq] at hq) <;> (try (exfalso; omega)) <;> (try contradiction))
              exact TQ_roundP (k + 1) hklt (by show lens'.length - (k + 1) < mm3; omega) ⟨rfl, rfl, rfl, rfl, rfl, rfl, rfl, rfl, congrArg (fun x : Int => i64 x) (by rw [e2]), congrArg (fun x : Int => i64 x) (by rw [hn1]), rfl, trivial⟩ (fun w hs => hs)
          obtain rfl : k = lens'.length := by omega
          have e1 : min lens'.length n' = n' := by omega
          have e2 : lens'.take lens'.length = lens' := List.take_length
          rw [e1, e2]
          repeat' first
            | refine TC_seq ?_
            | refine TQ_then ?_
            | refine TR_nil ?_
            | refine TQ_noPanic ?_
            | (refine TC_plain (id := 26) (by kernel_rfl) ?_; refine TR_pv0 PV_move rfl ?_; refine TR_pv0 PV_move rfl ?_; refine TR_pv0 (PV_len rfl) rfl ?_; refine TR_pv0 (PV_lss rfl rfl) rfl ?_; refine TR_nil ?_)
            | (refine TC_plain (id := 31) (by kernel_rfl) ?_; refine TR_pv0 PV_assign rfl ?_; refine TR_nil ?_)
            | (refine TC_plain (id := 32) (by kernel_rfl) ?_; refine TR_pv0 PV_assign rfl ?_; refine TR_nil ?_)
            | refine TC_cond_t rfl rfl ?_
            | refine TC_cond_f rfl rfl ?_
            | refine TC_skip ?_
            | refine TC_ret ?_
            | refine TC_exit ?_
            | refine TC_block ?_
            | refine TQ_then_ret ?_
            | refine TQ_then_exit ?_
            | refine TQ_blk ?_
            | refine TQ_blk_ret ?_
            | refine TQ_blk_here ?_
            | refine TQ_blk_past rfl ?_
            | refine TC_label ?_
            | (refine TC_cond rfl rfl (fun hq => ?_) (fun hq => ?_) <;> (try simp only [qs] at hq) <;> (try simp only [reduceCtorEq] at hq) <;> (try (exfalso; omega)) <;> (try contradiction))
          refine TC_loopP (X := Nat) (fun _ => X'.seg b :: row'.C :: H :: R)
            (fun p => [(1, u32 c), (2, .slice (some ⟨bb, off, none⟩) ops.length cap), (7, ptr b), (9, row'.val lens'.length), (10, i64 (freed + A.t.freed)), (11, i64 (acked + t4 A.t.t)), (12, i64 i), (16, i64 (lens'.take n').sum), (17, i64 lens'.sum), (19, i64 (outUp X'.abs p)), (20, i64 p)])
            (fun p => p ≤ 4) (fun p => 4 - p) 0 (by omega) ⟨rfl, rfl, rfl, rfl, rfl, rfl, rfl, rfl, rfl, rfl, rfl, trivial⟩ (fun w hs => hs) ?_
          rintro p σq mm4 hmm4 hp5
          have hoU : ∀ q, q ≤ 4 → outUp X'.abs q ≤ outUp X'.abs 4 := fun q hq => by
            have o0 := outS_0 X'.abs 0
            have o1 := outS_0 X'.abs 1
            have o2 := outS_0 X'.abs 2
            have o3 := outS_0 X'.abs 3
            rcases (show q = 0 ∨ q = 1 ∨ q = 2 ∨ q = 3 ∨ q = 4 by omega) with rfl | rfl | rfl | rfl | rfl <;> simp only [outUp] <;> simp <;> omega
          have hop5 := hoU p hp5
          have hop0 := outUp_0 X'.abs p
          by_cases hplt : p < 4
          · have hou : Cd _ _ _ _ (i64 (outS X'.abs p)) _ := outF_cd b X' hX2 p
            have hos := outS_0 X'.abs p
            have hop6 := hoU (p + 1) hplt
            have hoe : outUp X'.abs (p + 1) = outUp X'.abs p + outS X'.abs p := rfl
            repeat' first
              | refine TC_seq ?_
              | refine TQ_then ?_
              | refine TR_nil ?_
              | refine TQ_noPanic ?_
              | (refine TC_plain (id := 33) (by kernel_rfl) ?_; refine TR_pv0 PV_move rfl ?_; refine TR_pv0 (PV_lss rfl rfl) rfl ?_; refine TR_nil ?_)
              | (refine TC_plain (id := 35) (by kernel_rfl) ?_; refine TR_pv0 PV_move rfl ?_; refine TR_pv0 PV_move rfl ?_; refine TR_calld1_0 (hou) rfl rfl rfl rfl ?_; refine TR_pv0 (PV_lss rfl rfl) rfl ?_; refine TR_nil ?_)
              | (refine TC_plain (id := 36) (by kernel_rfl) ?_; refine TR_pv0 PV_assign rfl ?_; refine TR_nil ?_)
              | (refine TC_plain (id := 37) (by kernel_rfl) ?_; refine TR_pv0 PV_move rfl ?_; refine TR_pv0 PV_move rfl ?_; refine TR_pv0 PV_move rfl ?_; refine TR_calld1_0 (hou) rfl rfl rfl rfl ?_; (first | refine TR_pv0 (PV_add64 rfl rfl (by omega)) rfl ?_ | refine TR_pv0 (PV_add64w rfl rfl) rfl ?_); refine TR_pv0 PV_assign rfl ?_; refine TR_nil ?_)
              | (refine TC_plain (id := 34) (by kernel_rfl) ?_; refine TR_pv0 PV_move rfl ?_; (first | refine TR_pv0 (PV_add64 rfl rfl (by omega)) rfl ?_ | refine TR_pv0 (PV_add64w rfl rfl) rfl ?_); refine TR_pv0 PV_assign rfl ?_; refine TR_nil ?_)
              | refine TC_cond_t rfl rfl ?_
              | refine TC_cond_f rfl rfl ?_
              | refine TC_skip ?_
              | refine TC_ret ?_
              | refine TC_exit ?_
              | refine TC_block ?_
              | refine TQ_then_ret ?_
              | refine TQ_then_exit ?_
              | refine TQ_blk ?_
              | refine TQ_blk_ret ?_
              | refine TQ_blk_here ?_
              | refine TQ_blk_past rfl ?_
              | refine TC_label ?_
              | (refine TC_cond rfl rfl (fun hq => ?_) (fun hq => ?_) <;> (try simp only [qs] at hq) <;> (try simp only [reduceCtorEq] at hq) <;> (try (exfalso; omega)) <;> (try contradiction))
            exact TQ_roundP (p + 1) hplt (by show 4 - (p + 1) < mm4; omega) ⟨rfl, rfl, rfl, rfl, rfl, rfl, rfl, rfl, rfl, rfl, rfl, trivial⟩ (fun w hs => hs)
          obtain rfl : p = 4 := by omega
          have hopn : Cd _ _ _ _ (i64 (opn X'.recs)) _ := openF_cd b X' hX2
          repeat' first
            | refine TC_seq ?_
            | refine TQ_then ?_
            | refine TR_nil ?_
            | refine TQ_noPanic ?_
            | (refine TC_plain (id := 33) (by kernel_rfl) ?_; refine TR_pv0 PV_move rfl ?_; refine TR_pv0 (PV_lss rfl rfl) rfl ?_; refine TR_nil ?_)
            | (refine TC_plain (id := 38) (by kernel_rfl) ?_; all_goals refine TR_pv0 PV_move rfl ?_; all_goals refine TR_pv0 PV_move rfl ?_; all_goals refine TR_pv0 (PV_neq rfl rfl) rfl ?_; all_goals refine TR_pv0 PV_move rfl ?_; all_goals (first | refine TR_pv0 PV_move rfl ?_ | refine TR_skip0 rfl ?_ | (refine TR_gsplit rfl rfl rfl (fun hq => ?_) (fun hq => ?_) <;> (try simp only [qs] at hq) <;> (try simp only [reduceCtorEq] at hq) <;> (try (exfalso; omega)) <;> (try contradiction) <;> (first | refine TR_pv0 PV_move rfl ?_ | refine TR_skip0 rfl ?_))); all_goals (first | refine TR_pv0 PV_move rfl ?_ | refine TR_skip0 rfl ?_ | (refine TR_gsplit rfl rfl rfl (fun hq => ?_) (fun hq => ?_) <;> (try simp only [qs] at hq) <;> (try simp only [reduceCtorEq] at hq) <;> (try (exfalso; omega)) <;> (try contradiction) <;> (first | refine TR_pv0 PV_move rfl ?_ | refine TR_skip0 rfl ?_))); all_goals (first | refine TR_pv0 (PV_gtr rfl rfl) rfl ?_ | refine TR_skip0 rfl ?_ | (refine TR_gsplit rfl rfl rfl (fun hq => ?_) (fun hq => ?_) <;> (try simp only [qs] at hq) <;> (try simp only [reduceCtorEq] at hq) <;> (try (exfalso; omega)) <;> (try contradiction) <;> (first | refine TR_pv0 (PV_gtr rfl rfl) rfl ?_ | refine TR_skip0 rfl ?_))); all_goals (first | refine TR_pv0 (PV_pick_t rfl) rfl ?_ | refine TR_pv0 (PV_pick_f rfl) rfl ?_); all_goals refine TR_pv0 PV_move rfl ?_; all_goals (first | refine TR_pv0 PV_move rfl ?_ | refine TR_skip0 rfl ?_ | (refine TR_gsplit rfl rfl rfl (fun hq => ?_) (fun hq => ?_) <;> (try simp only [qs] at hq) <;> (try simp only [reduceCtorEq] at hq) <;> (try (exfalso; omega)) <;> (try contradiction) <;> (first | refine TR_pv0 PV_move rfl ?_ | refine TR_skip0 rfl ?_))); all_goals (first | refine TR_pv0 PV_move rfl ?_ | refine TR_skip0 rfl ?_ | (refine TR_gsplit rfl rfl rfl (fun hq => ?_) (fun hq => ?_) <;> (try simp only [qs] at hq) <;> (try simp only [reduceCtorEq] at hq) <;> (try (exfalso; omega)) <;> (try contradiction) <;> (first | refine TR_pv0 PV_move rfl ?_ | refine TR_skip0 rfl ?_))); all_goals (first | refine TR_pv0 (PV_add64 rfl rfl (by omega)) rfl ?_ | refine TR_pv0 (PV_add64w rfl rfl) rfl ?_ | refine TR_skip0 rfl ?_ | (refine TR_gsplit rfl rfl rfl (fun hq => ?_) (fun hq => ?_) <;> (try simp only [qs] at hq) <;> (try simp only [reduceCtorEq] at hq) <;> (try (exfalso; omega)) <;> (try contradiction) <;> (first | refine TR_pv0 (PV_add64 rfl rfl (by omega)) rfl ?_ | refine TR_pv0 (PV_add64w rfl rfl) rfl ?_ | refine TR_skip0 rfl ?_))); all_goals (first | refine TR_pv0 PV_move rfl ?_ | refine TR_skip0 rfl ?_ | (refine TR_gsplit rfl rfl rfl (fun hq => ?_) (fun hq => ?_) <;> (try simp only [qs] at hq) <;> (try simp only [reduceCtorEq] at hq) <;> (try (exfalso; omega)) <;> (try contradiction) <;> (first | refine TR_pv0 PV_move rfl ?_ | refine TR_skip0 rfl ?_))); all_goals (first | refine TR_pv0 (PV_gtr rfl rfl) rfl ?_ | refine TR_skip0 rfl ?_ | (refine TR_gsplit rfl rfl rfl (fun hq => ?_) (fun hq => ?_) <;> (try simp only [qs] at hq) <;> (try simp only [reduceCtorEq] at hq) <;> (try (exfalso; omega)) <;> (try contradiction) <;> (first | refine TR_pv0 (PV_gtr rfl rfl) rfl ?_ | refine TR_skip0 rfl ?_))); all_goals (first | refine TR_pv0 (PV_pick_t rfl) rfl ?_ | refine TR_pv0 (PV_pick_f rfl) rfl ?_); all_goals refine TR_pv0 PV_move rfl ?_; all_goals (first | refine TR_pv0 PV_move rfl ?_ | refine TR_skip0 rfl ?_ | (refine TR_gsplit rfl rfl rfl (fun hq => ?_) (fun hq => ?_) <;> (try simp only [qs] at hq) <;> (try simp only [reduceCtorEq] at hq) <;> (try (exfalso; omega)) <;> (try contradiction) <;> (first | refine TR_pv0 PV_move rfl ?_ | refine TR_skip0 rfl ?_))); all_goals (first | refine TR_pv0 PV_move rfl ?_ | refine TR_skip0 rfl ?_ | (refine TR_gsplit rfl rfl rfl (fun hq => ?_) (fun hq => ?_) <;> (try simp only [qs] at hq) <;> (try simp only [reduceCtorEq] at hq) <;> (try (exfalso; omega)) <;> (try contradiction) <;> (first | refine TR_pv0 PV_move rfl ?_ | refine TR_skip0 rfl ?_))); all_goals (first | refine TR_pv0 (PV_add64 rfl rfl (by omega)) rfl ?_ | refine TR_pv0 (PV_add64w rfl rfl) rfl ?_ | refine TR_skip0 rfl ?_ | (refine TR_gsplit rfl rfl rfl (fun hq => ?_) (fun hq => ?_) <;> (try simp only [qs] at hq) <;> (try simp only [reduceCtorEq] at hq) <;> (try (exfalso; omega)) <;> (try contradiction) <;> (first | refine TR_pv0 (PV_add64 rfl rfl (by omega)) rfl ?_ | refine TR_pv0 (PV_add64w rfl rfl) rfl ?_ | refine TR_skip0 rfl ?_))); all_goals (first | refine TR_pv0 PV_move rfl ?_ | refine TR_skip0 rfl ?_ | (refine TR_gsplit rfl rfl rfl (fun hq => ?_) (fun hq => ?_) <;> (try simp only [qs] at hq) <;> (try simp only [reduceCtorEq] at hq) <;> (try (exfalso; omega)) <;> (try contradiction) <;> (first | refine TR_pv0 PV_move rfl ?_ | refine TR_skip0 rfl ?_))); all_goals (first | refine TR_pv0 (PV_gtr rfl rfl) rfl ?_ | refine TR_skip0 rfl ?_ | (refine TR_gsplit rfl rfl rfl (fun hq => ?_) (fun hq => ?_) <;> (try simp only [qs] at hq) <;> (try simp only [reduceCtorEq] at hq) <;> (try (exfalso; omega)) <;> (try contradiction) <;> (first | refine TR_pv0 (PV_gtr rfl rfl) rfl ?_ | refine TR_skip0 rfl ?_))); all_goals (first | refine TR_pv0 (PV_pick_t rfl) rfl ?_ | refine TR_pv0 (PV_pick_f rfl) rfl ?_); all_goals refine TR_pv0 PV_move rfl ?_; all_goals (first | refine TR_pv0 PV_move rfl ?_ | refine TR_skip0 rfl ?_ | (refine TR_gsplit rfl rfl rfl (fun hq => ?_) (fun hq => ?_) <;> (try simp only [qs] at hq) <;> (try simp only [reduceCtorEq] at hq) <;> (try (exfalso; omega)) <;> (try contradiction) <;> (first | refine TR_pv0 PV_move rfl ?_ | refine TR_skip0 rfl ?_))); all_goals (first | refine TR_calld1_0 (hopn) rfl rfl rfl rfl ?_ | refine TR_skip0 rfl ?_ | (refine TR_gsplit rfl rfl rfl (fun hq => ?_) (fun hq => ?_) <;> (try simp only [qs] at hq) <;> (try simp only [reduceCtorEq] at hq) <;> (try (exfalso; omega)) <;> (try contradiction) <;> (first | refine TR_calld1_0 (hopn) rfl rfl rfl rfl ?_ | refine TR_skip0 rfl ?_))); all_goals (first | refine TR_pv0 PV_move rfl ?_ | refine TR_skip0 rfl ?_ | (refine TR_gsplit rfl rfl rfl (fun hq => ?_) (fun hq => ?_) <;> (try simp only [qs] at hq) <;> (try simp only [reduceCtorEq] at hq) <;> (try (exfalso; omega)) <;> (try contradiction) <;> (first | refine TR_pv0 PV_move rfl ?_ | refine TR_skip0 rfl ?_))); all_goals (first | refine TR_pv0 (PV_lss rfl rfl) rfl ?_ | refine TR_skip0 rfl ?_ | (refine TR_gsplit rfl rfl rfl (fun hq => ?_) (fun hq => ?_) <;> (try simp only [qs] at hq) <;> (try simp only [reduceCtorEq] at hq) <;> (try (exfalso; omega)) <;> (try contradiction) <;> (first | refine TR_pv0 (PV_lss rfl rfl) rfl ?_ | refine TR_skip0 rfl ?_))); all_goals (first | refine TR_pv0 (PV_pick_t rfl) rfl ?_ | refine TR_pv0 (PV_pick_f rfl) rfl ?_); all_goals refine TR_pv0 PV_move rfl ?_; all_goals (first | refine TR_pv0 PV_move rfl ?_ | refine TR_skip0 rfl ?_ | (refine TR_gsplit rfl rfl rfl (fun hq => ?_) (fun hq => ?_) <;> (try simp only [qs] at hq) <;> (try simp only [reduceCtorEq] at hq) <;> (try (exfalso; omega)) <;> (try contradiction) <;> (first | refine TR_pv0 PV_move rfl ?_ | refine TR_skip0 rfl ?_))); all_goals (first | refine TR_calld1_0 (hopn) rfl rfl rfl rfl ?_ | refine TR_skip0 rfl ?_ | (refine TR_gsplit rfl rfl rfl (fun hq => ?_) (fun hq => ?_) <;> (try simp only [qs] at hq) <;> (try simp only [reduceCtorEq] at hq) <;> (try (exfalso; omega)) <;> (try contradiction) <;> (first | refine TR_calld1_0 (hopn) rfl rfl rfl rfl ?_ | refine TR_skip0 rfl ?_))); all_goals (first | refine TR_pv0 PV_move rfl ?_ | refine TR_skip0 rfl ?_ | (refine TR_gsplit rfl rfl rfl (fun hq => ?_) (fun hq => ?_) <;> (try simp only [qs] at hq) <;> (try simp only [reduceCtorEq] at hq) <;> (try (exfalso; omega)) <;> (try contradiction) <;> (first | refine TR_pv0 PV_move rfl ?_ | refine TR_skip0 rfl ?_))); all_goals (first | refine TR_pv0 (PV_add64 rfl rfl (by omega)) rfl ?_ | refine TR_pv0 (PV_add64w rfl rfl) rfl ?_ | refine TR_skip0 rfl ?_ | (refine TR_gsplit rfl rfl rfl (fun hq => ?_) (fun hq => ?_) <;> (try simp only [qs] at hq) <;> (try simp only [reduceCtorEq] at hq) <;> (try (exfalso; omega)) <;> (try contradiction) <;> (first | refine TR_pv0 (PV_add64 rfl rfl (by omega)) rfl ?_ | refine TR_pv0 (PV_add64w rfl rfl) rfl ?_ | refine TR_skip0 rfl ?_))); all_goals (first | refine TR_pv0 PV_move rfl ?_ | refine TR_skip0 rfl ?_ | (refine TR_gsplit rfl rfl rfl (fun hq => ?_) (fun hq => ?_) <;> (try simp only [qs] at hq) <;> (try simp only [reduceCtorEq] at hq) <;> (try (exfalso; omega)) <;> (try contradiction) <;> (first | refine TR_pv0 PV_move rfl ?_ | refine TR_skip0 rfl ?_))); all_goals (first | refine TR_pv0 (PV_gtr rfl rfl) rfl ?_ | refine TR_skip0 rfl ?_ | (refine TR_gsplit rfl rfl rfl (fun hq => ?_) (fun hq => ?_) <;> (try simp only [qs] at hq) <;> (try simp only [reduceCtorEq] at hq) <;> (try (exfalso; omega)) <;> (try contradiction) <;> (first | refine TR_pv0 (PV_gtr rfl rfl) rfl ?_ | refine TR_skip0 rfl ?_))); all_goals (first | refine TR_pv0 (PV_pick_t rfl) rfl ?_ | refine TR_pv0 (PV_pick_f rfl) rfl ?_); all_goals refine TR_nil ?_)
            | (refine TC_plain (id := 39) (by kernel_rfl) ?_; refine TR_pv0 PV_assign rfl ?_; refine TR_nil ?_)
            | (refine TC_plain (id := 11) (by kernel_rfl) ?_; refine TR_pv0 PV_move rfl ?_; (first | refine TR_pv0 (PV_add64 rfl rfl (by omega)) rfl ?_ | refine TR_pv0 (PV_add64w rfl rfl) rfl ?_); refine TR_pv0 PV_assign rfl ?_; refine TR_nil ?_)
            | refine TC_cond_t rfl rfl ?_
            | refine TC_cond_f rfl rfl ?_
            | refine TC_skip ?_
            | refine TC_ret ?_
            | refine TC_exit ?_
            | refine TC_block ?_
            | refine TQ_then_ret ?_
            | refine TQ_then_exit ?_
            | refine TQ_blk ?_
            | refine TQ_blk_ret ?_
            | refine TQ_blk_here ?_
            | refine TQ_blk_past rfl ?_
            | refine TC_label ?_
            | (refine TC_cond rfl rfl (fun hq => ?_) (fun hq => ?_) <;> (try simp only [qs] at hq) <;> (try simp only [reduceCtorEq] at hq) <;> (try (exfalso; omega)) <;> (try contradiction))
          exact TQ_roundP (i + 1, X', row', lens', freed + A.t.freed, acked + t4 A.t.t) ⟨n', hS'⟩ (by show ops.length - (i + 1) < mm; omega) ⟨rfl, rfl, rfl, rfl, rfl, rfl, rfl, trivial⟩ (fun w hs => hs)
    · obtain rfl : i = ops.length := by have := hS.il; omega
      repeat' first
        | refine TC_seq ?_
        | refine TQ_then ?_
        | refine TR_nil ?_
        | refine TQ_noPanic ?_
        | (refine TC_plain (id := 10) (by kernel_rfl) ?_; refine TR_pv0 PV_move rfl ?_; refine TR_pv0 PV_move rfl ?_; refine TR_pv0 (PV_len rfl) rfl ?_; refine TR_pv0 (PV_lss rfl rfl) rfl ?_; refine TR_nil ?_)
        | (refine TC_plain (id := 40) (by kernel_rfl) ?_; refine TR_calld0 (flWorks) rfl rfl rfl rfl ?_; refine TR_pv0 PV_assign rfl ?_; refine TR_nil ?_)
        | refine TC_cond_t rfl rfl ?_
        | refine TC_cond_f rfl rfl ?_
        | refine TC_skip ?_
        | refine TC_ret ?_
        | refine TC_exit ?_
        | refine TC_block ?_
        | refine TQ_then_ret ?_
        | refine TQ_then_exit ?_
        | refine TQ_blk ?_
        | refine TQ_blk_ret ?_
        | refine TQ_blk_here ?_
        | refine TQ_blk_past rfl ?_
        | refine TC_label ?_
        | (refine TC_cond rfl rfl (fun hq => ?_) (fun hq => ?_) <;> (try simp only [qs] at hq) <;> (try simp only [reduceCtorEq] at hq) <;> (try (exfalso; omega)) <;> (try contradiction))
      exact TQ_ret1e (v := .bool true) rfl rfl rfl ⟨rfl, rfl⟩ (fun a => by simp only [les]; omega)
  · by_cases hp1 : paths < 1
    · repeat' first
      | refine TC_seq ?_
      | refine TQ_then ?_
      | refine TR_nil ?_
      | refine TQ_noPanic ?_
      | (refine TC_plain (id := 0) (by kernel_rfl) ?_; refine TR_pv0 PV_assign rfl ?_; refine TR_nil ?_)
      | (refine TC_plain (id := 1) (by kernel_rfl) ?_; refine TR_pv0 PV_move rfl ?_; (refine TR_call0 (hv) rfl rfl (.cons .here .nil) rfl ?_; rintro _ _ ⟨r, rfl, rfl, hr⟩); refine TR_nil ?_)
      | (refine TC_plain (id := 2) (by kernel_rfl) ?_; refine TR_calld0 (flWorks) rfl rfl rfl rfl ?_; refine TR_pv0 PV_assign rfl ?_; refine TR_nil ?_)
      | (refine TC_plain (id := 3) (by kernel_rfl) ?_; refine TR_pv0 PV_move rfl ?_; refine TR_pv0 PV_move rfl ?_; (refine TR_call0 (newF_no paths c hp) rfl rfl .nil rfl ?_; rintro _ _ ⟨rfl, rfl⟩); refine TR_pv0 PV_move rfl ?_; refine TR_pv0 (PV_extract rfl rfl) rfl ?_; refine TR_pv0 (PV_extract rfl rfl) rfl ?_; refine TR_pv0 PV_assign rfl ?_; refine TR_pv0 PV_assign rfl ?_; refine TR_nil ?_)
      | (refine TC_plain (id := 4) (by kernel_rfl) ?_; refine TR_pv0 PV_move rfl ?_; refine TR_pv0 (PV_neq rfl rfl) rfl ?_; refine TR_nil ?_)
      | (refine TC_plain (id := 5) (by kernel_rfl) ?_; all_goals refine TR_pv0 PV_move rfl ?_; all_goals refine TR_pv0 (PV_lss rfl rfl) rfl ?_; all_goals refine TR_pv0 PV_move rfl ?_; all_goals (first | refine TR_pv0 PV_move rfl ?_ | refine TR_skip0 rfl ?_ | (refine TR_gsplit rfl rfl rfl (fun hq => ?_) (fun hq => ?_) <;> (try simp only [qs] at hq) <;> (try simp only [reduceCtorEq] at hq) <;> (try (exfalso; omega)) <;> (try contradiction) <;> (first | refine TR_pv0 PV_move rfl ?_ | refine TR_skip0 rfl ?_))); all_goals (first | refine TR_pv0 (PV_gtr rfl rfl) rfl ?_ | refine TR_skip0 rfl ?_ | (refine TR_gsplit rfl rfl rfl (fun hq => ?_) (fun hq => ?_) <;> (try simp only [qs] at hq) <;> (try simp only [reduceCtorEq] at hq) <;> (try (exfalso; omega)) <;> (try contradiction) <;> (first | refine TR_pv0 (PV_gtr rfl rfl) rfl ?_ | refine TR_skip0 rfl ?_))); all_goals (first | refine TR_pv0 (PV_pick_t rfl) rfl ?_ | refine TR_pv0 (PV_pick_f rfl) rfl ?_); all_goals refine TR_pv0 PV_move rfl ?_; all_goals (first | refine TR_calld0 (flWorks) rfl rfl rfl rfl ?_ | refine TR_skip0 rfl ?_ | (refine TR_gsplit rfl rfl rfl (fun hq => ?_) (fun hq => ?_) <;> (try simp only [qs] at hq) <;> (try simp only [reduceCtorEq] at hq) <;> (try (exfalso; omega)) <;> (try contradiction) <;> (first | refine TR_calld0 (flWorks) rfl rfl rfl rfl ?_ | refine TR_skip0 rfl ?_))); all_goals (first | refine TR_pv0 (PV_pick_t rfl) rfl ?_ | refine TR_pv0 (PV_pick_f rfl) rfl ?_); all_goals refine TR_pv0 PV_assign rfl ?_; all_goals refine TR_nil ?_)
      | (refine TC_plain (id := 6) (by kernel_rfl) ?_; refine TR_pv0 PV_assign rfl ?_; refine TR_nil ?_)
      | (refine TC_plain (id := 7) (by kernel_rfl) ?_; refine TR_pv0 PV_assign rfl ?_; refine TR_nil ?_)
      | (refine TC_plain (id := 8) (by kernel_rfl) ?_; refine TR_pv0 PV_assign rfl ?_; refine TR_nil ?_)
      | (refine TC_plain (id := 9) (by kernel_rfl) ?_; refine TR_pv0 PV_assign rfl ?_; refine TR_nil ?_)
      | refine TC_cond_t rfl rfl ?_
      | refine TC_cond_f rfl rfl ?_
      | refine TC_skip ?_
      | refine TC_ret ?_
      | refine TC_exit ?_
      | refine TC_block ?_
      | refine TQ_then_ret ?_
      | refine TQ_then_exit ?_
      | refine TQ_blk ?_
      | refine TQ_blk_ret ?_
      | refine TQ_blk_here ?_
      | refine TQ_blk_past rfl ?_
      | refine TC_label ?_
      | (refine TC_cond rfl rfl (fun hq => ?_) (fun hq => ?_) <;> (try simp only [qs] at hq) <;> (try simp only [reduceCtorEq] at hq) <;> (try (exfalso; omega)) <;> (try contradiction))
      all_goals exact TQ_ret1e (v := .bool true) rfl rfl rfl ⟨rfl, rfl⟩ (fun a => by simp only [les]; omega)
    · have hp4 : 4 < paths := by omega
      repeat' first
        | refine TC_seq ?_
        | refine TQ_then ?_
        | refine TR_nil ?_
        | refine TQ_noPanic ?_
        | (refine TC_plain (id := 0) (by kernel_rfl) ?_; refine TR_pv0 PV_assign rfl ?_; refine TR_nil ?_)
        | (refine TC_plain (id := 1) (by kernel_rfl) ?_; refine TR_pv0 PV_move rfl ?_; (refine TR_call0 (hv) rfl rfl (.cons .here .nil) rfl ?_; rintro _ _ ⟨r, rfl, rfl, hr⟩); refine TR_nil ?_)
        | (refine TC_plain (id := 2) (by kernel_rfl) ?_; refine TR_calld0 (flWorks) rfl rfl rfl rfl ?_; refine TR_pv0 PV_assign rfl ?_; refine TR_nil ?_)
        | (refine TC_plain (id := 3) (by kernel_rfl) ?_; refine TR_pv0 PV_move rfl ?_; refine TR_pv0 PV_move rfl ?_; (refine TR_call0 (newF_no paths c hp) rfl rfl .nil rfl ?_; rintro _ _ ⟨rfl, rfl⟩); refine TR_pv0 PV_move rfl ?_; refine TR_pv0 (PV_extract rfl rfl) rfl ?_; refine TR_pv0 (PV_extract rfl rfl) rfl ?_; refine TR_pv0 PV_assign rfl ?_; refine TR_pv0 PV_assign rfl ?_; refine TR_nil ?_)
        | (refine TC_plain (id := 4) (by kernel_rfl) ?_; refine TR_pv0 PV_move rfl ?_; refine TR_pv0 (PV_neq rfl rfl) rfl ?_; refine TR_nil ?_)
        | (refine TC_plain (id := 5) (by kernel_rfl) ?_; all_goals refine TR_pv0 PV_move rfl ?_; all_goals refine TR_pv0 (PV_lss rfl rfl) rfl ?_; all_goals refine TR_pv0 PV_move rfl ?_; all_goals (first | refine TR_pv0 PV_move rfl ?_ | refine TR_skip0 rfl ?_ | (refine TR_gsplit rfl rfl rfl (fun hq => ?_) (fun hq => ?_) <;> (try simp only [qs] at hq) <;> (try simp only [reduceCtorEq] at hq) <;> (try (exfalso; omega)) <;> (try contradiction) <;> (first | refine TR_pv0 PV_move rfl ?_ | refine TR_skip0 rfl ?_))); all_goals (first | refine TR_pv0 (PV_gtr rfl rfl) rfl ?_ | refine TR_skip0 rfl ?_ | (refine TR_gsplit rfl rfl rfl (fun hq => ?_) (fun hq => ?_) <;> (try simp only [qs] at hq) <;> (try simp only [reduceCtorEq] at hq) <;> (try (exfalso; omega)) <;> (try contradiction) <;> (first | refine TR_pv0 (PV_gtr rfl rfl) rfl ?_ | refine TR_skip0 rfl ?_))); all_goals (first | refine TR_pv0 (PV_pick_t rfl) rfl ?_ | refine TR_pv0 (PV_pick_f rfl) rfl ?_); all_goals refine TR_pv0 PV_move rfl ?_; all_goals (first | refine TR_calld0 (flWorks) rfl rfl rfl rfl ?_ | refine TR_skip0 rfl ?_ | (refine TR_gsplit rfl rfl rfl (fun hq => ?_) (fun hq => ?_) <;> (try simp only [qs] at hq) <;> (try simp only [reduceCtorEq] at hq) <;> (try (exfalso; omega)) <;> (try contradiction) <;> (first | refine TR_calld0 (flWorks) rfl rfl rfl rfl ?_ | refine TR_skip0 rfl ?_))); all_goals (first | refine TR_pv0 (PV_pick_t rfl) rfl ?_ | refine TR_pv0 (PV_pick_f rfl) rfl ?_); all_goals refine TR_pv0 PV_assign rfl ?_; all_goals refine TR_nil ?_)
        | (refine TC_plain (id := 6) (by kernel_rfl) ?_; refine TR_pv0 PV_assign rfl ?_; refine TR_nil ?_)
        | (refine TC_plain (id := 7) (by kernel_rfl) ?_; refine TR_pv0 PV_assign rfl ?_; refine TR_nil ?_)
        | (refine TC_plain (id := 8) (by kernel_rfl) ?_; refine TR_pv0 PV_assign rfl ?_; refine TR_nil ?_)
        | (refine TC_plain (id := 9) (by kernel_rfl) ?_; refine TR_pv0 PV_assign rfl ?_; refine TR_nil ?_)
        | refine TC_cond_t rfl rfl ?_
        | refine TC_cond_f rfl rfl ?_
        | refine TC_skip ?_
        | refine TC_ret ?_
        | refine TC_exit ?_
        | refine TC_block ?_
        | refine TQ_then_ret ?_
        | refine TQ_then_exit ?_
        | refine TQ_blk ?_
        | refine TQ_blk_ret ?_
        | refine TQ_blk_here ?_
        | refine TQ_blk_past rfl ?_
        | refine TC_label ?_
        | (refine TC_cond rfl rfl (fun hq => ?_) (fun hq => ?_) <;> (try simp only [qs] at hq) <;> (try simp only [reduceCtorEq] at hq) <;> (try (exfalso; omega)) <;> (try contradiction))
      all_goals exact TQ_ret1e (v := .bool true) rfl rfl rfl ⟨rfl, rfl⟩ (fun a => by simp only [les]; omega)
end Go.Proofs.Ytonfkkdahlboiaa
