/- Add, get, Get, Again, Point. -/
import Derived.Test.YtonfkkdahlboiaaFlP
namespace Go.Proofs.Ytonfkkdahlboiaa
open Go.RowKit
set_option maxHeartbeats 4000000

/-! ### One record by its TSN -/
theorem getF_some (b : Nat) (X : FL) (h : FlOk X) (tsn : Int) {k : Nat} {x : RL} (hk : X.abs.idx tsn = some k) (hx : X.l[k]? = some x) :
    Cd Try.prog 40 [ptr b, u32 tsn] [X.seg b] (ptr x.p) [X.seg b] := by
  obtain ⟨h1, h2⟩ := idx_some hk
  simp only [FL.abs] at h1 h2
  rw [recs_length] at h2
  have hlen := h.len
  obtain ⟨rb, off, cells, ha, hC, hl, ht⟩ := h.row.opened (by omega)
  have hc : cells[off + k]? = some (ptr x.p) := by
    rw [take_at ht (j := k) (by omega), List.getElem?_map, FL.ptrs, List.getElem?_map, hx]; rfl
  have hi := in_cd tsn X.cum X.l.length (by omega)
  rw [show serialIn tsn X.cum X.l.length = true by unfold serialIn; rw [decide_eq_true (by omega), decide_eq_true (by omega), decide_eq_true (by omega)]; rfl] at hi
  have hd := ahead_cd X.cum tsn
  have hsl : Value.slice X.w.a X.l.length X.w.cap = .slice (some ⟨rb, off, none⟩) X.l.length X.w.cap := by rw [ha]
  have hc' : cells[off + ((((tsn - X.cum) % 4294967296 - 1) % 4294967296).toNat * 1)]? = some (ptr x.p) := by rw [show ((((tsn - X.cum) % 4294967296 - 1) % 4294967296).toNat * 1) = k by omega]; exact hc
  refine Ct_intro Try.func40 rfl (by simp only [Try.ntmps40, List.length_cons, List.length_nil]; omega) ?_
  intro w₀ R
  refine TC_le (L' := X.bk b :: [(rb, .cells cells.toArray 88 (0, 0))] :: rsegs X.l :: R) (fun a => by simp only [les, FL.seg, hC]; omega) ?_
  repeat' first
    | refine TC_seq ?_
    | refine TQ_then ?_
    | refine TQ_noPanic ?_
    | (refine TC_plain (id := 0) (by kernel_rfl) ?_; refine TR_pv0 PV_assign rfl ?_; refine TR_nil ?_)
    | (refine TC_drawn' (id := 1) [(0, 1), (1, 1), (2, 1), (3, 1), (4, 1), (5, 1), (6, 1), (7, 1), (8, 1), (9, 1), (10, 1), (11, 1), (12, 1), (13, 0), (14, 0), (15, 0)] mixed (by kernel_rfl) ?_; all_goals refine TR_pv1 PV_move rfl (fun _ h => h) ?_; all_goals refine TR_pv1 (PV_peq_nil rfl rfl) rfl (fun _ h => h) ?_; all_goals refine TR_pv1 PV_move rfl (fun _ h => h) ?_; all_goals refine TR_pv1 PV_move rfl (fun _ h => h) ?_; all_goals refine TR_pv1 PV_move rfl (fun _ h => h) ?_; all_goals refine TR_pv1 (PV_nil rfl) rfl (fun _ h => h) ?_; all_goals refine TR_pv1 (PV_fieldAddr rfl) rfl (fun _ h => h) ?_; all_goals refine TR_load1 rfl 0 rfl rfl rfl (fun _ h => h) ?_; all_goals refine TR_pv1 PV_move rfl (fun _ h => h) ?_; all_goals refine TR_pv1 (PV_nil rfl) rfl (fun _ h => h) ?_; all_goals refine TR_pv1 (PV_fieldAddr rfl) rfl (fun _ h => h) ?_; all_goals refine TR_load1 rfl 0 rfl rfl rfl (fun _ h => h) ?_; all_goals refine TR_pv1 (PV_len rfl) rfl (fun _ h => h) ?_; all_goals refine TR_calld0 (hi) rfl rfl rfl rfl ?_; all_goals refine TR_pv0 (PV_not rfl) rfl ?_; all_goals refine TR_pv0 (PV_pick_f rfl) rfl ?_; all_goals refine TR_nil ?_)
    | (refine TC_drawn' (id := 3) [(0, 1), (1, 1), (2, 1), (3, 1), (4, 1), (5, 1), (6, 1), (7, 1), (8, 1), (9, 2), (10, 1), (11, 0), (12, 0), (13, 0)] mixed (by kernel_rfl) ?_; refine TR_pv1 PV_move rfl (fun _ h => h) ?_; refine TR_pv1 (PV_nil rfl) rfl (fun _ h => h) ?_; refine TR_pv1 (PV_fieldAddr rfl) rfl (fun _ h => h) ?_; refine TR_load1 rfl 0 rfl rfl rfl (fun _ h => h) ?_; refine TR_pv1 PV_move rfl (fun _ h => h) ?_; refine TR_pv1 (PV_nil rfl) rfl (fun _ h => h) ?_; refine TR_pv1 (PV_fieldAddr rfl) rfl (fun _ h => h) ?_; refine TR_load1 rfl 0 rfl rfl rfl (fun _ h => h) ?_; refine TR_pv1 PV_move rfl (fun _ h => h) ?_; refine TR_calldk (hd) rfl rfl .nil rfl ?_; refine TR_pv1 (PV_sub32 rfl rfl) rfl (fun _ h => h) ?_; refine TR_pv0 (PV_indexAddr hsl rfl (by omega)) rfl ?_; refine TR_load0 rfl 1 rfl hc' rfl ?_; refine TR_pv0 PV_assign rfl ?_; refine TR_nil ?_)
    | refine TC_cond_f rfl rfl ?_
    | refine TC_skip ?_
    | refine TC_ret ?_
  exact TQ_ret1e (v := ptr x.p) rfl rfl rfl ⟨rfl, rfl⟩ (fun a => by simp only [les, FL.seg, hC]; omega)
theorem getF_none (b : Nat) (X : FL) (h : FlOk X) (tsn : Int) (hk : X.abs.idx tsn = none) : Cd Try.prog 40 [ptr b, u32 tsn] [X.seg b] (.pointer none) [X.seg b] := by
  have hlen := h.len
  have hi := in_cd tsn X.cum X.l.length (by omega)
  have := idx_none hk
  simp only [FL.abs, recs_length] at this
  rw [this] at hi
  refine Ct_intro Try.func40 rfl (by simp only [Try.ntmps40, List.length_cons, List.length_nil]; omega) ?_
  intro w₀ R
  refine TC_le (L' := X.bk b :: (X.w.C ++ rsegs X.l) :: R) (fun a => by simp only [les, FL.seg]; omega) ?_
  repeat' first
    | refine TC_seq ?_
    | refine TQ_then ?_
    | refine TQ_noPanic ?_
    | (refine TC_plain (id := 0) (by kernel_rfl) ?_; refine TR_pv0 PV_assign rfl ?_; refine TR_nil ?_)
    | (refine TC_drawn' (id := 1) [(0, 1), (1, 1), (2, 1), (3, 1), (4, 1), (5, 1), (6, 1), (7, 1), (8, 1), (9, 1), (10, 1), (11, 1), (12, 1), (13, 0), (14, 0), (15, 0)] mixed (by kernel_rfl) ?_; all_goals refine TR_pv1 PV_move rfl (fun _ h => h) ?_; all_goals refine TR_pv1 (PV_peq_nil rfl rfl) rfl (fun _ h => h) ?_; all_goals refine TR_pv1 PV_move rfl (fun _ h => h) ?_; all_goals refine TR_pv1 PV_move rfl (fun _ h => h) ?_; all_goals refine TR_pv1 PV_move rfl (fun _ h => h) ?_; all_goals refine TR_pv1 (PV_nil rfl) rfl (fun _ h => h) ?_; all_goals refine TR_pv1 (PV_fieldAddr rfl) rfl (fun _ h => h) ?_; all_goals refine TR_load1 rfl 0 rfl rfl rfl (fun _ h => h) ?_; all_goals refine TR_pv1 PV_move rfl (fun _ h => h) ?_; all_goals refine TR_pv1 (PV_nil rfl) rfl (fun _ h => h) ?_; all_goals refine TR_pv1 (PV_fieldAddr rfl) rfl (fun _ h => h) ?_; all_goals refine TR_load1 rfl 0 rfl rfl rfl (fun _ h => h) ?_; all_goals refine TR_pv1 (PV_len rfl) rfl (fun _ h => h) ?_; all_goals refine TR_calld0 (hi) rfl rfl rfl rfl ?_; all_goals refine TR_pv0 (PV_not rfl) rfl ?_; all_goals refine TR_pv0 (PV_pick_f rfl) rfl ?_; all_goals refine TR_nil ?_)
    | (refine TC_plain (id := 2) (by kernel_rfl) ?_; refine TR_pv0 PV_assign rfl ?_; refine TR_nil ?_)
    | refine TC_cond_t rfl rfl ?_
    | refine TC_ret ?_
    | refine TQ_then_ret ?_
  exact TQ_ret1e rfl rfl rfl ⟨rfl, rfl⟩ (fun a => by simp only [les, FL.seg]; omega)
theorem getF_nil (tsn : Int) : Cd Try.prog 40 [.pointer none, u32 tsn] [] (.pointer none) [] := by
  refine Ct_intro Try.func40 rfl (by simp only [Try.ntmps40, List.length_cons, List.length_nil]; omega) ?_
  intro w₀ R
  repeat' first
    | refine TC_seq ?_
    | refine TQ_then ?_
    | refine TQ_noPanic ?_
    | (refine TC_plain (id := 0) (by kernel_rfl) ?_; refine TR_pv0 PV_assign rfl ?_; refine TR_nil ?_)
    | (refine TC_drawn' (id := 1) [(0, 1), (1, 1), (2, 1), (3, 1), (4, 1), (5, 1), (6, 1), (7, 1), (8, 1), (9, 1), (10, 1), (11, 1), (12, 1), (13, 0), (14, 0), (15, 0)] mixed (by kernel_rfl) ?_; all_goals refine TR_pv1 PV_move rfl (fun _ h => h) ?_; all_goals refine TR_pv1 (PV_peq_nil rfl rfl) rfl (fun _ h => h) ?_; all_goals refine TR_pv1 PV_move rfl (fun _ h => h) ?_; all_goals refine TR_skip1 rfl (fun _ h => h) ?_; all_goals refine TR_skip1 rfl (fun _ h => h) ?_; all_goals refine TR_skip1 rfl (fun _ h => h) ?_; all_goals refine TR_skip1 rfl (fun _ h => h) ?_; all_goals refine TR_skip1 rfl (fun _ h => h) ?_; all_goals refine TR_skip1 rfl (fun _ h => h) ?_; all_goals refine TR_skip1 rfl (fun _ h => h) ?_; all_goals refine TR_skip1 rfl (fun _ h => h) ?_; all_goals refine TR_skip1 rfl (fun _ h => h) ?_; all_goals refine TR_skip1 rfl (fun _ h => h) ?_; all_goals refine TR_skip0 rfl ?_; all_goals refine TR_skip0 rfl ?_; all_goals refine TR_pv0 (PV_pick_t rfl) rfl ?_; all_goals refine TR_nil ?_)
    | (refine TC_plain (id := 2) (by kernel_rfl) ?_; refine TR_pv0 PV_assign rfl ?_; refine TR_nil ?_)
    | refine TC_cond_t rfl rfl ?_
    | refine TC_ret ?_
    | refine TQ_then_ret ?_
  exact TQ_ret1 rfl rfl rfl ⟨rfl, rfl⟩ .nil

/-! ### A record is another one -/
def FL.put (X : FL) (k : Nat) (x : RL) (r : FRec) : FL := { X with l := X.l.take k ++ { x with r := r } :: X.l.drop (k + 1) }
theorem modify_at {α : Type} {l : List α} {k : Nat} {a : α} (h : l[k]? = some a) (f : α → α) : l.modify k f = l.take k ++ f a :: l.drop (k + 1) := by
  apply List.ext_getElem?
  intro j
  have hk := (List.getElem?_eq_some_iff.1 h).1
  rw [List.getElem?_modify, List.getElem?_append]
  simp only [List.length_take, Nat.min_eq_left (Nat.le_of_lt hk)]
  by_cases h1 : j < k
  · rw [if_pos h1, List.getElem?_take, if_pos h1]; simp [show ¬ k = j by omega]
  · rw [if_neg h1]
    by_cases h2 : j = k
    · subst h2; simp [h]
    · rw [List.getElem?_cons, if_neg (by omega), List.getElem?_drop, show k + 1 + (j - k - 1) = j by omega]
      simp [show ¬ k = j by omega]
theorem put_length {X : FL} {k : Nat} {x : RL} (hx : X.l[k]? = some x) (r : FRec) : (X.put k x r).l.length = X.l.length := by
  have hk := (List.getElem?_eq_some_iff.1 hx).1
  simp only [FL.put, List.length_append, List.length_take, List.length_cons, List.length_drop]; omega
theorem put_seg (b : Nat) {X : FL} {k : Nat} {x : RL} (hx : X.l[k]? = some x) (r : FRec) :
    (X.put k x r).seg b = X.bk b ++ (X.w.C ++ (rsegs (X.l.take k) ++ (RL.bk { x with r := r } ++ (x.w.C ++ rsegs (X.l.drop (k + 1)))))) := by
  rw [FL.seg, show (X.put k x r).bk b = X.bk b by rw [FL.bk, FL.bk, put_length hx]; rfl]
  show X.bk b ++ (X.w.C ++ rsegs (X.l.take k ++ { x with r := r } :: X.l.drop (k + 1))) = _
  rw [rsegs_append, rsegs_cons, RL.seg, List.append_assoc]
theorem put_ptrs {X : FL} {k : Nat} {x : RL} (hx : X.l[k]? = some x) (r : FRec) : (X.put k x r).ptrs = X.ptrs := by
  conv => rhs; rw [FL.ptrs, split_at hx]
  simp [FL.put, FL.ptrs]
theorem put_ok {X : FL} (h : FlOk X) {k : Nat} {x : RL} (hx : X.l[k]? = some x) {r : FRec} (hd : r.d = x.r.d) (hr : FRecOk r X.paths) : FlOk (X.put k x r) := by
  have hk := (List.getElem?_eq_some_iff.1 hx).1
  refine ⟨by rw [put_ptrs hx, put_length hx]; exact h.row, fun y hy => ?_, by rw [put_length hx]; exact h.len, h.c0, h.c1, h.q0, h.q1, fun j y hj => ?_⟩
  · rcases List.mem_append.1 hy with hy | hy
    · exact h.recs y (List.mem_of_mem_take hy)
    · rcases List.mem_cons.1 hy with rfl | hy
      · refine ⟨?_, hr⟩
        have := (h.recs x (List.mem_of_getElem? hx)).1
        simp only [RL.ok] at this ⊢
        rw [hd]; exact this
      · exact h.recs y (List.mem_of_mem_drop hy)
  · have hx' := h.tsn k x hx
    simp only [FL.put] at hj
    rw [List.getElem?_append] at hj
    simp only [List.length_take, Nat.min_eq_left (Nat.le_of_lt hk)] at hj
    by_cases h1 : j < k
    · rw [if_pos h1, List.getElem?_take, if_pos h1] at hj
      exact h.tsn j y hj
    · rw [if_neg h1] at hj
      by_cases h2 : j = k
      · subst h2
        simp only [Nat.sub_self, List.getElem?_cons_zero, Option.some.injEq] at hj
        subst hj
        simp only [hd]; exact hx'
      · rw [List.getElem?_cons, if_neg (by omega), List.getElem?_drop] at hj
        exact h.tsn j y (by rw [← hj]; congr 1; omega)
theorem put_recs {X : FL} {k : Nat} {x : RL} (hx : X.l[k]? = some x) (f : FRec → FRec) : (X.put k x (f x.r)).recs = X.recs.modify k f := by
  rw [modify_at (recs_at hx)]
  simp [FL.put, FL.recs]

abbrev ptrO (p : Option Nat) : Value := .pointer (p.map fun b => ⟨b, 0, none⟩)

theorem againF_ct (b : Nat) (X : FL) (h : FlOk X) (tsn path now : Int) : Ct Try.prog 13 [ptr b, u32 tsn, i64 path, i64 now] [X.seg b]
    (fun v D => v = i64 (X.abs.againE tsn path) ∧ ∃ X', D = [X'.seg b] ∧ FlOk X' ∧ X'.abs = X.abs.again tsn path now ∧ X'.ptrs = X.ptrs) := by
  by_cases hp : path < 0 ∨ X.paths ≤ path
  · have e1 : X.abs.againE tsn path = 1 := if_pos hp
    have e2 : X.abs.again tsn path now = X.abs := by rw [Flt.again, e1, if_neg (by omega)]
    rw [e1, e2]
    refine Ct_intro Try.func13 rfl (by simp only [Try.ntmps13, List.length_cons, List.length_nil]; omega) ?_
    intro w₀ R
    refine TC_le (L' := X.bk b :: (X.w.C ++ rsegs X.l) :: R) (fun a => by simp only [les, FL.seg]; omega) ?_
    repeat' first
      | refine TC_seq ?_
      | refine TQ_then ?_
      | (refine TC_plain (id := 0) (by kernel_rfl) ?_; refine TR_pv0 PV_assign rfl ?_; refine TR_nil ?_)
      | (refine TC_plain (id := 1) (by kernel_rfl) ?_; refine TR_pv0 PV_move rfl ?_; refine TR_pv0 (PV_peq_nil rfl rfl) rfl ?_; refine TR_pv0 PV_assign rfl ?_; refine TR_nil ?_)
      | (refine TC_plain (id := 3) (by kernel_rfl) ?_; all_goals refine TR_pv0 PV_move rfl ?_; all_goals refine TR_pv0 (PV_lss rfl rfl) rfl ?_; all_goals refine TR_pv0 PV_move rfl ?_; all_goals (refine TR_gsplit rfl rfl rfl (fun hq => ?_) (fun hq => ?_) <;> (try simp only [qs] at hq) <;> (try simp only [reduceCtorEq] at hq) <;> (try (exfalso; omega)) <;> (try contradiction) <;> (first | refine TR_pv0 PV_move rfl ?_ | refine TR_skip0 rfl ?_)); all_goals (first | refine TR_pv0 PV_move rfl ?_ | refine TR_skip0 rfl ?_); all_goals (first | refine TR_pv0 (PV_nil rfl) rfl ?_ | refine TR_skip0 rfl ?_); all_goals (first | refine TR_pv0 (PV_fieldAddr rfl) rfl ?_ | refine TR_skip0 rfl ?_); all_goals (first | refine TR_load0 rfl 0 rfl rfl rfl ?_ | refine TR_skip0 rfl ?_); all_goals (first | refine TR_pv0 (PV_geq rfl rfl) rfl ?_ | refine TR_skip0 rfl ?_); all_goals (first | refine TR_pv0 (PV_pick_t rfl) rfl ?_ | refine TR_pv0 (PV_pick_f rfl) rfl ?_); all_goals refine TR_pv0 PV_assign rfl ?_; all_goals refine TR_nil ?_)
      | (refine TC_plain (id := 4) (by kernel_rfl) ?_; refine TR_pv0 PV_assign rfl ?_; refine TR_nil ?_)
      | refine TC_cond_t rfl rfl ?_
      | refine TC_cond_f rfl rfl ?_
      | refine TC_ret ?_
      | refine TC_block ?_
      | refine TQ_then_ret ?_
      | refine TQ_blk_ret ?_
      | (refine TC_cond rfl rfl (fun hq => ?_) (fun hq => ?_) <;> (try simp only [qs] at hq) <;> (try simp only [reduceCtorEq] at hq) <;> (try (exfalso; omega)) <;> (try contradiction))
    all_goals exact TQ_ret1e rfl rfl rfl ⟨rfl, X, rfl, h, rfl, rfl⟩ (fun a => by simp only [les, FL.seg]; omega)
  · have hlen := h.len
    cases hk : X.abs.idx tsn with
    | none =>
      have e0 : X.abs.get tsn = none := by rw [Flt.get, hk]; rfl
      have e1 : X.abs.againE tsn path = 11 := by rw [Flt.againE, e0]; exact if_neg hp
      have e2 : X.abs.again tsn path now = X.abs := by rw [Flt.again, e1, if_neg (by omega)]
      rw [e1, e2]
      have hg := getF_none b X h tsn hk
      refine Ct_intro Try.func13 rfl (by simp only [Try.ntmps13, List.length_cons, List.length_nil]; omega) ?_
      intro w₀ R
      refine TC_le (L' := X.bk b :: (X.w.C ++ rsegs X.l) :: R) (fun a => by simp only [les, FL.seg]; omega) ?_
      repeat' first
        | refine TC_seq ?_
        | refine TQ_then ?_
        | (refine TC_plain (id := 0) (by kernel_rfl) ?_; refine TR_pv0 PV_assign rfl ?_; refine TR_nil ?_)
        | (refine TC_plain (id := 1) (by kernel_rfl) ?_; refine TR_pv0 PV_move rfl ?_; refine TR_pv0 (PV_peq_nil rfl rfl) rfl ?_; refine TR_pv0 PV_assign rfl ?_; refine TR_nil ?_)
        | (refine TC_plain (id := 3) (by kernel_rfl) ?_; all_goals refine TR_pv0 PV_move rfl ?_; all_goals refine TR_pv0 (PV_lss rfl rfl) rfl ?_; all_goals refine TR_pv0 PV_move rfl ?_; all_goals (refine TR_gsplit rfl rfl rfl (fun hq => ?_) (fun hq => ?_) <;> (try simp only [qs] at hq) <;> (try simp only [reduceCtorEq] at hq) <;> (try (exfalso; omega)) <;> (try contradiction) <;> refine TR_pv0 PV_move rfl ?_); all_goals refine TR_pv0 PV_move rfl ?_; all_goals refine TR_pv0 (PV_nil rfl) rfl ?_; all_goals refine TR_pv0 (PV_fieldAddr rfl) rfl ?_; all_goals refine TR_load0 rfl 0 rfl rfl rfl ?_; all_goals refine TR_pv0 (PV_geq rfl rfl) rfl ?_; all_goals refine TR_pv0 (PV_pick_f rfl) rfl ?_; all_goals refine TR_pv0 PV_assign rfl ?_; all_goals refine TR_nil ?_)
        | refine TC_cond_f rfl rfl ?_
        | refine TC_skip ?_
        | refine TC_block ?_
        | refine TQ_blk ?_
        | (refine TC_cond rfl rfl (fun hq => ?_) (fun hq => ?_) <;> (try simp only [qs] at hq) <;> (try simp only [reduceCtorEq] at hq) <;> (try (exfalso; omega)) <;> (try contradiction))
      refine TC_le (L' := X.seg b :: R) (fun a => by simp only [les, FL.seg]; omega) ?_
      repeat' first
        | refine TC_seq ?_
        | refine TQ_then ?_
        | (refine TC_plain (id := 5) (by kernel_rfl) ?_; refine TR_pv0 PV_move rfl ?_; refine TR_pv0 PV_move rfl ?_; refine TR_calld1_0 (hg) rfl rfl rfl rfl ?_; refine TR_pv0 PV_assign rfl ?_; refine TR_nil ?_)
        | (refine TC_plain (id := 6) (by kernel_rfl) ?_; all_goals refine TR_pv0 PV_move rfl ?_; all_goals refine TR_pv0 (PV_peq_nil rfl rfl) rfl ?_; all_goals refine TR_pv0 PV_move rfl ?_; all_goals refine TR_skip0 rfl ?_; all_goals refine TR_skip0 rfl ?_; all_goals refine TR_skip0 rfl ?_; all_goals refine TR_pv0 (PV_pick_t rfl) rfl ?_; all_goals refine TR_nil ?_)
        | (refine TC_plain (id := 7) (by kernel_rfl) ?_; refine TR_pv0 PV_assign rfl ?_; refine TR_nil ?_)
        | refine TC_cond_t rfl rfl ?_
        | refine TC_ret ?_
        | refine TQ_then_ret ?_
      exact TQ_ret1e rfl rfl rfl ⟨rfl, X, rfl, h, rfl, rfl⟩ (fun a => by simp only [les]; omega)
    | some k =>
      obtain ⟨h1, h2⟩ := idx_some hk
      have h2' : k < X.l.length := by have := h2; simp only [FL.abs, recs_length] at this; exact this
      obtain ⟨x, hx⟩ : ∃ x, X.l[k]? = some x := ⟨X.l[k], List.getElem?_eq_getElem h2'⟩
      have e0 : X.abs.get tsn = some x.r := by rw [get_of_idx hk]; exact recs_at hx
      have hg := getF_some b X h tsn hk hx
      have ho := open_cd x
      have hrec := h.recs x (List.mem_of_getElem? hx)
      by_cases hop : x.r.open_ = true
      · have e1 : X.abs.againE tsn path = 0 := by rw [Flt.againE, e0]; simp only [hop]; exact if_neg hp
        have e2 : X.abs.again tsn path now = { X.abs with l := X.recs.modify k (againR path now) } := by rw [Flt.again, e1, if_pos rfl, hk]; rfl
        rw [hop] at ho
        rw [e1, e2]
        refine Ct_intro Try.func13 rfl (by simp only [Try.ntmps13, List.length_cons, List.length_nil]; omega) ?_
        intro w₀ R
        refine TC_le (L' := X.bk b :: (X.w.C ++ rsegs X.l) :: R) (fun a => by simp only [les, FL.seg]; omega) ?_
        repeat' first
          | refine TC_seq ?_
          | refine TQ_then ?_
          | (refine TC_plain (id := 0) (by kernel_rfl) ?_; refine TR_pv0 PV_assign rfl ?_; refine TR_nil ?_)
          | (refine TC_plain (id := 1) (by kernel_rfl) ?_; refine TR_pv0 PV_move rfl ?_; refine TR_pv0 (PV_peq_nil rfl rfl) rfl ?_; refine TR_pv0 PV_assign rfl ?_; refine TR_nil ?_)
          | (refine TC_plain (id := 3) (by kernel_rfl) ?_; all_goals refine TR_pv0 PV_move rfl ?_; all_goals refine TR_pv0 (PV_lss rfl rfl) rfl ?_; all_goals refine TR_pv0 PV_move rfl ?_; all_goals (refine TR_gsplit rfl rfl rfl (fun hq => ?_) (fun hq => ?_) <;> (try simp only [qs] at hq) <;> (try simp only [reduceCtorEq] at hq) <;> (try (exfalso; omega)) <;> (try contradiction) <;> refine TR_pv0 PV_move rfl ?_); all_goals refine TR_pv0 PV_move rfl ?_; all_goals refine TR_pv0 (PV_nil rfl) rfl ?_; all_goals refine TR_pv0 (PV_fieldAddr rfl) rfl ?_; all_goals refine TR_load0 rfl 0 rfl rfl rfl ?_; all_goals refine TR_pv0 (PV_geq rfl rfl) rfl ?_; all_goals refine TR_pv0 (PV_pick_f rfl) rfl ?_; all_goals refine TR_pv0 PV_assign rfl ?_; all_goals refine TR_nil ?_)
          | refine TC_cond_f rfl rfl ?_
          | refine TC_skip ?_
          | refine TC_block ?_
          | refine TQ_blk ?_
          | (refine TC_cond rfl rfl (fun hq => ?_) (fun hq => ?_) <;> (try simp only [qs] at hq) <;> (try simp only [reduceCtorEq] at hq) <;> (try (exfalso; omega)) <;> (try contradiction))
        refine TC_le (L' := X.seg b :: R) (fun a => by simp only [les, FL.seg]; omega) ?_
        repeat' first
          | refine TC_seq ?_
          | refine TQ_then ?_
          | (refine TC_plain (id := 5) (by kernel_rfl) ?_; refine TR_pv0 PV_move rfl ?_; refine TR_pv0 PV_move rfl ?_; refine TR_calld1_0 (hg) rfl rfl rfl rfl ?_; refine TR_pv0 PV_assign rfl ?_; refine TR_nil ?_)
        refine TC_le (L' := x.bk :: (X.bk b ++ (X.w.C ++ (rsegs (X.l.take k) ++ (x.w.C ++ rsegs (X.l.drop (k + 1)))))) :: R) (fun a => by simp only [les, FL.seg_at b hx]; omega) ?_
        repeat' first
          | refine TC_seq ?_
          | refine TQ_then ?_
          | (refine TC_plain (id := 6) (by kernel_rfl) ?_; all_goals refine TR_pv0 PV_move rfl ?_; all_goals refine TR_pv0 (PV_peq_nil rfl rfl) rfl ?_; all_goals refine TR_pv0 PV_move rfl ?_; all_goals refine TR_pv0 PV_move rfl ?_; all_goals refine TR_calld1_0 (ho) rfl rfl rfl rfl ?_; all_goals refine TR_pv0 (PV_not rfl) rfl ?_; all_goals refine TR_pv0 (PV_pick_f rfl) rfl ?_; all_goals refine TR_nil ?_)
          | (refine TC_plain (id := 8) (by kernel_rfl) ?_; refine TR_pv0 PV_move rfl ?_; refine TR_pv0 PV_move rfl ?_; refine TR_pv0 PV_move rfl ?_; refine TR_pv0 PV_move rfl ?_; refine TR_pv0 PV_move rfl ?_; refine TR_pv0 PV_move rfl ?_; refine TR_pv0 (PV_nil rfl) rfl ?_; refine TR_pv0 (PV_fieldAddr rfl) rfl ?_; refine TR_store0_0 rfl rfl rfl rfl rfl rfl ?_; refine TR_pv0 (PV_nil rfl) rfl ?_; refine TR_pv0 (PV_fieldAddr rfl) rfl ?_; refine TR_store0_0 rfl rfl rfl rfl rfl rfl ?_; refine TR_pv0 (PV_nil rfl) rfl ?_; refine TR_pv0 (PV_fieldAddr rfl) rfl ?_; refine TR_store0_0 rfl rfl rfl rfl rfl rfl ?_; refine TR_pv0 (PV_nil rfl) rfl ?_; refine TR_pv0 (PV_fieldAddr rfl) rfl ?_; refine TR_store0_0 rfl rfl rfl rfl rfl rfl ?_; refine TR_nil ?_)
          | (refine TC_plain (id := 9) (by kernel_rfl) ?_; refine TR_pv0 PV_assign rfl ?_; refine TR_nil ?_)
          | refine TC_cond_f rfl rfl ?_
          | refine TC_skip ?_
          | refine TC_ret ?_
        refine TQ_le (L' := RL.bk { x with r := againR path now x.r } :: (X.bk b ++ (X.w.C ++ (rsegs (X.l.take k) ++ (x.w.C ++ rsegs (X.l.drop (k + 1)))))) :: R) (Le.refl _) ?_
        refine TQ_ret1e rfl rfl rfl ⟨rfl, X.put k x (againR path now x.r), rfl, put_ok h hx rfl ⟨by show 0 ≤ path; omega, by show path < X.paths; omega, hrec.2.b0, hrec.2.b1, hrec.2.m0, hrec.2.m1, fun _ h => by cases h⟩, ?_, put_ptrs hx _⟩ (fun a => by simp only [les, put_seg b hx]; omega)
        rw [FL.abs, put_recs hx]; rfl
      · have hop' : x.r.open_ = false := by simpa using hop
        have e1 : X.abs.againE tsn path = 11 := by rw [Flt.againE, e0]; simp only [hop']; exact if_neg hp
        have e2 : X.abs.again tsn path now = X.abs := by rw [Flt.again, e1, if_neg (by omega)]
        rw [hop'] at ho
        rw [e1, e2]
        refine Ct_intro Try.func13 rfl (by simp only [Try.ntmps13, List.length_cons, List.length_nil]; omega) ?_
        intro w₀ R
        refine TC_le (L' := X.bk b :: (X.w.C ++ rsegs X.l) :: R) (fun a => by simp only [les, FL.seg]; omega) ?_
        repeat' first
          | refine TC_seq ?_
          | refine TQ_then ?_
          | (refine TC_plain (id := 0) (by kernel_rfl) ?_; refine TR_pv0 PV_assign rfl ?_; refine TR_nil ?_)
          | (refine TC_plain (id := 1) (by kernel_rfl) ?_; refine TR_pv0 PV_move rfl ?_; refine TR_pv0 (PV_peq_nil rfl rfl) rfl ?_; refine TR_pv0 PV_assign rfl ?_; refine TR_nil ?_)
          | (refine TC_plain (id := 3) (by kernel_rfl) ?_; all_goals refine TR_pv0 PV_move rfl ?_; all_goals refine TR_pv0 (PV_lss rfl rfl) rfl ?_; all_goals refine TR_pv0 PV_move rfl ?_; all_goals (refine TR_gsplit rfl rfl rfl (fun hq => ?_) (fun hq => ?_) <;> (try simp only [qs] at hq) <;> (try simp only [reduceCtorEq] at hq) <;> (try (exfalso; omega)) <;> (try contradiction) <;> refine TR_pv0 PV_move rfl ?_); all_goals refine TR_pv0 PV_move rfl ?_; all_goals refine TR_pv0 (PV_nil rfl) rfl ?_; all_goals refine TR_pv0 (PV_fieldAddr rfl) rfl ?_; all_goals refine TR_load0 rfl 0 rfl rfl rfl ?_; all_goals refine TR_pv0 (PV_geq rfl rfl) rfl ?_; all_goals refine TR_pv0 (PV_pick_f rfl) rfl ?_; all_goals refine TR_pv0 PV_assign rfl ?_; all_goals refine TR_nil ?_)
          | refine TC_cond_f rfl rfl ?_
          | refine TC_skip ?_
          | refine TC_block ?_
          | refine TQ_blk ?_
          | (refine TC_cond rfl rfl (fun hq => ?_) (fun hq => ?_) <;> (try simp only [qs] at hq) <;> (try simp only [reduceCtorEq] at hq) <;> (try (exfalso; omega)) <;> (try contradiction))
        refine TC_le (L' := X.seg b :: R) (fun a => by simp only [les, FL.seg]; omega) ?_
        repeat' first
          | refine TC_seq ?_
          | refine TQ_then ?_
          | (refine TC_plain (id := 5) (by kernel_rfl) ?_; refine TR_pv0 PV_move rfl ?_; refine TR_pv0 PV_move rfl ?_; refine TR_calld1_0 (hg) rfl rfl rfl rfl ?_; refine TR_pv0 PV_assign rfl ?_; refine TR_nil ?_)
        refine TC_le (L' := x.bk :: (X.bk b ++ (X.w.C ++ (rsegs (X.l.take k) ++ (x.w.C ++ rsegs (X.l.drop (k + 1)))))) :: R) (fun a => by simp only [les, FL.seg_at b hx]; omega) ?_
        repeat' first
          | refine TC_seq ?_
          | refine TQ_then ?_
          | (refine TC_plain (id := 6) (by kernel_rfl) ?_; all_goals refine TR_pv0 PV_move rfl ?_; all_goals refine TR_pv0 (PV_peq_nil rfl rfl) rfl ?_; all_goals refine TR_pv0 PV_move rfl ?_; all_goals refine TR_pv0 PV_move rfl ?_; all_goals refine TR_calld1_0 (ho) rfl rfl rfl rfl ?_; all_goals refine TR_pv0 (PV_not rfl) rfl ?_; all_goals refine TR_pv0 (PV_pick_f rfl) rfl ?_; all_goals refine TR_nil ?_)
          | (refine TC_plain (id := 7) (by kernel_rfl) ?_; refine TR_pv0 PV_assign rfl ?_; refine TR_nil ?_)
          | refine TC_cond_t rfl rfl ?_
          | refine TC_ret ?_
          | refine TQ_then_ret ?_
        exact TQ_ret1e rfl rfl rfl ⟨rfl, X, rfl, h, rfl, rfl⟩ (fun a => by simp only [les, FL.seg_at b hx]; omega)
theorem againF_nil (tsn path now : Int) : Cd Try.prog 13 [.pointer none, u32 tsn, i64 path, i64 now] [] (i64 2) [] := by
  refine Ct_intro Try.func13 rfl (by simp only [Try.ntmps13, List.length_cons, List.length_nil]; omega) ?_
  intro w₀ R
  repeat' first
    | refine TC_seq ?_
    | refine TQ_then ?_
    | (refine TC_plain (id := 0) (by kernel_rfl) ?_; refine TR_pv0 PV_assign rfl ?_; refine TR_nil ?_)
    | (refine TC_plain (id := 1) (by kernel_rfl) ?_; refine TR_pv0 PV_move rfl ?_; refine TR_pv0 (PV_peq_nil rfl rfl) rfl ?_; refine TR_pv0 PV_assign rfl ?_; refine TR_nil ?_)
    | (refine TC_plain (id := 2) (by kernel_rfl) ?_; refine TR_pv0 PV_assign rfl ?_; refine TR_nil ?_)
    | refine TC_cond_t rfl rfl ?_
    | refine TC_ret ?_
    | refine TC_block ?_
    | refine TQ_then_ret ?_
    | refine TQ_blk_ret ?_
  exact TQ_ret1 rfl rfl rfl ⟨rfl, rfl⟩ .nil
end Go.Proofs.Ytonfkkdahlboiaa
