/- The estimator of the program and of the reference: what each of their functions does. -/
import Derived.Test.YtjfnbobkipaldaaLibH
import Derived.Test.YtjfnbobkipaldaaTy
namespace Go.Proofs.Ytjfnbobkipaldaa
open Go.RowKit
set_option maxHeartbeats 4000000

structure Ro where
  value : Int
  least : Int
  most : Int
  any : Bool
  smooth : Int
  vary : Int

structure RoOk (r : Ro) : Prop where
  l0 : 1 ≤ r.least
  l1 : r.least ≤ r.most
  l2 : r.most ≤ 1048576
  v0 : r.least ≤ r.value
  v1 : r.value ≤ r.most
  s0 : 0 ≤ r.smooth
  s1 : r.smooth ≤ 8388616
  y0 : 0 ≤ r.vary
  y1 : r.vary ≤ 4194308

def roArgs (first least most : Int) : Prop := 1 ≤ least ∧ least ≤ first ∧ first ≤ most ∧ most ≤ 1048576
def Ro.new (first least most : Int) : Ro := ⟨first, least, most, false, 0, 0⟩
def Ro.next (r : Ro) (s v : Int) : Ro := ⟨min (max (s / 8 + max 1 v) r.least) r.most, r.least, r.most, true, s, v⟩
def Ro.sample (r : Ro) (t : Int) : Ro :=
  if t < 0 then r else if r.any then r.next (r.smooth + (min t 1048576 - r.smooth / 8)) (r.vary + (max (r.smooth / 8 - min t 1048576) (-(r.smooth / 8 - min t 1048576)) - r.vary / 4))
  else r.next (8 * min t 1048576) (2 * min t 1048576)
def Ro.back (r : Ro) : Ro := { r with value := min (2 * r.value) r.most }

theorem roNew_ok {f l m : Int} (h : roArgs f l m) : RoOk (Ro.new f l m) := by
  obtain ⟨h1, h2, h3, h4⟩ := h
  constructor <;> simp only [Ro.new] <;> omega
theorem roSample_ok {r : Ro} (h : RoOk r) (t : Int) : RoOk (r.sample t) := by
  unfold Ro.sample
  by_cases ht : t < 0
  · rw [if_pos ht]; exact h
  · obtain ⟨l0, l1, l2, v0, v1, s0, s1, y0, y1⟩ := h
    rw [if_neg ht]
    split <;> constructor <;> simp only [Ro.next] <;> omega
theorem roBack_ok {r : Ro} (h : RoOk r) : RoOk r.back := by
  obtain ⟨l0, l1, l2, v0, v1, s0, s1, y0, y1⟩ := h
  constructor <;> simp only [Ro.back] <;> omega

/-! ### The program's -/
abbrev roAt (b : Nat) (r : Ro) : Seg := blk b 92 [i64 r.value, i64 r.least, i64 r.most, .bool r.any, i64 r.smooth, i64 r.vary]

theorem between_ct (x l m : Int) : Cd Try.prog 70 [i64 x, i64 l, i64 m] [] (i64 (min (max x l) m)) [] := by
  refine Ct_intro Try.func70 rfl (by simp only [Try.ntmps70, List.length_cons, List.length_nil]; omega) ?_
  intro w₀ R
  repeat' first
    | refine TC_seq ?_
    | refine TQ_then ?_
    | refine TR_nil ?_
    | refine TQ_noPanic ?_
    | (refine TC_plain (id := 0) (by kernel_rfl) ?_; refine TR_pv0 PV_assign rfl ?_; refine TR_nil ?_)
    | (refine TC_plain (id := 1) (by kernel_rfl) ?_; refine TR_pv0 PV_move rfl ?_; refine TR_pv0 PV_move rfl ?_; refine TR_pv0 (PV_max rfl rfl) rfl ?_; refine TR_pv0 PV_move rfl ?_; refine TR_pv0 (PV_min rfl rfl) rfl ?_; refine TR_pv0 PV_assign rfl ?_; refine TR_nil ?_)
    | refine TC_cond_t rfl rfl ?_
    | refine TC_cond_f rfl rfl ?_
    | refine TC_skip ?_
    | refine TC_ret ?_
    | refine TC_exit ?_
    | refine TC_block ?_
    | refine TQ_then_ret ?_
    | refine TQ_then_exit ?_
    | refine TQ_blk ?_
    | refine TQ_blk_ret ?_
    | refine TQ_blk_here ?_
    | refine TQ_blk_past rfl ?_
    | refine TC_label ?_
    | (refine TC_cond rfl rfl (fun hq => ?_) (fun hq => ?_) <;> (try simp only [qs] at hq) <;> (try simp only [reduceCtorEq] at hq) <;> (try (exfalso; omega)))
  exact TQ_ret1 rfl rfl rfl ⟨rfl, rfl⟩ .nil

theorem roNew_yes (f l m : Int) (h : roArgs f l m) : Cn Try.prog 48 [i64 f, i64 l, i64 m] (fun b => .tuple #[ptr b, i64 0]) (fun b => roAt b (Ro.new f l m)) := by
  obtain ⟨h1, h2, h3, h4⟩ := h
  refine Ct_intro Try.func48 rfl (by simp only [Try.ntmps48, List.length_cons, List.length_nil]; omega) ?_
  intro w₀ R
  repeat' first
    | refine TC_seq ?_
    | refine TQ_then ?_
    | refine TR_nil ?_
    | refine TQ_noPanic ?_
    | (refine TC_plain (id := 0) (by kernel_rfl) ?_; refine TR_pv0 PV_assign rfl ?_; refine TR_pv0 PV_assign rfl ?_; refine TR_nil ?_)
    | (refine TC_plain (id := 1) (by kernel_rfl) ?_; all_goals refine TR_pv0 PV_move rfl ?_; all_goals refine TR_pv0 (PV_lss rfl rfl) rfl ?_; all_goals refine TR_pv0 PV_move rfl ?_; all_goals (first | refine TR_pv0 PV_move rfl ?_ | refine TR_skip0 rfl ?_ | (refine TR_gsplit rfl rfl rfl (fun hq => ?_) (fun hq => ?_) <;> (try simp only [qs] at hq) <;> (try simp only [reduceCtorEq] at hq) <;> (try (exfalso; omega)) <;> (first | refine TR_pv0 PV_move rfl ?_ | refine TR_skip0 rfl ?_))); all_goals (first | refine TR_pv0 (PV_gtr rfl rfl) rfl ?_ | refine TR_skip0 rfl ?_ | (refine TR_gsplit rfl rfl rfl (fun hq => ?_) (fun hq => ?_) <;> (try simp only [qs] at hq) <;> (try simp only [reduceCtorEq] at hq) <;> (try (exfalso; omega)) <;> (first | refine TR_pv0 (PV_gtr rfl rfl) rfl ?_ | refine TR_skip0 rfl ?_))); all_goals (first | refine TR_pv0 (PV_pick_t rfl) rfl ?_ | refine TR_pv0 (PV_pick_f rfl) rfl ?_); all_goals refine TR_pv0 PV_move rfl ?_; all_goals (first | refine TR_pv0 PV_move rfl ?_ | refine TR_skip0 rfl ?_ | (refine TR_gsplit rfl rfl rfl (fun hq => ?_) (fun hq => ?_) <;> (try simp only [qs] at hq) <;> (try simp only [reduceCtorEq] at hq) <;> (try (exfalso; omega)) <;> (first | refine TR_pv0 PV_move rfl ?_ | refine TR_skip0 rfl ?_))); all_goals (first | refine TR_pv0 PV_move rfl ?_ | refine TR_skip0 rfl ?_ | (refine TR_gsplit rfl rfl rfl (fun hq => ?_) (fun hq => ?_) <;> (try simp only [qs] at hq) <;> (try simp only [reduceCtorEq] at hq) <;> (try (exfalso; omega)) <;> (first | refine TR_pv0 PV_move rfl ?_ | refine TR_skip0 rfl ?_))); all_goals (first | refine TR_pv0 (PV_gtr rfl rfl) rfl ?_ | refine TR_skip0 rfl ?_ | (refine TR_gsplit rfl rfl rfl (fun hq => ?_) (fun hq => ?_) <;> (try simp only [qs] at hq) <;> (try simp only [reduceCtorEq] at hq) <;> (try (exfalso; omega)) <;> (first | refine TR_pv0 (PV_gtr rfl rfl) rfl ?_ | refine TR_skip0 rfl ?_))); all_goals (first | refine TR_pv0 (PV_pick_t rfl) rfl ?_ | refine TR_pv0 (PV_pick_f rfl) rfl ?_); all_goals refine TR_pv0 PV_move rfl ?_; all_goals (first | refine TR_pv0 PV_move rfl ?_ | refine TR_skip0 rfl ?_ | (refine TR_gsplit rfl rfl rfl (fun hq => ?_) (fun hq => ?_) <;> (try simp only [qs] at hq) <;> (try simp only [reduceCtorEq] at hq) <;> (try (exfalso; omega)) <;> (first | refine TR_pv0 PV_move rfl ?_ | refine TR_skip0 rfl ?_))); all_goals (first | refine TR_pv0 PV_move rfl ?_ | refine TR_skip0 rfl ?_ | (refine TR_gsplit rfl rfl rfl (fun hq => ?_) (fun hq => ?_) <;> (try simp only [qs] at hq) <;> (try simp only [reduceCtorEq] at hq) <;> (try (exfalso; omega)) <;> (first | refine TR_pv0 PV_move rfl ?_ | refine TR_skip0 rfl ?_))); all_goals (first | refine TR_pv0 PV_move rfl ?_ | refine TR_skip0 rfl ?_ | (refine TR_gsplit rfl rfl rfl (fun hq => ?_) (fun hq => ?_) <;> (try simp only [qs] at hq) <;> (try simp only [reduceCtorEq] at hq) <;> (try (exfalso; omega)) <;> (first | refine TR_pv0 PV_move rfl ?_ | refine TR_skip0 rfl ?_))); all_goals (first | refine TR_pv0 PV_move rfl ?_ | refine TR_skip0 rfl ?_ | (refine TR_gsplit rfl rfl rfl (fun hq => ?_) (fun hq => ?_) <;> (try simp only [qs] at hq) <;> (try simp only [reduceCtorEq] at hq) <;> (try (exfalso; omega)) <;> (first | refine TR_pv0 PV_move rfl ?_ | refine TR_skip0 rfl ?_))); all_goals (first | refine TR_calld0 (between_ct f l m) rfl rfl rfl rfl ?_ | refine TR_skip0 rfl ?_ | (refine TR_gsplit rfl rfl rfl (fun hq => ?_) (fun hq => ?_) <;> (try simp only [qs] at hq) <;> (try simp only [reduceCtorEq] at hq) <;> (try (exfalso; omega)) <;> (first | refine TR_calld0 (between_ct f l m) rfl rfl rfl rfl ?_ | refine TR_skip0 rfl ?_))); all_goals (first | refine TR_pv0 (PV_neq rfl rfl) rfl ?_ | refine TR_skip0 rfl ?_ | (refine TR_gsplit rfl rfl rfl (fun hq => ?_) (fun hq => ?_) <;> (try simp only [qs] at hq) <;> (try simp only [reduceCtorEq] at hq) <;> (try (exfalso; omega)) <;> (first | refine TR_pv0 (PV_neq rfl rfl) rfl ?_ | refine TR_skip0 rfl ?_))); all_goals (first | refine TR_pv0 (PV_pick_t rfl) rfl ?_ | refine TR_pv0 (PV_pick_f rfl) rfl ?_); all_goals refine TR_nil ?_)
    | (refine TC_plain (id := 2) (by kernel_rfl) ?_; refine TR_pv0 PV_assign rfl ?_; refine TR_pv0 PV_assign rfl ?_; refine TR_nil ?_)
    | (refine TC_plain (id := 3) (by kernel_rfl) ?_; refine TR_pv0 PV_move rfl ?_; refine TR_pv0 PV_move rfl ?_; refine TR_pv0 PV_move rfl ?_; refine TR_pv0 (PV_build rfl rfl) rfl ?_; (refine TR_box0 rfl rfl rfl ?_; intro _); refine TR_pv0 PV_assign rfl ?_; refine TR_pv0 PV_assign rfl ?_; refine TR_nil ?_)
    | refine TC_cond_t rfl rfl ?_
    | refine TC_cond_f rfl rfl ?_
    | refine TC_skip ?_
    | refine TC_ret ?_
    | refine TC_exit ?_
    | refine TC_block ?_
    | refine TQ_then_ret ?_
    | refine TQ_then_exit ?_
    | refine TQ_blk ?_
    | refine TQ_blk_ret ?_
    | refine TQ_blk_here ?_
    | refine TQ_blk_past rfl ?_
    | refine TC_label ?_
    | (refine TC_cond rfl rfl (fun hq => ?_) (fun hq => ?_) <;> (try simp only [qs] at hq) <;> (try simp only [reduceCtorEq] at hq) <;> (try (exfalso; omega)))
  exact TQ_ret2 rfl rfl rfl rfl rfl ⟨_, rfl, rfl⟩ (.cons .here .nil)
theorem roNew_no (f l m : Int) (h : ¬ roArgs f l m) : Cd Try.prog 48 [i64 f, i64 l, i64 m] [] (.tuple #[.pointer none, i64 1]) [] := by
  unfold roArgs at h
  refine Ct_intro Try.func48 rfl (by simp only [Try.ntmps48, List.length_cons, List.length_nil]; omega) ?_
  intro w₀ R
  repeat' first
    | refine TC_seq ?_
    | refine TQ_then ?_
    | refine TR_nil ?_
    | refine TQ_noPanic ?_
    | (refine TC_plain (id := 0) (by kernel_rfl) ?_; refine TR_pv0 PV_assign rfl ?_; refine TR_pv0 PV_assign rfl ?_; refine TR_nil ?_)
    | (refine TC_plain (id := 1) (by kernel_rfl) ?_; all_goals refine TR_pv0 PV_move rfl ?_; all_goals refine TR_pv0 (PV_lss rfl rfl) rfl ?_; all_goals refine TR_pv0 PV_move rfl ?_; all_goals (first | refine TR_pv0 PV_move rfl ?_ | refine TR_skip0 rfl ?_ | (refine TR_gsplit rfl rfl rfl (fun hq => ?_) (fun hq => ?_) <;> (try simp only [qs] at hq) <;> (try simp only [reduceCtorEq] at hq) <;> (try (exfalso; omega)) <;> (first | refine TR_pv0 PV_move rfl ?_ | refine TR_skip0 rfl ?_))); all_goals (first | refine TR_pv0 (PV_gtr rfl rfl) rfl ?_ | refine TR_skip0 rfl ?_ | (refine TR_gsplit rfl rfl rfl (fun hq => ?_) (fun hq => ?_) <;> (try simp only [qs] at hq) <;> (try simp only [reduceCtorEq] at hq) <;> (try (exfalso; omega)) <;> (first | refine TR_pv0 (PV_gtr rfl rfl) rfl ?_ | refine TR_skip0 rfl ?_))); all_goals (first | refine TR_pv0 (PV_pick_t rfl) rfl ?_ | refine TR_pv0 (PV_pick_f rfl) rfl ?_); all_goals refine TR_pv0 PV_move rfl ?_; all_goals (first | refine TR_pv0 PV_move rfl ?_ | refine TR_skip0 rfl ?_ | (refine TR_gsplit rfl rfl rfl (fun hq => ?_) (fun hq => ?_) <;> (try simp only [qs] at hq) <;> (try simp only [reduceCtorEq] at hq) <;> (try (exfalso; omega)) <;> (first | refine TR_pv0 PV_move rfl ?_ | refine TR_skip0 rfl ?_))); all_goals (first | refine TR_pv0 PV_move rfl ?_ | refine TR_skip0 rfl ?_ | (refine TR_gsplit rfl rfl rfl (fun hq => ?_) (fun hq => ?_) <;> (try simp only [qs] at hq) <;> (try simp only [reduceCtorEq] at hq) <;> (try (exfalso; omega)) <;> (first | refine TR_pv0 PV_move rfl ?_ | refine TR_skip0 rfl ?_))); all_goals (first | refine TR_pv0 (PV_gtr rfl rfl) rfl ?_ | refine TR_skip0 rfl ?_ | (refine TR_gsplit rfl rfl rfl (fun hq => ?_) (fun hq => ?_) <;> (try simp only [qs] at hq) <;> (try simp only [reduceCtorEq] at hq) <;> (try (exfalso; omega)) <;> (first | refine TR_pv0 (PV_gtr rfl rfl) rfl ?_ | refine TR_skip0 rfl ?_))); all_goals (first | refine TR_pv0 (PV_pick_t rfl) rfl ?_ | refine TR_pv0 (PV_pick_f rfl) rfl ?_); all_goals refine TR_pv0 PV_move rfl ?_; all_goals (first | refine TR_pv0 PV_move rfl ?_ | refine TR_skip0 rfl ?_ | (refine TR_gsplit rfl rfl rfl (fun hq => ?_) (fun hq => ?_) <;> (try simp only [qs] at hq) <;> (try simp only [reduceCtorEq] at hq) <;> (try (exfalso; omega)) <;> (first | refine TR_pv0 PV_move rfl ?_ | refine TR_skip0 rfl ?_))); all_goals (first | refine TR_pv0 PV_move rfl ?_ | refine TR_skip0 rfl ?_ | (refine TR_gsplit rfl rfl rfl (fun hq => ?_) (fun hq => ?_) <;> (try simp only [qs] at hq) <;> (try simp only [reduceCtorEq] at hq) <;> (try (exfalso; omega)) <;> (first | refine TR_pv0 PV_move rfl ?_ | refine TR_skip0 rfl ?_))); all_goals (first | refine TR_pv0 PV_move rfl ?_ | refine TR_skip0 rfl ?_ | (refine TR_gsplit rfl rfl rfl (fun hq => ?_) (fun hq => ?_) <;> (try simp only [qs] at hq) <;> (try simp only [reduceCtorEq] at hq) <;> (try (exfalso; omega)) <;> (first | refine TR_pv0 PV_move rfl ?_ | refine TR_skip0 rfl ?_))); all_goals (first | refine TR_pv0 PV_move rfl ?_ | refine TR_skip0 rfl ?_ | (refine TR_gsplit rfl rfl rfl (fun hq => ?_) (fun hq => ?_) <;> (try simp only [qs] at hq) <;> (try simp only [reduceCtorEq] at hq) <;> (try (exfalso; omega)) <;> (first | refine TR_pv0 PV_move rfl ?_ | refine TR_skip0 rfl ?_))); all_goals (first | refine TR_calld0 (between_ct f l m) rfl rfl rfl rfl ?_ | refine TR_skip0 rfl ?_ | (refine TR_gsplit rfl rfl rfl (fun hq => ?_) (fun hq => ?_) <;> (try simp only [qs] at hq) <;> (try simp only [reduceCtorEq] at hq) <;> (try (exfalso; omega)) <;> (first | refine TR_calld0 (between_ct f l m) rfl rfl rfl rfl ?_ | refine TR_skip0 rfl ?_))); all_goals (first | refine TR_pv0 (PV_neq rfl rfl) rfl ?_ | refine TR_skip0 rfl ?_ | (refine TR_gsplit rfl rfl rfl (fun hq => ?_) (fun hq => ?_) <;> (try simp only [qs] at hq) <;> (try simp only [reduceCtorEq] at hq) <;> (try (exfalso; omega)) <;> (first | refine TR_pv0 (PV_neq rfl rfl) rfl ?_ | refine TR_skip0 rfl ?_))); all_goals (first | refine TR_pv0 (PV_pick_t rfl) rfl ?_ | refine TR_pv0 (PV_pick_f rfl) rfl ?_); all_goals refine TR_nil ?_)
    | (refine TC_plain (id := 2) (by kernel_rfl) ?_; refine TR_pv0 PV_assign rfl ?_; refine TR_pv0 PV_assign rfl ?_; refine TR_nil ?_)
    | (refine TC_plain (id := 3) (by kernel_rfl) ?_; refine TR_pv0 PV_move rfl ?_; refine TR_pv0 PV_move rfl ?_; refine TR_pv0 PV_move rfl ?_; refine TR_pv0 (PV_build rfl rfl) rfl ?_; (refine TR_box0 rfl rfl rfl ?_; intro _); refine TR_pv0 PV_assign rfl ?_; refine TR_pv0 PV_assign rfl ?_; refine TR_nil ?_)
    | refine TC_cond_t rfl rfl ?_
    | refine TC_cond_f rfl rfl ?_
    | refine TC_skip ?_
    | refine TC_ret ?_
    | refine TC_exit ?_
    | refine TC_block ?_
    | refine TQ_then_ret ?_
    | refine TQ_then_exit ?_
    | refine TQ_blk ?_
    | refine TQ_blk_ret ?_
    | refine TQ_blk_here ?_
    | refine TQ_blk_past rfl ?_
    | refine TC_label ?_
    | (refine TC_cond rfl rfl (fun hq => ?_) (fun hq => ?_) <;> (try simp only [qs] at hq) <;> (try simp only [reduceCtorEq] at hq) <;> (try (exfalso; omega)))
  all_goals exact TQ_ret2 rfl rfl rfl rfl rfl ⟨rfl, rfl⟩ .nil

theorem roBack_ct (b : Nat) (r : Ro) (h : RoOk r) : Cd Try.prog 71 [ptr b] [roAt b r] (.tuple #[]) [roAt b r.back] := by
  obtain ⟨l0, l1, l2, v0, v1, s0, s1, y0, y1⟩ := h
  refine Ct_intro Try.func71 rfl (by simp only [Try.ntmps71, List.length_cons, List.length_nil]; omega) ?_
  intro w₀ R
  repeat' first
    | refine TC_seq ?_
    | refine TQ_then ?_
    | refine TR_nil ?_
    | refine TQ_noPanic ?_
    | (refine TC_plain (id := 0) (by kernel_rfl) ?_; refine TR_pv0 PV_move rfl ?_; (first | refine TR_pv0 (PV_pne_nil rfl rfl) rfl ?_ | refine TR_pv0 (PV_pne rfl rfl) rfl ?_); refine TR_nil ?_)
    | (refine TC_drawn' (id := 1) [(0, 1), (1, 1), (2, 1), (3, 1), (4, 1), (5, 1), (6, 1), (7, 1), (8, 1), (9, 1), (10, 1), (11, 1), (12, 1), (13, 0)] mixed (by kernel_rfl) ?_; refine TR_pv1 PV_move rfl (fun _ h => h) ?_; refine TR_pv1 PV_move rfl (fun _ h => h) ?_; (first | refine TR_pv1 (PV_nil rfl) rfl (fun _ h => h) ?_ | refine TR_pv1 (PV_nilF rfl) rfl (fun _ h => h) ?_ | refine TR_pv1 (PV_nilY rfl) rfl (fun _ h => h) ?_); refine TR_pv1 (PV_fieldAddr rfl) rfl (fun _ h => h) ?_; (first | refine TR_load1 rfl 0 rfl rfl rfl (fun _ h => h) ?_ | refine TR_load1 rfl 1 rfl rfl rfl (fun _ h => h) ?_ | refine TR_load1 rfl 2 rfl rfl rfl (fun _ h => h) ?_ | refine TR_load1 rfl 3 rfl rfl rfl (fun _ h => h) ?_); (first | refine TR_pv1 (PV_mul64 rfl rfl (by omega)) rfl (fun _ h => h) ?_ | refine TR_pv1 (PV_mul64w rfl rfl) rfl (fun _ h => h) ?_); refine TR_pv1 PV_move rfl (fun _ h => h) ?_; (first | refine TR_pv1 (PV_nil rfl) rfl (fun _ h => h) ?_ | refine TR_pv1 (PV_nilF rfl) rfl (fun _ h => h) ?_ | refine TR_pv1 (PV_nilY rfl) rfl (fun _ h => h) ?_); refine TR_pv1 (PV_fieldAddr rfl) rfl (fun _ h => h) ?_; (first | refine TR_load1 rfl 0 rfl rfl rfl (fun _ h => h) ?_ | refine TR_load1 rfl 1 rfl rfl rfl (fun _ h => h) ?_ | refine TR_load1 rfl 2 rfl rfl rfl (fun _ h => h) ?_ | refine TR_load1 rfl 3 rfl rfl rfl (fun _ h => h) ?_); refine TR_pv1 (PV_min rfl rfl) rfl (fun _ h => h) ?_; (first | refine TR_pv1 (PV_nil rfl) rfl (fun _ h => h) ?_ | refine TR_pv1 (PV_nilF rfl) rfl (fun _ h => h) ?_ | refine TR_pv1 (PV_nilY rfl) rfl (fun _ h => h) ?_); refine TR_pv1 (PV_fieldAddr rfl) rfl (fun _ h => h) ?_; (first | refine TR_store0_0 rfl rfl rfl rfl rfl rfl ?_ | refine TR_store0_1 rfl rfl rfl rfl rfl rfl ?_ | refine TR_store0_2 rfl rfl rfl rfl rfl rfl ?_ | refine TR_store0_3 rfl rfl rfl rfl rfl rfl ?_); refine TR_nil ?_)
    | refine TC_cond_t rfl rfl ?_
    | refine TC_cond_f rfl rfl ?_
    | refine TC_skip ?_
    | refine TC_ret ?_
    | refine TC_exit ?_
    | refine TC_block ?_
    | refine TQ_then_ret ?_
    | refine TQ_then_exit ?_
    | refine TQ_blk ?_
    | refine TQ_blk_ret ?_
    | refine TQ_blk_here ?_
    | refine TQ_blk_past rfl ?_
    | refine TC_label ?_
    | (refine TC_cond rfl rfl (fun hq => ?_) (fun hq => ?_) <;> (try simp only [qs] at hq) <;> (try simp only [reduceCtorEq] at hq) <;> (try (exfalso; omega)))
  exact TQ_end0 rfl ⟨rfl, rfl⟩ (.cons .here .nil)
theorem roValue_ct (b : Nat) (r : Ro) : Cd Try.prog 52 [ptr b] [roAt b r] (i64 r.value) [roAt b r] := by
  refine Ct_intro Try.func52 rfl (by simp only [Try.ntmps52, List.length_cons, List.length_nil]; omega) ?_
  intro w₀ R
  repeat' first
    | refine TC_seq ?_
    | refine TQ_then ?_
    | refine TR_nil ?_
    | refine TQ_noPanic ?_
    | (refine TC_plain (id := 0) (by kernel_rfl) ?_; refine TR_pv0 PV_assign rfl ?_; refine TR_nil ?_)
    | (refine TC_plain (id := 1) (by kernel_rfl) ?_; refine TR_pv0 PV_move rfl ?_; (first | refine TR_pv0 (PV_peq_nil rfl rfl) rfl ?_ | refine TR_pv0 (PV_peq rfl rfl) rfl ?_); refine TR_nil ?_)
    | (refine TC_plain (id := 2) (by kernel_rfl) ?_; refine TR_pv0 PV_assign rfl ?_; refine TR_nil ?_)
    | (refine TC_plain (id := 3) (by kernel_rfl) ?_; refine TR_pv0 PV_move rfl ?_; (first | refine TR_pv0 (PV_nil rfl) rfl ?_ | refine TR_pv0 (PV_nilF rfl) rfl ?_ | refine TR_pv0 (PV_nilY rfl) rfl ?_); refine TR_pv0 (PV_fieldAddr rfl) rfl ?_; (first | refine TR_load0 rfl 0 rfl rfl rfl ?_ | refine TR_load0 rfl 1 rfl rfl rfl ?_ | refine TR_load0 rfl 2 rfl rfl rfl ?_ | refine TR_load0 rfl 3 rfl rfl rfl ?_); refine TR_pv0 PV_assign rfl ?_; refine TR_nil ?_)
    | refine TC_cond_t rfl rfl ?_
    | refine TC_cond_f rfl rfl ?_
    | refine TC_skip ?_
    | refine TC_ret ?_
    | refine TC_exit ?_
    | refine TC_block ?_
    | refine TQ_then_ret ?_
    | refine TQ_then_exit ?_
    | refine TQ_blk ?_
    | refine TQ_blk_ret ?_
    | refine TQ_blk_here ?_
    | refine TQ_blk_past rfl ?_
    | refine TC_label ?_
    | (refine TC_cond rfl rfl (fun hq => ?_) (fun hq => ?_) <;> (try simp only [qs] at hq) <;> (try simp only [reduceCtorEq] at hq) <;> (try (exfalso; omega)))
  exact TQ_ret1 rfl rfl rfl ⟨rfl, rfl⟩ (.cons .here .nil)

theorem smooth_eq (s T : Int) : s - s / 8 + T = s + (T - s / 8) := by omega
theorem vary_neg {y s T : Int} (h : s / 8 - T < 0) : y - y / 4 + -(s / 8 - T) = y + (max (s / 8 - T) (-(s / 8 - T)) - y / 4) := by
  rw [Int.max_eq_right (by omega)]; omega
theorem vary_pos {y s T : Int} (h : 0 ≤ s / 8 - T) : y - y / 4 + (s / 8 - T) = y + (max (s / 8 - T) (-(s / 8 - T)) - y / 4) := by
  rw [Int.max_eq_left (by omega)]; omega
theorem sample_any {v l m s y t : Int} (h : 0 ≤ t) : (⟨v, l, m, true, s, y⟩ : Ro).sample t =
    ⟨min (max ((s + (min t 1048576 - s / 8)) / 8 + max 1 (y + (max (s / 8 - min t 1048576) (-(s / 8 - min t 1048576)) - y / 4))) l) m, l, m, true, s + (min t 1048576 - s / 8),
      y + (max (s / 8 - min t 1048576) (-(s / 8 - min t 1048576)) - y / 4)⟩ := by
  rw [Ro.sample, if_neg (by omega), if_pos rfl]; simp only [Ro.next]
theorem sample_none {v l m s y t : Int} (h : 0 ≤ t) : (⟨v, l, m, false, s, y⟩ : Ro).sample t =
    ⟨min (max (8 * min t 1048576 / 8 + max 1 (2 * min t 1048576)) l) m, l, m, true, 8 * min t 1048576, 2 * min t 1048576⟩ := by
  rw [Ro.sample, if_neg (by omega), if_neg (by simp)]; simp only [Ro.next]
theorem ro_step {b : Nat} {l m S V S' V' : Int} (hs : S = S') (hv : V = V') :
    [blk b 92 [i64 (min (max (S / 8 + max 1 V) l) m), i64 l, i64 m, .bool true, i64 S, i64 V]] = [roAt b ⟨min (max (S' / 8 + max 1 V') l) m, l, m, true, S', V'⟩] := by
  subst hs hv; rfl
theorem roSample_ct (b : Nat) (r : Ro) (h : RoOk r) (t : Int) (ht : t ≤ 9223372036854775807) :
    Cd Try.prog 72 [ptr b, i64 t] [roAt b r] (i64 (if t < 0 then 1 else 0)) [roAt b (r.sample t)] := by
  obtain ⟨l0, l1, l2, v0, v1, s0, s1, y0, y1⟩ := h
  obtain ⟨v, l, m, any, s, y⟩ := r
  dsimp only at l0 l1 l2 v0 v1 s0 s1 y0 y1
  show Cd Try.prog 72 [ptr b, i64 t] [blk b 92 [i64 v, i64 l, i64 m, .bool any, i64 s, i64 y]] (i64 (if t < 0 then 1 else 0)) [roAt b (Ro.sample ⟨v, l, m, any, s, y⟩ t)]
  by_cases hneg : t < 0
  · refine Ct_intro Try.func72 rfl (by simp only [Try.ntmps72, List.length_cons, List.length_nil]; omega) ?_
    intro w₀ R
    repeat' first
      | refine TC_seq ?_
      | refine TQ_then ?_
      | refine TR_nil ?_
      | refine TQ_noPanic ?_
      | (refine TC_plain (id := 0) (by kernel_rfl) ?_; refine TR_pv0 PV_assign rfl ?_; refine TR_nil ?_)
      | (refine TC_plain (id := 1) (by kernel_rfl) ?_; refine TR_pv0 PV_move rfl ?_; (first | refine TR_pv0 (PV_peq_nil rfl rfl) rfl ?_ | refine TR_pv0 (PV_peq rfl rfl) rfl ?_); refine TR_pv0 PV_assign rfl ?_; refine TR_nil ?_)
      | (refine TC_plain (id := 2) (by kernel_rfl) ?_; refine TR_pv0 PV_assign rfl ?_; refine TR_nil ?_)
      | (refine TC_plain (id := 3) (by kernel_rfl) ?_; refine TR_pv0 PV_move rfl ?_; refine TR_pv0 (PV_lss rfl rfl) rfl ?_; refine TR_pv0 PV_assign rfl ?_; refine TR_nil ?_)
      | (refine TC_plain (id := 4) (by kernel_rfl) ?_; refine TR_pv0 PV_assign rfl ?_; refine TR_nil ?_)
      | (refine TC_plain (id := 5) (by kernel_rfl) ?_; refine TR_pv0 PV_move rfl ?_; refine TR_pv0 (PV_min rfl rfl) rfl ?_; refine TR_pv0 PV_assign rfl ?_; refine TR_nil ?_)
      | (refine TC_plain (id := 6) (by kernel_rfl) ?_; refine TR_pv0 PV_move rfl ?_; (first | refine TR_pv0 (PV_nil rfl) rfl ?_ | refine TR_pv0 (PV_nilF rfl) rfl ?_ | refine TR_pv0 (PV_nilY rfl) rfl ?_); refine TR_pv0 (PV_fieldAddr rfl) rfl ?_; (first | refine TR_load0 rfl 0 rfl rfl rfl ?_ | refine TR_load0 rfl 1 rfl rfl rfl ?_ | refine TR_load0 rfl 2 rfl rfl rfl ?_ | refine TR_load0 rfl 3 rfl rfl rfl ?_); refine TR_nil ?_)
      | (refine TC_plain (id := 7) (by kernel_rfl) ?_; refine TR_pv0 PV_move rfl ?_; (first | refine TR_pv0 (PV_nil rfl) rfl ?_ | refine TR_pv0 (PV_nilF rfl) rfl ?_ | refine TR_pv0 (PV_nilY rfl) rfl ?_); refine TR_pv0 (PV_fieldAddr rfl) rfl ?_; (first | refine TR_load0 rfl 0 rfl rfl rfl ?_ | refine TR_load0 rfl 1 rfl rfl rfl ?_ | refine TR_load0 rfl 2 rfl rfl rfl ?_ | refine TR_load0 rfl 3 rfl rfl rfl ?_); refine TR_pv0 (PV_quo64 rfl rfl (by omega)) rfl ?_; refine TR_pv0 PV_move rfl ?_; (first | refine TR_pv0 (PV_sub64 rfl rfl (by omega)) rfl ?_ | refine TR_pv0 (PV_sub64w rfl rfl) rfl ?_); refine TR_pv0 PV_assign rfl ?_; refine TR_nil ?_)
      | (refine TC_drawn' (id := 8) [(0, 1), (1, 1), (2, 1), (3, 1), (4, 1), (5, 1), (6, 1), (7, 1), (8, 1), (9, 1), (10, 1), (11, 1), (12, 1), (13, 1), (14, 1), (15, 1), (16, 1), (17, 0)] mixed (by kernel_rfl) ?_; refine TR_pv1 PV_move rfl (fun _ h => h) ?_; (first | refine TR_pv1 (PV_nil rfl) rfl (fun _ h => h) ?_ | refine TR_pv1 (PV_nilF rfl) rfl (fun _ h => h) ?_ | refine TR_pv1 (PV_nilY rfl) rfl (fun _ h => h) ?_); refine TR_pv1 (PV_fieldAddr rfl) rfl (fun _ h => h) ?_; (first | refine TR_load1 rfl 0 rfl rfl rfl (fun _ h => h) ?_ | refine TR_load1 rfl 1 rfl rfl rfl (fun _ h => h) ?_ | refine TR_load1 rfl 2 rfl rfl rfl (fun _ h => h) ?_ | refine TR_load1 rfl 3 rfl rfl rfl (fun _ h => h) ?_); refine TR_pv1 PV_move rfl (fun _ h => h) ?_; refine TR_pv1 PV_move rfl (fun _ h => h) ?_; refine TR_pv1 (PV_neg64 rfl (by omega)) rfl (fun _ h => h) ?_; refine TR_pv1 (PV_max rfl rfl) rfl (fun _ h => h) ?_; refine TR_pv1 PV_move rfl (fun _ h => h) ?_; (first | refine TR_pv1 (PV_nil rfl) rfl (fun _ h => h) ?_ | refine TR_pv1 (PV_nilF rfl) rfl (fun _ h => h) ?_ | refine TR_pv1 (PV_nilY rfl) rfl (fun _ h => h) ?_); refine TR_pv1 (PV_fieldAddr rfl) rfl (fun _ h => h) ?_; (first | refine TR_load1 rfl 0 rfl rfl rfl (fun _ h => h) ?_ | refine TR_load1 rfl 1 rfl rfl rfl (fun _ h => h) ?_ | refine TR_load1 rfl 2 rfl rfl rfl (fun _ h => h) ?_ | refine TR_load1 rfl 3 rfl rfl rfl (fun _ h => h) ?_); refine TR_pv1 (PV_quo64 rfl rfl (by omega)) rfl (fun _ h => h) ?_; (first | refine TR_pv1 (PV_sub64 rfl rfl (by omega)) rfl (fun _ h => h) ?_ | refine TR_pv1 (PV_sub64w rfl rfl) rfl (fun _ h => h) ?_); (first | refine TR_pv1 (PV_add64 rfl rfl (by omega)) rfl (fun _ h => h) ?_ | refine TR_pv1 (PV_add64w rfl rfl) rfl (fun _ h => h) ?_); (first | refine TR_pv1 (PV_nil rfl) rfl (fun _ h => h) ?_ | refine TR_pv1 (PV_nilF rfl) rfl (fun _ h => h) ?_ | refine TR_pv1 (PV_nilY rfl) rfl (fun _ h => h) ?_); refine TR_pv1 (PV_fieldAddr rfl) rfl (fun _ h => h) ?_; (first | refine TR_store0_0 rfl rfl rfl rfl rfl rfl ?_ | refine TR_store0_1 rfl rfl rfl rfl rfl rfl ?_ | refine TR_store0_2 rfl rfl rfl rfl rfl rfl ?_ | refine TR_store0_3 rfl rfl rfl rfl rfl rfl ?_); refine TR_nil ?_)
      | (refine TC_drawn' (id := 9) [(0, 1), (1, 1), (2, 1), (3, 1), (4, 1), (5, 1), (6, 1), (7, 1), (8, 1), (9, 1), (10, 1), (11, 1), (12, 1), (13, 1), (14, 0)] mixed (by kernel_rfl) ?_; refine TR_pv1 PV_move rfl (fun _ h => h) ?_; (first | refine TR_pv1 (PV_nil rfl) rfl (fun _ h => h) ?_ | refine TR_pv1 (PV_nilF rfl) rfl (fun _ h => h) ?_ | refine TR_pv1 (PV_nilY rfl) rfl (fun _ h => h) ?_); refine TR_pv1 (PV_fieldAddr rfl) rfl (fun _ h => h) ?_; (first | refine TR_load1 rfl 0 rfl rfl rfl (fun _ h => h) ?_ | refine TR_load1 rfl 1 rfl rfl rfl (fun _ h => h) ?_ | refine TR_load1 rfl 2 rfl rfl rfl (fun _ h => h) ?_ | refine TR_load1 rfl 3 rfl rfl rfl (fun _ h => h) ?_); refine TR_pv1 PV_move rfl (fun _ h => h) ?_; refine TR_pv1 PV_move rfl (fun _ h => h) ?_; (first | refine TR_pv1 (PV_nil rfl) rfl (fun _ h => h) ?_ | refine TR_pv1 (PV_nilF rfl) rfl (fun _ h => h) ?_ | refine TR_pv1 (PV_nilY rfl) rfl (fun _ h => h) ?_); refine TR_pv1 (PV_fieldAddr rfl) rfl (fun _ h => h) ?_; (first | refine TR_load1 rfl 0 rfl rfl rfl (fun _ h => h) ?_ | refine TR_load1 rfl 1 rfl rfl rfl (fun _ h => h) ?_ | refine TR_load1 rfl 2 rfl rfl rfl (fun _ h => h) ?_ | refine TR_load1 rfl 3 rfl rfl rfl (fun _ h => h) ?_); refine TR_pv1 (PV_quo64 rfl rfl (by omega)) rfl (fun _ h => h) ?_; (first | refine TR_pv1 (PV_sub64 rfl rfl (by omega)) rfl (fun _ h => h) ?_ | refine TR_pv1 (PV_sub64w rfl rfl) rfl (fun _ h => h) ?_); (first | refine TR_pv1 (PV_add64 rfl rfl (by omega)) rfl (fun _ h => h) ?_ | refine TR_pv1 (PV_add64w rfl rfl) rfl (fun _ h => h) ?_); (first | refine TR_pv1 (PV_nil rfl) rfl (fun _ h => h) ?_ | refine TR_pv1 (PV_nilF rfl) rfl (fun _ h => h) ?_ | refine TR_pv1 (PV_nilY rfl) rfl (fun _ h => h) ?_); refine TR_pv1 (PV_fieldAddr rfl) rfl (fun _ h => h) ?_; (first | refine TR_store0_0 rfl rfl rfl rfl rfl rfl ?_ | refine TR_store0_1 rfl rfl rfl rfl rfl rfl ?_ | refine TR_store0_2 rfl rfl rfl rfl rfl rfl ?_ | refine TR_store0_3 rfl rfl rfl rfl rfl rfl ?_); refine TR_nil ?_)
      | (refine TC_plain (id := 10) (by kernel_rfl) ?_; refine TR_pv0 PV_move rfl ?_; refine TR_pv0 PV_move rfl ?_; refine TR_pv0 PV_move rfl ?_; refine TR_pv0 PV_move rfl ?_; (first | refine TR_pv0 (PV_mul64 rfl rfl (by omega)) rfl ?_ | refine TR_pv0 (PV_mul64w rfl rfl) rfl ?_); refine TR_pv0 PV_move rfl ?_; (first | refine TR_pv0 (PV_mul64 rfl rfl (by omega)) rfl ?_ | refine TR_pv0 (PV_mul64w rfl rfl) rfl ?_); (first | refine TR_pv0 (PV_nil rfl) rfl ?_ | refine TR_pv0 (PV_nilF rfl) rfl ?_ | refine TR_pv0 (PV_nilY rfl) rfl ?_); refine TR_pv0 (PV_fieldAddr rfl) rfl ?_; (first | refine TR_store0_0 rfl rfl rfl rfl rfl rfl ?_ | refine TR_store0_1 rfl rfl rfl rfl rfl rfl ?_ | refine TR_store0_2 rfl rfl rfl rfl rfl rfl ?_ | refine TR_store0_3 rfl rfl rfl rfl rfl rfl ?_); (first | refine TR_pv0 (PV_nil rfl) rfl ?_ | refine TR_pv0 (PV_nilF rfl) rfl ?_ | refine TR_pv0 (PV_nilY rfl) rfl ?_); refine TR_pv0 (PV_fieldAddr rfl) rfl ?_; (first | refine TR_store0_0 rfl rfl rfl rfl rfl rfl ?_ | refine TR_store0_1 rfl rfl rfl rfl rfl rfl ?_ | refine TR_store0_2 rfl rfl rfl rfl rfl rfl ?_ | refine TR_store0_3 rfl rfl rfl rfl rfl rfl ?_); (first | refine TR_pv0 (PV_nil rfl) rfl ?_ | refine TR_pv0 (PV_nilF rfl) rfl ?_ | refine TR_pv0 (PV_nilY rfl) rfl ?_); refine TR_pv0 (PV_fieldAddr rfl) rfl ?_; (first | refine TR_store0_0 rfl rfl rfl rfl rfl rfl ?_ | refine TR_store0_1 rfl rfl rfl rfl rfl rfl ?_ | refine TR_store0_2 rfl rfl rfl rfl rfl rfl ?_ | refine TR_store0_3 rfl rfl rfl rfl rfl rfl ?_); refine TR_nil ?_)
      | (refine TC_drawn' (id := 11) [(0, 1), (1, 1), (2, 1), (3, 1), (4, 1), (5, 1), (6, 1), (7, 1), (8, 1), (9, 1), (10, 1), (11, 1), (12, 1), (13, 1), (14, 1), (15, 1), (16, 1), (17, 1), (18, 1), (19, 1), (20, 2), (21, 1), (22, 1), (23, 0)] mixed (by kernel_rfl) ?_; refine TR_pv1 PV_move rfl (fun _ h => h) ?_; refine TR_pv1 PV_move rfl (fun _ h => h) ?_; (first | refine TR_pv1 (PV_nil rfl) rfl (fun _ h => h) ?_ | refine TR_pv1 (PV_nilF rfl) rfl (fun _ h => h) ?_ | refine TR_pv1 (PV_nilY rfl) rfl (fun _ h => h) ?_); refine TR_pv1 (PV_fieldAddr rfl) rfl (fun _ h => h) ?_; (first | refine TR_load1 rfl 0 rfl rfl rfl (fun _ h => h) ?_ | refine TR_load1 rfl 1 rfl rfl rfl (fun _ h => h) ?_ | refine TR_load1 rfl 2 rfl rfl rfl (fun _ h => h) ?_ | refine TR_load1 rfl 3 rfl rfl rfl (fun _ h => h) ?_); refine TR_pv1 (PV_quo64 rfl rfl (by omega)) rfl (fun _ h => h) ?_; refine TR_pv1 PV_move rfl (fun _ h => h) ?_; (first | refine TR_pv1 (PV_nil rfl) rfl (fun _ h => h) ?_ | refine TR_pv1 (PV_nilF rfl) rfl (fun _ h => h) ?_ | refine TR_pv1 (PV_nilY rfl) rfl (fun _ h => h) ?_); refine TR_pv1 (PV_fieldAddr rfl) rfl (fun _ h => h) ?_; (first | refine TR_load1 rfl 0 rfl rfl rfl (fun _ h => h) ?_ | refine TR_load1 rfl 1 rfl rfl rfl (fun _ h => h) ?_ | refine TR_load1 rfl 2 rfl rfl rfl (fun _ h => h) ?_ | refine TR_load1 rfl 3 rfl rfl rfl (fun _ h => h) ?_); refine TR_pv1 (PV_max rfl rfl) rfl (fun _ h => h) ?_; (first | refine TR_pv1 (PV_add64 rfl rfl (by omega)) rfl (fun _ h => h) ?_ | refine TR_pv1 (PV_add64w rfl rfl) rfl (fun _ h => h) ?_); refine TR_pv1 PV_move rfl (fun _ h => h) ?_; (first | refine TR_pv1 (PV_nil rfl) rfl (fun _ h => h) ?_ | refine TR_pv1 (PV_nilF rfl) rfl (fun _ h => h) ?_ | refine TR_pv1 (PV_nilY rfl) rfl (fun _ h => h) ?_); refine TR_pv1 (PV_fieldAddr rfl) rfl (fun _ h => h) ?_; (first | refine TR_load1 rfl 0 rfl rfl rfl (fun _ h => h) ?_ | refine TR_load1 rfl 1 rfl rfl rfl (fun _ h => h) ?_ | refine TR_load1 rfl 2 rfl rfl rfl (fun _ h => h) ?_ | refine TR_load1 rfl 3 rfl rfl rfl (fun _ h => h) ?_); refine TR_pv1 PV_move rfl (fun _ h => h) ?_; (first | refine TR_pv1 (PV_nil rfl) rfl (fun _ h => h) ?_ | refine TR_pv1 (PV_nilF rfl) rfl (fun _ h => h) ?_ | refine TR_pv1 (PV_nilY rfl) rfl (fun _ h => h) ?_); refine TR_pv1 (PV_fieldAddr rfl) rfl (fun _ h => h) ?_; (first | refine TR_load1 rfl 0 rfl rfl rfl (fun _ h => h) ?_ | refine TR_load1 rfl 1 rfl rfl rfl (fun _ h => h) ?_ | refine TR_load1 rfl 2 rfl rfl rfl (fun _ h => h) ?_ | refine TR_load1 rfl 3 rfl rfl rfl (fun _ h => h) ?_))
      | (refine TC_plain (id := 12) (by kernel_rfl) ?_; refine TR_pv0 PV_assign rfl ?_; refine TR_nil ?_)
      | refine TC_cond_t rfl rfl ?_
      | refine TC_cond_f rfl rfl ?_
      | refine TC_skip ?_
      | refine TC_ret ?_
      | refine TC_exit ?_
      | refine TC_block ?_
      | refine TQ_then_ret ?_
      | refine TQ_then_exit ?_
      | refine TQ_blk ?_
      | refine TQ_blk_ret ?_
      | refine TQ_blk_here ?_
      | refine TQ_blk_past rfl ?_
      | refine TC_label ?_
      | (refine TC_cond rfl rfl (fun hq => ?_) (fun hq => ?_) <;> (try simp only [qs] at hq) <;> (try simp only [reduceCtorEq] at hq) <;> (try (exfalso; omega)))
      | ((first | refine TR_pv1 (PV_nil rfl) rfl (fun _ h => h) ?_ | refine TR_pv1 (PV_nilF rfl) rfl (fun _ h => h) ?_ | refine TR_pv1 (PV_nilY rfl) rfl (fun _ h => h) ?_); refine TR_pv1 (PV_fieldAddr rfl) rfl (fun _ h => h) ?_; (first | refine TR_store0_0 rfl rfl rfl rfl rfl rfl ?_ | refine TR_store0_1 rfl rfl rfl rfl rfl rfl ?_ | refine TR_store0_2 rfl rfl rfl rfl rfl rfl ?_ | refine TR_store0_3 rfl rfl rfl rfl rfl rfl ?_); refine TR_nil ?_)
    have e : (⟨v, l, m, any, s, y⟩ : Ro) = Ro.sample ⟨v, l, m, any, s, y⟩ t := by rw [Ro.sample, if_pos hneg]
    have e3 : i64 1 = i64 (if t < 0 then 1 else 0) := by rw [if_pos hneg]
    exact TQ_ret1 rfl rfl rfl ⟨e3, congrArg (fun X => [roAt b X]) e⟩ (.cons .here .nil)
  · have e0 := sample_none (v := v) (l := l) (m := m) (s := s) (y := y) (t := t) (by omega)
    have e1 := sample_any (v := v) (l := l) (m := m) (s := s) (y := y) (t := t) (by omega)
    have e2 : i64 0 = i64 (if t < 0 then 1 else 0) := by rw [if_neg hneg]
    cases any
    · refine Ct_intro Try.func72 rfl (by simp only [Try.ntmps72, List.length_cons, List.length_nil]; omega) ?_
      intro w₀ R
      repeat' first
        | refine TC_seq ?_
        | refine TQ_then ?_
        | refine TR_nil ?_
        | refine TQ_noPanic ?_
        | (refine TC_plain (id := 0) (by kernel_rfl) ?_; refine TR_pv0 PV_assign rfl ?_; refine TR_nil ?_)
        | (refine TC_plain (id := 1) (by kernel_rfl) ?_; refine TR_pv0 PV_move rfl ?_; (first | refine TR_pv0 (PV_peq_nil rfl rfl) rfl ?_ | refine TR_pv0 (PV_peq rfl rfl) rfl ?_); refine TR_pv0 PV_assign rfl ?_; refine TR_nil ?_)
        | (refine TC_plain (id := 2) (by kernel_rfl) ?_; refine TR_pv0 PV_assign rfl ?_; refine TR_nil ?_)
        | (refine TC_plain (id := 3) (by kernel_rfl) ?_; refine TR_pv0 PV_move rfl ?_; refine TR_pv0 (PV_lss rfl rfl) rfl ?_; refine TR_pv0 PV_assign rfl ?_; refine TR_nil ?_)
        | (refine TC_plain (id := 4) (by kernel_rfl) ?_; refine TR_pv0 PV_assign rfl ?_; refine TR_nil ?_)
        | (refine TC_plain (id := 5) (by kernel_rfl) ?_; refine TR_pv0 PV_move rfl ?_; refine TR_pv0 (PV_min rfl rfl) rfl ?_; refine TR_pv0 PV_assign rfl ?_; refine TR_nil ?_)
        | (refine TC_plain (id := 6) (by kernel_rfl) ?_; refine TR_pv0 PV_move rfl ?_; (first | refine TR_pv0 (PV_nil rfl) rfl ?_ | refine TR_pv0 (PV_nilF rfl) rfl ?_ | refine TR_pv0 (PV_nilY rfl) rfl ?_); refine TR_pv0 (PV_fieldAddr rfl) rfl ?_; (first | refine TR_load0 rfl 0 rfl rfl rfl ?_ | refine TR_load0 rfl 1 rfl rfl rfl ?_ | refine TR_load0 rfl 2 rfl rfl rfl ?_ | refine TR_load0 rfl 3 rfl rfl rfl ?_); refine TR_nil ?_)
        | (refine TC_plain (id := 7) (by kernel_rfl) ?_; refine TR_pv0 PV_move rfl ?_; (first | refine TR_pv0 (PV_nil rfl) rfl ?_ | refine TR_pv0 (PV_nilF rfl) rfl ?_ | refine TR_pv0 (PV_nilY rfl) rfl ?_); refine TR_pv0 (PV_fieldAddr rfl) rfl ?_; (first | refine TR_load0 rfl 0 rfl rfl rfl ?_ | refine TR_load0 rfl 1 rfl rfl rfl ?_ | refine TR_load0 rfl 2 rfl rfl rfl ?_ | refine TR_load0 rfl 3 rfl rfl rfl ?_); refine TR_pv0 (PV_quo64 rfl rfl (by omega)) rfl ?_; refine TR_pv0 PV_move rfl ?_; (first | refine TR_pv0 (PV_sub64 rfl rfl (by omega)) rfl ?_ | refine TR_pv0 (PV_sub64w rfl rfl) rfl ?_); refine TR_pv0 PV_assign rfl ?_; refine TR_nil ?_)
        | (refine TC_drawn' (id := 8) [(0, 1), (1, 1), (2, 1), (3, 1), (4, 1), (5, 1), (6, 1), (7, 1), (8, 1), (9, 1), (10, 1), (11, 1), (12, 1), (13, 1), (14, 1), (15, 1), (16, 1), (17, 0)] mixed (by kernel_rfl) ?_; refine TR_pv1 PV_move rfl (fun _ h => h) ?_; (first | refine TR_pv1 (PV_nil rfl) rfl (fun _ h => h) ?_ | refine TR_pv1 (PV_nilF rfl) rfl (fun _ h => h) ?_ | refine TR_pv1 (PV_nilY rfl) rfl (fun _ h => h) ?_); refine TR_pv1 (PV_fieldAddr rfl) rfl (fun _ h => h) ?_; (first | refine TR_load1 rfl 0 rfl rfl rfl (fun _ h => h) ?_ | refine TR_load1 rfl 1 rfl rfl rfl (fun _ h => h) ?_ | refine TR_load1 rfl 2 rfl rfl rfl (fun _ h => h) ?_ | refine TR_load1 rfl 3 rfl rfl rfl (fun _ h => h) ?_); refine TR_pv1 PV_move rfl (fun _ h => h) ?_; refine TR_pv1 PV_move rfl (fun _ h => h) ?_; refine TR_pv1 (PV_neg64 rfl (by omega)) rfl (fun _ h => h) ?_; refine TR_pv1 (PV_max rfl rfl) rfl (fun _ h => h) ?_; refine TR_pv1 PV_move rfl (fun _ h => h) ?_; (first | refine TR_pv1 (PV_nil rfl) rfl (fun _ h => h) ?_ | refine TR_pv1 (PV_nilF rfl) rfl (fun _ h => h) ?_ | refine TR_pv1 (PV_nilY rfl) rfl (fun _ h => h) ?_); refine TR_pv1 (PV_fieldAddr rfl) rfl (fun _ h => h) ?_; (first | refine TR_load1 rfl 0 rfl rfl rfl (fun _ h => h) ?_ | refine TR_load1 rfl 1 rfl rfl rfl (fun _ h => h) ?_ | refine TR_load1 rfl 2 rfl rfl rfl (fun _ h => h) ?_ | refine TR_load1 rfl 3 rfl rfl rfl (fun _ h => h) ?_); refine TR_pv1 (PV_quo64 rfl rfl (by omega)) rfl (fun _ h => h) ?_; (first | refine TR_pv1 (PV_sub64 rfl rfl (by omega)) rfl (fun _ h => h) ?_ | refine TR_pv1 (PV_sub64w rfl rfl) rfl (fun _ h => h) ?_); (first | refine TR_pv1 (PV_add64 rfl rfl (by omega)) rfl (fun _ h => h) ?_ | refine TR_pv1 (PV_add64w rfl rfl) rfl (fun _ h => h) ?_); (first | refine TR_pv1 (PV_nil rfl) rfl (fun _ h => h) ?_ | refine TR_pv1 (PV_nilF rfl) rfl (fun _ h => h) ?_ | refine TR_pv1 (PV_nilY rfl) rfl (fun _ h => h) ?_); refine TR_pv1 (PV_fieldAddr rfl) rfl (fun _ h => h) ?_; (first | refine TR_store0_0 rfl rfl rfl rfl rfl rfl ?_ | refine TR_store0_1 rfl rfl rfl rfl rfl rfl ?_ | refine TR_store0_2 rfl rfl rfl rfl rfl rfl ?_ | refine TR_store0_3 rfl rfl rfl rfl rfl rfl ?_); refine TR_nil ?_)
        | (refine TC_drawn' (id := 9) [(0, 1), (1, 1), (2, 1), (3, 1), (4, 1), (5, 1), (6, 1), (7, 1), (8, 1), (9, 1), (10, 1), (11, 1), (12, 1), (13, 1), (14, 0)] mixed (by kernel_rfl) ?_; refine TR_pv1 PV_move rfl (fun _ h => h) ?_; (first | refine TR_pv1 (PV_nil rfl) rfl (fun _ h => h) ?_ | refine TR_pv1 (PV_nilF rfl) rfl (fun _ h => h) ?_ | refine TR_pv1 (PV_nilY rfl) rfl (fun _ h => h) ?_); refine TR_pv1 (PV_fieldAddr rfl) rfl (fun _ h => h) ?_; (first | refine TR_load1 rfl 0 rfl rfl rfl (fun _ h => h) ?_ | refine TR_load1 rfl 1 rfl rfl rfl (fun _ h => h) ?_ | refine TR_load1 rfl 2 rfl rfl rfl (fun _ h => h) ?_ | refine TR_load1 rfl 3 rfl rfl rfl (fun _ h => h) ?_); refine TR_pv1 PV_move rfl (fun _ h => h) ?_; refine TR_pv1 PV_move rfl (fun _ h => h) ?_; (first | refine TR_pv1 (PV_nil rfl) rfl (fun _ h => h) ?_ | refine TR_pv1 (PV_nilF rfl) rfl (fun _ h => h) ?_ | refine TR_pv1 (PV_nilY rfl) rfl (fun _ h => h) ?_); refine TR_pv1 (PV_fieldAddr rfl) rfl (fun _ h => h) ?_; (first | refine TR_load1 rfl 0 rfl rfl rfl (fun _ h => h) ?_ | refine TR_load1 rfl 1 rfl rfl rfl (fun _ h => h) ?_ | refine TR_load1 rfl 2 rfl rfl rfl (fun _ h => h) ?_ | refine TR_load1 rfl 3 rfl rfl rfl (fun _ h => h) ?_); refine TR_pv1 (PV_quo64 rfl rfl (by omega)) rfl (fun _ h => h) ?_; (first | refine TR_pv1 (PV_sub64 rfl rfl (by omega)) rfl (fun _ h => h) ?_ | refine TR_pv1 (PV_sub64w rfl rfl) rfl (fun _ h => h) ?_); (first | refine TR_pv1 (PV_add64 rfl rfl (by omega)) rfl (fun _ h => h) ?_ | refine TR_pv1 (PV_add64w rfl rfl) rfl (fun _ h => h) ?_); (first | refine TR_pv1 (PV_nil rfl) rfl (fun _ h => h) ?_ | refine TR_pv1 (PV_nilF rfl) rfl (fun _ h => h) ?_ | refine TR_pv1 (PV_nilY rfl) rfl (fun _ h => h) ?_); refine TR_pv1 (PV_fieldAddr rfl) rfl (fun _ h => h) ?_; (first | refine TR_store0_0 rfl rfl rfl rfl rfl rfl ?_ | refine TR_store0_1 rfl rfl rfl rfl rfl rfl ?_ | refine TR_store0_2 rfl rfl rfl rfl rfl rfl ?_ | refine TR_store0_3 rfl rfl rfl rfl rfl rfl ?_); refine TR_nil ?_)
        | (refine TC_plain (id := 10) (by kernel_rfl) ?_; refine TR_pv0 PV_move rfl ?_; refine TR_pv0 PV_move rfl ?_; refine TR_pv0 PV_move rfl ?_; refine TR_pv0 PV_move rfl ?_; (first | refine TR_pv0 (PV_mul64 rfl rfl (by omega)) rfl ?_ | refine TR_pv0 (PV_mul64w rfl rfl) rfl ?_); refine TR_pv0 PV_move rfl ?_; (first | refine TR_pv0 (PV_mul64 rfl rfl (by omega)) rfl ?_ | refine TR_pv0 (PV_mul64w rfl rfl) rfl ?_); (first | refine TR_pv0 (PV_nil rfl) rfl ?_ | refine TR_pv0 (PV_nilF rfl) rfl ?_ | refine TR_pv0 (PV_nilY rfl) rfl ?_); refine TR_pv0 (PV_fieldAddr rfl) rfl ?_; (first | refine TR_store0_0 rfl rfl rfl rfl rfl rfl ?_ | refine TR_store0_1 rfl rfl rfl rfl rfl rfl ?_ | refine TR_store0_2 rfl rfl rfl rfl rfl rfl ?_ | refine TR_store0_3 rfl rfl rfl rfl rfl rfl ?_); (first | refine TR_pv0 (PV_nil rfl) rfl ?_ | refine TR_pv0 (PV_nilF rfl) rfl ?_ | refine TR_pv0 (PV_nilY rfl) rfl ?_); refine TR_pv0 (PV_fieldAddr rfl) rfl ?_; (first | refine TR_store0_0 rfl rfl rfl rfl rfl rfl ?_ | refine TR_store0_1 rfl rfl rfl rfl rfl rfl ?_ | refine TR_store0_2 rfl rfl rfl rfl rfl rfl ?_ | refine TR_store0_3 rfl rfl rfl rfl rfl rfl ?_); (first | refine TR_pv0 (PV_nil rfl) rfl ?_ | refine TR_pv0 (PV_nilF rfl) rfl ?_ | refine TR_pv0 (PV_nilY rfl) rfl ?_); refine TR_pv0 (PV_fieldAddr rfl) rfl ?_; (first | refine TR_store0_0 rfl rfl rfl rfl rfl rfl ?_ | refine TR_store0_1 rfl rfl rfl rfl rfl rfl ?_ | refine TR_store0_2 rfl rfl rfl rfl rfl rfl ?_ | refine TR_store0_3 rfl rfl rfl rfl rfl rfl ?_); refine TR_nil ?_)
        | (refine TC_drawn' (id := 11) [(0, 1), (1, 1), (2, 1), (3, 1), (4, 1), (5, 1), (6, 1), (7, 1), (8, 1), (9, 1), (10, 1), (11, 1), (12, 1), (13, 1), (14, 1), (15, 1), (16, 1), (17, 1), (18, 1), (19, 1), (20, 2), (21, 1), (22, 1), (23, 0)] mixed (by kernel_rfl) ?_; refine TR_pv1 PV_move rfl (fun _ h => h) ?_; refine TR_pv1 PV_move rfl (fun _ h => h) ?_; (first | refine TR_pv1 (PV_nil rfl) rfl (fun _ h => h) ?_ | refine TR_pv1 (PV_nilF rfl) rfl (fun _ h => h) ?_ | refine TR_pv1 (PV_nilY rfl) rfl (fun _ h => h) ?_); refine TR_pv1 (PV_fieldAddr rfl) rfl (fun _ h => h) ?_; (first | refine TR_load1 rfl 0 rfl rfl rfl (fun _ h => h) ?_ | refine TR_load1 rfl 1 rfl rfl rfl (fun _ h => h) ?_ | refine TR_load1 rfl 2 rfl rfl rfl (fun _ h => h) ?_ | refine TR_load1 rfl 3 rfl rfl rfl (fun _ h => h) ?_); refine TR_pv1 (PV_quo64 rfl rfl (by omega)) rfl (fun _ h => h) ?_; refine TR_pv1 PV_move rfl (fun _ h => h) ?_; (first | refine TR_pv1 (PV_nil rfl) rfl (fun _ h => h) ?_ | refine TR_pv1 (PV_nilF rfl) rfl (fun _ h => h) ?_ | refine TR_pv1 (PV_nilY rfl) rfl (fun _ h => h) ?_); refine TR_pv1 (PV_fieldAddr rfl) rfl (fun _ h => h) ?_; (first | refine TR_load1 rfl 0 rfl rfl rfl (fun _ h => h) ?_ | refine TR_load1 rfl 1 rfl rfl rfl (fun _ h => h) ?_ | refine TR_load1 rfl 2 rfl rfl rfl (fun _ h => h) ?_ | refine TR_load1 rfl 3 rfl rfl rfl (fun _ h => h) ?_); refine TR_pv1 (PV_max rfl rfl) rfl (fun _ h => h) ?_; (first | refine TR_pv1 (PV_add64 rfl rfl (by omega)) rfl (fun _ h => h) ?_ | refine TR_pv1 (PV_add64w rfl rfl) rfl (fun _ h => h) ?_); refine TR_pv1 PV_move rfl (fun _ h => h) ?_; (first | refine TR_pv1 (PV_nil rfl) rfl (fun _ h => h) ?_ | refine TR_pv1 (PV_nilF rfl) rfl (fun _ h => h) ?_ | refine TR_pv1 (PV_nilY rfl) rfl (fun _ h => h) ?_); refine TR_pv1 (PV_fieldAddr rfl) rfl (fun _ h => h) ?_; (first | refine TR_load1 rfl 0 rfl rfl rfl (fun _ h => h) ?_ | refine TR_load1 rfl 1 rfl rfl rfl (fun _ h => h) ?_ | refine TR_load1 rfl 2 rfl rfl rfl (fun _ h => h) ?_ | refine TR_load1 rfl 3 rfl rfl rfl (fun _ h => h) ?_); refine TR_pv1 PV_move rfl (fun _ h => h) ?_; (first | refine TR_pv1 (PV_nil rfl) rfl (fun _ h => h) ?_ | refine TR_pv1 (PV_nilF rfl) rfl (fun _ h => h) ?_ | refine TR_pv1 (PV_nilY rfl) rfl (fun _ h => h) ?_); refine TR_pv1 (PV_fieldAddr rfl) rfl (fun _ h => h) ?_; (first | refine TR_load1 rfl 0 rfl rfl rfl (fun _ h => h) ?_ | refine TR_load1 rfl 1 rfl rfl rfl (fun _ h => h) ?_ | refine TR_load1 rfl 2 rfl rfl rfl (fun _ h => h) ?_ | refine TR_load1 rfl 3 rfl rfl rfl (fun _ h => h) ?_); refine TR_calldk (between_ct _ _ _) rfl rfl .nil rfl ?_; (first | refine TR_pv1 (PV_nil rfl) rfl (fun _ h => h) ?_ | refine TR_pv1 (PV_nilF rfl) rfl (fun _ h => h) ?_ | refine TR_pv1 (PV_nilY rfl) rfl (fun _ h => h) ?_); refine TR_pv1 (PV_fieldAddr rfl) rfl (fun _ h => h) ?_; (first | refine TR_store0_0 rfl rfl rfl rfl rfl rfl ?_ | refine TR_store0_1 rfl rfl rfl rfl rfl rfl ?_ | refine TR_store0_2 rfl rfl rfl rfl rfl rfl ?_ | refine TR_store0_3 rfl rfl rfl rfl rfl rfl ?_); refine TR_nil ?_)
        | (refine TC_plain (id := 12) (by kernel_rfl) ?_; refine TR_pv0 PV_assign rfl ?_; refine TR_nil ?_)
        | refine TC_cond_t rfl rfl ?_
        | refine TC_cond_f rfl rfl ?_
        | refine TC_skip ?_
        | refine TC_ret ?_
        | refine TC_exit ?_
        | refine TC_block ?_
        | refine TQ_then_ret ?_
        | refine TQ_then_exit ?_
        | refine TQ_blk ?_
        | refine TQ_blk_ret ?_
        | refine TQ_blk_here ?_
        | refine TQ_blk_past rfl ?_
        | refine TC_label ?_
        | (refine TC_cond rfl rfl (fun hq => ?_) (fun hq => ?_) <;> (try simp only [qs] at hq) <;> (try simp only [reduceCtorEq] at hq) <;> (try (exfalso; omega)))
      exact TQ_ret1 rfl rfl rfl ⟨e2, (congrArg (fun X => [roAt b X]) e0).symm⟩ (.cons .here .nil)
    · refine Ct_intro Try.func72 rfl (by simp only [Try.ntmps72, List.length_cons, List.length_nil]; omega) ?_
      intro w₀ R
      repeat' first
        | refine TC_seq ?_
        | refine TQ_then ?_
        | refine TR_nil ?_
        | refine TQ_noPanic ?_
        | (refine TC_plain (id := 0) (by kernel_rfl) ?_; refine TR_pv0 PV_assign rfl ?_; refine TR_nil ?_)
        | (refine TC_plain (id := 1) (by kernel_rfl) ?_; refine TR_pv0 PV_move rfl ?_; (first | refine TR_pv0 (PV_peq_nil rfl rfl) rfl ?_ | refine TR_pv0 (PV_peq rfl rfl) rfl ?_); refine TR_pv0 PV_assign rfl ?_; refine TR_nil ?_)
        | (refine TC_plain (id := 2) (by kernel_rfl) ?_; refine TR_pv0 PV_assign rfl ?_; refine TR_nil ?_)
        | (refine TC_plain (id := 3) (by kernel_rfl) ?_; refine TR_pv0 PV_move rfl ?_; refine TR_pv0 (PV_lss rfl rfl) rfl ?_; refine TR_pv0 PV_assign rfl ?_; refine TR_nil ?_)
        | (refine TC_plain (id := 4) (by kernel_rfl) ?_; refine TR_pv0 PV_assign rfl ?_; refine TR_nil ?_)
        | (refine TC_plain (id := 5) (by kernel_rfl) ?_; refine TR_pv0 PV_move rfl ?_; refine TR_pv0 (PV_min rfl rfl) rfl ?_; refine TR_pv0 PV_assign rfl ?_; refine TR_nil ?_)
        | (refine TC_plain (id := 6) (by kernel_rfl) ?_; refine TR_pv0 PV_move rfl ?_; (first | refine TR_pv0 (PV_nil rfl) rfl ?_ | refine TR_pv0 (PV_nilF rfl) rfl ?_ | refine TR_pv0 (PV_nilY rfl) rfl ?_); refine TR_pv0 (PV_fieldAddr rfl) rfl ?_; (first | refine TR_load0 rfl 0 rfl rfl rfl ?_ | refine TR_load0 rfl 1 rfl rfl rfl ?_ | refine TR_load0 rfl 2 rfl rfl rfl ?_ | refine TR_load0 rfl 3 rfl rfl rfl ?_); refine TR_nil ?_)
        | (refine TC_plain (id := 7) (by kernel_rfl) ?_; refine TR_pv0 PV_move rfl ?_; (first | refine TR_pv0 (PV_nil rfl) rfl ?_ | refine TR_pv0 (PV_nilF rfl) rfl ?_ | refine TR_pv0 (PV_nilY rfl) rfl ?_); refine TR_pv0 (PV_fieldAddr rfl) rfl ?_; (first | refine TR_load0 rfl 0 rfl rfl rfl ?_ | refine TR_load0 rfl 1 rfl rfl rfl ?_ | refine TR_load0 rfl 2 rfl rfl rfl ?_ | refine TR_load0 rfl 3 rfl rfl rfl ?_); refine TR_pv0 (PV_quo64 rfl rfl (by omega)) rfl ?_; refine TR_pv0 PV_move rfl ?_; (first | refine TR_pv0 (PV_sub64 rfl rfl (by omega)) rfl ?_ | refine TR_pv0 (PV_sub64w rfl rfl) rfl ?_); refine TR_pv0 PV_assign rfl ?_; refine TR_nil ?_)
        | (refine TC_drawn' (id := 8) [(0, 1), (1, 1), (2, 1), (3, 1), (4, 1), (5, 1), (6, 1), (7, 1), (8, 1), (9, 1), (10, 1), (11, 1), (12, 1), (13, 1), (14, 1), (15, 1), (16, 1), (17, 0)] mixed (by kernel_rfl) ?_; refine TR_pv1 PV_move rfl (fun _ h => h) ?_; (first | refine TR_pv1 (PV_nil rfl) rfl (fun _ h => h) ?_ | refine TR_pv1 (PV_nilF rfl) rfl (fun _ h => h) ?_ | refine TR_pv1 (PV_nilY rfl) rfl (fun _ h => h) ?_); refine TR_pv1 (PV_fieldAddr rfl) rfl (fun _ h => h) ?_; (first | refine TR_load1 rfl 0 rfl rfl rfl (fun _ h => h) ?_ | refine TR_load1 rfl 1 rfl rfl rfl (fun _ h => h) ?_ | refine TR_load1 rfl 2 rfl rfl rfl (fun _ h => h) ?_ | refine TR_load1 rfl 3 rfl rfl rfl (fun _ h => h) ?_); refine TR_pv1 PV_move rfl (fun _ h => h) ?_; refine TR_pv1 PV_move rfl (fun _ h => h) ?_; refine TR_pv1 (PV_neg64 rfl (by omega)) rfl (fun _ h => h) ?_; refine TR_pv1 (PV_max rfl rfl) rfl (fun _ h => h) ?_; refine TR_pv1 PV_move rfl (fun _ h => h) ?_; (first | refine TR_pv1 (PV_nil rfl) rfl (fun _ h => h) ?_ | refine TR_pv1 (PV_nilF rfl) rfl (fun _ h => h) ?_ | refine TR_pv1 (PV_nilY rfl) rfl (fun _ h => h) ?_); refine TR_pv1 (PV_fieldAddr rfl) rfl (fun _ h => h) ?_; (first | refine TR_load1 rfl 0 rfl rfl rfl (fun _ h => h) ?_ | refine TR_load1 rfl 1 rfl rfl rfl (fun _ h => h) ?_ | refine TR_load1 rfl 2 rfl rfl rfl (fun _ h => h) ?_ | refine TR_load1 rfl 3 rfl rfl rfl (fun _ h => h) ?_); refine TR_pv1 (PV_quo64 rfl rfl (by omega)) rfl (fun _ h => h) ?_; (first | refine TR_pv1 (PV_sub64 rfl rfl (by omega)) rfl (fun _ h => h) ?_ | refine TR_pv1 (PV_sub64w rfl rfl) rfl (fun _ h => h) ?_); (first | refine TR_pv1 (PV_add64 rfl rfl (by omega)) rfl (fun _ h => h) ?_ | refine TR_pv1 (PV_add64w rfl rfl) rfl (fun _ h => h) ?_); (first | refine TR_pv1 (PV_nil rfl) rfl (fun _ h => h) ?_ | refine TR_pv1 (PV_nilF rfl) rfl (fun _ h => h) ?_ | refine TR_pv1 (PV_nilY rfl) rfl (fun _ h => h) ?_); refine TR_pv1 (PV_fieldAddr rfl) rfl (fun _ h => h) ?_; (first | refine TR_store0_0 rfl rfl rfl rfl rfl rfl ?_ | refine TR_store0_1 rfl rfl rfl rfl rfl rfl ?_ | refine TR_store0_2 rfl rfl rfl rfl rfl rfl ?_ | refine TR_store0_3 rfl rfl rfl rfl rfl rfl ?_); refine TR_nil ?_)
        | (refine TC_drawn' (id := 9) [(0, 1), (1, 1), (2, 1), (3, 1), (4, 1), (5, 1), (6, 1), (7, 1), (8, 1), (9, 1), (10, 1), (11, 1), (12, 1), (13, 1), (14, 0)] mixed (by kernel_rfl) ?_; refine TR_pv1 PV_move rfl (fun _ h => h) ?_; (first | refine TR_pv1 (PV_nil rfl) rfl (fun _ h => h) ?_ | refine TR_pv1 (PV_nilF rfl) rfl (fun _ h => h) ?_ | refine TR_pv1 (PV_nilY rfl) rfl (fun _ h => h) ?_); refine TR_pv1 (PV_fieldAddr rfl) rfl (fun _ h => h) ?_; (first | refine TR_load1 rfl 0 rfl rfl rfl (fun _ h => h) ?_ | refine TR_load1 rfl 1 rfl rfl rfl (fun _ h => h) ?_ | refine TR_load1 rfl 2 rfl rfl rfl (fun _ h => h) ?_ | refine TR_load1 rfl 3 rfl rfl rfl (fun _ h => h) ?_); refine TR_pv1 PV_move rfl (fun _ h => h) ?_; refine TR_pv1 PV_move rfl (fun _ h => h) ?_; (first | refine TR_pv1 (PV_nil rfl) rfl (fun _ h => h) ?_ | refine TR_pv1 (PV_nilF rfl) rfl (fun _ h => h) ?_ | refine TR_pv1 (PV_nilY rfl) rfl (fun _ h => h) ?_); refine TR_pv1 (PV_fieldAddr rfl) rfl (fun _ h => h) ?_; (first | refine TR_load1 rfl 0 rfl rfl rfl (fun _ h => h) ?_ | refine TR_load1 rfl 1 rfl rfl rfl (fun _ h => h) ?_ | refine TR_load1 rfl 2 rfl rfl rfl (fun _ h => h) ?_ | refine TR_load1 rfl 3 rfl rfl rfl (fun _ h => h) ?_); refine TR_pv1 (PV_quo64 rfl rfl (by omega)) rfl (fun _ h => h) ?_; (first | refine TR_pv1 (PV_sub64 rfl rfl (by omega)) rfl (fun _ h => h) ?_ | refine TR_pv1 (PV_sub64w rfl rfl) rfl (fun _ h => h) ?_); (first | refine TR_pv1 (PV_add64 rfl rfl (by omega)) rfl (fun _ h => h) ?_ | refine TR_pv1 (PV_add64w rfl rfl) rfl (fun _ h => h) ?_); (first | refine TR_pv1 (PV_nil rfl) rfl (fun _ h => h) ?_ | refine TR_pv1 (PV_nilF rfl) rfl (fun _ h => h) ?_ | refine TR_pv1 (PV_nilY rfl) rfl (fun _ h => h) ?_); refine TR_pv1 (PV_fieldAddr rfl) rfl (fun _ h => h) ?_; (first | refine TR_store0_0 rfl rfl rfl rfl rfl rfl ?_ | refine TR_store0_1 rfl rfl rfl rfl rfl rfl ?_ | refine TR_store0_2 rfl rfl rfl rfl rfl rfl ?_ | refine TR_store0_3 rfl rfl rfl rfl rfl rfl ?_); refine TR_nil ?_)
        | (refine TC_plain (id := 10) (by kernel_rfl) ?_; refine TR_pv0 PV_move rfl ?_; refine TR_pv0 PV_move rfl ?_; refine TR_pv0 PV_move rfl ?_; refine TR_pv0 PV_move rfl ?_; (first | refine TR_pv0 (PV_mul64 rfl rfl (by omega)) rfl ?_ | refine TR_pv0 (PV_mul64w rfl rfl) rfl ?_); refine TR_pv0 PV_move rfl ?_; (first | refine TR_pv0 (PV_mul64 rfl rfl (by omega)) rfl ?_ | refine TR_pv0 (PV_mul64w rfl rfl) rfl ?_); (first | refine TR_pv0 (PV_nil rfl) rfl ?_ | refine TR_pv0 (PV_nilF rfl) rfl ?_ | refine TR_pv0 (PV_nilY rfl) rfl ?_); refine TR_pv0 (PV_fieldAddr rfl) rfl ?_; (first | refine TR_store0_0 rfl rfl rfl rfl rfl rfl ?_ | refine TR_store0_1 rfl rfl rfl rfl rfl rfl ?_ | refine TR_store0_2 rfl rfl rfl rfl rfl rfl ?_ | refine TR_store0_3 rfl rfl rfl rfl rfl rfl ?_); (first | refine TR_pv0 (PV_nil rfl) rfl ?_ | refine TR_pv0 (PV_nilF rfl) rfl ?_ | refine TR_pv0 (PV_nilY rfl) rfl ?_); refine TR_pv0 (PV_fieldAddr rfl) rfl ?_; (first | refine TR_store0_0 rfl rfl rfl rfl rfl rfl ?_ | refine TR_store0_1 rfl rfl rfl rfl rfl rfl ?_ | refine TR_store0_2 rfl rfl rfl rfl rfl rfl ?_ | refine TR_store0_3 rfl rfl rfl rfl rfl rfl ?_); (first | refine TR_pv0 (PV_nil rfl) rfl ?_ | refine TR_pv0 (PV_nilF rfl) rfl ?_ | refine TR_pv0 (PV_nilY rfl) rfl ?_); refine TR_pv0 (PV_fieldAddr rfl) rfl ?_; (first | refine TR_store0_0 rfl rfl rfl rfl rfl rfl ?_ | refine TR_store0_1 rfl rfl rfl rfl rfl rfl ?_ | refine TR_store0_2 rfl rfl rfl rfl rfl rfl ?_ | refine TR_store0_3 rfl rfl rfl rfl rfl rfl ?_); refine TR_nil ?_)
        | (refine TC_drawn' (id := 11) [(0, 1), (1, 1), (2, 1), (3, 1), (4, 1), (5, 1), (6, 1), (7, 1), (8, 1), (9, 1), (10, 1), (11, 1), (12, 1), (13, 1), (14, 1), (15, 1), (16, 1), (17, 1), (18, 1), (19, 1), (20, 2), (21, 1), (22, 1), (23, 0)] mixed (by kernel_rfl) ?_; refine TR_pv1 PV_move rfl (fun _ h => h) ?_; refine TR_pv1 PV_move rfl (fun _ h => h) ?_; (first | refine TR_pv1 (PV_nil rfl) rfl (fun _ h => h) ?_ | refine TR_pv1 (PV_nilF rfl) rfl (fun _ h => h) ?_ | refine TR_pv1 (PV_nilY rfl) rfl (fun _ h => h) ?_); refine TR_pv1 (PV_fieldAddr rfl) rfl (fun _ h => h) ?_; (first | refine TR_load1 rfl 0 rfl rfl rfl (fun _ h => h) ?_ | refine TR_load1 rfl 1 rfl rfl rfl (fun _ h => h) ?_ | refine TR_load1 rfl 2 rfl rfl rfl (fun _ h => h) ?_ | refine TR_load1 rfl 3 rfl rfl rfl (fun _ h => h) ?_); refine TR_pv1 (PV_quo64 rfl rfl (by omega)) rfl (fun _ h => h) ?_; refine TR_pv1 PV_move rfl (fun _ h => h) ?_; (first | refine TR_pv1 (PV_nil rfl) rfl (fun _ h => h) ?_ | refine TR_pv1 (PV_nilF rfl) rfl (fun _ h => h) ?_ | refine TR_pv1 (PV_nilY rfl) rfl (fun _ h => h) ?_); refine TR_pv1 (PV_fieldAddr rfl) rfl (fun _ h => h) ?_; (first | refine TR_load1 rfl 0 rfl rfl rfl (fun _ h => h) ?_ | refine TR_load1 rfl 1 rfl rfl rfl (fun _ h => h) ?_ | refine TR_load1 rfl 2 rfl rfl rfl (fun _ h => h) ?_ | refine TR_load1 rfl 3 rfl rfl rfl (fun _ h => h) ?_); refine TR_pv1 (PV_max rfl rfl) rfl (fun _ h => h) ?_; (first | refine TR_pv1 (PV_add64 rfl rfl (by omega)) rfl (fun _ h => h) ?_ | refine TR_pv1 (PV_add64w rfl rfl) rfl (fun _ h => h) ?_); refine TR_pv1 PV_move rfl (fun _ h => h) ?_; (first | refine TR_pv1 (PV_nil rfl) rfl (fun _ h => h) ?_ | refine TR_pv1 (PV_nilF rfl) rfl (fun _ h => h) ?_ | refine TR_pv1 (PV_nilY rfl) rfl (fun _ h => h) ?_); refine TR_pv1 (PV_fieldAddr rfl) rfl (fun _ h => h) ?_; (first | refine TR_load1 rfl 0 rfl rfl rfl (fun _ h => h) ?_ | refine TR_load1 rfl 1 rfl rfl rfl (fun _ h => h) ?_ | refine TR_load1 rfl 2 rfl rfl rfl (fun _ h => h) ?_ | refine TR_load1 rfl 3 rfl rfl rfl (fun _ h => h) ?_); refine TR_pv1 PV_move rfl (fun _ h => h) ?_; (first | refine TR_pv1 (PV_nil rfl) rfl (fun _ h => h) ?_ | refine TR_pv1 (PV_nilF rfl) rfl (fun _ h => h) ?_ | refine TR_pv1 (PV_nilY rfl) rfl (fun _ h => h) ?_); refine TR_pv1 (PV_fieldAddr rfl) rfl (fun _ h => h) ?_; (first | refine TR_load1 rfl 0 rfl rfl rfl (fun _ h => h) ?_ | refine TR_load1 rfl 1 rfl rfl rfl (fun _ h => h) ?_ | refine TR_load1 rfl 2 rfl rfl rfl (fun _ h => h) ?_ | refine TR_load1 rfl 3 rfl rfl rfl (fun _ h => h) ?_); refine TR_calldk (between_ct _ _ _) rfl rfl .nil rfl ?_; (first | refine TR_pv1 (PV_nil rfl) rfl (fun _ h => h) ?_ | refine TR_pv1 (PV_nilF rfl) rfl (fun _ h => h) ?_ | refine TR_pv1 (PV_nilY rfl) rfl (fun _ h => h) ?_); refine TR_pv1 (PV_fieldAddr rfl) rfl (fun _ h => h) ?_; (first | refine TR_store0_0 rfl rfl rfl rfl rfl rfl ?_ | refine TR_store0_1 rfl rfl rfl rfl rfl rfl ?_ | refine TR_store0_2 rfl rfl rfl rfl rfl rfl ?_ | refine TR_store0_3 rfl rfl rfl rfl rfl rfl ?_); refine TR_nil ?_)
        | (refine TC_plain (id := 12) (by kernel_rfl) ?_; refine TR_pv0 PV_assign rfl ?_; refine TR_nil ?_)
        | refine TC_cond_t rfl rfl ?_
        | refine TC_cond_f rfl rfl ?_
        | refine TC_skip ?_
        | refine TC_ret ?_
        | refine TC_exit ?_
        | refine TC_block ?_
        | refine TQ_then_ret ?_
        | refine TQ_then_exit ?_
        | refine TQ_blk ?_
        | refine TQ_blk_ret ?_
        | refine TQ_blk_here ?_
        | refine TQ_blk_past rfl ?_
        | refine TC_label ?_
        | (refine TC_cond rfl rfl (fun hq => ?_) (fun hq => ?_) <;> (try simp only [qs] at hq) <;> (try simp only [reduceCtorEq] at hq) <;> (try (exfalso; omega)))
      refine TQ_ret1 rfl rfl rfl ⟨e2, ?_⟩ (.cons .here .nil)
      exact Eq.trans (ro_step (by with_reducible rfl) (by with_reducible rfl)) (congrArg (fun X => [roAt b X]) e1.symm)

/-! ### The reference's -/
abbrev rroAt (b : Nat) (r : Ro) : Seg := blk b 95 [i64 r.value, i64 r.least, i64 r.most, .bool r.any, i64 r.smooth, i64 r.vary]

theorem rroNew_yes (f l m : Int) (h : roArgs f l m) : Cn Try.prog 54 [i64 f, i64 l, i64 m] (fun b => .tuple #[ptr b, i64 0]) (fun b => rroAt b (Ro.new f l m)) := by
  obtain ⟨h1, h2, h3, h4⟩ := h
  refine Ct_intro Try.func54 rfl (by simp only [Try.ntmps54, List.length_cons, List.length_nil]; omega) ?_
  intro w₀ R
  repeat' first
    | refine TC_seq ?_
    | refine TQ_then ?_
    | refine TR_nil ?_
    | refine TQ_noPanic ?_
    | (refine TC_plain (id := 0) (by kernel_rfl) ?_; refine TR_pv0 PV_assign rfl ?_; refine TR_pv0 PV_assign rfl ?_; refine TR_nil ?_)
    | (refine TC_plain (id := 1) (by kernel_rfl) ?_; all_goals refine TR_pv0 PV_move rfl ?_; all_goals refine TR_pv0 (PV_lss rfl rfl) rfl ?_; all_goals refine TR_pv0 PV_move rfl ?_; all_goals (first | refine TR_pv0 PV_move rfl ?_ | refine TR_skip0 rfl ?_ | (refine TR_gsplit rfl rfl rfl (fun hq => ?_) (fun hq => ?_) <;> (try simp only [qs] at hq) <;> (try simp only [reduceCtorEq] at hq) <;> (try (exfalso; omega)) <;> (first | refine TR_pv0 PV_move rfl ?_ | refine TR_skip0 rfl ?_))); all_goals (first | refine TR_pv0 PV_move rfl ?_ | refine TR_skip0 rfl ?_ | (refine TR_gsplit rfl rfl rfl (fun hq => ?_) (fun hq => ?_) <;> (try simp only [qs] at hq) <;> (try simp only [reduceCtorEq] at hq) <;> (try (exfalso; omega)) <;> (first | refine TR_pv0 PV_move rfl ?_ | refine TR_skip0 rfl ?_))); all_goals (first | refine TR_pv0 (PV_lss rfl rfl) rfl ?_ | refine TR_skip0 rfl ?_ | (refine TR_gsplit rfl rfl rfl (fun hq => ?_) (fun hq => ?_) <;> (try simp only [qs] at hq) <;> (try simp only [reduceCtorEq] at hq) <;> (try (exfalso; omega)) <;> (first | refine TR_pv0 (PV_lss rfl rfl) rfl ?_ | refine TR_skip0 rfl ?_))); all_goals (first | refine TR_pv0 (PV_pick_t rfl) rfl ?_ | refine TR_pv0 (PV_pick_f rfl) rfl ?_); all_goals refine TR_pv0 PV_move rfl ?_; all_goals (first | refine TR_pv0 PV_move rfl ?_ | refine TR_skip0 rfl ?_ | (refine TR_gsplit rfl rfl rfl (fun hq => ?_) (fun hq => ?_) <;> (try simp only [qs] at hq) <;> (try simp only [reduceCtorEq] at hq) <;> (try (exfalso; omega)) <;> (first | refine TR_pv0 PV_move rfl ?_ | refine TR_skip0 rfl ?_))); all_goals (first | refine TR_pv0 PV_move rfl ?_ | refine TR_skip0 rfl ?_ | (refine TR_gsplit rfl rfl rfl (fun hq => ?_) (fun hq => ?_) <;> (try simp only [qs] at hq) <;> (try simp only [reduceCtorEq] at hq) <;> (try (exfalso; omega)) <;> (first | refine TR_pv0 PV_move rfl ?_ | refine TR_skip0 rfl ?_))); all_goals (first | refine TR_pv0 (PV_lss rfl rfl) rfl ?_ | refine TR_skip0 rfl ?_ | (refine TR_gsplit rfl rfl rfl (fun hq => ?_) (fun hq => ?_) <;> (try simp only [qs] at hq) <;> (try simp only [reduceCtorEq] at hq) <;> (try (exfalso; omega)) <;> (first | refine TR_pv0 (PV_lss rfl rfl) rfl ?_ | refine TR_skip0 rfl ?_))); all_goals (first | refine TR_pv0 (PV_pick_t rfl) rfl ?_ | refine TR_pv0 (PV_pick_f rfl) rfl ?_); all_goals refine TR_pv0 PV_move rfl ?_; all_goals (first | refine TR_pv0 PV_move rfl ?_ | refine TR_skip0 rfl ?_ | (refine TR_gsplit rfl rfl rfl (fun hq => ?_) (fun hq => ?_) <;> (try simp only [qs] at hq) <;> (try simp only [reduceCtorEq] at hq) <;> (try (exfalso; omega)) <;> (first | refine TR_pv0 PV_move rfl ?_ | refine TR_skip0 rfl ?_))); all_goals (first | refine TR_pv0 (PV_gtr rfl rfl) rfl ?_ | refine TR_skip0 rfl ?_ | (refine TR_gsplit rfl rfl rfl (fun hq => ?_) (fun hq => ?_) <;> (try simp only [qs] at hq) <;> (try simp only [reduceCtorEq] at hq) <;> (try (exfalso; omega)) <;> (first | refine TR_pv0 (PV_gtr rfl rfl) rfl ?_ | refine TR_skip0 rfl ?_))); all_goals (first | refine TR_pv0 (PV_pick_t rfl) rfl ?_ | refine TR_pv0 (PV_pick_f rfl) rfl ?_); all_goals refine TR_nil ?_)
    | (refine TC_plain (id := 2) (by kernel_rfl) ?_; refine TR_pv0 PV_assign rfl ?_; refine TR_pv0 PV_assign rfl ?_; refine TR_nil ?_)
    | (refine TC_plain (id := 3) (by kernel_rfl) ?_; refine TR_pv0 PV_move rfl ?_; refine TR_pv0 PV_move rfl ?_; refine TR_pv0 PV_move rfl ?_; refine TR_pv0 (PV_build rfl rfl) rfl ?_; (refine TR_box0 rfl rfl rfl ?_; intro _); refine TR_pv0 PV_assign rfl ?_; refine TR_pv0 PV_assign rfl ?_; refine TR_nil ?_)
    | refine TC_cond_t rfl rfl ?_
    | refine TC_cond_f rfl rfl ?_
    | refine TC_skip ?_
    | refine TC_ret ?_
    | refine TC_exit ?_
    | refine TC_block ?_
    | refine TQ_then_ret ?_
    | refine TQ_then_exit ?_
    | refine TQ_blk ?_
    | refine TQ_blk_ret ?_
    | refine TQ_blk_here ?_
    | refine TQ_blk_past rfl ?_
    | refine TC_label ?_
    | (refine TC_cond rfl rfl (fun hq => ?_) (fun hq => ?_) <;> (try simp only [qs] at hq) <;> (try simp only [reduceCtorEq] at hq) <;> (try (exfalso; omega)))
  exact TQ_ret2 rfl rfl rfl rfl rfl ⟨_, rfl, rfl⟩ (.cons .here .nil)
theorem rroNew_no (f l m : Int) (h : ¬ roArgs f l m) : Cd Try.prog 54 [i64 f, i64 l, i64 m] [] (.tuple #[.pointer none, i64 1]) [] := by
  unfold roArgs at h
  refine Ct_intro Try.func54 rfl (by simp only [Try.ntmps54, List.length_cons, List.length_nil]; omega) ?_
  intro w₀ R
  repeat' first
    | refine TC_seq ?_
    | refine TQ_then ?_
    | refine TR_nil ?_
    | refine TQ_noPanic ?_
    | (refine TC_plain (id := 0) (by kernel_rfl) ?_; refine TR_pv0 PV_assign rfl ?_; refine TR_pv0 PV_assign rfl ?_; refine TR_nil ?_)
    | (refine TC_plain (id := 1) (by kernel_rfl) ?_; all_goals refine TR_pv0 PV_move rfl ?_; all_goals refine TR_pv0 (PV_lss rfl rfl) rfl ?_; all_goals refine TR_pv0 PV_move rfl ?_; all_goals (first | refine TR_pv0 PV_move rfl ?_ | refine TR_skip0 rfl ?_ | (refine TR_gsplit rfl rfl rfl (fun hq => ?_) (fun hq => ?_) <;> (try simp only [qs] at hq) <;> (try simp only [reduceCtorEq] at hq) <;> (try (exfalso; omega)) <;> (first | refine TR_pv0 PV_move rfl ?_ | refine TR_skip0 rfl ?_))); all_goals (first | refine TR_pv0 PV_move rfl ?_ | refine TR_skip0 rfl ?_ | (refine TR_gsplit rfl rfl rfl (fun hq => ?_) (fun hq => ?_) <;> (try simp only [qs] at hq) <;> (try simp only [reduceCtorEq] at hq) <;> (try (exfalso; omega)) <;> (first | refine TR_pv0 PV_move rfl ?_ | refine TR_skip0 rfl ?_))); all_goals (first | refine TR_pv0 (PV_lss rfl rfl) rfl ?_ | refine TR_skip0 rfl ?_ | (refine TR_gsplit rfl rfl rfl (fun hq => ?_) (fun hq => ?_) <;> (try simp only [qs] at hq) <;> (try simp only [reduceCtorEq] at hq) <;> (try (exfalso; omega)) <;> (first | refine TR_pv0 (PV_lss rfl rfl) rfl ?_ | refine TR_skip0 rfl ?_))); all_goals (first | refine TR_pv0 (PV_pick_t rfl) rfl ?_ | refine TR_pv0 (PV_pick_f rfl) rfl ?_); all_goals refine TR_pv0 PV_move rfl ?_; all_goals (first | refine TR_pv0 PV_move rfl ?_ | refine TR_skip0 rfl ?_ | (refine TR_gsplit rfl rfl rfl (fun hq => ?_) (fun hq => ?_) <;> (try simp only [qs] at hq) <;> (try simp only [reduceCtorEq] at hq) <;> (try (exfalso; omega)) <;> (first | refine TR_pv0 PV_move rfl ?_ | refine TR_skip0 rfl ?_))); all_goals (first | refine TR_pv0 PV_move rfl ?_ | refine TR_skip0 rfl ?_ | (refine TR_gsplit rfl rfl rfl (fun hq => ?_) (fun hq => ?_) <;> (try simp only [qs] at hq) <;> (try simp only [reduceCtorEq] at hq) <;> (try (exfalso; omega)) <;> (first | refine TR_pv0 PV_move rfl ?_ | refine TR_skip0 rfl ?_))); all_goals (first | refine TR_pv0 (PV_lss rfl rfl) rfl ?_ | refine TR_skip0 rfl ?_ | (refine TR_gsplit rfl rfl rfl (fun hq => ?_) (fun hq => ?_) <;> (try simp only [qs] at hq) <;> (try simp only [reduceCtorEq] at hq) <;> (try (exfalso; omega)) <;> (first | refine TR_pv0 (PV_lss rfl rfl) rfl ?_ | refine TR_skip0 rfl ?_))); all_goals (first | refine TR_pv0 (PV_pick_t rfl) rfl ?_ | refine TR_pv0 (PV_pick_f rfl) rfl ?_); all_goals refine TR_pv0 PV_move rfl ?_; all_goals (first | refine TR_pv0 PV_move rfl ?_ | refine TR_skip0 rfl ?_ | (refine TR_gsplit rfl rfl rfl (fun hq => ?_) (fun hq => ?_) <;> (try simp only [qs] at hq) <;> (try simp only [reduceCtorEq] at hq) <;> (try (exfalso; omega)) <;> (first | refine TR_pv0 PV_move rfl ?_ | refine TR_skip0 rfl ?_))); all_goals (first | refine TR_pv0 (PV_gtr rfl rfl) rfl ?_ | refine TR_skip0 rfl ?_ | (refine TR_gsplit rfl rfl rfl (fun hq => ?_) (fun hq => ?_) <;> (try simp only [qs] at hq) <;> (try simp only [reduceCtorEq] at hq) <;> (try (exfalso; omega)) <;> (first | refine TR_pv0 (PV_gtr rfl rfl) rfl ?_ | refine TR_skip0 rfl ?_))); all_goals (first | refine TR_pv0 (PV_pick_t rfl) rfl ?_ | refine TR_pv0 (PV_pick_f rfl) rfl ?_); all_goals refine TR_nil ?_)
    | (refine TC_plain (id := 2) (by kernel_rfl) ?_; refine TR_pv0 PV_assign rfl ?_; refine TR_pv0 PV_assign rfl ?_; refine TR_nil ?_)
    | (refine TC_plain (id := 3) (by kernel_rfl) ?_; refine TR_pv0 PV_move rfl ?_; refine TR_pv0 PV_move rfl ?_; refine TR_pv0 PV_move rfl ?_; refine TR_pv0 (PV_build rfl rfl) rfl ?_; (refine TR_box0 rfl rfl rfl ?_; intro _); refine TR_pv0 PV_assign rfl ?_; refine TR_pv0 PV_assign rfl ?_; refine TR_nil ?_)
    | refine TC_cond_t rfl rfl ?_
    | refine TC_cond_f rfl rfl ?_
    | refine TC_skip ?_
    | refine TC_ret ?_
    | refine TC_exit ?_
    | refine TC_block ?_
    | refine TQ_then_ret ?_
    | refine TQ_then_exit ?_
    | refine TQ_blk ?_
    | refine TQ_blk_ret ?_
    | refine TQ_blk_here ?_
    | refine TQ_blk_past rfl ?_
    | refine TC_label ?_
    | (refine TC_cond rfl rfl (fun hq => ?_) (fun hq => ?_) <;> (try simp only [qs] at hq) <;> (try simp only [reduceCtorEq] at hq) <;> (try (exfalso; omega)))
  all_goals exact TQ_ret2 rfl rfl rfl rfl rfl ⟨rfl, rfl⟩ .nil
theorem rroBack_ct (b : Nat) (r : Ro) (h : RoOk r) : Cd Try.prog 76 [ptr b] [rroAt b r] (.tuple #[]) [rroAt b r.back] := by
  obtain ⟨l0, l1, l2, v0, v1, s0, s1, y0, y1⟩ := h
  refine Ct_intro Try.func76 rfl (by simp only [Try.ntmps76, List.length_cons, List.length_nil]; omega) ?_
  intro w₀ R
  repeat' first
    | refine TC_seq ?_
    | refine TQ_then ?_
    | refine TR_nil ?_
    | refine TQ_noPanic ?_
    | (refine TC_plain (id := 0) (by kernel_rfl) ?_; refine TR_pv0 PV_move rfl ?_; (first | refine TR_pv0 (PV_pne_nil rfl rfl) rfl ?_ | refine TR_pv0 (PV_pne rfl rfl) rfl ?_); refine TR_nil ?_)
    | (refine TC_drawn' (id := 1) [(0, 1), (1, 1), (2, 1), (3, 1), (4, 1), (5, 1), (6, 1), (7, 1), (8, 1), (9, 1), (10, 1), (11, 1), (12, 1), (13, 0)] mixed (by kernel_rfl) ?_; refine TR_pv1 PV_move rfl (fun _ h => h) ?_; refine TR_pv1 PV_move rfl (fun _ h => h) ?_; (first | refine TR_pv1 (PV_nil rfl) rfl (fun _ h => h) ?_ | refine TR_pv1 (PV_nilF rfl) rfl (fun _ h => h) ?_ | refine TR_pv1 (PV_nilY rfl) rfl (fun _ h => h) ?_); refine TR_pv1 (PV_fieldAddr rfl) rfl (fun _ h => h) ?_; (first | refine TR_load1 rfl 0 rfl rfl rfl (fun _ h => h) ?_ | refine TR_load1 rfl 1 rfl rfl rfl (fun _ h => h) ?_ | refine TR_load1 rfl 2 rfl rfl rfl (fun _ h => h) ?_ | refine TR_load1 rfl 3 rfl rfl rfl (fun _ h => h) ?_); (first | refine TR_pv1 (PV_mul64 rfl rfl (by omega)) rfl (fun _ h => h) ?_ | refine TR_pv1 (PV_mul64w rfl rfl) rfl (fun _ h => h) ?_); refine TR_pv1 PV_move rfl (fun _ h => h) ?_; (first | refine TR_pv1 (PV_nil rfl) rfl (fun _ h => h) ?_ | refine TR_pv1 (PV_nilF rfl) rfl (fun _ h => h) ?_ | refine TR_pv1 (PV_nilY rfl) rfl (fun _ h => h) ?_); refine TR_pv1 (PV_fieldAddr rfl) rfl (fun _ h => h) ?_; (first | refine TR_load1 rfl 0 rfl rfl rfl (fun _ h => h) ?_ | refine TR_load1 rfl 1 rfl rfl rfl (fun _ h => h) ?_ | refine TR_load1 rfl 2 rfl rfl rfl (fun _ h => h) ?_ | refine TR_load1 rfl 3 rfl rfl rfl (fun _ h => h) ?_); refine TR_pv1 (PV_min rfl rfl) rfl (fun _ h => h) ?_; (first | refine TR_pv1 (PV_nil rfl) rfl (fun _ h => h) ?_ | refine TR_pv1 (PV_nilF rfl) rfl (fun _ h => h) ?_ | refine TR_pv1 (PV_nilY rfl) rfl (fun _ h => h) ?_); refine TR_pv1 (PV_fieldAddr rfl) rfl (fun _ h => h) ?_; (first | refine TR_store0_0 rfl rfl rfl rfl rfl rfl ?_ | refine TR_store0_1 rfl rfl rfl rfl rfl rfl ?_ | refine TR_store0_2 rfl rfl rfl rfl rfl rfl ?_ | refine TR_store0_3 rfl rfl rfl rfl rfl rfl ?_); refine TR_nil ?_)
    | refine TC_cond_t rfl rfl ?_
    | refine TC_cond_f rfl rfl ?_
    | refine TC_skip ?_
    | refine TC_ret ?_
    | refine TC_exit ?_
    | refine TC_block ?_
    | refine TQ_then_ret ?_
    | refine TQ_then_exit ?_
    | refine TQ_blk ?_
    | refine TQ_blk_ret ?_
    | refine TQ_blk_here ?_
    | refine TQ_blk_past rfl ?_
    | refine TC_label ?_
    | (refine TC_cond rfl rfl (fun hq => ?_) (fun hq => ?_) <;> (try simp only [qs] at hq) <;> (try simp only [reduceCtorEq] at hq) <;> (try (exfalso; omega)))
  exact TQ_end0 rfl ⟨rfl, rfl⟩ (.cons .here .nil)
theorem rroValue_ct (b : Nat) (r : Ro) : Cd Try.prog 73 [ptr b] [rroAt b r] (i64 r.value) [rroAt b r] := by
  refine Ct_intro Try.func73 rfl (by simp only [Try.ntmps73, List.length_cons, List.length_nil]; omega) ?_
  intro w₀ R
  repeat' first
    | refine TC_seq ?_
    | refine TQ_then ?_
    | refine TR_nil ?_
    | refine TQ_noPanic ?_
    | (refine TC_plain (id := 0) (by kernel_rfl) ?_; refine TR_pv0 PV_assign rfl ?_; refine TR_nil ?_)
    | (refine TC_plain (id := 1) (by kernel_rfl) ?_; refine TR_pv0 PV_move rfl ?_; (first | refine TR_pv0 (PV_peq_nil rfl rfl) rfl ?_ | refine TR_pv0 (PV_peq rfl rfl) rfl ?_); refine TR_nil ?_)
    | (refine TC_plain (id := 2) (by kernel_rfl) ?_; refine TR_pv0 PV_assign rfl ?_; refine TR_nil ?_)
    | (refine TC_plain (id := 3) (by kernel_rfl) ?_; refine TR_pv0 PV_move rfl ?_; (first | refine TR_pv0 (PV_nil rfl) rfl ?_ | refine TR_pv0 (PV_nilF rfl) rfl ?_ | refine TR_pv0 (PV_nilY rfl) rfl ?_); refine TR_pv0 (PV_fieldAddr rfl) rfl ?_; (first | refine TR_load0 rfl 0 rfl rfl rfl ?_ | refine TR_load0 rfl 1 rfl rfl rfl ?_ | refine TR_load0 rfl 2 rfl rfl rfl ?_ | refine TR_load0 rfl 3 rfl rfl rfl ?_); refine TR_pv0 PV_assign rfl ?_; refine TR_nil ?_)
    | refine TC_cond_t rfl rfl ?_
    | refine TC_cond_f rfl rfl ?_
    | refine TC_skip ?_
    | refine TC_ret ?_
    | refine TC_exit ?_
    | refine TC_block ?_
    | refine TQ_then_ret ?_
    | refine TQ_then_exit ?_
    | refine TQ_blk ?_
    | refine TQ_blk_ret ?_
    | refine TQ_blk_here ?_
    | refine TQ_blk_past rfl ?_
    | refine TC_label ?_
    | (refine TC_cond rfl rfl (fun hq => ?_) (fun hq => ?_) <;> (try simp only [qs] at hq) <;> (try simp only [reduceCtorEq] at hq) <;> (try (exfalso; omega)))
  exact TQ_ret1 rfl rfl rfl ⟨rfl, rfl⟩ (.cons .here .nil)

theorem rro_step {b : Nat} {l m S V S' V' : Int} (hs : S = S') (hv : V = V') :
    [blk b 95 [i64 (min (max (S / 8 + max 1 V) l) m), i64 l, i64 m, .bool true, i64 S, i64 V]] = [rroAt b ⟨min (max (S' / 8 + max 1 V') l) m, l, m, true, S', V'⟩] := by
  subst hs hv; rfl
theorem rroSample_ct (b : Nat) (r : Ro) (h : RoOk r) (t : Int) (ht : t ≤ 9223372036854775807) :
    Cd Try.prog 74 [ptr b, i64 t] [rroAt b r] (i64 (if t < 0 then 1 else 0)) [rroAt b (r.sample t)] := by
  obtain ⟨l0, l1, l2, v0, v1, s0, s1, y0, y1⟩ := h
  obtain ⟨v, l, m, any, s, y⟩ := r
  dsimp only at l0 l1 l2 v0 v1 s0 s1 y0 y1
  show Cd Try.prog 74 [ptr b, i64 t] [blk b 95 [i64 v, i64 l, i64 m, .bool any, i64 s, i64 y]] (i64 (if t < 0 then 1 else 0)) [rroAt b (Ro.sample ⟨v, l, m, any, s, y⟩ t)]
  by_cases hneg : t < 0
  · refine Ct_intro Try.func74 rfl (by simp only [Try.ntmps74, List.length_cons, List.length_nil]; omega) ?_
    intro w₀ R
    repeat' first
      | refine TC_seq ?_
      | refine TQ_then ?_
      | refine TR_nil ?_
      | refine TQ_noPanic ?_
      | (refine TC_plain (id := 0) (by kernel_rfl) ?_; refine TR_pv0 PV_assign rfl ?_; refine TR_nil ?_)
      | (refine TC_plain (id := 1) (by kernel_rfl) ?_; refine TR_pv0 PV_move rfl ?_; (first | refine TR_pv0 (PV_peq_nil rfl rfl) rfl ?_ | refine TR_pv0 (PV_peq rfl rfl) rfl ?_); refine TR_nil ?_)
      | (refine TC_plain (id := 2) (by kernel_rfl) ?_; refine TR_pv0 PV_assign rfl ?_; refine TR_nil ?_)
      | (refine TC_plain (id := 3) (by kernel_rfl) ?_; refine TR_pv0 PV_move rfl ?_; refine TR_pv0 (PV_lss rfl rfl) rfl ?_; refine TR_nil ?_)
      | (refine TC_plain (id := 4) (by kernel_rfl) ?_; refine TR_pv0 PV_assign rfl ?_; refine TR_nil ?_)
      | (refine TC_plain (id := 5) (by kernel_rfl) ?_; refine TR_pv0 PV_move rfl ?_; refine TR_pv0 (PV_min rfl rfl) rfl ?_; refine TR_pv0 PV_assign rfl ?_; refine TR_nil ?_)
      | (refine TC_plain (id := 6) (by kernel_rfl) ?_; refine TR_pv0 PV_move rfl ?_; (first | refine TR_pv0 (PV_nil rfl) rfl ?_ | refine TR_pv0 (PV_nilF rfl) rfl ?_ | refine TR_pv0 (PV_nilY rfl) rfl ?_); refine TR_pv0 (PV_fieldAddr rfl) rfl ?_; (first | refine TR_load0 rfl 0 rfl rfl rfl ?_ | refine TR_load0 rfl 1 rfl rfl rfl ?_ | refine TR_load0 rfl 2 rfl rfl rfl ?_ | refine TR_load0 rfl 3 rfl rfl rfl ?_); refine TR_pv0 (PV_not rfl) rfl ?_; refine TR_nil ?_)
      | (refine TC_plain (id := 7) (by kernel_rfl) ?_; refine TR_pv0 PV_move rfl ?_; (first | refine TR_pv0 (PV_nil rfl) rfl ?_ | refine TR_pv0 (PV_nilF rfl) rfl ?_ | refine TR_pv0 (PV_nilY rfl) rfl ?_); refine TR_pv0 (PV_fieldAddr rfl) rfl ?_; (first | refine TR_store0_0 rfl rfl rfl rfl rfl rfl ?_ | refine TR_store0_1 rfl rfl rfl rfl rfl rfl ?_ | refine TR_store0_2 rfl rfl rfl rfl rfl rfl ?_ | refine TR_store0_3 rfl rfl rfl rfl rfl rfl ?_); refine TR_nil ?_)
      | (refine TC_plain (id := 8) (by kernel_rfl) ?_; refine TR_pv0 PV_move rfl ?_; refine TR_pv0 PV_move rfl ?_; (first | refine TR_pv0 (PV_mul64 rfl rfl (by omega)) rfl ?_ | refine TR_pv0 (PV_mul64w rfl rfl) rfl ?_); (first | refine TR_pv0 (PV_nil rfl) rfl ?_ | refine TR_pv0 (PV_nilF rfl) rfl ?_ | refine TR_pv0 (PV_nilY rfl) rfl ?_); refine TR_pv0 (PV_fieldAddr rfl) rfl ?_; (first | refine TR_store0_0 rfl rfl rfl rfl rfl rfl ?_ | refine TR_store0_1 rfl rfl rfl rfl rfl rfl ?_ | refine TR_store0_2 rfl rfl rfl rfl rfl rfl ?_ | refine TR_store0_3 rfl rfl rfl rfl rfl rfl ?_); refine TR_nil ?_)
      | (refine TC_plain (id := 9) (by kernel_rfl) ?_; refine TR_pv0 PV_move rfl ?_; refine TR_pv0 PV_move rfl ?_; (first | refine TR_pv0 (PV_mul64 rfl rfl (by omega)) rfl ?_ | refine TR_pv0 (PV_mul64w rfl rfl) rfl ?_); (first | refine TR_pv0 (PV_nil rfl) rfl ?_ | refine TR_pv0 (PV_nilF rfl) rfl ?_ | refine TR_pv0 (PV_nilY rfl) rfl ?_); refine TR_pv0 (PV_fieldAddr rfl) rfl ?_; (first | refine TR_store0_0 rfl rfl rfl rfl rfl rfl ?_ | refine TR_store0_1 rfl rfl rfl rfl rfl rfl ?_ | refine TR_store0_2 rfl rfl rfl rfl rfl rfl ?_ | refine TR_store0_3 rfl rfl rfl rfl rfl rfl ?_); refine TR_nil ?_)
      | (refine TC_plain (id := 10) (by kernel_rfl) ?_; refine TR_pv0 PV_move rfl ?_; (first | refine TR_pv0 (PV_nil rfl) rfl ?_ | refine TR_pv0 (PV_nilF rfl) rfl ?_ | refine TR_pv0 (PV_nilY rfl) rfl ?_); refine TR_pv0 (PV_fieldAddr rfl) rfl ?_; (first | refine TR_load0 rfl 0 rfl rfl rfl ?_ | refine TR_load0 rfl 1 rfl rfl rfl ?_ | refine TR_load0 rfl 2 rfl rfl rfl ?_ | refine TR_load0 rfl 3 rfl rfl rfl ?_); refine TR_pv0 (PV_quo64 rfl rfl (by omega)) rfl ?_; refine TR_pv0 PV_move rfl ?_; (first | refine TR_pv0 (PV_sub64 rfl rfl (by omega)) rfl ?_ | refine TR_pv0 (PV_sub64w rfl rfl) rfl ?_); refine TR_pv0 PV_assign rfl ?_; refine TR_nil ?_)
      | (refine TC_plain (id := 11) (by kernel_rfl) ?_; refine TR_pv0 PV_move rfl ?_; refine TR_pv0 (PV_lss rfl rfl) rfl ?_; refine TR_nil ?_)
      | (refine TC_plain (id := 12) (by kernel_rfl) ?_; refine TR_pv0 PV_move rfl ?_; refine TR_pv0 (PV_neg64 rfl (by omega)) rfl ?_; refine TR_pv0 PV_assign rfl ?_; refine TR_nil ?_)
      | (refine TC_drawn' (id := 13) [(0, 1), (1, 1), (2, 1), (3, 1), (4, 1), (5, 1), (6, 1), (7, 1), (8, 1), (9, 1), (10, 1), (11, 1), (12, 1), (13, 1), (14, 1), (15, 0)] mixed (by kernel_rfl) ?_; refine TR_pv1 PV_move rfl (fun _ h => h) ?_; refine TR_pv1 PV_move rfl (fun _ h => h) ?_; (first | refine TR_pv1 (PV_nil rfl) rfl (fun _ h => h) ?_ | refine TR_pv1 (PV_nilF rfl) rfl (fun _ h => h) ?_ | refine TR_pv1 (PV_nilY rfl) rfl (fun _ h => h) ?_); refine TR_pv1 (PV_fieldAddr rfl) rfl (fun _ h => h) ?_; (first | refine TR_load1 rfl 0 rfl rfl rfl (fun _ h => h) ?_ | refine TR_load1 rfl 1 rfl rfl rfl (fun _ h => h) ?_ | refine TR_load1 rfl 2 rfl rfl rfl (fun _ h => h) ?_ | refine TR_load1 rfl 3 rfl rfl rfl (fun _ h => h) ?_); refine TR_pv1 PV_move rfl (fun _ h => h) ?_; (first | refine TR_pv1 (PV_nil rfl) rfl (fun _ h => h) ?_ | refine TR_pv1 (PV_nilF rfl) rfl (fun _ h => h) ?_ | refine TR_pv1 (PV_nilY rfl) rfl (fun _ h => h) ?_); refine TR_pv1 (PV_fieldAddr rfl) rfl (fun _ h => h) ?_; (first | refine TR_load1 rfl 0 rfl rfl rfl (fun _ h => h) ?_ | refine TR_load1 rfl 1 rfl rfl rfl (fun _ h => h) ?_ | refine TR_load1 rfl 2 rfl rfl rfl (fun _ h => h) ?_ | refine TR_load1 rfl 3 rfl rfl rfl (fun _ h => h) ?_); refine TR_pv1 (PV_quo64 rfl rfl (by omega)) rfl (fun _ h => h) ?_; (first | refine TR_pv1 (PV_sub64 rfl rfl (by omega)) rfl (fun _ h => h) ?_ | refine TR_pv1 (PV_sub64w rfl rfl) rfl (fun _ h => h) ?_); refine TR_pv1 PV_move rfl (fun _ h => h) ?_; (first | refine TR_pv1 (PV_add64 rfl rfl (by omega)) rfl (fun _ h => h) ?_ | refine TR_pv1 (PV_add64w rfl rfl) rfl (fun _ h => h) ?_); (first | refine TR_pv1 (PV_nil rfl) rfl (fun _ h => h) ?_ | refine TR_pv1 (PV_nilF rfl) rfl (fun _ h => h) ?_ | refine TR_pv1 (PV_nilY rfl) rfl (fun _ h => h) ?_); refine TR_pv1 (PV_fieldAddr rfl) rfl (fun _ h => h) ?_; (first | refine TR_store0_0 rfl rfl rfl rfl rfl rfl ?_ | refine TR_store0_1 rfl rfl rfl rfl rfl rfl ?_ | refine TR_store0_2 rfl rfl rfl rfl rfl rfl ?_ | refine TR_store0_3 rfl rfl rfl rfl rfl rfl ?_); refine TR_nil ?_)
      | (refine TC_drawn' (id := 14) [(0, 1), (1, 1), (2, 1), (3, 1), (4, 1), (5, 1), (6, 1), (7, 1), (8, 1), (9, 1), (10, 1), (11, 1), (12, 1), (13, 1), (14, 1), (15, 0)] mixed (by kernel_rfl) ?_; refine TR_pv1 PV_move rfl (fun _ h => h) ?_; refine TR_pv1 PV_move rfl (fun _ h => h) ?_; (first | refine TR_pv1 (PV_nil rfl) rfl (fun _ h => h) ?_ | refine TR_pv1 (PV_nilF rfl) rfl (fun _ h => h) ?_ | refine TR_pv1 (PV_nilY rfl) rfl (fun _ h => h) ?_); refine TR_pv1 (PV_fieldAddr rfl) rfl (fun _ h => h) ?_; (first | refine TR_load1 rfl 0 rfl rfl rfl (fun _ h => h) ?_ | refine TR_load1 rfl 1 rfl rfl rfl (fun _ h => h) ?_ | refine TR_load1 rfl 2 rfl rfl rfl (fun _ h => h) ?_ | refine TR_load1 rfl 3 rfl rfl rfl (fun _ h => h) ?_); refine TR_pv1 PV_move rfl (fun _ h => h) ?_; (first | refine TR_pv1 (PV_nil rfl) rfl (fun _ h => h) ?_ | refine TR_pv1 (PV_nilF rfl) rfl (fun _ h => h) ?_ | refine TR_pv1 (PV_nilY rfl) rfl (fun _ h => h) ?_); refine TR_pv1 (PV_fieldAddr rfl) rfl (fun _ h => h) ?_; (first | refine TR_load1 rfl 0 rfl rfl rfl (fun _ h => h) ?_ | refine TR_load1 rfl 1 rfl rfl rfl (fun _ h => h) ?_ | refine TR_load1 rfl 2 rfl rfl rfl (fun _ h => h) ?_ | refine TR_load1 rfl 3 rfl rfl rfl (fun _ h => h) ?_); refine TR_pv1 (PV_quo64 rfl rfl (by omega)) rfl (fun _ h => h) ?_; (first | refine TR_pv1 (PV_sub64 rfl rfl (by omega)) rfl (fun _ h => h) ?_ | refine TR_pv1 (PV_sub64w rfl rfl) rfl (fun _ h => h) ?_); refine TR_pv1 PV_move rfl (fun _ h => h) ?_; (first | refine TR_pv1 (PV_add64 rfl rfl (by omega)) rfl (fun _ h => h) ?_ | refine TR_pv1 (PV_add64w rfl rfl) rfl (fun _ h => h) ?_); (first | refine TR_pv1 (PV_nil rfl) rfl (fun _ h => h) ?_ | refine TR_pv1 (PV_nilF rfl) rfl (fun _ h => h) ?_ | refine TR_pv1 (PV_nilY rfl) rfl (fun _ h => h) ?_); refine TR_pv1 (PV_fieldAddr rfl) rfl (fun _ h => h) ?_; (first | refine TR_store0_0 rfl rfl rfl rfl rfl rfl ?_ | refine TR_store0_1 rfl rfl rfl rfl rfl rfl ?_ | refine TR_store0_2 rfl rfl rfl rfl rfl rfl ?_ | refine TR_store0_3 rfl rfl rfl rfl rfl rfl ?_); refine TR_nil ?_)
      | (refine TC_drawn' (id := 15) [(0, 1), (1, 1), (2, 1), (3, 1), (4, 1), (5, 1), (6, 1), (7, 1), (8, 1), (9, 1), (10, 1), (11, 1), (12, 1), (13, 1), (14, 0)] mixed (by kernel_rfl) ?_; refine TR_pv1 PV_move rfl (fun _ h => h) ?_; refine TR_pv1 PV_move rfl (fun _ h => h) ?_; (first | refine TR_pv1 (PV_nil rfl) rfl (fun _ h => h) ?_ | refine TR_pv1 (PV_nilF rfl) rfl (fun _ h => h) ?_ | refine TR_pv1 (PV_nilY rfl) rfl (fun _ h => h) ?_); refine TR_pv1 (PV_fieldAddr rfl) rfl (fun _ h => h) ?_; (first | refine TR_load1 rfl 0 rfl rfl rfl (fun _ h => h) ?_ | refine TR_load1 rfl 1 rfl rfl rfl (fun _ h => h) ?_ | refine TR_load1 rfl 2 rfl rfl rfl (fun _ h => h) ?_ | refine TR_load1 rfl 3 rfl rfl rfl (fun _ h => h) ?_); refine TR_pv1 (PV_quo64 rfl rfl (by omega)) rfl (fun _ h => h) ?_; refine TR_pv1 PV_move rfl (fun _ h => h) ?_; (first | refine TR_pv1 (PV_nil rfl) rfl (fun _ h => h) ?_ | refine TR_pv1 (PV_nilF rfl) rfl (fun _ h => h) ?_ | refine TR_pv1 (PV_nilY rfl) rfl (fun _ h => h) ?_); refine TR_pv1 (PV_fieldAddr rfl) rfl (fun _ h => h) ?_; (first | refine TR_load1 rfl 0 rfl rfl rfl (fun _ h => h) ?_ | refine TR_load1 rfl 1 rfl rfl rfl (fun _ h => h) ?_ | refine TR_load1 rfl 2 rfl rfl rfl (fun _ h => h) ?_ | refine TR_load1 rfl 3 rfl rfl rfl (fun _ h => h) ?_); refine TR_pv1 (PV_max rfl rfl) rfl (fun _ h => h) ?_; (first | refine TR_pv1 (PV_add64 rfl rfl (by omega)) rfl (fun _ h => h) ?_ | refine TR_pv1 (PV_add64w rfl rfl) rfl (fun _ h => h) ?_); (first | refine TR_pv1 (PV_nil rfl) rfl (fun _ h => h) ?_ | refine TR_pv1 (PV_nilF rfl) rfl (fun _ h => h) ?_ | refine TR_pv1 (PV_nilY rfl) rfl (fun _ h => h) ?_); refine TR_pv1 (PV_fieldAddr rfl) rfl (fun _ h => h) ?_; (first | refine TR_store0_0 rfl rfl rfl rfl rfl rfl ?_ | refine TR_store0_1 rfl rfl rfl rfl rfl rfl ?_ | refine TR_store0_2 rfl rfl rfl rfl rfl rfl ?_ | refine TR_store0_3 rfl rfl rfl rfl rfl rfl ?_); refine TR_nil ?_)
      | (refine TC_drawn' (id := 16) [(0, 1), (1, 1), (2, 1), (3, 1), (4, 1), (5, 1), (6, 1), (7, 1), (8, 1), (9, 1), (10, 1), (11, 1), (12, 1), (13, 1), (14, 1), (15, 1), (16, 1), (17, 0)] mixed (by kernel_rfl) ?_; refine TR_pv1 PV_move rfl (fun _ h => h) ?_; refine TR_pv1 PV_move rfl (fun _ h => h) ?_; (first | refine TR_pv1 (PV_nil rfl) rfl (fun _ h => h) ?_ | refine TR_pv1 (PV_nilF rfl) rfl (fun _ h => h) ?_ | refine TR_pv1 (PV_nilY rfl) rfl (fun _ h => h) ?_); refine TR_pv1 (PV_fieldAddr rfl) rfl (fun _ h => h) ?_; (first | refine TR_load1 rfl 0 rfl rfl rfl (fun _ h => h) ?_ | refine TR_load1 rfl 1 rfl rfl rfl (fun _ h => h) ?_ | refine TR_load1 rfl 2 rfl rfl rfl (fun _ h => h) ?_ | refine TR_load1 rfl 3 rfl rfl rfl (fun _ h => h) ?_); refine TR_pv1 PV_move rfl (fun _ h => h) ?_; (first | refine TR_pv1 (PV_nil rfl) rfl (fun _ h => h) ?_ | refine TR_pv1 (PV_nilF rfl) rfl (fun _ h => h) ?_ | refine TR_pv1 (PV_nilY rfl) rfl (fun _ h => h) ?_); refine TR_pv1 (PV_fieldAddr rfl) rfl (fun _ h => h) ?_; (first | refine TR_load1 rfl 0 rfl rfl rfl (fun _ h => h) ?_ | refine TR_load1 rfl 1 rfl rfl rfl (fun _ h => h) ?_ | refine TR_load1 rfl 2 rfl rfl rfl (fun _ h => h) ?_ | refine TR_load1 rfl 3 rfl rfl rfl (fun _ h => h) ?_); refine TR_pv1 (PV_max rfl rfl) rfl (fun _ h => h) ?_; refine TR_pv1 PV_move rfl (fun _ h => h) ?_; (first | refine TR_pv1 (PV_nil rfl) rfl (fun _ h => h) ?_ | refine TR_pv1 (PV_nilF rfl) rfl (fun _ h => h) ?_ | refine TR_pv1 (PV_nilY rfl) rfl (fun _ h => h) ?_); refine TR_pv1 (PV_fieldAddr rfl) rfl (fun _ h => h) ?_; (first | refine TR_load1 rfl 0 rfl rfl rfl (fun _ h => h) ?_ | refine TR_load1 rfl 1 rfl rfl rfl (fun _ h => h) ?_ | refine TR_load1 rfl 2 rfl rfl rfl (fun _ h => h) ?_ | refine TR_load1 rfl 3 rfl rfl rfl (fun _ h => h) ?_); refine TR_pv1 (PV_min rfl rfl) rfl (fun _ h => h) ?_; (first | refine TR_pv1 (PV_nil rfl) rfl (fun _ h => h) ?_ | refine TR_pv1 (PV_nilF rfl) rfl (fun _ h => h) ?_ | refine TR_pv1 (PV_nilY rfl) rfl (fun _ h => h) ?_); refine TR_pv1 (PV_fieldAddr rfl) rfl (fun _ h => h) ?_; (first | refine TR_store0_0 rfl rfl rfl rfl rfl rfl ?_ | refine TR_store0_1 rfl rfl rfl rfl rfl rfl ?_ | refine TR_store0_2 rfl rfl rfl rfl rfl rfl ?_ | refine TR_store0_3 rfl rfl rfl rfl rfl rfl ?_); refine TR_nil ?_)
      | (refine TC_plain (id := 17) (by kernel_rfl) ?_; refine TR_pv0 PV_assign rfl ?_; refine TR_nil ?_)
      | refine TC_cond_t rfl rfl ?_
      | refine TC_cond_f rfl rfl ?_
      | refine TC_skip ?_
      | refine TC_ret ?_
      | refine TC_exit ?_
      | refine TC_block ?_
      | refine TQ_then_ret ?_
      | refine TQ_then_exit ?_
      | refine TQ_blk ?_
      | refine TQ_blk_ret ?_
      | refine TQ_blk_here ?_
      | refine TQ_blk_past rfl ?_
      | refine TC_label ?_
      | (refine TC_cond rfl rfl (fun hq => ?_) (fun hq => ?_) <;> (try simp only [qs] at hq) <;> (try simp only [reduceCtorEq] at hq) <;> (try (exfalso; omega)))
    have e : (⟨v, l, m, any, s, y⟩ : Ro) = Ro.sample ⟨v, l, m, any, s, y⟩ t := by rw [Ro.sample, if_pos hneg]
    have e3 : i64 1 = i64 (if t < 0 then 1 else 0) := by rw [if_pos hneg]
    exact TQ_ret1 rfl rfl rfl ⟨e3, congrArg (fun X => [rroAt b X]) e⟩ (.cons .here .nil)
  · have e0 := sample_none (v := v) (l := l) (m := m) (s := s) (y := y) (t := t) (by omega)
    have e1 := sample_any (v := v) (l := l) (m := m) (s := s) (y := y) (t := t) (by omega)
    have e2 : i64 0 = i64 (if t < 0 then 1 else 0) := by rw [if_neg hneg]
    cases any
    · refine Ct_intro Try.func74 rfl (by simp only [Try.ntmps74, List.length_cons, List.length_nil]; omega) ?_
      intro w₀ R
      repeat' first
        | refine TC_seq ?_
        | refine TQ_then ?_
        | refine TR_nil ?_
        | refine TQ_noPanic ?_
        | (refine TC_plain (id := 0) (by kernel_rfl) ?_; refine TR_pv0 PV_assign rfl ?_; refine TR_nil ?_)
        | (refine TC_plain (id := 1) (by kernel_rfl) ?_; refine TR_pv0 PV_move rfl ?_; (first | refine TR_pv0 (PV_peq_nil rfl rfl) rfl ?_ | refine TR_pv0 (PV_peq rfl rfl) rfl ?_); refine TR_nil ?_)
        | (refine TC_plain (id := 2) (by kernel_rfl) ?_; refine TR_pv0 PV_assign rfl ?_; refine TR_nil ?_)
        | (refine TC_plain (id := 3) (by kernel_rfl) ?_; refine TR_pv0 PV_move rfl ?_; refine TR_pv0 (PV_lss rfl rfl) rfl ?_; refine TR_nil ?_)
        | (refine TC_plain (id := 4) (by kernel_rfl) ?_; refine TR_pv0 PV_assign rfl ?_; refine TR_nil ?_)
        | (refine TC_plain (id := 5) (by kernel_rfl) ?_; refine TR_pv0 PV_move rfl ?_; refine TR_pv0 (PV_min rfl rfl) rfl ?_; refine TR_pv0 PV_assign rfl ?_; refine TR_nil ?_)
        | (refine TC_plain (id := 6) (by kernel_rfl) ?_; refine TR_pv0 PV_move rfl ?_; (first | refine TR_pv0 (PV_nil rfl) rfl ?_ | refine TR_pv0 (PV_nilF rfl) rfl ?_ | refine TR_pv0 (PV_nilY rfl) rfl ?_); refine TR_pv0 (PV_fieldAddr rfl) rfl ?_; (first | refine TR_load0 rfl 0 rfl rfl rfl ?_ | refine TR_load0 rfl 1 rfl rfl rfl ?_ | refine TR_load0 rfl 2 rfl rfl rfl ?_ | refine TR_load0 rfl 3 rfl rfl rfl ?_); refine TR_pv0 (PV_not rfl) rfl ?_; refine TR_nil ?_)
        | (refine TC_plain (id := 7) (by kernel_rfl) ?_; refine TR_pv0 PV_move rfl ?_; (first | refine TR_pv0 (PV_nil rfl) rfl ?_ | refine TR_pv0 (PV_nilF rfl) rfl ?_ | refine TR_pv0 (PV_nilY rfl) rfl ?_); refine TR_pv0 (PV_fieldAddr rfl) rfl ?_; (first | refine TR_store0_0 rfl rfl rfl rfl rfl rfl ?_ | refine TR_store0_1 rfl rfl rfl rfl rfl rfl ?_ | refine TR_store0_2 rfl rfl rfl rfl rfl rfl ?_ | refine TR_store0_3 rfl rfl rfl rfl rfl rfl ?_); refine TR_nil ?_)
        | (refine TC_plain (id := 8) (by kernel_rfl) ?_; refine TR_pv0 PV_move rfl ?_; refine TR_pv0 PV_move rfl ?_; (first | refine TR_pv0 (PV_mul64 rfl rfl (by omega)) rfl ?_ | refine TR_pv0 (PV_mul64w rfl rfl) rfl ?_); (first | refine TR_pv0 (PV_nil rfl) rfl ?_ | refine TR_pv0 (PV_nilF rfl) rfl ?_ | refine TR_pv0 (PV_nilY rfl) rfl ?_); refine TR_pv0 (PV_fieldAddr rfl) rfl ?_; (first | refine TR_store0_0 rfl rfl rfl rfl rfl rfl ?_ | refine TR_store0_1 rfl rfl rfl rfl rfl rfl ?_ | refine TR_store0_2 rfl rfl rfl rfl rfl rfl ?_ | refine TR_store0_3 rfl rfl rfl rfl rfl rfl ?_); refine TR_nil ?_)
        | (refine TC_plain (id := 9) (by kernel_rfl) ?_; refine TR_pv0 PV_move rfl ?_; refine TR_pv0 PV_move rfl ?_; (first | refine TR_pv0 (PV_mul64 rfl rfl (by omega)) rfl ?_ | refine TR_pv0 (PV_mul64w rfl rfl) rfl ?_); (first | refine TR_pv0 (PV_nil rfl) rfl ?_ | refine TR_pv0 (PV_nilF rfl) rfl ?_ | refine TR_pv0 (PV_nilY rfl) rfl ?_); refine TR_pv0 (PV_fieldAddr rfl) rfl ?_; (first | refine TR_store0_0 rfl rfl rfl rfl rfl rfl ?_ | refine TR_store0_1 rfl rfl rfl rfl rfl rfl ?_ | refine TR_store0_2 rfl rfl rfl rfl rfl rfl ?_ | refine TR_store0_3 rfl rfl rfl rfl rfl rfl ?_); refine TR_nil ?_)
        | (refine TC_plain (id := 10) (by kernel_rfl) ?_; refine TR_pv0 PV_move rfl ?_; (first | refine TR_pv0 (PV_nil rfl) rfl ?_ | refine TR_pv0 (PV_nilF rfl) rfl ?_ | refine TR_pv0 (PV_nilY rfl) rfl ?_); refine TR_pv0 (PV_fieldAddr rfl) rfl ?_; (first | refine TR_load0 rfl 0 rfl rfl rfl ?_ | refine TR_load0 rfl 1 rfl rfl rfl ?_ | refine TR_load0 rfl 2 rfl rfl rfl ?_ | refine TR_load0 rfl 3 rfl rfl rfl ?_); refine TR_pv0 (PV_quo64 rfl rfl (by omega)) rfl ?_; refine TR_pv0 PV_move rfl ?_; (first | refine TR_pv0 (PV_sub64 rfl rfl (by omega)) rfl ?_ | refine TR_pv0 (PV_sub64w rfl rfl) rfl ?_); refine TR_pv0 PV_assign rfl ?_; refine TR_nil ?_)
        | (refine TC_plain (id := 11) (by kernel_rfl) ?_; refine TR_pv0 PV_move rfl ?_; refine TR_pv0 (PV_lss rfl rfl) rfl ?_; refine TR_nil ?_)
        | (refine TC_plain (id := 12) (by kernel_rfl) ?_; refine TR_pv0 PV_move rfl ?_; refine TR_pv0 (PV_neg64 rfl (by omega)) rfl ?_; refine TR_pv0 PV_assign rfl ?_; refine TR_nil ?_)
        | (refine TC_drawn' (id := 13) [(0, 1), (1, 1), (2, 1), (3, 1), (4, 1), (5, 1), (6, 1), (7, 1), (8, 1), (9, 1), (10, 1), (11, 1), (12, 1), (13, 1), (14, 1), (15, 0)] mixed (by kernel_rfl) ?_; refine TR_pv1 PV_move rfl (fun _ h => h) ?_; refine TR_pv1 PV_move rfl (fun _ h => h) ?_; (first | refine TR_pv1 (PV_nil rfl) rfl (fun _ h => h) ?_ | refine TR_pv1 (PV_nilF rfl) rfl (fun _ h => h) ?_ | refine TR_pv1 (PV_nilY rfl) rfl (fun _ h => h) ?_); refine TR_pv1 (PV_fieldAddr rfl) rfl (fun _ h => h) ?_; (first | refine TR_load1 rfl 0 rfl rfl rfl (fun _ h => h) ?_ | refine TR_load1 rfl 1 rfl rfl rfl (fun _ h => h) ?_ | refine TR_load1 rfl 2 rfl rfl rfl (fun _ h => h) ?_ | refine TR_load1 rfl 3 rfl rfl rfl (fun _ h => h) ?_); refine TR_pv1 PV_move rfl (fun _ h => h) ?_; (first | refine TR_pv1 (PV_nil rfl) rfl (fun _ h => h) ?_ | refine TR_pv1 (PV_nilF rfl) rfl (fun _ h => h) ?_ | refine TR_pv1 (PV_nilY rfl) rfl (fun _ h => h) ?_); refine TR_pv1 (PV_fieldAddr rfl) rfl (fun _ h => h) ?_; (first | refine TR_load1 rfl 0 rfl rfl rfl (fun _ h => h) ?_ | refine TR_load1 rfl 1 rfl rfl rfl (fun _ h => h) ?_ | refine TR_load1 rfl 2 rfl rfl rfl (fun _ h => h) ?_ | refine TR_load1 rfl 3 rfl rfl rfl (fun _ h => h) ?_); refine TR_pv1 (PV_quo64 rfl rfl (by omega)) rfl (fun _ h => h) ?_; (first | refine TR_pv1 (PV_sub64 rfl rfl (by omega)) rfl (fun _ h => h) ?_ | refine TR_pv1 (PV_sub64w rfl rfl) rfl (fun _ h => h) ?_); refine TR_pv1 PV_move rfl (fun _ h => h) ?_; (first | refine TR_pv1 (PV_add64 rfl rfl (by omega)) rfl (fun _ h => h) ?_ | refine TR_pv1 (PV_add64w rfl rfl) rfl (fun _ h => h) ?_); (first | refine TR_pv1 (PV_nil rfl) rfl (fun _ h => h) ?_ | refine TR_pv1 (PV_nilF rfl) rfl (fun _ h => h) ?_ | refine TR_pv1 (PV_nilY rfl) rfl (fun _ h => h) ?_); refine TR_pv1 (PV_fieldAddr rfl) rfl (fun _ h => h) ?_; (first | refine TR_store0_0 rfl rfl rfl rfl rfl rfl ?_ | refine TR_store0_1 rfl rfl rfl rfl rfl rfl ?_ | refine TR_store0_2 rfl rfl rfl rfl rfl rfl ?_ | refine TR_store0_3 rfl rfl rfl rfl rfl rfl ?_); refine TR_nil ?_)
        | (refine TC_drawn' (id := 14) [(0, 1), (1, 1), (2, 1), (3, 1), (4, 1), (5, 1), (6, 1), (7, 1), (8, 1), (9, 1), (10, 1), (11, 1), (12, 1), (13, 1), (14, 1), (15, 0)] mixed (by kernel_rfl) ?_; refine TR_pv1 PV_move rfl (fun _ h => h) ?_; refine TR_pv1 PV_move rfl (fun _ h => h) ?_; (first | refine TR_pv1 (PV_nil rfl) rfl (fun _ h => h) ?_ | refine TR_pv1 (PV_nilF rfl) rfl (fun _ h => h) ?_ | refine TR_pv1 (PV_nilY rfl) rfl (fun _ h => h) ?_); refine TR_pv1 (PV_fieldAddr rfl) rfl (fun _ h => h) ?_; (first | refine TR_load1 rfl 0 rfl rfl rfl (fun _ h => h) ?_ | refine TR_load1 rfl 1 rfl rfl rfl (fun _ h => h) ?_ | refine TR_load1 rfl 2 rfl rfl rfl (fun _ h => h) ?_ | refine TR_load1 rfl 3 rfl rfl rfl (fun _ h => h) ?_); refine TR_pv1 PV_move rfl (fun _ h => h) ?_; (first | refine TR_pv1 (PV_nil rfl) rfl (fun _ h => h) ?_ | refine TR_pv1 (PV_nilF rfl) rfl (fun _ h => h) ?_ | refine TR_pv1 (PV_nilY rfl) rfl (fun _ h => h) ?_); refine TR_pv1 (PV_fieldAddr rfl) rfl (fun _ h => h) ?_; (first | refine TR_load1 rfl 0 rfl rfl rfl (fun _ h => h) ?_ | refine TR_load1 rfl 1 rfl rfl rfl (fun _ h => h) ?_ | refine TR_load1 rfl 2 rfl rfl rfl (fun _ h => h) ?_ | refine TR_load1 rfl 3 rfl rfl rfl (fun _ h => h) ?_); refine TR_pv1 (PV_quo64 rfl rfl (by omega)) rfl (fun _ h => h) ?_; (first | refine TR_pv1 (PV_sub64 rfl rfl (by omega)) rfl (fun _ h => h) ?_ | refine TR_pv1 (PV_sub64w rfl rfl) rfl (fun _ h => h) ?_); refine TR_pv1 PV_move rfl (fun _ h => h) ?_; (first | refine TR_pv1 (PV_add64 rfl rfl (by omega)) rfl (fun _ h => h) ?_ | refine TR_pv1 (PV_add64w rfl rfl) rfl (fun _ h => h) ?_); (first | refine TR_pv1 (PV_nil rfl) rfl (fun _ h => h) ?_ | refine TR_pv1 (PV_nilF rfl) rfl (fun _ h => h) ?_ | refine TR_pv1 (PV_nilY rfl) rfl (fun _ h => h) ?_); refine TR_pv1 (PV_fieldAddr rfl) rfl (fun _ h => h) ?_; (first | refine TR_store0_0 rfl rfl rfl rfl rfl rfl ?_ | refine TR_store0_1 rfl rfl rfl rfl rfl rfl ?_ | refine TR_store0_2 rfl rfl rfl rfl rfl rfl ?_ | refine TR_store0_3 rfl rfl rfl rfl rfl rfl ?_); refine TR_nil ?_)
        | (refine TC_drawn' (id := 15) [(0, 1), (1, 1), (2, 1), (3, 1), (4, 1), (5, 1), (6, 1), (7, 1), (8, 1), (9, 1), (10, 1), (11, 1), (12, 1), (13, 1), (14, 0)] mixed (by kernel_rfl) ?_; refine TR_pv1 PV_move rfl (fun _ h => h) ?_; refine TR_pv1 PV_move rfl (fun _ h => h) ?_; (first | refine TR_pv1 (PV_nil rfl) rfl (fun _ h => h) ?_ | refine TR_pv1 (PV_nilF rfl) rfl (fun _ h => h) ?_ | refine TR_pv1 (PV_nilY rfl) rfl (fun _ h => h) ?_); refine TR_pv1 (PV_fieldAddr rfl) rfl (fun _ h => h) ?_; (first | refine TR_load1 rfl 0 rfl rfl rfl (fun _ h => h) ?_ | refine TR_load1 rfl 1 rfl rfl rfl (fun _ h => h) ?_ | refine TR_load1 rfl 2 rfl rfl rfl (fun _ h => h) ?_ | refine TR_load1 rfl 3 rfl rfl rfl (fun _ h => h) ?_); refine TR_pv1 (PV_quo64 rfl rfl (by omega)) rfl (fun _ h => h) ?_; refine TR_pv1 PV_move rfl (fun _ h => h) ?_; (first | refine TR_pv1 (PV_nil rfl) rfl (fun _ h => h) ?_ | refine TR_pv1 (PV_nilF rfl) rfl (fun _ h => h) ?_ | refine TR_pv1 (PV_nilY rfl) rfl (fun _ h => h) ?_); refine TR_pv1 (PV_fieldAddr rfl) rfl (fun _ h => h) ?_; (first | refine TR_load1 rfl 0 rfl rfl rfl (fun _ h => h) ?_ | refine TR_load1 rfl 1 rfl rfl rfl (fun _ h => h) ?_ | refine TR_load1 rfl 2 rfl rfl rfl (fun _ h => h) ?_ | refine TR_load1 rfl 3 rfl rfl rfl (fun _ h => h) ?_); refine TR_pv1 (PV_max rfl rfl) rfl (fun _ h => h) ?_; (first | refine TR_pv1 (PV_add64 rfl rfl (by omega)) rfl (fun _ h => h) ?_ | refine TR_pv1 (PV_add64w rfl rfl) rfl (fun _ h => h) ?_); (first | refine TR_pv1 (PV_nil rfl) rfl (fun _ h => h) ?_ | refine TR_pv1 (PV_nilF rfl) rfl (fun _ h => h) ?_ | refine TR_pv1 (PV_nilY rfl) rfl (fun _ h => h) ?_); refine TR_pv1 (PV_fieldAddr rfl) rfl (fun _ h => h) ?_; (first | refine TR_store0_0 rfl rfl rfl rfl rfl rfl ?_ | refine TR_store0_1 rfl rfl rfl rfl rfl rfl ?_ | refine TR_store0_2 rfl rfl rfl rfl rfl rfl ?_ | refine TR_store0_3 rfl rfl rfl rfl rfl rfl ?_); refine TR_nil ?_)
        | (refine TC_drawn' (id := 16) [(0, 1), (1, 1), (2, 1), (3, 1), (4, 1), (5, 1), (6, 1), (7, 1), (8, 1), (9, 1), (10, 1), (11, 1), (12, 1), (13, 1), (14, 1), (15, 1), (16, 1), (17, 0)] mixed (by kernel_rfl) ?_; refine TR_pv1 PV_move rfl (fun _ h => h) ?_; refine TR_pv1 PV_move rfl (fun _ h => h) ?_; (first | refine TR_pv1 (PV_nil rfl) rfl (fun _ h => h) ?_ | refine TR_pv1 (PV_nilF rfl) rfl (fun _ h => h) ?_ | refine TR_pv1 (PV_nilY rfl) rfl (fun _ h => h) ?_); refine TR_pv1 (PV_fieldAddr rfl) rfl (fun _ h => h) ?_; (first | refine TR_load1 rfl 0 rfl rfl rfl (fun _ h => h) ?_ | refine TR_load1 rfl 1 rfl rfl rfl (fun _ h => h) ?_ | refine TR_load1 rfl 2 rfl rfl rfl (fun _ h => h) ?_ | refine TR_load1 rfl 3 rfl rfl rfl (fun _ h => h) ?_); refine TR_pv1 PV_move rfl (fun _ h => h) ?_; (first | refine TR_pv1 (PV_nil rfl) rfl (fun _ h => h) ?_ | refine TR_pv1 (PV_nilF rfl) rfl (fun _ h => h) ?_ | refine TR_pv1 (PV_nilY rfl) rfl (fun _ h => h) ?_); refine TR_pv1 (PV_fieldAddr rfl) rfl (fun _ h => h) ?_; (first | refine TR_load1 rfl 0 rfl rfl rfl (fun _ h => h) ?_ | refine TR_load1 rfl 1 rfl rfl rfl (fun _ h => h) ?_ | refine TR_load1 rfl 2 rfl rfl rfl (fun _ h => h) ?_ | refine TR_load1 rfl 3 rfl rfl rfl (fun _ h => h) ?_); refine TR_pv1 (PV_max rfl rfl) rfl (fun _ h => h) ?_; refine TR_pv1 PV_move rfl (fun _ h => h) ?_; (first | refine TR_pv1 (PV_nil rfl) rfl (fun _ h => h) ?_ | refine TR_pv1 (PV_nilF rfl) rfl (fun _ h => h) ?_ | refine TR_pv1 (PV_nilY rfl) rfl (fun _ h => h) ?_); refine TR_pv1 (PV_fieldAddr rfl) rfl (fun _ h => h) ?_; (first | refine TR_load1 rfl 0 rfl rfl rfl (fun _ h => h) ?_ | refine TR_load1 rfl 1 rfl rfl rfl (fun _ h => h) ?_ | refine TR_load1 rfl 2 rfl rfl rfl (fun _ h => h) ?_ | refine TR_load1 rfl 3 rfl rfl rfl (fun _ h => h) ?_); refine TR_pv1 (PV_min rfl rfl) rfl (fun _ h => h) ?_; (first | refine TR_pv1 (PV_nil rfl) rfl (fun _ h => h) ?_ | refine TR_pv1 (PV_nilF rfl) rfl (fun _ h => h) ?_ | refine TR_pv1 (PV_nilY rfl) rfl (fun _ h => h) ?_); refine TR_pv1 (PV_fieldAddr rfl) rfl (fun _ h => h) ?_; (first | refine TR_store0_0 rfl rfl rfl rfl rfl rfl ?_ | refine TR_store0_1 rfl rfl rfl rfl rfl rfl ?_ | refine TR_store0_2 rfl rfl rfl rfl rfl rfl ?_ | refine TR_store0_3 rfl rfl rfl rfl rfl rfl ?_); refine TR_nil ?_)
        | (refine TC_plain (id := 17) (by kernel_rfl) ?_; refine TR_pv0 PV_assign rfl ?_; refine TR_nil ?_)
        | refine TC_cond_t rfl rfl ?_
        | refine TC_cond_f rfl rfl ?_
        | refine TC_skip ?_
        | refine TC_ret ?_
        | refine TC_exit ?_
        | refine TC_block ?_
        | refine TQ_then_ret ?_
        | refine TQ_then_exit ?_
        | refine TQ_blk ?_
        | refine TQ_blk_ret ?_
        | refine TQ_blk_here ?_
        | refine TQ_blk_past rfl ?_
        | refine TC_label ?_
        | (refine TC_cond rfl rfl (fun hq => ?_) (fun hq => ?_) <;> (try simp only [qs] at hq) <;> (try simp only [reduceCtorEq] at hq) <;> (try (exfalso; omega)))
      exact TQ_ret1 rfl rfl rfl ⟨e2, (congrArg (fun X => [rroAt b X]) e0).symm⟩ (.cons .here .nil)
    · refine Ct_intro Try.func74 rfl (by simp only [Try.ntmps74, List.length_cons, List.length_nil]; omega) ?_
      intro w₀ R
      repeat' first
        | refine TC_seq ?_
        | refine TQ_then ?_
        | refine TR_nil ?_
        | refine TQ_noPanic ?_
        | (refine TC_plain (id := 0) (by kernel_rfl) ?_; refine TR_pv0 PV_assign rfl ?_; refine TR_nil ?_)
        | (refine TC_plain (id := 1) (by kernel_rfl) ?_; refine TR_pv0 PV_move rfl ?_; (first | refine TR_pv0 (PV_peq_nil rfl rfl) rfl ?_ | refine TR_pv0 (PV_peq rfl rfl) rfl ?_); refine TR_nil ?_)
        | (refine TC_plain (id := 2) (by kernel_rfl) ?_; refine TR_pv0 PV_assign rfl ?_; refine TR_nil ?_)
        | (refine TC_plain (id := 3) (by kernel_rfl) ?_; refine TR_pv0 PV_move rfl ?_; refine TR_pv0 (PV_lss rfl rfl) rfl ?_; refine TR_nil ?_)
        | (refine TC_plain (id := 4) (by kernel_rfl) ?_; refine TR_pv0 PV_assign rfl ?_; refine TR_nil ?_)
        | (refine TC_plain (id := 5) (by kernel_rfl) ?_; refine TR_pv0 PV_move rfl ?_; refine TR_pv0 (PV_min rfl rfl) rfl ?_; refine TR_pv0 PV_assign rfl ?_; refine TR_nil ?_)
        | (refine TC_plain (id := 6) (by kernel_rfl) ?_; refine TR_pv0 PV_move rfl ?_; (first | refine TR_pv0 (PV_nil rfl) rfl ?_ | refine TR_pv0 (PV_nilF rfl) rfl ?_ | refine TR_pv0 (PV_nilY rfl) rfl ?_); refine TR_pv0 (PV_fieldAddr rfl) rfl ?_; (first | refine TR_load0 rfl 0 rfl rfl rfl ?_ | refine TR_load0 rfl 1 rfl rfl rfl ?_ | refine TR_load0 rfl 2 rfl rfl rfl ?_ | refine TR_load0 rfl 3 rfl rfl rfl ?_); refine TR_pv0 (PV_not rfl) rfl ?_; refine TR_nil ?_)
        | (refine TC_plain (id := 7) (by kernel_rfl) ?_; refine TR_pv0 PV_move rfl ?_; (first | refine TR_pv0 (PV_nil rfl) rfl ?_ | refine TR_pv0 (PV_nilF rfl) rfl ?_ | refine TR_pv0 (PV_nilY rfl) rfl ?_); refine TR_pv0 (PV_fieldAddr rfl) rfl ?_; (first | refine TR_store0_0 rfl rfl rfl rfl rfl rfl ?_ | refine TR_store0_1 rfl rfl rfl rfl rfl rfl ?_ | refine TR_store0_2 rfl rfl rfl rfl rfl rfl ?_ | refine TR_store0_3 rfl rfl rfl rfl rfl rfl ?_); refine TR_nil ?_)
        | (refine TC_plain (id := 8) (by kernel_rfl) ?_; refine TR_pv0 PV_move rfl ?_; refine TR_pv0 PV_move rfl ?_; (first | refine TR_pv0 (PV_mul64 rfl rfl (by omega)) rfl ?_ | refine TR_pv0 (PV_mul64w rfl rfl) rfl ?_); (first | refine TR_pv0 (PV_nil rfl) rfl ?_ | refine TR_pv0 (PV_nilF rfl) rfl ?_ | refine TR_pv0 (PV_nilY rfl) rfl ?_); refine TR_pv0 (PV_fieldAddr rfl) rfl ?_; (first | refine TR_store0_0 rfl rfl rfl rfl rfl rfl ?_ | refine TR_store0_1 rfl rfl rfl rfl rfl rfl ?_ | refine TR_store0_2 rfl rfl rfl rfl rfl rfl ?_ | refine TR_store0_3 rfl rfl rfl rfl rfl rfl ?_); refine TR_nil ?_)
        | (refine TC_plain (id := 9) (by kernel_rfl) ?_; refine TR_pv0 PV_move rfl ?_; refine TR_pv0 PV_move rfl ?_; (first | refine TR_pv0 (PV_mul64 rfl rfl (by omega)) rfl ?_ | refine TR_pv0 (PV_mul64w rfl rfl) rfl ?_); (first | refine TR_pv0 (PV_nil rfl) rfl ?_ | refine TR_pv0 (PV_nilF rfl) rfl ?_ | refine TR_pv0 (PV_nilY rfl) rfl ?_); refine TR_pv0 (PV_fieldAddr rfl) rfl ?_; (first | refine TR_store0_0 rfl rfl rfl rfl rfl rfl ?_ | refine TR_store0_1 rfl rfl rfl rfl rfl rfl ?_ | refine TR_store0_2 rfl rfl rfl rfl rfl rfl ?_ | refine TR_store0_3 rfl rfl rfl rfl rfl rfl ?_); refine TR_nil ?_)
        | (refine TC_plain (id := 10) (by kernel_rfl) ?_; refine TR_pv0 PV_move rfl ?_; (first | refine TR_pv0 (PV_nil rfl) rfl ?_ | refine TR_pv0 (PV_nilF rfl) rfl ?_ | refine TR_pv0 (PV_nilY rfl) rfl ?_); refine TR_pv0 (PV_fieldAddr rfl) rfl ?_; (first | refine TR_load0 rfl 0 rfl rfl rfl ?_ | refine TR_load0 rfl 1 rfl rfl rfl ?_ | refine TR_load0 rfl 2 rfl rfl rfl ?_ | refine TR_load0 rfl 3 rfl rfl rfl ?_); refine TR_pv0 (PV_quo64 rfl rfl (by omega)) rfl ?_; refine TR_pv0 PV_move rfl ?_; (first | refine TR_pv0 (PV_sub64 rfl rfl (by omega)) rfl ?_ | refine TR_pv0 (PV_sub64w rfl rfl) rfl ?_); refine TR_pv0 PV_assign rfl ?_; refine TR_nil ?_)
        | (refine TC_plain (id := 11) (by kernel_rfl) ?_; refine TR_pv0 PV_move rfl ?_; refine TR_pv0 (PV_lss rfl rfl) rfl ?_; refine TR_nil ?_)
        | (refine TC_plain (id := 12) (by kernel_rfl) ?_; refine TR_pv0 PV_move rfl ?_; refine TR_pv0 (PV_neg64 rfl (by omega)) rfl ?_; refine TR_pv0 PV_assign rfl ?_; refine TR_nil ?_)
        | (refine TC_drawn' (id := 13) [(0, 1), (1, 1), (2, 1), (3, 1), (4, 1), (5, 1), (6, 1), (7, 1), (8, 1), (9, 1), (10, 1), (11, 1), (12, 1), (13, 1), (14, 1), (15, 0)] mixed (by kernel_rfl) ?_; refine TR_pv1 PV_move rfl (fun _ h => h) ?_; refine TR_pv1 PV_move rfl (fun _ h => h) ?_; (first | refine TR_pv1 (PV_nil rfl) rfl (fun _ h => h) ?_ | refine TR_pv1 (PV_nilF rfl) rfl (fun _ h => h) ?_ | refine TR_pv1 (PV_nilY rfl) rfl (fun _ h => h) ?_); refine TR_pv1 (PV_fieldAddr rfl) rfl (fun _ h => h) ?_; (first | refine TR_load1 rfl 0 rfl rfl rfl (fun _ h => h) ?_ | refine TR_load1 rfl 1 rfl rfl rfl (fun _ h => h) ?_ | refine TR_load1 rfl 2 rfl rfl rfl (fun _ h => h) ?_ | refine TR_load1 rfl 3 rfl rfl rfl (fun _ h => h) ?_); refine TR_pv1 PV_move rfl (fun _ h => h) ?_; (first | refine TR_pv1 (PV_nil rfl) rfl (fun _ h => h) ?_ | refine TR_pv1 (PV_nilF rfl) rfl (fun _ h => h) ?_ | refine TR_pv1 (PV_nilY rfl) rfl (fun _ h => h) ?_); refine TR_pv1 (PV_fieldAddr rfl) rfl (fun _ h => h) ?_; (first | refine TR_load1 rfl 0 rfl rfl rfl (fun _ h => h) ?_ | refine TR_load1 rfl 1 rfl rfl rfl (fun _ h => h) ?_ | refine TR_load1 rfl 2 rfl rfl rfl (fun _ h => h) ?_ | refine TR_load1 rfl 3 rfl rfl rfl (fun _ h => h) ?_); refine TR_pv1 (PV_quo64 rfl rfl (by omega)) rfl (fun _ h => h) ?_; (first | refine TR_pv1 (PV_sub64 rfl rfl (by omega)) rfl (fun _ h => h) ?_ | refine TR_pv1 (PV_sub64w rfl rfl) rfl (fun _ h => h) ?_); refine TR_pv1 PV_move rfl (fun _ h => h) ?_; (first | refine TR_pv1 (PV_add64 rfl rfl (by omega)) rfl (fun _ h => h) ?_ | refine TR_pv1 (PV_add64w rfl rfl) rfl (fun _ h => h) ?_); (first | refine TR_pv1 (PV_nil rfl) rfl (fun _ h => h) ?_ | refine TR_pv1 (PV_nilF rfl) rfl (fun _ h => h) ?_ | refine TR_pv1 (PV_nilY rfl) rfl (fun _ h => h) ?_); refine TR_pv1 (PV_fieldAddr rfl) rfl (fun _ h => h) ?_; (first | refine TR_store0_0 rfl rfl rfl rfl rfl rfl ?_ | refine TR_store0_1 rfl rfl rfl rfl rfl rfl ?_ | refine TR_store0_2 rfl rfl rfl rfl rfl rfl ?_ | refine TR_store0_3 rfl rfl rfl rfl rfl rfl ?_); refine TR_nil ?_)
        | (refine TC_drawn' (id := 14) [(0, 1), (1, 1), (2, 1), (3, 1), (4, 1), (5, 1), (6, 1), (7, 1), (8, 1), (9, 1), (10, 1), (11, 1), (12, 1), (13, 1), (14, 1), (15, 0)] mixed (by kernel_rfl) ?_; refine TR_pv1 PV_move rfl (fun _ h => h) ?_; refine TR_pv1 PV_move rfl (fun _ h => h) ?_; (first | refine TR_pv1 (PV_nil rfl) rfl (fun _ h => h) ?_ | refine TR_pv1 (PV_nilF rfl) rfl (fun _ h => h) ?_ | refine TR_pv1 (PV_nilY rfl) rfl (fun _ h => h) ?_); refine TR_pv1 (PV_fieldAddr rfl) rfl (fun _ h => h) ?_; (first | refine TR_load1 rfl 0 rfl rfl rfl (fun _ h => h) ?_ | refine TR_load1 rfl 1 rfl rfl rfl (fun _ h => h) ?_ | refine TR_load1 rfl 2 rfl rfl rfl (fun _ h => h) ?_ | refine TR_load1 rfl 3 rfl rfl rfl (fun _ h => h) ?_); refine TR_pv1 PV_move rfl (fun _ h => h) ?_; (first | refine TR_pv1 (PV_nil rfl) rfl (fun _ h => h) ?_ | refine TR_pv1 (PV_nilF rfl) rfl (fun _ h => h) ?_ | refine TR_pv1 (PV_nilY rfl) rfl (fun _ h => h) ?_); refine TR_pv1 (PV_fieldAddr rfl) rfl (fun _ h => h) ?_; (first | refine TR_load1 rfl 0 rfl rfl rfl (fun _ h => h) ?_ | refine TR_load1 rfl 1 rfl rfl rfl (fun _ h => h) ?_ | refine TR_load1 rfl 2 rfl rfl rfl (fun _ h => h) ?_ | refine TR_load1 rfl 3 rfl rfl rfl (fun _ h => h) ?_); refine TR_pv1 (PV_quo64 rfl rfl (by omega)) rfl (fun _ h => h) ?_; (first | refine TR_pv1 (PV_sub64 rfl rfl (by omega)) rfl (fun _ h => h) ?_ | refine TR_pv1 (PV_sub64w rfl rfl) rfl (fun _ h => h) ?_); refine TR_pv1 PV_move rfl (fun _ h => h) ?_; (first | refine TR_pv1 (PV_add64 rfl rfl (by omega)) rfl (fun _ h => h) ?_ | refine TR_pv1 (PV_add64w rfl rfl) rfl (fun _ h => h) ?_); (first | refine TR_pv1 (PV_nil rfl) rfl (fun _ h => h) ?_ | refine TR_pv1 (PV_nilF rfl) rfl (fun _ h => h) ?_ | refine TR_pv1 (PV_nilY rfl) rfl (fun _ h => h) ?_); refine TR_pv1 (PV_fieldAddr rfl) rfl (fun _ h => h) ?_; (first | refine TR_store0_0 rfl rfl rfl rfl rfl rfl ?_ | refine TR_store0_1 rfl rfl rfl rfl rfl rfl ?_ | refine TR_store0_2 rfl rfl rfl rfl rfl rfl ?_ | refine TR_store0_3 rfl rfl rfl rfl rfl rfl ?_); refine TR_nil ?_)
        | (refine TC_drawn' (id := 15) [(0, 1), (1, 1), (2, 1), (3, 1), (4, 1), (5, 1), (6, 1), (7, 1), (8, 1), (9, 1), (10, 1), (11, 1), (12, 1), (13, 1), (14, 0)] mixed (by kernel_rfl) ?_; refine TR_pv1 PV_move rfl (fun _ h => h) ?_; refine TR_pv1 PV_move rfl (fun _ h => h) ?_; (first | refine TR_pv1 (PV_nil rfl) rfl (fun _ h => h) ?_ | refine TR_pv1 (PV_nilF rfl) rfl (fun _ h => h) ?_ | refine TR_pv1 (PV_nilY rfl) rfl (fun _ h => h) ?_); refine TR_pv1 (PV_fieldAddr rfl) rfl (fun _ h => h) ?_; (first | refine TR_load1 rfl 0 rfl rfl rfl (fun _ h => h) ?_ | refine TR_load1 rfl 1 rfl rfl rfl (fun _ h => h) ?_ | refine TR_load1 rfl 2 rfl rfl rfl (fun _ h => h) ?_ | refine TR_load1 rfl 3 rfl rfl rfl (fun _ h => h) ?_); refine TR_pv1 (PV_quo64 rfl rfl (by omega)) rfl (fun _ h => h) ?_; refine TR_pv1 PV_move rfl (fun _ h => h) ?_; (first | refine TR_pv1 (PV_nil rfl) rfl (fun _ h => h) ?_ | refine TR_pv1 (PV_nilF rfl) rfl (fun _ h => h) ?_ | refine TR_pv1 (PV_nilY rfl) rfl (fun _ h => h) ?_); refine TR_pv1 (PV_fieldAddr rfl) rfl (fun _ h => h) ?_; (first | refine TR_load1 rfl 0 rfl rfl rfl (fun _ h => h) ?_ | refine TR_load1 rfl 1 rfl rfl rfl (fun _ h => h) ?_ | refine TR_load1 rfl 2 rfl rfl rfl (fun _ h => h) ?_ | refine TR_load1 rfl 3 rfl rfl rfl (fun _ h => h) ?_); refine TR_pv1 (PV_max rfl rfl) rfl (fun _ h => h) ?_; (first | refine TR_pv1 (PV_add64 rfl rfl (by omega)) rfl (fun _ h => h) ?_ | refine TR_pv1 (PV_add64w rfl rfl) rfl (fun _ h => h) ?_); (first | refine TR_pv1 (PV_nil rfl) rfl (fun _ h => h) ?_ | refine TR_pv1 (PV_nilF rfl) rfl (fun _ h => h) ?_ | refine TR_pv1 (PV_nilY rfl) rfl (fun _ h => h) ?_); refine TR_pv1 (PV_fieldAddr rfl) rfl (fun _ h => h) ?_; (first | refine TR_store0_0 rfl rfl rfl rfl rfl rfl ?_ | refine TR_store0_1 rfl rfl rfl rfl rfl rfl ?_ | refine TR_store0_2 rfl rfl rfl rfl rfl rfl ?_ | refine TR_store0_3 rfl rfl rfl rfl rfl rfl ?_); refine TR_nil ?_)
        | (refine TC_drawn' (id := 16) [(0, 1), (1, 1), (2, 1), (3, 1), (4, 1), (5, 1), (6, 1), (7, 1), (8, 1), (9, 1), (10, 1), (11, 1), (12, 1), (13, 1), (14, 1), (15, 1), (16, 1), (17, 0)] mixed (by kernel_rfl) ?_; refine TR_pv1 PV_move rfl (fun _ h => h) ?_; refine TR_pv1 PV_move rfl (fun _ h => h) ?_; (first | refine TR_pv1 (PV_nil rfl) rfl (fun _ h => h) ?_ | refine TR_pv1 (PV_nilF rfl) rfl (fun _ h => h) ?_ | refine TR_pv1 (PV_nilY rfl) rfl (fun _ h => h) ?_); refine TR_pv1 (PV_fieldAddr rfl) rfl (fun _ h => h) ?_; (first | refine TR_load1 rfl 0 rfl rfl rfl (fun _ h => h) ?_ | refine TR_load1 rfl 1 rfl rfl rfl (fun _ h => h) ?_ | refine TR_load1 rfl 2 rfl rfl rfl (fun _ h => h) ?_ | refine TR_load1 rfl 3 rfl rfl rfl (fun _ h => h) ?_); refine TR_pv1 PV_move rfl (fun _ h => h) ?_; (first | refine TR_pv1 (PV_nil rfl) rfl (fun _ h => h) ?_ | refine TR_pv1 (PV_nilF rfl) rfl (fun _ h => h) ?_ | refine TR_pv1 (PV_nilY rfl) rfl (fun _ h => h) ?_); refine TR_pv1 (PV_fieldAddr rfl) rfl (fun _ h => h) ?_; (first | refine TR_load1 rfl 0 rfl rfl rfl (fun _ h => h) ?_ | refine TR_load1 rfl 1 rfl rfl rfl (fun _ h => h) ?_ | refine TR_load1 rfl 2 rfl rfl rfl (fun _ h => h) ?_ | refine TR_load1 rfl 3 rfl rfl rfl (fun _ h => h) ?_); refine TR_pv1 (PV_max rfl rfl) rfl (fun _ h => h) ?_; refine TR_pv1 PV_move rfl (fun _ h => h) ?_; (first | refine TR_pv1 (PV_nil rfl) rfl (fun _ h => h) ?_ | refine TR_pv1 (PV_nilF rfl) rfl (fun _ h => h) ?_ | refine TR_pv1 (PV_nilY rfl) rfl (fun _ h => h) ?_); refine TR_pv1 (PV_fieldAddr rfl) rfl (fun _ h => h) ?_; (first | refine TR_load1 rfl 0 rfl rfl rfl (fun _ h => h) ?_ | refine TR_load1 rfl 1 rfl rfl rfl (fun _ h => h) ?_ | refine TR_load1 rfl 2 rfl rfl rfl (fun _ h => h) ?_ | refine TR_load1 rfl 3 rfl rfl rfl (fun _ h => h) ?_); refine TR_pv1 (PV_min rfl rfl) rfl (fun _ h => h) ?_; (first | refine TR_pv1 (PV_nil rfl) rfl (fun _ h => h) ?_ | refine TR_pv1 (PV_nilF rfl) rfl (fun _ h => h) ?_ | refine TR_pv1 (PV_nilY rfl) rfl (fun _ h => h) ?_); refine TR_pv1 (PV_fieldAddr rfl) rfl (fun _ h => h) ?_; (first | refine TR_store0_0 rfl rfl rfl rfl rfl rfl ?_ | refine TR_store0_1 rfl rfl rfl rfl rfl rfl ?_ | refine TR_store0_2 rfl rfl rfl rfl rfl rfl ?_ | refine TR_store0_3 rfl rfl rfl rfl rfl rfl ?_); refine TR_nil ?_)
        | (refine TC_plain (id := 17) (by kernel_rfl) ?_; refine TR_pv0 PV_assign rfl ?_; refine TR_nil ?_)
        | refine TC_cond_t rfl rfl ?_
        | refine TC_cond_f rfl rfl ?_
        | refine TC_skip ?_
        | refine TC_ret ?_
        | refine TC_exit ?_
        | refine TC_block ?_
        | refine TQ_then_ret ?_
        | refine TQ_then_exit ?_
        | refine TQ_blk ?_
        | refine TQ_blk_ret ?_
        | refine TQ_blk_here ?_
        | refine TQ_blk_past rfl ?_
        | refine TC_label ?_
        | (refine TC_cond rfl rfl (fun hq => ?_) (fun hq => ?_) <;> (try simp only [qs] at hq) <;> (try simp only [reduceCtorEq] at hq) <;> (try (exfalso; omega)))
      all_goals
        refine TQ_ret1 rfl rfl rfl ⟨e2, ?_⟩ (.cons .here .nil)
        exact Eq.trans (rro_step (smooth_eq _ _) (by first | exact vary_neg hq | exact vary_pos hq)) (congrArg (fun X => [rroAt b X]) e1.symm)
end Go.Proofs.Ytjfnbobkipaldaa
