/- The path of the reference: what each of its functions does. -/
import Derived.Test.YtjfnbobkipaldaaPath
namespace Go.Proofs.Ytjfnbobkipaldaa
open Go.RowKit
set_option maxHeartbeats 4000000

structure RB where
  p : Nat
  r : Nat
  w : Nat

abbrev qA (b : RB) (X : Pth) : Seg := blk b.p 88 [ptr b.r, ptr b.w, i64 X.bad, i64 X.may, i64 X.next, i64 X.beat, .bool X.opn]

theorem qactive_ct (b : RB) (X : Pth) : Cd Try.prog 55 [ptr b.p] [qA b X] (.bool (decide (X.bad ≤ X.may))) [qA b X] := by
  refine Ct_intro Try.func55 rfl (by simp only [Try.ntmps55, List.length_cons, List.length_nil]; omega) ?_
  intro w₀ R
  repeat' first
    | refine TC_seq ?_
    | refine TQ_then ?_
    | refine TR_nil ?_
    | refine TQ_noPanic ?_
    | (refine TC_plain (id := 0) (by kernel_rfl) ?_; refine TR_pv0 PV_assign rfl ?_; refine TR_nil ?_)
    | (refine TC_drawn' (id := 1) [(0, 1), (1, 1), (2, 1), (3, 1), (4, 1), (5, 1), (6, 1), (7, 1), (8, 1), (9, 1), (10, 1), (11, 1), (12, 1), (13, 1)] mixed (by kernel_rfl) ?_; all_goals refine TR_pv1 PV_move rfl (fun _ h => h) ?_; all_goals (first | refine TR_pv1 (PV_pne_nil rfl rfl) rfl (fun _ h => h) ?_ | refine TR_pv1 (PV_pne rfl rfl) rfl (fun _ h => h) ?_); all_goals refine TR_pv1 PV_move rfl (fun _ h => h) ?_; all_goals (first | refine TR_pv1 PV_move rfl (fun _ h => h) ?_ | refine TR_skip1 rfl (fun _ h => h) ?_ | (refine TR_gsplit rfl rfl rfl (fun hq => ?_) (fun hq => ?_) <;> (try simp only [qs] at hq) <;> (try simp only [reduceCtorEq] at hq) <;> (try (exfalso; omega)) <;> (first | refine TR_pv1 PV_move rfl (fun _ h => h) ?_ | refine TR_skip1 rfl (fun _ h => h) ?_))); all_goals (first | refine TR_pv1 (PV_nil rfl) rfl (fun _ h => h) ?_ | refine TR_pv1 (PV_nilF rfl) rfl (fun _ h => h) ?_ | refine TR_pv1 (PV_nilY rfl) rfl (fun _ h => h) ?_ | refine TR_skip1 rfl (fun _ h => h) ?_ | (refine TR_gsplit rfl rfl rfl (fun hq => ?_) (fun hq => ?_) <;> (try simp only [qs] at hq) <;> (try simp only [reduceCtorEq] at hq) <;> (try (exfalso; omega)) <;> (first | refine TR_pv1 (PV_nil rfl) rfl (fun _ h => h) ?_ | refine TR_pv1 (PV_nilF rfl) rfl (fun _ h => h) ?_ | refine TR_pv1 (PV_nilY rfl) rfl (fun _ h => h) ?_ | refine TR_skip1 rfl (fun _ h => h) ?_))); all_goals (first | refine TR_pv1 (PV_fieldAddr rfl) rfl (fun _ h => h) ?_ | refine TR_skip1 rfl (fun _ h => h) ?_ | (refine TR_gsplit rfl rfl rfl (fun hq => ?_) (fun hq => ?_) <;> (try simp only [qs] at hq) <;> (try simp only [reduceCtorEq] at hq) <;> (try (exfalso; omega)) <;> (first | refine TR_pv1 (PV_fieldAddr rfl) rfl (fun _ h => h) ?_ | refine TR_skip1 rfl (fun _ h => h) ?_))); all_goals (first | refine TR_load1 rfl 0 rfl rfl rfl (fun _ h => h) ?_ | refine TR_load1 rfl 1 rfl rfl rfl (fun _ h => h) ?_ | refine TR_load1 rfl 2 rfl rfl rfl (fun _ h => h) ?_ | refine TR_load1 rfl 3 rfl rfl rfl (fun _ h => h) ?_ | refine TR_skip1 rfl (fun _ h => h) ?_ | (refine TR_gsplit rfl rfl rfl (fun hq => ?_) (fun hq => ?_) <;> (try simp only [qs] at hq) <;> (try simp only [reduceCtorEq] at hq) <;> (try (exfalso; omega)) <;> (first | refine TR_load1 rfl 0 rfl rfl rfl (fun _ h => h) ?_ | refine TR_load1 rfl 1 rfl rfl rfl (fun _ h => h) ?_ | refine TR_load1 rfl 2 rfl rfl rfl (fun _ h => h) ?_ | refine TR_load1 rfl 3 rfl rfl rfl (fun _ h => h) ?_ | refine TR_skip1 rfl (fun _ h => h) ?_))); all_goals (first | refine TR_pv1 PV_move rfl (fun _ h => h) ?_ | refine TR_skip1 rfl (fun _ h => h) ?_ | (refine TR_gsplit rfl rfl rfl (fun hq => ?_) (fun hq => ?_) <;> (try simp only [qs] at hq) <;> (try simp only [reduceCtorEq] at hq) <;> (try (exfalso; omega)) <;> (first | refine TR_pv1 PV_move rfl (fun _ h => h) ?_ | refine TR_skip1 rfl (fun _ h => h) ?_))); all_goals (first | refine TR_pv1 (PV_nil rfl) rfl (fun _ h => h) ?_ | refine TR_pv1 (PV_nilF rfl) rfl (fun _ h => h) ?_ | refine TR_pv1 (PV_nilY rfl) rfl (fun _ h => h) ?_ | refine TR_skip1 rfl (fun _ h => h) ?_ | (refine TR_gsplit rfl rfl rfl (fun hq => ?_) (fun hq => ?_) <;> (try simp only [qs] at hq) <;> (try simp only [reduceCtorEq] at hq) <;> (try (exfalso; omega)) <;> (first | refine TR_pv1 (PV_nil rfl) rfl (fun _ h => h) ?_ | refine TR_pv1 (PV_nilF rfl) rfl (fun _ h => h) ?_ | refine TR_pv1 (PV_nilY rfl) rfl (fun _ h => h) ?_ | refine TR_skip1 rfl (fun _ h => h) ?_))); all_goals (first | refine TR_pv1 (PV_fieldAddr rfl) rfl (fun _ h => h) ?_ | refine TR_skip1 rfl (fun _ h => h) ?_ | (refine TR_gsplit rfl rfl rfl (fun hq => ?_) (fun hq => ?_) <;> (try simp only [qs] at hq) <;> (try simp only [reduceCtorEq] at hq) <;> (try (exfalso; omega)) <;> (first | refine TR_pv1 (PV_fieldAddr rfl) rfl (fun _ h => h) ?_ | refine TR_skip1 rfl (fun _ h => h) ?_))); all_goals (first | refine TR_load1 rfl 0 rfl rfl rfl (fun _ h => h) ?_ | refine TR_load1 rfl 1 rfl rfl rfl (fun _ h => h) ?_ | refine TR_load1 rfl 2 rfl rfl rfl (fun _ h => h) ?_ | refine TR_load1 rfl 3 rfl rfl rfl (fun _ h => h) ?_ | refine TR_skip1 rfl (fun _ h => h) ?_ | (refine TR_gsplit rfl rfl rfl (fun hq => ?_) (fun hq => ?_) <;> (try simp only [qs] at hq) <;> (try simp only [reduceCtorEq] at hq) <;> (try (exfalso; omega)) <;> (first | refine TR_load1 rfl 0 rfl rfl rfl (fun _ h => h) ?_ | refine TR_load1 rfl 1 rfl rfl rfl (fun _ h => h) ?_ | refine TR_load1 rfl 2 rfl rfl rfl (fun _ h => h) ?_ | refine TR_load1 rfl 3 rfl rfl rfl (fun _ h => h) ?_ | refine TR_skip1 rfl (fun _ h => h) ?_))); all_goals (first | refine TR_pv1 (PV_leq rfl rfl) rfl (fun _ h => h) ?_ | refine TR_skip1 rfl (fun _ h => h) ?_ | (refine TR_gsplit rfl rfl rfl (fun hq => ?_) (fun hq => ?_) <;> (try simp only [qs] at hq) <;> (try simp only [reduceCtorEq] at hq) <;> (try (exfalso; omega)) <;> (first | refine TR_pv1 (PV_leq rfl rfl) rfl (fun _ h => h) ?_ | refine TR_skip1 rfl (fun _ h => h) ?_))); all_goals (first | refine TR_pv1 (PV_pick_t rfl) rfl (fun _ h => h) ?_ | refine TR_pv1 (PV_pick_f rfl) rfl (fun _ h => h) ?_); all_goals refine TR_pv1 PV_assign rfl (fun _ h => h) ?_; all_goals refine TR_nil ?_)
    | refine TC_cond_t rfl rfl ?_
    | refine TC_cond_f rfl rfl ?_
    | refine TC_skip ?_
    | refine TC_ret ?_
    | refine TC_exit ?_
    | refine TC_block ?_
    | refine TQ_then_ret ?_
    | refine TQ_then_exit ?_
    | refine TQ_blk ?_
    | refine TQ_blk_ret ?_
    | refine TQ_blk_here ?_
    | refine TQ_blk_past rfl ?_
    | refine TC_label ?_
    | (refine TC_cond rfl rfl (fun hq => ?_) (fun hq => ?_) <;> (try simp only [qs] at hq) <;> (try simp only [reduceCtorEq] at hq) <;> (try (exfalso; omega)))
  exact TQ_ret1d rfl rfl rfl ⟨rfl, rfl⟩ (List.Sublist.refl _)

theorem qfailures_ct (b : RB) (X : Pth) : Cd Try.prog 56 [ptr b.p] [qA b X] (i64 X.bad) [qA b X] := by
  refine Ct_intro Try.func56 rfl (by simp only [Try.ntmps56, List.length_cons, List.length_nil]; omega) ?_
  intro w₀ R
  repeat' first
    | refine TC_seq ?_
    | refine TQ_then ?_
    | refine TR_nil ?_
    | refine TQ_noPanic ?_
    | (refine TC_plain (id := 0) (by kernel_rfl) ?_; refine TR_pv0 PV_assign rfl ?_; refine TR_nil ?_)
    | (refine TC_plain (id := 1) (by kernel_rfl) ?_; refine TR_pv0 PV_move rfl ?_; (first | refine TR_pv0 (PV_peq_nil rfl rfl) rfl ?_ | refine TR_pv0 (PV_peq rfl rfl) rfl ?_); refine TR_nil ?_)
    | (refine TC_plain (id := 2) (by kernel_rfl) ?_; refine TR_pv0 PV_assign rfl ?_; refine TR_nil ?_)
    | (refine TC_plain (id := 3) (by kernel_rfl) ?_; refine TR_pv0 PV_move rfl ?_; (first | refine TR_pv0 (PV_nil rfl) rfl ?_ | refine TR_pv0 (PV_nilF rfl) rfl ?_ | refine TR_pv0 (PV_nilY rfl) rfl ?_); refine TR_pv0 (PV_fieldAddr rfl) rfl ?_; (first | refine TR_load0 rfl 0 rfl rfl rfl ?_ | refine TR_load0 rfl 1 rfl rfl rfl ?_ | refine TR_load0 rfl 2 rfl rfl rfl ?_ | refine TR_load0 rfl 3 rfl rfl rfl ?_); refine TR_pv0 PV_assign rfl ?_; refine TR_nil ?_)
    | refine TC_cond_t rfl rfl ?_
    | refine TC_cond_f rfl rfl ?_
    | refine TC_skip ?_
    | refine TC_ret ?_
    | refine TC_exit ?_
    | refine TC_block ?_
    | refine TQ_then_ret ?_
    | refine TQ_then_exit ?_
    | refine TQ_blk ?_
    | refine TQ_blk_ret ?_
    | refine TQ_blk_here ?_
    | refine TQ_blk_past rfl ?_
    | refine TC_label ?_
    | (refine TC_cond rfl rfl (fun hq => ?_) (fun hq => ?_) <;> (try simp only [qs] at hq) <;> (try simp only [reduceCtorEq] at hq) <;> (try (exfalso; omega)))
  exact TQ_ret1d rfl rfl rfl ⟨rfl, rfl⟩ (List.Sublist.refl _)

theorem qwhen_ct (b : RB) (X : Pth) : Cd Try.prog 59 [ptr b.p] [qA b X] (i64 X.next) [qA b X] := by
  refine Ct_intro Try.func59 rfl (by simp only [Try.ntmps59, List.length_cons, List.length_nil]; omega) ?_
  intro w₀ R
  repeat' first
    | refine TC_seq ?_
    | refine TQ_then ?_
    | refine TR_nil ?_
    | refine TQ_noPanic ?_
    | (refine TC_plain (id := 0) (by kernel_rfl) ?_; refine TR_pv0 PV_assign rfl ?_; refine TR_nil ?_)
    | (refine TC_plain (id := 1) (by kernel_rfl) ?_; refine TR_pv0 PV_move rfl ?_; (first | refine TR_pv0 (PV_peq_nil rfl rfl) rfl ?_ | refine TR_pv0 (PV_peq rfl rfl) rfl ?_); refine TR_nil ?_)
    | (refine TC_plain (id := 2) (by kernel_rfl) ?_; refine TR_pv0 PV_assign rfl ?_; refine TR_nil ?_)
    | (refine TC_plain (id := 3) (by kernel_rfl) ?_; refine TR_pv0 PV_move rfl ?_; (first | refine TR_pv0 (PV_nil rfl) rfl ?_ | refine TR_pv0 (PV_nilF rfl) rfl ?_ | refine TR_pv0 (PV_nilY rfl) rfl ?_); refine TR_pv0 (PV_fieldAddr rfl) rfl ?_; (first | refine TR_load0 rfl 0 rfl rfl rfl ?_ | refine TR_load0 rfl 1 rfl rfl rfl ?_ | refine TR_load0 rfl 2 rfl rfl rfl ?_ | refine TR_load0 rfl 3 rfl rfl rfl ?_); refine TR_pv0 PV_assign rfl ?_; refine TR_nil ?_)
    | refine TC_cond_t rfl rfl ?_
    | refine TC_cond_f rfl rfl ?_
    | refine TC_skip ?_
    | refine TC_ret ?_
    | refine TC_exit ?_
    | refine TC_block ?_
    | refine TQ_then_ret ?_
    | refine TQ_then_exit ?_
    | refine TQ_blk ?_
    | refine TQ_blk_ret ?_
    | refine TQ_blk_here ?_
    | refine TQ_blk_past rfl ?_
    | refine TC_label ?_
    | (refine TC_cond rfl rfl (fun hq => ?_) (fun hq => ?_) <;> (try simp only [qs] at hq) <;> (try simp only [reduceCtorEq] at hq) <;> (try (exfalso; omega)))
  exact TQ_ret1d rfl rfl rfl ⟨rfl, rfl⟩ (List.Sublist.refl _)

theorem qrto_ct (b : RB) (X : Pth) : Cd Try.prog 57 [ptr b.p] [qA b X, rroAt b.r X.r, rwinAt b.w X.w] (i64 X.r.value) [qA b X, rroAt b.r X.r, rwinAt b.w X.w] := by
  refine Ct_intro Try.func57 rfl (by simp only [Try.ntmps57, List.length_cons, List.length_nil]; omega) ?_
  intro w₀ R
  repeat' first
    | refine TC_seq ?_
    | refine TQ_then ?_
    | refine TR_nil ?_
    | refine TQ_noPanic ?_
    | (refine TC_plain (id := 0) (by kernel_rfl) ?_; refine TR_pv0 PV_assign rfl ?_; refine TR_nil ?_)
    | (refine TC_plain (id := 1) (by kernel_rfl) ?_; refine TR_pv0 PV_move rfl ?_; (first | refine TR_pv0 (PV_peq_nil rfl rfl) rfl ?_ | refine TR_pv0 (PV_peq rfl rfl) rfl ?_); refine TR_nil ?_)
    | (refine TC_plain (id := 2) (by kernel_rfl) ?_; refine TR_pv0 PV_assign rfl ?_; refine TR_nil ?_)
    | (refine TC_plain (id := 3) (by kernel_rfl) ?_; refine TR_pv0 PV_move rfl ?_; (first | refine TR_pv0 (PV_nil rfl) rfl ?_ | refine TR_pv0 (PV_nilF rfl) rfl ?_ | refine TR_pv0 (PV_nilY rfl) rfl ?_); refine TR_pv0 (PV_fieldAddr rfl) rfl ?_; (first | refine TR_load0 rfl 0 rfl rfl rfl ?_ | refine TR_load0 rfl 1 rfl rfl rfl ?_ | refine TR_load0 rfl 2 rfl rfl rfl ?_ | refine TR_load0 rfl 3 rfl rfl rfl ?_); refine TR_calld1_1 (rroValue_ct b.r X.r) rfl rfl rfl rfl ?_; refine TR_pv0 PV_assign rfl ?_; refine TR_nil ?_)
    | refine TC_cond_t rfl rfl ?_
    | refine TC_cond_f rfl rfl ?_
    | refine TC_skip ?_
    | refine TC_ret ?_
    | refine TC_exit ?_
    | refine TC_block ?_
    | refine TQ_then_ret ?_
    | refine TQ_then_exit ?_
    | refine TQ_blk ?_
    | refine TQ_blk_ret ?_
    | refine TQ_blk_here ?_
    | refine TQ_blk_past rfl ?_
    | refine TC_label ?_
    | (refine TC_cond rfl rfl (fun hq => ?_) (fun hq => ?_) <;> (try simp only [qs] at hq) <;> (try simp only [reduceCtorEq] at hq) <;> (try (exfalso; omega)))
  exact TQ_ret1d rfl rfl rfl ⟨rfl, rfl⟩ (List.Sublist.refl _)

theorem qsize_ct (b : RB) (X : Pth) : Cd Try.prog 58 [ptr b.p] [qA b X, rroAt b.r X.r, rwinAt b.w X.w] (i64 X.w.size) [qA b X, rroAt b.r X.r, rwinAt b.w X.w] := by
  refine Ct_intro Try.func58 rfl (by simp only [Try.ntmps58, List.length_cons, List.length_nil]; omega) ?_
  intro w₀ R
  repeat' first
    | refine TC_seq ?_
    | refine TQ_then ?_
    | refine TR_nil ?_
    | refine TQ_noPanic ?_
    | (refine TC_plain (id := 0) (by kernel_rfl) ?_; refine TR_pv0 PV_assign rfl ?_; refine TR_nil ?_)
    | (refine TC_plain (id := 1) (by kernel_rfl) ?_; refine TR_pv0 PV_move rfl ?_; (first | refine TR_pv0 (PV_peq_nil rfl rfl) rfl ?_ | refine TR_pv0 (PV_peq rfl rfl) rfl ?_); refine TR_nil ?_)
    | (refine TC_plain (id := 2) (by kernel_rfl) ?_; refine TR_pv0 PV_assign rfl ?_; refine TR_nil ?_)
    | (refine TC_plain (id := 3) (by kernel_rfl) ?_; refine TR_pv0 PV_move rfl ?_; (first | refine TR_pv0 (PV_nil rfl) rfl ?_ | refine TR_pv0 (PV_nilF rfl) rfl ?_ | refine TR_pv0 (PV_nilY rfl) rfl ?_); refine TR_pv0 (PV_fieldAddr rfl) rfl ?_; (first | refine TR_load0 rfl 0 rfl rfl rfl ?_ | refine TR_load0 rfl 1 rfl rfl rfl ?_ | refine TR_load0 rfl 2 rfl rfl rfl ?_ | refine TR_load0 rfl 3 rfl rfl rfl ?_); refine TR_calld1_2 (rwsize_ct b.w X.w) rfl rfl rfl rfl ?_; refine TR_pv0 PV_assign rfl ?_; refine TR_nil ?_)
    | refine TC_cond_t rfl rfl ?_
    | refine TC_cond_f rfl rfl ?_
    | refine TC_skip ?_
    | refine TC_ret ?_
    | refine TC_exit ?_
    | refine TC_block ?_
    | refine TQ_then_ret ?_
    | refine TQ_then_exit ?_
    | refine TQ_blk ?_
    | refine TQ_blk_ret ?_
    | refine TQ_blk_here ?_
    | refine TQ_blk_past rfl ?_
    | refine TC_label ?_
    | (refine TC_cond rfl rfl (fun hq => ?_) (fun hq => ?_) <;> (try simp only [qs] at hq) <;> (try simp only [reduceCtorEq] at hq) <;> (try (exfalso; omega)))
  exact TQ_ret1d rfl rfl rfl ⟨rfl, rfl⟩ (List.Sublist.refl _)

theorem qanswered_ct (b : RB) (X : Pth) : Cd Try.prog 63 [ptr b.p] [qA b X] (.tuple #[]) [qA b X.answered] := by
  refine Ct_intro Try.func63 rfl (by simp only [Try.ntmps63, List.length_cons, List.length_nil]; omega) ?_
  intro w₀ R
  repeat' first
    | refine TC_seq ?_
    | refine TQ_then ?_
    | refine TR_nil ?_
    | refine TQ_noPanic ?_
    | (refine TC_plain (id := 0) (by kernel_rfl) ?_; refine TR_pv0 PV_move rfl ?_; (first | refine TR_pv0 (PV_pne_nil rfl rfl) rfl ?_ | refine TR_pv0 (PV_pne rfl rfl) rfl ?_); refine TR_nil ?_)
    | (refine TC_plain (id := 1) (by kernel_rfl) ?_; refine TR_pv0 PV_move rfl ?_; (first | refine TR_pv0 (PV_nil rfl) rfl ?_ | refine TR_pv0 (PV_nilF rfl) rfl ?_ | refine TR_pv0 (PV_nilY rfl) rfl ?_); refine TR_pv0 (PV_fieldAddr rfl) rfl ?_; (first | refine TR_store0_0 rfl rfl rfl rfl rfl rfl ?_ | refine TR_store0_1 rfl rfl rfl rfl rfl rfl ?_ | refine TR_store0_2 rfl rfl rfl rfl rfl rfl ?_ | refine TR_store0_3 rfl rfl rfl rfl rfl rfl ?_); refine TR_nil ?_)
    | (refine TC_plain (id := 2) (by kernel_rfl) ?_; refine TR_pv0 PV_move rfl ?_; (first | refine TR_pv0 (PV_nil rfl) rfl ?_ | refine TR_pv0 (PV_nilF rfl) rfl ?_ | refine TR_pv0 (PV_nilY rfl) rfl ?_); refine TR_pv0 (PV_fieldAddr rfl) rfl ?_; (first | refine TR_store0_0 rfl rfl rfl rfl rfl rfl ?_ | refine TR_store0_1 rfl rfl rfl rfl rfl rfl ?_ | refine TR_store0_2 rfl rfl rfl rfl rfl rfl ?_ | refine TR_store0_3 rfl rfl rfl rfl rfl rfl ?_); refine TR_nil ?_)
    | refine TC_cond_t rfl rfl ?_
    | refine TC_cond_f rfl rfl ?_
    | refine TC_skip ?_
    | refine TC_ret ?_
    | refine TC_exit ?_
    | refine TC_block ?_
    | refine TQ_then_ret ?_
    | refine TQ_then_exit ?_
    | refine TQ_blk ?_
    | refine TQ_blk_ret ?_
    | refine TQ_blk_here ?_
    | refine TQ_blk_past rfl ?_
    | refine TC_label ?_
    | (refine TC_cond rfl rfl (fun hq => ?_) (fun hq => ?_) <;> (try simp only [qs] at hq) <;> (try simp only [reduceCtorEq] at hq) <;> (try (exfalso; omega)))
  exact TQ_end0d rfl ⟨rfl, rfl⟩ (List.Sublist.refl _)

theorem qsample_ct (b : RB) (X : Pth) (h : PthOk X) (t : Int) (ht : t ≤ 9223372036854775807) : Cd Try.prog 64 [ptr b.p, i64 t] [qA b X, rroAt b.r X.r, rwinAt b.w X.w] (.tuple #[]) [qA b (X.sample t), rroAt b.r (X.sample t).r, rwinAt b.w (X.sample t).w] := by
  refine Ct_intro Try.func64 rfl (by simp only [Try.ntmps64, List.length_cons, List.length_nil]; omega) ?_
  intro w₀ R
  repeat' first
    | refine TC_seq ?_
    | refine TQ_then ?_
    | refine TR_nil ?_
    | refine TQ_noPanic ?_
    | (refine TC_plain (id := 0) (by kernel_rfl) ?_; refine TR_pv0 PV_move rfl ?_; (first | refine TR_pv0 (PV_pne_nil rfl rfl) rfl ?_ | refine TR_pv0 (PV_pne rfl rfl) rfl ?_); refine TR_nil ?_)
    | (refine TC_plain (id := 1) (by kernel_rfl) ?_; refine TR_pv0 PV_move rfl ?_; (first | refine TR_pv0 (PV_nil rfl) rfl ?_ | refine TR_pv0 (PV_nilF rfl) rfl ?_ | refine TR_pv0 (PV_nilY rfl) rfl ?_); refine TR_pv0 (PV_fieldAddr rfl) rfl ?_; (first | refine TR_load0 rfl 0 rfl rfl rfl ?_ | refine TR_load0 rfl 1 rfl rfl rfl ?_ | refine TR_load0 rfl 2 rfl rfl rfl ?_ | refine TR_load0 rfl 3 rfl rfl rfl ?_); refine TR_pv0 PV_move rfl ?_; refine TR_calld1_1 (rroSample_ct b.r X.r h.r t ht) rfl rfl rfl rfl ?_; refine TR_nil ?_)
    | refine TC_cond_t rfl rfl ?_
    | refine TC_cond_f rfl rfl ?_
    | refine TC_skip ?_
    | refine TC_ret ?_
    | refine TC_exit ?_
    | refine TC_block ?_
    | refine TQ_then_ret ?_
    | refine TQ_then_exit ?_
    | refine TQ_blk ?_
    | refine TQ_blk_ret ?_
    | refine TQ_blk_here ?_
    | refine TQ_blk_past rfl ?_
    | refine TC_label ?_
    | (refine TC_cond rfl rfl (fun hq => ?_) (fun hq => ?_) <;> (try simp only [qs] at hq) <;> (try simp only [reduceCtorEq] at hq) <;> (try (exfalso; omega)))
  exact TQ_end0d rfl ⟨rfl, rfl⟩ (List.Sublist.refl _)

theorem qacked_ct (b : RB) (X : Pth) (h : PthOk X) (n : Int) (full : Bool) : Cd Try.prog 65 [ptr b.p, i64 n, .bool full] [qA b X, rroAt b.r X.r, rwinAt b.w X.w] (.tuple #[]) [qA b (X.acked n full), rroAt b.r (X.acked n full).r, rwinAt b.w (X.acked n full).w] := by
  refine Ct_intro Try.func65 rfl (by simp only [Try.ntmps65, List.length_cons, List.length_nil]; omega) ?_
  intro w₀ R
  repeat' first
    | refine TC_seq ?_
    | refine TQ_then ?_
    | refine TR_nil ?_
    | refine TQ_noPanic ?_
    | (refine TC_plain (id := 0) (by kernel_rfl) ?_; refine TR_pv0 PV_move rfl ?_; (first | refine TR_pv0 (PV_pne_nil rfl rfl) rfl ?_ | refine TR_pv0 (PV_pne rfl rfl) rfl ?_); refine TR_nil ?_)
    | (refine TC_plain (id := 1) (by kernel_rfl) ?_; refine TR_pv0 PV_move rfl ?_; (first | refine TR_pv0 (PV_nil rfl) rfl ?_ | refine TR_pv0 (PV_nilF rfl) rfl ?_ | refine TR_pv0 (PV_nilY rfl) rfl ?_); refine TR_pv0 (PV_fieldAddr rfl) rfl ?_; (first | refine TR_load0 rfl 0 rfl rfl rfl ?_ | refine TR_load0 rfl 1 rfl rfl rfl ?_ | refine TR_load0 rfl 2 rfl rfl rfl ?_ | refine TR_load0 rfl 3 rfl rfl rfl ?_); refine TR_pv0 PV_move rfl ?_; refine TR_pv0 PV_move rfl ?_; refine TR_calld1_2 (rwacked_ct b.w X.w h.w n full) rfl rfl rfl rfl ?_; refine TR_nil ?_)
    | refine TC_cond_t rfl rfl ?_
    | refine TC_cond_f rfl rfl ?_
    | refine TC_skip ?_
    | refine TC_ret ?_
    | refine TC_exit ?_
    | refine TC_block ?_
    | refine TQ_then_ret ?_
    | refine TQ_then_exit ?_
    | refine TQ_blk ?_
    | refine TQ_blk_ret ?_
    | refine TQ_blk_here ?_
    | refine TQ_blk_past rfl ?_
    | refine TC_label ?_
    | (refine TC_cond rfl rfl (fun hq => ?_) (fun hq => ?_) <;> (try simp only [qs] at hq) <;> (try simp only [reduceCtorEq] at hq) <;> (try (exfalso; omega)))
  exact TQ_end0d rfl ⟨rfl, rfl⟩ (List.Sublist.refl _)

theorem qfast_ct (b : RB) (X : Pth) (h : PthOk X) : Cd Try.prog 66 [ptr b.p] [qA b X, rroAt b.r X.r, rwinAt b.w X.w] (.tuple #[]) [qA b (X.fast), rroAt b.r (X.fast).r, rwinAt b.w (X.fast).w] := by
  refine Ct_intro Try.func66 rfl (by simp only [Try.ntmps66, List.length_cons, List.length_nil]; omega) ?_
  intro w₀ R
  repeat' first
    | refine TC_seq ?_
    | refine TQ_then ?_
    | refine TR_nil ?_
    | refine TQ_noPanic ?_
    | (refine TC_plain (id := 0) (by kernel_rfl) ?_; refine TR_pv0 PV_move rfl ?_; (first | refine TR_pv0 (PV_pne_nil rfl rfl) rfl ?_ | refine TR_pv0 (PV_pne rfl rfl) rfl ?_); refine TR_nil ?_)
    | (refine TC_plain (id := 1) (by kernel_rfl) ?_; refine TR_pv0 PV_move rfl ?_; (first | refine TR_pv0 (PV_nil rfl) rfl ?_ | refine TR_pv0 (PV_nilF rfl) rfl ?_ | refine TR_pv0 (PV_nilY rfl) rfl ?_); refine TR_pv0 (PV_fieldAddr rfl) rfl ?_; (first | refine TR_load0 rfl 0 rfl rfl rfl ?_ | refine TR_load0 rfl 1 rfl rfl rfl ?_ | refine TR_load0 rfl 2 rfl rfl rfl ?_ | refine TR_load0 rfl 3 rfl rfl rfl ?_); refine TR_calld1_2 (rwfast_ct b.w X.w h.w) rfl rfl rfl rfl ?_; refine TR_nil ?_)
    | refine TC_cond_t rfl rfl ?_
    | refine TC_cond_f rfl rfl ?_
    | refine TC_skip ?_
    | refine TC_ret ?_
    | refine TC_exit ?_
    | refine TC_block ?_
    | refine TQ_then_ret ?_
    | refine TQ_then_exit ?_
    | refine TQ_blk ?_
    | refine TQ_blk_ret ?_
    | refine TQ_blk_here ?_
    | refine TQ_blk_past rfl ?_
    | refine TC_label ?_
    | (refine TC_cond rfl rfl (fun hq => ?_) (fun hq => ?_) <;> (try simp only [qs] at hq) <;> (try simp only [reduceCtorEq] at hq) <;> (try (exfalso; omega)))
  exact TQ_end0d rfl ⟨rfl, rfl⟩ (List.Sublist.refl _)

theorem q_eq {b : RB} {bad bad' may next beat : Int} {o : Bool} {r : Seg} (h : bad = bad') :
    [blk b.p 88 [ptr b.r, ptr b.w, i64 bad, i64 may, i64 next, i64 beat, .bool o], r] = [blk b.p 88 [ptr b.r, ptr b.w, i64 bad', i64 may, i64 next, i64 beat, .bool o], r] := by subst h; rfl

theorem qfails_ct (b : RB) (X : Pth) (h : PthOk X) : Cd Try.prog 75 [ptr b.p] [qA b X, rroAt b.r X.r] (.tuple #[]) [qA b X.fails, rroAt b.r X.fails.r] := by
  have b0 := h.b0
  have b1 := h.b1
  have m0 := h.m0
  have m1 := h.m1
  refine Ct_intro Try.func75 rfl (by simp only [Try.ntmps75, List.length_cons, List.length_nil]; omega) ?_
  intro w₀ R
  repeat' first
    | refine TC_seq ?_
    | refine TQ_then ?_
    | refine TR_nil ?_
    | refine TQ_noPanic ?_
    | (refine TC_drawn' (id := 0) [(0, 1), (1, 1), (2, 1), (3, 1), (4, 1), (5, 1), (6, 1), (7, 1), (8, 1)] mixed (by kernel_rfl) ?_; refine TR_pv1 PV_move rfl (fun _ h => h) ?_; (first | refine TR_pv1 (PV_nil rfl) rfl (fun _ h => h) ?_ | refine TR_pv1 (PV_nilF rfl) rfl (fun _ h => h) ?_ | refine TR_pv1 (PV_nilY rfl) rfl (fun _ h => h) ?_); refine TR_pv1 (PV_fieldAddr rfl) rfl (fun _ h => h) ?_; (first | refine TR_load1 rfl 0 rfl rfl rfl (fun _ h => h) ?_ | refine TR_load1 rfl 1 rfl rfl rfl (fun _ h => h) ?_ | refine TR_load1 rfl 2 rfl rfl rfl (fun _ h => h) ?_ | refine TR_load1 rfl 3 rfl rfl rfl (fun _ h => h) ?_); refine TR_pv1 PV_move rfl (fun _ h => h) ?_; (first | refine TR_pv1 (PV_nil rfl) rfl (fun _ h => h) ?_ | refine TR_pv1 (PV_nilF rfl) rfl (fun _ h => h) ?_ | refine TR_pv1 (PV_nilY rfl) rfl (fun _ h => h) ?_); refine TR_pv1 (PV_fieldAddr rfl) rfl (fun _ h => h) ?_; (first | refine TR_load1 rfl 0 rfl rfl rfl (fun _ h => h) ?_ | refine TR_load1 rfl 1 rfl rfl rfl (fun _ h => h) ?_ | refine TR_load1 rfl 2 rfl rfl rfl (fun _ h => h) ?_ | refine TR_load1 rfl 3 rfl rfl rfl (fun _ h => h) ?_); refine TR_pv1 (PV_leq rfl rfl) rfl (fun _ h => h) ?_; refine TR_nil ?_)
    | (refine TC_plain (id := 1) (by kernel_rfl) ?_; refine TR_pv0 PV_move rfl ?_; (first | refine TR_pv0 (PV_nil rfl) rfl ?_ | refine TR_pv0 (PV_nilF rfl) rfl ?_ | refine TR_pv0 (PV_nilY rfl) rfl ?_); refine TR_pv0 (PV_fieldAddr rfl) rfl ?_; (first | refine TR_load0 rfl 0 rfl rfl rfl ?_ | refine TR_load0 rfl 1 rfl rfl rfl ?_ | refine TR_load0 rfl 2 rfl rfl rfl ?_ | refine TR_load0 rfl 3 rfl rfl rfl ?_); (first | refine TR_pv0 (PV_add64 rfl rfl (by omega)) rfl ?_ | refine TR_pv0 (PV_add64w rfl rfl) rfl ?_); (first | refine TR_pv0 (PV_nil rfl) rfl ?_ | refine TR_pv0 (PV_nilF rfl) rfl ?_ | refine TR_pv0 (PV_nilY rfl) rfl ?_); refine TR_pv0 (PV_fieldAddr rfl) rfl ?_; (first | refine TR_store0_0 rfl rfl rfl rfl rfl rfl ?_ | refine TR_store0_1 rfl rfl rfl rfl rfl rfl ?_ | refine TR_store0_2 rfl rfl rfl rfl rfl rfl ?_ | refine TR_store0_3 rfl rfl rfl rfl rfl rfl ?_); refine TR_nil ?_)
    | (refine TC_plain (id := 2) (by kernel_rfl) ?_; refine TR_pv0 PV_move rfl ?_; (first | refine TR_pv0 (PV_nil rfl) rfl ?_ | refine TR_pv0 (PV_nilF rfl) rfl ?_ | refine TR_pv0 (PV_nilY rfl) rfl ?_); refine TR_pv0 (PV_fieldAddr rfl) rfl ?_; (first | refine TR_load0 rfl 0 rfl rfl rfl ?_ | refine TR_load0 rfl 1 rfl rfl rfl ?_ | refine TR_load0 rfl 2 rfl rfl rfl ?_ | refine TR_load0 rfl 3 rfl rfl rfl ?_); refine TR_calld1_1 (rroBack_ct b.r X.r h.r) rfl rfl rfl rfl ?_; refine TR_nil ?_)
    | refine TC_cond_t rfl rfl ?_
    | refine TC_cond_f rfl rfl ?_
    | refine TC_skip ?_
    | refine TC_ret ?_
    | refine TC_exit ?_
    | refine TC_block ?_
    | refine TQ_then_ret ?_
    | refine TQ_then_exit ?_
    | refine TQ_blk ?_
    | refine TQ_blk_ret ?_
    | refine TQ_blk_here ?_
    | refine TQ_blk_past rfl ?_
    | refine TC_label ?_
    | (refine TC_cond rfl rfl (fun hq => ?_) (fun hq => ?_) <;> (try simp only [qs] at hq) <;> (try simp only [reduceCtorEq] at hq) <;> (try (exfalso; omega)))
  · exact TQ_end0d rfl ⟨rfl, q_eq (show X.bad + 1 = min (X.bad + 1) (X.may + 1) by omega)⟩ (List.Sublist.refl _)
  · exact TQ_end0d rfl ⟨rfl, q_eq (show X.bad = min (X.bad + 1) (X.may + 1) by omega)⟩ (List.Sublist.refl _)

theorem qtimeout_ct (b : RB) (X : Pth) (h : PthOk X) : Cd Try.prog 67 [ptr b.p] [qA b X, rroAt b.r X.r, rwinAt b.w X.w] (.bool (decide (X.bad = X.may))) [qA b (X.timeout), rroAt b.r (X.timeout).r, rwinAt b.w (X.timeout).w] := by
  have b0 := h.b0
  have b1 := h.b1
  have m0 := h.m0
  have m1 := h.m1
  have hf : Cd _ _ _ [qA b X, rroAt b.r X.r] _ _ := qfails_ct b X.slow (pslow_ok h)
  have e1 : X.timeout.bad = min (X.bad + 1) (X.may + 1) := rfl
  have e2 : X.timeout.may = X.may := rfl
  refine Ct_intro Try.func67 rfl (by simp only [Try.ntmps67, List.length_cons, List.length_nil]; omega) ?_
  intro w₀ R
  repeat' first
    | refine TC_seq ?_
    | refine TQ_then ?_
    | refine TR_nil ?_
    | refine TQ_noPanic ?_
    | (refine TC_plain (id := 0) (by kernel_rfl) ?_; refine TR_pv0 PV_assign rfl ?_; refine TR_nil ?_)
    | (refine TC_plain (id := 1) (by kernel_rfl) ?_; refine TR_pv0 PV_move rfl ?_; (first | refine TR_pv0 (PV_peq_nil rfl rfl) rfl ?_ | refine TR_pv0 (PV_peq rfl rfl) rfl ?_); refine TR_nil ?_)
    | (refine TC_plain (id := 2) (by kernel_rfl) ?_; refine TR_pv0 PV_assign rfl ?_; refine TR_nil ?_)
    | (refine TC_plain (id := 3) (by kernel_rfl) ?_; refine TR_pv0 PV_move rfl ?_; (first | refine TR_calld1_0 (qactive_ct b X) rfl rfl rfl rfl ?_ | refine TR_calld1_0 (qactive_ct b X.timeout) rfl rfl rfl rfl ?_); refine TR_pv0 PV_assign rfl ?_; refine TR_nil ?_)
    | (refine TC_plain (id := 4) (by kernel_rfl) ?_; refine TR_pv0 PV_move rfl ?_; (first | refine TR_pv0 (PV_nil rfl) rfl ?_ | refine TR_pv0 (PV_nilF rfl) rfl ?_ | refine TR_pv0 (PV_nilY rfl) rfl ?_); refine TR_pv0 (PV_fieldAddr rfl) rfl ?_; (first | refine TR_load0 rfl 0 rfl rfl rfl ?_ | refine TR_load0 rfl 1 rfl rfl rfl ?_ | refine TR_load0 rfl 2 rfl rfl rfl ?_ | refine TR_load0 rfl 3 rfl rfl rfl ?_); refine TR_calld1_2 (rwtimeout_ct b.w X.w h.w) rfl rfl rfl rfl ?_; refine TR_nil ?_)
    | (refine TC_plain (id := 5) (by kernel_rfl) ?_; refine TR_pv0 PV_move rfl ?_; refine TR_calld2_0_1 (hf) rfl rfl rfl rfl ?_; refine TR_nil ?_)
    | (refine TC_plain (id := 6) (by kernel_rfl) ?_; all_goals refine TR_pv0 PV_move rfl ?_; all_goals refine TR_pv0 PV_move rfl ?_; all_goals (first | refine TR_pv0 PV_move rfl ?_ | refine TR_skip0 rfl ?_ | (refine TR_gsplit rfl rfl rfl (fun hq => ?_) (fun hq => ?_) <;> (try simp only [qs] at hq) <;> (try simp only [reduceCtorEq] at hq) <;> (try (exfalso; omega)) <;> (first | refine TR_pv0 PV_move rfl ?_ | refine TR_skip0 rfl ?_))); all_goals (first | refine TR_calld1_0 (qactive_ct b X) rfl rfl rfl rfl ?_ | refine TR_calld1_0 (qactive_ct b X.timeout) rfl rfl rfl rfl ?_ | refine TR_skip0 rfl ?_ | (refine TR_gsplit rfl rfl rfl (fun hq => ?_) (fun hq => ?_) <;> (try simp only [qs] at hq) <;> (try simp only [reduceCtorEq] at hq) <;> (try (exfalso; omega)) <;> (first | refine TR_calld1_0 (qactive_ct b X) rfl rfl rfl rfl ?_ | refine TR_calld1_0 (qactive_ct b X.timeout) rfl rfl rfl rfl ?_ | refine TR_skip0 rfl ?_))); all_goals (first | refine TR_pv0 (PV_not rfl) rfl ?_ | refine TR_skip0 rfl ?_ | (refine TR_gsplit rfl rfl rfl (fun hq => ?_) (fun hq => ?_) <;> (try simp only [qs] at hq) <;> (try simp only [reduceCtorEq] at hq) <;> (try (exfalso; omega)) <;> (first | refine TR_pv0 (PV_not rfl) rfl ?_ | refine TR_skip0 rfl ?_))); all_goals (first | refine TR_pv0 (PV_pick_t rfl) rfl ?_ | refine TR_pv0 (PV_pick_f rfl) rfl ?_); all_goals refine TR_pv0 PV_assign rfl ?_; all_goals refine TR_nil ?_)
    | refine TC_cond_t rfl rfl ?_
    | refine TC_cond_f rfl rfl ?_
    | refine TC_skip ?_
    | refine TC_ret ?_
    | refine TC_exit ?_
    | refine TC_block ?_
    | refine TQ_then_ret ?_
    | refine TQ_then_exit ?_
    | refine TQ_blk ?_
    | refine TQ_blk_ret ?_
    | refine TQ_blk_here ?_
    | refine TQ_blk_past rfl ?_
    | refine TC_label ?_
    | (refine TC_cond rfl rfl (fun hq => ?_) (fun hq => ?_) <;> (try simp only [qs] at hq) <;> (try simp only [reduceCtorEq] at hq) <;> (try (exfalso; omega)))
  · exact TQ_ret1d (v := .bool (!(decide (X.timeout.bad ≤ X.timeout.may)))) rfl rfl rfl ⟨congrArg Value.bool (Bool.eq_iff_iff.2 (by simp only [decide_eq_true_eq, Bool.not_eq_true', decide_eq_false_iff_not]; omega)), rfl⟩ (List.Sublist.refl _)
  · exact TQ_ret1d (v := .bool false) rfl rfl rfl ⟨congrArg Value.bool (Bool.eq_iff_iff.2 (by simp only [decide_eq_true_eq, Bool.false_eq_true, false_iff]; omega)), rfl⟩ (List.Sublist.refl _)

theorem qbeat_ct (b : RB) (X : Pth) (h : PthOk X) (now : Int) (hn : now ≤ 9223372036854775807) : Cd Try.prog 68 [ptr b.p, i64 now] [qA b X, rroAt b.r X.r, rwinAt b.w X.w] (.bool (decide (X.next ≤ now)))
    [qA b (X.beats now), rroAt b.r (X.beats now).r, rwinAt b.w (X.beats now).w] := by
  have n0 := h.n0
  have h0 := h.h0
  have h1 := h.h1
  have v0 := h.r.v0
  have v1 := h.r.v1
  have l0 := h.r.l0
  have l2 := h.r.l2
  have k := fails_ok h
  have w0 := k.r.v0
  have w1 := k.r.v1
  have j0 := k.r.l0
  have j2 := k.r.l2
  have x1 : X.fails.beat = X.beat := rfl
  have hf : Cd _ _ _ [qA b X, rroAt b.r X.r] _ _ := qfails_ct b X h
  by_cases hlt : now < X.next
  · have e : Value.bool false = .bool (decide (X.next ≤ now)) := by rw [decide_eq_false (by omega)]
    have e1 : X.beats now = X := if_pos hlt
    rw [e1]
    refine Ct_intro Try.func68 rfl (by simp only [Try.ntmps68, List.length_cons, List.length_nil]; omega) ?_
    intro w₀ R
    repeat' first
      | refine TC_seq ?_
      | refine TQ_then ?_
      | refine TR_nil ?_
      | refine TQ_noPanic ?_
      | (refine TC_plain (id := 0) (by kernel_rfl) ?_; refine TR_pv0 PV_assign rfl ?_; refine TR_nil ?_)
      | (refine TC_plain (id := 1) (by kernel_rfl) ?_; all_goals refine TR_pv0 PV_move rfl ?_; all_goals (first | refine TR_pv0 (PV_peq_nil rfl rfl) rfl ?_ | refine TR_pv0 (PV_peq rfl rfl) rfl ?_); all_goals refine TR_pv0 PV_move rfl ?_; all_goals (first | refine TR_pv0 PV_move rfl ?_ | refine TR_skip0 rfl ?_ | (refine TR_gsplit rfl rfl rfl (fun hq => ?_) (fun hq => ?_) <;> (try simp only [qs] at hq) <;> (try simp only [reduceCtorEq] at hq) <;> (try (exfalso; omega)) <;> (first | refine TR_pv0 PV_move rfl ?_ | refine TR_skip0 rfl ?_))); all_goals (first | refine TR_pv0 PV_move rfl ?_ | refine TR_skip0 rfl ?_ | (refine TR_gsplit rfl rfl rfl (fun hq => ?_) (fun hq => ?_) <;> (try simp only [qs] at hq) <;> (try simp only [reduceCtorEq] at hq) <;> (try (exfalso; omega)) <;> (first | refine TR_pv0 PV_move rfl ?_ | refine TR_skip0 rfl ?_))); all_goals (first | refine TR_pv0 (PV_nil rfl) rfl ?_ | refine TR_pv0 (PV_nilF rfl) rfl ?_ | refine TR_pv0 (PV_nilY rfl) rfl ?_ | refine TR_skip0 rfl ?_ | (refine TR_gsplit rfl rfl rfl (fun hq => ?_) (fun hq => ?_) <;> (try simp only [qs] at hq) <;> (try simp only [reduceCtorEq] at hq) <;> (try (exfalso; omega)) <;> (first | refine TR_pv0 (PV_nil rfl) rfl ?_ | refine TR_pv0 (PV_nilF rfl) rfl ?_ | refine TR_pv0 (PV_nilY rfl) rfl ?_ | refine TR_skip0 rfl ?_))); all_goals (first | refine TR_pv0 (PV_fieldAddr rfl) rfl ?_ | refine TR_skip0 rfl ?_ | (refine TR_gsplit rfl rfl rfl (fun hq => ?_) (fun hq => ?_) <;> (try simp only [qs] at hq) <;> (try simp only [reduceCtorEq] at hq) <;> (try (exfalso; omega)) <;> (first | refine TR_pv0 (PV_fieldAddr rfl) rfl ?_ | refine TR_skip0 rfl ?_))); all_goals (first | refine TR_load0 rfl 0 rfl rfl rfl ?_ | refine TR_load0 rfl 1 rfl rfl rfl ?_ | refine TR_load0 rfl 2 rfl rfl rfl ?_ | refine TR_load0 rfl 3 rfl rfl rfl ?_ | refine TR_skip0 rfl ?_ | (refine TR_gsplit rfl rfl rfl (fun hq => ?_) (fun hq => ?_) <;> (try simp only [qs] at hq) <;> (try simp only [reduceCtorEq] at hq) <;> (try (exfalso; omega)) <;> (first | refine TR_load0 rfl 0 rfl rfl rfl ?_ | refine TR_load0 rfl 1 rfl rfl rfl ?_ | refine TR_load0 rfl 2 rfl rfl rfl ?_ | refine TR_load0 rfl 3 rfl rfl rfl ?_ | refine TR_skip0 rfl ?_))); all_goals (first | refine TR_pv0 (PV_lss rfl rfl) rfl ?_ | refine TR_skip0 rfl ?_ | (refine TR_gsplit rfl rfl rfl (fun hq => ?_) (fun hq => ?_) <;> (try simp only [qs] at hq) <;> (try simp only [reduceCtorEq] at hq) <;> (try (exfalso; omega)) <;> (first | refine TR_pv0 (PV_lss rfl rfl) rfl ?_ | refine TR_skip0 rfl ?_))); all_goals (first | refine TR_pv0 (PV_pick_t rfl) rfl ?_ | refine TR_pv0 (PV_pick_f rfl) rfl ?_); all_goals refine TR_nil ?_)
      | (refine TC_plain (id := 2) (by kernel_rfl) ?_; refine TR_pv0 PV_assign rfl ?_; refine TR_nil ?_)
      | (refine TC_plain (id := 3) (by kernel_rfl) ?_; refine TR_pv0 PV_move rfl ?_; (first | refine TR_pv0 (PV_nil rfl) rfl ?_ | refine TR_pv0 (PV_nilF rfl) rfl ?_ | refine TR_pv0 (PV_nilY rfl) rfl ?_); refine TR_pv0 (PV_fieldAddr rfl) rfl ?_; (first | refine TR_load0 rfl 0 rfl rfl rfl ?_ | refine TR_load0 rfl 1 rfl rfl rfl ?_ | refine TR_load0 rfl 2 rfl rfl rfl ?_ | refine TR_load0 rfl 3 rfl rfl rfl ?_); refine TR_nil ?_)
      | (refine TC_plain (id := 4) (by kernel_rfl) ?_; refine TR_pv0 PV_move rfl ?_)
      | (refine TC_plain (id := 5) (by kernel_rfl) ?_; refine TR_pv0 PV_move rfl ?_; (first | refine TR_pv0 (PV_nil rfl) rfl ?_ | refine TR_pv0 (PV_nilF rfl) rfl ?_ | refine TR_pv0 (PV_nilY rfl) rfl ?_); refine TR_pv0 (PV_fieldAddr rfl) rfl ?_; (first | refine TR_store0_0 rfl rfl rfl rfl rfl rfl ?_ | refine TR_store0_1 rfl rfl rfl rfl rfl rfl ?_ | refine TR_store0_2 rfl rfl rfl rfl rfl rfl ?_ | refine TR_store0_3 rfl rfl rfl rfl rfl rfl ?_); refine TR_nil ?_)
      | (refine TC_drawn' (id := 6) [(0, 1), (1, 1), (2, 1), (3, 1), (4, 1), (5, 1), (6, 1), (9, 1), (10, 1), (11, 1), (12, 1), (7, 2), (8, 1), (13, 1), (14, 1), (15, 1), (16, 0)] mixed (by kernel_rfl) ?_; refine TR_pv1 PV_move rfl (fun _ h => h) ?_; refine TR_pv1 PV_move rfl (fun _ h => h) ?_; refine TR_pv1 (PV_min rfl rfl) rfl (fun _ h => h) ?_; refine TR_pv1 PV_move rfl (fun _ h => h) ?_; (first | refine TR_pv1 (PV_nil rfl) rfl (fun _ h => h) ?_ | refine TR_pv1 (PV_nilF rfl) rfl (fun _ h => h) ?_ | refine TR_pv1 (PV_nilY rfl) rfl (fun _ h => h) ?_); refine TR_pv1 (PV_fieldAddr rfl) rfl (fun _ h => h) ?_; (first | refine TR_load1 rfl 0 rfl rfl rfl (fun _ h => h) ?_ | refine TR_load1 rfl 1 rfl rfl rfl (fun _ h => h) ?_ | refine TR_load1 rfl 2 rfl rfl rfl (fun _ h => h) ?_ | refine TR_load1 rfl 3 rfl rfl rfl (fun _ h => h) ?_); refine TR_pv1 PV_move rfl (fun _ h => h) ?_; (first | refine TR_pv1 (PV_nil rfl) rfl (fun _ h => h) ?_ | refine TR_pv1 (PV_nilF rfl) rfl (fun _ h => h) ?_ | refine TR_pv1 (PV_nilY rfl) rfl (fun _ h => h) ?_); refine TR_pv1 (PV_fieldAddr rfl) rfl (fun _ h => h) ?_; (first | refine TR_load1 rfl 0 rfl rfl rfl (fun _ h => h) ?_ | refine TR_load1 rfl 1 rfl rfl rfl (fun _ h => h) ?_ | refine TR_load1 rfl 2 rfl rfl rfl (fun _ h => h) ?_ | refine TR_load1 rfl 3 rfl rfl rfl (fun _ h => h) ?_))
      | (refine TC_plain (id := 7) (by kernel_rfl) ?_; refine TR_pv0 PV_assign rfl ?_; refine TR_nil ?_)
      | refine TC_cond_t rfl rfl ?_
      | refine TC_cond_f rfl rfl ?_
      | refine TC_skip ?_
      | refine TC_ret ?_
      | refine TC_exit ?_
      | refine TC_block ?_
      | refine TQ_then_ret ?_
      | refine TQ_then_exit ?_
      | refine TQ_blk ?_
      | refine TQ_blk_ret ?_
      | refine TQ_blk_here ?_
      | refine TQ_blk_past rfl ?_
      | refine TC_label ?_
      | (refine TC_cond rfl rfl (fun hq => ?_) (fun hq => ?_) <;> (try simp only [qs] at hq) <;> (try simp only [reduceCtorEq] at hq) <;> (try (exfalso; omega)))
      | ((first | refine TR_pv1 (PV_add64 rfl rfl (by omega)) rfl (fun _ h => h) ?_ | refine TR_pv1 (PV_add64w rfl rfl) rfl (fun _ h => h) ?_); (first | refine TR_pv1 (PV_add64 rfl rfl (by omega)) rfl (fun _ h => h) ?_ | refine TR_pv1 (PV_add64w rfl rfl) rfl (fun _ h => h) ?_); (first | refine TR_pv1 (PV_nil rfl) rfl (fun _ h => h) ?_ | refine TR_pv1 (PV_nilF rfl) rfl (fun _ h => h) ?_ | refine TR_pv1 (PV_nilY rfl) rfl (fun _ h => h) ?_); refine TR_pv1 (PV_fieldAddr rfl) rfl (fun _ h => h) ?_; (first | refine TR_store0_0 rfl rfl rfl rfl rfl rfl ?_ | refine TR_store0_1 rfl rfl rfl rfl rfl rfl ?_ | refine TR_store0_2 rfl rfl rfl rfl rfl rfl ?_ | refine TR_store0_3 rfl rfl rfl rfl rfl rfl ?_); refine TR_nil ?_)
    exact TQ_ret1d (v := .bool false) rfl rfl rfl ⟨e, rfl⟩ (List.Sublist.refl _)
  · have e : Value.bool true = .bool (decide (X.next ≤ now)) := by rw [decide_eq_true (by omega)]
    by_cases ho : X.opn = true
    · have e1 : X.beats now = X.fails.went now := by rw [Pth.beats, if_neg hlt, if_pos ho]
      rw [e1]
      have hS : qA b X = blk b.p 88 [ptr b.r, ptr b.w, i64 X.bad, i64 X.may, i64 X.next, i64 X.beat, .bool true] := by rw [← ho]
      rw [hS]
      rw [hS] at hf
      refine Ct_intro Try.func68 rfl (by simp only [Try.ntmps68, List.length_cons, List.length_nil]; omega) ?_
      intro w₀ R
      repeat' first
        | refine TC_seq ?_
        | refine TQ_then ?_
        | refine TR_nil ?_
        | refine TQ_noPanic ?_
        | (refine TC_plain (id := 0) (by kernel_rfl) ?_; refine TR_pv0 PV_assign rfl ?_; refine TR_nil ?_)
        | (refine TC_plain (id := 1) (by kernel_rfl) ?_; all_goals refine TR_pv0 PV_move rfl ?_; all_goals (first | refine TR_pv0 (PV_peq_nil rfl rfl) rfl ?_ | refine TR_pv0 (PV_peq rfl rfl) rfl ?_); all_goals refine TR_pv0 PV_move rfl ?_; all_goals (first | refine TR_pv0 PV_move rfl ?_ | refine TR_skip0 rfl ?_ | (refine TR_gsplit rfl rfl rfl (fun hq => ?_) (fun hq => ?_) <;> (try simp only [qs] at hq) <;> (try simp only [reduceCtorEq] at hq) <;> (try (exfalso; omega)) <;> (first | refine TR_pv0 PV_move rfl ?_ | refine TR_skip0 rfl ?_))); all_goals (first | refine TR_pv0 PV_move rfl ?_ | refine TR_skip0 rfl ?_ | (refine TR_gsplit rfl rfl rfl (fun hq => ?_) (fun hq => ?_) <;> (try simp only [qs] at hq) <;> (try simp only [reduceCtorEq] at hq) <;> (try (exfalso; omega)) <;> (first | refine TR_pv0 PV_move rfl ?_ | refine TR_skip0 rfl ?_))); all_goals (first | refine TR_pv0 (PV_nil rfl) rfl ?_ | refine TR_pv0 (PV_nilF rfl) rfl ?_ | refine TR_pv0 (PV_nilY rfl) rfl ?_ | refine TR_skip0 rfl ?_ | (refine TR_gsplit rfl rfl rfl (fun hq => ?_) (fun hq => ?_) <;> (try simp only [qs] at hq) <;> (try simp only [reduceCtorEq] at hq) <;> (try (exfalso; omega)) <;> (first | refine TR_pv0 (PV_nil rfl) rfl ?_ | refine TR_pv0 (PV_nilF rfl) rfl ?_ | refine TR_pv0 (PV_nilY rfl) rfl ?_ | refine TR_skip0 rfl ?_))); all_goals (first | refine TR_pv0 (PV_fieldAddr rfl) rfl ?_ | refine TR_skip0 rfl ?_ | (refine TR_gsplit rfl rfl rfl (fun hq => ?_) (fun hq => ?_) <;> (try simp only [qs] at hq) <;> (try simp only [reduceCtorEq] at hq) <;> (try (exfalso; omega)) <;> (first | refine TR_pv0 (PV_fieldAddr rfl) rfl ?_ | refine TR_skip0 rfl ?_))); all_goals (first | refine TR_load0 rfl 0 rfl rfl rfl ?_ | refine TR_load0 rfl 1 rfl rfl rfl ?_ | refine TR_load0 rfl 2 rfl rfl rfl ?_ | refine TR_load0 rfl 3 rfl rfl rfl ?_ | refine TR_skip0 rfl ?_ | (refine TR_gsplit rfl rfl rfl (fun hq => ?_) (fun hq => ?_) <;> (try simp only [qs] at hq) <;> (try simp only [reduceCtorEq] at hq) <;> (try (exfalso; omega)) <;> (first | refine TR_load0 rfl 0 rfl rfl rfl ?_ | refine TR_load0 rfl 1 rfl rfl rfl ?_ | refine TR_load0 rfl 2 rfl rfl rfl ?_ | refine TR_load0 rfl 3 rfl rfl rfl ?_ | refine TR_skip0 rfl ?_))); all_goals (first | refine TR_pv0 (PV_lss rfl rfl) rfl ?_ | refine TR_skip0 rfl ?_ | (refine TR_gsplit rfl rfl rfl (fun hq => ?_) (fun hq => ?_) <;> (try simp only [qs] at hq) <;> (try simp only [reduceCtorEq] at hq) <;> (try (exfalso; omega)) <;> (first | refine TR_pv0 (PV_lss rfl rfl) rfl ?_ | refine TR_skip0 rfl ?_))); all_goals (first | refine TR_pv0 (PV_pick_t rfl) rfl ?_ | refine TR_pv0 (PV_pick_f rfl) rfl ?_); all_goals refine TR_nil ?_)
        | (refine TC_plain (id := 2) (by kernel_rfl) ?_; refine TR_pv0 PV_assign rfl ?_; refine TR_nil ?_)
        | (refine TC_plain (id := 3) (by kernel_rfl) ?_; refine TR_pv0 PV_move rfl ?_; (first | refine TR_pv0 (PV_nil rfl) rfl ?_ | refine TR_pv0 (PV_nilF rfl) rfl ?_ | refine TR_pv0 (PV_nilY rfl) rfl ?_); refine TR_pv0 (PV_fieldAddr rfl) rfl ?_; (first | refine TR_load0 rfl 0 rfl rfl rfl ?_ | refine TR_load0 rfl 1 rfl rfl rfl ?_ | refine TR_load0 rfl 2 rfl rfl rfl ?_ | refine TR_load0 rfl 3 rfl rfl rfl ?_); refine TR_nil ?_)
        | (refine TC_plain (id := 4) (by kernel_rfl) ?_; refine TR_pv0 PV_move rfl ?_; refine TR_calld2_0_1 (hf) rfl rfl rfl rfl ?_; refine TR_nil ?_)
        | (refine TC_plain (id := 5) (by kernel_rfl) ?_; refine TR_pv0 PV_move rfl ?_; (first | refine TR_pv0 (PV_nil rfl) rfl ?_ | refine TR_pv0 (PV_nilF rfl) rfl ?_ | refine TR_pv0 (PV_nilY rfl) rfl ?_); refine TR_pv0 (PV_fieldAddr rfl) rfl ?_; (first | refine TR_store0_0 rfl rfl rfl rfl rfl rfl ?_ | refine TR_store0_1 rfl rfl rfl rfl rfl rfl ?_ | refine TR_store0_2 rfl rfl rfl rfl rfl rfl ?_ | refine TR_store0_3 rfl rfl rfl rfl rfl rfl ?_); refine TR_nil ?_)
        | (refine TC_drawn' (id := 6) [(0, 1), (1, 1), (2, 1), (3, 1), (4, 1), (5, 1), (6, 1), (9, 1), (10, 1), (11, 1), (12, 1), (7, 2), (8, 1), (13, 1), (14, 1), (15, 1), (16, 0)] mixed (by kernel_rfl) ?_; refine TR_pv1 PV_move rfl (fun _ h => h) ?_; refine TR_pv1 PV_move rfl (fun _ h => h) ?_; refine TR_pv1 (PV_min rfl rfl) rfl (fun _ h => h) ?_; refine TR_pv1 PV_move rfl (fun _ h => h) ?_; (first | refine TR_pv1 (PV_nil rfl) rfl (fun _ h => h) ?_ | refine TR_pv1 (PV_nilF rfl) rfl (fun _ h => h) ?_ | refine TR_pv1 (PV_nilY rfl) rfl (fun _ h => h) ?_); refine TR_pv1 (PV_fieldAddr rfl) rfl (fun _ h => h) ?_; (first | refine TR_load1 rfl 0 rfl rfl rfl (fun _ h => h) ?_ | refine TR_load1 rfl 1 rfl rfl rfl (fun _ h => h) ?_ | refine TR_load1 rfl 2 rfl rfl rfl (fun _ h => h) ?_ | refine TR_load1 rfl 3 rfl rfl rfl (fun _ h => h) ?_); refine TR_pv1 PV_move rfl (fun _ h => h) ?_; (first | refine TR_pv1 (PV_nil rfl) rfl (fun _ h => h) ?_ | refine TR_pv1 (PV_nilF rfl) rfl (fun _ h => h) ?_ | refine TR_pv1 (PV_nilY rfl) rfl (fun _ h => h) ?_); refine TR_pv1 (PV_fieldAddr rfl) rfl (fun _ h => h) ?_; (first | refine TR_load1 rfl 0 rfl rfl rfl (fun _ h => h) ?_ | refine TR_load1 rfl 1 rfl rfl rfl (fun _ h => h) ?_ | refine TR_load1 rfl 2 rfl rfl rfl (fun _ h => h) ?_ | refine TR_load1 rfl 3 rfl rfl rfl (fun _ h => h) ?_); refine TR_calldk (rroValue_ct _ _) rfl rfl (.cons (.there .here) .nil) rfl ?_; (first | refine TR_pv1 (PV_add64 rfl rfl (by omega)) rfl (fun _ h => h) ?_ | refine TR_pv1 (PV_add64w rfl rfl) rfl (fun _ h => h) ?_); (first | refine TR_pv1 (PV_add64 rfl rfl (by omega)) rfl (fun _ h => h) ?_ | refine TR_pv1 (PV_add64w rfl rfl) rfl (fun _ h => h) ?_); (first | refine TR_pv1 (PV_nil rfl) rfl (fun _ h => h) ?_ | refine TR_pv1 (PV_nilF rfl) rfl (fun _ h => h) ?_ | refine TR_pv1 (PV_nilY rfl) rfl (fun _ h => h) ?_); refine TR_pv1 (PV_fieldAddr rfl) rfl (fun _ h => h) ?_; (first | refine TR_store0_0 rfl rfl rfl rfl rfl rfl ?_ | refine TR_store0_1 rfl rfl rfl rfl rfl rfl ?_ | refine TR_store0_2 rfl rfl rfl rfl rfl rfl ?_ | refine TR_store0_3 rfl rfl rfl rfl rfl rfl ?_); refine TR_nil ?_)
        | (refine TC_plain (id := 7) (by kernel_rfl) ?_; refine TR_pv0 PV_assign rfl ?_; refine TR_nil ?_)
        | refine TC_cond_t rfl rfl ?_
        | refine TC_cond_f rfl rfl ?_
        | refine TC_skip ?_
        | refine TC_ret ?_
        | refine TC_exit ?_
        | refine TC_block ?_
        | refine TQ_then_ret ?_
        | refine TQ_then_exit ?_
        | refine TQ_blk ?_
        | refine TQ_blk_ret ?_
        | refine TQ_blk_here ?_
        | refine TQ_blk_past rfl ?_
        | refine TC_label ?_
        | (refine TC_cond rfl rfl (fun hq => ?_) (fun hq => ?_) <;> (try simp only [qs] at hq) <;> (try simp only [reduceCtorEq] at hq) <;> (try (exfalso; omega)))
      exact TQ_ret1d (v := .bool true) rfl rfl rfl ⟨e, rfl⟩ (List.Sublist.refl _)
    · have ho := Bool.eq_false_iff.2 ho
      have e1 : X.beats now = X.went now := by rw [Pth.beats, if_neg hlt, if_neg (by rw [ho]; simp)]
      rw [e1]
      have hS : qA b X = blk b.p 88 [ptr b.r, ptr b.w, i64 X.bad, i64 X.may, i64 X.next, i64 X.beat, .bool false] := by rw [← ho]
      rw [hS]
      refine Ct_intro Try.func68 rfl (by simp only [Try.ntmps68, List.length_cons, List.length_nil]; omega) ?_
      intro w₀ R
      repeat' first
        | refine TC_seq ?_
        | refine TQ_then ?_
        | refine TR_nil ?_
        | refine TQ_noPanic ?_
        | (refine TC_plain (id := 0) (by kernel_rfl) ?_; refine TR_pv0 PV_assign rfl ?_; refine TR_nil ?_)
        | (refine TC_plain (id := 1) (by kernel_rfl) ?_; all_goals refine TR_pv0 PV_move rfl ?_; all_goals (first | refine TR_pv0 (PV_peq_nil rfl rfl) rfl ?_ | refine TR_pv0 (PV_peq rfl rfl) rfl ?_); all_goals refine TR_pv0 PV_move rfl ?_; all_goals (first | refine TR_pv0 PV_move rfl ?_ | refine TR_skip0 rfl ?_ | (refine TR_gsplit rfl rfl rfl (fun hq => ?_) (fun hq => ?_) <;> (try simp only [qs] at hq) <;> (try simp only [reduceCtorEq] at hq) <;> (try (exfalso; omega)) <;> (first | refine TR_pv0 PV_move rfl ?_ | refine TR_skip0 rfl ?_))); all_goals (first | refine TR_pv0 PV_move rfl ?_ | refine TR_skip0 rfl ?_ | (refine TR_gsplit rfl rfl rfl (fun hq => ?_) (fun hq => ?_) <;> (try simp only [qs] at hq) <;> (try simp only [reduceCtorEq] at hq) <;> (try (exfalso; omega)) <;> (first | refine TR_pv0 PV_move rfl ?_ | refine TR_skip0 rfl ?_))); all_goals (first | refine TR_pv0 (PV_nil rfl) rfl ?_ | refine TR_pv0 (PV_nilF rfl) rfl ?_ | refine TR_pv0 (PV_nilY rfl) rfl ?_ | refine TR_skip0 rfl ?_ | (refine TR_gsplit rfl rfl rfl (fun hq => ?_) (fun hq => ?_) <;> (try simp only [qs] at hq) <;> (try simp only [reduceCtorEq] at hq) <;> (try (exfalso; omega)) <;> (first | refine TR_pv0 (PV_nil rfl) rfl ?_ | refine TR_pv0 (PV_nilF rfl) rfl ?_ | refine TR_pv0 (PV_nilY rfl) rfl ?_ | refine TR_skip0 rfl ?_))); all_goals (first | refine TR_pv0 (PV_fieldAddr rfl) rfl ?_ | refine TR_skip0 rfl ?_ | (refine TR_gsplit rfl rfl rfl (fun hq => ?_) (fun hq => ?_) <;> (try simp only [qs] at hq) <;> (try simp only [reduceCtorEq] at hq) <;> (try (exfalso; omega)) <;> (first | refine TR_pv0 (PV_fieldAddr rfl) rfl ?_ | refine TR_skip0 rfl ?_))); all_goals (first | refine TR_load0 rfl 0 rfl rfl rfl ?_ | refine TR_load0 rfl 1 rfl rfl rfl ?_ | refine TR_load0 rfl 2 rfl rfl rfl ?_ | refine TR_load0 rfl 3 rfl rfl rfl ?_ | refine TR_skip0 rfl ?_ | (refine TR_gsplit rfl rfl rfl (fun hq => ?_) (fun hq => ?_) <;> (try simp only [qs] at hq) <;> (try simp only [reduceCtorEq] at hq) <;> (try (exfalso; omega)) <;> (first | refine TR_load0 rfl 0 rfl rfl rfl ?_ | refine TR_load0 rfl 1 rfl rfl rfl ?_ | refine TR_load0 rfl 2 rfl rfl rfl ?_ | refine TR_load0 rfl 3 rfl rfl rfl ?_ | refine TR_skip0 rfl ?_))); all_goals (first | refine TR_pv0 (PV_lss rfl rfl) rfl ?_ | refine TR_skip0 rfl ?_ | (refine TR_gsplit rfl rfl rfl (fun hq => ?_) (fun hq => ?_) <;> (try simp only [qs] at hq) <;> (try simp only [reduceCtorEq] at hq) <;> (try (exfalso; omega)) <;> (first | refine TR_pv0 (PV_lss rfl rfl) rfl ?_ | refine TR_skip0 rfl ?_))); all_goals (first | refine TR_pv0 (PV_pick_t rfl) rfl ?_ | refine TR_pv0 (PV_pick_f rfl) rfl ?_); all_goals refine TR_nil ?_)
        | (refine TC_plain (id := 2) (by kernel_rfl) ?_; refine TR_pv0 PV_assign rfl ?_; refine TR_nil ?_)
        | (refine TC_plain (id := 3) (by kernel_rfl) ?_; refine TR_pv0 PV_move rfl ?_; (first | refine TR_pv0 (PV_nil rfl) rfl ?_ | refine TR_pv0 (PV_nilF rfl) rfl ?_ | refine TR_pv0 (PV_nilY rfl) rfl ?_); refine TR_pv0 (PV_fieldAddr rfl) rfl ?_; (first | refine TR_load0 rfl 0 rfl rfl rfl ?_ | refine TR_load0 rfl 1 rfl rfl rfl ?_ | refine TR_load0 rfl 2 rfl rfl rfl ?_ | refine TR_load0 rfl 3 rfl rfl rfl ?_); refine TR_nil ?_)
        | (refine TC_plain (id := 4) (by kernel_rfl) ?_; refine TR_pv0 PV_move rfl ?_)
        | (refine TC_plain (id := 5) (by kernel_rfl) ?_; refine TR_pv0 PV_move rfl ?_; (first | refine TR_pv0 (PV_nil rfl) rfl ?_ | refine TR_pv0 (PV_nilF rfl) rfl ?_ | refine TR_pv0 (PV_nilY rfl) rfl ?_); refine TR_pv0 (PV_fieldAddr rfl) rfl ?_; (first | refine TR_store0_0 rfl rfl rfl rfl rfl rfl ?_ | refine TR_store0_1 rfl rfl rfl rfl rfl rfl ?_ | refine TR_store0_2 rfl rfl rfl rfl rfl rfl ?_ | refine TR_store0_3 rfl rfl rfl rfl rfl rfl ?_); refine TR_nil ?_)
        | (refine TC_drawn' (id := 6) [(0, 1), (1, 1), (2, 1), (3, 1), (4, 1), (5, 1), (6, 1), (9, 1), (10, 1), (11, 1), (12, 1), (7, 2), (8, 1), (13, 1), (14, 1), (15, 1), (16, 0)] mixed (by kernel_rfl) ?_; refine TR_pv1 PV_move rfl (fun _ h => h) ?_; refine TR_pv1 PV_move rfl (fun _ h => h) ?_; refine TR_pv1 (PV_min rfl rfl) rfl (fun _ h => h) ?_; refine TR_pv1 PV_move rfl (fun _ h => h) ?_; (first | refine TR_pv1 (PV_nil rfl) rfl (fun _ h => h) ?_ | refine TR_pv1 (PV_nilF rfl) rfl (fun _ h => h) ?_ | refine TR_pv1 (PV_nilY rfl) rfl (fun _ h => h) ?_); refine TR_pv1 (PV_fieldAddr rfl) rfl (fun _ h => h) ?_; (first | refine TR_load1 rfl 0 rfl rfl rfl (fun _ h => h) ?_ | refine TR_load1 rfl 1 rfl rfl rfl (fun _ h => h) ?_ | refine TR_load1 rfl 2 rfl rfl rfl (fun _ h => h) ?_ | refine TR_load1 rfl 3 rfl rfl rfl (fun _ h => h) ?_); refine TR_pv1 PV_move rfl (fun _ h => h) ?_; (first | refine TR_pv1 (PV_nil rfl) rfl (fun _ h => h) ?_ | refine TR_pv1 (PV_nilF rfl) rfl (fun _ h => h) ?_ | refine TR_pv1 (PV_nilY rfl) rfl (fun _ h => h) ?_); refine TR_pv1 (PV_fieldAddr rfl) rfl (fun _ h => h) ?_; (first | refine TR_load1 rfl 0 rfl rfl rfl (fun _ h => h) ?_ | refine TR_load1 rfl 1 rfl rfl rfl (fun _ h => h) ?_ | refine TR_load1 rfl 2 rfl rfl rfl (fun _ h => h) ?_ | refine TR_load1 rfl 3 rfl rfl rfl (fun _ h => h) ?_); refine TR_calldk (rroValue_ct _ _) rfl rfl (.cons (.there .here) .nil) rfl ?_; (first | refine TR_pv1 (PV_add64 rfl rfl (by omega)) rfl (fun _ h => h) ?_ | refine TR_pv1 (PV_add64w rfl rfl) rfl (fun _ h => h) ?_); (first | refine TR_pv1 (PV_add64 rfl rfl (by omega)) rfl (fun _ h => h) ?_ | refine TR_pv1 (PV_add64w rfl rfl) rfl (fun _ h => h) ?_); (first | refine TR_pv1 (PV_nil rfl) rfl (fun _ h => h) ?_ | refine TR_pv1 (PV_nilF rfl) rfl (fun _ h => h) ?_ | refine TR_pv1 (PV_nilY rfl) rfl (fun _ h => h) ?_); refine TR_pv1 (PV_fieldAddr rfl) rfl (fun _ h => h) ?_; (first | refine TR_store0_0 rfl rfl rfl rfl rfl rfl ?_ | refine TR_store0_1 rfl rfl rfl rfl rfl rfl ?_ | refine TR_store0_2 rfl rfl rfl rfl rfl rfl ?_ | refine TR_store0_3 rfl rfl rfl rfl rfl rfl ?_); refine TR_nil ?_)
        | (refine TC_plain (id := 7) (by kernel_rfl) ?_; refine TR_pv0 PV_assign rfl ?_; refine TR_nil ?_)
        | refine TC_cond_t rfl rfl ?_
        | refine TC_cond_f rfl rfl ?_
        | refine TC_skip ?_
        | refine TC_ret ?_
        | refine TC_exit ?_
        | refine TC_block ?_
        | refine TQ_then_ret ?_
        | refine TQ_then_exit ?_
        | refine TQ_blk ?_
        | refine TQ_blk_ret ?_
        | refine TQ_blk_here ?_
        | refine TQ_blk_past rfl ?_
        | refine TC_label ?_
        | (refine TC_cond rfl rfl (fun hq => ?_) (fun hq => ?_) <;> (try simp only [qs] at hq) <;> (try simp only [reduceCtorEq] at hq) <;> (try (exfalso; omega)))
      exact TQ_ret1d (v := .bool true) rfl rfl rfl ⟨e, rfl⟩ (List.Sublist.refl _)

theorem qbeaten_ct (b : RB) (X : Pth) (h : PthOk X) (s now : Int) (hn : now ≤ 9223372036854775807) : Cd Try.prog 69 [ptr b.p, i64 s, i64 now] [qA b X, rroAt b.r X.r, rwinAt b.w X.w]
    (.bool (decide (X.opn = true ∧ 0 ≤ s ∧ s ≤ now))) [qA b (X.beaten s now), rroAt b.r (X.beaten s now).r, rwinAt b.w (X.beaten s now).w] := by
  by_cases hc : X.opn = true ∧ 0 ≤ s ∧ s ≤ now
  · have e : Value.bool true = .bool (decide (X.opn = true ∧ 0 ≤ s ∧ s ≤ now)) := by rw [decide_eq_true hc]
    have e1 : X.beaten s now = X.answered.sample (now - s) := if_pos hc
    rw [e1]
    have ha : Cd _ _ _ _ _ _ := qanswered_ct b X
    obtain ⟨h1, h2, h3⟩ := hc
    have hs := rroSample_ct b.r X.r h.r (now - s) (by omega)
    have hS : qA b X = blk b.p 88 [ptr b.r, ptr b.w, i64 X.bad, i64 X.may, i64 X.next, i64 X.beat, .bool true] := by rw [← h1]
    rw [hS]
    rw [hS] at ha
    refine Ct_intro Try.func69 rfl (by simp only [Try.ntmps69, List.length_cons, List.length_nil]; omega) ?_
    intro w₀ R
    repeat' first
      | refine TC_seq ?_
      | refine TQ_then ?_
      | refine TR_nil ?_
      | refine TQ_noPanic ?_
      | (refine TC_plain (id := 0) (by kernel_rfl) ?_; refine TR_pv0 PV_assign rfl ?_; refine TR_nil ?_)
      | (refine TC_plain (id := 1) (by kernel_rfl) ?_; all_goals refine TR_pv0 PV_move rfl ?_; all_goals (first | refine TR_pv0 (PV_peq_nil rfl rfl) rfl ?_ | refine TR_pv0 (PV_peq rfl rfl) rfl ?_); all_goals refine TR_pv0 PV_move rfl ?_; all_goals (first | refine TR_pv0 PV_move rfl ?_ | refine TR_skip0 rfl ?_ | (refine TR_gsplit rfl rfl rfl (fun hq => ?_) (fun hq => ?_) <;> (try simp only [qs] at hq) <;> (try simp only [reduceCtorEq] at hq) <;> (try (exfalso; omega)) <;> (first | refine TR_pv0 PV_move rfl ?_ | refine TR_skip0 rfl ?_))); all_goals (first | refine TR_pv0 (PV_nil rfl) rfl ?_ | refine TR_pv0 (PV_nilF rfl) rfl ?_ | refine TR_pv0 (PV_nilY rfl) rfl ?_ | refine TR_skip0 rfl ?_ | (refine TR_gsplit rfl rfl rfl (fun hq => ?_) (fun hq => ?_) <;> (try simp only [qs] at hq) <;> (try simp only [reduceCtorEq] at hq) <;> (try (exfalso; omega)) <;> (first | refine TR_pv0 (PV_nil rfl) rfl ?_ | refine TR_pv0 (PV_nilF rfl) rfl ?_ | refine TR_pv0 (PV_nilY rfl) rfl ?_ | refine TR_skip0 rfl ?_))); all_goals (first | refine TR_pv0 (PV_fieldAddr rfl) rfl ?_ | refine TR_skip0 rfl ?_ | (refine TR_gsplit rfl rfl rfl (fun hq => ?_) (fun hq => ?_) <;> (try simp only [qs] at hq) <;> (try simp only [reduceCtorEq] at hq) <;> (try (exfalso; omega)) <;> (first | refine TR_pv0 (PV_fieldAddr rfl) rfl ?_ | refine TR_skip0 rfl ?_))); all_goals (first | refine TR_load0 rfl 0 rfl rfl rfl ?_ | refine TR_load0 rfl 1 rfl rfl rfl ?_ | refine TR_load0 rfl 2 rfl rfl rfl ?_ | refine TR_load0 rfl 3 rfl rfl rfl ?_ | refine TR_skip0 rfl ?_ | (refine TR_gsplit rfl rfl rfl (fun hq => ?_) (fun hq => ?_) <;> (try simp only [qs] at hq) <;> (try simp only [reduceCtorEq] at hq) <;> (try (exfalso; omega)) <;> (first | refine TR_load0 rfl 0 rfl rfl rfl ?_ | refine TR_load0 rfl 1 rfl rfl rfl ?_ | refine TR_load0 rfl 2 rfl rfl rfl ?_ | refine TR_load0 rfl 3 rfl rfl rfl ?_ | refine TR_skip0 rfl ?_))); all_goals (first | refine TR_pv0 (PV_not rfl) rfl ?_ | refine TR_skip0 rfl ?_ | (refine TR_gsplit rfl rfl rfl (fun hq => ?_) (fun hq => ?_) <;> (try simp only [qs] at hq) <;> (try simp only [reduceCtorEq] at hq) <;> (try (exfalso; omega)) <;> (first | refine TR_pv0 (PV_not rfl) rfl ?_ | refine TR_skip0 rfl ?_))); all_goals (first | refine TR_pv0 (PV_pick_t rfl) rfl ?_ | refine TR_pv0 (PV_pick_f rfl) rfl ?_); all_goals refine TR_pv0 PV_move rfl ?_; all_goals (first | refine TR_pv0 PV_move rfl ?_ | refine TR_skip0 rfl ?_ | (refine TR_gsplit rfl rfl rfl (fun hq => ?_) (fun hq => ?_) <;> (try simp only [qs] at hq) <;> (try simp only [reduceCtorEq] at hq) <;> (try (exfalso; omega)) <;> (first | refine TR_pv0 PV_move rfl ?_ | refine TR_skip0 rfl ?_))); all_goals (first | refine TR_pv0 (PV_lss rfl rfl) rfl ?_ | refine TR_skip0 rfl ?_ | (refine TR_gsplit rfl rfl rfl (fun hq => ?_) (fun hq => ?_) <;> (try simp only [qs] at hq) <;> (try simp only [reduceCtorEq] at hq) <;> (try (exfalso; omega)) <;> (first | refine TR_pv0 (PV_lss rfl rfl) rfl ?_ | refine TR_skip0 rfl ?_))); all_goals (first | refine TR_pv0 (PV_pick_t rfl) rfl ?_ | refine TR_pv0 (PV_pick_f rfl) rfl ?_); all_goals refine TR_pv0 PV_move rfl ?_; all_goals (first | refine TR_pv0 PV_move rfl ?_ | refine TR_skip0 rfl ?_ | (refine TR_gsplit rfl rfl rfl (fun hq => ?_) (fun hq => ?_) <;> (try simp only [qs] at hq) <;> (try simp only [reduceCtorEq] at hq) <;> (try (exfalso; omega)) <;> (first | refine TR_pv0 PV_move rfl ?_ | refine TR_skip0 rfl ?_))); all_goals (first | refine TR_pv0 PV_move rfl ?_ | refine TR_skip0 rfl ?_ | (refine TR_gsplit rfl rfl rfl (fun hq => ?_) (fun hq => ?_) <;> (try simp only [qs] at hq) <;> (try simp only [reduceCtorEq] at hq) <;> (try (exfalso; omega)) <;> (first | refine TR_pv0 PV_move rfl ?_ | refine TR_skip0 rfl ?_))); all_goals (first | refine TR_pv0 (PV_gtr rfl rfl) rfl ?_ | refine TR_skip0 rfl ?_ | (refine TR_gsplit rfl rfl rfl (fun hq => ?_) (fun hq => ?_) <;> (try simp only [qs] at hq) <;> (try simp only [reduceCtorEq] at hq) <;> (try (exfalso; omega)) <;> (first | refine TR_pv0 (PV_gtr rfl rfl) rfl ?_ | refine TR_skip0 rfl ?_))); all_goals (first | refine TR_pv0 (PV_pick_t rfl) rfl ?_ | refine TR_pv0 (PV_pick_f rfl) rfl ?_); all_goals refine TR_nil ?_)
      | (refine TC_plain (id := 2) (by kernel_rfl) ?_; refine TR_pv0 PV_assign rfl ?_; refine TR_nil ?_)
      | (refine TC_plain (id := 3) (by kernel_rfl) ?_; refine TR_pv0 PV_move rfl ?_; refine TR_calld1_0 (ha) rfl rfl rfl rfl ?_; refine TR_nil ?_)
      | (refine TC_plain (id := 4) (by kernel_rfl) ?_; refine TR_pv0 PV_move rfl ?_; (first | refine TR_pv0 (PV_nil rfl) rfl ?_ | refine TR_pv0 (PV_nilF rfl) rfl ?_ | refine TR_pv0 (PV_nilY rfl) rfl ?_); refine TR_pv0 (PV_fieldAddr rfl) rfl ?_; (first | refine TR_load0 rfl 0 rfl rfl rfl ?_ | refine TR_load0 rfl 1 rfl rfl rfl ?_ | refine TR_load0 rfl 2 rfl rfl rfl ?_ | refine TR_load0 rfl 3 rfl rfl rfl ?_); refine TR_pv0 PV_move rfl ?_; refine TR_pv0 PV_move rfl ?_; (first | refine TR_pv0 (PV_sub64 rfl rfl (by omega)) rfl ?_ | refine TR_pv0 (PV_sub64w rfl rfl) rfl ?_); refine TR_calld1_1 (hs) rfl rfl rfl rfl ?_; refine TR_nil ?_)
      | (refine TC_plain (id := 5) (by kernel_rfl) ?_; refine TR_pv0 PV_assign rfl ?_; refine TR_nil ?_)
      | refine TC_cond_t rfl rfl ?_
      | refine TC_cond_f rfl rfl ?_
      | refine TC_skip ?_
      | refine TC_ret ?_
      | refine TC_exit ?_
      | refine TC_block ?_
      | refine TQ_then_ret ?_
      | refine TQ_then_exit ?_
      | refine TQ_blk ?_
      | refine TQ_blk_ret ?_
      | refine TQ_blk_here ?_
      | refine TQ_blk_past rfl ?_
      | refine TC_label ?_
      | (refine TC_cond rfl rfl (fun hq => ?_) (fun hq => ?_) <;> (try simp only [qs] at hq) <;> (try simp only [reduceCtorEq] at hq) <;> (try (exfalso; omega)))
    exact TQ_ret1d (v := .bool true) rfl rfl rfl ⟨e, rfl⟩ (List.Sublist.refl _)
  · have e : Value.bool false = .bool (decide (X.opn = true ∧ 0 ≤ s ∧ s ≤ now)) := by rw [decide_eq_false hc]
    have e1 : X.beaten s now = X := if_neg hc
    rw [e1]
    by_cases ho : X.opn = true
    · have hc' : s < 0 ∨ now < s := by
        rcases Int.lt_or_le s 0 with h1 | h1
        · exact .inl h1
        · rcases Int.lt_or_le now s with h2 | h2
          · exact .inr h2
          · exact absurd ⟨ho, h1, h2⟩ hc
      have hS : qA b X = blk b.p 88 [ptr b.r, ptr b.w, i64 X.bad, i64 X.may, i64 X.next, i64 X.beat, .bool true] := by rw [← ho]
      rw [hS]
      refine Ct_intro Try.func69 rfl (by simp only [Try.ntmps69, List.length_cons, List.length_nil]; omega) ?_
      intro w₀ R
      repeat' first
        | refine TC_seq ?_
        | refine TQ_then ?_
        | refine TR_nil ?_
        | refine TQ_noPanic ?_
        | (refine TC_plain (id := 0) (by kernel_rfl) ?_; refine TR_pv0 PV_assign rfl ?_; refine TR_nil ?_)
        | (refine TC_plain (id := 1) (by kernel_rfl) ?_; all_goals refine TR_pv0 PV_move rfl ?_; all_goals (first | refine TR_pv0 (PV_peq_nil rfl rfl) rfl ?_ | refine TR_pv0 (PV_peq rfl rfl) rfl ?_); all_goals refine TR_pv0 PV_move rfl ?_; all_goals (first | refine TR_pv0 PV_move rfl ?_ | refine TR_skip0 rfl ?_ | (refine TR_gsplit rfl rfl rfl (fun hq => ?_) (fun hq => ?_) <;> (try simp only [qs] at hq) <;> (try simp only [reduceCtorEq] at hq) <;> (try (exfalso; omega)) <;> (first | refine TR_pv0 PV_move rfl ?_ | refine TR_skip0 rfl ?_))); all_goals (first | refine TR_pv0 (PV_nil rfl) rfl ?_ | refine TR_pv0 (PV_nilF rfl) rfl ?_ | refine TR_pv0 (PV_nilY rfl) rfl ?_ | refine TR_skip0 rfl ?_ | (refine TR_gsplit rfl rfl rfl (fun hq => ?_) (fun hq => ?_) <;> (try simp only [qs] at hq) <;> (try simp only [reduceCtorEq] at hq) <;> (try (exfalso; omega)) <;> (first | refine TR_pv0 (PV_nil rfl) rfl ?_ | refine TR_pv0 (PV_nilF rfl) rfl ?_ | refine TR_pv0 (PV_nilY rfl) rfl ?_ | refine TR_skip0 rfl ?_))); all_goals (first | refine TR_pv0 (PV_fieldAddr rfl) rfl ?_ | refine TR_skip0 rfl ?_ | (refine TR_gsplit rfl rfl rfl (fun hq => ?_) (fun hq => ?_) <;> (try simp only [qs] at hq) <;> (try simp only [reduceCtorEq] at hq) <;> (try (exfalso; omega)) <;> (first | refine TR_pv0 (PV_fieldAddr rfl) rfl ?_ | refine TR_skip0 rfl ?_))); all_goals (first | refine TR_load0 rfl 0 rfl rfl rfl ?_ | refine TR_load0 rfl 1 rfl rfl rfl ?_ | refine TR_load0 rfl 2 rfl rfl rfl ?_ | refine TR_load0 rfl 3 rfl rfl rfl ?_ | refine TR_skip0 rfl ?_ | (refine TR_gsplit rfl rfl rfl (fun hq => ?_) (fun hq => ?_) <;> (try simp only [qs] at hq) <;> (try simp only [reduceCtorEq] at hq) <;> (try (exfalso; omega)) <;> (first | refine TR_load0 rfl 0 rfl rfl rfl ?_ | refine TR_load0 rfl 1 rfl rfl rfl ?_ | refine TR_load0 rfl 2 rfl rfl rfl ?_ | refine TR_load0 rfl 3 rfl rfl rfl ?_ | refine TR_skip0 rfl ?_))); all_goals (first | refine TR_pv0 (PV_not rfl) rfl ?_ | refine TR_skip0 rfl ?_ | (refine TR_gsplit rfl rfl rfl (fun hq => ?_) (fun hq => ?_) <;> (try simp only [qs] at hq) <;> (try simp only [reduceCtorEq] at hq) <;> (try (exfalso; omega)) <;> (first | refine TR_pv0 (PV_not rfl) rfl ?_ | refine TR_skip0 rfl ?_))); all_goals (first | refine TR_pv0 (PV_pick_t rfl) rfl ?_ | refine TR_pv0 (PV_pick_f rfl) rfl ?_); all_goals refine TR_pv0 PV_move rfl ?_; all_goals (first | refine TR_pv0 PV_move rfl ?_ | refine TR_skip0 rfl ?_ | (refine TR_gsplit rfl rfl rfl (fun hq => ?_) (fun hq => ?_) <;> (try simp only [qs] at hq) <;> (try simp only [reduceCtorEq] at hq) <;> (try (exfalso; omega)) <;> (first | refine TR_pv0 PV_move rfl ?_ | refine TR_skip0 rfl ?_))); all_goals (first | refine TR_pv0 (PV_lss rfl rfl) rfl ?_ | refine TR_skip0 rfl ?_ | (refine TR_gsplit rfl rfl rfl (fun hq => ?_) (fun hq => ?_) <;> (try simp only [qs] at hq) <;> (try simp only [reduceCtorEq] at hq) <;> (try (exfalso; omega)) <;> (first | refine TR_pv0 (PV_lss rfl rfl) rfl ?_ | refine TR_skip0 rfl ?_))); all_goals (first | refine TR_pv0 (PV_pick_t rfl) rfl ?_ | refine TR_pv0 (PV_pick_f rfl) rfl ?_); all_goals refine TR_pv0 PV_move rfl ?_; all_goals (first | refine TR_pv0 PV_move rfl ?_ | refine TR_skip0 rfl ?_ | (refine TR_gsplit rfl rfl rfl (fun hq => ?_) (fun hq => ?_) <;> (try simp only [qs] at hq) <;> (try simp only [reduceCtorEq] at hq) <;> (try (exfalso; omega)) <;> (first | refine TR_pv0 PV_move rfl ?_ | refine TR_skip0 rfl ?_))); all_goals (first | refine TR_pv0 PV_move rfl ?_ | refine TR_skip0 rfl ?_ | (refine TR_gsplit rfl rfl rfl (fun hq => ?_) (fun hq => ?_) <;> (try simp only [qs] at hq) <;> (try simp only [reduceCtorEq] at hq) <;> (try (exfalso; omega)) <;> (first | refine TR_pv0 PV_move rfl ?_ | refine TR_skip0 rfl ?_))); all_goals (first | refine TR_pv0 (PV_gtr rfl rfl) rfl ?_ | refine TR_skip0 rfl ?_ | (refine TR_gsplit rfl rfl rfl (fun hq => ?_) (fun hq => ?_) <;> (try simp only [qs] at hq) <;> (try simp only [reduceCtorEq] at hq) <;> (try (exfalso; omega)) <;> (first | refine TR_pv0 (PV_gtr rfl rfl) rfl ?_ | refine TR_skip0 rfl ?_))); all_goals (first | refine TR_pv0 (PV_pick_t rfl) rfl ?_ | refine TR_pv0 (PV_pick_f rfl) rfl ?_); all_goals refine TR_nil ?_)
        | (refine TC_plain (id := 2) (by kernel_rfl) ?_; refine TR_pv0 PV_assign rfl ?_; refine TR_nil ?_)
        | (refine TC_plain (id := 3) (by kernel_rfl) ?_; refine TR_pv0 PV_move rfl ?_)
        | (refine TC_plain (id := 4) (by kernel_rfl) ?_; refine TR_pv0 PV_move rfl ?_; (first | refine TR_pv0 (PV_nil rfl) rfl ?_ | refine TR_pv0 (PV_nilF rfl) rfl ?_ | refine TR_pv0 (PV_nilY rfl) rfl ?_); refine TR_pv0 (PV_fieldAddr rfl) rfl ?_; (first | refine TR_load0 rfl 0 rfl rfl rfl ?_ | refine TR_load0 rfl 1 rfl rfl rfl ?_ | refine TR_load0 rfl 2 rfl rfl rfl ?_ | refine TR_load0 rfl 3 rfl rfl rfl ?_); refine TR_pv0 PV_move rfl ?_; refine TR_pv0 PV_move rfl ?_; (first | refine TR_pv0 (PV_sub64 rfl rfl (by omega)) rfl ?_ | refine TR_pv0 (PV_sub64w rfl rfl) rfl ?_))
        | (refine TC_plain (id := 5) (by kernel_rfl) ?_; refine TR_pv0 PV_assign rfl ?_; refine TR_nil ?_)
        | refine TC_cond_t rfl rfl ?_
        | refine TC_cond_f rfl rfl ?_
        | refine TC_skip ?_
        | refine TC_ret ?_
        | refine TC_exit ?_
        | refine TC_block ?_
        | refine TQ_then_ret ?_
        | refine TQ_then_exit ?_
        | refine TQ_blk ?_
        | refine TQ_blk_ret ?_
        | refine TQ_blk_here ?_
        | refine TQ_blk_past rfl ?_
        | refine TC_label ?_
        | (refine TC_cond rfl rfl (fun hq => ?_) (fun hq => ?_) <;> (try simp only [qs] at hq) <;> (try simp only [reduceCtorEq] at hq) <;> (try (exfalso; omega)))
      all_goals exact TQ_ret1d (v := .bool false) rfl rfl rfl ⟨e, rfl⟩ (List.Sublist.refl _)
    · have ho := Bool.eq_false_iff.2 ho
      have hS : qA b X = blk b.p 88 [ptr b.r, ptr b.w, i64 X.bad, i64 X.may, i64 X.next, i64 X.beat, .bool false] := by rw [← ho]
      rw [hS]
      refine Ct_intro Try.func69 rfl (by simp only [Try.ntmps69, List.length_cons, List.length_nil]; omega) ?_
      intro w₀ R
      repeat' first
        | refine TC_seq ?_
        | refine TQ_then ?_
        | refine TR_nil ?_
        | refine TQ_noPanic ?_
        | (refine TC_plain (id := 0) (by kernel_rfl) ?_; refine TR_pv0 PV_assign rfl ?_; refine TR_nil ?_)
        | (refine TC_plain (id := 1) (by kernel_rfl) ?_; all_goals refine TR_pv0 PV_move rfl ?_; all_goals (first | refine TR_pv0 (PV_peq_nil rfl rfl) rfl ?_ | refine TR_pv0 (PV_peq rfl rfl) rfl ?_); all_goals refine TR_pv0 PV_move rfl ?_; all_goals (first | refine TR_pv0 PV_move rfl ?_ | refine TR_skip0 rfl ?_ | (refine TR_gsplit rfl rfl rfl (fun hq => ?_) (fun hq => ?_) <;> (try simp only [qs] at hq) <;> (try simp only [reduceCtorEq] at hq) <;> (try (exfalso; omega)) <;> (first | refine TR_pv0 PV_move rfl ?_ | refine TR_skip0 rfl ?_))); all_goals (first | refine TR_pv0 (PV_nil rfl) rfl ?_ | refine TR_pv0 (PV_nilF rfl) rfl ?_ | refine TR_pv0 (PV_nilY rfl) rfl ?_ | refine TR_skip0 rfl ?_ | (refine TR_gsplit rfl rfl rfl (fun hq => ?_) (fun hq => ?_) <;> (try simp only [qs] at hq) <;> (try simp only [reduceCtorEq] at hq) <;> (try (exfalso; omega)) <;> (first | refine TR_pv0 (PV_nil rfl) rfl ?_ | refine TR_pv0 (PV_nilF rfl) rfl ?_ | refine TR_pv0 (PV_nilY rfl) rfl ?_ | refine TR_skip0 rfl ?_))); all_goals (first | refine TR_pv0 (PV_fieldAddr rfl) rfl ?_ | refine TR_skip0 rfl ?_ | (refine TR_gsplit rfl rfl rfl (fun hq => ?_) (fun hq => ?_) <;> (try simp only [qs] at hq) <;> (try simp only [reduceCtorEq] at hq) <;> (try (exfalso; omega)) <;> (first | refine TR_pv0 (PV_fieldAddr rfl) rfl ?_ | refine TR_skip0 rfl ?_))); all_goals (first | refine TR_load0 rfl 0 rfl rfl rfl ?_ | refine TR_load0 rfl 1 rfl rfl rfl ?_ | refine TR_load0 rfl 2 rfl rfl rfl ?_ | refine TR_load0 rfl 3 rfl rfl rfl ?_ | refine TR_skip0 rfl ?_ | (refine TR_gsplit rfl rfl rfl (fun hq => ?_) (fun hq => ?_) <;> (try simp only [qs] at hq) <;> (try simp only [reduceCtorEq] at hq) <;> (try (exfalso; omega)) <;> (first | refine TR_load0 rfl 0 rfl rfl rfl ?_ | refine TR_load0 rfl 1 rfl rfl rfl ?_ | refine TR_load0 rfl 2 rfl rfl rfl ?_ | refine TR_load0 rfl 3 rfl rfl rfl ?_ | refine TR_skip0 rfl ?_))); all_goals (first | refine TR_pv0 (PV_not rfl) rfl ?_ | refine TR_skip0 rfl ?_ | (refine TR_gsplit rfl rfl rfl (fun hq => ?_) (fun hq => ?_) <;> (try simp only [qs] at hq) <;> (try simp only [reduceCtorEq] at hq) <;> (try (exfalso; omega)) <;> (first | refine TR_pv0 (PV_not rfl) rfl ?_ | refine TR_skip0 rfl ?_))); all_goals (first | refine TR_pv0 (PV_pick_t rfl) rfl ?_ | refine TR_pv0 (PV_pick_f rfl) rfl ?_); all_goals refine TR_pv0 PV_move rfl ?_; all_goals (first | refine TR_pv0 PV_move rfl ?_ | refine TR_skip0 rfl ?_ | (refine TR_gsplit rfl rfl rfl (fun hq => ?_) (fun hq => ?_) <;> (try simp only [qs] at hq) <;> (try simp only [reduceCtorEq] at hq) <;> (try (exfalso; omega)) <;> (first | refine TR_pv0 PV_move rfl ?_ | refine TR_skip0 rfl ?_))); all_goals (first | refine TR_pv0 (PV_lss rfl rfl) rfl ?_ | refine TR_skip0 rfl ?_ | (refine TR_gsplit rfl rfl rfl (fun hq => ?_) (fun hq => ?_) <;> (try simp only [qs] at hq) <;> (try simp only [reduceCtorEq] at hq) <;> (try (exfalso; omega)) <;> (first | refine TR_pv0 (PV_lss rfl rfl) rfl ?_ | refine TR_skip0 rfl ?_))); all_goals (first | refine TR_pv0 (PV_pick_t rfl) rfl ?_ | refine TR_pv0 (PV_pick_f rfl) rfl ?_); all_goals refine TR_pv0 PV_move rfl ?_; all_goals (first | refine TR_pv0 PV_move rfl ?_ | refine TR_skip0 rfl ?_ | (refine TR_gsplit rfl rfl rfl (fun hq => ?_) (fun hq => ?_) <;> (try simp only [qs] at hq) <;> (try simp only [reduceCtorEq] at hq) <;> (try (exfalso; omega)) <;> (first | refine TR_pv0 PV_move rfl ?_ | refine TR_skip0 rfl ?_))); all_goals (first | refine TR_pv0 PV_move rfl ?_ | refine TR_skip0 rfl ?_ | (refine TR_gsplit rfl rfl rfl (fun hq => ?_) (fun hq => ?_) <;> (try simp only [qs] at hq) <;> (try simp only [reduceCtorEq] at hq) <;> (try (exfalso; omega)) <;> (first | refine TR_pv0 PV_move rfl ?_ | refine TR_skip0 rfl ?_))); all_goals (first | refine TR_pv0 (PV_gtr rfl rfl) rfl ?_ | refine TR_skip0 rfl ?_ | (refine TR_gsplit rfl rfl rfl (fun hq => ?_) (fun hq => ?_) <;> (try simp only [qs] at hq) <;> (try simp only [reduceCtorEq] at hq) <;> (try (exfalso; omega)) <;> (first | refine TR_pv0 (PV_gtr rfl rfl) rfl ?_ | refine TR_skip0 rfl ?_))); all_goals (first | refine TR_pv0 (PV_pick_t rfl) rfl ?_ | refine TR_pv0 (PV_pick_f rfl) rfl ?_); all_goals refine TR_nil ?_)
        | (refine TC_plain (id := 2) (by kernel_rfl) ?_; refine TR_pv0 PV_assign rfl ?_; refine TR_nil ?_)
        | (refine TC_plain (id := 3) (by kernel_rfl) ?_; refine TR_pv0 PV_move rfl ?_)
        | (refine TC_plain (id := 4) (by kernel_rfl) ?_; refine TR_pv0 PV_move rfl ?_; (first | refine TR_pv0 (PV_nil rfl) rfl ?_ | refine TR_pv0 (PV_nilF rfl) rfl ?_ | refine TR_pv0 (PV_nilY rfl) rfl ?_); refine TR_pv0 (PV_fieldAddr rfl) rfl ?_; (first | refine TR_load0 rfl 0 rfl rfl rfl ?_ | refine TR_load0 rfl 1 rfl rfl rfl ?_ | refine TR_load0 rfl 2 rfl rfl rfl ?_ | refine TR_load0 rfl 3 rfl rfl rfl ?_); refine TR_pv0 PV_move rfl ?_; refine TR_pv0 PV_move rfl ?_; (first | refine TR_pv0 (PV_sub64 rfl rfl (by omega)) rfl ?_ | refine TR_pv0 (PV_sub64w rfl rfl) rfl ?_))
        | (refine TC_plain (id := 5) (by kernel_rfl) ?_; refine TR_pv0 PV_assign rfl ?_; refine TR_nil ?_)
        | refine TC_cond_t rfl rfl ?_
        | refine TC_cond_f rfl rfl ?_
        | refine TC_skip ?_
        | refine TC_ret ?_
        | refine TC_exit ?_
        | refine TC_block ?_
        | refine TQ_then_ret ?_
        | refine TQ_then_exit ?_
        | refine TQ_blk ?_
        | refine TQ_blk_ret ?_
        | refine TQ_blk_here ?_
        | refine TQ_blk_past rfl ?_
        | refine TC_label ?_
        | (refine TC_cond rfl rfl (fun hq => ?_) (fun hq => ?_) <;> (try simp only [qs] at hq) <;> (try simp only [reduceCtorEq] at hq) <;> (try (exfalso; omega)))
      all_goals exact TQ_ret1d (v := .bool false) rfl rfl rfl ⟨e, rfl⟩ (List.Sublist.refl _)

end Go.Proofs.Ytjfnbobkipaldaa
