/- WindowPlays: whatever is done with a window, its size and threshold are the document's: the walk of the law. -/
import Derived.Test.YtjfnbobkipaldaaWNil
namespace Go.Proofs.Ytjfnbobkipaldaa
open Go.RowKit
set_option maxHeartbeats 4000000

/-- What was done by k operations. -/
def Win.played (W : Win) (ops : List WOp) (k : Nat) : Win := (ops.take k).foldl Win.does W

theorem played_succ (W : Win) (ops : List WOp) (k : Nat) (o : WOp) (h : ops[k]? = some o) : W.played ops (k + 1) = (W.played ops k).does o := by
  unfold Win.played
  rw [List.take_add_one, h]
  simp
theorem played_ok {W : Win} (h : WinOk W) (ops : List WOp) (k : Nat) : WinOk (W.played ops k) := by
  unfold Win.played
  generalize ops.take k = l
  induction l generalizing W with
  | nil => exact h
  | cons o l ih => exact ih (does_ok h o)

theorem rwacked_nil (n : Int) (full : Bool) : Cd Try.prog 42 [.pointer none, i64 n, .bool full] [] (.tuple #[]) [] := by
  refine Ct_intro Try.func42 rfl (by simp only [Try.ntmps42, List.length_cons, List.length_nil]; omega) ?_
  intro w₀ R
  repeat' first
    | refine TC_seq ?_
    | refine TQ_then ?_
    | refine TR_nil ?_
    | refine TQ_noPanic ?_
    | (refine TC_plain (id := 0) (by kernel_rfl) ?_; all_goals refine TR_pv0 PV_move rfl ?_; all_goals (first | refine TR_pv0 (PV_peq_nil rfl rfl) rfl ?_ | refine TR_pv0 (PV_peq rfl rfl) rfl ?_); all_goals refine TR_pv0 PV_move rfl ?_; all_goals (first | refine TR_pv0 PV_move rfl ?_ | refine TR_skip0 rfl ?_ | (refine TR_gsplit rfl rfl rfl (fun hq => ?_) (fun hq => ?_) <;> (try simp only [qs, reduceCtorEq] at hq) <;> (try (exfalso; omega)) <;> (first | refine TR_pv0 PV_move rfl ?_ | refine TR_skip0 rfl ?_))); all_goals (first | refine TR_pv0 (PV_lss rfl rfl) rfl ?_ | refine TR_skip0 rfl ?_ | (refine TR_gsplit rfl rfl rfl (fun hq => ?_) (fun hq => ?_) <;> (try simp only [qs, reduceCtorEq] at hq) <;> (try (exfalso; omega)) <;> (first | refine TR_pv0 (PV_lss rfl rfl) rfl ?_ | refine TR_skip0 rfl ?_))); all_goals (first | refine TR_pv0 (PV_pick_t rfl) rfl ?_ | refine TR_pv0 (PV_pick_f rfl) rfl ?_); all_goals refine TR_nil ?_)
    | (refine TC_drawn' (id := 1) [(0, 1), (1, 1), (2, 1), (3, 1), (4, 1), (5, 1), (6, 1), (7, 1), (8, 1)] mixed (by kernel_rfl) ?_; refine TR_pv1 PV_move rfl (fun _ h => h) ?_; (first | refine TR_pv1 (PV_nil rfl) rfl (fun _ h => h) ?_ | refine TR_pv1 (PV_nilF rfl) rfl (fun _ h => h) ?_ | refine TR_pv1 (PV_nilY rfl) rfl (fun _ h => h) ?_); refine TR_pv1 (PV_fieldAddr rfl) rfl (fun _ h => h) ?_; (first | refine TR_load1 rfl 0 rfl rfl rfl (fun _ h => h) ?_ | refine TR_load1 rfl 1 rfl rfl rfl (fun _ h => h) ?_ | refine TR_load1 rfl 2 rfl rfl rfl (fun _ h => h) ?_ | refine TR_load1 rfl 3 rfl rfl rfl (fun _ h => h) ?_); refine TR_pv1 PV_move rfl (fun _ h => h) ?_; (first | refine TR_pv1 (PV_nil rfl) rfl (fun _ h => h) ?_ | refine TR_pv1 (PV_nilF rfl) rfl (fun _ h => h) ?_ | refine TR_pv1 (PV_nilY rfl) rfl (fun _ h => h) ?_); refine TR_pv1 (PV_fieldAddr rfl) rfl (fun _ h => h) ?_; (first | refine TR_load1 rfl 0 rfl rfl rfl (fun _ h => h) ?_ | refine TR_load1 rfl 1 rfl rfl rfl (fun _ h => h) ?_ | refine TR_load1 rfl 2 rfl rfl rfl (fun _ h => h) ?_ | refine TR_load1 rfl 3 rfl rfl rfl (fun _ h => h) ?_); refine TR_pv1 (PV_leq rfl rfl) rfl (fun _ h => h) ?_; refine TR_nil ?_)
    | (refine TC_plain (id := 2) (by kernel_rfl) ?_; refine TR_pv0 PV_move rfl ?_; refine TR_nil ?_)
    | (refine TC_drawn' (id := 3) [(0, 1), (1, 1), (2, 1), (3, 1), (4, 1), (5, 1), (6, 1), (7, 1), (8, 1), (9, 1), (10, 1), (11, 1), (12, 1), (13, 1), (14, 0)] mixed (by kernel_rfl) ?_; refine TR_pv1 PV_move rfl (fun _ h => h) ?_; refine TR_pv1 PV_move rfl (fun _ h => h) ?_; (first | refine TR_pv1 (PV_nil rfl) rfl (fun _ h => h) ?_ | refine TR_pv1 (PV_nilF rfl) rfl (fun _ h => h) ?_ | refine TR_pv1 (PV_nilY rfl) rfl (fun _ h => h) ?_); refine TR_pv1 (PV_fieldAddr rfl) rfl (fun _ h => h) ?_; (first | refine TR_load1 rfl 0 rfl rfl rfl (fun _ h => h) ?_ | refine TR_load1 rfl 1 rfl rfl rfl (fun _ h => h) ?_ | refine TR_load1 rfl 2 rfl rfl rfl (fun _ h => h) ?_ | refine TR_load1 rfl 3 rfl rfl rfl (fun _ h => h) ?_); refine TR_pv1 PV_move rfl (fun _ h => h) ?_; refine TR_pv1 PV_move rfl (fun _ h => h) ?_; (first | refine TR_pv1 (PV_nil rfl) rfl (fun _ h => h) ?_ | refine TR_pv1 (PV_nilF rfl) rfl (fun _ h => h) ?_ | refine TR_pv1 (PV_nilY rfl) rfl (fun _ h => h) ?_); refine TR_pv1 (PV_fieldAddr rfl) rfl (fun _ h => h) ?_; (first | refine TR_load1 rfl 0 rfl rfl rfl (fun _ h => h) ?_ | refine TR_load1 rfl 1 rfl rfl rfl (fun _ h => h) ?_ | refine TR_load1 rfl 2 rfl rfl rfl (fun _ h => h) ?_ | refine TR_load1 rfl 3 rfl rfl rfl (fun _ h => h) ?_); refine TR_pv1 (PV_min rfl rfl) rfl (fun _ h => h) ?_; (first | refine TR_pv1 (PV_add64 rfl rfl (by omega)) rfl (fun _ h => h) ?_ | refine TR_pv1 (PV_add64w rfl rfl) rfl (fun _ h => h) ?_); (first | refine TR_pv1 (PV_nil rfl) rfl (fun _ h => h) ?_ | refine TR_pv1 (PV_nilF rfl) rfl (fun _ h => h) ?_ | refine TR_pv1 (PV_nilY rfl) rfl (fun _ h => h) ?_); refine TR_pv1 (PV_fieldAddr rfl) rfl (fun _ h => h) ?_; (first | refine TR_store0_0 rfl rfl rfl rfl rfl rfl ?_ | refine TR_store0_1 rfl rfl rfl rfl rfl rfl ?_ | refine TR_store0_2 rfl rfl rfl rfl rfl rfl ?_ | refine TR_store0_3 rfl rfl rfl rfl rfl rfl ?_); refine TR_nil ?_)
    | (refine TC_drawn' (id := 4) [(0, 1), (1, 1), (2, 1), (3, 1), (4, 1), (5, 1), (6, 1), (7, 1), (8, 1), (9, 1), (10, 1), (11, 1), (12, 1), (13, 1), (14, 0)] mixed (by kernel_rfl) ?_; refine TR_pv1 PV_move rfl (fun _ h => h) ?_; refine TR_pv1 PV_move rfl (fun _ h => h) ?_; (first | refine TR_pv1 (PV_nil rfl) rfl (fun _ h => h) ?_ | refine TR_pv1 (PV_nilF rfl) rfl (fun _ h => h) ?_ | refine TR_pv1 (PV_nilY rfl) rfl (fun _ h => h) ?_); refine TR_pv1 (PV_fieldAddr rfl) rfl (fun _ h => h) ?_; (first | refine TR_load1 rfl 0 rfl rfl rfl (fun _ h => h) ?_ | refine TR_load1 rfl 1 rfl rfl rfl (fun _ h => h) ?_ | refine TR_load1 rfl 2 rfl rfl rfl (fun _ h => h) ?_ | refine TR_load1 rfl 3 rfl rfl rfl (fun _ h => h) ?_); refine TR_pv1 PV_move rfl (fun _ h => h) ?_; refine TR_pv1 PV_move rfl (fun _ h => h) ?_; (first | refine TR_pv1 (PV_nil rfl) rfl (fun _ h => h) ?_ | refine TR_pv1 (PV_nilF rfl) rfl (fun _ h => h) ?_ | refine TR_pv1 (PV_nilY rfl) rfl (fun _ h => h) ?_); refine TR_pv1 (PV_fieldAddr rfl) rfl (fun _ h => h) ?_; (first | refine TR_load1 rfl 0 rfl rfl rfl (fun _ h => h) ?_ | refine TR_load1 rfl 1 rfl rfl rfl (fun _ h => h) ?_ | refine TR_load1 rfl 2 rfl rfl rfl (fun _ h => h) ?_ | refine TR_load1 rfl 3 rfl rfl rfl (fun _ h => h) ?_); refine TR_pv1 (PV_min rfl rfl) rfl (fun _ h => h) ?_; (first | refine TR_pv1 (PV_add64 rfl rfl (by omega)) rfl (fun _ h => h) ?_ | refine TR_pv1 (PV_add64w rfl rfl) rfl (fun _ h => h) ?_); (first | refine TR_pv1 (PV_nil rfl) rfl (fun _ h => h) ?_ | refine TR_pv1 (PV_nilF rfl) rfl (fun _ h => h) ?_ | refine TR_pv1 (PV_nilY rfl) rfl (fun _ h => h) ?_); refine TR_pv1 (PV_fieldAddr rfl) rfl (fun _ h => h) ?_; (first | refine TR_store0_0 rfl rfl rfl rfl rfl rfl ?_ | refine TR_store0_1 rfl rfl rfl rfl rfl rfl ?_ | refine TR_store0_2 rfl rfl rfl rfl rfl rfl ?_ | refine TR_store0_3 rfl rfl rfl rfl rfl rfl ?_); refine TR_nil ?_)
    | (refine TC_drawn' (id := 5) [(0, 1), (1, 1), (2, 1), (3, 1), (4, 1), (5, 1), (6, 1), (7, 1), (8, 1), (9, 1), (10, 1), (11, 1)] mixed (by kernel_rfl) ?_; all_goals refine TR_pv1 PV_move rfl (fun _ h => h) ?_; all_goals refine TR_pv1 PV_move rfl (fun _ h => h) ?_; all_goals (first | refine TR_pv1 PV_move rfl (fun _ h => h) ?_ | refine TR_skip1 rfl (fun _ h => h) ?_ | (refine TR_gsplit rfl rfl rfl (fun hq => ?_) (fun hq => ?_) <;> (try simp only [qs, reduceCtorEq] at hq) <;> (try (exfalso; omega)) <;> (first | refine TR_pv1 PV_move rfl (fun _ h => h) ?_ | refine TR_skip1 rfl (fun _ h => h) ?_))); all_goals (first | refine TR_pv1 (PV_nil rfl) rfl (fun _ h => h) ?_ | refine TR_pv1 (PV_nilF rfl) rfl (fun _ h => h) ?_ | refine TR_pv1 (PV_nilY rfl) rfl (fun _ h => h) ?_ | refine TR_skip1 rfl (fun _ h => h) ?_ | (refine TR_gsplit rfl rfl rfl (fun hq => ?_) (fun hq => ?_) <;> (try simp only [qs, reduceCtorEq] at hq) <;> (try (exfalso; omega)) <;> (first | refine TR_pv1 (PV_nil rfl) rfl (fun _ h => h) ?_ | refine TR_pv1 (PV_nilF rfl) rfl (fun _ h => h) ?_ | refine TR_pv1 (PV_nilY rfl) rfl (fun _ h => h) ?_ | refine TR_skip1 rfl (fun _ h => h) ?_))); all_goals (first | refine TR_pv1 (PV_fieldAddr rfl) rfl (fun _ h => h) ?_ | refine TR_skip1 rfl (fun _ h => h) ?_ | (refine TR_gsplit rfl rfl rfl (fun hq => ?_) (fun hq => ?_) <;> (try simp only [qs, reduceCtorEq] at hq) <;> (try (exfalso; omega)) <;> (first | refine TR_pv1 (PV_fieldAddr rfl) rfl (fun _ h => h) ?_ | refine TR_skip1 rfl (fun _ h => h) ?_))); all_goals (first | refine TR_load1 rfl 0 rfl rfl rfl (fun _ h => h) ?_ | refine TR_load1 rfl 1 rfl rfl rfl (fun _ h => h) ?_ | refine TR_load1 rfl 2 rfl rfl rfl (fun _ h => h) ?_ | refine TR_load1 rfl 3 rfl rfl rfl (fun _ h => h) ?_ | refine TR_skip1 rfl (fun _ h => h) ?_ | (refine TR_gsplit rfl rfl rfl (fun hq => ?_) (fun hq => ?_) <;> (try simp only [qs, reduceCtorEq] at hq) <;> (try (exfalso; omega)) <;> (first | refine TR_load1 rfl 0 rfl rfl rfl (fun _ h => h) ?_ | refine TR_load1 rfl 1 rfl rfl rfl (fun _ h => h) ?_ | refine TR_load1 rfl 2 rfl rfl rfl (fun _ h => h) ?_ | refine TR_load1 rfl 3 rfl rfl rfl (fun _ h => h) ?_ | refine TR_skip1 rfl (fun _ h => h) ?_))); all_goals (first | refine TR_pv1 PV_move rfl (fun _ h => h) ?_ | refine TR_skip1 rfl (fun _ h => h) ?_ | (refine TR_gsplit rfl rfl rfl (fun hq => ?_) (fun hq => ?_) <;> (try simp only [qs, reduceCtorEq] at hq) <;> (try (exfalso; omega)) <;> (first | refine TR_pv1 PV_move rfl (fun _ h => h) ?_ | refine TR_skip1 rfl (fun _ h => h) ?_))); all_goals (first | refine TR_pv1 (PV_nil rfl) rfl (fun _ h => h) ?_ | refine TR_pv1 (PV_nilF rfl) rfl (fun _ h => h) ?_ | refine TR_pv1 (PV_nilY rfl) rfl (fun _ h => h) ?_ | refine TR_skip1 rfl (fun _ h => h) ?_ | (refine TR_gsplit rfl rfl rfl (fun hq => ?_) (fun hq => ?_) <;> (try simp only [qs, reduceCtorEq] at hq) <;> (try (exfalso; omega)) <;> (first | refine TR_pv1 (PV_nil rfl) rfl (fun _ h => h) ?_ | refine TR_pv1 (PV_nilF rfl) rfl (fun _ h => h) ?_ | refine TR_pv1 (PV_nilY rfl) rfl (fun _ h => h) ?_ | refine TR_skip1 rfl (fun _ h => h) ?_))); all_goals (first | refine TR_pv1 (PV_fieldAddr rfl) rfl (fun _ h => h) ?_ | refine TR_skip1 rfl (fun _ h => h) ?_ | (refine TR_gsplit rfl rfl rfl (fun hq => ?_) (fun hq => ?_) <;> (try simp only [qs, reduceCtorEq] at hq) <;> (try (exfalso; omega)) <;> (first | refine TR_pv1 (PV_fieldAddr rfl) rfl (fun _ h => h) ?_ | refine TR_skip1 rfl (fun _ h => h) ?_))); all_goals (first | refine TR_load1 rfl 0 rfl rfl rfl (fun _ h => h) ?_ | refine TR_load1 rfl 1 rfl rfl rfl (fun _ h => h) ?_ | refine TR_load1 rfl 2 rfl rfl rfl (fun _ h => h) ?_ | refine TR_load1 rfl 3 rfl rfl rfl (fun _ h => h) ?_ | refine TR_skip1 rfl (fun _ h => h) ?_ | (refine TR_gsplit rfl rfl rfl (fun hq => ?_) (fun hq => ?_) <;> (try simp only [qs, reduceCtorEq] at hq) <;> (try (exfalso; omega)) <;> (first | refine TR_load1 rfl 0 rfl rfl rfl (fun _ h => h) ?_ | refine TR_load1 rfl 1 rfl rfl rfl (fun _ h => h) ?_ | refine TR_load1 rfl 2 rfl rfl rfl (fun _ h => h) ?_ | refine TR_load1 rfl 3 rfl rfl rfl (fun _ h => h) ?_ | refine TR_skip1 rfl (fun _ h => h) ?_))); all_goals (first | refine TR_pv1 (PV_geq rfl rfl) rfl (fun _ h => h) ?_ | refine TR_skip1 rfl (fun _ h => h) ?_ | (refine TR_gsplit rfl rfl rfl (fun hq => ?_) (fun hq => ?_) <;> (try simp only [qs, reduceCtorEq] at hq) <;> (try (exfalso; omega)) <;> (first | refine TR_pv1 (PV_geq rfl rfl) rfl (fun _ h => h) ?_ | refine TR_skip1 rfl (fun _ h => h) ?_))); all_goals (first | refine TR_pv1 (PV_pick_t rfl) rfl (fun _ h => h) ?_ | refine TR_pv1 (PV_pick_f rfl) rfl (fun _ h => h) ?_); all_goals refine TR_nil ?_)
    | (refine TC_drawn' (id := 6) [(0, 1), (1, 1), (2, 1), (3, 1), (4, 1), (5, 1), (6, 1), (7, 1), (8, 1), (9, 1), (10, 1), (11, 1), (12, 0)] mixed (by kernel_rfl) ?_; refine TR_pv1 PV_move rfl (fun _ h => h) ?_; refine TR_pv1 PV_move rfl (fun _ h => h) ?_; (first | refine TR_pv1 (PV_nil rfl) rfl (fun _ h => h) ?_ | refine TR_pv1 (PV_nilF rfl) rfl (fun _ h => h) ?_ | refine TR_pv1 (PV_nilY rfl) rfl (fun _ h => h) ?_); refine TR_pv1 (PV_fieldAddr rfl) rfl (fun _ h => h) ?_; (first | refine TR_load1 rfl 0 rfl rfl rfl (fun _ h => h) ?_ | refine TR_load1 rfl 1 rfl rfl rfl (fun _ h => h) ?_ | refine TR_load1 rfl 2 rfl rfl rfl (fun _ h => h) ?_ | refine TR_load1 rfl 3 rfl rfl rfl (fun _ h => h) ?_); refine TR_pv1 PV_move rfl (fun _ h => h) ?_; (first | refine TR_pv1 (PV_nil rfl) rfl (fun _ h => h) ?_ | refine TR_pv1 (PV_nilF rfl) rfl (fun _ h => h) ?_ | refine TR_pv1 (PV_nilY rfl) rfl (fun _ h => h) ?_); refine TR_pv1 (PV_fieldAddr rfl) rfl (fun _ h => h) ?_; (first | refine TR_load1 rfl 0 rfl rfl rfl (fun _ h => h) ?_ | refine TR_load1 rfl 1 rfl rfl rfl (fun _ h => h) ?_ | refine TR_load1 rfl 2 rfl rfl rfl (fun _ h => h) ?_ | refine TR_load1 rfl 3 rfl rfl rfl (fun _ h => h) ?_); (first | refine TR_pv1 (PV_sub64 rfl rfl (by omega)) rfl (fun _ h => h) ?_ | refine TR_pv1 (PV_sub64w rfl rfl) rfl (fun _ h => h) ?_); (first | refine TR_pv1 (PV_nil rfl) rfl (fun _ h => h) ?_ | refine TR_pv1 (PV_nilF rfl) rfl (fun _ h => h) ?_ | refine TR_pv1 (PV_nilY rfl) rfl (fun _ h => h) ?_); refine TR_pv1 (PV_fieldAddr rfl) rfl (fun _ h => h) ?_; (first | refine TR_store0_0 rfl rfl rfl rfl rfl rfl ?_ | refine TR_store0_1 rfl rfl rfl rfl rfl rfl ?_ | refine TR_store0_2 rfl rfl rfl rfl rfl rfl ?_ | refine TR_store0_3 rfl rfl rfl rfl rfl rfl ?_); refine TR_nil ?_)
    | (refine TC_drawn' (id := 7) [(0, 1), (1, 1), (2, 1), (3, 1), (4, 1), (5, 1), (6, 1), (7, 1), (8, 1), (9, 1), (10, 1), (11, 1), (12, 0)] mixed (by kernel_rfl) ?_; refine TR_pv1 PV_move rfl (fun _ h => h) ?_; refine TR_pv1 PV_move rfl (fun _ h => h) ?_; (first | refine TR_pv1 (PV_nil rfl) rfl (fun _ h => h) ?_ | refine TR_pv1 (PV_nilF rfl) rfl (fun _ h => h) ?_ | refine TR_pv1 (PV_nilY rfl) rfl (fun _ h => h) ?_); refine TR_pv1 (PV_fieldAddr rfl) rfl (fun _ h => h) ?_; (first | refine TR_load1 rfl 0 rfl rfl rfl (fun _ h => h) ?_ | refine TR_load1 rfl 1 rfl rfl rfl (fun _ h => h) ?_ | refine TR_load1 rfl 2 rfl rfl rfl (fun _ h => h) ?_ | refine TR_load1 rfl 3 rfl rfl rfl (fun _ h => h) ?_); refine TR_pv1 PV_move rfl (fun _ h => h) ?_; (first | refine TR_pv1 (PV_nil rfl) rfl (fun _ h => h) ?_ | refine TR_pv1 (PV_nilF rfl) rfl (fun _ h => h) ?_ | refine TR_pv1 (PV_nilY rfl) rfl (fun _ h => h) ?_); refine TR_pv1 (PV_fieldAddr rfl) rfl (fun _ h => h) ?_; (first | refine TR_load1 rfl 0 rfl rfl rfl (fun _ h => h) ?_ | refine TR_load1 rfl 1 rfl rfl rfl (fun _ h => h) ?_ | refine TR_load1 rfl 2 rfl rfl rfl (fun _ h => h) ?_ | refine TR_load1 rfl 3 rfl rfl rfl (fun _ h => h) ?_); (first | refine TR_pv1 (PV_add64 rfl rfl (by omega)) rfl (fun _ h => h) ?_ | refine TR_pv1 (PV_add64w rfl rfl) rfl (fun _ h => h) ?_); (first | refine TR_pv1 (PV_nil rfl) rfl (fun _ h => h) ?_ | refine TR_pv1 (PV_nilF rfl) rfl (fun _ h => h) ?_ | refine TR_pv1 (PV_nilY rfl) rfl (fun _ h => h) ?_); refine TR_pv1 (PV_fieldAddr rfl) rfl (fun _ h => h) ?_; (first | refine TR_store0_0 rfl rfl rfl rfl rfl rfl ?_ | refine TR_store0_1 rfl rfl rfl rfl rfl rfl ?_ | refine TR_store0_2 rfl rfl rfl rfl rfl rfl ?_ | refine TR_store0_3 rfl rfl rfl rfl rfl rfl ?_); refine TR_nil ?_)
    | (refine TC_drawn' (id := 8) [(0, 1), (1, 1), (2, 1), (3, 1), (4, 1), (5, 1), (6, 1), (7, 1), (8, 1), (9, 1), (10, 1), (11, 1), (12, 0)] mixed (by kernel_rfl) ?_; refine TR_pv1 PV_move rfl (fun _ h => h) ?_; refine TR_pv1 PV_move rfl (fun _ h => h) ?_; (first | refine TR_pv1 (PV_nil rfl) rfl (fun _ h => h) ?_ | refine TR_pv1 (PV_nilF rfl) rfl (fun _ h => h) ?_ | refine TR_pv1 (PV_nilY rfl) rfl (fun _ h => h) ?_); refine TR_pv1 (PV_fieldAddr rfl) rfl (fun _ h => h) ?_; (first | refine TR_load1 rfl 0 rfl rfl rfl (fun _ h => h) ?_ | refine TR_load1 rfl 1 rfl rfl rfl (fun _ h => h) ?_ | refine TR_load1 rfl 2 rfl rfl rfl (fun _ h => h) ?_ | refine TR_load1 rfl 3 rfl rfl rfl (fun _ h => h) ?_); refine TR_pv1 PV_move rfl (fun _ h => h) ?_; (first | refine TR_pv1 (PV_nil rfl) rfl (fun _ h => h) ?_ | refine TR_pv1 (PV_nilF rfl) rfl (fun _ h => h) ?_ | refine TR_pv1 (PV_nilY rfl) rfl (fun _ h => h) ?_); refine TR_pv1 (PV_fieldAddr rfl) rfl (fun _ h => h) ?_; (first | refine TR_load1 rfl 0 rfl rfl rfl (fun _ h => h) ?_ | refine TR_load1 rfl 1 rfl rfl rfl (fun _ h => h) ?_ | refine TR_load1 rfl 2 rfl rfl rfl (fun _ h => h) ?_ | refine TR_load1 rfl 3 rfl rfl rfl (fun _ h => h) ?_); refine TR_pv1 (PV_min rfl rfl) rfl (fun _ h => h) ?_; (first | refine TR_pv1 (PV_nil rfl) rfl (fun _ h => h) ?_ | refine TR_pv1 (PV_nilF rfl) rfl (fun _ h => h) ?_ | refine TR_pv1 (PV_nilY rfl) rfl (fun _ h => h) ?_); refine TR_pv1 (PV_fieldAddr rfl) rfl (fun _ h => h) ?_; (first | refine TR_store0_0 rfl rfl rfl rfl rfl rfl ?_ | refine TR_store0_1 rfl rfl rfl rfl rfl rfl ?_ | refine TR_store0_2 rfl rfl rfl rfl rfl rfl ?_ | refine TR_store0_3 rfl rfl rfl rfl rfl rfl ?_); refine TR_nil ?_)
    | refine TC_cond_t rfl rfl ?_
    | refine TC_cond_f rfl rfl ?_
    | refine TC_skip ?_
    | refine TC_ret ?_
    | refine TC_exit ?_
    | refine TC_block ?_
    | refine TQ_then_ret ?_
    | refine TQ_then_exit ?_
    | refine TQ_blk ?_
    | refine TQ_blk_ret ?_
    | refine TQ_blk_here ?_
    | refine TQ_blk_past rfl ?_
    | refine TC_label ?_
    | (refine TC_cond rfl rfl (fun hq => ?_) (fun hq => ?_) <;> (try simp only [qs, reduceCtorEq] at hq) <;> (try (exfalso; omega)))
  exact TQ_ret0 rfl ⟨rfl, rfl⟩ .nil
theorem rwfast_nil : Cd Try.prog 43 [.pointer none] [] (.tuple #[]) [] := by
  refine Ct_intro Try.func43 rfl (by simp only [Try.ntmps43, List.length_cons, List.length_nil]; omega) ?_
  intro w₀ R
  repeat' first
    | refine TC_seq ?_
    | refine TQ_then ?_
    | refine TR_nil ?_
    | refine TQ_noPanic ?_
    | (refine TC_plain (id := 0) (by kernel_rfl) ?_; refine TR_pv0 PV_move rfl ?_; (first | refine TR_pv0 (PV_peq_nil rfl rfl) rfl ?_ | refine TR_pv0 (PV_peq rfl rfl) rfl ?_); refine TR_nil ?_)
    | (refine TC_drawn' (id := 1) [(0, 1), (1, 1), (2, 1), (3, 1), (4, 1), (5, 1), (6, 1), (7, 1), (8, 1), (9, 1), (10, 1), (11, 1), (12, 1), (13, 1), (14, 0)] mixed (by kernel_rfl) ?_; refine TR_pv1 PV_move rfl (fun _ h => h) ?_; refine TR_pv1 PV_move rfl (fun _ h => h) ?_; (first | refine TR_pv1 (PV_nil rfl) rfl (fun _ h => h) ?_ | refine TR_pv1 (PV_nilF rfl) rfl (fun _ h => h) ?_ | refine TR_pv1 (PV_nilY rfl) rfl (fun _ h => h) ?_); refine TR_pv1 (PV_fieldAddr rfl) rfl (fun _ h => h) ?_; (first | refine TR_load1 rfl 0 rfl rfl rfl (fun _ h => h) ?_ | refine TR_load1 rfl 1 rfl rfl rfl (fun _ h => h) ?_ | refine TR_load1 rfl 2 rfl rfl rfl (fun _ h => h) ?_ | refine TR_load1 rfl 3 rfl rfl rfl (fun _ h => h) ?_); refine TR_pv1 (PV_quo64 rfl rfl (by omega)) rfl (fun _ h => h) ?_; refine TR_pv1 PV_move rfl (fun _ h => h) ?_; (first | refine TR_pv1 (PV_nil rfl) rfl (fun _ h => h) ?_ | refine TR_pv1 (PV_nilF rfl) rfl (fun _ h => h) ?_ | refine TR_pv1 (PV_nilY rfl) rfl (fun _ h => h) ?_); refine TR_pv1 (PV_fieldAddr rfl) rfl (fun _ h => h) ?_; (first | refine TR_load1 rfl 0 rfl rfl rfl (fun _ h => h) ?_ | refine TR_load1 rfl 1 rfl rfl rfl (fun _ h => h) ?_ | refine TR_load1 rfl 2 rfl rfl rfl (fun _ h => h) ?_ | refine TR_load1 rfl 3 rfl rfl rfl (fun _ h => h) ?_); (first | refine TR_pv1 (PV_mul64 rfl rfl (by omega)) rfl (fun _ h => h) ?_ | refine TR_pv1 (PV_mul64w rfl rfl) rfl (fun _ h => h) ?_); refine TR_pv1 (PV_max rfl rfl) rfl (fun _ h => h) ?_; (first | refine TR_pv1 (PV_nil rfl) rfl (fun _ h => h) ?_ | refine TR_pv1 (PV_nilF rfl) rfl (fun _ h => h) ?_ | refine TR_pv1 (PV_nilY rfl) rfl (fun _ h => h) ?_); refine TR_pv1 (PV_fieldAddr rfl) rfl (fun _ h => h) ?_; (first | refine TR_store0_0 rfl rfl rfl rfl rfl rfl ?_ | refine TR_store0_1 rfl rfl rfl rfl rfl rfl ?_ | refine TR_store0_2 rfl rfl rfl rfl rfl rfl ?_ | refine TR_store0_3 rfl rfl rfl rfl rfl rfl ?_); refine TR_nil ?_)
    | (refine TC_drawn' (id := 2) [(0, 1), (1, 1), (2, 1), (3, 1), (4, 1), (5, 1), (6, 1), (7, 1), (8, 1), (9, 1), (10, 1), (11, 1), (12, 0)] mixed (by kernel_rfl) ?_; refine TR_pv1 PV_move rfl (fun _ h => h) ?_; refine TR_pv1 PV_move rfl (fun _ h => h) ?_; (first | refine TR_pv1 (PV_nil rfl) rfl (fun _ h => h) ?_ | refine TR_pv1 (PV_nilF rfl) rfl (fun _ h => h) ?_ | refine TR_pv1 (PV_nilY rfl) rfl (fun _ h => h) ?_); refine TR_pv1 (PV_fieldAddr rfl) rfl (fun _ h => h) ?_; (first | refine TR_load1 rfl 0 rfl rfl rfl (fun _ h => h) ?_ | refine TR_load1 rfl 1 rfl rfl rfl (fun _ h => h) ?_ | refine TR_load1 rfl 2 rfl rfl rfl (fun _ h => h) ?_ | refine TR_load1 rfl 3 rfl rfl rfl (fun _ h => h) ?_); refine TR_pv1 PV_move rfl (fun _ h => h) ?_; (first | refine TR_pv1 (PV_nil rfl) rfl (fun _ h => h) ?_ | refine TR_pv1 (PV_nilF rfl) rfl (fun _ h => h) ?_ | refine TR_pv1 (PV_nilY rfl) rfl (fun _ h => h) ?_); refine TR_pv1 (PV_fieldAddr rfl) rfl (fun _ h => h) ?_; (first | refine TR_load1 rfl 0 rfl rfl rfl (fun _ h => h) ?_ | refine TR_load1 rfl 1 rfl rfl rfl (fun _ h => h) ?_ | refine TR_load1 rfl 2 rfl rfl rfl (fun _ h => h) ?_ | refine TR_load1 rfl 3 rfl rfl rfl (fun _ h => h) ?_); refine TR_pv1 (PV_min rfl rfl) rfl (fun _ h => h) ?_; (first | refine TR_pv1 (PV_nil rfl) rfl (fun _ h => h) ?_ | refine TR_pv1 (PV_nilF rfl) rfl (fun _ h => h) ?_ | refine TR_pv1 (PV_nilY rfl) rfl (fun _ h => h) ?_); refine TR_pv1 (PV_fieldAddr rfl) rfl (fun _ h => h) ?_; (first | refine TR_store0_0 rfl rfl rfl rfl rfl rfl ?_ | refine TR_store0_1 rfl rfl rfl rfl rfl rfl ?_ | refine TR_store0_2 rfl rfl rfl rfl rfl rfl ?_ | refine TR_store0_3 rfl rfl rfl rfl rfl rfl ?_); refine TR_nil ?_)
    | (refine TC_plain (id := 3) (by kernel_rfl) ?_; refine TR_pv0 PV_move rfl ?_; (first | refine TR_pv0 (PV_nil rfl) rfl ?_ | refine TR_pv0 (PV_nilF rfl) rfl ?_ | refine TR_pv0 (PV_nilY rfl) rfl ?_); refine TR_pv0 (PV_fieldAddr rfl) rfl ?_; (first | refine TR_store0_0 rfl rfl rfl rfl rfl rfl ?_ | refine TR_store0_1 rfl rfl rfl rfl rfl rfl ?_ | refine TR_store0_2 rfl rfl rfl rfl rfl rfl ?_ | refine TR_store0_3 rfl rfl rfl rfl rfl rfl ?_); refine TR_nil ?_)
    | refine TC_cond_t rfl rfl ?_
    | refine TC_cond_f rfl rfl ?_
    | refine TC_skip ?_
    | refine TC_ret ?_
    | refine TC_exit ?_
    | refine TC_block ?_
    | refine TQ_then_ret ?_
    | refine TQ_then_exit ?_
    | refine TQ_blk ?_
    | refine TQ_blk_ret ?_
    | refine TQ_blk_here ?_
    | refine TQ_blk_past rfl ?_
    | refine TC_label ?_
    | (refine TC_cond rfl rfl (fun hq => ?_) (fun hq => ?_) <;> (try simp only [qs, reduceCtorEq] at hq) <;> (try (exfalso; omega)))
  exact TQ_ret0 rfl ⟨rfl, rfl⟩ .nil
theorem rwtimeout_nil : Cd Try.prog 44 [.pointer none] [] (.tuple #[]) [] := by
  refine Ct_intro Try.func44 rfl (by simp only [Try.ntmps44, List.length_cons, List.length_nil]; omega) ?_
  intro w₀ R
  repeat' first
    | refine TC_seq ?_
    | refine TQ_then ?_
    | refine TR_nil ?_
    | refine TQ_noPanic ?_
    | (refine TC_plain (id := 0) (by kernel_rfl) ?_; refine TR_pv0 PV_move rfl ?_; (first | refine TR_pv0 (PV_peq_nil rfl rfl) rfl ?_ | refine TR_pv0 (PV_peq rfl rfl) rfl ?_); refine TR_nil ?_)
    | (refine TC_drawn' (id := 1) [(0, 1), (1, 1), (2, 1), (3, 1), (4, 1), (5, 1), (6, 1), (7, 1), (8, 1), (9, 1), (10, 1), (11, 1), (12, 1), (13, 1), (14, 0)] mixed (by kernel_rfl) ?_; refine TR_pv1 PV_move rfl (fun _ h => h) ?_; refine TR_pv1 PV_move rfl (fun _ h => h) ?_; (first | refine TR_pv1 (PV_nil rfl) rfl (fun _ h => h) ?_ | refine TR_pv1 (PV_nilF rfl) rfl (fun _ h => h) ?_ | refine TR_pv1 (PV_nilY rfl) rfl (fun _ h => h) ?_); refine TR_pv1 (PV_fieldAddr rfl) rfl (fun _ h => h) ?_; (first | refine TR_load1 rfl 0 rfl rfl rfl (fun _ h => h) ?_ | refine TR_load1 rfl 1 rfl rfl rfl (fun _ h => h) ?_ | refine TR_load1 rfl 2 rfl rfl rfl (fun _ h => h) ?_ | refine TR_load1 rfl 3 rfl rfl rfl (fun _ h => h) ?_); refine TR_pv1 (PV_quo64 rfl rfl (by omega)) rfl (fun _ h => h) ?_; refine TR_pv1 PV_move rfl (fun _ h => h) ?_; (first | refine TR_pv1 (PV_nil rfl) rfl (fun _ h => h) ?_ | refine TR_pv1 (PV_nilF rfl) rfl (fun _ h => h) ?_ | refine TR_pv1 (PV_nilY rfl) rfl (fun _ h => h) ?_); refine TR_pv1 (PV_fieldAddr rfl) rfl (fun _ h => h) ?_; (first | refine TR_load1 rfl 0 rfl rfl rfl (fun _ h => h) ?_ | refine TR_load1 rfl 1 rfl rfl rfl (fun _ h => h) ?_ | refine TR_load1 rfl 2 rfl rfl rfl (fun _ h => h) ?_ | refine TR_load1 rfl 3 rfl rfl rfl (fun _ h => h) ?_); (first | refine TR_pv1 (PV_mul64 rfl rfl (by omega)) rfl (fun _ h => h) ?_ | refine TR_pv1 (PV_mul64w rfl rfl) rfl (fun _ h => h) ?_); refine TR_pv1 (PV_max rfl rfl) rfl (fun _ h => h) ?_; (first | refine TR_pv1 (PV_nil rfl) rfl (fun _ h => h) ?_ | refine TR_pv1 (PV_nilF rfl) rfl (fun _ h => h) ?_ | refine TR_pv1 (PV_nilY rfl) rfl (fun _ h => h) ?_); refine TR_pv1 (PV_fieldAddr rfl) rfl (fun _ h => h) ?_; (first | refine TR_store0_0 rfl rfl rfl rfl rfl rfl ?_ | refine TR_store0_1 rfl rfl rfl rfl rfl rfl ?_ | refine TR_store0_2 rfl rfl rfl rfl rfl rfl ?_ | refine TR_store0_3 rfl rfl rfl rfl rfl rfl ?_); refine TR_nil ?_)
    | (refine TC_plain (id := 2) (by kernel_rfl) ?_; refine TR_pv0 PV_move rfl ?_; refine TR_pv0 PV_move rfl ?_; (first | refine TR_pv0 (PV_nil rfl) rfl ?_ | refine TR_pv0 (PV_nilF rfl) rfl ?_ | refine TR_pv0 (PV_nilY rfl) rfl ?_); refine TR_pv0 (PV_fieldAddr rfl) rfl ?_; (first | refine TR_load0 rfl 0 rfl rfl rfl ?_ | refine TR_load0 rfl 1 rfl rfl rfl ?_ | refine TR_load0 rfl 2 rfl rfl rfl ?_ | refine TR_load0 rfl 3 rfl rfl rfl ?_); (first | refine TR_pv0 (PV_nil rfl) rfl ?_ | refine TR_pv0 (PV_nilF rfl) rfl ?_ | refine TR_pv0 (PV_nilY rfl) rfl ?_); refine TR_pv0 (PV_fieldAddr rfl) rfl ?_; (first | refine TR_store0_0 rfl rfl rfl rfl rfl rfl ?_ | refine TR_store0_1 rfl rfl rfl rfl rfl rfl ?_ | refine TR_store0_2 rfl rfl rfl rfl rfl rfl ?_ | refine TR_store0_3 rfl rfl rfl rfl rfl rfl ?_); refine TR_nil ?_)
    | (refine TC_plain (id := 3) (by kernel_rfl) ?_; refine TR_pv0 PV_move rfl ?_; (first | refine TR_pv0 (PV_nil rfl) rfl ?_ | refine TR_pv0 (PV_nilF rfl) rfl ?_ | refine TR_pv0 (PV_nilY rfl) rfl ?_); refine TR_pv0 (PV_fieldAddr rfl) rfl ?_; (first | refine TR_store0_0 rfl rfl rfl rfl rfl rfl ?_ | refine TR_store0_1 rfl rfl rfl rfl rfl rfl ?_ | refine TR_store0_2 rfl rfl rfl rfl rfl rfl ?_ | refine TR_store0_3 rfl rfl rfl rfl rfl rfl ?_); refine TR_nil ?_)
    | refine TC_cond_t rfl rfl ?_
    | refine TC_cond_f rfl rfl ?_
    | refine TC_skip ?_
    | refine TC_ret ?_
    | refine TC_exit ?_
    | refine TC_block ?_
    | refine TQ_then_ret ?_
    | refine TQ_then_exit ?_
    | refine TQ_blk ?_
    | refine TQ_blk_ret ?_
    | refine TQ_blk_here ?_
    | refine TQ_blk_past rfl ?_
    | refine TC_label ?_
    | (refine TC_cond rfl rfl (fun hq => ?_) (fun hq => ?_) <;> (try simp only [qs, reduceCtorEq] at hq) <;> (try (exfalso; omega)))
  exact TQ_ret0 rfl ⟨rfl, rfl⟩ .nil
theorem rwsize_nil : Cd Try.prog 21 [.pointer none] [] (i64 0) [] := by
  refine Ct_intro Try.func21 rfl (by simp only [Try.ntmps21, List.length_cons, List.length_nil]; omega) ?_
  intro w₀ R
  repeat' first
    | refine TC_seq ?_
    | refine TQ_then ?_
    | refine TR_nil ?_
    | refine TQ_noPanic ?_
    | (refine TC_plain (id := 0) (by kernel_rfl) ?_; refine TR_pv0 PV_assign rfl ?_; refine TR_nil ?_)
    | (refine TC_plain (id := 1) (by kernel_rfl) ?_; refine TR_pv0 PV_move rfl ?_; (first | refine TR_pv0 (PV_peq_nil rfl rfl) rfl ?_ | refine TR_pv0 (PV_peq rfl rfl) rfl ?_); refine TR_nil ?_)
    | (refine TC_plain (id := 2) (by kernel_rfl) ?_; refine TR_pv0 PV_assign rfl ?_; refine TR_nil ?_)
    | (refine TC_plain (id := 3) (by kernel_rfl) ?_; refine TR_pv0 PV_move rfl ?_; (first | refine TR_pv0 (PV_nil rfl) rfl ?_ | refine TR_pv0 (PV_nilF rfl) rfl ?_ | refine TR_pv0 (PV_nilY rfl) rfl ?_); refine TR_pv0 (PV_fieldAddr rfl) rfl ?_; (first | refine TR_load0 rfl 0 rfl rfl rfl ?_ | refine TR_load0 rfl 1 rfl rfl rfl ?_ | refine TR_load0 rfl 2 rfl rfl rfl ?_ | refine TR_load0 rfl 3 rfl rfl rfl ?_); refine TR_pv0 PV_assign rfl ?_; refine TR_nil ?_)
    | refine TC_cond_t rfl rfl ?_
    | refine TC_cond_f rfl rfl ?_
    | refine TC_skip ?_
    | refine TC_ret ?_
    | refine TC_exit ?_
    | refine TC_block ?_
    | refine TQ_then_ret ?_
    | refine TQ_then_exit ?_
    | refine TQ_blk ?_
    | refine TQ_blk_ret ?_
    | refine TQ_blk_here ?_
    | refine TQ_blk_past rfl ?_
    | refine TC_label ?_
    | (refine TC_cond rfl rfl (fun hq => ?_) (fun hq => ?_) <;> (try simp only [qs, reduceCtorEq] at hq) <;> (try (exfalso; omega)))
  exact TQ_ret1 rfl rfl rfl ⟨rfl, rfl⟩ .nil
theorem rwthresh_nil : Cd Try.prog 23 [.pointer none] [] (i64 0) [] := by
  refine Ct_intro Try.func23 rfl (by simp only [Try.ntmps23, List.length_cons, List.length_nil]; omega) ?_
  intro w₀ R
  repeat' first
    | refine TC_seq ?_
    | refine TQ_then ?_
    | refine TR_nil ?_
    | refine TQ_noPanic ?_
    | (refine TC_plain (id := 0) (by kernel_rfl) ?_; refine TR_pv0 PV_assign rfl ?_; refine TR_nil ?_)
    | (refine TC_plain (id := 1) (by kernel_rfl) ?_; refine TR_pv0 PV_move rfl ?_; (first | refine TR_pv0 (PV_peq_nil rfl rfl) rfl ?_ | refine TR_pv0 (PV_peq rfl rfl) rfl ?_); refine TR_nil ?_)
    | (refine TC_plain (id := 2) (by kernel_rfl) ?_; refine TR_pv0 PV_assign rfl ?_; refine TR_nil ?_)
    | (refine TC_plain (id := 3) (by kernel_rfl) ?_; refine TR_pv0 PV_move rfl ?_; (first | refine TR_pv0 (PV_nil rfl) rfl ?_ | refine TR_pv0 (PV_nilF rfl) rfl ?_ | refine TR_pv0 (PV_nilY rfl) rfl ?_); refine TR_pv0 (PV_fieldAddr rfl) rfl ?_; (first | refine TR_load0 rfl 0 rfl rfl rfl ?_ | refine TR_load0 rfl 1 rfl rfl rfl ?_ | refine TR_load0 rfl 2 rfl rfl rfl ?_ | refine TR_load0 rfl 3 rfl rfl rfl ?_); refine TR_pv0 PV_assign rfl ?_; refine TR_nil ?_)
    | refine TC_cond_t rfl rfl ?_
    | refine TC_cond_f rfl rfl ?_
    | refine TC_skip ?_
    | refine TC_ret ?_
    | refine TC_exit ?_
    | refine TC_block ?_
    | refine TQ_then_ret ?_
    | refine TQ_then_exit ?_
    | refine TQ_blk ?_
    | refine TQ_blk_ret ?_
    | refine TQ_blk_here ?_
    | refine TQ_blk_past rfl ?_
    | refine TC_label ?_
    | (refine TC_cond rfl rfl (fun hq => ?_) (fun hq => ?_) <;> (try simp only [qs, reduceCtorEq] at hq) <;> (try (exfalso; omega)))
  exact TQ_ret1 rfl rfl rfl ⟨rfl, rfl⟩ .nil
theorem wmeant_nil (o : WOp) : Cd Try.prog 19 [.pointer none, .agg o.cells.toArray] [] (.tuple #[]) [] := by
  obtain ⟨k, n, full⟩ := o
  refine Ct_intro Try.func19 rfl (by simp only [Try.ntmps19, List.length_cons, List.length_nil]; omega) ?_
  intro w₀ R
  repeat' first
    | refine TC_seq ?_
    | refine TQ_then ?_
    | refine TR_nil ?_
    | refine TQ_noPanic ?_
    | (refine TC_plain (id := 0) (by kernel_rfl) ?_; (refine TR_box0 rfl rfl rfl ?_; intro _); refine TR_nil ?_)
    | (refine TC_plain (id := 1) (by kernel_rfl) ?_; refine TR_pv0 (PV_fieldAddr rfl) rfl ?_; (first | refine TR_load0 rfl 0 rfl rfl rfl ?_ | refine TR_load0 rfl 1 rfl rfl rfl ?_ | refine TR_load0 rfl 2 rfl rfl rfl ?_ | refine TR_load0 rfl 3 rfl rfl rfl ?_); refine TR_nil ?_)
    | (refine TC_plain (id := 2) (by kernel_rfl) ?_; refine TR_pv0 (PV_eql rfl rfl) rfl ?_; refine TR_pv0 PV_assign rfl ?_; refine TR_nil ?_)
    | (refine TC_plain (id := 3) (by kernel_rfl) ?_; refine TR_pv0 PV_move rfl ?_; refine TR_pv0 (PV_fieldAddr rfl) rfl ?_; (first | refine TR_load0 rfl 0 rfl rfl rfl ?_ | refine TR_load0 rfl 1 rfl rfl rfl ?_ | refine TR_load0 rfl 2 rfl rfl rfl ?_ | refine TR_load0 rfl 3 rfl rfl rfl ?_); refine TR_pv0 (PV_fieldAddr rfl) rfl ?_; (first | refine TR_load0 rfl 0 rfl rfl rfl ?_ | refine TR_load0 rfl 1 rfl rfl rfl ?_ | refine TR_load0 rfl 2 rfl rfl rfl ?_ | refine TR_load0 rfl 3 rfl rfl rfl ?_); refine TR_calld0 (rwacked_nil n full) rfl rfl rfl rfl ?_; refine TR_nil ?_)
    | (refine TC_plain (id := 4) (by kernel_rfl) ?_; refine TR_pv0 (PV_eql rfl rfl) rfl ?_; refine TR_pv0 PV_assign rfl ?_; refine TR_nil ?_)
    | (refine TC_plain (id := 5) (by kernel_rfl) ?_; refine TR_pv0 PV_move rfl ?_; refine TR_calld0 (rwfast_nil) rfl rfl rfl rfl ?_; refine TR_nil ?_)
    | (refine TC_plain (id := 6) (by kernel_rfl) ?_; refine TR_pv0 (PV_eql rfl rfl) rfl ?_; refine TR_pv0 PV_assign rfl ?_; refine TR_nil ?_)
    | (refine TC_plain (id := 7) (by kernel_rfl) ?_; refine TR_pv0 PV_move rfl ?_; refine TR_calld0 (rwtimeout_nil) rfl rfl rfl rfl ?_; refine TR_nil ?_)
    | refine TC_cond_t rfl rfl ?_
    | refine TC_cond_f rfl rfl ?_
    | refine TC_skip ?_
    | refine TC_ret ?_
    | refine TC_exit ?_
    | refine TC_block ?_
    | refine TQ_then_ret ?_
    | refine TQ_then_exit ?_
    | refine TQ_blk ?_
    | refine TQ_blk_ret ?_
    | refine TQ_blk_here ?_
    | refine TQ_blk_past rfl ?_
    | refine TC_label ?_
    | (refine TC_cond rfl rfl (fun hq => ?_) (fun hq => ?_) <;> (try simp only [qs, reduceCtorEq] at hq) <;> (try (exfalso; omega)))
  all_goals exact TQ_end0d rfl ⟨rfl, rfl⟩ (List.sublist_cons_self _ _)

theorem windowPlays_cd (H : Seg) (mtu last : Int) (a : Option Addr) (len cap : Nat) (ops : List WOp) (hm : -9223372036854775808 ≤ mtu ∧ mtu ≤ 9223372036854775807)
    (hlen : len ≤ 9223372036854775807) (hs : SliceAt H 3 a len (ops.map WOp.cells)) :
    Cd Try.prog 3 [i64 mtu, i64 last, .slice a len cap] [H] (.bool true) [H] := by
  have hl : ops.length = len := by simpa using hs.len
  refine Ct_intro Try.func3 rfl (by simp only [Try.ntmps3, List.length_cons, List.length_nil]; omega) ?_
  intro w₀ R
  by_cases hgt : (500 : Int) < len
  · repeat' first
    | refine TC_seq ?_
    | refine TQ_then ?_
    | refine TR_nil ?_
    | refine TQ_noPanic ?_
    | (refine TC_plain (id := 0) (by kernel_rfl) ?_; refine TR_pv0 PV_assign rfl ?_; refine TR_nil ?_)
    | (refine TC_plain (id := 1) (by kernel_rfl) ?_; refine TR_pv0 PV_move rfl ?_; refine TR_pv0 (PV_len rfl) rfl ?_; refine TR_pv0 (PV_gtr rfl rfl) rfl ?_; refine TR_nil ?_)
    | (refine TC_plain (id := 2) (by kernel_rfl) ?_; refine TR_calld0 (winWorks) rfl rfl rfl rfl ?_; refine TR_pv0 PV_assign rfl ?_; refine TR_nil ?_)
    | (refine TC_plain (id := 3) (by kernel_rfl) ?_; refine TR_pv0 PV_move rfl ?_; refine TR_pv0 PV_move rfl ?_)
    | (refine TC_plain (id := 4) (by kernel_rfl) ?_; refine TR_pv0 PV_move rfl ?_; refine TR_pv0 PV_move rfl ?_)
    | (refine TC_plain (id := 5) (by kernel_rfl) ?_; all_goals refine TR_pv0 PV_move rfl ?_; all_goals refine TR_pv0 PV_move rfl ?_; all_goals refine TR_pv0 (PV_neq rfl rfl) rfl ?_; all_goals refine TR_pv0 PV_move rfl ?_; all_goals (first | refine TR_pv0 PV_move rfl ?_ | refine TR_skip0 rfl ?_ | (refine TR_gsplit rfl rfl rfl (fun hq => ?_) (fun hq => ?_) <;> (try simp only [qs, reduceCtorEq] at hq) <;> (try (exfalso; omega)) <;> (first | refine TR_pv0 PV_move rfl ?_ | refine TR_skip0 rfl ?_))); all_goals (first | refine TR_pv0 (PV_peq_nil rfl rfl) rfl ?_ | refine TR_pv0 (PV_peq rfl rfl) rfl ?_ | refine TR_skip0 rfl ?_ | (refine TR_gsplit rfl rfl rfl (fun hq => ?_) (fun hq => ?_) <;> (try simp only [qs, reduceCtorEq] at hq) <;> (try (exfalso; omega)) <;> (first | refine TR_pv0 (PV_peq_nil rfl rfl) rfl ?_ | refine TR_pv0 (PV_peq rfl rfl) rfl ?_ | refine TR_skip0 rfl ?_))); all_goals (first | refine TR_pv0 PV_move rfl ?_ | refine TR_skip0 rfl ?_ | (refine TR_gsplit rfl rfl rfl (fun hq => ?_) (fun hq => ?_) <;> (try simp only [qs, reduceCtorEq] at hq) <;> (try (exfalso; omega)) <;> (first | refine TR_pv0 PV_move rfl ?_ | refine TR_skip0 rfl ?_))); all_goals (first | refine TR_pv0 (PV_peq_nil rfl rfl) rfl ?_ | refine TR_pv0 (PV_peq rfl rfl) rfl ?_ | refine TR_skip0 rfl ?_ | (refine TR_gsplit rfl rfl rfl (fun hq => ?_) (fun hq => ?_) <;> (try simp only [qs, reduceCtorEq] at hq) <;> (try (exfalso; omega)) <;> (first | refine TR_pv0 (PV_peq_nil rfl rfl) rfl ?_ | refine TR_pv0 (PV_peq rfl rfl) rfl ?_ | refine TR_skip0 rfl ?_))); all_goals (first | refine TR_pv0 (PV_bne rfl rfl) rfl ?_ | refine TR_skip0 rfl ?_ | (refine TR_gsplit rfl rfl rfl (fun hq => ?_) (fun hq => ?_) <;> (try simp only [qs, reduceCtorEq] at hq) <;> (try (exfalso; omega)) <;> (first | refine TR_pv0 (PV_bne rfl rfl) rfl ?_ | refine TR_skip0 rfl ?_))); all_goals (first | refine TR_pv0 (PV_pick_t rfl) rfl ?_ | refine TR_pv0 (PV_pick_f rfl) rfl ?_); all_goals refine TR_nil ?_)
    | (refine TC_plain (id := 6) (by kernel_rfl) ?_; refine TR_pv0 PV_assign rfl ?_; refine TR_nil ?_)
    | (refine TC_plain (id := 7) (by kernel_rfl) ?_; refine TR_pv0 PV_assign rfl ?_; refine TR_nil ?_)
    | (refine TC_plain (id := 8) (by kernel_rfl) ?_; refine TR_pv0 PV_move rfl ?_; refine TR_pv0 PV_move rfl ?_; refine TR_pv0 (PV_len rfl) rfl ?_; refine TR_pv0 (PV_lss rfl rfl) rfl ?_; refine TR_nil ?_)
    | (refine TC_plain (id := 10) (by kernel_rfl) ?_; refine TR_pv0 PV_move rfl ?_; refine TR_pv0 PV_move rfl ?_; refine TR_pv0 PV_move rfl ?_; (first | refine TR_pv0 (PV_indexAddr rfl rfl (by omega)) rfl ?_ | refine TR_pv0 (PV_indexArr rfl rfl (by omega)) rfl ?_); (first | refine TR_loadA0 rfl 0 rfl rfl rfl ?_ | refine TR_loadA0 rfl 1 rfl rfl rfl ?_ | refine TR_loadA0 rfl 2 rfl rfl rfl ?_ | refine TR_loadA0 rfl 3 rfl rfl rfl ?_))
    | (refine TC_plain (id := 11) (by kernel_rfl) ?_; refine TR_pv0 PV_move rfl ?_; refine TR_pv0 PV_move rfl ?_; refine TR_pv0 PV_move rfl ?_; (first | refine TR_pv0 (PV_indexAddr rfl rfl (by omega)) rfl ?_ | refine TR_pv0 (PV_indexArr rfl rfl (by omega)) rfl ?_); (first | refine TR_loadA0 rfl 0 rfl rfl rfl ?_ | refine TR_loadA0 rfl 1 rfl rfl rfl ?_ | refine TR_loadA0 rfl 2 rfl rfl rfl ?_ | refine TR_loadA0 rfl 3 rfl rfl rfl ?_))
    | (refine TC_plain (id := 12) (by kernel_rfl) ?_; all_goals refine TR_pv0 PV_move rfl ?_)
    | (refine TC_plain (id := 13) (by kernel_rfl) ?_; refine TR_pv0 PV_assign rfl ?_; refine TR_nil ?_)
    | (refine TC_plain (id := 9) (by kernel_rfl) ?_; refine TR_pv0 PV_move rfl ?_; (first | refine TR_pv0 (PV_add64 rfl rfl (by omega)) rfl ?_ | refine TR_pv0 (PV_add64w rfl rfl) rfl ?_); refine TR_pv0 PV_assign rfl ?_; refine TR_nil ?_)
    | (refine TC_plain (id := 14) (by kernel_rfl) ?_; refine TR_calld0 (winWorks) rfl rfl rfl rfl ?_; refine TR_pv0 PV_assign rfl ?_; refine TR_nil ?_)
    | refine TC_cond_t rfl rfl ?_
    | refine TC_cond_f rfl rfl ?_
    | refine TC_skip ?_
    | refine TC_ret ?_
    | refine TC_exit ?_
    | refine TC_block ?_
    | refine TQ_then_ret ?_
    | refine TQ_then_exit ?_
    | refine TQ_blk ?_
    | refine TQ_blk_ret ?_
    | refine TQ_blk_here ?_
    | refine TQ_blk_past rfl ?_
    | refine TC_label ?_
    | (refine TC_cond rfl rfl (fun hq => ?_) (fun hq => ?_) <;> (try simp only [qs, reduceCtorEq] at hq) <;> (try (exfalso; omega)))
    | (refine TR_pv0 PV_move rfl ?_; refine TR_pv0 (PV_extract rfl rfl) rfl ?_; refine TR_pv0 (PV_extract rfl rfl) rfl ?_; refine TR_pv0 PV_assign rfl ?_; refine TR_pv0 PV_assign rfl ?_; refine TR_nil ?_)
    | (all_goals refine TR_pv0 PV_move rfl ?_)
    | (all_goals refine TR_pv0 (PV_neq rfl rfl) rfl ?_; all_goals refine TR_pv0 PV_move rfl ?_; all_goals (first | refine TR_pv0 PV_move rfl ?_ | refine TR_skip0 rfl ?_ | (refine TR_gsplit rfl rfl rfl (fun hq => ?_) (fun hq => ?_) <;> (try simp only [qs, reduceCtorEq] at hq) <;> (try (exfalso; omega)) <;> (first | refine TR_pv0 PV_move rfl ?_ | refine TR_skip0 rfl ?_))))
    | (all_goals (first | refine TR_pv0 PV_move rfl ?_ | refine TR_skip0 rfl ?_ | (refine TR_gsplit rfl rfl rfl (fun hq => ?_) (fun hq => ?_) <;> (try simp only [qs, reduceCtorEq] at hq) <;> (try (exfalso; omega)) <;> (first | refine TR_pv0 PV_move rfl ?_ | refine TR_skip0 rfl ?_))))
    | (all_goals (first | refine TR_pv0 (PV_neq rfl rfl) rfl ?_ | refine TR_skip0 rfl ?_ | (refine TR_gsplit rfl rfl rfl (fun hq => ?_) (fun hq => ?_) <;> (try simp only [qs, reduceCtorEq] at hq) <;> (try (exfalso; omega)) <;> (first | refine TR_pv0 (PV_neq rfl rfl) rfl ?_ | refine TR_skip0 rfl ?_))); all_goals (first | refine TR_pv0 (PV_pick_t rfl) rfl ?_ | refine TR_pv0 (PV_pick_f rfl) rfl ?_); all_goals refine TR_nil ?_)
    exact TQ_ret1d rfl rfl rfl ⟨rfl, rfl⟩ (.refl _)
  · by_cases hargs : winArgs mtu last
    · repeat' first
      | refine TC_seq ?_
      | refine TQ_then ?_
      | refine TR_nil ?_
      | refine TQ_noPanic ?_
      | (refine TC_plain (id := 0) (by kernel_rfl) ?_; refine TR_pv0 PV_assign rfl ?_; refine TR_nil ?_)
      | (refine TC_plain (id := 1) (by kernel_rfl) ?_; refine TR_pv0 PV_move rfl ?_; refine TR_pv0 (PV_len rfl) rfl ?_; refine TR_pv0 (PV_gtr rfl rfl) rfl ?_; refine TR_nil ?_)
      | (refine TC_plain (id := 2) (by kernel_rfl) ?_)
      | (refine TC_plain (id := 3) (by kernel_rfl) ?_; refine TR_pv0 PV_move rfl ?_; refine TR_pv0 PV_move rfl ?_; (refine TR_calln (winNew_yes mtu last hargs) rfl rfl rfl ?_; intro b); refine TR_pv0 PV_move rfl ?_; refine TR_pv0 (PV_extract rfl rfl) rfl ?_; refine TR_pv0 (PV_extract rfl rfl) rfl ?_; refine TR_pv0 PV_assign rfl ?_; refine TR_pv0 PV_assign rfl ?_; refine TR_nil ?_)
      | (refine TC_plain (id := 4) (by kernel_rfl) ?_; refine TR_pv0 PV_move rfl ?_; refine TR_pv0 PV_move rfl ?_; (refine TR_calln (rwinNew_yes mtu last hargs) rfl rfl rfl ?_; intro b'); refine TR_pv0 PV_move rfl ?_; refine TR_pv0 (PV_extract rfl rfl) rfl ?_; refine TR_pv0 (PV_extract rfl rfl) rfl ?_; refine TR_pv0 PV_assign rfl ?_; refine TR_pv0 PV_assign rfl ?_; refine TR_nil ?_)
      | (refine TC_plain (id := 5) (by kernel_rfl) ?_; all_goals refine TR_pv0 PV_move rfl ?_; all_goals refine TR_pv0 PV_move rfl ?_; all_goals refine TR_pv0 (PV_neq rfl rfl) rfl ?_; all_goals refine TR_pv0 PV_move rfl ?_; all_goals (first | refine TR_pv0 PV_move rfl ?_ | refine TR_skip0 rfl ?_ | (refine TR_gsplit rfl rfl rfl (fun hq => ?_) (fun hq => ?_) <;> (try simp only [qs, reduceCtorEq] at hq) <;> (try (exfalso; omega)) <;> (first | refine TR_pv0 PV_move rfl ?_ | refine TR_skip0 rfl ?_))); all_goals (first | refine TR_pv0 (PV_peq_nil rfl rfl) rfl ?_ | refine TR_pv0 (PV_peq rfl rfl) rfl ?_ | refine TR_skip0 rfl ?_ | (refine TR_gsplit rfl rfl rfl (fun hq => ?_) (fun hq => ?_) <;> (try simp only [qs, reduceCtorEq] at hq) <;> (try (exfalso; omega)) <;> (first | refine TR_pv0 (PV_peq_nil rfl rfl) rfl ?_ | refine TR_pv0 (PV_peq rfl rfl) rfl ?_ | refine TR_skip0 rfl ?_))); all_goals (first | refine TR_pv0 PV_move rfl ?_ | refine TR_skip0 rfl ?_ | (refine TR_gsplit rfl rfl rfl (fun hq => ?_) (fun hq => ?_) <;> (try simp only [qs, reduceCtorEq] at hq) <;> (try (exfalso; omega)) <;> (first | refine TR_pv0 PV_move rfl ?_ | refine TR_skip0 rfl ?_))); all_goals (first | refine TR_pv0 (PV_peq_nil rfl rfl) rfl ?_ | refine TR_pv0 (PV_peq rfl rfl) rfl ?_ | refine TR_skip0 rfl ?_ | (refine TR_gsplit rfl rfl rfl (fun hq => ?_) (fun hq => ?_) <;> (try simp only [qs, reduceCtorEq] at hq) <;> (try (exfalso; omega)) <;> (first | refine TR_pv0 (PV_peq_nil rfl rfl) rfl ?_ | refine TR_pv0 (PV_peq rfl rfl) rfl ?_ | refine TR_skip0 rfl ?_))); all_goals (first | refine TR_pv0 (PV_bne rfl rfl) rfl ?_ | refine TR_skip0 rfl ?_ | (refine TR_gsplit rfl rfl rfl (fun hq => ?_) (fun hq => ?_) <;> (try simp only [qs, reduceCtorEq] at hq) <;> (try (exfalso; omega)) <;> (first | refine TR_pv0 (PV_bne rfl rfl) rfl ?_ | refine TR_skip0 rfl ?_))); all_goals (first | refine TR_pv0 (PV_pick_t rfl) rfl ?_ | refine TR_pv0 (PV_pick_f rfl) rfl ?_); all_goals refine TR_nil ?_)
      | (refine TC_plain (id := 6) (by kernel_rfl) ?_; refine TR_pv0 PV_assign rfl ?_; refine TR_nil ?_)
      | (refine TC_plain (id := 7) (by kernel_rfl) ?_; refine TR_pv0 PV_assign rfl ?_; refine TR_nil ?_)
      | refine TC_cond_t rfl rfl ?_
      | refine TC_cond_f rfl rfl ?_
      | refine TC_skip ?_
      | refine TC_ret ?_
      | refine TC_exit ?_
      | refine TC_block ?_
      | refine TQ_then_ret ?_
      | refine TQ_then_exit ?_
      | refine TQ_blk ?_
      | refine TQ_blk_ret ?_
      | refine TQ_blk_here ?_
      | refine TQ_blk_past rfl ?_
      | refine TC_label ?_
      | (refine TC_cond rfl rfl (fun hq => ?_) (fun hq => ?_) <;> (try simp only [qs, reduceCtorEq] at hq) <;> (try (exfalso; omega)))
      | (refine TR_pv0 PV_assign rfl ?_; refine TR_nil ?_)
      refine TC_loop (X := Nat) (fun k => rwinAt b' ((Win.new mtu last).played ops k) :: winAt b ((Win.new mtu last).played ops k) :: H :: R) (fun k => [(2, .slice a len cap), (7, ptr b), (9, ptr b'), (11, i64 k)]) (fun k => k ≤ len) (fun k => len - k) 0 (Nat.zero_le _) ⟨rfl, rfl, rfl, rfl, trivial⟩ (fun _ h => h) ?_
      intro k σg hk
      by_cases hlt : k < len
      · obtain ⟨o, ho⟩ : ∃ o, ops[k]? = some o := ⟨ops[k], List.getElem?_eq_getElem (by omega)⟩
        obtain ⟨bb, off, T, cs, fz, ha, hmem, htk⟩ := hs.at_ k o.cells (by rw [List.getElem?_map, ho]; rfl)
        have hW := played_ok (winNew_ok hargs) ops k
        have hn := played_succ (Win.new mtu last) ops k o ho
        revert hW hn
        generalize Win.played (Win.new mtu last) ops k = W
        intro hW hn
        subst ha
        repeat' first
          | refine TC_seq ?_
          | refine TQ_then ?_
          | refine TR_nil ?_
          | refine TQ_noPanic ?_
          | (refine TC_plain (id := 0) (by kernel_rfl) ?_; refine TR_pv0 PV_assign rfl ?_; refine TR_nil ?_)
          | (refine TC_plain (id := 1) (by kernel_rfl) ?_; refine TR_pv0 PV_move rfl ?_; refine TR_pv0 (PV_len rfl) rfl ?_; refine TR_pv0 (PV_gtr rfl rfl) rfl ?_; refine TR_nil ?_)
          | (refine TC_plain (id := 2) (by kernel_rfl) ?_)
          | (refine TC_plain (id := 3) (by kernel_rfl) ?_; refine TR_pv0 PV_move rfl ?_; refine TR_pv0 PV_move rfl ?_)
          | (refine TC_plain (id := 4) (by kernel_rfl) ?_; refine TR_pv0 PV_move rfl ?_; refine TR_pv0 PV_move rfl ?_)
          | (refine TC_plain (id := 5) (by kernel_rfl) ?_; all_goals refine TR_pv0 PV_move rfl ?_; all_goals refine TR_pv0 PV_move rfl ?_; all_goals refine TR_pv0 (PV_neq rfl rfl) rfl ?_; all_goals refine TR_pv0 PV_move rfl ?_; all_goals (first | refine TR_pv0 PV_move rfl ?_ | refine TR_skip0 rfl ?_ | (refine TR_gsplit rfl rfl rfl (fun hq => ?_) (fun hq => ?_) <;> (try simp only [qs, reduceCtorEq] at hq) <;> (try (exfalso; omega)) <;> (first | refine TR_pv0 PV_move rfl ?_ | refine TR_skip0 rfl ?_))); all_goals (first | refine TR_pv0 (PV_peq_nil rfl rfl) rfl ?_ | refine TR_pv0 (PV_peq rfl rfl) rfl ?_ | refine TR_skip0 rfl ?_ | (refine TR_gsplit rfl rfl rfl (fun hq => ?_) (fun hq => ?_) <;> (try simp only [qs, reduceCtorEq] at hq) <;> (try (exfalso; omega)) <;> (first | refine TR_pv0 (PV_peq_nil rfl rfl) rfl ?_ | refine TR_pv0 (PV_peq rfl rfl) rfl ?_ | refine TR_skip0 rfl ?_))); all_goals (first | refine TR_pv0 PV_move rfl ?_ | refine TR_skip0 rfl ?_ | (refine TR_gsplit rfl rfl rfl (fun hq => ?_) (fun hq => ?_) <;> (try simp only [qs, reduceCtorEq] at hq) <;> (try (exfalso; omega)) <;> (first | refine TR_pv0 PV_move rfl ?_ | refine TR_skip0 rfl ?_))); all_goals (first | refine TR_pv0 (PV_peq_nil rfl rfl) rfl ?_ | refine TR_pv0 (PV_peq rfl rfl) rfl ?_ | refine TR_skip0 rfl ?_ | (refine TR_gsplit rfl rfl rfl (fun hq => ?_) (fun hq => ?_) <;> (try simp only [qs, reduceCtorEq] at hq) <;> (try (exfalso; omega)) <;> (first | refine TR_pv0 (PV_peq_nil rfl rfl) rfl ?_ | refine TR_pv0 (PV_peq rfl rfl) rfl ?_ | refine TR_skip0 rfl ?_))); all_goals (first | refine TR_pv0 (PV_bne rfl rfl) rfl ?_ | refine TR_skip0 rfl ?_ | (refine TR_gsplit rfl rfl rfl (fun hq => ?_) (fun hq => ?_) <;> (try simp only [qs, reduceCtorEq] at hq) <;> (try (exfalso; omega)) <;> (first | refine TR_pv0 (PV_bne rfl rfl) rfl ?_ | refine TR_skip0 rfl ?_))); all_goals (first | refine TR_pv0 (PV_pick_t rfl) rfl ?_ | refine TR_pv0 (PV_pick_f rfl) rfl ?_); all_goals refine TR_nil ?_)
          | (refine TC_plain (id := 6) (by kernel_rfl) ?_; refine TR_pv0 PV_assign rfl ?_; refine TR_nil ?_)
          | (refine TC_plain (id := 7) (by kernel_rfl) ?_; refine TR_pv0 PV_assign rfl ?_; refine TR_nil ?_)
          | (refine TC_plain (id := 8) (by kernel_rfl) ?_; refine TR_pv0 PV_move rfl ?_; refine TR_pv0 PV_move rfl ?_; refine TR_pv0 (PV_len rfl) rfl ?_; refine TR_pv0 (PV_lss rfl rfl) rfl ?_; refine TR_nil ?_)
          | (refine TC_plain (id := 10) (by kernel_rfl) ?_; refine TR_pv0 PV_move rfl ?_; refine TR_pv0 PV_move rfl ?_; refine TR_pv0 PV_move rfl ?_; (first | refine TR_pv0 (PV_indexAddr rfl rfl (by omega)) rfl ?_ | refine TR_pv0 (PV_indexArr rfl rfl (by omega)) rfl ?_); (first | refine TR_loadAM0 rfl hmem 2 rfl htk rfl rfl ?_ | refine TR_loadA0 rfl 0 rfl rfl rfl ?_ | refine TR_loadA0 rfl 1 rfl rfl rfl ?_ | refine TR_loadA0 rfl 2 rfl rfl rfl ?_ | refine TR_loadA0 rfl 3 rfl rfl rfl ?_); refine TR_calld1_1 (wdoes_ct b W hW o) rfl rfl rfl rfl ?_; refine TR_nil ?_)
          | (refine TC_plain (id := 11) (by kernel_rfl) ?_; refine TR_pv0 PV_move rfl ?_; refine TR_pv0 PV_move rfl ?_; refine TR_pv0 PV_move rfl ?_; (first | refine TR_pv0 (PV_indexAddr rfl rfl (by omega)) rfl ?_ | refine TR_pv0 (PV_indexArr rfl rfl (by omega)) rfl ?_); (first | refine TR_loadAM0 rfl hmem 2 rfl htk rfl rfl ?_ | refine TR_loadA0 rfl 0 rfl rfl rfl ?_ | refine TR_loadA0 rfl 1 rfl rfl rfl ?_ | refine TR_loadA0 rfl 2 rfl rfl rfl ?_ | refine TR_loadA0 rfl 3 rfl rfl rfl ?_); refine TR_calld1_0 (wmeant_ct b' W hW o) rfl rfl rfl rfl ?_; refine TR_nil ?_)
          | (refine TC_plain (id := 12) (by kernel_rfl) ?_; all_goals refine TR_pv0 PV_move rfl ?_; all_goals (first | refine TR_calld1_0 (wsize_ct _ _) rfl rfl rfl rfl ?_ | refine TR_calld1_1 (wsize_ct _ _) rfl rfl rfl rfl ?_); all_goals refine TR_pv0 PV_move rfl ?_; all_goals (first | refine TR_calld1_0 (rwsize_ct _ _) rfl rfl rfl rfl ?_ | refine TR_calld1_1 (rwsize_ct _ _) rfl rfl rfl rfl ?_); all_goals refine TR_pv0 (PV_neq rfl rfl) rfl ?_; all_goals refine TR_pv0 PV_move rfl ?_; all_goals (first | refine TR_pv0 PV_move rfl ?_ | refine TR_skip0 rfl ?_ | (refine TR_gsplit rfl rfl rfl (fun hq => ?_) (fun hq => ?_) <;> (try simp only [qs, reduceCtorEq] at hq) <;> (try (exfalso; omega)) <;> (first | refine TR_pv0 PV_move rfl ?_ | refine TR_skip0 rfl ?_))); all_goals (first | refine TR_calld1_0 (wthresh_ct _ _) rfl rfl rfl rfl ?_ | refine TR_calld1_1 (wthresh_ct _ _) rfl rfl rfl rfl ?_ | refine TR_skip0 rfl ?_ | (refine TR_gsplit rfl rfl rfl (fun hq => ?_) (fun hq => ?_) <;> (try simp only [qs, reduceCtorEq] at hq) <;> (try (exfalso; omega)) <;> (first | refine TR_calld1_0 (wthresh_ct _ _) rfl rfl rfl rfl ?_ | refine TR_calld1_1 (wthresh_ct _ _) rfl rfl rfl rfl ?_ | refine TR_skip0 rfl ?_))); all_goals (first | refine TR_pv0 PV_move rfl ?_ | refine TR_skip0 rfl ?_ | (refine TR_gsplit rfl rfl rfl (fun hq => ?_) (fun hq => ?_) <;> (try simp only [qs, reduceCtorEq] at hq) <;> (try (exfalso; omega)) <;> (first | refine TR_pv0 PV_move rfl ?_ | refine TR_skip0 rfl ?_))); all_goals (first | refine TR_calld1_0 (rwthresh_ct _ _) rfl rfl rfl rfl ?_ | refine TR_calld1_1 (rwthresh_ct _ _) rfl rfl rfl rfl ?_ | refine TR_skip0 rfl ?_ | (refine TR_gsplit rfl rfl rfl (fun hq => ?_) (fun hq => ?_) <;> (try simp only [qs, reduceCtorEq] at hq) <;> (try (exfalso; omega)) <;> (first | refine TR_calld1_0 (rwthresh_ct _ _) rfl rfl rfl rfl ?_ | refine TR_calld1_1 (rwthresh_ct _ _) rfl rfl rfl rfl ?_ | refine TR_skip0 rfl ?_))); all_goals (first | refine TR_pv0 (PV_neq rfl rfl) rfl ?_ | refine TR_skip0 rfl ?_ | (refine TR_gsplit rfl rfl rfl (fun hq => ?_) (fun hq => ?_) <;> (try simp only [qs, reduceCtorEq] at hq) <;> (try (exfalso; omega)) <;> (first | refine TR_pv0 (PV_neq rfl rfl) rfl ?_ | refine TR_skip0 rfl ?_))); all_goals (first | refine TR_pv0 (PV_pick_t rfl) rfl ?_ | refine TR_pv0 (PV_pick_f rfl) rfl ?_); all_goals refine TR_nil ?_)
          | (refine TC_plain (id := 13) (by kernel_rfl) ?_; refine TR_pv0 PV_assign rfl ?_; refine TR_nil ?_)
          | (refine TC_plain (id := 9) (by kernel_rfl) ?_; refine TR_pv0 PV_move rfl ?_; (first | refine TR_pv0 (PV_add64 rfl rfl (by omega)) rfl ?_ | refine TR_pv0 (PV_add64w rfl rfl) rfl ?_); refine TR_pv0 PV_assign rfl ?_; refine TR_nil ?_)
          | (refine TC_plain (id := 14) (by kernel_rfl) ?_)
          | refine TC_cond_t rfl rfl ?_
          | refine TC_cond_f rfl rfl ?_
          | refine TC_skip ?_
          | refine TC_ret ?_
          | refine TC_exit ?_
          | refine TC_block ?_
          | refine TQ_then_ret ?_
          | refine TQ_then_exit ?_
          | refine TQ_blk ?_
          | refine TQ_blk_ret ?_
          | refine TQ_blk_here ?_
          | refine TQ_blk_past rfl ?_
          | refine TC_label ?_
          | (refine TC_cond rfl rfl (fun hq => ?_) (fun hq => ?_) <;> (try simp only [qs, reduceCtorEq] at hq) <;> (try (exfalso; omega)))
          | (refine TR_pv0 PV_assign rfl ?_; refine TR_nil ?_)
          | (refine TR_pv0 PV_move rfl ?_; refine TR_pv0 (PV_extract rfl rfl) rfl ?_; refine TR_pv0 (PV_extract rfl rfl) rfl ?_; refine TR_pv0 PV_assign rfl ?_; refine TR_pv0 PV_assign rfl ?_; refine TR_nil ?_)
        refine TQ_round (k + 1) ?_ ?_ ?_ ?_
        · exact hlt
        · exact Nat.sub_lt_sub_left hlt (Nat.lt_succ_self k)
        · exact ⟨rfl, rfl, rfl, rfl, trivial⟩
        · intro w h; rw [hn]; exact h
      · repeat' first
        | refine TC_seq ?_
        | refine TQ_then ?_
        | refine TR_nil ?_
        | refine TQ_noPanic ?_
        | (refine TC_plain (id := 0) (by kernel_rfl) ?_; refine TR_pv0 PV_assign rfl ?_; refine TR_nil ?_)
        | (refine TC_plain (id := 1) (by kernel_rfl) ?_; refine TR_pv0 PV_move rfl ?_; refine TR_pv0 (PV_len rfl) rfl ?_; refine TR_pv0 (PV_gtr rfl rfl) rfl ?_; refine TR_nil ?_)
        | (refine TC_plain (id := 2) (by kernel_rfl) ?_; refine TR_calld0 (winWorks) rfl rfl rfl rfl ?_; refine TR_pv0 PV_assign rfl ?_; refine TR_nil ?_)
        | (refine TC_plain (id := 3) (by kernel_rfl) ?_; refine TR_pv0 PV_move rfl ?_; refine TR_pv0 PV_move rfl ?_)
        | (refine TC_plain (id := 4) (by kernel_rfl) ?_; refine TR_pv0 PV_move rfl ?_; refine TR_pv0 PV_move rfl ?_)
        | (refine TC_plain (id := 5) (by kernel_rfl) ?_; all_goals refine TR_pv0 PV_move rfl ?_; all_goals refine TR_pv0 PV_move rfl ?_; all_goals refine TR_pv0 (PV_neq rfl rfl) rfl ?_; all_goals refine TR_pv0 PV_move rfl ?_; all_goals (first | refine TR_pv0 PV_move rfl ?_ | refine TR_skip0 rfl ?_ | (refine TR_gsplit rfl rfl rfl (fun hq => ?_) (fun hq => ?_) <;> (try simp only [qs, reduceCtorEq] at hq) <;> (try (exfalso; omega)) <;> (first | refine TR_pv0 PV_move rfl ?_ | refine TR_skip0 rfl ?_))); all_goals (first | refine TR_pv0 (PV_peq_nil rfl rfl) rfl ?_ | refine TR_pv0 (PV_peq rfl rfl) rfl ?_ | refine TR_skip0 rfl ?_ | (refine TR_gsplit rfl rfl rfl (fun hq => ?_) (fun hq => ?_) <;> (try simp only [qs, reduceCtorEq] at hq) <;> (try (exfalso; omega)) <;> (first | refine TR_pv0 (PV_peq_nil rfl rfl) rfl ?_ | refine TR_pv0 (PV_peq rfl rfl) rfl ?_ | refine TR_skip0 rfl ?_))); all_goals (first | refine TR_pv0 PV_move rfl ?_ | refine TR_skip0 rfl ?_ | (refine TR_gsplit rfl rfl rfl (fun hq => ?_) (fun hq => ?_) <;> (try simp only [qs, reduceCtorEq] at hq) <;> (try (exfalso; omega)) <;> (first | refine TR_pv0 PV_move rfl ?_ | refine TR_skip0 rfl ?_))); all_goals (first | refine TR_pv0 (PV_peq_nil rfl rfl) rfl ?_ | refine TR_pv0 (PV_peq rfl rfl) rfl ?_ | refine TR_skip0 rfl ?_ | (refine TR_gsplit rfl rfl rfl (fun hq => ?_) (fun hq => ?_) <;> (try simp only [qs, reduceCtorEq] at hq) <;> (try (exfalso; omega)) <;> (first | refine TR_pv0 (PV_peq_nil rfl rfl) rfl ?_ | refine TR_pv0 (PV_peq rfl rfl) rfl ?_ | refine TR_skip0 rfl ?_))); all_goals (first | refine TR_pv0 (PV_bne rfl rfl) rfl ?_ | refine TR_skip0 rfl ?_ | (refine TR_gsplit rfl rfl rfl (fun hq => ?_) (fun hq => ?_) <;> (try simp only [qs, reduceCtorEq] at hq) <;> (try (exfalso; omega)) <;> (first | refine TR_pv0 (PV_bne rfl rfl) rfl ?_ | refine TR_skip0 rfl ?_))); all_goals (first | refine TR_pv0 (PV_pick_t rfl) rfl ?_ | refine TR_pv0 (PV_pick_f rfl) rfl ?_); all_goals refine TR_nil ?_)
        | (refine TC_plain (id := 6) (by kernel_rfl) ?_; refine TR_pv0 PV_assign rfl ?_; refine TR_nil ?_)
        | (refine TC_plain (id := 7) (by kernel_rfl) ?_; refine TR_pv0 PV_assign rfl ?_; refine TR_nil ?_)
        | (refine TC_plain (id := 8) (by kernel_rfl) ?_; refine TR_pv0 PV_move rfl ?_; refine TR_pv0 PV_move rfl ?_; refine TR_pv0 (PV_len rfl) rfl ?_; refine TR_pv0 (PV_lss rfl rfl) rfl ?_; refine TR_nil ?_)
        | (refine TC_plain (id := 10) (by kernel_rfl) ?_; refine TR_pv0 PV_move rfl ?_; refine TR_pv0 PV_move rfl ?_; refine TR_pv0 PV_move rfl ?_; (first | refine TR_pv0 (PV_indexAddr rfl rfl (by omega)) rfl ?_ | refine TR_pv0 (PV_indexArr rfl rfl (by omega)) rfl ?_); (first | refine TR_loadA0 rfl 0 rfl rfl rfl ?_ | refine TR_loadA0 rfl 1 rfl rfl rfl ?_ | refine TR_loadA0 rfl 2 rfl rfl rfl ?_ | refine TR_loadA0 rfl 3 rfl rfl rfl ?_))
        | (refine TC_plain (id := 11) (by kernel_rfl) ?_; refine TR_pv0 PV_move rfl ?_; refine TR_pv0 PV_move rfl ?_; refine TR_pv0 PV_move rfl ?_; (first | refine TR_pv0 (PV_indexAddr rfl rfl (by omega)) rfl ?_ | refine TR_pv0 (PV_indexArr rfl rfl (by omega)) rfl ?_); (first | refine TR_loadA0 rfl 0 rfl rfl rfl ?_ | refine TR_loadA0 rfl 1 rfl rfl rfl ?_ | refine TR_loadA0 rfl 2 rfl rfl rfl ?_ | refine TR_loadA0 rfl 3 rfl rfl rfl ?_))
        | (refine TC_plain (id := 12) (by kernel_rfl) ?_; all_goals refine TR_pv0 PV_move rfl ?_)
        | (refine TC_plain (id := 13) (by kernel_rfl) ?_; refine TR_pv0 PV_assign rfl ?_; refine TR_nil ?_)
        | (refine TC_plain (id := 9) (by kernel_rfl) ?_; refine TR_pv0 PV_move rfl ?_; (first | refine TR_pv0 (PV_add64 rfl rfl (by omega)) rfl ?_ | refine TR_pv0 (PV_add64w rfl rfl) rfl ?_); refine TR_pv0 PV_assign rfl ?_; refine TR_nil ?_)
        | (refine TC_plain (id := 14) (by kernel_rfl) ?_; refine TR_calld0 (winWorks) rfl rfl rfl rfl ?_; refine TR_pv0 PV_assign rfl ?_; refine TR_nil ?_)
        | refine TC_cond_t rfl rfl ?_
        | refine TC_cond_f rfl rfl ?_
        | refine TC_skip ?_
        | refine TC_ret ?_
        | refine TC_exit ?_
        | refine TC_block ?_
        | refine TQ_then_ret ?_
        | refine TQ_then_exit ?_
        | refine TQ_blk ?_
        | refine TQ_blk_ret ?_
        | refine TQ_blk_here ?_
        | refine TQ_blk_past rfl ?_
        | refine TC_label ?_
        | (refine TC_cond rfl rfl (fun hq => ?_) (fun hq => ?_) <;> (try simp only [qs, reduceCtorEq] at hq) <;> (try (exfalso; omega)))
        | (refine TR_pv0 PV_move rfl ?_; refine TR_pv0 (PV_extract rfl rfl) rfl ?_; refine TR_pv0 (PV_extract rfl rfl) rfl ?_; refine TR_pv0 PV_assign rfl ?_; refine TR_pv0 PV_assign rfl ?_; refine TR_nil ?_)
        | (all_goals refine TR_pv0 PV_move rfl ?_)
        | (all_goals refine TR_pv0 (PV_neq rfl rfl) rfl ?_; all_goals refine TR_pv0 PV_move rfl ?_; all_goals (first | refine TR_pv0 PV_move rfl ?_ | refine TR_skip0 rfl ?_ | (refine TR_gsplit rfl rfl rfl (fun hq => ?_) (fun hq => ?_) <;> (try simp only [qs, reduceCtorEq] at hq) <;> (try (exfalso; omega)) <;> (first | refine TR_pv0 PV_move rfl ?_ | refine TR_skip0 rfl ?_))))
        | (all_goals (first | refine TR_pv0 PV_move rfl ?_ | refine TR_skip0 rfl ?_ | (refine TR_gsplit rfl rfl rfl (fun hq => ?_) (fun hq => ?_) <;> (try simp only [qs, reduceCtorEq] at hq) <;> (try (exfalso; omega)) <;> (first | refine TR_pv0 PV_move rfl ?_ | refine TR_skip0 rfl ?_))))
        | (all_goals (first | refine TR_pv0 (PV_neq rfl rfl) rfl ?_ | refine TR_skip0 rfl ?_ | (refine TR_gsplit rfl rfl rfl (fun hq => ?_) (fun hq => ?_) <;> (try simp only [qs, reduceCtorEq] at hq) <;> (try (exfalso; omega)) <;> (first | refine TR_pv0 (PV_neq rfl rfl) rfl ?_ | refine TR_skip0 rfl ?_))); all_goals (first | refine TR_pv0 (PV_pick_t rfl) rfl ?_ | refine TR_pv0 (PV_pick_f rfl) rfl ?_); all_goals refine TR_nil ?_)
        exact TQ_ret1d rfl rfl rfl ⟨rfl, rfl⟩ (.cons _ (.cons _ (.refl _)))
    · repeat' first
      | refine TC_seq ?_
      | refine TQ_then ?_
      | refine TR_nil ?_
      | refine TQ_noPanic ?_
      | (refine TC_plain (id := 0) (by kernel_rfl) ?_; refine TR_pv0 PV_assign rfl ?_; refine TR_nil ?_)
      | (refine TC_plain (id := 1) (by kernel_rfl) ?_; refine TR_pv0 PV_move rfl ?_; refine TR_pv0 (PV_len rfl) rfl ?_; refine TR_pv0 (PV_gtr rfl rfl) rfl ?_; refine TR_nil ?_)
      | (refine TC_plain (id := 2) (by kernel_rfl) ?_)
      | (refine TC_plain (id := 3) (by kernel_rfl) ?_; refine TR_pv0 PV_move rfl ?_; refine TR_pv0 PV_move rfl ?_; refine TR_calld0 (winNew_no mtu last hm hargs) rfl rfl rfl rfl ?_; refine TR_pv0 PV_move rfl ?_; refine TR_pv0 (PV_extract rfl rfl) rfl ?_; refine TR_pv0 (PV_extract rfl rfl) rfl ?_; refine TR_pv0 PV_assign rfl ?_; refine TR_pv0 PV_assign rfl ?_; refine TR_nil ?_)
      | (refine TC_plain (id := 4) (by kernel_rfl) ?_; refine TR_pv0 PV_move rfl ?_; refine TR_pv0 PV_move rfl ?_; refine TR_calld0 (rwinNew_no mtu last hm hargs) rfl rfl rfl rfl ?_; refine TR_pv0 PV_move rfl ?_; refine TR_pv0 (PV_extract rfl rfl) rfl ?_; refine TR_pv0 (PV_extract rfl rfl) rfl ?_; refine TR_pv0 PV_assign rfl ?_; refine TR_pv0 PV_assign rfl ?_; refine TR_nil ?_)
      | (refine TC_plain (id := 5) (by kernel_rfl) ?_; all_goals refine TR_pv0 PV_move rfl ?_; all_goals refine TR_pv0 PV_move rfl ?_; all_goals refine TR_pv0 (PV_neq rfl rfl) rfl ?_; all_goals refine TR_pv0 PV_move rfl ?_; all_goals (first | refine TR_pv0 PV_move rfl ?_ | refine TR_skip0 rfl ?_ | (refine TR_gsplit rfl rfl rfl (fun hq => ?_) (fun hq => ?_) <;> (try simp only [qs, reduceCtorEq] at hq) <;> (try (exfalso; omega)) <;> (first | refine TR_pv0 PV_move rfl ?_ | refine TR_skip0 rfl ?_))); all_goals (first | refine TR_pv0 (PV_peq_nil rfl rfl) rfl ?_ | refine TR_pv0 (PV_peq rfl rfl) rfl ?_ | refine TR_skip0 rfl ?_ | (refine TR_gsplit rfl rfl rfl (fun hq => ?_) (fun hq => ?_) <;> (try simp only [qs, reduceCtorEq] at hq) <;> (try (exfalso; omega)) <;> (first | refine TR_pv0 (PV_peq_nil rfl rfl) rfl ?_ | refine TR_pv0 (PV_peq rfl rfl) rfl ?_ | refine TR_skip0 rfl ?_))); all_goals (first | refine TR_pv0 PV_move rfl ?_ | refine TR_skip0 rfl ?_ | (refine TR_gsplit rfl rfl rfl (fun hq => ?_) (fun hq => ?_) <;> (try simp only [qs, reduceCtorEq] at hq) <;> (try (exfalso; omega)) <;> (first | refine TR_pv0 PV_move rfl ?_ | refine TR_skip0 rfl ?_))); all_goals (first | refine TR_pv0 (PV_peq_nil rfl rfl) rfl ?_ | refine TR_pv0 (PV_peq rfl rfl) rfl ?_ | refine TR_skip0 rfl ?_ | (refine TR_gsplit rfl rfl rfl (fun hq => ?_) (fun hq => ?_) <;> (try simp only [qs, reduceCtorEq] at hq) <;> (try (exfalso; omega)) <;> (first | refine TR_pv0 (PV_peq_nil rfl rfl) rfl ?_ | refine TR_pv0 (PV_peq rfl rfl) rfl ?_ | refine TR_skip0 rfl ?_))); all_goals (first | refine TR_pv0 (PV_bne rfl rfl) rfl ?_ | refine TR_skip0 rfl ?_ | (refine TR_gsplit rfl rfl rfl (fun hq => ?_) (fun hq => ?_) <;> (try simp only [qs, reduceCtorEq] at hq) <;> (try (exfalso; omega)) <;> (first | refine TR_pv0 (PV_bne rfl rfl) rfl ?_ | refine TR_skip0 rfl ?_))); all_goals (first | refine TR_pv0 (PV_pick_t rfl) rfl ?_ | refine TR_pv0 (PV_pick_f rfl) rfl ?_); all_goals refine TR_nil ?_)
      | (refine TC_plain (id := 6) (by kernel_rfl) ?_; refine TR_pv0 PV_assign rfl ?_; refine TR_nil ?_)
      | (refine TC_plain (id := 7) (by kernel_rfl) ?_; refine TR_pv0 PV_assign rfl ?_; refine TR_nil ?_)
      | refine TC_cond_t rfl rfl ?_
      | refine TC_cond_f rfl rfl ?_
      | refine TC_skip ?_
      | refine TC_ret ?_
      | refine TC_exit ?_
      | refine TC_block ?_
      | refine TQ_then_ret ?_
      | refine TQ_then_exit ?_
      | refine TQ_blk ?_
      | refine TQ_blk_ret ?_
      | refine TQ_blk_here ?_
      | refine TQ_blk_past rfl ?_
      | refine TC_label ?_
      | (refine TC_cond rfl rfl (fun hq => ?_) (fun hq => ?_) <;> (try simp only [qs, reduceCtorEq] at hq) <;> (try (exfalso; omega)))
      | (refine TR_pv0 PV_assign rfl ?_; refine TR_nil ?_)
      refine TC_loop (X := Nat) (fun k => H :: R) (fun k => [(2, .slice a len cap), (7, .pointer none), (9, .pointer none), (11, i64 k)]) (fun k => k ≤ len) (fun k => len - k) 0 (Nat.zero_le _) ⟨rfl, rfl, rfl, rfl, trivial⟩ (fun _ h => h) ?_
      intro k σg hk
      by_cases hlt : k < len
      · obtain ⟨o, ho⟩ : ∃ o, ops[k]? = some o := ⟨ops[k], List.getElem?_eq_getElem (by omega)⟩
        obtain ⟨bb, off, T, cs, fz, ha, hmem, htk⟩ := hs.at_ k o.cells (by rw [List.getElem?_map, ho]; rfl)
        subst ha
        repeat' first
          | refine TC_seq ?_
          | refine TQ_then ?_
          | refine TR_nil ?_
          | refine TQ_noPanic ?_
          | (refine TC_plain (id := 0) (by kernel_rfl) ?_; refine TR_pv0 PV_assign rfl ?_; refine TR_nil ?_)
          | (refine TC_plain (id := 1) (by kernel_rfl) ?_; refine TR_pv0 PV_move rfl ?_; refine TR_pv0 (PV_len rfl) rfl ?_; refine TR_pv0 (PV_gtr rfl rfl) rfl ?_; refine TR_nil ?_)
          | (refine TC_plain (id := 2) (by kernel_rfl) ?_)
          | (refine TC_plain (id := 3) (by kernel_rfl) ?_; refine TR_pv0 PV_move rfl ?_; refine TR_pv0 PV_move rfl ?_)
          | (refine TC_plain (id := 4) (by kernel_rfl) ?_; refine TR_pv0 PV_move rfl ?_; refine TR_pv0 PV_move rfl ?_)
          | (refine TC_plain (id := 5) (by kernel_rfl) ?_; all_goals refine TR_pv0 PV_move rfl ?_; all_goals refine TR_pv0 PV_move rfl ?_; all_goals refine TR_pv0 (PV_neq rfl rfl) rfl ?_; all_goals refine TR_pv0 PV_move rfl ?_; all_goals (first | refine TR_pv0 PV_move rfl ?_ | refine TR_skip0 rfl ?_ | (refine TR_gsplit rfl rfl rfl (fun hq => ?_) (fun hq => ?_) <;> (try simp only [qs, reduceCtorEq] at hq) <;> (try (exfalso; omega)) <;> (first | refine TR_pv0 PV_move rfl ?_ | refine TR_skip0 rfl ?_))); all_goals (first | refine TR_pv0 (PV_peq_nil rfl rfl) rfl ?_ | refine TR_pv0 (PV_peq rfl rfl) rfl ?_ | refine TR_skip0 rfl ?_ | (refine TR_gsplit rfl rfl rfl (fun hq => ?_) (fun hq => ?_) <;> (try simp only [qs, reduceCtorEq] at hq) <;> (try (exfalso; omega)) <;> (first | refine TR_pv0 (PV_peq_nil rfl rfl) rfl ?_ | refine TR_pv0 (PV_peq rfl rfl) rfl ?_ | refine TR_skip0 rfl ?_))); all_goals (first | refine TR_pv0 PV_move rfl ?_ | refine TR_skip0 rfl ?_ | (refine TR_gsplit rfl rfl rfl (fun hq => ?_) (fun hq => ?_) <;> (try simp only [qs, reduceCtorEq] at hq) <;> (try (exfalso; omega)) <;> (first | refine TR_pv0 PV_move rfl ?_ | refine TR_skip0 rfl ?_))); all_goals (first | refine TR_pv0 (PV_peq_nil rfl rfl) rfl ?_ | refine TR_pv0 (PV_peq rfl rfl) rfl ?_ | refine TR_skip0 rfl ?_ | (refine TR_gsplit rfl rfl rfl (fun hq => ?_) (fun hq => ?_) <;> (try simp only [qs, reduceCtorEq] at hq) <;> (try (exfalso; omega)) <;> (first | refine TR_pv0 (PV_peq_nil rfl rfl) rfl ?_ | refine TR_pv0 (PV_peq rfl rfl) rfl ?_ | refine TR_skip0 rfl ?_))); all_goals (first | refine TR_pv0 (PV_bne rfl rfl) rfl ?_ | refine TR_skip0 rfl ?_ | (refine TR_gsplit rfl rfl rfl (fun hq => ?_) (fun hq => ?_) <;> (try simp only [qs, reduceCtorEq] at hq) <;> (try (exfalso; omega)) <;> (first | refine TR_pv0 (PV_bne rfl rfl) rfl ?_ | refine TR_skip0 rfl ?_))); all_goals (first | refine TR_pv0 (PV_pick_t rfl) rfl ?_ | refine TR_pv0 (PV_pick_f rfl) rfl ?_); all_goals refine TR_nil ?_)
          | (refine TC_plain (id := 6) (by kernel_rfl) ?_; refine TR_pv0 PV_assign rfl ?_; refine TR_nil ?_)
          | (refine TC_plain (id := 7) (by kernel_rfl) ?_; refine TR_pv0 PV_assign rfl ?_; refine TR_nil ?_)
          | (refine TC_plain (id := 8) (by kernel_rfl) ?_; refine TR_pv0 PV_move rfl ?_; refine TR_pv0 PV_move rfl ?_; refine TR_pv0 (PV_len rfl) rfl ?_; refine TR_pv0 (PV_lss rfl rfl) rfl ?_; refine TR_nil ?_)
          | (refine TC_plain (id := 10) (by kernel_rfl) ?_; refine TR_pv0 PV_move rfl ?_; refine TR_pv0 PV_move rfl ?_; refine TR_pv0 PV_move rfl ?_; (first | refine TR_pv0 (PV_indexAddr rfl rfl (by omega)) rfl ?_ | refine TR_pv0 (PV_indexArr rfl rfl (by omega)) rfl ?_); (first | refine TR_loadAM0 rfl hmem 0 rfl htk rfl rfl ?_ | refine TR_loadA0 rfl 0 rfl rfl rfl ?_ | refine TR_loadA0 rfl 1 rfl rfl rfl ?_ | refine TR_loadA0 rfl 2 rfl rfl rfl ?_ | refine TR_loadA0 rfl 3 rfl rfl rfl ?_); refine TR_calld0 (wdoes_nil o) rfl rfl rfl rfl ?_; refine TR_nil ?_)
          | (refine TC_plain (id := 11) (by kernel_rfl) ?_; refine TR_pv0 PV_move rfl ?_; refine TR_pv0 PV_move rfl ?_; refine TR_pv0 PV_move rfl ?_; (first | refine TR_pv0 (PV_indexAddr rfl rfl (by omega)) rfl ?_ | refine TR_pv0 (PV_indexArr rfl rfl (by omega)) rfl ?_); (first | refine TR_loadAM0 rfl hmem 0 rfl htk rfl rfl ?_ | refine TR_loadA0 rfl 0 rfl rfl rfl ?_ | refine TR_loadA0 rfl 1 rfl rfl rfl ?_ | refine TR_loadA0 rfl 2 rfl rfl rfl ?_ | refine TR_loadA0 rfl 3 rfl rfl rfl ?_); refine TR_calld0 (wmeant_nil o) rfl rfl rfl rfl ?_; refine TR_nil ?_)
          | (refine TC_plain (id := 12) (by kernel_rfl) ?_; all_goals refine TR_pv0 PV_move rfl ?_; all_goals refine TR_calld0 (wsize_nil) rfl rfl rfl rfl ?_; all_goals refine TR_pv0 PV_move rfl ?_; all_goals refine TR_calld0 (rwsize_nil) rfl rfl rfl rfl ?_; all_goals refine TR_pv0 (PV_neq rfl rfl) rfl ?_; all_goals refine TR_pv0 PV_move rfl ?_; all_goals (first | refine TR_pv0 PV_move rfl ?_ | refine TR_skip0 rfl ?_ | (refine TR_gsplit rfl rfl rfl (fun hq => ?_) (fun hq => ?_) <;> (try simp only [qs, reduceCtorEq] at hq) <;> (try (exfalso; omega)) <;> (first | refine TR_pv0 PV_move rfl ?_ | refine TR_skip0 rfl ?_))); all_goals (first | refine TR_calld0 (wthresh_nil) rfl rfl rfl rfl ?_ | refine TR_skip0 rfl ?_ | (refine TR_gsplit rfl rfl rfl (fun hq => ?_) (fun hq => ?_) <;> (try simp only [qs, reduceCtorEq] at hq) <;> (try (exfalso; omega)) <;> (first | refine TR_calld0 (wthresh_nil) rfl rfl rfl rfl ?_ | refine TR_skip0 rfl ?_))); all_goals (first | refine TR_pv0 PV_move rfl ?_ | refine TR_skip0 rfl ?_ | (refine TR_gsplit rfl rfl rfl (fun hq => ?_) (fun hq => ?_) <;> (try simp only [qs, reduceCtorEq] at hq) <;> (try (exfalso; omega)) <;> (first | refine TR_pv0 PV_move rfl ?_ | refine TR_skip0 rfl ?_))); all_goals (first | refine TR_calld0 (rwthresh_nil) rfl rfl rfl rfl ?_ | refine TR_skip0 rfl ?_ | (refine TR_gsplit rfl rfl rfl (fun hq => ?_) (fun hq => ?_) <;> (try simp only [qs, reduceCtorEq] at hq) <;> (try (exfalso; omega)) <;> (first | refine TR_calld0 (rwthresh_nil) rfl rfl rfl rfl ?_ | refine TR_skip0 rfl ?_))); all_goals (first | refine TR_pv0 (PV_neq rfl rfl) rfl ?_ | refine TR_skip0 rfl ?_ | (refine TR_gsplit rfl rfl rfl (fun hq => ?_) (fun hq => ?_) <;> (try simp only [qs, reduceCtorEq] at hq) <;> (try (exfalso; omega)) <;> (first | refine TR_pv0 (PV_neq rfl rfl) rfl ?_ | refine TR_skip0 rfl ?_))); all_goals (first | refine TR_pv0 (PV_pick_t rfl) rfl ?_ | refine TR_pv0 (PV_pick_f rfl) rfl ?_); all_goals refine TR_nil ?_)
          | (refine TC_plain (id := 13) (by kernel_rfl) ?_; refine TR_pv0 PV_assign rfl ?_; refine TR_nil ?_)
          | (refine TC_plain (id := 9) (by kernel_rfl) ?_; refine TR_pv0 PV_move rfl ?_; (first | refine TR_pv0 (PV_add64 rfl rfl (by omega)) rfl ?_ | refine TR_pv0 (PV_add64w rfl rfl) rfl ?_); refine TR_pv0 PV_assign rfl ?_; refine TR_nil ?_)
          | (refine TC_plain (id := 14) (by kernel_rfl) ?_)
          | refine TC_cond_t rfl rfl ?_
          | refine TC_cond_f rfl rfl ?_
          | refine TC_skip ?_
          | refine TC_ret ?_
          | refine TC_exit ?_
          | refine TC_block ?_
          | refine TQ_then_ret ?_
          | refine TQ_then_exit ?_
          | refine TQ_blk ?_
          | refine TQ_blk_ret ?_
          | refine TQ_blk_here ?_
          | refine TQ_blk_past rfl ?_
          | refine TC_label ?_
          | (refine TC_cond rfl rfl (fun hq => ?_) (fun hq => ?_) <;> (try simp only [qs, reduceCtorEq] at hq) <;> (try (exfalso; omega)))
          | (refine TR_pv0 PV_assign rfl ?_; refine TR_nil ?_)
          | (refine TR_pv0 PV_move rfl ?_; refine TR_pv0 (PV_extract rfl rfl) rfl ?_; refine TR_pv0 (PV_extract rfl rfl) rfl ?_; refine TR_pv0 PV_assign rfl ?_; refine TR_pv0 PV_assign rfl ?_; refine TR_nil ?_)
        refine TQ_round (k + 1) ?_ ?_ ?_ ?_
        · exact hlt
        · exact Nat.sub_lt_sub_left hlt (Nat.lt_succ_self k)
        · exact ⟨rfl, rfl, rfl, rfl, trivial⟩
        · exact fun _ h => h
      · repeat' first
        | refine TC_seq ?_
        | refine TQ_then ?_
        | refine TR_nil ?_
        | refine TQ_noPanic ?_
        | (refine TC_plain (id := 0) (by kernel_rfl) ?_; refine TR_pv0 PV_assign rfl ?_; refine TR_nil ?_)
        | (refine TC_plain (id := 1) (by kernel_rfl) ?_; refine TR_pv0 PV_move rfl ?_; refine TR_pv0 (PV_len rfl) rfl ?_; refine TR_pv0 (PV_gtr rfl rfl) rfl ?_; refine TR_nil ?_)
        | (refine TC_plain (id := 2) (by kernel_rfl) ?_; refine TR_calld0 (winWorks) rfl rfl rfl rfl ?_; refine TR_pv0 PV_assign rfl ?_; refine TR_nil ?_)
        | (refine TC_plain (id := 3) (by kernel_rfl) ?_; refine TR_pv0 PV_move rfl ?_; refine TR_pv0 PV_move rfl ?_)
        | (refine TC_plain (id := 4) (by kernel_rfl) ?_; refine TR_pv0 PV_move rfl ?_; refine TR_pv0 PV_move rfl ?_)
        | (refine TC_plain (id := 5) (by kernel_rfl) ?_; all_goals refine TR_pv0 PV_move rfl ?_; all_goals refine TR_pv0 PV_move rfl ?_; all_goals refine TR_pv0 (PV_neq rfl rfl) rfl ?_; all_goals refine TR_pv0 PV_move rfl ?_; all_goals (first | refine TR_pv0 PV_move rfl ?_ | refine TR_skip0 rfl ?_ | (refine TR_gsplit rfl rfl rfl (fun hq => ?_) (fun hq => ?_) <;> (try simp only [qs, reduceCtorEq] at hq) <;> (try (exfalso; omega)) <;> (first | refine TR_pv0 PV_move rfl ?_ | refine TR_skip0 rfl ?_))); all_goals (first | refine TR_pv0 (PV_peq_nil rfl rfl) rfl ?_ | refine TR_pv0 (PV_peq rfl rfl) rfl ?_ | refine TR_skip0 rfl ?_ | (refine TR_gsplit rfl rfl rfl (fun hq => ?_) (fun hq => ?_) <;> (try simp only [qs, reduceCtorEq] at hq) <;> (try (exfalso; omega)) <;> (first | refine TR_pv0 (PV_peq_nil rfl rfl) rfl ?_ | refine TR_pv0 (PV_peq rfl rfl) rfl ?_ | refine TR_skip0 rfl ?_))); all_goals (first | refine TR_pv0 PV_move rfl ?_ | refine TR_skip0 rfl ?_ | (refine TR_gsplit rfl rfl rfl (fun hq => ?_) (fun hq => ?_) <;> (try simp only [qs, reduceCtorEq] at hq) <;> (try (exfalso; omega)) <;> (first | refine TR_pv0 PV_move rfl ?_ | refine TR_skip0 rfl ?_))); all_goals (first | refine TR_pv0 (PV_peq_nil rfl rfl) rfl ?_ | refine TR_pv0 (PV_peq rfl rfl) rfl ?_ | refine TR_skip0 rfl ?_ | (refine TR_gsplit rfl rfl rfl (fun hq => ?_) (fun hq => ?_) <;> (try simp only [qs, reduceCtorEq] at hq) <;> (try (exfalso; omega)) <;> (first | refine TR_pv0 (PV_peq_nil rfl rfl) rfl ?_ | refine TR_pv0 (PV_peq rfl rfl) rfl ?_ | refine TR_skip0 rfl ?_))); all_goals (first | refine TR_pv0 (PV_bne rfl rfl) rfl ?_ | refine TR_skip0 rfl ?_ | (refine TR_gsplit rfl rfl rfl (fun hq => ?_) (fun hq => ?_) <;> (try simp only [qs, reduceCtorEq] at hq) <;> (try (exfalso; omega)) <;> (first | refine TR_pv0 (PV_bne rfl rfl) rfl ?_ | refine TR_skip0 rfl ?_))); all_goals (first | refine TR_pv0 (PV_pick_t rfl) rfl ?_ | refine TR_pv0 (PV_pick_f rfl) rfl ?_); all_goals refine TR_nil ?_)
        | (refine TC_plain (id := 6) (by kernel_rfl) ?_; refine TR_pv0 PV_assign rfl ?_; refine TR_nil ?_)
        | (refine TC_plain (id := 7) (by kernel_rfl) ?_; refine TR_pv0 PV_assign rfl ?_; refine TR_nil ?_)
        | (refine TC_plain (id := 8) (by kernel_rfl) ?_; refine TR_pv0 PV_move rfl ?_; refine TR_pv0 PV_move rfl ?_; refine TR_pv0 (PV_len rfl) rfl ?_; refine TR_pv0 (PV_lss rfl rfl) rfl ?_; refine TR_nil ?_)
        | (refine TC_plain (id := 10) (by kernel_rfl) ?_; refine TR_pv0 PV_move rfl ?_; refine TR_pv0 PV_move rfl ?_; refine TR_pv0 PV_move rfl ?_; (first | refine TR_pv0 (PV_indexAddr rfl rfl (by omega)) rfl ?_ | refine TR_pv0 (PV_indexArr rfl rfl (by omega)) rfl ?_); (first | refine TR_loadA0 rfl 0 rfl rfl rfl ?_ | refine TR_loadA0 rfl 1 rfl rfl rfl ?_ | refine TR_loadA0 rfl 2 rfl rfl rfl ?_ | refine TR_loadA0 rfl 3 rfl rfl rfl ?_))
        | (refine TC_plain (id := 11) (by kernel_rfl) ?_; refine TR_pv0 PV_move rfl ?_; refine TR_pv0 PV_move rfl ?_; refine TR_pv0 PV_move rfl ?_; (first | refine TR_pv0 (PV_indexAddr rfl rfl (by omega)) rfl ?_ | refine TR_pv0 (PV_indexArr rfl rfl (by omega)) rfl ?_); (first | refine TR_loadA0 rfl 0 rfl rfl rfl ?_ | refine TR_loadA0 rfl 1 rfl rfl rfl ?_ | refine TR_loadA0 rfl 2 rfl rfl rfl ?_ | refine TR_loadA0 rfl 3 rfl rfl rfl ?_))
        | (refine TC_plain (id := 12) (by kernel_rfl) ?_; all_goals refine TR_pv0 PV_move rfl ?_)
        | (refine TC_plain (id := 13) (by kernel_rfl) ?_; refine TR_pv0 PV_assign rfl ?_; refine TR_nil ?_)
        | (refine TC_plain (id := 9) (by kernel_rfl) ?_; refine TR_pv0 PV_move rfl ?_; (first | refine TR_pv0 (PV_add64 rfl rfl (by omega)) rfl ?_ | refine TR_pv0 (PV_add64w rfl rfl) rfl ?_); refine TR_pv0 PV_assign rfl ?_; refine TR_nil ?_)
        | (refine TC_plain (id := 14) (by kernel_rfl) ?_; refine TR_calld0 (winWorks) rfl rfl rfl rfl ?_; refine TR_pv0 PV_assign rfl ?_; refine TR_nil ?_)
        | refine TC_cond_t rfl rfl ?_
        | refine TC_cond_f rfl rfl ?_
        | refine TC_skip ?_
        | refine TC_ret ?_
        | refine TC_exit ?_
        | refine TC_block ?_
        | refine TQ_then_ret ?_
        | refine TQ_then_exit ?_
        | refine TQ_blk ?_
        | refine TQ_blk_ret ?_
        | refine TQ_blk_here ?_
        | refine TQ_blk_past rfl ?_
        | refine TC_label ?_
        | (refine TC_cond rfl rfl (fun hq => ?_) (fun hq => ?_) <;> (try simp only [qs, reduceCtorEq] at hq) <;> (try (exfalso; omega)))
        | (refine TR_pv0 PV_move rfl ?_; refine TR_pv0 (PV_extract rfl rfl) rfl ?_; refine TR_pv0 (PV_extract rfl rfl) rfl ?_; refine TR_pv0 PV_assign rfl ?_; refine TR_pv0 PV_assign rfl ?_; refine TR_nil ?_)
        | (all_goals refine TR_pv0 PV_move rfl ?_)
        | (all_goals refine TR_pv0 (PV_neq rfl rfl) rfl ?_; all_goals refine TR_pv0 PV_move rfl ?_; all_goals (first | refine TR_pv0 PV_move rfl ?_ | refine TR_skip0 rfl ?_ | (refine TR_gsplit rfl rfl rfl (fun hq => ?_) (fun hq => ?_) <;> (try simp only [qs, reduceCtorEq] at hq) <;> (try (exfalso; omega)) <;> (first | refine TR_pv0 PV_move rfl ?_ | refine TR_skip0 rfl ?_))))
        | (all_goals (first | refine TR_pv0 PV_move rfl ?_ | refine TR_skip0 rfl ?_ | (refine TR_gsplit rfl rfl rfl (fun hq => ?_) (fun hq => ?_) <;> (try simp only [qs, reduceCtorEq] at hq) <;> (try (exfalso; omega)) <;> (first | refine TR_pv0 PV_move rfl ?_ | refine TR_skip0 rfl ?_))))
        | (all_goals (first | refine TR_pv0 (PV_neq rfl rfl) rfl ?_ | refine TR_skip0 rfl ?_ | (refine TR_gsplit rfl rfl rfl (fun hq => ?_) (fun hq => ?_) <;> (try simp only [qs, reduceCtorEq] at hq) <;> (try (exfalso; omega)) <;> (first | refine TR_pv0 (PV_neq rfl rfl) rfl ?_ | refine TR_skip0 rfl ?_))); all_goals (first | refine TR_pv0 (PV_pick_t rfl) rfl ?_ | refine TR_pv0 (PV_pick_f rfl) rfl ?_); all_goals refine TR_nil ?_)
        exact TQ_ret1d rfl rfl rfl ⟨rfl, rfl⟩ (.refl _)
end Go.Proofs.Ytjfnbobkipaldaa
