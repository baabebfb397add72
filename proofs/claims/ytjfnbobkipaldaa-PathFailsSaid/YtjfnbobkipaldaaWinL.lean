/- The laws' own helpers over windows: works, does, meant. -/
import Derived.Test.YtjfnbobkipaldaaWinR
namespace Go.Proofs.Ytjfnbobkipaldaa
open Go.RowKit
set_option maxHeartbeats 4000000

theorem acked_ok {W : Win} (h : WinOk W) (n : Int) (full : Bool) : WinOk (W.acked n full) := by
  obtain ⟨m0, m1, o0, o1, s0, s1, t0, t1, p0, p1⟩ := h
  have hw := (show -9223372036854775808 ≤ wrap64 (W.part + min n W.most) ∧ wrap64 (W.part + min n W.most) ≤ 9223372036854775807 by unfold wrap64; omega)
  unfold Win.acked Win.avoid Win.slow Win.cap
  repeat' split
  all_goals constructor <;> (try dsimp only) <;> omega
theorem fast_ok {W : Win} (h : WinOk W) : WinOk W.fast := by
  obtain ⟨m0, m1, o0, o1, s0, s1, t0, t1, p0, p1⟩ := h
  constructor <;> simp only [Win.fast, Win.lower] <;> omega
theorem timeout_ok {W : Win} (h : WinOk W) : WinOk W.timeout := by
  obtain ⟨m0, m1, o0, o1, s0, s1, t0, t1, p0, p1⟩ := h
  constructor <;> simp only [Win.timeout, Win.lower] <;> omega

theorem winWorks : Cd Try.prog 15 [] [] (.bool true) [] := by
  have k0 : WinOk ⟨128, 1000, 256, 1000, 0⟩ := winNew_ok (mtu := 128) (most := 1000) ⟨by omega, by omega, by omega, by omega⟩
  have k1 : WinOk ⟨128, 1000, 356, 1000, 0⟩ := acked_ok k0 100 true
  have k2 : WinOk ⟨128, 1000, 484, 1000, 0⟩ := acked_ok k1 500 true
  have k3 : WinOk ⟨128, 1000, 484, 512, 0⟩ := fast_ok k2
  refine Ct_intro Try.func15 rfl (by simp only [Try.ntmps15, List.length_cons, List.length_nil]; omega) ?_
  intro w₀ R
  repeat' first
    | refine TC_seq ?_
    | refine TQ_then ?_
    | refine TR_nil ?_
    | refine TQ_noPanic ?_
    | (refine TC_plain (id := 0) (by kernel_rfl) ?_; refine TR_pv0 PV_assign rfl ?_; refine TR_nil ?_)
    | (refine TC_plain (id := 1) (by kernel_rfl) ?_; (refine TR_calln (winNew_yes 128 1000 ⟨by omega, by omega, by omega, by omega⟩) rfl rfl rfl ?_; intro _); refine TR_pv0 PV_move rfl ?_; refine TR_pv0 (PV_extract rfl rfl) rfl ?_; refine TR_pv0 (PV_extract rfl rfl) rfl ?_; refine TR_pv0 PV_assign rfl ?_; refine TR_pv0 PV_assign rfl ?_; refine TR_nil ?_)
    | (refine TC_plain (id := 2) (by kernel_rfl) ?_; all_goals refine TR_pv0 PV_move rfl ?_; all_goals refine TR_pv0 (PV_neq rfl rfl) rfl ?_; all_goals refine TR_pv0 PV_move rfl ?_; all_goals (first | refine TR_pv0 PV_move rfl ?_ | refine TR_skip0 rfl ?_ | (refine TR_gsplit rfl rfl rfl (fun hq => ?_) (fun hq => ?_) <;> (try simp only [qs] at hq) <;> (try simp only [reduceCtorEq] at hq) <;> (try (exfalso; omega)) <;> (first | refine TR_pv0 PV_move rfl ?_ | refine TR_skip0 rfl ?_))); all_goals (first | refine TR_pv0 (PV_peq_nil rfl rfl) rfl ?_ | refine TR_pv0 (PV_peq rfl rfl) rfl ?_ | refine TR_skip0 rfl ?_ | (refine TR_gsplit rfl rfl rfl (fun hq => ?_) (fun hq => ?_) <;> (try simp only [qs] at hq) <;> (try simp only [reduceCtorEq] at hq) <;> (try (exfalso; omega)) <;> (first | refine TR_pv0 (PV_peq_nil rfl rfl) rfl ?_ | refine TR_pv0 (PV_peq rfl rfl) rfl ?_ | refine TR_skip0 rfl ?_))); all_goals (first | refine TR_pv0 (PV_pick_t rfl) rfl ?_ | refine TR_pv0 (PV_pick_f rfl) rfl ?_); all_goals refine TR_pv0 PV_move rfl ?_; all_goals (first | refine TR_pv0 PV_move rfl ?_ | refine TR_skip0 rfl ?_ | (refine TR_gsplit rfl rfl rfl (fun hq => ?_) (fun hq => ?_) <;> (try simp only [qs] at hq) <;> (try simp only [reduceCtorEq] at hq) <;> (try (exfalso; omega)) <;> (first | refine TR_pv0 PV_move rfl ?_ | refine TR_skip0 rfl ?_))); all_goals (first | refine TR_calld1_0 (wsize_ct _ _) rfl rfl rfl rfl ?_ | refine TR_skip0 rfl ?_ | (refine TR_gsplit rfl rfl rfl (fun hq => ?_) (fun hq => ?_) <;> (try simp only [qs] at hq) <;> (try simp only [reduceCtorEq] at hq) <;> (try (exfalso; omega)) <;> (first | refine TR_calld1_0 (wsize_ct _ _) rfl rfl rfl rfl ?_ | refine TR_skip0 rfl ?_))); all_goals (first | refine TR_pv0 (PV_neq rfl rfl) rfl ?_ | refine TR_skip0 rfl ?_ | (refine TR_gsplit rfl rfl rfl (fun hq => ?_) (fun hq => ?_) <;> (try simp only [qs] at hq) <;> (try simp only [reduceCtorEq] at hq) <;> (try (exfalso; omega)) <;> (first | refine TR_pv0 (PV_neq rfl rfl) rfl ?_ | refine TR_skip0 rfl ?_))); all_goals (first | refine TR_pv0 (PV_pick_t rfl) rfl ?_ | refine TR_pv0 (PV_pick_f rfl) rfl ?_); all_goals refine TR_pv0 PV_move rfl ?_; all_goals (first | refine TR_pv0 PV_move rfl ?_ | refine TR_skip0 rfl ?_ | (refine TR_gsplit rfl rfl rfl (fun hq => ?_) (fun hq => ?_) <;> (try simp only [qs] at hq) <;> (try simp only [reduceCtorEq] at hq) <;> (try (exfalso; omega)) <;> (first | refine TR_pv0 PV_move rfl ?_ | refine TR_skip0 rfl ?_))); all_goals (first | refine TR_calld1_0 (wthresh_ct _ _) rfl rfl rfl rfl ?_ | refine TR_skip0 rfl ?_ | (refine TR_gsplit rfl rfl rfl (fun hq => ?_) (fun hq => ?_) <;> (try simp only [qs] at hq) <;> (try simp only [reduceCtorEq] at hq) <;> (try (exfalso; omega)) <;> (first | refine TR_calld1_0 (wthresh_ct _ _) rfl rfl rfl rfl ?_ | refine TR_skip0 rfl ?_))); all_goals (first | refine TR_pv0 (PV_neq rfl rfl) rfl ?_ | refine TR_skip0 rfl ?_ | (refine TR_gsplit rfl rfl rfl (fun hq => ?_) (fun hq => ?_) <;> (try simp only [qs] at hq) <;> (try simp only [reduceCtorEq] at hq) <;> (try (exfalso; omega)) <;> (first | refine TR_pv0 (PV_neq rfl rfl) rfl ?_ | refine TR_skip0 rfl ?_))); all_goals (first | refine TR_pv0 (PV_pick_t rfl) rfl ?_ | refine TR_pv0 (PV_pick_f rfl) rfl ?_); all_goals refine TR_nil ?_)
    | (refine TC_plain (id := 3) (by kernel_rfl) ?_; refine TR_pv0 PV_assign rfl ?_; refine TR_nil ?_)
    | (refine TC_plain (id := 4) (by kernel_rfl) ?_; refine TR_pv0 PV_move rfl ?_; (first | refine TR_calld1_0 ((wacked_ct _ _ k0 100 true : Cd _ _ _ _ _ [winAt _ ⟨128, 1000, 356, 1000, 0⟩])) rfl rfl rfl rfl ?_ | refine TR_calld1_0 ((wacked_ct _ _ k1 500 true : Cd _ _ _ _ _ [winAt _ ⟨128, 1000, 484, 1000, 0⟩])) rfl rfl rfl rfl ?_ | refine TR_calld1_0 ((wacked_ct _ _ k2 9 false : Cd _ _ _ _ _ [winAt _ ⟨128, 1000, 484, 1000, 0⟩])) rfl rfl rfl rfl ?_); refine TR_nil ?_)
    | (refine TC_plain (id := 5) (by kernel_rfl) ?_; refine TR_pv0 PV_move rfl ?_; (first | refine TR_calld1_0 ((wacked_ct _ _ k0 100 true : Cd _ _ _ _ _ [winAt _ ⟨128, 1000, 356, 1000, 0⟩])) rfl rfl rfl rfl ?_ | refine TR_calld1_0 ((wacked_ct _ _ k1 500 true : Cd _ _ _ _ _ [winAt _ ⟨128, 1000, 484, 1000, 0⟩])) rfl rfl rfl rfl ?_ | refine TR_calld1_0 ((wacked_ct _ _ k2 9 false : Cd _ _ _ _ _ [winAt _ ⟨128, 1000, 484, 1000, 0⟩])) rfl rfl rfl rfl ?_); refine TR_nil ?_)
    | (refine TC_plain (id := 6) (by kernel_rfl) ?_; refine TR_pv0 PV_move rfl ?_; (first | refine TR_calld1_0 ((wacked_ct _ _ k0 100 true : Cd _ _ _ _ _ [winAt _ ⟨128, 1000, 356, 1000, 0⟩])) rfl rfl rfl rfl ?_ | refine TR_calld1_0 ((wacked_ct _ _ k1 500 true : Cd _ _ _ _ _ [winAt _ ⟨128, 1000, 484, 1000, 0⟩])) rfl rfl rfl rfl ?_ | refine TR_calld1_0 ((wacked_ct _ _ k2 9 false : Cd _ _ _ _ _ [winAt _ ⟨128, 1000, 484, 1000, 0⟩])) rfl rfl rfl rfl ?_); refine TR_nil ?_)
    | (refine TC_plain (id := 7) (by kernel_rfl) ?_; refine TR_pv0 PV_move rfl ?_; refine TR_calld1_0 (wsize_ct _ _) rfl rfl rfl rfl ?_; refine TR_pv0 PV_assign rfl ?_; refine TR_nil ?_)
    | (refine TC_plain (id := 8) (by kernel_rfl) ?_; refine TR_pv0 PV_move rfl ?_; refine TR_calld1_0 ((wfast_ct _ _ k2 : Cd _ _ _ _ _ [winAt _ ⟨128, 1000, 484, 512, 0⟩])) rfl rfl rfl rfl ?_; refine TR_nil ?_)
    | (refine TC_plain (id := 9) (by kernel_rfl) ?_; refine TR_pv0 PV_move rfl ?_; refine TR_calld1_0 (wsize_ct _ _) rfl rfl rfl rfl ?_; refine TR_pv0 PV_assign rfl ?_; refine TR_nil ?_)
    | (refine TC_plain (id := 10) (by kernel_rfl) ?_; refine TR_pv0 PV_move rfl ?_; refine TR_calld1_0 (wtimeout_ct _ _ k3) rfl rfl rfl rfl ?_; refine TR_nil ?_)
    | (refine TC_plain (id := 11) (by kernel_rfl) ?_; all_goals refine TR_pv0 PV_move rfl ?_; all_goals refine TR_pv0 (PV_eql rfl rfl) rfl ?_; all_goals refine TR_pv0 PV_move rfl ?_; all_goals (first | refine TR_pv0 PV_move rfl ?_ | refine TR_skip0 rfl ?_ | (refine TR_gsplit rfl rfl rfl (fun hq => ?_) (fun hq => ?_) <;> (try simp only [qs] at hq) <;> (try simp only [reduceCtorEq] at hq) <;> (try (exfalso; omega)) <;> (first | refine TR_pv0 PV_move rfl ?_ | refine TR_skip0 rfl ?_))); all_goals (first | refine TR_pv0 (PV_eql rfl rfl) rfl ?_ | refine TR_skip0 rfl ?_ | (refine TR_gsplit rfl rfl rfl (fun hq => ?_) (fun hq => ?_) <;> (try simp only [qs] at hq) <;> (try simp only [reduceCtorEq] at hq) <;> (try (exfalso; omega)) <;> (first | refine TR_pv0 (PV_eql rfl rfl) rfl ?_ | refine TR_skip0 rfl ?_))); all_goals (first | refine TR_pv0 (PV_pick_t rfl) rfl ?_ | refine TR_pv0 (PV_pick_f rfl) rfl ?_); all_goals refine TR_pv0 PV_move rfl ?_; all_goals (first | refine TR_pv0 PV_move rfl ?_ | refine TR_skip0 rfl ?_ | (refine TR_gsplit rfl rfl rfl (fun hq => ?_) (fun hq => ?_) <;> (try simp only [qs] at hq) <;> (try simp only [reduceCtorEq] at hq) <;> (try (exfalso; omega)) <;> (first | refine TR_pv0 PV_move rfl ?_ | refine TR_skip0 rfl ?_))); all_goals (first | refine TR_calld1_0 (wsize_ct _ _) rfl rfl rfl rfl ?_ | refine TR_skip0 rfl ?_ | (refine TR_gsplit rfl rfl rfl (fun hq => ?_) (fun hq => ?_) <;> (try simp only [qs] at hq) <;> (try simp only [reduceCtorEq] at hq) <;> (try (exfalso; omega)) <;> (first | refine TR_calld1_0 (wsize_ct _ _) rfl rfl rfl rfl ?_ | refine TR_skip0 rfl ?_))); all_goals (first | refine TR_pv0 (PV_eql rfl rfl) rfl ?_ | refine TR_skip0 rfl ?_ | (refine TR_gsplit rfl rfl rfl (fun hq => ?_) (fun hq => ?_) <;> (try simp only [qs] at hq) <;> (try simp only [reduceCtorEq] at hq) <;> (try (exfalso; omega)) <;> (first | refine TR_pv0 (PV_eql rfl rfl) rfl ?_ | refine TR_skip0 rfl ?_))); all_goals (first | refine TR_pv0 (PV_pick_t rfl) rfl ?_ | refine TR_pv0 (PV_pick_f rfl) rfl ?_); all_goals refine TR_pv0 PV_move rfl ?_; all_goals (first | refine TR_pv0 PV_move rfl ?_ | refine TR_skip0 rfl ?_ | (refine TR_gsplit rfl rfl rfl (fun hq => ?_) (fun hq => ?_) <;> (try simp only [qs] at hq) <;> (try simp only [reduceCtorEq] at hq) <;> (try (exfalso; omega)) <;> (first | refine TR_pv0 PV_move rfl ?_ | refine TR_skip0 rfl ?_))); all_goals (first | refine TR_calld1_0 (wthresh_ct _ _) rfl rfl rfl rfl ?_ | refine TR_skip0 rfl ?_ | (refine TR_gsplit rfl rfl rfl (fun hq => ?_) (fun hq => ?_) <;> (try simp only [qs] at hq) <;> (try simp only [reduceCtorEq] at hq) <;> (try (exfalso; omega)) <;> (first | refine TR_calld1_0 (wthresh_ct _ _) rfl rfl rfl rfl ?_ | refine TR_skip0 rfl ?_))); all_goals (first | refine TR_pv0 (PV_eql rfl rfl) rfl ?_ | refine TR_skip0 rfl ?_ | (refine TR_gsplit rfl rfl rfl (fun hq => ?_) (fun hq => ?_) <;> (try simp only [qs] at hq) <;> (try simp only [reduceCtorEq] at hq) <;> (try (exfalso; omega)) <;> (first | refine TR_pv0 (PV_eql rfl rfl) rfl ?_ | refine TR_skip0 rfl ?_))); all_goals (first | refine TR_pv0 (PV_pick_t rfl) rfl ?_ | refine TR_pv0 (PV_pick_f rfl) rfl ?_); all_goals refine TR_pv0 PV_assign rfl ?_; all_goals refine TR_nil ?_)
    | refine TC_cond_t rfl rfl ?_
    | refine TC_cond_f rfl rfl ?_
    | refine TC_skip ?_
    | refine TC_ret ?_
    | refine TC_exit ?_
    | refine TC_block ?_
    | refine TQ_then_ret ?_
    | refine TQ_then_exit ?_
    | refine TQ_blk ?_
    | refine TQ_blk_ret ?_
    | refine TQ_blk_here ?_
    | refine TQ_blk_past rfl ?_
    | refine TC_label ?_
    | (refine TC_cond rfl rfl (fun hq => ?_) (fun hq => ?_) <;> (try simp only [qs] at hq) <;> (try simp only [reduceCtorEq] at hq) <;> (try (exfalso; omega)))
  exact TQ_ret1d rfl rfl rfl ⟨rfl, rfl⟩ (List.sublist_cons_self _ _)

/-- What is done with a window. -/
structure WOp where
  kind : Int
  n : Int
  full : Bool

def Win.does (W : Win) (o : WOp) : Win := if o.kind = 0 then W.acked o.n o.full else if o.kind = 1 then W.fast else if o.kind = 2 then W.timeout else W
def WOp.cells (o : WOp) : List Value := [i64 o.kind, i64 o.n, .bool o.full]

theorem does_ok {W : Win} (h : WinOk W) (o : WOp) : WinOk (W.does o) := by
  unfold Win.does
  repeat' split
  · exact acked_ok h _ _
  · exact fast_ok h
  · exact timeout_ok h
  · exact h

theorem wdoes_ct (b : Nat) (W : Win) (h : WinOk W) (o : WOp) : Cd Try.prog 18 [ptr b, .agg o.cells.toArray] [winAt b W] (.tuple #[]) [winAt b (W.does o)] := by
  obtain ⟨k, n, full⟩ := o
  have e0 : k = 0 → W.acked n full = W.does ⟨k, n, full⟩ := fun e => by subst e; rfl
  have e1 : k = 1 → W.fast = W.does ⟨k, n, full⟩ := fun e => by subst e; rfl
  have e2 : k = 2 → W.timeout = W.does ⟨k, n, full⟩ := fun e => by subst e; rfl
  have e3 : ¬ k = 0 → ¬ k = 1 → ¬ k = 2 → W = W.does ⟨k, n, full⟩ := fun h0 h1 h2 => by simp only [Win.does, h0, h1, h2, if_false]
  refine Ct_intro Try.func18 rfl (by simp only [Try.ntmps18, List.length_cons, List.length_nil]; omega) ?_
  intro w₀ R
  repeat' first
    | refine TC_seq ?_
    | refine TQ_then ?_
    | refine TR_nil ?_
    | refine TQ_noPanic ?_
    | (refine TC_plain (id := 0) (by kernel_rfl) ?_; (refine TR_box0 rfl rfl rfl ?_; intro _); refine TR_nil ?_)
    | (refine TC_plain (id := 1) (by kernel_rfl) ?_; refine TR_pv0 (PV_fieldAddr rfl) rfl ?_; (first | refine TR_load0 rfl 0 rfl rfl rfl ?_ | refine TR_load0 rfl 1 rfl rfl rfl ?_ | refine TR_load0 rfl 2 rfl rfl rfl ?_ | refine TR_load0 rfl 3 rfl rfl rfl ?_); refine TR_nil ?_)
    | (refine TC_plain (id := 2) (by kernel_rfl) ?_; refine TR_pv0 (PV_eql rfl rfl) rfl ?_; refine TR_pv0 PV_assign rfl ?_; refine TR_nil ?_)
    | (refine TC_plain (id := 3) (by kernel_rfl) ?_; refine TR_pv0 PV_move rfl ?_; refine TR_pv0 (PV_fieldAddr rfl) rfl ?_; (first | refine TR_load0 rfl 0 rfl rfl rfl ?_ | refine TR_load0 rfl 1 rfl rfl rfl ?_ | refine TR_load0 rfl 2 rfl rfl rfl ?_ | refine TR_load0 rfl 3 rfl rfl rfl ?_); refine TR_pv0 (PV_fieldAddr rfl) rfl ?_; (first | refine TR_load0 rfl 0 rfl rfl rfl ?_ | refine TR_load0 rfl 1 rfl rfl rfl ?_ | refine TR_load0 rfl 2 rfl rfl rfl ?_ | refine TR_load0 rfl 3 rfl rfl rfl ?_); (first | refine TR_calld1_0 (wacked_ct b W h n full) rfl rfl rfl rfl ?_ | refine TR_calld1_1 (wacked_ct b W h n full) rfl rfl rfl rfl ?_); refine TR_nil ?_)
    | (refine TC_plain (id := 4) (by kernel_rfl) ?_; refine TR_pv0 (PV_eql rfl rfl) rfl ?_; refine TR_pv0 PV_assign rfl ?_; refine TR_nil ?_)
    | (refine TC_plain (id := 5) (by kernel_rfl) ?_; refine TR_pv0 PV_move rfl ?_; (first | refine TR_calld1_0 (wfast_ct b W h) rfl rfl rfl rfl ?_ | refine TR_calld1_1 (wfast_ct b W h) rfl rfl rfl rfl ?_); refine TR_nil ?_)
    | (refine TC_plain (id := 6) (by kernel_rfl) ?_; refine TR_pv0 (PV_eql rfl rfl) rfl ?_; refine TR_pv0 PV_assign rfl ?_; refine TR_nil ?_)
    | (refine TC_plain (id := 7) (by kernel_rfl) ?_; refine TR_pv0 PV_move rfl ?_; (first | refine TR_calld1_0 (wtimeout_ct b W h) rfl rfl rfl rfl ?_ | refine TR_calld1_1 (wtimeout_ct b W h) rfl rfl rfl rfl ?_); refine TR_nil ?_)
    | refine TC_cond_t rfl rfl ?_
    | refine TC_cond_f rfl rfl ?_
    | refine TC_skip ?_
    | refine TC_ret ?_
    | refine TC_exit ?_
    | refine TC_block ?_
    | refine TQ_then_ret ?_
    | refine TQ_then_exit ?_
    | refine TQ_blk ?_
    | refine TQ_blk_ret ?_
    | refine TQ_blk_here ?_
    | refine TQ_blk_past rfl ?_
    | refine TC_label ?_
    | (refine TC_cond rfl rfl (fun hq => ?_) (fun hq => ?_) <;> (try simp only [qs] at hq) <;> (try simp only [reduceCtorEq] at hq) <;> (try (exfalso; omega)))
  · exact TQ_end0d rfl ⟨rfl, congrArg (fun X => [winAt b X]) (e0 hq)⟩ (List.sublist_cons_self _ _)
  · exact TQ_end0d rfl ⟨rfl, congrArg (fun X => [winAt b X]) (e1 hq)⟩ (List.sublist_cons_self _ _)
  · exact TQ_end0d rfl ⟨rfl, congrArg (fun X => [winAt b X]) (e2 hq)⟩ (List.sublist_cons_self _ _)
  · exact TQ_end0d rfl ⟨rfl, congrArg (fun X => [winAt b X]) (e3 (by assumption) (by assumption) hq)⟩ (List.sublist_cons_self _ _)

theorem wmeant_ct (b : Nat) (W : Win) (h : WinOk W) (o : WOp) : Cd Try.prog 19 [ptr b, .agg o.cells.toArray] [rwinAt b W] (.tuple #[]) [rwinAt b (W.does o)] := by
  obtain ⟨k, n, full⟩ := o
  have e0 : k = 0 → W.acked n full = W.does ⟨k, n, full⟩ := fun e => by subst e; rfl
  have e1 : k = 1 → W.fast = W.does ⟨k, n, full⟩ := fun e => by subst e; rfl
  have e2 : k = 2 → W.timeout = W.does ⟨k, n, full⟩ := fun e => by subst e; rfl
  have e3 : ¬ k = 0 → ¬ k = 1 → ¬ k = 2 → W = W.does ⟨k, n, full⟩ := fun h0 h1 h2 => by simp only [Win.does, h0, h1, h2, if_false]
  refine Ct_intro Try.func19 rfl (by simp only [Try.ntmps19, List.length_cons, List.length_nil]; omega) ?_
  intro w₀ R
  repeat' first
    | refine TC_seq ?_
    | refine TQ_then ?_
    | refine TR_nil ?_
    | refine TQ_noPanic ?_
    | (refine TC_plain (id := 0) (by kernel_rfl) ?_; (refine TR_box0 rfl rfl rfl ?_; intro _); refine TR_nil ?_)
    | (refine TC_plain (id := 1) (by kernel_rfl) ?_; refine TR_pv0 (PV_fieldAddr rfl) rfl ?_; (first | refine TR_load0 rfl 0 rfl rfl rfl ?_ | refine TR_load0 rfl 1 rfl rfl rfl ?_ | refine TR_load0 rfl 2 rfl rfl rfl ?_ | refine TR_load0 rfl 3 rfl rfl rfl ?_); refine TR_nil ?_)
    | (refine TC_plain (id := 2) (by kernel_rfl) ?_; refine TR_pv0 (PV_eql rfl rfl) rfl ?_; refine TR_pv0 PV_assign rfl ?_; refine TR_nil ?_)
    | (refine TC_plain (id := 3) (by kernel_rfl) ?_; refine TR_pv0 PV_move rfl ?_; refine TR_pv0 (PV_fieldAddr rfl) rfl ?_; (first | refine TR_load0 rfl 0 rfl rfl rfl ?_ | refine TR_load0 rfl 1 rfl rfl rfl ?_ | refine TR_load0 rfl 2 rfl rfl rfl ?_ | refine TR_load0 rfl 3 rfl rfl rfl ?_); refine TR_pv0 (PV_fieldAddr rfl) rfl ?_; (first | refine TR_load0 rfl 0 rfl rfl rfl ?_ | refine TR_load0 rfl 1 rfl rfl rfl ?_ | refine TR_load0 rfl 2 rfl rfl rfl ?_ | refine TR_load0 rfl 3 rfl rfl rfl ?_); (first | refine TR_calld1_0 (rwacked_ct b W h n full) rfl rfl rfl rfl ?_ | refine TR_calld1_1 (rwacked_ct b W h n full) rfl rfl rfl rfl ?_); refine TR_nil ?_)
    | (refine TC_plain (id := 4) (by kernel_rfl) ?_; refine TR_pv0 (PV_eql rfl rfl) rfl ?_; refine TR_pv0 PV_assign rfl ?_; refine TR_nil ?_)
    | (refine TC_plain (id := 5) (by kernel_rfl) ?_; refine TR_pv0 PV_move rfl ?_; (first | refine TR_calld1_0 (rwfast_ct b W h) rfl rfl rfl rfl ?_ | refine TR_calld1_1 (rwfast_ct b W h) rfl rfl rfl rfl ?_); refine TR_nil ?_)
    | (refine TC_plain (id := 6) (by kernel_rfl) ?_; refine TR_pv0 (PV_eql rfl rfl) rfl ?_; refine TR_pv0 PV_assign rfl ?_; refine TR_nil ?_)
    | (refine TC_plain (id := 7) (by kernel_rfl) ?_; refine TR_pv0 PV_move rfl ?_; (first | refine TR_calld1_0 (rwtimeout_ct b W h) rfl rfl rfl rfl ?_ | refine TR_calld1_1 (rwtimeout_ct b W h) rfl rfl rfl rfl ?_); refine TR_nil ?_)
    | refine TC_cond_t rfl rfl ?_
    | refine TC_cond_f rfl rfl ?_
    | refine TC_skip ?_
    | refine TC_ret ?_
    | refine TC_exit ?_
    | refine TC_block ?_
    | refine TQ_then_ret ?_
    | refine TQ_then_exit ?_
    | refine TQ_blk ?_
    | refine TQ_blk_ret ?_
    | refine TQ_blk_here ?_
    | refine TQ_blk_past rfl ?_
    | refine TC_label ?_
    | (refine TC_cond rfl rfl (fun hq => ?_) (fun hq => ?_) <;> (try simp only [qs] at hq) <;> (try simp only [reduceCtorEq] at hq) <;> (try (exfalso; omega)))
  · exact TQ_end0d rfl ⟨rfl, congrArg (fun X => [rwinAt b X]) (e0 hq)⟩ (List.sublist_cons_self _ _)
  · exact TQ_end0d rfl ⟨rfl, congrArg (fun X => [rwinAt b X]) (e1 hq)⟩ (List.sublist_cons_self _ _)
  · exact TQ_end0d rfl ⟨rfl, congrArg (fun X => [rwinAt b X]) (e2 hq)⟩ (List.sublist_cons_self _ _)
  · exact TQ_end0d rfl ⟨rfl, congrArg (fun X => [rwinAt b X]) (e3 (by assumption) (by assumption) hq)⟩ (List.sublist_cons_self _ _)

/-! ### No window -/
theorem wacked_nil (n : Int) (full : Bool) : Cd Try.prog 25 [.pointer none, i64 n, .bool full] [] (.tuple #[]) [] := by
  refine Ct_intro Try.func25 rfl (by simp only [Try.ntmps25, List.length_cons, List.length_nil]; omega) ?_
  intro w₀ R
  repeat' first
    | refine TC_seq ?_
    | refine TQ_then ?_
    | refine TR_nil ?_
    | refine TQ_noPanic ?_
    | (refine TC_plain (id := 0) (by kernel_rfl) ?_; all_goals refine TR_pv0 PV_move rfl ?_; all_goals (first | refine TR_pv0 (PV_peq_nil rfl rfl) rfl ?_ | refine TR_pv0 (PV_peq rfl rfl) rfl ?_); all_goals refine TR_pv0 PV_move rfl ?_; all_goals (first | refine TR_pv0 PV_move rfl ?_ | refine TR_skip0 rfl ?_ | (refine TR_gsplit rfl rfl rfl (fun hq => ?_) (fun hq => ?_) <;> (try simp only [qs] at hq) <;> (try simp only [reduceCtorEq] at hq) <;> (try (exfalso; omega)) <;> (first | refine TR_pv0 PV_move rfl ?_ | refine TR_skip0 rfl ?_))); all_goals (first | refine TR_pv0 (PV_lss rfl rfl) rfl ?_ | refine TR_skip0 rfl ?_ | (refine TR_gsplit rfl rfl rfl (fun hq => ?_) (fun hq => ?_) <;> (try simp only [qs] at hq) <;> (try simp only [reduceCtorEq] at hq) <;> (try (exfalso; omega)) <;> (first | refine TR_pv0 (PV_lss rfl rfl) rfl ?_ | refine TR_skip0 rfl ?_))); all_goals (first | refine TR_pv0 (PV_pick_t rfl) rfl ?_ | refine TR_pv0 (PV_pick_f rfl) rfl ?_); all_goals refine TR_nil ?_)
    | (refine TC_plain (id := 1) (by kernel_rfl) ?_; refine TR_pv0 PV_move rfl ?_; refine TR_pv0 PV_makeFunc rfl ?_; refine TR_pv0 PV_assign rfl ?_; refine TR_nil ?_)
    | (refine TC_drawn' (id := 2) [(0, 1), (1, 1), (2, 1), (3, 1), (4, 1), (5, 1), (6, 1), (7, 1), (8, 1)] mixed (by kernel_rfl) ?_; refine TR_pv1 PV_move rfl (fun _ h => h) ?_; (first | refine TR_pv1 (PV_nil rfl) rfl (fun _ h => h) ?_ | refine TR_pv1 (PV_nilF rfl) rfl (fun _ h => h) ?_ | refine TR_pv1 (PV_nilY rfl) rfl (fun _ h => h) ?_); refine TR_pv1 (PV_fieldAddr rfl) rfl (fun _ h => h) ?_; (first | refine TR_load1 rfl 0 rfl rfl rfl (fun _ h => h) ?_ | refine TR_load1 rfl 1 rfl rfl rfl (fun _ h => h) ?_ | refine TR_load1 rfl 2 rfl rfl rfl (fun _ h => h) ?_ | refine TR_load1 rfl 3 rfl rfl rfl (fun _ h => h) ?_); refine TR_pv1 PV_move rfl (fun _ h => h) ?_; (first | refine TR_pv1 (PV_nil rfl) rfl (fun _ h => h) ?_ | refine TR_pv1 (PV_nilF rfl) rfl (fun _ h => h) ?_ | refine TR_pv1 (PV_nilY rfl) rfl (fun _ h => h) ?_); refine TR_pv1 (PV_fieldAddr rfl) rfl (fun _ h => h) ?_; (first | refine TR_load1 rfl 0 rfl rfl rfl (fun _ h => h) ?_ | refine TR_load1 rfl 1 rfl rfl rfl (fun _ h => h) ?_ | refine TR_load1 rfl 2 rfl rfl rfl (fun _ h => h) ?_ | refine TR_load1 rfl 3 rfl rfl rfl (fun _ h => h) ?_); refine TR_pv1 (PV_gtr rfl rfl) rfl (fun _ h => h) ?_; refine TR_nil ?_)
    | (refine TC_plain (id := 3) (by kernel_rfl) ?_; refine TR_pv0 PV_move rfl ?_; refine TR_pv0 PV_makeFunc rfl ?_; refine TR_pv0 PV_assign rfl ?_; refine TR_nil ?_)
    | (refine TC_plain (id := 4) (by kernel_rfl) ?_; refine TR_pv0 PV_move rfl ?_; refine TR_pv0 PV_move rfl ?_; refine TR_pv0 PV_move rfl ?_)
    | (refine TC_drawn' (id := 5) [(0, 1), (1, 1), (2, 1), (3, 1), (4, 1), (5, 1), (6, 1), (7, 1), (8, 1), (9, 1), (10, 1), (11, 1), (12, 0)] mixed (by kernel_rfl) ?_; refine TR_pv1 PV_move rfl (fun _ h => h) ?_; refine TR_pv1 PV_move rfl (fun _ h => h) ?_; (first | refine TR_pv1 (PV_nil rfl) rfl (fun _ h => h) ?_ | refine TR_pv1 (PV_nilF rfl) rfl (fun _ h => h) ?_ | refine TR_pv1 (PV_nilY rfl) rfl (fun _ h => h) ?_); refine TR_pv1 (PV_fieldAddr rfl) rfl (fun _ h => h) ?_; (first | refine TR_load1 rfl 0 rfl rfl rfl (fun _ h => h) ?_ | refine TR_load1 rfl 1 rfl rfl rfl (fun _ h => h) ?_ | refine TR_load1 rfl 2 rfl rfl rfl (fun _ h => h) ?_ | refine TR_load1 rfl 3 rfl rfl rfl (fun _ h => h) ?_); refine TR_pv1 PV_move rfl (fun _ h => h) ?_; (first | refine TR_pv1 (PV_nil rfl) rfl (fun _ h => h) ?_ | refine TR_pv1 (PV_nilF rfl) rfl (fun _ h => h) ?_ | refine TR_pv1 (PV_nilY rfl) rfl (fun _ h => h) ?_); refine TR_pv1 (PV_fieldAddr rfl) rfl (fun _ h => h) ?_; (first | refine TR_load1 rfl 0 rfl rfl rfl (fun _ h => h) ?_ | refine TR_load1 rfl 1 rfl rfl rfl (fun _ h => h) ?_ | refine TR_load1 rfl 2 rfl rfl rfl (fun _ h => h) ?_ | refine TR_load1 rfl 3 rfl rfl rfl (fun _ h => h) ?_); refine TR_pv1 (PV_min rfl rfl) rfl (fun _ h => h) ?_; (first | refine TR_pv1 (PV_nil rfl) rfl (fun _ h => h) ?_ | refine TR_pv1 (PV_nilF rfl) rfl (fun _ h => h) ?_ | refine TR_pv1 (PV_nilY rfl) rfl (fun _ h => h) ?_); refine TR_pv1 (PV_fieldAddr rfl) rfl (fun _ h => h) ?_; (first | refine TR_store0_0 rfl rfl rfl rfl rfl rfl ?_ | refine TR_store0_1 rfl rfl rfl rfl rfl rfl ?_ | refine TR_store0_2 rfl rfl rfl rfl rfl rfl ?_ | refine TR_store0_3 rfl rfl rfl rfl rfl rfl ?_); refine TR_nil ?_)
    | refine TC_cond_t rfl rfl ?_
    | refine TC_cond_f rfl rfl ?_
    | refine TC_skip ?_
    | refine TC_ret ?_
    | refine TC_exit ?_
    | refine TC_block ?_
    | refine TQ_then_ret ?_
    | refine TQ_then_exit ?_
    | refine TQ_blk ?_
    | refine TQ_blk_ret ?_
    | refine TQ_blk_here ?_
    | refine TQ_blk_past rfl ?_
    | refine TC_label ?_
    | (refine TC_cond rfl rfl (fun hq => ?_) (fun hq => ?_) <;> (try simp only [qs] at hq) <;> (try simp only [reduceCtorEq] at hq) <;> (try (exfalso; omega)))
  exact TQ_ret0 rfl ⟨rfl, rfl⟩ .nil
theorem wfast_nil : Cd Try.prog 26 [.pointer none] [] (.tuple #[]) [] := by
  refine Ct_intro Try.func26 rfl (by simp only [Try.ntmps26, List.length_cons, List.length_nil]; omega) ?_
  intro w₀ R
  repeat' first
    | refine TC_seq ?_
    | refine TQ_then ?_
    | refine TR_nil ?_
    | refine TQ_noPanic ?_
    | (refine TC_plain (id := 0) (by kernel_rfl) ?_; refine TR_pv0 PV_move rfl ?_; (first | refine TR_pv0 (PV_peq_nil rfl rfl) rfl ?_ | refine TR_pv0 (PV_peq rfl rfl) rfl ?_); refine TR_nil ?_)
    | (refine TC_plain (id := 1) (by kernel_rfl) ?_; refine TR_pv0 PV_move rfl ?_)
    | (refine TC_drawn' (id := 2) [(0, 1), (1, 1), (2, 1), (3, 1), (4, 1), (5, 1), (6, 1), (7, 1), (8, 1), (9, 1), (10, 1), (11, 1), (12, 0)] mixed (by kernel_rfl) ?_; refine TR_pv1 PV_move rfl (fun _ h => h) ?_; refine TR_pv1 PV_move rfl (fun _ h => h) ?_; (first | refine TR_pv1 (PV_nil rfl) rfl (fun _ h => h) ?_ | refine TR_pv1 (PV_nilF rfl) rfl (fun _ h => h) ?_ | refine TR_pv1 (PV_nilY rfl) rfl (fun _ h => h) ?_); refine TR_pv1 (PV_fieldAddr rfl) rfl (fun _ h => h) ?_; (first | refine TR_load1 rfl 0 rfl rfl rfl (fun _ h => h) ?_ | refine TR_load1 rfl 1 rfl rfl rfl (fun _ h => h) ?_ | refine TR_load1 rfl 2 rfl rfl rfl (fun _ h => h) ?_ | refine TR_load1 rfl 3 rfl rfl rfl (fun _ h => h) ?_); refine TR_pv1 PV_move rfl (fun _ h => h) ?_; (first | refine TR_pv1 (PV_nil rfl) rfl (fun _ h => h) ?_ | refine TR_pv1 (PV_nilF rfl) rfl (fun _ h => h) ?_ | refine TR_pv1 (PV_nilY rfl) rfl (fun _ h => h) ?_); refine TR_pv1 (PV_fieldAddr rfl) rfl (fun _ h => h) ?_; (first | refine TR_load1 rfl 0 rfl rfl rfl (fun _ h => h) ?_ | refine TR_load1 rfl 1 rfl rfl rfl (fun _ h => h) ?_ | refine TR_load1 rfl 2 rfl rfl rfl (fun _ h => h) ?_ | refine TR_load1 rfl 3 rfl rfl rfl (fun _ h => h) ?_); refine TR_pv1 (PV_min rfl rfl) rfl (fun _ h => h) ?_; (first | refine TR_pv1 (PV_nil rfl) rfl (fun _ h => h) ?_ | refine TR_pv1 (PV_nilF rfl) rfl (fun _ h => h) ?_ | refine TR_pv1 (PV_nilY rfl) rfl (fun _ h => h) ?_); refine TR_pv1 (PV_fieldAddr rfl) rfl (fun _ h => h) ?_; (first | refine TR_store0_0 rfl rfl rfl rfl rfl rfl ?_ | refine TR_store0_1 rfl rfl rfl rfl rfl rfl ?_ | refine TR_store0_2 rfl rfl rfl rfl rfl rfl ?_ | refine TR_store0_3 rfl rfl rfl rfl rfl rfl ?_); refine TR_nil ?_)
    | refine TC_cond_t rfl rfl ?_
    | refine TC_cond_f rfl rfl ?_
    | refine TC_skip ?_
    | refine TC_ret ?_
    | refine TC_exit ?_
    | refine TC_block ?_
    | refine TQ_then_ret ?_
    | refine TQ_then_exit ?_
    | refine TQ_blk ?_
    | refine TQ_blk_ret ?_
    | refine TQ_blk_here ?_
    | refine TQ_blk_past rfl ?_
    | refine TC_label ?_
    | (refine TC_cond rfl rfl (fun hq => ?_) (fun hq => ?_) <;> (try simp only [qs] at hq) <;> (try simp only [reduceCtorEq] at hq) <;> (try (exfalso; omega)))
  exact TQ_ret0 rfl ⟨rfl, rfl⟩ .nil
theorem wtimeout_nil : Cd Try.prog 24 [.pointer none] [] (.tuple #[]) [] := by
  refine Ct_intro Try.func24 rfl (by simp only [Try.ntmps24, List.length_cons, List.length_nil]; omega) ?_
  intro w₀ R
  repeat' first
    | refine TC_seq ?_
    | refine TQ_then ?_
    | refine TR_nil ?_
    | refine TQ_noPanic ?_
    | (refine TC_plain (id := 0) (by kernel_rfl) ?_; refine TR_pv0 PV_move rfl ?_; (first | refine TR_pv0 (PV_peq_nil rfl rfl) rfl ?_ | refine TR_pv0 (PV_peq rfl rfl) rfl ?_); refine TR_nil ?_)
    | (refine TC_plain (id := 1) (by kernel_rfl) ?_; refine TR_pv0 PV_move rfl ?_)
    | (refine TC_plain (id := 2) (by kernel_rfl) ?_; refine TR_pv0 PV_move rfl ?_; refine TR_pv0 PV_move rfl ?_; (first | refine TR_pv0 (PV_nil rfl) rfl ?_ | refine TR_pv0 (PV_nilF rfl) rfl ?_ | refine TR_pv0 (PV_nilY rfl) rfl ?_); refine TR_pv0 (PV_fieldAddr rfl) rfl ?_; (first | refine TR_load0 rfl 0 rfl rfl rfl ?_ | refine TR_load0 rfl 1 rfl rfl rfl ?_ | refine TR_load0 rfl 2 rfl rfl rfl ?_ | refine TR_load0 rfl 3 rfl rfl rfl ?_); (first | refine TR_pv0 (PV_nil rfl) rfl ?_ | refine TR_pv0 (PV_nilF rfl) rfl ?_ | refine TR_pv0 (PV_nilY rfl) rfl ?_); refine TR_pv0 (PV_fieldAddr rfl) rfl ?_; (first | refine TR_store0_0 rfl rfl rfl rfl rfl rfl ?_ | refine TR_store0_1 rfl rfl rfl rfl rfl rfl ?_ | refine TR_store0_2 rfl rfl rfl rfl rfl rfl ?_ | refine TR_store0_3 rfl rfl rfl rfl rfl rfl ?_); refine TR_nil ?_)
    | refine TC_cond_t rfl rfl ?_
    | refine TC_cond_f rfl rfl ?_
    | refine TC_skip ?_
    | refine TC_ret ?_
    | refine TC_exit ?_
    | refine TC_block ?_
    | refine TQ_then_ret ?_
    | refine TQ_then_exit ?_
    | refine TQ_blk ?_
    | refine TQ_blk_ret ?_
    | refine TQ_blk_here ?_
    | refine TQ_blk_past rfl ?_
    | refine TC_label ?_
    | (refine TC_cond rfl rfl (fun hq => ?_) (fun hq => ?_) <;> (try simp only [qs] at hq) <;> (try simp only [reduceCtorEq] at hq) <;> (try (exfalso; omega)))
  exact TQ_ret0 rfl ⟨rfl, rfl⟩ .nil
theorem wsize_nil : Cd Try.prog 20 [.pointer none] [] (i64 0) [] := by
  refine Ct_intro Try.func20 rfl (by simp only [Try.ntmps20, List.length_cons, List.length_nil]; omega) ?_
  intro w₀ R
  repeat' first
    | refine TC_seq ?_
    | refine TQ_then ?_
    | refine TR_nil ?_
    | refine TQ_noPanic ?_
    | (refine TC_plain (id := 0) (by kernel_rfl) ?_; refine TR_pv0 PV_assign rfl ?_; refine TR_nil ?_)
    | (refine TC_plain (id := 1) (by kernel_rfl) ?_; refine TR_pv0 PV_move rfl ?_; (first | refine TR_pv0 (PV_peq_nil rfl rfl) rfl ?_ | refine TR_pv0 (PV_peq rfl rfl) rfl ?_); refine TR_nil ?_)
    | (refine TC_plain (id := 2) (by kernel_rfl) ?_; refine TR_pv0 PV_assign rfl ?_; refine TR_nil ?_)
    | (refine TC_plain (id := 3) (by kernel_rfl) ?_; refine TR_pv0 PV_move rfl ?_; (first | refine TR_pv0 (PV_nil rfl) rfl ?_ | refine TR_pv0 (PV_nilF rfl) rfl ?_ | refine TR_pv0 (PV_nilY rfl) rfl ?_); refine TR_pv0 (PV_fieldAddr rfl) rfl ?_; (first | refine TR_load0 rfl 0 rfl rfl rfl ?_ | refine TR_load0 rfl 1 rfl rfl rfl ?_ | refine TR_load0 rfl 2 rfl rfl rfl ?_ | refine TR_load0 rfl 3 rfl rfl rfl ?_); refine TR_pv0 PV_assign rfl ?_; refine TR_nil ?_)
    | refine TC_cond_t rfl rfl ?_
    | refine TC_cond_f rfl rfl ?_
    | refine TC_skip ?_
    | refine TC_ret ?_
    | refine TC_exit ?_
    | refine TC_block ?_
    | refine TQ_then_ret ?_
    | refine TQ_then_exit ?_
    | refine TQ_blk ?_
    | refine TQ_blk_ret ?_
    | refine TQ_blk_here ?_
    | refine TQ_blk_past rfl ?_
    | refine TC_label ?_
    | (refine TC_cond rfl rfl (fun hq => ?_) (fun hq => ?_) <;> (try simp only [qs] at hq) <;> (try simp only [reduceCtorEq] at hq) <;> (try (exfalso; omega)))
  exact TQ_ret1 rfl rfl rfl ⟨rfl, rfl⟩ .nil
theorem wthresh_nil : Cd Try.prog 22 [.pointer none] [] (i64 0) [] := by
  refine Ct_intro Try.func22 rfl (by simp only [Try.ntmps22, List.length_cons, List.length_nil]; omega) ?_
  intro w₀ R
  repeat' first
    | refine TC_seq ?_
    | refine TQ_then ?_
    | refine TR_nil ?_
    | refine TQ_noPanic ?_
    | (refine TC_plain (id := 0) (by kernel_rfl) ?_; refine TR_pv0 PV_assign rfl ?_; refine TR_nil ?_)
    | (refine TC_plain (id := 1) (by kernel_rfl) ?_; refine TR_pv0 PV_move rfl ?_; (first | refine TR_pv0 (PV_peq_nil rfl rfl) rfl ?_ | refine TR_pv0 (PV_peq rfl rfl) rfl ?_); refine TR_nil ?_)
    | (refine TC_plain (id := 2) (by kernel_rfl) ?_; refine TR_pv0 PV_assign rfl ?_; refine TR_nil ?_)
    | (refine TC_plain (id := 3) (by kernel_rfl) ?_; refine TR_pv0 PV_move rfl ?_; (first | refine TR_pv0 (PV_nil rfl) rfl ?_ | refine TR_pv0 (PV_nilF rfl) rfl ?_ | refine TR_pv0 (PV_nilY rfl) rfl ?_); refine TR_pv0 (PV_fieldAddr rfl) rfl ?_; (first | refine TR_load0 rfl 0 rfl rfl rfl ?_ | refine TR_load0 rfl 1 rfl rfl rfl ?_ | refine TR_load0 rfl 2 rfl rfl rfl ?_ | refine TR_load0 rfl 3 rfl rfl rfl ?_); refine TR_pv0 PV_assign rfl ?_; refine TR_nil ?_)
    | refine TC_cond_t rfl rfl ?_
    | refine TC_cond_f rfl rfl ?_
    | refine TC_skip ?_
    | refine TC_ret ?_
    | refine TC_exit ?_
    | refine TC_block ?_
    | refine TQ_then_ret ?_
    | refine TQ_then_exit ?_
    | refine TQ_blk ?_
    | refine TQ_blk_ret ?_
    | refine TQ_blk_here ?_
    | refine TQ_blk_past rfl ?_
    | refine TC_label ?_
    | (refine TC_cond rfl rfl (fun hq => ?_) (fun hq => ?_) <;> (try simp only [qs] at hq) <;> (try simp only [reduceCtorEq] at hq) <;> (try (exfalso; omega)))
  exact TQ_ret1 rfl rfl rfl ⟨rfl, rfl⟩ .nil
theorem wdoes_nil (o : WOp) : Cd Try.prog 18 [.pointer none, .agg o.cells.toArray] [] (.tuple #[]) [] := by
  obtain ⟨k, n, full⟩ := o
  refine Ct_intro Try.func18 rfl (by simp only [Try.ntmps18, List.length_cons, List.length_nil]; omega) ?_
  intro w₀ R
  repeat' first
    | refine TC_seq ?_
    | refine TQ_then ?_
    | refine TR_nil ?_
    | refine TQ_noPanic ?_
    | (refine TC_plain (id := 0) (by kernel_rfl) ?_; (refine TR_box0 rfl rfl rfl ?_; intro _); refine TR_nil ?_)
    | (refine TC_plain (id := 1) (by kernel_rfl) ?_; refine TR_pv0 (PV_fieldAddr rfl) rfl ?_; (first | refine TR_load0 rfl 0 rfl rfl rfl ?_ | refine TR_load0 rfl 1 rfl rfl rfl ?_ | refine TR_load0 rfl 2 rfl rfl rfl ?_ | refine TR_load0 rfl 3 rfl rfl rfl ?_); refine TR_nil ?_)
    | (refine TC_plain (id := 2) (by kernel_rfl) ?_; refine TR_pv0 (PV_eql rfl rfl) rfl ?_; refine TR_pv0 PV_assign rfl ?_; refine TR_nil ?_)
    | (refine TC_plain (id := 3) (by kernel_rfl) ?_; refine TR_pv0 PV_move rfl ?_; refine TR_pv0 (PV_fieldAddr rfl) rfl ?_; (first | refine TR_load0 rfl 0 rfl rfl rfl ?_ | refine TR_load0 rfl 1 rfl rfl rfl ?_ | refine TR_load0 rfl 2 rfl rfl rfl ?_ | refine TR_load0 rfl 3 rfl rfl rfl ?_); refine TR_pv0 (PV_fieldAddr rfl) rfl ?_; (first | refine TR_load0 rfl 0 rfl rfl rfl ?_ | refine TR_load0 rfl 1 rfl rfl rfl ?_ | refine TR_load0 rfl 2 rfl rfl rfl ?_ | refine TR_load0 rfl 3 rfl rfl rfl ?_); refine TR_calld0 (wacked_nil n full) rfl rfl rfl rfl ?_; refine TR_nil ?_)
    | (refine TC_plain (id := 4) (by kernel_rfl) ?_; refine TR_pv0 (PV_eql rfl rfl) rfl ?_; refine TR_pv0 PV_assign rfl ?_; refine TR_nil ?_)
    | (refine TC_plain (id := 5) (by kernel_rfl) ?_; refine TR_pv0 PV_move rfl ?_; refine TR_calld0 (wfast_nil) rfl rfl rfl rfl ?_; refine TR_nil ?_)
    | (refine TC_plain (id := 6) (by kernel_rfl) ?_; refine TR_pv0 (PV_eql rfl rfl) rfl ?_; refine TR_pv0 PV_assign rfl ?_; refine TR_nil ?_)
    | (refine TC_plain (id := 7) (by kernel_rfl) ?_; refine TR_pv0 PV_move rfl ?_; refine TR_calld0 (wtimeout_nil) rfl rfl rfl rfl ?_; refine TR_nil ?_)
    | refine TC_cond_t rfl rfl ?_
    | refine TC_cond_f rfl rfl ?_
    | refine TC_skip ?_
    | refine TC_ret ?_
    | refine TC_exit ?_
    | refine TC_block ?_
    | refine TQ_then_ret ?_
    | refine TQ_then_exit ?_
    | refine TQ_blk ?_
    | refine TQ_blk_ret ?_
    | refine TQ_blk_here ?_
    | refine TQ_blk_past rfl ?_
    | refine TC_label ?_
    | (refine TC_cond rfl rfl (fun hq => ?_) (fun hq => ?_) <;> (try simp only [qs] at hq) <;> (try simp only [reduceCtorEq] at hq) <;> (try (exfalso; omega)))
  all_goals exact TQ_end0d rfl ⟨rfl, rfl⟩ (List.sublist_cons_self _ _)

/-! ### The law of no window -/
theorem windowNil_cd (H : Seg) (o : WOp) : Cd Try.prog 8 [.agg o.cells.toArray] [H] (.bool true) [H] := by
  refine Ct_intro Try.func8 rfl (by simp only [Try.ntmps8, List.length_cons, List.length_nil]; omega) ?_
  intro w₀ R
  repeat' first
    | refine TC_seq ?_
    | refine TQ_then ?_
    | refine TR_nil ?_
    | refine TQ_noPanic ?_
    | (refine TC_plain (id := 0) (by kernel_rfl) ?_; (refine TR_box0 rfl rfl rfl ?_; intro _); refine TR_pv0 PV_assign rfl ?_; refine TR_nil ?_)
    | (refine TC_plain (id := 1) (by kernel_rfl) ?_; refine TR_pv0 PV_assign rfl ?_; refine TR_nil ?_)
    | (refine TC_plain (id := 2) (by kernel_rfl) ?_; refine TR_pv0 PV_move rfl ?_; (first | refine TR_loadA0 rfl 0 rfl rfl rfl ?_ | refine TR_loadA0 rfl 1 rfl rfl rfl ?_ | refine TR_loadA0 rfl 2 rfl rfl rfl ?_ | refine TR_loadA0 rfl 3 rfl rfl rfl ?_); refine TR_calld0 (wdoes_nil o) rfl rfl rfl rfl ?_; refine TR_nil ?_)
    | (refine TC_plain (id := 3) (by kernel_rfl) ?_; all_goals refine TR_pv0 PV_move rfl ?_; all_goals refine TR_calld0 (wsize_nil) rfl rfl rfl rfl ?_; all_goals refine TR_pv0 (PV_eql rfl rfl) rfl ?_; all_goals refine TR_pv0 PV_move rfl ?_; all_goals (first | refine TR_pv0 PV_move rfl ?_ | refine TR_skip0 rfl ?_ | (refine TR_gsplit rfl rfl rfl (fun hq => ?_) (fun hq => ?_) <;> (try simp only [qs] at hq) <;> (try simp only [reduceCtorEq] at hq) <;> (try (exfalso; omega)) <;> (first | refine TR_pv0 PV_move rfl ?_ | refine TR_skip0 rfl ?_))); all_goals (first | refine TR_calld0 (wthresh_nil) rfl rfl rfl rfl ?_ | refine TR_skip0 rfl ?_ | (refine TR_gsplit rfl rfl rfl (fun hq => ?_) (fun hq => ?_) <;> (try simp only [qs] at hq) <;> (try simp only [reduceCtorEq] at hq) <;> (try (exfalso; omega)) <;> (first | refine TR_calld0 (wthresh_nil) rfl rfl rfl rfl ?_ | refine TR_skip0 rfl ?_))); all_goals (first | refine TR_pv0 (PV_eql rfl rfl) rfl ?_ | refine TR_skip0 rfl ?_ | (refine TR_gsplit rfl rfl rfl (fun hq => ?_) (fun hq => ?_) <;> (try simp only [qs] at hq) <;> (try simp only [reduceCtorEq] at hq) <;> (try (exfalso; omega)) <;> (first | refine TR_pv0 (PV_eql rfl rfl) rfl ?_ | refine TR_skip0 rfl ?_))); all_goals (first | refine TR_pv0 (PV_pick_t rfl) rfl ?_ | refine TR_pv0 (PV_pick_f rfl) rfl ?_); all_goals refine TR_pv0 PV_move rfl ?_; all_goals (first | refine TR_calld0 (winWorks) rfl rfl rfl rfl ?_ | refine TR_skip0 rfl ?_ | (refine TR_gsplit rfl rfl rfl (fun hq => ?_) (fun hq => ?_) <;> (try simp only [qs] at hq) <;> (try simp only [reduceCtorEq] at hq) <;> (try (exfalso; omega)) <;> (first | refine TR_calld0 (winWorks) rfl rfl rfl rfl ?_ | refine TR_skip0 rfl ?_))); all_goals (first | refine TR_pv0 (PV_pick_t rfl) rfl ?_ | refine TR_pv0 (PV_pick_f rfl) rfl ?_); all_goals refine TR_pv0 PV_assign rfl ?_; all_goals refine TR_nil ?_)
    | refine TC_cond_t rfl rfl ?_
    | refine TC_cond_f rfl rfl ?_
    | refine TC_skip ?_
    | refine TC_ret ?_
    | refine TC_exit ?_
    | refine TC_block ?_
    | refine TQ_then_ret ?_
    | refine TQ_then_exit ?_
    | refine TQ_blk ?_
    | refine TQ_blk_ret ?_
    | refine TQ_blk_here ?_
    | refine TQ_blk_past rfl ?_
    | refine TC_label ?_
    | (refine TC_cond rfl rfl (fun hq => ?_) (fun hq => ?_) <;> (try simp only [qs] at hq) <;> (try simp only [reduceCtorEq] at hq) <;> (try (exfalso; omega)))
  exact TQ_ret1d rfl rfl rfl ⟨rfl, rfl⟩ (List.sublist_cons_self _ _)
end Go.Proofs.Ytjfnbobkipaldaa
