/- PathOnce, PathRests: the walks. -/
import Derived.Test.YtjfnbobkipaldaaPPlays
namespace Go.Proofs.Ytjfnbobkipaldaa
open Go.RowKit
set_option maxHeartbeats 4000000

abbrev plainL (x : Int) : List Value := [i64 0, i64 128, i64 0, i64 0, i64 0, i64 1000, i64 3, i64 1, i64 60, i64 0, i64 0, i64 10, i64 (x % 21), i64 0]

abbrev cfgBlk (cb : Nat) (x : Int) : Seg := blk cb 45 (plainL x)

structure OnceInv (x : Int) (k : Nat) (X : Pth) : Prop where
  jk : k ≤ 61
  ok : PthOk X
  m : X.may = x % 21
  b : X.bad = min (k : Int) (x % 21 + 1)
  u : X.w.mtu = 128

theorem pathOnce_cd (H : Seg) (x y : Int) (hx : 0 ≤ x ∧ x ≤ 255) (hy : 0 ≤ y ∧ y ≤ 255) : Cd Try.prog 9 [.int .u8 x, .int .u8 y] [H] (.bool true) [H] := by
  have hargs := plain_ok x 0 ⟨by omega, by omega⟩
  refine Ct_intro Try.func9 rfl (by simp only [Try.ntmps9, List.length_cons, List.length_nil]; omega) ?_
  intro w₀ R
  repeat' first
    | refine TC_seq ?_
    | refine TQ_then ?_
    | refine TR_nil ?_
    | refine TQ_noPanic ?_
    | (refine TC_plain (id := 0) (by kernel_rfl) ?_; refine TR_pv0 PV_assign rfl ?_; refine TR_nil ?_)
    | (refine TC_plain (id := 1) (by kernel_rfl) ?_; refine TR_pv0 PV_move rfl ?_; refine TR_calld0 (plain_cd x hx) rfl rfl rfl rfl ?_; (refine TR_alloc0 rfl ?_; intro _); (first | refine TR_storeA0_0 rfl rfl rfl rfl rfl rfl ?_ | refine TR_storeA0_1 rfl rfl rfl rfl rfl rfl ?_ | refine TR_storeA0_2 rfl rfl rfl rfl rfl rfl ?_ | refine TR_storeA0_3 rfl rfl rfl rfl rfl rfl ?_); refine TR_nil ?_)
    | (refine TC_plain (id := 2) (by kernel_rfl) ?_; (first | refine TR_loadA0 rfl 0 rfl rfl rfl ?_ | refine TR_loadA0 rfl 1 rfl rfl rfl ?_ | refine TR_loadA0 rfl 2 rfl rfl rfl ?_ | refine TR_loadA0 rfl 3 rfl rfl rfl ?_); (refine TR_callm (pathNew_yes (plain x) 0 hargs) rfl rfl rfl ?_; intro b); refine TR_pv0 PV_move rfl ?_; refine TR_pv0 (PV_extract rfl rfl) rfl ?_; refine TR_pv0 (PV_extract rfl rfl) rfl ?_; refine TR_pv0 PV_assign rfl ?_; refine TR_pv0 PV_assign rfl ?_; refine TR_nil ?_)
    | (refine TC_plain (id := 3) (by kernel_rfl) ?_; refine TR_pv0 PV_move rfl ?_; refine TR_pv0 (PV_neq rfl rfl) rfl ?_; refine TR_nil ?_)
    | (refine TC_plain (id := 4) (by kernel_rfl) ?_; refine TR_pv0 PV_assign rfl ?_; refine TR_nil ?_)
    | (refine TC_plain (id := 5) (by kernel_rfl) ?_; refine TR_pv0 PV_assign rfl ?_; refine TR_nil ?_)
    | refine TC_cond_t rfl rfl ?_
    | refine TC_cond_f rfl rfl ?_
    | refine TC_skip ?_
    | refine TC_ret ?_
    | refine TC_exit ?_
    | refine TC_block ?_
    | refine TQ_then_ret ?_
    | refine TQ_then_exit ?_
    | refine TQ_blk ?_
    | refine TQ_blk_ret ?_
    | refine TQ_blk_here ?_
    | refine TQ_blk_past rfl ?_
    | refine TC_label ?_
    | (refine TC_cond rfl rfl (fun hq => ?_) (fun hq => ?_) <;> (try simp only [qs] at hq) <;> (try simp only [reduceCtorEq] at hq) <;> (try (exfalso; omega)))
  rename_i cb
  refine TC_loopP (X := Nat × Pth) (fun s => pathAt b s.2 :: cfgBlk cb x :: H :: R) (fun s => [(1, .int .u8 y), (5, ptr cb), (6, ptr b.p), (8, i64 (s.1 + 1))]) (fun s => OnceInv x s.1 s.2) (fun s => 61 - s.1) (0, Pth.new (plain x) 0)
    ⟨by omega, pathNew_ok hargs, rfl, by show (0 : Int) = min ((0 : Nat) : Int) (x % 21 + 1); omega, rfl⟩ ⟨rfl, rfl, rfl, rfl, trivial⟩ (fun _ h => h) ?_
  rintro ⟨k, X⟩ σg mm hmm ⟨hk, hX, hm, hb, hu⟩
  dsimp only at hk hX hm hb hu hmm ⊢
  by_cases hgo : (k : Int) + 1 ≤ y % 61
  · have t1 : X.timeout.bad = min (X.bad + 1) (X.may + 1) := rfl
    have t2 : X.timeout.may = X.may := rfl
    have t3 : X.timeout.w.size = X.w.mtu := rfl
    have t4 : X.timeout.w.mtu = X.w.mtu := rfl
    have t5 := ptimeout_ok hX
    have hd := gtimeout_cd b X hX
    rw [show decide (X.bad = X.may) = decide ((k : Int) + 1 = x % 21 + 1) from Bool.eq_iff_iff.2 (by simp only [decide_eq_true_eq]; omega)] at hd
    revert t1 t2 t3 t4 t5 hd
    generalize X.timeout = X'
    intro t1 t2 t3 t4 t5 hd
    have ha := gactive_cd b X'
    rw [show decide (X'.bad ≤ X'.may) = decide ((k : Int) + 1 ≤ x % 21) from Bool.eq_iff_iff.2 (by simp only [decide_eq_true_eq]; omega)] at ha
    repeat' first
      | refine TC_seq ?_
      | refine TQ_then ?_
      | refine TR_nil ?_
      | refine TQ_noPanic ?_
      | (refine TC_plain (id := 0) (by kernel_rfl) ?_; refine TR_pv0 PV_assign rfl ?_; refine TR_nil ?_)
      | (refine TC_plain (id := 1) (by kernel_rfl) ?_; refine TR_pv0 PV_move rfl ?_)
      | (refine TC_plain (id := 2) (by kernel_rfl) ?_; (first | refine TR_loadA0 rfl 0 rfl rfl rfl ?_ | refine TR_loadA0 rfl 1 rfl rfl rfl ?_ | refine TR_loadA0 rfl 2 rfl rfl rfl ?_ | refine TR_loadA0 rfl 3 rfl rfl rfl ?_))
      | (refine TC_plain (id := 3) (by kernel_rfl) ?_; refine TR_pv0 PV_move rfl ?_; refine TR_pv0 (PV_neq rfl rfl) rfl ?_; refine TR_nil ?_)
      | (refine TC_plain (id := 4) (by kernel_rfl) ?_; refine TR_pv0 PV_assign rfl ?_; refine TR_nil ?_)
      | (refine TC_plain (id := 5) (by kernel_rfl) ?_; refine TR_pv0 PV_assign rfl ?_; refine TR_nil ?_)
      | (refine TC_plain (id := 6) (by kernel_rfl) ?_; refine TR_pv0 PV_move rfl ?_; refine TR_pv0 PV_move rfl ?_; refine TR_pv0 (PV_conv64 rfl (by omega)) rfl ?_; refine TR_pv0 (PV_rem64 rfl rfl (by omega)) rfl ?_; refine TR_pv0 (PV_leq rfl rfl) rfl ?_; refine TR_nil ?_)
      | (refine TC_drawn (id := 8) (cfgBlk cb x :: H :: R) [(0, 1), (2, 1), (3, 1), (4, 1), (5, 1), (6, 1), (1, 2), (7, 1), (8, 1), (9, 1), (11, 1), (12, 1), (13, 1), (14, 1), (10, 2), (15, 1), (16, 1), (17, 1), (18, 1), (20, 1), (21, 1), (22, 1), (23, 1), (24, 1), (19, 2), (25, 1), (26, 1), (27, 1), (28, 1), (29, 2), (30, 1), (31, 1)] mixed (by kernel_rfl) ?_; all_goals refine TR_pv1 PV_move rfl (fun _ h => h.sub (by first | exact .refl _ | exact .cons _ (.refl _) | exact .cons _ (.cons _ (.refl _)) | exact .cons_cons _ (.cons _ (.refl _)) | exact .cons _ (.cons _ (.cons _ (.refl _))))) ?_; all_goals refine TR_pv1 PV_move rfl (fun _ h => h.sub (by first | exact .refl _ | exact .cons _ (.refl _) | exact .cons _ (.cons _ (.refl _)) | exact .cons_cons _ (.cons _ (.refl _)) | exact .cons _ (.cons _ (.cons _ (.refl _))))) ?_; all_goals refine TR_pv1 (PV_fieldAddr rfl) rfl (fun _ h => h.sub (by first | exact .refl _ | exact .cons _ (.refl _) | exact .cons _ (.cons _ (.refl _)) | exact .cons_cons _ (.cons _ (.refl _)) | exact .cons _ (.cons _ (.cons _ (.refl _))))) ?_; all_goals (first | refine TR_load1 rfl 0 rfl rfl rfl (fun _ h => h.sub (by first | exact .refl _ | exact .cons _ (.refl _) | exact .cons _ (.cons _ (.refl _)) | exact .cons_cons _ (.cons _ (.refl _)) | exact .cons _ (.cons _ (.cons _ (.refl _))))) ?_ | refine TR_load1 rfl 1 rfl rfl rfl (fun _ h => h.sub (by first | exact .refl _ | exact .cons _ (.refl _) | exact .cons _ (.cons _ (.refl _)) | exact .cons_cons _ (.cons _ (.refl _)) | exact .cons _ (.cons _ (.cons _ (.refl _))))) ?_ | refine TR_load1 rfl 2 rfl rfl rfl (fun _ h => h.sub (by first | exact .refl _ | exact .cons _ (.refl _) | exact .cons _ (.cons _ (.refl _)) | exact .cons_cons _ (.cons _ (.refl _)) | exact .cons _ (.cons _ (.cons _ (.refl _))))) ?_ | refine TR_load1 rfl 3 rfl rfl rfl (fun _ h => h.sub (by first | exact .refl _ | exact .cons _ (.refl _) | exact .cons _ (.cons _ (.refl _)) | exact .cons_cons _ (.cons _ (.refl _)) | exact .cons _ (.cons _ (.cons _ (.refl _))))) ?_); all_goals (first | refine TR_pv1 (PV_add64 rfl rfl (by omega)) rfl (fun _ h => h.sub (by first | exact .refl _ | exact .cons _ (.refl _) | exact .cons _ (.cons _ (.refl _)) | exact .cons_cons _ (.cons _ (.refl _)) | exact .cons _ (.cons _ (.cons _ (.refl _))))) ?_ | refine TR_pv1 (PV_add64w rfl rfl) rfl (fun _ h => h.sub (by first | exact .refl _ | exact .cons _ (.refl _) | exact .cons _ (.cons _ (.refl _)) | exact .cons_cons _ (.cons _ (.refl _)) | exact .cons _ (.cons _ (.cons _ (.refl _))))) ?_); all_goals refine TR_pv1 (PV_eql rfl rfl) rfl (fun _ h => h.sub (by first | exact .refl _ | exact .cons _ (.refl _) | exact .cons _ (.cons _ (.refl _)) | exact .cons_cons _ (.cons _ (.refl _)) | exact .cons _ (.cons _ (.cons _ (.refl _))))) ?_; all_goals refine TR_callsP (hd) rfl rfl (.cons .here .nil) (.cons .here .nil) rfl (by first | exact .refl _ | exact .cons _ (.refl _) | exact .cons _ (.cons _ (.refl _)) | exact .cons_cons _ (.cons _ (.refl _)) | exact .cons _ (.cons _ (.cons _ (.refl _)))) ?_; all_goals refine TR_pv1 (PV_bne rfl rfl) rfl (fun _ h => h.sub (by first | exact .refl _ | exact .cons _ (.refl _) | exact .cons _ (.cons _ (.refl _)) | exact .cons_cons _ (.cons _ (.refl _)) | exact .cons _ (.cons _ (.cons _ (.refl _))))) ?_; all_goals refine TR_pv1 PV_move rfl (fun _ h => h.sub (by first | exact .refl _ | exact .cons _ (.refl _) | exact .cons _ (.cons _ (.refl _)) | exact .cons_cons _ (.cons _ (.refl _)) | exact .cons _ (.cons _ (.cons _ (.refl _))))) ?_; all_goals (first | refine TR_pv1 PV_move rfl (fun _ h => h.sub (by first | exact .refl _ | exact .cons _ (.refl _) | exact .cons _ (.cons _ (.refl _)) | exact .cons_cons _ (.cons _ (.refl _)) | exact .cons _ (.cons _ (.cons _ (.refl _))))) ?_ | refine TR_skip1 rfl (fun _ h => h.sub (by first | exact .refl _ | exact .cons _ (.refl _) | exact .cons _ (.cons _ (.refl _)) | exact .cons_cons _ (.cons _ (.refl _)) | exact .cons _ (.cons _ (.cons _ (.refl _))))) ?_ | (refine TR_gsplit rfl rfl rfl (fun hq => ?_) (fun hq => ?_) <;> (try simp only [qs] at hq) <;> (try simp only [reduceCtorEq] at hq) <;> (try (exfalso; omega)) <;> (first | refine TR_pv1 PV_move rfl (fun _ h => h.sub (by first | exact .refl _ | exact .cons _ (.refl _) | exact .cons _ (.cons _ (.refl _)) | exact .cons_cons _ (.cons _ (.refl _)) | exact .cons _ (.cons _ (.cons _ (.refl _))))) ?_ | refine TR_skip1 rfl (fun _ h => h.sub (by first | exact .refl _ | exact .cons _ (.refl _) | exact .cons _ (.cons _ (.refl _)) | exact .cons_cons _ (.cons _ (.refl _)) | exact .cons _ (.cons _ (.cons _ (.refl _))))) ?_))); all_goals (first | refine TR_pv1 PV_move rfl (fun _ h => h.sub (by first | exact .refl _ | exact .cons _ (.refl _) | exact .cons _ (.cons _ (.refl _)) | exact .cons_cons _ (.cons _ (.refl _)) | exact .cons _ (.cons _ (.cons _ (.refl _))))) ?_ | refine TR_skip1 rfl (fun _ h => h.sub (by first | exact .refl _ | exact .cons _ (.refl _) | exact .cons _ (.cons _ (.refl _)) | exact .cons_cons _ (.cons _ (.refl _)) | exact .cons _ (.cons _ (.cons _ (.refl _))))) ?_ | (refine TR_gsplit rfl rfl rfl (fun hq => ?_) (fun hq => ?_) <;> (try simp only [qs] at hq) <;> (try simp only [reduceCtorEq] at hq) <;> (try (exfalso; omega)) <;> (first | refine TR_pv1 PV_move rfl (fun _ h => h.sub (by first | exact .refl _ | exact .cons _ (.refl _) | exact .cons _ (.cons _ (.refl _)) | exact .cons_cons _ (.cons _ (.refl _)) | exact .cons _ (.cons _ (.cons _ (.refl _))))) ?_ | refine TR_skip1 rfl (fun _ h => h.sub (by first | exact .refl _ | exact .cons _ (.refl _) | exact .cons _ (.cons _ (.refl _)) | exact .cons_cons _ (.cons _ (.refl _)) | exact .cons _ (.cons _ (.cons _ (.refl _))))) ?_))); all_goals (first | refine TR_pv1 (PV_fieldAddr rfl) rfl (fun _ h => h.sub (by first | exact .refl _ | exact .cons _ (.refl _) | exact .cons _ (.cons _ (.refl _)) | exact .cons_cons _ (.cons _ (.refl _)) | exact .cons _ (.cons _ (.cons _ (.refl _))))) ?_ | refine TR_skip1 rfl (fun _ h => h.sub (by first | exact .refl _ | exact .cons _ (.refl _) | exact .cons _ (.cons _ (.refl _)) | exact .cons_cons _ (.cons _ (.refl _)) | exact .cons _ (.cons _ (.cons _ (.refl _))))) ?_ | (refine TR_gsplit rfl rfl rfl (fun hq => ?_) (fun hq => ?_) <;> (try simp only [qs] at hq) <;> (try simp only [reduceCtorEq] at hq) <;> (try (exfalso; omega)) <;> (first | refine TR_pv1 (PV_fieldAddr rfl) rfl (fun _ h => h.sub (by first | exact .refl _ | exact .cons _ (.refl _) | exact .cons _ (.cons _ (.refl _)) | exact .cons_cons _ (.cons _ (.refl _)) | exact .cons _ (.cons _ (.cons _ (.refl _))))) ?_ | refine TR_skip1 rfl (fun _ h => h.sub (by first | exact .refl _ | exact .cons _ (.refl _) | exact .cons _ (.cons _ (.refl _)) | exact .cons_cons _ (.cons _ (.refl _)) | exact .cons _ (.cons _ (.cons _ (.refl _))))) ?_))); all_goals (first | refine TR_load1 rfl 0 rfl rfl rfl (fun _ h => h.sub (by first | exact .refl _ | exact .cons _ (.refl _) | exact .cons _ (.cons _ (.refl _)) | exact .cons_cons _ (.cons _ (.refl _)) | exact .cons _ (.cons _ (.cons _ (.refl _))))) ?_ | refine TR_load1 rfl 1 rfl rfl rfl (fun _ h => h.sub (by first | exact .refl _ | exact .cons _ (.refl _) | exact .cons _ (.cons _ (.refl _)) | exact .cons_cons _ (.cons _ (.refl _)) | exact .cons _ (.cons _ (.cons _ (.refl _))))) ?_ | refine TR_load1 rfl 2 rfl rfl rfl (fun _ h => h.sub (by first | exact .refl _ | exact .cons _ (.refl _) | exact .cons _ (.cons _ (.refl _)) | exact .cons_cons _ (.cons _ (.refl _)) | exact .cons _ (.cons _ (.cons _ (.refl _))))) ?_ | refine TR_load1 rfl 3 rfl rfl rfl (fun _ h => h.sub (by first | exact .refl _ | exact .cons _ (.refl _) | exact .cons _ (.cons _ (.refl _)) | exact .cons_cons _ (.cons _ (.refl _)) | exact .cons _ (.cons _ (.cons _ (.refl _))))) ?_ | refine TR_skip1 rfl (fun _ h => h.sub (by first | exact .refl _ | exact .cons _ (.refl _) | exact .cons _ (.cons _ (.refl _)) | exact .cons_cons _ (.cons _ (.refl _)) | exact .cons _ (.cons _ (.cons _ (.refl _))))) ?_ | (refine TR_gsplit rfl rfl rfl (fun hq => ?_) (fun hq => ?_) <;> (try simp only [qs] at hq) <;> (try simp only [reduceCtorEq] at hq) <;> (try (exfalso; omega)) <;> (first | refine TR_load1 rfl 0 rfl rfl rfl (fun _ h => h.sub (by first | exact .refl _ | exact .cons _ (.refl _) | exact .cons _ (.cons _ (.refl _)) | exact .cons_cons _ (.cons _ (.refl _)) | exact .cons _ (.cons _ (.cons _ (.refl _))))) ?_ | refine TR_load1 rfl 1 rfl rfl rfl (fun _ h => h.sub (by first | exact .refl _ | exact .cons _ (.refl _) | exact .cons _ (.cons _ (.refl _)) | exact .cons_cons _ (.cons _ (.refl _)) | exact .cons _ (.cons _ (.cons _ (.refl _))))) ?_ | refine TR_load1 rfl 2 rfl rfl rfl (fun _ h => h.sub (by first | exact .refl _ | exact .cons _ (.refl _) | exact .cons _ (.cons _ (.refl _)) | exact .cons_cons _ (.cons _ (.refl _)) | exact .cons _ (.cons _ (.cons _ (.refl _))))) ?_ | refine TR_load1 rfl 3 rfl rfl rfl (fun _ h => h.sub (by first | exact .refl _ | exact .cons _ (.refl _) | exact .cons _ (.cons _ (.refl _)) | exact .cons_cons _ (.cons _ (.refl _)) | exact .cons _ (.cons _ (.cons _ (.refl _))))) ?_ | refine TR_skip1 rfl (fun _ h => h.sub (by first | exact .refl _ | exact .cons _ (.refl _) | exact .cons _ (.cons _ (.refl _)) | exact .cons_cons _ (.cons _ (.refl _)) | exact .cons _ (.cons _ (.cons _ (.refl _))))) ?_))); all_goals (first | refine TR_pv1 (PV_leq rfl rfl) rfl (fun _ h => h.sub (by first | exact .refl _ | exact .cons _ (.refl _) | exact .cons _ (.cons _ (.refl _)) | exact .cons_cons _ (.cons _ (.refl _)) | exact .cons _ (.cons _ (.cons _ (.refl _))))) ?_ | refine TR_skip1 rfl (fun _ h => h.sub (by first | exact .refl _ | exact .cons _ (.refl _) | exact .cons _ (.cons _ (.refl _)) | exact .cons_cons _ (.cons _ (.refl _)) | exact .cons _ (.cons _ (.cons _ (.refl _))))) ?_ | (refine TR_gsplit rfl rfl rfl (fun hq => ?_) (fun hq => ?_) <;> (try simp only [qs] at hq) <;> (try simp only [reduceCtorEq] at hq) <;> (try (exfalso; omega)) <;> (first | refine TR_pv1 (PV_leq rfl rfl) rfl (fun _ h => h.sub (by first | exact .refl _ | exact .cons _ (.refl _) | exact .cons _ (.cons _ (.refl _)) | exact .cons_cons _ (.cons _ (.refl _)) | exact .cons _ (.cons _ (.cons _ (.refl _))))) ?_ | refine TR_skip1 rfl (fun _ h => h.sub (by first | exact .refl _ | exact .cons _ (.refl _) | exact .cons _ (.cons _ (.refl _)) | exact .cons_cons _ (.cons _ (.refl _)) | exact .cons _ (.cons _ (.cons _ (.refl _))))) ?_))); all_goals (first | refine TR_callsP (ha) rfl rfl (.cons .here .nil) (.cons .here .nil) rfl (by first | exact .refl _ | exact .cons _ (.refl _) | exact .cons _ (.cons _ (.refl _)) | exact .cons_cons _ (.cons _ (.refl _)) | exact .cons _ (.cons _ (.cons _ (.refl _)))) ?_ | refine TR_skip2 rfl (fun _ h => h.sub (by first | exact .refl _ | exact .cons _ (.refl _) | exact .cons _ (.cons _ (.refl _)) | exact .cons_cons _ (.cons _ (.refl _)) | exact .cons _ (.cons _ (.cons _ (.refl _))))) ?_ | (refine TR_gsplit rfl rfl rfl (fun hq => ?_) (fun hq => ?_) <;> (try simp only [qs] at hq) <;> (try simp only [reduceCtorEq] at hq) <;> (try (exfalso; omega)) <;> (first | refine TR_callsP (ha) rfl rfl (.cons .here .nil) (.cons .here .nil) rfl (by first | exact .refl _ | exact .cons _ (.refl _) | exact .cons _ (.cons _ (.refl _)) | exact .cons_cons _ (.cons _ (.refl _)) | exact .cons _ (.cons _ (.cons _ (.refl _)))) ?_ | refine TR_skip2 rfl (fun _ h => h.sub (by first | exact .refl _ | exact .cons _ (.refl _) | exact .cons _ (.cons _ (.refl _)) | exact .cons_cons _ (.cons _ (.refl _)) | exact .cons _ (.cons _ (.cons _ (.refl _))))) ?_))); all_goals (first | refine TR_pv1 (PV_bne rfl rfl) rfl (fun _ h => h.sub (by first | exact .refl _ | exact .cons _ (.refl _) | exact .cons _ (.cons _ (.refl _)) | exact .cons_cons _ (.cons _ (.refl _)) | exact .cons _ (.cons _ (.cons _ (.refl _))))) ?_ | refine TR_skip1 rfl (fun _ h => h.sub (by first | exact .refl _ | exact .cons _ (.refl _) | exact .cons _ (.cons _ (.refl _)) | exact .cons_cons _ (.cons _ (.refl _)) | exact .cons _ (.cons _ (.cons _ (.refl _))))) ?_ | (refine TR_gsplit rfl rfl rfl (fun hq => ?_) (fun hq => ?_) <;> (try simp only [qs] at hq) <;> (try simp only [reduceCtorEq] at hq) <;> (try (exfalso; omega)) <;> (first | refine TR_pv1 (PV_bne rfl rfl) rfl (fun _ h => h.sub (by first | exact .refl _ | exact .cons _ (.refl _) | exact .cons _ (.cons _ (.refl _)) | exact .cons_cons _ (.cons _ (.refl _)) | exact .cons _ (.cons _ (.cons _ (.refl _))))) ?_ | refine TR_skip1 rfl (fun _ h => h.sub (by first | exact .refl _ | exact .cons _ (.refl _) | exact .cons _ (.cons _ (.refl _)) | exact .cons_cons _ (.cons _ (.refl _)) | exact .cons _ (.cons _ (.cons _ (.refl _))))) ?_))); all_goals (first | refine TR_pv1 (PV_pick_t rfl) rfl (fun _ h => h.sub (by first | exact .refl _ | exact .cons _ (.refl _) | exact .cons _ (.cons _ (.refl _)) | exact .cons_cons _ (.cons _ (.refl _)) | exact .cons _ (.cons _ (.cons _ (.refl _))))) ?_ | refine TR_pv1 (PV_pick_f rfl) rfl (fun _ h => h.sub (by first | exact .refl _ | exact .cons _ (.refl _) | exact .cons _ (.cons _ (.refl _)) | exact .cons_cons _ (.cons _ (.refl _)) | exact .cons _ (.cons _ (.cons _ (.refl _))))) ?_); all_goals refine TR_pv1 PV_move rfl (fun _ h => h.sub (by first | exact .refl _ | exact .cons _ (.refl _) | exact .cons _ (.cons _ (.refl _)) | exact .cons_cons _ (.cons _ (.refl _)) | exact .cons _ (.cons _ (.cons _ (.refl _))))) ?_; all_goals (first | refine TR_pv1 PV_move rfl (fun _ h => h.sub (by first | exact .refl _ | exact .cons _ (.refl _) | exact .cons _ (.cons _ (.refl _)) | exact .cons_cons _ (.cons _ (.refl _)) | exact .cons _ (.cons _ (.cons _ (.refl _))))) ?_ | refine TR_skip1 rfl (fun _ h => h.sub (by first | exact .refl _ | exact .cons _ (.refl _) | exact .cons _ (.cons _ (.refl _)) | exact .cons_cons _ (.cons _ (.refl _)) | exact .cons _ (.cons _ (.cons _ (.refl _))))) ?_ | (refine TR_gsplit rfl rfl rfl (fun hq => ?_) (fun hq => ?_) <;> (try simp only [qs] at hq) <;> (try simp only [reduceCtorEq] at hq) <;> (try (exfalso; omega)) <;> (first | refine TR_pv1 PV_move rfl (fun _ h => h.sub (by first | exact .refl _ | exact .cons _ (.refl _) | exact .cons _ (.cons _ (.refl _)) | exact .cons_cons _ (.cons _ (.refl _)) | exact .cons _ (.cons _ (.cons _ (.refl _))))) ?_ | refine TR_skip1 rfl (fun _ h => h.sub (by first | exact .refl _ | exact .cons _ (.refl _) | exact .cons _ (.cons _ (.refl _)) | exact .cons_cons _ (.cons _ (.refl _)) | exact .cons _ (.cons _ (.cons _ (.refl _))))) ?_))); all_goals (first | refine TR_pv1 PV_move rfl (fun _ h => h.sub (by first | exact .refl _ | exact .cons _ (.refl _) | exact .cons _ (.cons _ (.refl _)) | exact .cons_cons _ (.cons _ (.refl _)) | exact .cons _ (.cons _ (.cons _ (.refl _))))) ?_ | refine TR_skip1 rfl (fun _ h => h.sub (by first | exact .refl _ | exact .cons _ (.refl _) | exact .cons _ (.cons _ (.refl _)) | exact .cons_cons _ (.cons _ (.refl _)) | exact .cons _ (.cons _ (.cons _ (.refl _))))) ?_ | (refine TR_gsplit rfl rfl rfl (fun hq => ?_) (fun hq => ?_) <;> (try simp only [qs] at hq) <;> (try simp only [reduceCtorEq] at hq) <;> (try (exfalso; omega)) <;> (first | refine TR_pv1 PV_move rfl (fun _ h => h.sub (by first | exact .refl _ | exact .cons _ (.refl _) | exact .cons _ (.cons _ (.refl _)) | exact .cons_cons _ (.cons _ (.refl _)) | exact .cons _ (.cons _ (.cons _ (.refl _))))) ?_ | refine TR_skip1 rfl (fun _ h => h.sub (by first | exact .refl _ | exact .cons _ (.refl _) | exact .cons _ (.cons _ (.refl _)) | exact .cons_cons _ (.cons _ (.refl _)) | exact .cons _ (.cons _ (.cons _ (.refl _))))) ?_))); all_goals (first | refine TR_pv1 (PV_fieldAddr rfl) rfl (fun _ h => h.sub (by first | exact .refl _ | exact .cons _ (.refl _) | exact .cons _ (.cons _ (.refl _)) | exact .cons_cons _ (.cons _ (.refl _)) | exact .cons _ (.cons _ (.cons _ (.refl _))))) ?_ | refine TR_skip1 rfl (fun _ h => h.sub (by first | exact .refl _ | exact .cons _ (.refl _) | exact .cons _ (.cons _ (.refl _)) | exact .cons_cons _ (.cons _ (.refl _)) | exact .cons _ (.cons _ (.cons _ (.refl _))))) ?_ | (refine TR_gsplit rfl rfl rfl (fun hq => ?_) (fun hq => ?_) <;> (try simp only [qs] at hq) <;> (try simp only [reduceCtorEq] at hq) <;> (try (exfalso; omega)) <;> (first | refine TR_pv1 (PV_fieldAddr rfl) rfl (fun _ h => h.sub (by first | exact .refl _ | exact .cons _ (.refl _) | exact .cons _ (.cons _ (.refl _)) | exact .cons_cons _ (.cons _ (.refl _)) | exact .cons _ (.cons _ (.cons _ (.refl _))))) ?_ | refine TR_skip1 rfl (fun _ h => h.sub (by first | exact .refl _ | exact .cons _ (.refl _) | exact .cons _ (.cons _ (.refl _)) | exact .cons_cons _ (.cons _ (.refl _)) | exact .cons _ (.cons _ (.cons _ (.refl _))))) ?_))); all_goals (first | refine TR_load1 rfl 0 rfl rfl rfl (fun _ h => h.sub (by first | exact .refl _ | exact .cons _ (.refl _) | exact .cons _ (.cons _ (.refl _)) | exact .cons_cons _ (.cons _ (.refl _)) | exact .cons _ (.cons _ (.cons _ (.refl _))))) ?_ | refine TR_load1 rfl 1 rfl rfl rfl (fun _ h => h.sub (by first | exact .refl _ | exact .cons _ (.refl _) | exact .cons _ (.cons _ (.refl _)) | exact .cons_cons _ (.cons _ (.refl _)) | exact .cons _ (.cons _ (.cons _ (.refl _))))) ?_ | refine TR_load1 rfl 2 rfl rfl rfl (fun _ h => h.sub (by first | exact .refl _ | exact .cons _ (.refl _) | exact .cons _ (.cons _ (.refl _)) | exact .cons_cons _ (.cons _ (.refl _)) | exact .cons _ (.cons _ (.cons _ (.refl _))))) ?_ | refine TR_load1 rfl 3 rfl rfl rfl (fun _ h => h.sub (by first | exact .refl _ | exact .cons _ (.refl _) | exact .cons _ (.cons _ (.refl _)) | exact .cons_cons _ (.cons _ (.refl _)) | exact .cons _ (.cons _ (.cons _ (.refl _))))) ?_ | refine TR_skip1 rfl (fun _ h => h.sub (by first | exact .refl _ | exact .cons _ (.refl _) | exact .cons _ (.cons _ (.refl _)) | exact .cons_cons _ (.cons _ (.refl _)) | exact .cons _ (.cons _ (.cons _ (.refl _))))) ?_ | (refine TR_gsplit rfl rfl rfl (fun hq => ?_) (fun hq => ?_) <;> (try simp only [qs] at hq) <;> (try simp only [reduceCtorEq] at hq) <;> (try (exfalso; omega)) <;> (first | refine TR_load1 rfl 0 rfl rfl rfl (fun _ h => h.sub (by first | exact .refl _ | exact .cons _ (.refl _) | exact .cons _ (.cons _ (.refl _)) | exact .cons_cons _ (.cons _ (.refl _)) | exact .cons _ (.cons _ (.cons _ (.refl _))))) ?_ | refine TR_load1 rfl 1 rfl rfl rfl (fun _ h => h.sub (by first | exact .refl _ | exact .cons _ (.refl _) | exact .cons _ (.cons _ (.refl _)) | exact .cons_cons _ (.cons _ (.refl _)) | exact .cons _ (.cons _ (.cons _ (.refl _))))) ?_ | refine TR_load1 rfl 2 rfl rfl rfl (fun _ h => h.sub (by first | exact .refl _ | exact .cons _ (.refl _) | exact .cons _ (.cons _ (.refl _)) | exact .cons_cons _ (.cons _ (.refl _)) | exact .cons _ (.cons _ (.cons _ (.refl _))))) ?_ | refine TR_load1 rfl 3 rfl rfl rfl (fun _ h => h.sub (by first | exact .refl _ | exact .cons _ (.refl _) | exact .cons _ (.cons _ (.refl _)) | exact .cons_cons _ (.cons _ (.refl _)) | exact .cons _ (.cons _ (.cons _ (.refl _))))) ?_ | refine TR_skip1 rfl (fun _ h => h.sub (by first | exact .refl _ | exact .cons _ (.refl _) | exact .cons _ (.cons _ (.refl _)) | exact .cons_cons _ (.cons _ (.refl _)) | exact .cons _ (.cons _ (.cons _ (.refl _))))) ?_))); all_goals (first | refine TR_pv1 (PV_add64 rfl rfl (by omega)) rfl (fun _ h => h.sub (by first | exact .refl _ | exact .cons _ (.refl _) | exact .cons _ (.cons _ (.refl _)) | exact .cons_cons _ (.cons _ (.refl _)) | exact .cons _ (.cons _ (.cons _ (.refl _))))) ?_ | refine TR_pv1 (PV_add64w rfl rfl) rfl (fun _ h => h.sub (by first | exact .refl _ | exact .cons _ (.refl _) | exact .cons _ (.cons _ (.refl _)) | exact .cons_cons _ (.cons _ (.refl _)) | exact .cons _ (.cons _ (.cons _ (.refl _))))) ?_ | refine TR_skip1 rfl (fun _ h => h.sub (by first | exact .refl _ | exact .cons _ (.refl _) | exact .cons _ (.cons _ (.refl _)) | exact .cons_cons _ (.cons _ (.refl _)) | exact .cons _ (.cons _ (.cons _ (.refl _))))) ?_ | (refine TR_gsplit rfl rfl rfl (fun hq => ?_) (fun hq => ?_) <;> (try simp only [qs] at hq) <;> (try simp only [reduceCtorEq] at hq) <;> (try (exfalso; omega)) <;> (first | refine TR_pv1 (PV_add64 rfl rfl (by omega)) rfl (fun _ h => h.sub (by first | exact .refl _ | exact .cons _ (.refl _) | exact .cons _ (.cons _ (.refl _)) | exact .cons_cons _ (.cons _ (.refl _)) | exact .cons _ (.cons _ (.cons _ (.refl _))))) ?_ | refine TR_pv1 (PV_add64w rfl rfl) rfl (fun _ h => h.sub (by first | exact .refl _ | exact .cons _ (.refl _) | exact .cons _ (.cons _ (.refl _)) | exact .cons_cons _ (.cons _ (.refl _)) | exact .cons _ (.cons _ (.cons _ (.refl _))))) ?_ | refine TR_skip1 rfl (fun _ h => h.sub (by first | exact .refl _ | exact .cons _ (.refl _) | exact .cons _ (.cons _ (.refl _)) | exact .cons_cons _ (.cons _ (.refl _)) | exact .cons _ (.cons _ (.cons _ (.refl _))))) ?_))); all_goals (first | refine TR_pv1 (PV_min rfl rfl) rfl (fun _ h => h.sub (by first | exact .refl _ | exact .cons _ (.refl _) | exact .cons _ (.cons _ (.refl _)) | exact .cons_cons _ (.cons _ (.refl _)) | exact .cons _ (.cons _ (.cons _ (.refl _))))) ?_ | refine TR_skip1 rfl (fun _ h => h.sub (by first | exact .refl _ | exact .cons _ (.refl _) | exact .cons _ (.cons _ (.refl _)) | exact .cons_cons _ (.cons _ (.refl _)) | exact .cons _ (.cons _ (.cons _ (.refl _))))) ?_ | (refine TR_gsplit rfl rfl rfl (fun hq => ?_) (fun hq => ?_) <;> (try simp only [qs] at hq) <;> (try simp only [reduceCtorEq] at hq) <;> (try (exfalso; omega)) <;> (first | refine TR_pv1 (PV_min rfl rfl) rfl (fun _ h => h.sub (by first | exact .refl _ | exact .cons _ (.refl _) | exact .cons _ (.cons _ (.refl _)) | exact .cons_cons _ (.cons _ (.refl _)) | exact .cons _ (.cons _ (.cons _ (.refl _))))) ?_ | refine TR_skip1 rfl (fun _ h => h.sub (by first | exact .refl _ | exact .cons _ (.refl _) | exact .cons _ (.cons _ (.refl _)) | exact .cons_cons _ (.cons _ (.refl _)) | exact .cons _ (.cons _ (.cons _ (.refl _))))) ?_))); all_goals (first | refine TR_callsP (gfailures_cd b X') rfl rfl (.cons .here .nil) (.cons .here .nil) rfl (by first | exact .refl _ | exact .cons _ (.refl _) | exact .cons _ (.cons _ (.refl _)) | exact .cons_cons _ (.cons _ (.refl _)) | exact .cons _ (.cons _ (.cons _ (.refl _)))) ?_ | refine TR_skip2 rfl (fun _ h => h.sub (by first | exact .refl _ | exact .cons _ (.refl _) | exact .cons _ (.cons _ (.refl _)) | exact .cons_cons _ (.cons _ (.refl _)) | exact .cons _ (.cons _ (.cons _ (.refl _))))) ?_ | (refine TR_gsplit rfl rfl rfl (fun hq => ?_) (fun hq => ?_) <;> (try simp only [qs] at hq) <;> (try simp only [reduceCtorEq] at hq) <;> (try (exfalso; omega)) <;> (first | refine TR_callsP (gfailures_cd b X') rfl rfl (.cons .here .nil) (.cons .here .nil) rfl (by first | exact .refl _ | exact .cons _ (.refl _) | exact .cons _ (.cons _ (.refl _)) | exact .cons_cons _ (.cons _ (.refl _)) | exact .cons _ (.cons _ (.cons _ (.refl _)))) ?_ | refine TR_skip2 rfl (fun _ h => h.sub (by first | exact .refl _ | exact .cons _ (.refl _) | exact .cons _ (.cons _ (.refl _)) | exact .cons_cons _ (.cons _ (.refl _)) | exact .cons _ (.cons _ (.cons _ (.refl _))))) ?_))); all_goals (first | refine TR_pv1 (PV_neq rfl rfl) rfl (fun _ h => h.sub (by first | exact .refl _ | exact .cons _ (.refl _) | exact .cons _ (.cons _ (.refl _)) | exact .cons_cons _ (.cons _ (.refl _)) | exact .cons _ (.cons _ (.cons _ (.refl _))))) ?_ | refine TR_skip1 rfl (fun _ h => h.sub (by first | exact .refl _ | exact .cons _ (.refl _) | exact .cons _ (.cons _ (.refl _)) | exact .cons_cons _ (.cons _ (.refl _)) | exact .cons _ (.cons _ (.cons _ (.refl _))))) ?_ | (refine TR_gsplit rfl rfl rfl (fun hq => ?_) (fun hq => ?_) <;> (try simp only [qs] at hq) <;> (try simp only [reduceCtorEq] at hq) <;> (try (exfalso; omega)) <;> (first | refine TR_pv1 (PV_neq rfl rfl) rfl (fun _ h => h.sub (by first | exact .refl _ | exact .cons _ (.refl _) | exact .cons _ (.cons _ (.refl _)) | exact .cons_cons _ (.cons _ (.refl _)) | exact .cons _ (.cons _ (.cons _ (.refl _))))) ?_ | refine TR_skip1 rfl (fun _ h => h.sub (by first | exact .refl _ | exact .cons _ (.refl _) | exact .cons _ (.cons _ (.refl _)) | exact .cons_cons _ (.cons _ (.refl _)) | exact .cons _ (.cons _ (.cons _ (.refl _))))) ?_))); all_goals (first | refine TR_pv1 (PV_pick_t rfl) rfl (fun _ h => h.sub (by first | exact .refl _ | exact .cons _ (.refl _) | exact .cons _ (.cons _ (.refl _)) | exact .cons_cons _ (.cons _ (.refl _)) | exact .cons _ (.cons _ (.cons _ (.refl _))))) ?_ | refine TR_pv1 (PV_pick_f rfl) rfl (fun _ h => h.sub (by first | exact .refl _ | exact .cons _ (.refl _) | exact .cons _ (.cons _ (.refl _)) | exact .cons_cons _ (.cons _ (.refl _)) | exact .cons _ (.cons _ (.cons _ (.refl _))))) ?_); all_goals refine TR_pv1 PV_move rfl (fun _ h => h.sub (by first | exact .refl _ | exact .cons _ (.refl _) | exact .cons _ (.cons _ (.refl _)) | exact .cons_cons _ (.cons _ (.refl _)) | exact .cons _ (.cons _ (.cons _ (.refl _))))) ?_; all_goals (first | refine TR_pv1 PV_move rfl (fun _ h => h.sub (by first | exact .refl _ | exact .cons _ (.refl _) | exact .cons _ (.cons _ (.refl _)) | exact .cons_cons _ (.cons _ (.refl _)) | exact .cons _ (.cons _ (.cons _ (.refl _))))) ?_ | refine TR_skip1 rfl (fun _ h => h.sub (by first | exact .refl _ | exact .cons _ (.refl _) | exact .cons _ (.cons _ (.refl _)) | exact .cons_cons _ (.cons _ (.refl _)) | exact .cons _ (.cons _ (.cons _ (.refl _))))) ?_ | (refine TR_gsplit rfl rfl rfl (fun hq => ?_) (fun hq => ?_) <;> (try simp only [qs] at hq) <;> (try simp only [reduceCtorEq] at hq) <;> (try (exfalso; omega)) <;> (first | refine TR_pv1 PV_move rfl (fun _ h => h.sub (by first | exact .refl _ | exact .cons _ (.refl _) | exact .cons _ (.cons _ (.refl _)) | exact .cons_cons _ (.cons _ (.refl _)) | exact .cons _ (.cons _ (.cons _ (.refl _))))) ?_ | refine TR_skip1 rfl (fun _ h => h.sub (by first | exact .refl _ | exact .cons _ (.refl _) | exact .cons _ (.cons _ (.refl _)) | exact .cons_cons _ (.cons _ (.refl _)) | exact .cons _ (.cons _ (.cons _ (.refl _))))) ?_))); all_goals (first | refine TR_callsP (gsize_cd b X') rfl rfl (.cons .here .nil) (.cons .here .nil) rfl (by first | exact .refl _ | exact .cons _ (.refl _) | exact .cons _ (.cons _ (.refl _)) | exact .cons_cons _ (.cons _ (.refl _)) | exact .cons _ (.cons _ (.cons _ (.refl _)))) ?_ | refine TR_skip2 rfl (fun _ h => h.sub (by first | exact .refl _ | exact .cons _ (.refl _) | exact .cons _ (.cons _ (.refl _)) | exact .cons_cons _ (.cons _ (.refl _)) | exact .cons _ (.cons _ (.cons _ (.refl _))))) ?_ | (refine TR_gsplit rfl rfl rfl (fun hq => ?_) (fun hq => ?_) <;> (try simp only [qs] at hq) <;> (try simp only [reduceCtorEq] at hq) <;> (try (exfalso; omega)) <;> (first | refine TR_callsP (gsize_cd b X') rfl rfl (.cons .here .nil) (.cons .here .nil) rfl (by first | exact .refl _ | exact .cons _ (.refl _) | exact .cons _ (.cons _ (.refl _)) | exact .cons_cons _ (.cons _ (.refl _)) | exact .cons _ (.cons _ (.cons _ (.refl _)))) ?_ | refine TR_skip2 rfl (fun _ h => h.sub (by first | exact .refl _ | exact .cons _ (.refl _) | exact .cons _ (.cons _ (.refl _)) | exact .cons_cons _ (.cons _ (.refl _)) | exact .cons _ (.cons _ (.cons _ (.refl _))))) ?_))); all_goals (first | refine TR_pv1 (PV_neq rfl rfl) rfl (fun _ h => h.sub (by first | exact .refl _ | exact .cons _ (.refl _) | exact .cons _ (.cons _ (.refl _)) | exact .cons_cons _ (.cons _ (.refl _)) | exact .cons _ (.cons _ (.cons _ (.refl _))))) ?_ | refine TR_skip1 rfl (fun _ h => h.sub (by first | exact .refl _ | exact .cons _ (.refl _) | exact .cons _ (.cons _ (.refl _)) | exact .cons_cons _ (.cons _ (.refl _)) | exact .cons _ (.cons _ (.cons _ (.refl _))))) ?_ | (refine TR_gsplit rfl rfl rfl (fun hq => ?_) (fun hq => ?_) <;> (try simp only [qs] at hq) <;> (try simp only [reduceCtorEq] at hq) <;> (try (exfalso; omega)) <;> (first | refine TR_pv1 (PV_neq rfl rfl) rfl (fun _ h => h.sub (by first | exact .refl _ | exact .cons _ (.refl _) | exact .cons _ (.cons _ (.refl _)) | exact .cons_cons _ (.cons _ (.refl _)) | exact .cons _ (.cons _ (.cons _ (.refl _))))) ?_ | refine TR_skip1 rfl (fun _ h => h.sub (by first | exact .refl _ | exact .cons _ (.refl _) | exact .cons _ (.cons _ (.refl _)) | exact .cons_cons _ (.cons _ (.refl _)) | exact .cons _ (.cons _ (.cons _ (.refl _))))) ?_))); all_goals (first | refine TR_pv1 (PV_pick_t rfl) rfl (fun _ h => h.sub (by first | exact .refl _ | exact .cons _ (.refl _) | exact .cons _ (.cons _ (.refl _)) | exact .cons_cons _ (.cons _ (.refl _)) | exact .cons _ (.cons _ (.cons _ (.refl _))))) ?_ | refine TR_pv1 (PV_pick_f rfl) rfl (fun _ h => h.sub (by first | exact .refl _ | exact .cons _ (.refl _) | exact .cons _ (.cons _ (.refl _)) | exact .cons_cons _ (.cons _ (.refl _)) | exact .cons _ (.cons _ (.cons _ (.refl _))))) ?_); all_goals refine TR_nil ?_)
      | (refine TC_plain (id := 9) (by kernel_rfl) ?_; refine TR_pv0 PV_assign rfl ?_; refine TR_nil ?_)
      | (refine TC_plain (id := 7) (by kernel_rfl) ?_; refine TR_pv0 PV_move rfl ?_; (first | refine TR_pv0 (PV_add64 rfl rfl (by omega)) rfl ?_ | refine TR_pv0 (PV_add64w rfl rfl) rfl ?_); refine TR_pv0 PV_assign rfl ?_; refine TR_nil ?_)
      | (refine TC_plain (id := 10) (by kernel_rfl) ?_; refine TR_pv0 PV_move rfl ?_)
      | (refine TC_plain (id := 11) (by kernel_rfl) ?_; all_goals refine TR_pv0 PV_move rfl ?_; all_goals refine TR_calld1_0 (ha) rfl rfl rfl rfl ?_; all_goals refine TR_pv0 PV_move rfl ?_; all_goals (first | refine TR_pv0 PV_move rfl ?_ | refine TR_skip0 rfl ?_ | (refine TR_gsplit rfl rfl rfl (fun hq => ?_) (fun hq => ?_) <;> (try simp only [qs] at hq) <;> (try simp only [reduceCtorEq] at hq) <;> (try (exfalso; omega)) <;> (first | refine TR_pv0 PV_move rfl ?_ | refine TR_skip0 rfl ?_))); all_goals (first | refine TR_calld1_0 (gfailures_cd b X') rfl rfl rfl rfl ?_ | refine TR_skip0 rfl ?_ | (refine TR_gsplit rfl rfl rfl (fun hq => ?_) (fun hq => ?_) <;> (try simp only [qs] at hq) <;> (try simp only [reduceCtorEq] at hq) <;> (try (exfalso; omega)) <;> (first | refine TR_calld1_0 (gfailures_cd b X') rfl rfl rfl rfl ?_ | refine TR_skip0 rfl ?_))); all_goals (first | refine TR_pv0 (PV_eql rfl rfl) rfl ?_ | refine TR_skip0 rfl ?_ | (refine TR_gsplit rfl rfl rfl (fun hq => ?_) (fun hq => ?_) <;> (try simp only [qs] at hq) <;> (try simp only [reduceCtorEq] at hq) <;> (try (exfalso; omega)) <;> (first | refine TR_pv0 (PV_eql rfl rfl) rfl ?_ | refine TR_skip0 rfl ?_))); all_goals (first | refine TR_pv0 (PV_pick_t rfl) rfl ?_ | refine TR_pv0 (PV_pick_f rfl) rfl ?_); all_goals refine TR_pv0 PV_move rfl ?_)
      | refine TC_cond_t rfl rfl ?_
      | refine TC_cond_f rfl rfl ?_
      | refine TC_skip ?_
      | refine TC_ret ?_
      | refine TC_exit ?_
      | refine TC_block ?_
      | refine TQ_then_ret ?_
      | refine TQ_then_exit ?_
      | refine TQ_blk ?_
      | refine TQ_blk_ret ?_
      | refine TQ_blk_here ?_
      | refine TQ_blk_past rfl ?_
      | refine TC_label ?_
      | (refine TC_cond rfl rfl (fun hq => ?_) (fun hq => ?_) <;> (try simp only [qs] at hq) <;> (try simp only [reduceCtorEq] at hq) <;> (try (exfalso; omega)))
      | ((refine TR_alloc0 rfl ?_; intro _); (first | refine TR_storeA0_0 rfl rfl rfl rfl rfl rfl ?_ | refine TR_storeA0_1 rfl rfl rfl rfl rfl rfl ?_ | refine TR_storeA0_2 rfl rfl rfl rfl rfl rfl ?_ | refine TR_storeA0_3 rfl rfl rfl rfl rfl rfl ?_); refine TR_nil ?_)
      | (refine TR_pv0 PV_move rfl ?_; refine TR_pv0 (PV_extract rfl rfl) rfl ?_; refine TR_pv0 (PV_extract rfl rfl) rfl ?_; refine TR_pv0 PV_assign rfl ?_; refine TR_pv0 PV_assign rfl ?_; refine TR_nil ?_)
      | (all_goals (first | refine TR_pv0 (PV_pick_t rfl) rfl ?_ | refine TR_pv0 (PV_pick_f rfl) rfl ?_); all_goals refine TR_pv0 PV_assign rfl ?_; all_goals refine TR_nil ?_)
    refine TQ_roundP (k + 1, X') ?_ ?_ ?_ ?_
    · exact ⟨by omega, t5, t2.trans hm, by rw [show ((k + 1 : Nat) : Int) = (k : Int) + 1 from rfl]; omega, t4.trans hu⟩
    · show 61 - (k + 1) < mm; omega
    · exact ⟨rfl, rfl, rfl, rfl, trivial⟩
    · exact fun w h => h
  · have hd := ganswered_cd b X
    have ha := gactive_cd b X.answered
    rw [show decide (X.answered.bad ≤ X.answered.may) = true from decide_eq_true (show (0 : Int) ≤ X.may by have := hX.m0; omega)] at ha
    have hf : Cd _ _ _ _ (i64 0) _ := gfailures_cd b X.answered
    repeat' first
      | refine TC_seq ?_
      | refine TQ_then ?_
      | refine TR_nil ?_
      | refine TQ_noPanic ?_
      | (refine TC_plain (id := 0) (by kernel_rfl) ?_; refine TR_pv0 PV_assign rfl ?_; refine TR_nil ?_)
      | (refine TC_plain (id := 1) (by kernel_rfl) ?_; refine TR_pv0 PV_move rfl ?_)
      | (refine TC_plain (id := 2) (by kernel_rfl) ?_; (first | refine TR_loadA0 rfl 0 rfl rfl rfl ?_ | refine TR_loadA0 rfl 1 rfl rfl rfl ?_ | refine TR_loadA0 rfl 2 rfl rfl rfl ?_ | refine TR_loadA0 rfl 3 rfl rfl rfl ?_))
      | (refine TC_plain (id := 3) (by kernel_rfl) ?_; refine TR_pv0 PV_move rfl ?_; refine TR_pv0 (PV_neq rfl rfl) rfl ?_; refine TR_nil ?_)
      | (refine TC_plain (id := 4) (by kernel_rfl) ?_; refine TR_pv0 PV_assign rfl ?_; refine TR_nil ?_)
      | (refine TC_plain (id := 5) (by kernel_rfl) ?_; refine TR_pv0 PV_assign rfl ?_; refine TR_nil ?_)
      | (refine TC_plain (id := 6) (by kernel_rfl) ?_; refine TR_pv0 PV_move rfl ?_; refine TR_pv0 PV_move rfl ?_; refine TR_pv0 (PV_conv64 rfl (by omega)) rfl ?_; refine TR_pv0 (PV_rem64 rfl rfl (by omega)) rfl ?_; refine TR_pv0 (PV_leq rfl rfl) rfl ?_; refine TR_nil ?_)
      | (refine TC_drawn' (id := 8) [(0, 1), (2, 1), (3, 1), (4, 1), (5, 1), (6, 1), (1, 2), (7, 1), (8, 1), (9, 1), (11, 1), (12, 1), (13, 1), (14, 1), (10, 2), (15, 1), (16, 1), (17, 1), (18, 1), (20, 1), (21, 1), (22, 1), (23, 1), (24, 1), (19, 2), (25, 1), (26, 1), (27, 1), (28, 1), (29, 0), (30, 1), (31, 1)] mixed (by kernel_rfl) ?_; all_goals refine TR_pv1 PV_move rfl (fun _ h => h) ?_; all_goals refine TR_pv1 PV_move rfl (fun _ h => h) ?_; all_goals refine TR_pv1 (PV_fieldAddr rfl) rfl (fun _ h => h) ?_; all_goals (first | refine TR_load1 rfl 0 rfl rfl rfl (fun _ h => h) ?_ | refine TR_load1 rfl 1 rfl rfl rfl (fun _ h => h) ?_ | refine TR_load1 rfl 2 rfl rfl rfl (fun _ h => h) ?_ | refine TR_load1 rfl 3 rfl rfl rfl (fun _ h => h) ?_); all_goals (first | refine TR_pv1 (PV_add64 rfl rfl (by omega)) rfl (fun _ h => h) ?_ | refine TR_pv1 (PV_add64w rfl rfl) rfl (fun _ h => h) ?_); all_goals refine TR_pv1 (PV_eql rfl rfl) rfl (fun _ h => h) ?_)
      | (refine TC_plain (id := 9) (by kernel_rfl) ?_; refine TR_pv0 PV_assign rfl ?_; refine TR_nil ?_)
      | (refine TC_plain (id := 7) (by kernel_rfl) ?_; refine TR_pv0 PV_move rfl ?_; (first | refine TR_pv0 (PV_add64 rfl rfl (by omega)) rfl ?_ | refine TR_pv0 (PV_add64w rfl rfl) rfl ?_); refine TR_pv0 PV_assign rfl ?_; refine TR_nil ?_)
      | (refine TC_plain (id := 10) (by kernel_rfl) ?_; refine TR_pv0 PV_move rfl ?_; refine TR_calld1_0 (hd) rfl rfl rfl rfl ?_; refine TR_nil ?_)
      | (refine TC_plain (id := 11) (by kernel_rfl) ?_; all_goals refine TR_pv0 PV_move rfl ?_; all_goals refine TR_calld1_0 (ha) rfl rfl rfl rfl ?_; all_goals refine TR_pv0 PV_move rfl ?_; all_goals (first | refine TR_pv0 PV_move rfl ?_ | refine TR_skip0 rfl ?_ | (refine TR_gsplit rfl rfl rfl (fun hq => ?_) (fun hq => ?_) <;> (try simp only [qs] at hq) <;> (try simp only [reduceCtorEq] at hq) <;> (try (exfalso; omega)) <;> (first | refine TR_pv0 PV_move rfl ?_ | refine TR_skip0 rfl ?_))); all_goals (first | refine TR_calld1_0 (hf) rfl rfl rfl rfl ?_ | refine TR_skip0 rfl ?_ | (refine TR_gsplit rfl rfl rfl (fun hq => ?_) (fun hq => ?_) <;> (try simp only [qs] at hq) <;> (try simp only [reduceCtorEq] at hq) <;> (try (exfalso; omega)) <;> (first | refine TR_calld1_0 (hf) rfl rfl rfl rfl ?_ | refine TR_skip0 rfl ?_))); all_goals (first | refine TR_pv0 (PV_eql rfl rfl) rfl ?_ | refine TR_skip0 rfl ?_ | (refine TR_gsplit rfl rfl rfl (fun hq => ?_) (fun hq => ?_) <;> (try simp only [qs] at hq) <;> (try simp only [reduceCtorEq] at hq) <;> (try (exfalso; omega)) <;> (first | refine TR_pv0 (PV_eql rfl rfl) rfl ?_ | refine TR_skip0 rfl ?_))); all_goals (first | refine TR_pv0 (PV_pick_t rfl) rfl ?_ | refine TR_pv0 (PV_pick_f rfl) rfl ?_); all_goals refine TR_pv0 PV_move rfl ?_; all_goals (first | refine TR_calld0 (pathWorks) rfl rfl rfl rfl ?_ | refine TR_skip0 rfl ?_ | (refine TR_gsplit rfl rfl rfl (fun hq => ?_) (fun hq => ?_) <;> (try simp only [qs] at hq) <;> (try simp only [reduceCtorEq] at hq) <;> (try (exfalso; omega)) <;> (first | refine TR_calld0 (pathWorks) rfl rfl rfl rfl ?_ | refine TR_skip0 rfl ?_))); all_goals (first | refine TR_pv0 (PV_pick_t rfl) rfl ?_ | refine TR_pv0 (PV_pick_f rfl) rfl ?_); all_goals refine TR_pv0 PV_assign rfl ?_; all_goals refine TR_nil ?_)
      | refine TC_cond_t rfl rfl ?_
      | refine TC_cond_f rfl rfl ?_
      | refine TC_skip ?_
      | refine TC_ret ?_
      | refine TC_exit ?_
      | refine TC_block ?_
      | refine TQ_then_ret ?_
      | refine TQ_then_exit ?_
      | refine TQ_blk ?_
      | refine TQ_blk_ret ?_
      | refine TQ_blk_here ?_
      | refine TQ_blk_past rfl ?_
      | refine TC_label ?_
      | (refine TC_cond rfl rfl (fun hq => ?_) (fun hq => ?_) <;> (try simp only [qs] at hq) <;> (try simp only [reduceCtorEq] at hq) <;> (try (exfalso; omega)))
      | ((refine TR_alloc0 rfl ?_; intro _); (first | refine TR_storeA0_0 rfl rfl rfl rfl rfl rfl ?_ | refine TR_storeA0_1 rfl rfl rfl rfl rfl rfl ?_ | refine TR_storeA0_2 rfl rfl rfl rfl rfl rfl ?_ | refine TR_storeA0_3 rfl rfl rfl rfl rfl rfl ?_); refine TR_nil ?_)
      | (refine TR_pv0 PV_move rfl ?_; refine TR_pv0 (PV_extract rfl rfl) rfl ?_; refine TR_pv0 (PV_extract rfl rfl) rfl ?_; refine TR_pv0 PV_assign rfl ?_; refine TR_pv0 PV_assign rfl ?_; refine TR_nil ?_)
      | (all_goals refine TR_pv1 (PV_bne rfl rfl) rfl (fun _ h => h) ?_; all_goals refine TR_pv1 PV_move rfl (fun _ h => h) ?_; all_goals (first | refine TR_pv1 PV_move rfl (fun _ h => h) ?_ | refine TR_skip1 rfl (fun _ h => h) ?_ | (refine TR_gsplit rfl rfl rfl (fun hq => ?_) (fun hq => ?_) <;> (try simp only [qs] at hq) <;> (try simp only [reduceCtorEq] at hq) <;> (try (exfalso; omega)) <;> (first | refine TR_pv1 PV_move rfl (fun _ h => h) ?_ | refine TR_skip1 rfl (fun _ h => h) ?_))); all_goals (first | refine TR_pv1 PV_move rfl (fun _ h => h) ?_ | refine TR_skip1 rfl (fun _ h => h) ?_ | (refine TR_gsplit rfl rfl rfl (fun hq => ?_) (fun hq => ?_) <;> (try simp only [qs] at hq) <;> (try simp only [reduceCtorEq] at hq) <;> (try (exfalso; omega)) <;> (first | refine TR_pv1 PV_move rfl (fun _ h => h) ?_ | refine TR_skip1 rfl (fun _ h => h) ?_))); all_goals (first | refine TR_pv1 (PV_fieldAddr rfl) rfl (fun _ h => h) ?_ | refine TR_skip1 rfl (fun _ h => h) ?_ | (refine TR_gsplit rfl rfl rfl (fun hq => ?_) (fun hq => ?_) <;> (try simp only [qs] at hq) <;> (try simp only [reduceCtorEq] at hq) <;> (try (exfalso; omega)) <;> (first | refine TR_pv1 (PV_fieldAddr rfl) rfl (fun _ h => h) ?_ | refine TR_skip1 rfl (fun _ h => h) ?_))); all_goals (first | refine TR_load1 rfl 0 rfl rfl rfl (fun _ h => h) ?_ | refine TR_load1 rfl 1 rfl rfl rfl (fun _ h => h) ?_ | refine TR_load1 rfl 2 rfl rfl rfl (fun _ h => h) ?_ | refine TR_load1 rfl 3 rfl rfl rfl (fun _ h => h) ?_ | refine TR_skip1 rfl (fun _ h => h) ?_ | (refine TR_gsplit rfl rfl rfl (fun hq => ?_) (fun hq => ?_) <;> (try simp only [qs] at hq) <;> (try simp only [reduceCtorEq] at hq) <;> (try (exfalso; omega)) <;> (first | refine TR_load1 rfl 0 rfl rfl rfl (fun _ h => h) ?_ | refine TR_load1 rfl 1 rfl rfl rfl (fun _ h => h) ?_ | refine TR_load1 rfl 2 rfl rfl rfl (fun _ h => h) ?_ | refine TR_load1 rfl 3 rfl rfl rfl (fun _ h => h) ?_ | refine TR_skip1 rfl (fun _ h => h) ?_))); all_goals (first | refine TR_pv1 (PV_leq rfl rfl) rfl (fun _ h => h) ?_ | refine TR_skip1 rfl (fun _ h => h) ?_ | (refine TR_gsplit rfl rfl rfl (fun hq => ?_) (fun hq => ?_) <;> (try simp only [qs] at hq) <;> (try simp only [reduceCtorEq] at hq) <;> (try (exfalso; omega)) <;> (first | refine TR_pv1 (PV_leq rfl rfl) rfl (fun _ h => h) ?_ | refine TR_skip1 rfl (fun _ h => h) ?_))); all_goals (first | refine TR_calldk (ha) rfl rfl (.cons .here .nil) rfl ?_ | refine TR_skip2 rfl (fun _ h => h) ?_ | (refine TR_gsplit rfl rfl rfl (fun hq => ?_) (fun hq => ?_) <;> (try simp only [qs] at hq) <;> (try simp only [reduceCtorEq] at hq) <;> (try (exfalso; omega)) <;> (first | refine TR_calldk (ha) rfl rfl (.cons .here .nil) rfl ?_ | refine TR_skip2 rfl (fun _ h => h) ?_))); all_goals (first | refine TR_pv1 (PV_bne rfl rfl) rfl (fun _ h => h) ?_ | refine TR_skip1 rfl (fun _ h => h) ?_ | (refine TR_gsplit rfl rfl rfl (fun hq => ?_) (fun hq => ?_) <;> (try simp only [qs] at hq) <;> (try simp only [reduceCtorEq] at hq) <;> (try (exfalso; omega)) <;> (first | refine TR_pv1 (PV_bne rfl rfl) rfl (fun _ h => h) ?_ | refine TR_skip1 rfl (fun _ h => h) ?_))); all_goals (first | refine TR_pv1 (PV_pick_t rfl) rfl (fun _ h => h) ?_ | refine TR_pv1 (PV_pick_f rfl) rfl (fun _ h => h) ?_); all_goals refine TR_pv1 PV_move rfl (fun _ h => h) ?_; all_goals (first | refine TR_pv1 PV_move rfl (fun _ h => h) ?_ | refine TR_skip1 rfl (fun _ h => h) ?_ | (refine TR_gsplit rfl rfl rfl (fun hq => ?_) (fun hq => ?_) <;> (try simp only [qs] at hq) <;> (try simp only [reduceCtorEq] at hq) <;> (try (exfalso; omega)) <;> (first | refine TR_pv1 PV_move rfl (fun _ h => h) ?_ | refine TR_skip1 rfl (fun _ h => h) ?_))); all_goals (first | refine TR_pv1 PV_move rfl (fun _ h => h) ?_ | refine TR_skip1 rfl (fun _ h => h) ?_ | (refine TR_gsplit rfl rfl rfl (fun hq => ?_) (fun hq => ?_) <;> (try simp only [qs] at hq) <;> (try simp only [reduceCtorEq] at hq) <;> (try (exfalso; omega)) <;> (first | refine TR_pv1 PV_move rfl (fun _ h => h) ?_ | refine TR_skip1 rfl (fun _ h => h) ?_))); all_goals (first | refine TR_pv1 (PV_fieldAddr rfl) rfl (fun _ h => h) ?_ | refine TR_skip1 rfl (fun _ h => h) ?_ | (refine TR_gsplit rfl rfl rfl (fun hq => ?_) (fun hq => ?_) <;> (try simp only [qs] at hq) <;> (try simp only [reduceCtorEq] at hq) <;> (try (exfalso; omega)) <;> (first | refine TR_pv1 (PV_fieldAddr rfl) rfl (fun _ h => h) ?_ | refine TR_skip1 rfl (fun _ h => h) ?_))); all_goals (first | refine TR_load1 rfl 0 rfl rfl rfl (fun _ h => h) ?_ | refine TR_load1 rfl 1 rfl rfl rfl (fun _ h => h) ?_ | refine TR_load1 rfl 2 rfl rfl rfl (fun _ h => h) ?_ | refine TR_load1 rfl 3 rfl rfl rfl (fun _ h => h) ?_ | refine TR_skip1 rfl (fun _ h => h) ?_ | (refine TR_gsplit rfl rfl rfl (fun hq => ?_) (fun hq => ?_) <;> (try simp only [qs] at hq) <;> (try simp only [reduceCtorEq] at hq) <;> (try (exfalso; omega)) <;> (first | refine TR_load1 rfl 0 rfl rfl rfl (fun _ h => h) ?_ | refine TR_load1 rfl 1 rfl rfl rfl (fun _ h => h) ?_ | refine TR_load1 rfl 2 rfl rfl rfl (fun _ h => h) ?_ | refine TR_load1 rfl 3 rfl rfl rfl (fun _ h => h) ?_ | refine TR_skip1 rfl (fun _ h => h) ?_))); all_goals (first | refine TR_pv1 (PV_add64 rfl rfl (by omega)) rfl (fun _ h => h) ?_ | refine TR_pv1 (PV_add64w rfl rfl) rfl (fun _ h => h) ?_ | refine TR_skip1 rfl (fun _ h => h) ?_ | (refine TR_gsplit rfl rfl rfl (fun hq => ?_) (fun hq => ?_) <;> (try simp only [qs] at hq) <;> (try simp only [reduceCtorEq] at hq) <;> (try (exfalso; omega)) <;> (first | refine TR_pv1 (PV_add64 rfl rfl (by omega)) rfl (fun _ h => h) ?_ | refine TR_pv1 (PV_add64w rfl rfl) rfl (fun _ h => h) ?_ | refine TR_skip1 rfl (fun _ h => h) ?_))); all_goals (first | refine TR_pv1 (PV_min rfl rfl) rfl (fun _ h => h) ?_ | refine TR_skip1 rfl (fun _ h => h) ?_ | (refine TR_gsplit rfl rfl rfl (fun hq => ?_) (fun hq => ?_) <;> (try simp only [qs] at hq) <;> (try simp only [reduceCtorEq] at hq) <;> (try (exfalso; omega)) <;> (first | refine TR_pv1 (PV_min rfl rfl) rfl (fun _ h => h) ?_ | refine TR_skip1 rfl (fun _ h => h) ?_))); all_goals (first | refine TR_calldk (hf) rfl rfl (.cons .here .nil) rfl ?_ | refine TR_skip2 rfl (fun _ h => h) ?_ | (refine TR_gsplit rfl rfl rfl (fun hq => ?_) (fun hq => ?_) <;> (try simp only [qs] at hq) <;> (try simp only [reduceCtorEq] at hq) <;> (try (exfalso; omega)) <;> (first | refine TR_calldk (hf) rfl rfl (.cons .here .nil) rfl ?_ | refine TR_skip2 rfl (fun _ h => h) ?_))); all_goals (first | refine TR_pv1 (PV_neq rfl rfl) rfl (fun _ h => h) ?_ | refine TR_skip1 rfl (fun _ h => h) ?_ | (refine TR_gsplit rfl rfl rfl (fun hq => ?_) (fun hq => ?_) <;> (try simp only [qs] at hq) <;> (try simp only [reduceCtorEq] at hq) <;> (try (exfalso; omega)) <;> (first | refine TR_pv1 (PV_neq rfl rfl) rfl (fun _ h => h) ?_ | refine TR_skip1 rfl (fun _ h => h) ?_))); all_goals (first | refine TR_pv1 (PV_pick_t rfl) rfl (fun _ h => h) ?_ | refine TR_pv1 (PV_pick_f rfl) rfl (fun _ h => h) ?_); all_goals refine TR_pv1 PV_move rfl (fun _ h => h) ?_; all_goals (first | refine TR_pv1 PV_move rfl (fun _ h => h) ?_ | refine TR_skip1 rfl (fun _ h => h) ?_ | (refine TR_gsplit rfl rfl rfl (fun hq => ?_) (fun hq => ?_) <;> (try simp only [qs] at hq) <;> (try simp only [reduceCtorEq] at hq) <;> (try (exfalso; omega)) <;> (first | refine TR_pv1 PV_move rfl (fun _ h => h) ?_ | refine TR_skip1 rfl (fun _ h => h) ?_))))
      | (all_goals (first | refine TR_pv1 (PV_neq rfl rfl) rfl (fun _ h => h) ?_ | refine TR_skip1 rfl (fun _ h => h) ?_ | (refine TR_gsplit rfl rfl rfl (fun hq => ?_) (fun hq => ?_) <;> (try simp only [qs] at hq) <;> (try simp only [reduceCtorEq] at hq) <;> (try (exfalso; omega)) <;> (first | refine TR_pv1 (PV_neq rfl rfl) rfl (fun _ h => h) ?_ | refine TR_skip1 rfl (fun _ h => h) ?_))); all_goals (first | refine TR_pv1 (PV_pick_t rfl) rfl (fun _ h => h) ?_ | refine TR_pv1 (PV_pick_f rfl) rfl (fun _ h => h) ?_); all_goals refine TR_nil ?_)
    exact TQ_ret1d rfl rfl rfl ⟨rfl, rfl⟩ (.cons _ (.cons _ (.refl _)))

theorem acked_mtu (W : Win) (n : Int) (full : Bool) : (W.acked n full).mtu = W.mtu := by
  unfold Win.acked Win.avoid Win.slow Win.cap
  repeat' split
  all_goals rfl

theorem rests_facts (X : Pth) (o : POp) :
    (o.kind = 0 ∨ o.kind = 2 ∨ o.kind = 3 → (X.does o).r.value = X.r.value) ∧ (o.kind = 4 → (X.does o).r.value = min (2 * X.r.value) X.r.most ∧ (X.does o).w.size = X.w.mtu) ∧
    (o.kind = 1 ∨ o.kind = 5 ∨ o.kind = 6 → (X.does o).w.size = X.w.size) ∧ (X.does o).r.most = X.r.most ∧ (X.does o).w.mtu = X.w.mtu := by
  obtain ⟨k, n, full, t, u⟩ := o
  have hs : ∀ (r : Ro) (t : Int), (r.sample t).most = r.most := fun r t => by
    unfold Ro.sample; repeat' split
    all_goals rfl
  dsimp only
  by_cases h0 : k = 0
  · subst h0; refine ⟨fun _ => rfl, fun h => by omega, fun h => by omega, rfl, rfl⟩
  by_cases h1 : k = 1
  · subst h1; refine ⟨fun h => by omega, fun h => by omega, fun _ => rfl, hs _ _, rfl⟩
  by_cases h2 : k = 2
  · subst h2; refine ⟨fun _ => rfl, fun h => by omega, fun h => by omega, rfl, acked_mtu _ _ _⟩
  by_cases h3 : k = 3
  · subst h3; refine ⟨fun _ => rfl, fun h => by omega, fun h => by omega, rfl, rfl⟩
  by_cases h4 : k = 4
  · subst h4; refine ⟨fun h => by omega, fun _ => ⟨rfl, rfl⟩, fun h => by omega, rfl, rfl⟩
  by_cases h5 : k = 5
  · subst h5
    have e : X.does ⟨5, n, full, t, u⟩ = X.beats t := by simp [Pth.does]
    rw [e, Pth.beats]
    refine ⟨fun h => by omega, fun h => by omega, fun _ => ?_, ?_, ?_⟩ <;> (repeat' split) <;> rfl
  by_cases h6 : k = 6
  · subst h6
    have e : X.does ⟨6, n, full, t, u⟩ = X.beaten t u := by simp [Pth.does]
    rw [e, Pth.beaten]
    refine ⟨fun h => by omega, fun h => by omega, fun _ => ?_, ?_, ?_⟩ <;> (repeat' split) <;> first | rfl | exact hs _ _
  · have e : X.does ⟨k, n, full, t, u⟩ = X := by simp [Pth.does, h0, h1, h2, h3, h4, h5, h6]
    rw [e]
    exact ⟨fun _ => rfl, fun h => by omega, fun _ => rfl, rfl, rfl⟩

structure RestInv (len k : Nat) (X : Pth) : Prop where
  jk : k ≤ len
  ok : PthOk X
  o : X.r.most = 60
  u : X.w.mtu = 128

theorem pathRests_cd (H : Seg) (x : Int) (a : Option Addr) (len cap : Nat) (ops : List POp) (hx : 0 ≤ x ∧ x ≤ 255) (hlen : len ≤ 9223372036854775807) (ho : ∀ o ∈ ops, POpOk o) (hs : SliceAt H 5 a len (ops.map POp.cells)) :
    Cd Try.prog 13 [.int .u8 x, .slice a len cap] [H] (.bool true) [H] := by
  have hl : ops.length = len := by simpa using hs.len
  have hargs := plain_ok x 0 ⟨by omega, by omega⟩
  refine Ct_intro Try.func13 rfl (by simp only [Try.ntmps13, List.length_cons, List.length_nil]; omega) ?_
  intro w₀ R
  by_cases hgt : (300 : Int) < len
  · repeat' first
    | refine TC_seq ?_
    | refine TQ_then ?_
    | refine TR_nil ?_
    | refine TQ_noPanic ?_
    | (refine TC_plain (id := 0) (by kernel_rfl) ?_; refine TR_pv0 PV_assign rfl ?_; refine TR_nil ?_)
    | (refine TC_plain (id := 1) (by kernel_rfl) ?_; refine TR_pv0 PV_move rfl ?_; refine TR_pv0 (PV_len rfl) rfl ?_; refine TR_pv0 (PV_gtr rfl rfl) rfl ?_; refine TR_nil ?_)
    | (refine TC_plain (id := 2) (by kernel_rfl) ?_; refine TR_calld0 (pathWorks) rfl rfl rfl rfl ?_; refine TR_pv0 PV_assign rfl ?_; refine TR_nil ?_)
    | (refine TC_plain (id := 3) (by kernel_rfl) ?_; refine TR_pv0 PV_move rfl ?_)
    | (refine TC_plain (id := 4) (by kernel_rfl) ?_; refine TR_pv0 PV_move rfl ?_; refine TR_pv0 (PV_neq rfl rfl) rfl ?_; refine TR_nil ?_)
    | (refine TC_plain (id := 5) (by kernel_rfl) ?_; refine TR_pv0 PV_assign rfl ?_; refine TR_nil ?_)
    | (refine TC_plain (id := 6) (by kernel_rfl) ?_; refine TR_pv0 PV_assign rfl ?_; refine TR_nil ?_)
    | (refine TC_plain (id := 7) (by kernel_rfl) ?_; refine TR_pv0 PV_move rfl ?_; refine TR_pv0 PV_move rfl ?_; refine TR_pv0 (PV_len rfl) rfl ?_; refine TR_pv0 (PV_lss rfl rfl) rfl ?_; refine TR_nil ?_)
    | (refine TC_plain (id := 9) (by kernel_rfl) ?_; refine TR_pv0 PV_move rfl ?_)
    | (refine TC_plain (id := 10) (by kernel_rfl) ?_; refine TR_pv0 PV_move rfl ?_)
    | (refine TC_plain (id := 11) (by kernel_rfl) ?_; refine TR_pv0 PV_move rfl ?_; refine TR_pv0 PV_move rfl ?_; refine TR_pv0 PV_move rfl ?_; (first | refine TR_pv0 (PV_indexAddr rfl rfl (by omega)) rfl ?_ | refine TR_pv0 (PV_indexArr rfl rfl (by omega)) rfl ?_); (first | refine TR_loadA0 rfl 0 rfl rfl rfl ?_ | refine TR_loadA0 rfl 1 rfl rfl rfl ?_ | refine TR_loadA0 rfl 2 rfl rfl rfl ?_ | refine TR_loadA0 rfl 3 rfl rfl rfl ?_))
    | (refine TC_plain (id := 12) (by kernel_rfl) ?_; refine TR_pv0 PV_move rfl ?_; refine TR_pv0 PV_move rfl ?_; (first | refine TR_pv0 (PV_indexAddr rfl rfl (by omega)) rfl ?_ | refine TR_pv0 (PV_indexArr rfl rfl (by omega)) rfl ?_); refine TR_pv0 (PV_fieldAddr rfl) rfl ?_; (first | refine TR_load0 rfl 0 rfl rfl rfl ?_ | refine TR_load0 rfl 1 rfl rfl rfl ?_ | refine TR_load0 rfl 2 rfl rfl rfl ?_ | refine TR_load0 rfl 3 rfl rfl rfl ?_); refine TR_nil ?_)
    | (refine TC_plain (id := 13) (by kernel_rfl) ?_; refine TR_pv0 (PV_eql rfl rfl) rfl ?_; refine TR_pv0 PV_assign rfl ?_; refine TR_nil ?_)
    | (refine TC_plain (id := 14) (by kernel_rfl) ?_; refine TR_pv0 (PV_eql rfl rfl) rfl ?_; refine TR_pv0 PV_assign rfl ?_; refine TR_nil ?_)
    | (refine TC_plain (id := 15) (by kernel_rfl) ?_; refine TR_pv0 (PV_eql rfl rfl) rfl ?_; refine TR_pv0 PV_assign rfl ?_; refine TR_nil ?_)
    | (refine TC_plain (id := 16) (by kernel_rfl) ?_; refine TR_pv0 PV_move rfl ?_)
    | (refine TC_plain (id := 17) (by kernel_rfl) ?_; refine TR_pv0 PV_assign rfl ?_; refine TR_nil ?_)
    | (refine TC_plain (id := 18) (by kernel_rfl) ?_; refine TR_pv0 (PV_eql rfl rfl) rfl ?_; refine TR_pv0 PV_assign rfl ?_; refine TR_nil ?_)
    | (refine TC_plain (id := 19) (by kernel_rfl) ?_; all_goals refine TR_pv0 PV_move rfl ?_)
    | (refine TC_plain (id := 20) (by kernel_rfl) ?_; refine TR_pv0 PV_assign rfl ?_; refine TR_nil ?_)
    | (refine TC_plain (id := 21) (by kernel_rfl) ?_; refine TR_pv0 (PV_eql rfl rfl) rfl ?_; refine TR_pv0 PV_assign rfl ?_; refine TR_nil ?_)
    | (refine TC_plain (id := 22) (by kernel_rfl) ?_; refine TR_pv0 (PV_eql rfl rfl) rfl ?_; refine TR_pv0 PV_assign rfl ?_; refine TR_nil ?_)
    | (refine TC_plain (id := 23) (by kernel_rfl) ?_; refine TR_pv0 (PV_eql rfl rfl) rfl ?_; refine TR_pv0 PV_assign rfl ?_; refine TR_nil ?_)
    | (refine TC_plain (id := 24) (by kernel_rfl) ?_; refine TR_pv0 PV_move rfl ?_)
    | (refine TC_plain (id := 25) (by kernel_rfl) ?_; refine TR_pv0 PV_assign rfl ?_; refine TR_nil ?_)
    | (refine TC_plain (id := 8) (by kernel_rfl) ?_; refine TR_pv0 PV_move rfl ?_; (first | refine TR_pv0 (PV_add64 rfl rfl (by omega)) rfl ?_ | refine TR_pv0 (PV_add64w rfl rfl) rfl ?_); refine TR_pv0 PV_assign rfl ?_; refine TR_nil ?_)
    | (refine TC_plain (id := 26) (by kernel_rfl) ?_; refine TR_calld0 (pathWorks) rfl rfl rfl rfl ?_; refine TR_pv0 PV_assign rfl ?_; refine TR_nil ?_)
    | refine TC_cond_t rfl rfl ?_
    | refine TC_cond_f rfl rfl ?_
    | refine TC_skip ?_
    | refine TC_ret ?_
    | refine TC_exit ?_
    | refine TC_block ?_
    | refine TQ_then_ret ?_
    | refine TQ_then_exit ?_
    | refine TQ_blk ?_
    | refine TQ_blk_ret ?_
    | refine TQ_blk_here ?_
    | refine TQ_blk_past rfl ?_
    | refine TC_label ?_
    | (refine TC_cond rfl rfl (fun hq => ?_) (fun hq => ?_) <;> (try simp only [qs] at hq) <;> (try simp only [reduceCtorEq] at hq) <;> (try (exfalso; omega)))
    | (refine TR_pv0 PV_move rfl ?_; refine TR_pv0 (PV_extract rfl rfl) rfl ?_; refine TR_pv0 (PV_extract rfl rfl) rfl ?_; refine TR_pv0 PV_assign rfl ?_; refine TR_pv0 PV_assign rfl ?_; refine TR_nil ?_)
    | (refine TR_pv0 PV_assign rfl ?_; refine TR_nil ?_)
    | (refine TR_pv0 PV_move rfl ?_; refine TR_pv0 (PV_neq rfl rfl) rfl ?_; refine TR_nil ?_)
    | (all_goals refine TR_pv0 PV_move rfl ?_; all_goals (first | refine TR_pv0 (PV_mul64 rfl rfl (by omega)) rfl ?_ | refine TR_pv0 (PV_mul64w rfl rfl) rfl ?_); all_goals refine TR_pv0 (PV_min rfl rfl) rfl ?_; all_goals refine TR_pv0 (PV_neq rfl rfl) rfl ?_; all_goals refine TR_pv0 PV_move rfl ?_; all_goals (first | refine TR_pv0 PV_move rfl ?_ | refine TR_skip0 rfl ?_ | (refine TR_gsplit rfl rfl rfl (fun hq => ?_) (fun hq => ?_) <;> (try simp only [qs] at hq) <;> (try simp only [reduceCtorEq] at hq) <;> (try (exfalso; omega)) <;> (first | refine TR_pv0 PV_move rfl ?_ | refine TR_skip0 rfl ?_))))
    | (all_goals (first | refine TR_pv0 (PV_neq rfl rfl) rfl ?_ | refine TR_skip0 rfl ?_ | (refine TR_gsplit rfl rfl rfl (fun hq => ?_) (fun hq => ?_) <;> (try simp only [qs] at hq) <;> (try simp only [reduceCtorEq] at hq) <;> (try (exfalso; omega)) <;> (first | refine TR_pv0 (PV_neq rfl rfl) rfl ?_ | refine TR_skip0 rfl ?_))); all_goals (first | refine TR_pv0 (PV_pick_t rfl) rfl ?_ | refine TR_pv0 (PV_pick_f rfl) rfl ?_); all_goals refine TR_nil ?_)
    exact TQ_ret1d rfl rfl rfl ⟨rfl, rfl⟩ (List.Sublist.refl _)
  · repeat' first
    | refine TC_seq ?_
    | refine TQ_then ?_
    | refine TR_nil ?_
    | refine TQ_noPanic ?_
    | (refine TC_plain (id := 0) (by kernel_rfl) ?_; refine TR_pv0 PV_assign rfl ?_; refine TR_nil ?_)
    | (refine TC_plain (id := 1) (by kernel_rfl) ?_; refine TR_pv0 PV_move rfl ?_; refine TR_pv0 (PV_len rfl) rfl ?_; refine TR_pv0 (PV_gtr rfl rfl) rfl ?_; refine TR_nil ?_)
    | (refine TC_plain (id := 2) (by kernel_rfl) ?_)
    | (refine TC_plain (id := 3) (by kernel_rfl) ?_; refine TR_pv0 PV_move rfl ?_; refine TR_calld0 (plain_cd x hx) rfl rfl rfl rfl ?_; (refine TR_callm (pathNew_yes (plain x) 0 hargs) rfl rfl rfl ?_; intro b); refine TR_pv0 PV_move rfl ?_; refine TR_pv0 (PV_extract rfl rfl) rfl ?_; refine TR_pv0 (PV_extract rfl rfl) rfl ?_; refine TR_pv0 PV_assign rfl ?_; refine TR_pv0 PV_assign rfl ?_; refine TR_nil ?_)
    | (refine TC_plain (id := 4) (by kernel_rfl) ?_; refine TR_pv0 PV_move rfl ?_; refine TR_pv0 (PV_neq rfl rfl) rfl ?_; refine TR_nil ?_)
    | (refine TC_plain (id := 5) (by kernel_rfl) ?_; refine TR_pv0 PV_assign rfl ?_; refine TR_nil ?_)
    | (refine TC_plain (id := 6) (by kernel_rfl) ?_; refine TR_pv0 PV_assign rfl ?_; refine TR_nil ?_)
    | refine TC_cond_t rfl rfl ?_
    | refine TC_cond_f rfl rfl ?_
    | refine TC_skip ?_
    | refine TC_ret ?_
    | refine TC_exit ?_
    | refine TC_block ?_
    | refine TQ_then_ret ?_
    | refine TQ_then_exit ?_
    | refine TQ_blk ?_
    | refine TQ_blk_ret ?_
    | refine TQ_blk_here ?_
    | refine TQ_blk_past rfl ?_
    | refine TC_label ?_
    | (refine TC_cond rfl rfl (fun hq => ?_) (fun hq => ?_) <;> (try simp only [qs] at hq) <;> (try simp only [reduceCtorEq] at hq) <;> (try (exfalso; omega)))
    | (refine TR_pv0 PV_assign rfl ?_; refine TR_nil ?_)
    refine TC_loopP (X := Nat × Pth) (fun s => pathAt b s.2 :: H :: R) (fun s => [(1, .slice a len cap), (5, ptr b.p), (7, i64 s.1)]) (fun s => RestInv len s.1 s.2) (fun s => len - s.1) (0, Pth.new (plain x) 0)
      ⟨Nat.zero_le _, pathNew_ok hargs, rfl, rfl⟩ ⟨rfl, rfl, rfl, trivial⟩ (fun _ h => h) ?_
    rintro ⟨k, X⟩ σg mm hmm ⟨hk, hX, hm, hu⟩
    dsimp only at hk hX hm hu hmm ⊢
    by_cases hlt : k < len
    · obtain ⟨o, hok⟩ : ∃ o, ops[k]? = some o := ⟨ops[k], List.getElem?_eq_getElem (by omega)⟩
      obtain ⟨bb, off, T, cs, fz, ha, hmem, htk⟩ := hs.at_ k o.cells (by rw [List.getElem?_map, hok]; rfl)
      have h0 : cs[off + k * 5 + 0]? = some (i64 o.kind) := take_at htk (by omega)
      have hd := pdoes_cd b X hX o (ho o (List.mem_of_getElem? hok))
      have hX' := pdoes_ok hX o
      obtain ⟨f1, f2, f3, f4, f5⟩ := rests_facts X o
      have v0 := hX.r.v0
      have v1 := hX.r.v1
      have l0 := hX.r.l0
      revert hd hX' f1 f2 f3 f4 f5
      generalize X.does o = X'
      intro hd hX' f1 f2 f3 f4 f5
      subst ha
      repeat' first
        | refine TC_seq ?_
        | refine TQ_then ?_
        | refine TR_nil ?_
        | refine TQ_noPanic ?_
        | (refine TC_plain (id := 0) (by kernel_rfl) ?_; refine TR_pv0 PV_assign rfl ?_; refine TR_nil ?_)
        | (refine TC_plain (id := 1) (by kernel_rfl) ?_; refine TR_pv0 PV_move rfl ?_; refine TR_pv0 (PV_len rfl) rfl ?_; refine TR_pv0 (PV_gtr rfl rfl) rfl ?_; refine TR_nil ?_)
        | (refine TC_plain (id := 2) (by kernel_rfl) ?_)
        | (refine TC_plain (id := 3) (by kernel_rfl) ?_; refine TR_pv0 PV_move rfl ?_)
        | (refine TC_plain (id := 4) (by kernel_rfl) ?_; refine TR_pv0 PV_move rfl ?_; refine TR_pv0 (PV_neq rfl rfl) rfl ?_; refine TR_nil ?_)
        | (refine TC_plain (id := 5) (by kernel_rfl) ?_; refine TR_pv0 PV_assign rfl ?_; refine TR_nil ?_)
        | (refine TC_plain (id := 6) (by kernel_rfl) ?_; refine TR_pv0 PV_assign rfl ?_; refine TR_nil ?_)
        | (refine TC_plain (id := 7) (by kernel_rfl) ?_; refine TR_pv0 PV_move rfl ?_; refine TR_pv0 PV_move rfl ?_; refine TR_pv0 (PV_len rfl) rfl ?_; refine TR_pv0 (PV_lss rfl rfl) rfl ?_; refine TR_nil ?_)
        | (refine TC_plain (id := 9) (by kernel_rfl) ?_; refine TR_pv0 PV_move rfl ?_; refine TR_calld1_0 (grto_cd b _) rfl rfl rfl rfl ?_; refine TR_pv0 PV_assign rfl ?_; refine TR_nil ?_)
        | (refine TC_plain (id := 10) (by kernel_rfl) ?_; refine TR_pv0 PV_move rfl ?_; refine TR_calld1_0 (gsize_cd b _) rfl rfl rfl rfl ?_; refine TR_pv0 PV_assign rfl ?_; refine TR_nil ?_)
        | (refine TC_plain (id := 11) (by kernel_rfl) ?_; refine TR_pv0 PV_move rfl ?_; refine TR_pv0 PV_move rfl ?_; refine TR_pv0 PV_move rfl ?_; (first | refine TR_pv0 (PV_indexAddr rfl rfl (by omega)) rfl ?_ | refine TR_pv0 (PV_indexArr rfl rfl (by omega)) rfl ?_); (first | refine TR_loadAM0 rfl hmem 1 rfl htk rfl rfl ?_ | refine TR_loadM0 rfl hmem 1 rfl h0 rfl ?_ | refine TR_loadA0 rfl 0 rfl rfl rfl ?_ | refine TR_loadA0 rfl 1 rfl rfl rfl ?_ | refine TR_loadA0 rfl 2 rfl rfl rfl ?_ | refine TR_loadA0 rfl 3 rfl rfl rfl ?_); refine TR_calld1_0 (hd) rfl rfl rfl rfl ?_; refine TR_nil ?_)
        | (refine TC_plain (id := 12) (by kernel_rfl) ?_; refine TR_pv0 PV_move rfl ?_; refine TR_pv0 PV_move rfl ?_; (first | refine TR_pv0 (PV_indexAddr rfl rfl (by omega)) rfl ?_ | refine TR_pv0 (PV_indexArr rfl rfl (by omega)) rfl ?_); refine TR_pv0 (PV_fieldAddr rfl) rfl ?_; (first | refine TR_loadAM0 rfl hmem 1 rfl htk rfl rfl ?_ | refine TR_loadM0 rfl hmem 1 rfl h0 rfl ?_ | refine TR_load0 rfl 0 rfl rfl rfl ?_ | refine TR_load0 rfl 1 rfl rfl rfl ?_ | refine TR_load0 rfl 2 rfl rfl rfl ?_ | refine TR_load0 rfl 3 rfl rfl rfl ?_); refine TR_nil ?_)
        | (refine TC_plain (id := 13) (by kernel_rfl) ?_; refine TR_pv0 (PV_eql rfl rfl) rfl ?_; refine TR_pv0 PV_assign rfl ?_; refine TR_nil ?_)
        | (refine TC_plain (id := 14) (by kernel_rfl) ?_; refine TR_pv0 (PV_eql rfl rfl) rfl ?_; refine TR_pv0 PV_assign rfl ?_; refine TR_nil ?_)
        | (refine TC_plain (id := 15) (by kernel_rfl) ?_; refine TR_pv0 (PV_eql rfl rfl) rfl ?_; refine TR_pv0 PV_assign rfl ?_; refine TR_nil ?_)
        | (refine TC_plain (id := 16) (by kernel_rfl) ?_; refine TR_pv0 PV_move rfl ?_; refine TR_calld1_0 (grto_cd b _) rfl rfl rfl rfl ?_; refine TR_pv0 PV_move rfl ?_; refine TR_pv0 (PV_neq rfl rfl) rfl ?_; refine TR_nil ?_)
        | (refine TC_plain (id := 17) (by kernel_rfl) ?_; refine TR_pv0 PV_assign rfl ?_; refine TR_nil ?_)
        | (refine TC_plain (id := 18) (by kernel_rfl) ?_; refine TR_pv0 (PV_eql rfl rfl) rfl ?_; refine TR_pv0 PV_assign rfl ?_; refine TR_nil ?_)
        | (refine TC_plain (id := 19) (by kernel_rfl) ?_; all_goals refine TR_pv0 PV_move rfl ?_; all_goals refine TR_calld1_0 (grto_cd b _) rfl rfl rfl rfl ?_; all_goals refine TR_pv0 PV_move rfl ?_; all_goals (first | refine TR_pv0 (PV_mul64 rfl rfl (by omega)) rfl ?_ | refine TR_pv0 (PV_mul64w rfl rfl) rfl ?_); all_goals refine TR_pv0 (PV_min rfl rfl) rfl ?_; all_goals refine TR_pv0 (PV_neq rfl rfl) rfl ?_; all_goals refine TR_pv0 PV_move rfl ?_; all_goals (first | refine TR_pv0 PV_move rfl ?_ | refine TR_skip0 rfl ?_ | (refine TR_gsplit rfl rfl rfl (fun hq => ?_) (fun hq => ?_) <;> (try simp only [qs] at hq) <;> (try simp only [reduceCtorEq] at hq) <;> (try (exfalso; omega)) <;> (first | refine TR_pv0 PV_move rfl ?_ | refine TR_skip0 rfl ?_))); all_goals (first | refine TR_calld1_0 (gsize_cd b _) rfl rfl rfl rfl ?_ | refine TR_skip0 rfl ?_ | (refine TR_gsplit rfl rfl rfl (fun hq => ?_) (fun hq => ?_) <;> (try simp only [qs] at hq) <;> (try simp only [reduceCtorEq] at hq) <;> (try (exfalso; omega)) <;> (first | refine TR_calld1_0 (gsize_cd b _) rfl rfl rfl rfl ?_ | refine TR_skip0 rfl ?_))); all_goals (first | refine TR_pv0 (PV_neq rfl rfl) rfl ?_ | refine TR_skip0 rfl ?_ | (refine TR_gsplit rfl rfl rfl (fun hq => ?_) (fun hq => ?_) <;> (try simp only [qs] at hq) <;> (try simp only [reduceCtorEq] at hq) <;> (try (exfalso; omega)) <;> (first | refine TR_pv0 (PV_neq rfl rfl) rfl ?_ | refine TR_skip0 rfl ?_))); all_goals (first | refine TR_pv0 (PV_pick_t rfl) rfl ?_ | refine TR_pv0 (PV_pick_f rfl) rfl ?_); all_goals refine TR_nil ?_)
        | (refine TC_plain (id := 20) (by kernel_rfl) ?_; refine TR_pv0 PV_assign rfl ?_; refine TR_nil ?_)
        | (refine TC_plain (id := 21) (by kernel_rfl) ?_; refine TR_pv0 (PV_eql rfl rfl) rfl ?_; refine TR_pv0 PV_assign rfl ?_; refine TR_nil ?_)
        | (refine TC_plain (id := 22) (by kernel_rfl) ?_; refine TR_pv0 (PV_eql rfl rfl) rfl ?_; refine TR_pv0 PV_assign rfl ?_; refine TR_nil ?_)
        | (refine TC_plain (id := 23) (by kernel_rfl) ?_; refine TR_pv0 (PV_eql rfl rfl) rfl ?_; refine TR_pv0 PV_assign rfl ?_; refine TR_nil ?_)
        | (refine TC_plain (id := 24) (by kernel_rfl) ?_; refine TR_pv0 PV_move rfl ?_; refine TR_calld1_0 (gsize_cd b _) rfl rfl rfl rfl ?_; refine TR_pv0 PV_move rfl ?_; refine TR_pv0 (PV_neq rfl rfl) rfl ?_; refine TR_nil ?_)
        | (refine TC_plain (id := 25) (by kernel_rfl) ?_; refine TR_pv0 PV_assign rfl ?_; refine TR_nil ?_)
        | (refine TC_plain (id := 8) (by kernel_rfl) ?_; refine TR_pv0 PV_move rfl ?_; (first | refine TR_pv0 (PV_add64 rfl rfl (by omega)) rfl ?_ | refine TR_pv0 (PV_add64w rfl rfl) rfl ?_); refine TR_pv0 PV_assign rfl ?_; refine TR_nil ?_)
        | (refine TC_plain (id := 26) (by kernel_rfl) ?_)
        | refine TC_cond_t rfl rfl ?_
        | refine TC_cond_f rfl rfl ?_
        | refine TC_skip ?_
        | refine TC_ret ?_
        | refine TC_exit ?_
        | refine TC_block ?_
        | refine TQ_then_ret ?_
        | refine TQ_then_exit ?_
        | refine TQ_blk ?_
        | refine TQ_blk_ret ?_
        | refine TQ_blk_here ?_
        | refine TQ_blk_past rfl ?_
        | refine TC_label ?_
        | (refine TC_cond rfl rfl (fun hq => ?_) (fun hq => ?_) <;> (try simp only [qs] at hq) <;> (try simp only [reduceCtorEq] at hq) <;> (try (exfalso; omega)))
        | (refine TR_pv0 PV_assign rfl ?_; refine TR_nil ?_)
        | (refine TR_pv0 PV_move rfl ?_; refine TR_pv0 (PV_extract rfl rfl) rfl ?_; refine TR_pv0 (PV_extract rfl rfl) rfl ?_; refine TR_pv0 PV_assign rfl ?_; refine TR_pv0 PV_assign rfl ?_; refine TR_nil ?_)
      all_goals
        refine TQ_roundP (k + 1, X') ?_ ?_ ?_ ?_
        · exact ⟨hlt, hX', f4.trans hm, f5.trans hu⟩
        · show len - (k + 1) < mm; omega
        · exact ⟨rfl, rfl, rfl, trivial⟩
        · exact fun w h => h
    · repeat' first
      | refine TC_seq ?_
      | refine TQ_then ?_
      | refine TR_nil ?_
      | refine TQ_noPanic ?_
      | (refine TC_plain (id := 0) (by kernel_rfl) ?_; refine TR_pv0 PV_assign rfl ?_; refine TR_nil ?_)
      | (refine TC_plain (id := 1) (by kernel_rfl) ?_; refine TR_pv0 PV_move rfl ?_; refine TR_pv0 (PV_len rfl) rfl ?_; refine TR_pv0 (PV_gtr rfl rfl) rfl ?_; refine TR_nil ?_)
      | (refine TC_plain (id := 2) (by kernel_rfl) ?_; refine TR_calld0 (pathWorks) rfl rfl rfl rfl ?_; refine TR_pv0 PV_assign rfl ?_; refine TR_nil ?_)
      | (refine TC_plain (id := 3) (by kernel_rfl) ?_; refine TR_pv0 PV_move rfl ?_)
      | (refine TC_plain (id := 4) (by kernel_rfl) ?_; refine TR_pv0 PV_move rfl ?_; refine TR_pv0 (PV_neq rfl rfl) rfl ?_; refine TR_nil ?_)
      | (refine TC_plain (id := 5) (by kernel_rfl) ?_; refine TR_pv0 PV_assign rfl ?_; refine TR_nil ?_)
      | (refine TC_plain (id := 6) (by kernel_rfl) ?_; refine TR_pv0 PV_assign rfl ?_; refine TR_nil ?_)
      | (refine TC_plain (id := 7) (by kernel_rfl) ?_; refine TR_pv0 PV_move rfl ?_; refine TR_pv0 PV_move rfl ?_; refine TR_pv0 (PV_len rfl) rfl ?_; refine TR_pv0 (PV_lss rfl rfl) rfl ?_; refine TR_nil ?_)
      | (refine TC_plain (id := 9) (by kernel_rfl) ?_; refine TR_pv0 PV_move rfl ?_)
      | (refine TC_plain (id := 10) (by kernel_rfl) ?_; refine TR_pv0 PV_move rfl ?_)
      | (refine TC_plain (id := 11) (by kernel_rfl) ?_; refine TR_pv0 PV_move rfl ?_; refine TR_pv0 PV_move rfl ?_; refine TR_pv0 PV_move rfl ?_; (first | refine TR_pv0 (PV_indexAddr rfl rfl (by omega)) rfl ?_ | refine TR_pv0 (PV_indexArr rfl rfl (by omega)) rfl ?_); (first | refine TR_loadA0 rfl 0 rfl rfl rfl ?_ | refine TR_loadA0 rfl 1 rfl rfl rfl ?_ | refine TR_loadA0 rfl 2 rfl rfl rfl ?_ | refine TR_loadA0 rfl 3 rfl rfl rfl ?_))
      | (refine TC_plain (id := 12) (by kernel_rfl) ?_; refine TR_pv0 PV_move rfl ?_; refine TR_pv0 PV_move rfl ?_; (first | refine TR_pv0 (PV_indexAddr rfl rfl (by omega)) rfl ?_ | refine TR_pv0 (PV_indexArr rfl rfl (by omega)) rfl ?_); refine TR_pv0 (PV_fieldAddr rfl) rfl ?_; (first | refine TR_load0 rfl 0 rfl rfl rfl ?_ | refine TR_load0 rfl 1 rfl rfl rfl ?_ | refine TR_load0 rfl 2 rfl rfl rfl ?_ | refine TR_load0 rfl 3 rfl rfl rfl ?_); refine TR_nil ?_)
      | (refine TC_plain (id := 13) (by kernel_rfl) ?_; refine TR_pv0 (PV_eql rfl rfl) rfl ?_; refine TR_pv0 PV_assign rfl ?_; refine TR_nil ?_)
      | (refine TC_plain (id := 14) (by kernel_rfl) ?_; refine TR_pv0 (PV_eql rfl rfl) rfl ?_; refine TR_pv0 PV_assign rfl ?_; refine TR_nil ?_)
      | (refine TC_plain (id := 15) (by kernel_rfl) ?_; refine TR_pv0 (PV_eql rfl rfl) rfl ?_; refine TR_pv0 PV_assign rfl ?_; refine TR_nil ?_)
      | (refine TC_plain (id := 16) (by kernel_rfl) ?_; refine TR_pv0 PV_move rfl ?_)
      | (refine TC_plain (id := 17) (by kernel_rfl) ?_; refine TR_pv0 PV_assign rfl ?_; refine TR_nil ?_)
      | (refine TC_plain (id := 18) (by kernel_rfl) ?_; refine TR_pv0 (PV_eql rfl rfl) rfl ?_; refine TR_pv0 PV_assign rfl ?_; refine TR_nil ?_)
      | (refine TC_plain (id := 19) (by kernel_rfl) ?_; all_goals refine TR_pv0 PV_move rfl ?_)
      | (refine TC_plain (id := 20) (by kernel_rfl) ?_; refine TR_pv0 PV_assign rfl ?_; refine TR_nil ?_)
      | (refine TC_plain (id := 21) (by kernel_rfl) ?_; refine TR_pv0 (PV_eql rfl rfl) rfl ?_; refine TR_pv0 PV_assign rfl ?_; refine TR_nil ?_)
      | (refine TC_plain (id := 22) (by kernel_rfl) ?_; refine TR_pv0 (PV_eql rfl rfl) rfl ?_; refine TR_pv0 PV_assign rfl ?_; refine TR_nil ?_)
      | (refine TC_plain (id := 23) (by kernel_rfl) ?_; refine TR_pv0 (PV_eql rfl rfl) rfl ?_; refine TR_pv0 PV_assign rfl ?_; refine TR_nil ?_)
      | (refine TC_plain (id := 24) (by kernel_rfl) ?_; refine TR_pv0 PV_move rfl ?_)
      | (refine TC_plain (id := 25) (by kernel_rfl) ?_; refine TR_pv0 PV_assign rfl ?_; refine TR_nil ?_)
      | (refine TC_plain (id := 8) (by kernel_rfl) ?_; refine TR_pv0 PV_move rfl ?_; (first | refine TR_pv0 (PV_add64 rfl rfl (by omega)) rfl ?_ | refine TR_pv0 (PV_add64w rfl rfl) rfl ?_); refine TR_pv0 PV_assign rfl ?_; refine TR_nil ?_)
      | (refine TC_plain (id := 26) (by kernel_rfl) ?_; refine TR_calld0 (pathWorks) rfl rfl rfl rfl ?_; refine TR_pv0 PV_assign rfl ?_; refine TR_nil ?_)
      | refine TC_cond_t rfl rfl ?_
      | refine TC_cond_f rfl rfl ?_
      | refine TC_skip ?_
      | refine TC_ret ?_
      | refine TC_exit ?_
      | refine TC_block ?_
      | refine TQ_then_ret ?_
      | refine TQ_then_exit ?_
      | refine TQ_blk ?_
      | refine TQ_blk_ret ?_
      | refine TQ_blk_here ?_
      | refine TQ_blk_past rfl ?_
      | refine TC_label ?_
      | (refine TC_cond rfl rfl (fun hq => ?_) (fun hq => ?_) <;> (try simp only [qs] at hq) <;> (try simp only [reduceCtorEq] at hq) <;> (try (exfalso; omega)))
      | (refine TR_pv0 PV_move rfl ?_; refine TR_pv0 (PV_extract rfl rfl) rfl ?_; refine TR_pv0 (PV_extract rfl rfl) rfl ?_; refine TR_pv0 PV_assign rfl ?_; refine TR_pv0 PV_assign rfl ?_; refine TR_nil ?_)
      | (refine TR_pv0 PV_assign rfl ?_; refine TR_nil ?_)
      | (refine TR_pv0 PV_move rfl ?_; refine TR_pv0 (PV_neq rfl rfl) rfl ?_; refine TR_nil ?_)
      | (all_goals refine TR_pv0 PV_move rfl ?_; all_goals (first | refine TR_pv0 (PV_mul64 rfl rfl (by omega)) rfl ?_ | refine TR_pv0 (PV_mul64w rfl rfl) rfl ?_); all_goals refine TR_pv0 (PV_min rfl rfl) rfl ?_; all_goals refine TR_pv0 (PV_neq rfl rfl) rfl ?_; all_goals refine TR_pv0 PV_move rfl ?_; all_goals (first | refine TR_pv0 PV_move rfl ?_ | refine TR_skip0 rfl ?_ | (refine TR_gsplit rfl rfl rfl (fun hq => ?_) (fun hq => ?_) <;> (try simp only [qs] at hq) <;> (try simp only [reduceCtorEq] at hq) <;> (try (exfalso; omega)) <;> (first | refine TR_pv0 PV_move rfl ?_ | refine TR_skip0 rfl ?_))))
      | (all_goals (first | refine TR_pv0 (PV_neq rfl rfl) rfl ?_ | refine TR_skip0 rfl ?_ | (refine TR_gsplit rfl rfl rfl (fun hq => ?_) (fun hq => ?_) <;> (try simp only [qs] at hq) <;> (try simp only [reduceCtorEq] at hq) <;> (try (exfalso; omega)) <;> (first | refine TR_pv0 (PV_neq rfl rfl) rfl ?_ | refine TR_skip0 rfl ?_))); all_goals (first | refine TR_pv0 (PV_pick_t rfl) rfl ?_ | refine TR_pv0 (PV_pick_f rfl) rfl ?_); all_goals refine TR_nil ?_)
      exact TQ_ret1d rfl rfl rfl ⟨rfl, rfl⟩ (.cons _ (.refl _))
end Go.Proofs.Ytjfnbobkipaldaa
