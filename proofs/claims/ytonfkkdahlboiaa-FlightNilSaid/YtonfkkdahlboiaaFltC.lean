/- span, lowest, take. -/
import Derived.Test.YtonfkkdahlboiaaFlQ
namespace Go.Proofs.Ytonfkkdahlboiaa
open Go.RowKit
set_option maxHeartbeats 4000000
set_option maxRecDepth 10000

abbrev tblk (b : Nat) (l : List Value) : Seg := blk b 40 l

/-- A record is taken: its path is told so. -/
theorem take_cd (x : RL) (tb : Nat) (pre post : List Value) (tp : Tp) (low : Option Nat) (S : Seg) (hl : x.r.d.bytes.length ≤ 1048576) (ha : 0 ≤ tp.acked ∧ tp.acked ≤ 1099511627776)
    (hlow : ∀ q, low = some q → q = x.p ∨ ∃ (cs : List Value) (T : Nat), (q, Obj.cells cs.toArray T (0, 0)) ∈ S) :
    Cd Try.prog 44 [ptr x.p, .pointer (some ⟨tb, pre.length, none⟩), ptrO low] [x.bk, tblk tb (pre ++ (tp.cells ++ post)), S] (.tuple #[])
      [RL.bk { x with r := ackR x.r }, tblk tb (pre ++ ((tkT x.r (decide (low = some x.p)) tp).cells ++ post)), S] := by
  obtain ⟨⟨d, path, id, miss, at_, acked, lost, gone, again⟩, p, w⟩ := x
  obtain ⟨ac, ps, fa, at2, so⟩ := tp
  dsimp only at ha hl hlow ⊢
  refine Ct_intro Try.func44 rfl (by simp only [Try.ntmps44, List.length_cons, List.length_nil]; omega) ?_
  intro w₀ R
  refine TC_le (L' := blk p 90 ((FRec.mk d path id miss at_ acked lost gone again).cells (w.val d.bytes.length)) :: tblk tb (pre ++ ([i64 ac, .bool ps, .bool fa, i64 at2, .bool so] ++ post)) :: S :: R) (Le.refl _) ?_
  cases gone <;> cases again <;> repeat' first
    | refine TC_seq ?_
    | refine TQ_then ?_
    | refine TR_nil ?_
    | refine TQ_noPanic ?_
    | (refine TC_plain (id := 0) (by kernel_rfl) ?_; refine TR_pv0 PV_move rfl ?_; (first | refine TR_pv0 (PV_nil rfl) rfl ?_ | refine TR_pv0 (PV_nilF rfl) rfl ?_ | refine TR_pv0 (PV_nilY rfl) rfl ?_); refine TR_pv0 (PV_fieldAddr rfl) rfl ?_; (first | refine TR_store0_1 rfl rfl rfl rfl (by rw [Nat.blt_eq]; simp only [List.length_set, List.length_append, List.length_cons]; omega) rfl ?_ | refine TR_store0_0 rfl rfl rfl rfl rfl rfl ?_ | refine TR_store0_1 rfl rfl rfl rfl rfl rfl ?_ | refine TR_store0_2 rfl rfl rfl rfl rfl rfl ?_ | refine TR_store0_3 rfl rfl rfl rfl rfl rfl ?_); refine TR_nil ?_)
    | (refine TC_plain (id := 1) (by kernel_rfl) ?_; refine TR_pv0 PV_move rfl ?_; (first | refine TR_pv0 (PV_nil rfl) rfl ?_ | refine TR_pv0 (PV_nilF rfl) rfl ?_ | refine TR_pv0 (PV_nilY rfl) rfl ?_); refine TR_pv0 (PV_fieldAddr rfl) rfl ?_; (first | refine TR_load0 (v := i64 ac) rfl 1 rfl (by simp only [setp, getp]; rfl) rfl ?_ | refine TR_load0 (v := .bool ps) rfl 1 rfl (by simp only [setp, getp]; rfl) rfl ?_ | refine TR_load0 rfl 0 rfl rfl rfl ?_ | refine TR_load0 rfl 1 rfl rfl rfl ?_ | refine TR_load0 rfl 2 rfl rfl rfl ?_ | refine TR_load0 rfl 3 rfl rfl rfl ?_); refine TR_pv0 (PV_not rfl) rfl ?_; refine TR_nil ?_)
    | (refine TC_drawn' (id := 2) [(0, 1), (1, 1), (2, 1), (3, 1), (4, 1), (5, 1), (6, 1), (7, 1), (8, 1), (9, 1), (10, 1), (11, 1), (12, 1), (13, 0)] mixed (by kernel_rfl) ?_; refine TR_pv1 PV_move rfl (fun _ h => h) ?_; (first | refine TR_pv1 (PV_nil rfl) rfl (fun _ h => h) ?_ | refine TR_pv1 (PV_nilF rfl) rfl (fun _ h => h) ?_ | refine TR_pv1 (PV_nilY rfl) rfl (fun _ h => h) ?_); refine TR_pv1 (PV_fieldAddr rfl) rfl (fun _ h => h) ?_; (first | refine TR_load1 (v := i64 ac) rfl 1 rfl (by simp only [setp, getp]; rfl) rfl (fun _ h => h) ?_ | refine TR_load1 (v := .bool ps) rfl 1 rfl (by simp only [setp, getp]; rfl) rfl (fun _ h => h) ?_ | refine TR_load1 rfl 0 rfl rfl rfl (fun _ h => h) ?_ | refine TR_load1 rfl 1 rfl rfl rfl (fun _ h => h) ?_ | refine TR_load1 rfl 2 rfl rfl rfl (fun _ h => h) ?_ | refine TR_load1 rfl 3 rfl rfl rfl (fun _ h => h) ?_); refine TR_pv1 PV_move rfl (fun _ h => h) ?_; (first | refine TR_pv1 (PV_nil rfl) rfl (fun _ h => h) ?_ | refine TR_pv1 (PV_nilF rfl) rfl (fun _ h => h) ?_ | refine TR_pv1 (PV_nilY rfl) rfl (fun _ h => h) ?_); refine TR_pv1 (PV_fieldAddr rfl) rfl (fun _ h => h) ?_; refine TR_pv1 (PV_fieldAddr rfl) rfl (fun _ h => h) ?_; (first | refine TR_load1 (v := i64 ac) rfl 1 rfl (by simp only [setp, getp]; rfl) rfl (fun _ h => h) ?_ | refine TR_load1 (v := .bool ps) rfl 1 rfl (by simp only [setp, getp]; rfl) rfl (fun _ h => h) ?_ | refine TR_load1 rfl 0 rfl rfl rfl (fun _ h => h) ?_ | refine TR_load1 rfl 1 rfl rfl rfl (fun _ h => h) ?_ | refine TR_load1 rfl 2 rfl rfl rfl (fun _ h => h) ?_ | refine TR_load1 rfl 3 rfl rfl rfl (fun _ h => h) ?_); refine TR_pv1 (PV_len rfl) rfl (fun _ h => h) ?_; (first | refine TR_pv1 (PV_add64 rfl rfl (by omega)) rfl (fun _ h => h) ?_ | refine TR_pv1 (PV_add64w rfl rfl) rfl (fun _ h => h) ?_); (first | refine TR_pv1 (PV_nil rfl) rfl (fun _ h => h) ?_ | refine TR_pv1 (PV_nilF rfl) rfl (fun _ h => h) ?_ | refine TR_pv1 (PV_nilY rfl) rfl (fun _ h => h) ?_); refine TR_pv1 (PV_fieldAddr rfl) rfl (fun _ h => h) ?_; (first | refine TR_store0_1 rfl rfl rfl rfl (by rw [Nat.blt_eq]; simp only [List.length_set, List.length_append, List.length_cons]; omega) rfl ?_ | refine TR_store0_0 rfl rfl rfl rfl rfl rfl ?_ | refine TR_store0_1 rfl rfl rfl rfl rfl rfl ?_ | refine TR_store0_2 rfl rfl rfl rfl rfl rfl ?_ | refine TR_store0_3 rfl rfl rfl rfl rfl rfl ?_); refine TR_nil ?_)
    | (refine TC_plain (id := 3) (by kernel_rfl) ?_; refine TR_pv0 PV_move rfl ?_; (first | refine TR_pv0 (PV_nil rfl) rfl ?_ | refine TR_pv0 (PV_nilF rfl) rfl ?_ | refine TR_pv0 (PV_nilY rfl) rfl ?_); refine TR_pv0 (PV_fieldAddr rfl) rfl ?_; (first | refine TR_load0 (v := i64 ac) rfl 1 rfl (by simp only [setp, getp]; rfl) rfl ?_ | refine TR_load0 (v := .bool ps) rfl 1 rfl (by simp only [setp, getp]; rfl) rfl ?_ | refine TR_load0 rfl 0 rfl rfl rfl ?_ | refine TR_load0 rfl 1 rfl rfl rfl ?_ | refine TR_load0 rfl 2 rfl rfl rfl ?_ | refine TR_load0 rfl 3 rfl rfl rfl ?_); refine TR_pv0 (PV_not rfl) rfl ?_; refine TR_nil ?_)
    | (refine TC_plain (id := 4) (by kernel_rfl) ?_; refine TR_pv0 PV_move rfl ?_; refine TR_pv0 PV_move rfl ?_; refine TR_pv0 PV_move rfl ?_; (first | refine TR_pv0 (PV_nil rfl) rfl ?_ | refine TR_pv0 (PV_nilF rfl) rfl ?_ | refine TR_pv0 (PV_nilY rfl) rfl ?_); refine TR_pv0 (PV_fieldAddr rfl) rfl ?_; (first | refine TR_load0 (v := i64 ac) rfl 1 rfl (by simp only [setp, getp]; rfl) rfl ?_ | refine TR_load0 (v := .bool ps) rfl 1 rfl (by simp only [setp, getp]; rfl) rfl ?_ | refine TR_load0 rfl 0 rfl rfl rfl ?_ | refine TR_load0 rfl 1 rfl rfl rfl ?_ | refine TR_load0 rfl 2 rfl rfl rfl ?_ | refine TR_load0 rfl 3 rfl rfl rfl ?_); (first | refine TR_pv0 (PV_nil rfl) rfl ?_ | refine TR_pv0 (PV_nilF rfl) rfl ?_ | refine TR_pv0 (PV_nilY rfl) rfl ?_); refine TR_pv0 (PV_fieldAddr rfl) rfl ?_; (first | refine TR_store0_1 rfl rfl rfl rfl (by rw [Nat.blt_eq]; simp only [List.length_set, List.length_append, List.length_cons]; omega) rfl ?_ | refine TR_store0_0 rfl rfl rfl rfl rfl rfl ?_ | refine TR_store0_1 rfl rfl rfl rfl rfl rfl ?_ | refine TR_store0_2 rfl rfl rfl rfl rfl rfl ?_ | refine TR_store0_3 rfl rfl rfl rfl rfl rfl ?_); (first | refine TR_pv0 (PV_nil rfl) rfl ?_ | refine TR_pv0 (PV_nilF rfl) rfl ?_ | refine TR_pv0 (PV_nilY rfl) rfl ?_); refine TR_pv0 (PV_fieldAddr rfl) rfl ?_; (first | refine TR_store0_1 rfl rfl rfl rfl (by rw [Nat.blt_eq]; simp only [List.length_set, List.length_append, List.length_cons]; omega) rfl ?_ | refine TR_store0_0 rfl rfl rfl rfl rfl rfl ?_ | refine TR_store0_1 rfl rfl rfl rfl rfl rfl ?_ | refine TR_store0_2 rfl rfl rfl rfl rfl rfl ?_ | refine TR_store0_3 rfl rfl rfl rfl rfl rfl ?_); refine TR_nil ?_)
    | refine TC_cond_t rfl rfl ?_
    | refine TC_cond_f rfl rfl ?_
    | refine TC_skip ?_
    | refine TC_ret ?_
    | refine TC_exit ?_
    | refine TC_block ?_
    | refine TQ_then_ret ?_
    | refine TQ_then_exit ?_
    | refine TQ_blk ?_
    | refine TQ_blk_ret ?_
    | refine TQ_blk_here ?_
    | refine TQ_blk_past rfl ?_
    | refine TC_label ?_
    | (refine TC_cond rfl rfl (fun hq => ?_) (fun hq => ?_) <;> (try simp only [qs] at hq) <;> (try simp only [reduceCtorEq] at hq) <;> (try (exfalso; omega)) <;> (try contradiction))
  · refine TC_le (L' := RL.bk ⟨ackR ⟨d, path, id, miss, at_, acked, lost, false, false⟩, p, w⟩ :: tblk tb (pre ++ ([i64 (ac + d.bytes.length), .bool ps, .bool fa, i64 at_, .bool true] ++ post)) :: S :: R) (Le.of_eq (by (try simp only [setp]); rfl)) ?_
    cases ps
    · cases low with
      | none =>
        repeat' first
          | refine TC_seq ?_
          | refine TQ_then ?_
          | refine TR_nil ?_
          | refine TQ_noPanic ?_
          | (refine TC_plain (id := 5) (by kernel_rfl) ?_; all_goals refine TR_pv0 PV_move rfl ?_; all_goals refine TR_pv0 PV_move rfl ?_; all_goals (first | refine TR_pv0 (PV_nil rfl) rfl ?_ | refine TR_pv0 (PV_nilF rfl) rfl ?_ | refine TR_pv0 (PV_nilY rfl) rfl ?_); all_goals refine TR_pv0 (PV_fieldAddr rfl) rfl ?_; all_goals (first | refine TR_load0 (v := .bool false) rfl 1 rfl (by simp only [getp]; rfl) rfl ?_ | refine TR_load0 rfl 0 rfl rfl rfl ?_ | refine TR_load0 rfl 1 rfl rfl rfl ?_ | refine TR_load0 rfl 2 rfl rfl rfl ?_ | refine TR_load0 rfl 3 rfl rfl rfl ?_); all_goals refine TR_pv0 PV_move rfl ?_; all_goals (first | refine TR_pv0 PV_move rfl ?_ | refine TR_skip0 rfl ?_ | (refine TR_gsplit rfl rfl rfl (fun hq => ?_) (fun hq => ?_) <;> (try simp only [qs] at hq) <;> (try simp only [reduceCtorEq] at hq) <;> (try (exfalso; omega)) <;> (try contradiction) <;> (first | refine TR_pv0 PV_move rfl ?_ | refine TR_skip0 rfl ?_))); all_goals (first | refine TR_pv0 PV_move rfl ?_ | refine TR_skip0 rfl ?_ | (refine TR_gsplit rfl rfl rfl (fun hq => ?_) (fun hq => ?_) <;> (try simp only [qs] at hq) <;> (try simp only [reduceCtorEq] at hq) <;> (try (exfalso; omega)) <;> (try contradiction) <;> (first | refine TR_pv0 PV_move rfl ?_ | refine TR_skip0 rfl ?_))); all_goals (first | refine TR_pv0 (PV_peq_nil rfl rfl) rfl ?_ | refine TR_pv0 (PV_peq rfl rfl) rfl ?_ | refine TR_skip0 rfl ?_ | (refine TR_gsplit rfl rfl rfl (fun hq => ?_) (fun hq => ?_) <;> (try simp only [qs] at hq) <;> (try simp only [reduceCtorEq] at hq) <;> (try (exfalso; omega)) <;> (try contradiction) <;> (first | refine TR_pv0 (PV_peq_nil rfl rfl) rfl ?_ | refine TR_pv0 (PV_peq rfl rfl) rfl ?_ | refine TR_skip0 rfl ?_))); all_goals (first | refine TR_pv0 (PV_pick_t rfl) rfl ?_ | refine TR_pv0 (PV_pick_f rfl) rfl ?_); all_goals (first | refine TR_pv0 (PV_nil rfl) rfl ?_ | refine TR_pv0 (PV_nilF rfl) rfl ?_ | refine TR_pv0 (PV_nilY rfl) rfl ?_); all_goals refine TR_pv0 (PV_fieldAddr rfl) rfl ?_; all_goals (first | refine TR_store0_1 rfl rfl rfl rfl (by rw [Nat.blt_eq]; simp only [List.length_set, List.length_append, List.length_cons]; omega) rfl ?_ | refine TR_store0_0 rfl rfl rfl rfl rfl rfl ?_ | refine TR_store0_1 rfl rfl rfl rfl rfl rfl ?_ | refine TR_store0_2 rfl rfl rfl rfl rfl rfl ?_ | refine TR_store0_3 rfl rfl rfl rfl rfl rfl ?_); all_goals refine TR_nil ?_)
          | refine TC_cond_t rfl rfl ?_
          | refine TC_cond_f rfl rfl ?_
          | refine TC_skip ?_
          | refine TC_ret ?_
          | refine TC_exit ?_
          | refine TC_block ?_
          | refine TQ_then_ret ?_
          | refine TQ_then_exit ?_
          | refine TQ_blk ?_
          | refine TQ_blk_ret ?_
          | refine TQ_blk_here ?_
          | refine TQ_blk_past rfl ?_
          | refine TC_label ?_
          | (refine TC_cond rfl rfl (fun hq => ?_) (fun hq => ?_) <;> (try simp only [qs] at hq) <;> (try simp only [reduceCtorEq] at hq) <;> (try (exfalso; omega)) <;> (try contradiction))
        refine TQ_le (L' := RL.bk ⟨ackR ⟨d, path, id, miss, at_, acked, lost, false, false⟩, p, w⟩ :: tblk tb (pre ++ ([i64 (ac + d.bytes.length), .bool false, .bool fa, i64 at_, .bool true] ++ post)) :: S :: R) (Le.of_eq (by (try simp only [setp]); rfl)) ?_
        exact TQ_end0e (C' := [RL.bk ⟨ackR ⟨d, path, id, miss, at_, acked, lost, false, false⟩, p, w⟩, tblk tb (pre ++ ([i64 (ac + d.bytes.length), .bool false, .bool fa, i64 at_, .bool true] ++ post)), S]) rfl ⟨rfl, rfl⟩ (Le.refl _)
      | some q =>
        rcases hlow q rfl with rfl | ⟨cs, T, hm⟩
        · repeat' first
          | refine TC_seq ?_
          | refine TQ_then ?_
          | refine TR_nil ?_
          | refine TQ_noPanic ?_
          | (refine TC_plain (id := 5) (by kernel_rfl) ?_; all_goals refine TR_pv0 PV_move rfl ?_; all_goals refine TR_pv0 PV_move rfl ?_; all_goals (first | refine TR_pv0 (PV_nil rfl) rfl ?_ | refine TR_pv0 (PV_nilF rfl) rfl ?_ | refine TR_pv0 (PV_nilY rfl) rfl ?_); all_goals refine TR_pv0 (PV_fieldAddr rfl) rfl ?_; all_goals (first | refine TR_load0 (v := .bool false) rfl 1 rfl (by simp only [getp]; rfl) rfl ?_ | refine TR_load0 rfl 0 rfl rfl rfl ?_ | refine TR_load0 rfl 1 rfl rfl rfl ?_ | refine TR_load0 rfl 2 rfl rfl rfl ?_ | refine TR_load0 rfl 3 rfl rfl rfl ?_); all_goals refine TR_pv0 PV_move rfl ?_; all_goals (first | refine TR_pv0 PV_move rfl ?_ | refine TR_skip0 rfl ?_ | (refine TR_gsplit rfl rfl rfl (fun hq => ?_) (fun hq => ?_) <;> (try simp only [qs] at hq) <;> (try simp only [reduceCtorEq] at hq) <;> (try (exfalso; omega)) <;> (try contradiction) <;> (first | refine TR_pv0 PV_move rfl ?_ | refine TR_skip0 rfl ?_))); all_goals (first | refine TR_pv0 PV_move rfl ?_ | refine TR_skip0 rfl ?_ | (refine TR_gsplit rfl rfl rfl (fun hq => ?_) (fun hq => ?_) <;> (try simp only [qs] at hq) <;> (try simp only [reduceCtorEq] at hq) <;> (try (exfalso; omega)) <;> (try contradiction) <;> (first | refine TR_pv0 PV_move rfl ?_ | refine TR_skip0 rfl ?_))); all_goals (first | refine TR_peq0 rfl rfl (.head _) (.head _) (.head _) (.head _) rfl ?_ | refine TR_pv0 (PV_peq_nil rfl rfl) rfl ?_ | refine TR_pv0 (PV_peq rfl rfl) rfl ?_ | refine TR_skip0 rfl ?_ | (refine TR_gsplit rfl rfl rfl (fun hq => ?_) (fun hq => ?_) <;> (try simp only [qs] at hq) <;> (try simp only [reduceCtorEq] at hq) <;> (try (exfalso; omega)) <;> (try contradiction) <;> (first | refine TR_peq0 rfl rfl (.head _) (.head _) (.head _) (.head _) rfl ?_ | refine TR_pv0 (PV_peq_nil rfl rfl) rfl ?_ | refine TR_pv0 (PV_peq rfl rfl) rfl ?_ | refine TR_skip0 rfl ?_))); all_goals (first | refine TR_pv0 (PV_pick_t rfl) rfl ?_ | refine TR_pv0 (PV_pick_f rfl) rfl ?_); all_goals (first | refine TR_pv0 (PV_nil rfl) rfl ?_ | refine TR_pv0 (PV_nilF rfl) rfl ?_ | refine TR_pv0 (PV_nilY rfl) rfl ?_); all_goals refine TR_pv0 (PV_fieldAddr rfl) rfl ?_; all_goals (first | refine TR_store0_1 rfl rfl rfl rfl (by rw [Nat.blt_eq]; simp only [List.length_set, List.length_append, List.length_cons]; omega) rfl ?_ | refine TR_store0_0 rfl rfl rfl rfl rfl rfl ?_ | refine TR_store0_1 rfl rfl rfl rfl rfl rfl ?_ | refine TR_store0_2 rfl rfl rfl rfl rfl rfl ?_ | refine TR_store0_3 rfl rfl rfl rfl rfl rfl ?_); all_goals refine TR_nil ?_)
          | refine TC_cond_t rfl rfl ?_
          | refine TC_cond_f rfl rfl ?_
          | refine TC_skip ?_
          | refine TC_ret ?_
          | refine TC_exit ?_
          | refine TC_block ?_
          | refine TQ_then_ret ?_
          | refine TQ_then_exit ?_
          | refine TQ_blk ?_
          | refine TQ_blk_ret ?_
          | refine TQ_blk_here ?_
          | refine TQ_blk_past rfl ?_
          | refine TC_label ?_
          | (refine TC_cond rfl rfl (fun hq => ?_) (fun hq => ?_) <;> (try simp only [qs] at hq) <;> (try simp only [reduceCtorEq] at hq) <;> (try (exfalso; omega)) <;> (try contradiction))
          refine TQ_le (L' := RL.bk ⟨ackR ⟨d, path, id, miss, at_, acked, lost, false, false⟩, q, w⟩ :: tblk tb (pre ++ ([i64 (ac + d.bytes.length), .bool (decide (q = q)), .bool fa, i64 at_, .bool true] ++ post)) :: S :: R) (Le.of_eq (by (try simp only [setp]); rfl)) ?_
          exact TQ_end0e (C' := [RL.bk ⟨ackR ⟨d, path, id, miss, at_, acked, lost, false, false⟩, q, w⟩, tblk tb (pre ++ ([i64 (ac + d.bytes.length), .bool (decide (q = q)), .bool fa, i64 at_, .bool true] ++ post)), S]) rfl ⟨rfl, by rw [show decide (q = q) = (false || decide (some q = some q)) by simp]; rfl⟩ (Le.refl _)
        · repeat' first
          | refine TC_seq ?_
          | refine TQ_then ?_
          | refine TR_nil ?_
          | refine TQ_noPanic ?_
          | (refine TC_plain (id := 5) (by kernel_rfl) ?_; all_goals refine TR_pv0 PV_move rfl ?_; all_goals refine TR_pv0 PV_move rfl ?_; all_goals (first | refine TR_pv0 (PV_nil rfl) rfl ?_ | refine TR_pv0 (PV_nilF rfl) rfl ?_ | refine TR_pv0 (PV_nilY rfl) rfl ?_); all_goals refine TR_pv0 (PV_fieldAddr rfl) rfl ?_; all_goals (first | refine TR_load0 (v := .bool false) rfl 1 rfl (by simp only [getp]; rfl) rfl ?_ | refine TR_load0 rfl 0 rfl rfl rfl ?_ | refine TR_load0 rfl 1 rfl rfl rfl ?_ | refine TR_load0 rfl 2 rfl rfl rfl ?_ | refine TR_load0 rfl 3 rfl rfl rfl ?_); all_goals refine TR_pv0 PV_move rfl ?_; all_goals (first | refine TR_pv0 PV_move rfl ?_ | refine TR_skip0 rfl ?_ | (refine TR_gsplit rfl rfl rfl (fun hq => ?_) (fun hq => ?_) <;> (try simp only [qs] at hq) <;> (try simp only [reduceCtorEq] at hq) <;> (try (exfalso; omega)) <;> (try contradiction) <;> (first | refine TR_pv0 PV_move rfl ?_ | refine TR_skip0 rfl ?_))); all_goals (first | refine TR_pv0 PV_move rfl ?_ | refine TR_skip0 rfl ?_ | (refine TR_gsplit rfl rfl rfl (fun hq => ?_) (fun hq => ?_) <;> (try simp only [qs] at hq) <;> (try simp only [reduceCtorEq] at hq) <;> (try (exfalso; omega)) <;> (try contradiction) <;> (first | refine TR_pv0 PV_move rfl ?_ | refine TR_skip0 rfl ?_))); all_goals (first | refine TR_peq0 rfl rfl (.head _) (.head _) hm (.tail _ (.tail _ (.head _))) rfl ?_ | refine TR_pv0 (PV_peq_nil rfl rfl) rfl ?_ | refine TR_pv0 (PV_peq rfl rfl) rfl ?_ | refine TR_skip0 rfl ?_ | (refine TR_gsplit rfl rfl rfl (fun hq => ?_) (fun hq => ?_) <;> (try simp only [qs] at hq) <;> (try simp only [reduceCtorEq] at hq) <;> (try (exfalso; omega)) <;> (try contradiction) <;> (first | refine TR_peq0 rfl rfl (.head _) (.head _) hm (.tail _ (.tail _ (.head _))) rfl ?_ | refine TR_pv0 (PV_peq_nil rfl rfl) rfl ?_ | refine TR_pv0 (PV_peq rfl rfl) rfl ?_ | refine TR_skip0 rfl ?_))); all_goals (first | refine TR_pv0 (PV_pick_t rfl) rfl ?_ | refine TR_pv0 (PV_pick_f rfl) rfl ?_); all_goals (first | refine TR_pv0 (PV_nil rfl) rfl ?_ | refine TR_pv0 (PV_nilF rfl) rfl ?_ | refine TR_pv0 (PV_nilY rfl) rfl ?_); all_goals refine TR_pv0 (PV_fieldAddr rfl) rfl ?_; all_goals (first | refine TR_store0_1 rfl rfl rfl rfl (by rw [Nat.blt_eq]; simp only [List.length_set, List.length_append, List.length_cons]; omega) rfl ?_ | refine TR_store0_0 rfl rfl rfl rfl rfl rfl ?_ | refine TR_store0_1 rfl rfl rfl rfl rfl rfl ?_ | refine TR_store0_2 rfl rfl rfl rfl rfl rfl ?_ | refine TR_store0_3 rfl rfl rfl rfl rfl rfl ?_); all_goals refine TR_nil ?_)
          | refine TC_cond_t rfl rfl ?_
          | refine TC_cond_f rfl rfl ?_
          | refine TC_skip ?_
          | refine TC_ret ?_
          | refine TC_exit ?_
          | refine TC_block ?_
          | refine TQ_then_ret ?_
          | refine TQ_then_exit ?_
          | refine TQ_blk ?_
          | refine TQ_blk_ret ?_
          | refine TQ_blk_here ?_
          | refine TQ_blk_past rfl ?_
          | refine TC_label ?_
          | (refine TC_cond rfl rfl (fun hq => ?_) (fun hq => ?_) <;> (try simp only [qs] at hq) <;> (try simp only [reduceCtorEq] at hq) <;> (try (exfalso; omega)) <;> (try contradiction))
          refine TQ_le (L' := RL.bk ⟨ackR ⟨d, path, id, miss, at_, acked, lost, false, false⟩, p, w⟩ :: tblk tb (pre ++ ([i64 (ac + d.bytes.length), .bool (decide (p = q)), .bool fa, i64 at_, .bool true] ++ post)) :: S :: R) (Le.of_eq (by (try simp only [setp]); rfl)) ?_
          exact TQ_end0e (C' := [RL.bk ⟨ackR ⟨d, path, id, miss, at_, acked, lost, false, false⟩, p, w⟩, tblk tb (pre ++ ([i64 (ac + d.bytes.length), .bool (decide (p = q)), .bool fa, i64 at_, .bool true] ++ post)), S]) rfl ⟨rfl, by rw [show decide (p = q) = (false || decide (some q = some p)) by simp [eq_comm]]; rfl⟩ (Le.refl _)
    · repeat' first
      | refine TC_seq ?_
      | refine TQ_then ?_
      | refine TR_nil ?_
      | refine TQ_noPanic ?_
      | (refine TC_plain (id := 5) (by kernel_rfl) ?_; all_goals refine TR_pv0 PV_move rfl ?_; all_goals refine TR_pv0 PV_move rfl ?_; all_goals (first | refine TR_pv0 (PV_nil rfl) rfl ?_ | refine TR_pv0 (PV_nilF rfl) rfl ?_ | refine TR_pv0 (PV_nilY rfl) rfl ?_); all_goals refine TR_pv0 (PV_fieldAddr rfl) rfl ?_; all_goals (first | refine TR_load0 (v := .bool true) rfl 1 rfl (by simp only [getp]; rfl) rfl ?_ | refine TR_load0 rfl 0 rfl rfl rfl ?_ | refine TR_load0 rfl 1 rfl rfl rfl ?_ | refine TR_load0 rfl 2 rfl rfl rfl ?_ | refine TR_load0 rfl 3 rfl rfl rfl ?_); all_goals refine TR_pv0 PV_move rfl ?_; all_goals (first | refine TR_pv0 PV_move rfl ?_ | refine TR_skip0 rfl ?_ | (refine TR_gsplit rfl rfl rfl (fun hq => ?_) (fun hq => ?_) <;> (try simp only [qs] at hq) <;> (try simp only [reduceCtorEq] at hq) <;> (try (exfalso; omega)) <;> (try contradiction) <;> (first | refine TR_pv0 PV_move rfl ?_ | refine TR_skip0 rfl ?_))); all_goals (first | refine TR_pv0 PV_move rfl ?_ | refine TR_skip0 rfl ?_ | (refine TR_gsplit rfl rfl rfl (fun hq => ?_) (fun hq => ?_) <;> (try simp only [qs] at hq) <;> (try simp only [reduceCtorEq] at hq) <;> (try (exfalso; omega)) <;> (try contradiction) <;> (first | refine TR_pv0 PV_move rfl ?_ | refine TR_skip0 rfl ?_))); all_goals (first | refine TR_pv0 (PV_peq_nil rfl rfl) rfl ?_ | refine TR_pv0 (PV_peq rfl rfl) rfl ?_ | refine TR_skip0 rfl ?_ | (refine TR_gsplit rfl rfl rfl (fun hq => ?_) (fun hq => ?_) <;> (try simp only [qs] at hq) <;> (try simp only [reduceCtorEq] at hq) <;> (try (exfalso; omega)) <;> (try contradiction) <;> (first | refine TR_pv0 (PV_peq_nil rfl rfl) rfl ?_ | refine TR_pv0 (PV_peq rfl rfl) rfl ?_ | refine TR_skip0 rfl ?_))); all_goals (first | refine TR_pv0 (PV_pick_t rfl) rfl ?_ | refine TR_pv0 (PV_pick_f rfl) rfl ?_); all_goals (first | refine TR_pv0 (PV_nil rfl) rfl ?_ | refine TR_pv0 (PV_nilF rfl) rfl ?_ | refine TR_pv0 (PV_nilY rfl) rfl ?_); all_goals refine TR_pv0 (PV_fieldAddr rfl) rfl ?_; all_goals (first | refine TR_store0_1 rfl rfl rfl rfl (by rw [Nat.blt_eq]; simp only [List.length_set, List.length_append, List.length_cons]; omega) rfl ?_ | refine TR_store0_0 rfl rfl rfl rfl rfl rfl ?_ | refine TR_store0_1 rfl rfl rfl rfl rfl rfl ?_ | refine TR_store0_2 rfl rfl rfl rfl rfl rfl ?_ | refine TR_store0_3 rfl rfl rfl rfl rfl rfl ?_); all_goals refine TR_nil ?_)
      | refine TC_cond_t rfl rfl ?_
      | refine TC_cond_f rfl rfl ?_
      | refine TC_skip ?_
      | refine TC_ret ?_
      | refine TC_exit ?_
      | refine TC_block ?_
      | refine TQ_then_ret ?_
      | refine TQ_then_exit ?_
      | refine TQ_blk ?_
      | refine TQ_blk_ret ?_
      | refine TQ_blk_here ?_
      | refine TQ_blk_past rfl ?_
      | refine TC_label ?_
      | (refine TC_cond rfl rfl (fun hq => ?_) (fun hq => ?_) <;> (try simp only [qs] at hq) <;> (try simp only [reduceCtorEq] at hq) <;> (try (exfalso; omega)) <;> (try contradiction))
      refine TQ_le (L' := RL.bk ⟨ackR ⟨d, path, id, miss, at_, acked, lost, false, false⟩, p, w⟩ :: tblk tb (pre ++ ([i64 (ac + d.bytes.length), .bool true, .bool fa, i64 at_, .bool true] ++ post)) :: S :: R) (Le.of_eq (by (try simp only [setp]); rfl)) ?_
      exact TQ_end0e (C' := [RL.bk ⟨ackR ⟨d, path, id, miss, at_, acked, lost, false, false⟩, p, w⟩, tblk tb (pre ++ ([i64 (ac + d.bytes.length), .bool true, .bool fa, i64 at_, .bool true] ++ post)), S]) rfl ⟨rfl, rfl⟩ (Le.refl _)
  · refine TC_le (L' := RL.bk ⟨ackR ⟨d, path, id, miss, at_, acked, lost, false, true⟩, p, w⟩ :: tblk tb (pre ++ ([i64 (ac + d.bytes.length), .bool ps, .bool fa, i64 at2, .bool so] ++ post)) :: S :: R) (Le.of_eq (by (try simp only [setp]); rfl)) ?_
    cases ps
    · cases low with
      | none =>
        repeat' first
          | refine TC_seq ?_
          | refine TQ_then ?_
          | refine TR_nil ?_
          | refine TQ_noPanic ?_
          | (refine TC_plain (id := 5) (by kernel_rfl) ?_; all_goals refine TR_pv0 PV_move rfl ?_; all_goals refine TR_pv0 PV_move rfl ?_; all_goals (first | refine TR_pv0 (PV_nil rfl) rfl ?_ | refine TR_pv0 (PV_nilF rfl) rfl ?_ | refine TR_pv0 (PV_nilY rfl) rfl ?_); all_goals refine TR_pv0 (PV_fieldAddr rfl) rfl ?_; all_goals (first | refine TR_load0 (v := .bool false) rfl 1 rfl (by simp only [getp]; rfl) rfl ?_ | refine TR_load0 rfl 0 rfl rfl rfl ?_ | refine TR_load0 rfl 1 rfl rfl rfl ?_ | refine TR_load0 rfl 2 rfl rfl rfl ?_ | refine TR_load0 rfl 3 rfl rfl rfl ?_); all_goals refine TR_pv0 PV_move rfl ?_; all_goals (first | refine TR_pv0 PV_move rfl ?_ | refine TR_skip0 rfl ?_ | (refine TR_gsplit rfl rfl rfl (fun hq => ?_) (fun hq => ?_) <;> (try simp only [qs] at hq) <;> (try simp only [reduceCtorEq] at hq) <;> (try (exfalso; omega)) <;> (try contradiction) <;> (first | refine TR_pv0 PV_move rfl ?_ | refine TR_skip0 rfl ?_))); all_goals (first | refine TR_pv0 PV_move rfl ?_ | refine TR_skip0 rfl ?_ | (refine TR_gsplit rfl rfl rfl (fun hq => ?_) (fun hq => ?_) <;> (try simp only [qs] at hq) <;> (try simp only [reduceCtorEq] at hq) <;> (try (exfalso; omega)) <;> (try contradiction) <;> (first | refine TR_pv0 PV_move rfl ?_ | refine TR_skip0 rfl ?_))); all_goals (first | refine TR_pv0 (PV_peq_nil rfl rfl) rfl ?_ | refine TR_pv0 (PV_peq rfl rfl) rfl ?_ | refine TR_skip0 rfl ?_ | (refine TR_gsplit rfl rfl rfl (fun hq => ?_) (fun hq => ?_) <;> (try simp only [qs] at hq) <;> (try simp only [reduceCtorEq] at hq) <;> (try (exfalso; omega)) <;> (try contradiction) <;> (first | refine TR_pv0 (PV_peq_nil rfl rfl) rfl ?_ | refine TR_pv0 (PV_peq rfl rfl) rfl ?_ | refine TR_skip0 rfl ?_))); all_goals (first | refine TR_pv0 (PV_pick_t rfl) rfl ?_ | refine TR_pv0 (PV_pick_f rfl) rfl ?_); all_goals (first | refine TR_pv0 (PV_nil rfl) rfl ?_ | refine TR_pv0 (PV_nilF rfl) rfl ?_ | refine TR_pv0 (PV_nilY rfl) rfl ?_); all_goals refine TR_pv0 (PV_fieldAddr rfl) rfl ?_; all_goals (first | refine TR_store0_1 rfl rfl rfl rfl (by rw [Nat.blt_eq]; simp only [List.length_set, List.length_append, List.length_cons]; omega) rfl ?_ | refine TR_store0_0 rfl rfl rfl rfl rfl rfl ?_ | refine TR_store0_1 rfl rfl rfl rfl rfl rfl ?_ | refine TR_store0_2 rfl rfl rfl rfl rfl rfl ?_ | refine TR_store0_3 rfl rfl rfl rfl rfl rfl ?_); all_goals refine TR_nil ?_)
          | refine TC_cond_t rfl rfl ?_
          | refine TC_cond_f rfl rfl ?_
          | refine TC_skip ?_
          | refine TC_ret ?_
          | refine TC_exit ?_
          | refine TC_block ?_
          | refine TQ_then_ret ?_
          | refine TQ_then_exit ?_
          | refine TQ_blk ?_
          | refine TQ_blk_ret ?_
          | refine TQ_blk_here ?_
          | refine TQ_blk_past rfl ?_
          | refine TC_label ?_
          | (refine TC_cond rfl rfl (fun hq => ?_) (fun hq => ?_) <;> (try simp only [qs] at hq) <;> (try simp only [reduceCtorEq] at hq) <;> (try (exfalso; omega)) <;> (try contradiction))
        refine TQ_le (L' := RL.bk ⟨ackR ⟨d, path, id, miss, at_, acked, lost, false, true⟩, p, w⟩ :: tblk tb (pre ++ ([i64 (ac + d.bytes.length), .bool false, .bool fa, i64 at2, .bool so] ++ post)) :: S :: R) (Le.of_eq (by (try simp only [setp]); rfl)) ?_
        exact TQ_end0e (C' := [RL.bk ⟨ackR ⟨d, path, id, miss, at_, acked, lost, false, true⟩, p, w⟩, tblk tb (pre ++ ([i64 (ac + d.bytes.length), .bool false, .bool fa, i64 at2, .bool so] ++ post)), S]) rfl ⟨rfl, rfl⟩ (Le.refl _)
      | some q =>
        rcases hlow q rfl with rfl | ⟨cs, T, hm⟩
        · repeat' first
          | refine TC_seq ?_
          | refine TQ_then ?_
          | refine TR_nil ?_
          | refine TQ_noPanic ?_
          | (refine TC_plain (id := 5) (by kernel_rfl) ?_; all_goals refine TR_pv0 PV_move rfl ?_; all_goals refine TR_pv0 PV_move rfl ?_; all_goals (first | refine TR_pv0 (PV_nil rfl) rfl ?_ | refine TR_pv0 (PV_nilF rfl) rfl ?_ | refine TR_pv0 (PV_nilY rfl) rfl ?_); all_goals refine TR_pv0 (PV_fieldAddr rfl) rfl ?_; all_goals (first | refine TR_load0 (v := .bool false) rfl 1 rfl (by simp only [getp]; rfl) rfl ?_ | refine TR_load0 rfl 0 rfl rfl rfl ?_ | refine TR_load0 rfl 1 rfl rfl rfl ?_ | refine TR_load0 rfl 2 rfl rfl rfl ?_ | refine TR_load0 rfl 3 rfl rfl rfl ?_); all_goals refine TR_pv0 PV_move rfl ?_; all_goals (first | refine TR_pv0 PV_move rfl ?_ | refine TR_skip0 rfl ?_ | (refine TR_gsplit rfl rfl rfl (fun hq => ?_) (fun hq => ?_) <;> (try simp only [qs] at hq) <;> (try simp only [reduceCtorEq] at hq) <;> (try (exfalso; omega)) <;> (try contradiction) <;> (first | refine TR_pv0 PV_move rfl ?_ | refine TR_skip0 rfl ?_))); all_goals (first | refine TR_pv0 PV_move rfl ?_ | refine TR_skip0 rfl ?_ | (refine TR_gsplit rfl rfl rfl (fun hq => ?_) (fun hq => ?_) <;> (try simp only [qs] at hq) <;> (try simp only [reduceCtorEq] at hq) <;> (try (exfalso; omega)) <;> (try contradiction) <;> (first | refine TR_pv0 PV_move rfl ?_ | refine TR_skip0 rfl ?_))); all_goals (first | refine TR_peq0 rfl rfl (.head _) (.head _) (.head _) (.head _) rfl ?_ | refine TR_pv0 (PV_peq_nil rfl rfl) rfl ?_ | refine TR_pv0 (PV_peq rfl rfl) rfl ?_ | refine TR_skip0 rfl ?_ | (refine TR_gsplit rfl rfl rfl (fun hq => ?_) (fun hq => ?_) <;> (try simp only [qs] at hq) <;> (try simp only [reduceCtorEq] at hq) <;> (try (exfalso; omega)) <;> (try contradiction) <;> (first | refine TR_peq0 rfl rfl (.head _) (.head _) (.head _) (.head _) rfl ?_ | refine TR_pv0 (PV_peq_nil rfl rfl) rfl ?_ | refine TR_pv0 (PV_peq rfl rfl) rfl ?_ | refine TR_skip0 rfl ?_))); all_goals (first | refine TR_pv0 (PV_pick_t rfl) rfl ?_ | refine TR_pv0 (PV_pick_f rfl) rfl ?_); all_goals (first | refine TR_pv0 (PV_nil rfl) rfl ?_ | refine TR_pv0 (PV_nilF rfl) rfl ?_ | refine TR_pv0 (PV_nilY rfl) rfl ?_); all_goals refine TR_pv0 (PV_fieldAddr rfl) rfl ?_; all_goals (first | refine TR_store0_1 rfl rfl rfl rfl (by rw [Nat.blt_eq]; simp only [List.length_set, List.length_append, List.length_cons]; omega) rfl ?_ | refine TR_store0_0 rfl rfl rfl rfl rfl rfl ?_ | refine TR_store0_1 rfl rfl rfl rfl rfl rfl ?_ | refine TR_store0_2 rfl rfl rfl rfl rfl rfl ?_ | refine TR_store0_3 rfl rfl rfl rfl rfl rfl ?_); all_goals refine TR_nil ?_)
          | refine TC_cond_t rfl rfl ?_
          | refine TC_cond_f rfl rfl ?_
          | refine TC_skip ?_
          | refine TC_ret ?_
          | refine TC_exit ?_
          | refine TC_block ?_
          | refine TQ_then_ret ?_
          | refine TQ_then_exit ?_
          | refine TQ_blk ?_
          | refine TQ_blk_ret ?_
          | refine TQ_blk_here ?_
          | refine TQ_blk_past rfl ?_
          | refine TC_label ?_
          | (refine TC_cond rfl rfl (fun hq => ?_) (fun hq => ?_) <;> (try simp only [qs] at hq) <;> (try simp only [reduceCtorEq] at hq) <;> (try (exfalso; omega)) <;> (try contradiction))
          refine TQ_le (L' := RL.bk ⟨ackR ⟨d, path, id, miss, at_, acked, lost, false, true⟩, q, w⟩ :: tblk tb (pre ++ ([i64 (ac + d.bytes.length), .bool (decide (q = q)), .bool fa, i64 at2, .bool so] ++ post)) :: S :: R) (Le.of_eq (by (try simp only [setp]); rfl)) ?_
          exact TQ_end0e (C' := [RL.bk ⟨ackR ⟨d, path, id, miss, at_, acked, lost, false, true⟩, q, w⟩, tblk tb (pre ++ ([i64 (ac + d.bytes.length), .bool (decide (q = q)), .bool fa, i64 at2, .bool so] ++ post)), S]) rfl ⟨rfl, by rw [show decide (q = q) = (false || decide (some q = some q)) by simp]; rfl⟩ (Le.refl _)
        · repeat' first
          | refine TC_seq ?_
          | refine TQ_then ?_
          | refine TR_nil ?_
          | refine TQ_noPanic ?_
          | (refine TC_plain (id := 5) (by kernel_rfl) ?_; all_goals refine TR_pv0 PV_move rfl ?_; all_goals refine TR_pv0 PV_move rfl ?_; all_goals (first | refine TR_pv0 (PV_nil rfl) rfl ?_ | refine TR_pv0 (PV_nilF rfl) rfl ?_ | refine TR_pv0 (PV_nilY rfl) rfl ?_); all_goals refine TR_pv0 (PV_fieldAddr rfl) rfl ?_; all_goals (first | refine TR_load0 (v := .bool false) rfl 1 rfl (by simp only [getp]; rfl) rfl ?_ | refine TR_load0 rfl 0 rfl rfl rfl ?_ | refine TR_load0 rfl 1 rfl rfl rfl ?_ | refine TR_load0 rfl 2 rfl rfl rfl ?_ | refine TR_load0 rfl 3 rfl rfl rfl ?_); all_goals refine TR_pv0 PV_move rfl ?_; all_goals (first | refine TR_pv0 PV_move rfl ?_ | refine TR_skip0 rfl ?_ | (refine TR_gsplit rfl rfl rfl (fun hq => ?_) (fun hq => ?_) <;> (try simp only [qs] at hq) <;> (try simp only [reduceCtorEq] at hq) <;> (try (exfalso; omega)) <;> (try contradiction) <;> (first | refine TR_pv0 PV_move rfl ?_ | refine TR_skip0 rfl ?_))); all_goals (first | refine TR_pv0 PV_move rfl ?_ | refine TR_skip0 rfl ?_ | (refine TR_gsplit rfl rfl rfl (fun hq => ?_) (fun hq => ?_) <;> (try simp only [qs] at hq) <;> (try simp only [reduceCtorEq] at hq) <;> (try (exfalso; omega)) <;> (try contradiction) <;> (first | refine TR_pv0 PV_move rfl ?_ | refine TR_skip0 rfl ?_))); all_goals (first | refine TR_peq0 rfl rfl (.head _) (.head _) hm (.tail _ (.tail _ (.head _))) rfl ?_ | refine TR_pv0 (PV_peq_nil rfl rfl) rfl ?_ | refine TR_pv0 (PV_peq rfl rfl) rfl ?_ | refine TR_skip0 rfl ?_ | (refine TR_gsplit rfl rfl rfl (fun hq => ?_) (fun hq => ?_) <;> (try simp only [qs] at hq) <;> (try simp only [reduceCtorEq] at hq) <;> (try (exfalso; omega)) <;> (try contradiction) <;> (first | refine TR_peq0 rfl rfl (.head _) (.head _) hm (.tail _ (.tail _ (.head _))) rfl ?_ | refine TR_pv0 (PV_peq_nil rfl rfl) rfl ?_ | refine TR_pv0 (PV_peq rfl rfl) rfl ?_ | refine TR_skip0 rfl ?_))); all_goals (first | refine TR_pv0 (PV_pick_t rfl) rfl ?_ | refine TR_pv0 (PV_pick_f rfl) rfl ?_); all_goals (first | refine TR_pv0 (PV_nil rfl) rfl ?_ | refine TR_pv0 (PV_nilF rfl) rfl ?_ | refine TR_pv0 (PV_nilY rfl) rfl ?_); all_goals refine TR_pv0 (PV_fieldAddr rfl) rfl ?_; all_goals (first | refine TR_store0_1 rfl rfl rfl rfl (by rw [Nat.blt_eq]; simp only [List.length_set, List.length_append, List.length_cons]; omega) rfl ?_ | refine TR_store0_0 rfl rfl rfl rfl rfl rfl ?_ | refine TR_store0_1 rfl rfl rfl rfl rfl rfl ?_ | refine TR_store0_2 rfl rfl rfl rfl rfl rfl ?_ | refine TR_store0_3 rfl rfl rfl rfl rfl rfl ?_); all_goals refine TR_nil ?_)
          | refine TC_cond_t rfl rfl ?_
          | refine TC_cond_f rfl rfl ?_
          | refine TC_skip ?_
          | refine TC_ret ?_
          | refine TC_exit ?_
          | refine TC_block ?_
          | refine TQ_then_ret ?_
          | refine TQ_then_exit ?_
          | refine TQ_blk ?_
          | refine TQ_blk_ret ?_
          | refine TQ_blk_here ?_
          | refine TQ_blk_past rfl ?_
          | refine TC_label ?_
          | (refine TC_cond rfl rfl (fun hq => ?_) (fun hq => ?_) <;> (try simp only [qs] at hq) <;> (try simp only [reduceCtorEq] at hq) <;> (try (exfalso; omega)) <;> (try contradiction))
          refine TQ_le (L' := RL.bk ⟨ackR ⟨d, path, id, miss, at_, acked, lost, false, true⟩, p, w⟩ :: tblk tb (pre ++ ([i64 (ac + d.bytes.length), .bool (decide (p = q)), .bool fa, i64 at2, .bool so] ++ post)) :: S :: R) (Le.of_eq (by (try simp only [setp]); rfl)) ?_
          exact TQ_end0e (C' := [RL.bk ⟨ackR ⟨d, path, id, miss, at_, acked, lost, false, true⟩, p, w⟩, tblk tb (pre ++ ([i64 (ac + d.bytes.length), .bool (decide (p = q)), .bool fa, i64 at2, .bool so] ++ post)), S]) rfl ⟨rfl, by rw [show decide (p = q) = (false || decide (some q = some p)) by simp [eq_comm]]; rfl⟩ (Le.refl _)
    · repeat' first
      | refine TC_seq ?_
      | refine TQ_then ?_
      | refine TR_nil ?_
      | refine TQ_noPanic ?_
      | (refine TC_plain (id := 5) (by kernel_rfl) ?_; all_goals refine TR_pv0 PV_move rfl ?_; all_goals refine TR_pv0 PV_move rfl ?_; all_goals (first | refine TR_pv0 (PV_nil rfl) rfl ?_ | refine TR_pv0 (PV_nilF rfl) rfl ?_ | refine TR_pv0 (PV_nilY rfl) rfl ?_); all_goals refine TR_pv0 (PV_fieldAddr rfl) rfl ?_; all_goals (first | refine TR_load0 (v := .bool true) rfl 1 rfl (by simp only [getp]; rfl) rfl ?_ | refine TR_load0 rfl 0 rfl rfl rfl ?_ | refine TR_load0 rfl 1 rfl rfl rfl ?_ | refine TR_load0 rfl 2 rfl rfl rfl ?_ | refine TR_load0 rfl 3 rfl rfl rfl ?_); all_goals refine TR_pv0 PV_move rfl ?_; all_goals (first | refine TR_pv0 PV_move rfl ?_ | refine TR_skip0 rfl ?_ | (refine TR_gsplit rfl rfl rfl (fun hq => ?_) (fun hq => ?_) <;> (try simp only [qs] at hq) <;> (try simp only [reduceCtorEq] at hq) <;> (try (exfalso; omega)) <;> (try contradiction) <;> (first | refine TR_pv0 PV_move rfl ?_ | refine TR_skip0 rfl ?_))); all_goals (first | refine TR_pv0 PV_move rfl ?_ | refine TR_skip0 rfl ?_ | (refine TR_gsplit rfl rfl rfl (fun hq => ?_) (fun hq => ?_) <;> (try simp only [qs] at hq) <;> (try simp only [reduceCtorEq] at hq) <;> (try (exfalso; omega)) <;> (try contradiction) <;> (first | refine TR_pv0 PV_move rfl ?_ | refine TR_skip0 rfl ?_))); all_goals (first | refine TR_pv0 (PV_peq_nil rfl rfl) rfl ?_ | refine TR_pv0 (PV_peq rfl rfl) rfl ?_ | refine TR_skip0 rfl ?_ | (refine TR_gsplit rfl rfl rfl (fun hq => ?_) (fun hq => ?_) <;> (try simp only [qs] at hq) <;> (try simp only [reduceCtorEq] at hq) <;> (try (exfalso; omega)) <;> (try contradiction) <;> (first | refine TR_pv0 (PV_peq_nil rfl rfl) rfl ?_ | refine TR_pv0 (PV_peq rfl rfl) rfl ?_ | refine TR_skip0 rfl ?_))); all_goals (first | refine TR_pv0 (PV_pick_t rfl) rfl ?_ | refine TR_pv0 (PV_pick_f rfl) rfl ?_); all_goals (first | refine TR_pv0 (PV_nil rfl) rfl ?_ | refine TR_pv0 (PV_nilF rfl) rfl ?_ | refine TR_pv0 (PV_nilY rfl) rfl ?_); all_goals refine TR_pv0 (PV_fieldAddr rfl) rfl ?_; all_goals (first | refine TR_store0_1 rfl rfl rfl rfl (by rw [Nat.blt_eq]; simp only [List.length_set, List.length_append, List.length_cons]; omega) rfl ?_ | refine TR_store0_0 rfl rfl rfl rfl rfl rfl ?_ | refine TR_store0_1 rfl rfl rfl rfl rfl rfl ?_ | refine TR_store0_2 rfl rfl rfl rfl rfl rfl ?_ | refine TR_store0_3 rfl rfl rfl rfl rfl rfl ?_); all_goals refine TR_nil ?_)
      | refine TC_cond_t rfl rfl ?_
      | refine TC_cond_f rfl rfl ?_
      | refine TC_skip ?_
      | refine TC_ret ?_
      | refine TC_exit ?_
      | refine TC_block ?_
      | refine TQ_then_ret ?_
      | refine TQ_then_exit ?_
      | refine TQ_blk ?_
      | refine TQ_blk_ret ?_
      | refine TQ_blk_here ?_
      | refine TQ_blk_past rfl ?_
      | refine TC_label ?_
      | (refine TC_cond rfl rfl (fun hq => ?_) (fun hq => ?_) <;> (try simp only [qs] at hq) <;> (try simp only [reduceCtorEq] at hq) <;> (try (exfalso; omega)) <;> (try contradiction))
      refine TQ_le (L' := RL.bk ⟨ackR ⟨d, path, id, miss, at_, acked, lost, false, true⟩, p, w⟩ :: tblk tb (pre ++ ([i64 (ac + d.bytes.length), .bool true, .bool fa, i64 at2, .bool so] ++ post)) :: S :: R) (Le.of_eq (by (try simp only [setp]); rfl)) ?_
      exact TQ_end0e (C' := [RL.bk ⟨ackR ⟨d, path, id, miss, at_, acked, lost, false, true⟩, p, w⟩, tblk tb (pre ++ ([i64 (ac + d.bytes.length), .bool true, .bool fa, i64 at2, .bool so] ++ post)), S]) rfl ⟨rfl, rfl⟩ (Le.refl _)
  · refine TC_le (L' := RL.bk ⟨ackR ⟨d, path, id, miss, at_, acked, lost, true, false⟩, p, w⟩ :: tblk tb (pre ++ ([i64 ac, .bool ps, .bool fa, i64 at_, .bool true] ++ post)) :: S :: R) (Le.of_eq (by (try simp only [setp]); rfl)) ?_
    cases ps
    · cases low with
      | none =>
        repeat' first
          | refine TC_seq ?_
          | refine TQ_then ?_
          | refine TR_nil ?_
          | refine TQ_noPanic ?_
          | (refine TC_plain (id := 5) (by kernel_rfl) ?_; all_goals refine TR_pv0 PV_move rfl ?_; all_goals refine TR_pv0 PV_move rfl ?_; all_goals (first | refine TR_pv0 (PV_nil rfl) rfl ?_ | refine TR_pv0 (PV_nilF rfl) rfl ?_ | refine TR_pv0 (PV_nilY rfl) rfl ?_); all_goals refine TR_pv0 (PV_fieldAddr rfl) rfl ?_; all_goals (first | refine TR_load0 (v := .bool false) rfl 1 rfl (by simp only [getp]; rfl) rfl ?_ | refine TR_load0 rfl 0 rfl rfl rfl ?_ | refine TR_load0 rfl 1 rfl rfl rfl ?_ | refine TR_load0 rfl 2 rfl rfl rfl ?_ | refine TR_load0 rfl 3 rfl rfl rfl ?_); all_goals refine TR_pv0 PV_move rfl ?_; all_goals (first | refine TR_pv0 PV_move rfl ?_ | refine TR_skip0 rfl ?_ | (refine TR_gsplit rfl rfl rfl (fun hq => ?_) (fun hq => ?_) <;> (try simp only [qs] at hq) <;> (try simp only [reduceCtorEq] at hq) <;> (try (exfalso; omega)) <;> (try contradiction) <;> (first | refine TR_pv0 PV_move rfl ?_ | refine TR_skip0 rfl ?_))); all_goals (first | refine TR_pv0 PV_move rfl ?_ | refine TR_skip0 rfl ?_ | (refine TR_gsplit rfl rfl rfl (fun hq => ?_) (fun hq => ?_) <;> (try simp only [qs] at hq) <;> (try simp only [reduceCtorEq] at hq) <;> (try (exfalso; omega)) <;> (try contradiction) <;> (first | refine TR_pv0 PV_move rfl ?_ | refine TR_skip0 rfl ?_))); all_goals (first | refine TR_pv0 (PV_peq_nil rfl rfl) rfl ?_ | refine TR_pv0 (PV_peq rfl rfl) rfl ?_ | refine TR_skip0 rfl ?_ | (refine TR_gsplit rfl rfl rfl (fun hq => ?_) (fun hq => ?_) <;> (try simp only [qs] at hq) <;> (try simp only [reduceCtorEq] at hq) <;> (try (exfalso; omega)) <;> (try contradiction) <;> (first | refine TR_pv0 (PV_peq_nil rfl rfl) rfl ?_ | refine TR_pv0 (PV_peq rfl rfl) rfl ?_ | refine TR_skip0 rfl ?_))); all_goals (first | refine TR_pv0 (PV_pick_t rfl) rfl ?_ | refine TR_pv0 (PV_pick_f rfl) rfl ?_); all_goals (first | refine TR_pv0 (PV_nil rfl) rfl ?_ | refine TR_pv0 (PV_nilF rfl) rfl ?_ | refine TR_pv0 (PV_nilY rfl) rfl ?_); all_goals refine TR_pv0 (PV_fieldAddr rfl) rfl ?_; all_goals (first | refine TR_store0_1 rfl rfl rfl rfl (by rw [Nat.blt_eq]; simp only [List.length_set, List.length_append, List.length_cons]; omega) rfl ?_ | refine TR_store0_0 rfl rfl rfl rfl rfl rfl ?_ | refine TR_store0_1 rfl rfl rfl rfl rfl rfl ?_ | refine TR_store0_2 rfl rfl rfl rfl rfl rfl ?_ | refine TR_store0_3 rfl rfl rfl rfl rfl rfl ?_); all_goals refine TR_nil ?_)
          | refine TC_cond_t rfl rfl ?_
          | refine TC_cond_f rfl rfl ?_
          | refine TC_skip ?_
          | refine TC_ret ?_
          | refine TC_exit ?_
          | refine TC_block ?_
          | refine TQ_then_ret ?_
          | refine TQ_then_exit ?_
          | refine TQ_blk ?_
          | refine TQ_blk_ret ?_
          | refine TQ_blk_here ?_
          | refine TQ_blk_past rfl ?_
          | refine TC_label ?_
          | (refine TC_cond rfl rfl (fun hq => ?_) (fun hq => ?_) <;> (try simp only [qs] at hq) <;> (try simp only [reduceCtorEq] at hq) <;> (try (exfalso; omega)) <;> (try contradiction))
        refine TQ_le (L' := RL.bk ⟨ackR ⟨d, path, id, miss, at_, acked, lost, true, false⟩, p, w⟩ :: tblk tb (pre ++ ([i64 ac, .bool false, .bool fa, i64 at_, .bool true] ++ post)) :: S :: R) (Le.of_eq (by (try simp only [setp]); rfl)) ?_
        exact TQ_end0e (C' := [RL.bk ⟨ackR ⟨d, path, id, miss, at_, acked, lost, true, false⟩, p, w⟩, tblk tb (pre ++ ([i64 ac, .bool false, .bool fa, i64 at_, .bool true] ++ post)), S]) rfl ⟨rfl, rfl⟩ (Le.refl _)
      | some q =>
        rcases hlow q rfl with rfl | ⟨cs, T, hm⟩
        · repeat' first
          | refine TC_seq ?_
          | refine TQ_then ?_
          | refine TR_nil ?_
          | refine TQ_noPanic ?_
          | (refine TC_plain (id := 5) (by kernel_rfl) ?_; all_goals refine TR_pv0 PV_move rfl ?_; all_goals refine TR_pv0 PV_move rfl ?_; all_goals (first | refine TR_pv0 (PV_nil rfl) rfl ?_ | refine TR_pv0 (PV_nilF rfl) rfl ?_ | refine TR_pv0 (PV_nilY rfl) rfl ?_); all_goals refine TR_pv0 (PV_fieldAddr rfl) rfl ?_; all_goals (first | refine TR_load0 (v := .bool false) rfl 1 rfl (by simp only [getp]; rfl) rfl ?_ | refine TR_load0 rfl 0 rfl rfl rfl ?_ | refine TR_load0 rfl 1 rfl rfl rfl ?_ | refine TR_load0 rfl 2 rfl rfl rfl ?_ | refine TR_load0 rfl 3 rfl rfl rfl ?_); all_goals refine TR_pv0 PV_move rfl ?_; all_goals (first | refine TR_pv0 PV_move rfl ?_ | refine TR_skip0 rfl ?_ | (refine TR_gsplit rfl rfl rfl (fun hq => ?_) (fun hq => ?_) <;> (try simp only [qs] at hq) <;> (try simp only [reduceCtorEq] at hq) <;> (try (exfalso; omega)) <;> (try contradiction) <;> (first | refine TR_pv0 PV_move rfl ?_ | refine TR_skip0 rfl ?_))); all_goals (first | refine TR_pv0 PV_move rfl ?_ | refine TR_skip0 rfl ?_ | (refine TR_gsplit rfl rfl rfl (fun hq => ?_) (fun hq => ?_) <;> (try simp only [qs] at hq) <;> (try simp only [reduceCtorEq] at hq) <;> (try (exfalso; omega)) <;> (try contradiction) <;> (first | refine TR_pv0 PV_move rfl ?_ | refine TR_skip0 rfl ?_))); all_goals (first | refine TR_peq0 rfl rfl (.head _) (.head _) (.head _) (.head _) rfl ?_ | refine TR_pv0 (PV_peq_nil rfl rfl) rfl ?_ | refine TR_pv0 (PV_peq rfl rfl) rfl ?_ | refine TR_skip0 rfl ?_ | (refine TR_gsplit rfl rfl rfl (fun hq => ?_) (fun hq => ?_) <;> (try simp only [qs] at hq) <;> (try simp only [reduceCtorEq] at hq) <;> (try (exfalso; omega)) <;> (try contradiction) <;> (first | refine TR_peq0 rfl rfl (.head _) (.head _) (.head _) (.head _) rfl ?_ | refine TR_pv0 (PV_peq_nil rfl rfl) rfl ?_ | refine TR_pv0 (PV_peq rfl rfl) rfl ?_ | refine TR_skip0 rfl ?_))); all_goals (first | refine TR_pv0 (PV_pick_t rfl) rfl ?_ | refine TR_pv0 (PV_pick_f rfl) rfl ?_); all_goals (first | refine TR_pv0 (PV_nil rfl) rfl ?_ | refine TR_pv0 (PV_nilF rfl) rfl ?_ | refine TR_pv0 (PV_nilY rfl) rfl ?_); all_goals refine TR_pv0 (PV_fieldAddr rfl) rfl ?_; all_goals (first | refine TR_store0_1 rfl rfl rfl rfl (by rw [Nat.blt_eq]; simp only [List.length_set, List.length_append, List.length_cons]; omega) rfl ?_ | refine TR_store0_0 rfl rfl rfl rfl rfl rfl ?_ | refine TR_store0_1 rfl rfl rfl rfl rfl rfl ?_ | refine TR_store0_2 rfl rfl rfl rfl rfl rfl ?_ | refine TR_store0_3 rfl rfl rfl rfl rfl rfl ?_); all_goals refine TR_nil ?_)
          | refine TC_cond_t rfl rfl ?_
          | refine TC_cond_f rfl rfl ?_
          | refine TC_skip ?_
          | refine TC_ret ?_
          | refine TC_exit ?_
          | refine TC_block ?_
          | refine TQ_then_ret ?_
          | refine TQ_then_exit ?_
          | refine TQ_blk ?_
          | refine TQ_blk_ret ?_
          | refine TQ_blk_here ?_
          | refine TQ_blk_past rfl ?_
          | refine TC_label ?_
          | (refine TC_cond rfl rfl (fun hq => ?_) (fun hq => ?_) <;> (try simp only [qs] at hq) <;> (try simp only [reduceCtorEq] at hq) <;> (try (exfalso; omega)) <;> (try contradiction))
          refine TQ_le (L' := RL.bk ⟨ackR ⟨d, path, id, miss, at_, acked, lost, true, false⟩, q, w⟩ :: tblk tb (pre ++ ([i64 ac, .bool (decide (q = q)), .bool fa, i64 at_, .bool true] ++ post)) :: S :: R) (Le.of_eq (by (try simp only [setp]); rfl)) ?_
          exact TQ_end0e (C' := [RL.bk ⟨ackR ⟨d, path, id, miss, at_, acked, lost, true, false⟩, q, w⟩, tblk tb (pre ++ ([i64 ac, .bool (decide (q = q)), .bool fa, i64 at_, .bool true] ++ post)), S]) rfl ⟨rfl, by rw [show decide (q = q) = (false || decide (some q = some q)) by simp]; rfl⟩ (Le.refl _)
        · repeat' first
          | refine TC_seq ?_
          | refine TQ_then ?_
          | refine TR_nil ?_
          | refine TQ_noPanic ?_
          | (refine TC_plain (id := 5) (by kernel_rfl) ?_; all_goals refine TR_pv0 PV_move rfl ?_; all_goals refine TR_pv0 PV_move rfl ?_; all_goals (first | refine TR_pv0 (PV_nil rfl) rfl ?_ | refine TR_pv0 (PV_nilF rfl) rfl ?_ | refine TR_pv0 (PV_nilY rfl) rfl ?_); all_goals refine TR_pv0 (PV_fieldAddr rfl) rfl ?_; all_goals (first | refine TR_load0 (v := .bool false) rfl 1 rfl (by simp only [getp]; rfl) rfl ?_ | refine TR_load0 rfl 0 rfl rfl rfl ?_ | refine TR_load0 rfl 1 rfl rfl rfl ?_ | refine TR_load0 rfl 2 rfl rfl rfl ?_ | refine TR_load0 rfl 3 rfl rfl rfl ?_); all_goals refine TR_pv0 PV_move rfl ?_; all_goals (first | refine TR_pv0 PV_move rfl ?_ | refine TR_skip0 rfl ?_ | (refine TR_gsplit rfl rfl rfl (fun hq => ?_) (fun hq => ?_) <;> (try simp only [qs] at hq) <;> (try simp only [reduceCtorEq] at hq) <;> (try (exfalso; omega)) <;> (try contradiction) <;> (first | refine TR_pv0 PV_move rfl ?_ | refine TR_skip0 rfl ?_))); all_goals (first | refine TR_pv0 PV_move rfl ?_ | refine TR_skip0 rfl ?_ | (refine TR_gsplit rfl rfl rfl (fun hq => ?_) (fun hq => ?_) <;> (try simp only [qs] at hq) <;> (try simp only [reduceCtorEq] at hq) <;> (try (exfalso; omega)) <;> (try contradiction) <;> (first | refine TR_pv0 PV_move rfl ?_ | refine TR_skip0 rfl ?_))); all_goals (first | refine TR_peq0 rfl rfl (.head _) (.head _) hm (.tail _ (.tail _ (.head _))) rfl ?_ | refine TR_pv0 (PV_peq_nil rfl rfl) rfl ?_ | refine TR_pv0 (PV_peq rfl rfl) rfl ?_ | refine TR_skip0 rfl ?_ | (refine TR_gsplit rfl rfl rfl (fun hq => ?_) (fun hq => ?_) <;> (try simp only [qs] at hq) <;> (try simp only [reduceCtorEq] at hq) <;> (try (exfalso; omega)) <;> (try contradiction) <;> (first | refine TR_peq0 rfl rfl (.head _) (.head _) hm (.tail _ (.tail _ (.head _))) rfl ?_ | refine TR_pv0 (PV_peq_nil rfl rfl) rfl ?_ | refine TR_pv0 (PV_peq rfl rfl) rfl ?_ | refine TR_skip0 rfl ?_))); all_goals (first | refine TR_pv0 (PV_pick_t rfl) rfl ?_ | refine TR_pv0 (PV_pick_f rfl) rfl ?_); all_goals (first | refine TR_pv0 (PV_nil rfl) rfl ?_ | refine TR_pv0 (PV_nilF rfl) rfl ?_ | refine TR_pv0 (PV_nilY rfl) rfl ?_); all_goals refine TR_pv0 (PV_fieldAddr rfl) rfl ?_; all_goals (first | refine TR_store0_1 rfl rfl rfl rfl (by rw [Nat.blt_eq]; simp only [List.length_set, List.length_append, List.length_cons]; omega) rfl ?_ | refine TR_store0_0 rfl rfl rfl rfl rfl rfl ?_ | refine TR_store0_1 rfl rfl rfl rfl rfl rfl ?_ | refine TR_store0_2 rfl rfl rfl rfl rfl rfl ?_ | refine TR_store0_3 rfl rfl rfl rfl rfl rfl ?_); all_goals refine TR_nil ?_)
          | refine TC_cond_t rfl rfl ?_
          | refine TC_cond_f rfl rfl ?_
          | refine TC_skip ?_
          | refine TC_ret ?_
          | refine TC_exit ?_
          | refine TC_block ?_
          | refine TQ_then_ret ?_
          | refine TQ_then_exit ?_
          | refine TQ_blk ?_
          | refine TQ_blk_ret ?_
          | refine TQ_blk_here ?_
          | refine TQ_blk_past rfl ?_
          | refine TC_label ?_
          | (refine TC_cond rfl rfl (fun hq => ?_) (fun hq => ?_) <;> (try simp only [qs] at hq) <;> (try simp only [reduceCtorEq] at hq) <;> (try (exfalso; omega)) <;> (try contradiction))
          refine TQ_le (L' := RL.bk ⟨ackR ⟨d, path, id, miss, at_, acked, lost, true, false⟩, p, w⟩ :: tblk tb (pre ++ ([i64 ac, .bool (decide (p = q)), .bool fa, i64 at_, .bool true] ++ post)) :: S :: R) (Le.of_eq (by (try simp only [setp]); rfl)) ?_
          exact TQ_end0e (C' := [RL.bk ⟨ackR ⟨d, path, id, miss, at_, acked, lost, true, false⟩, p, w⟩, tblk tb (pre ++ ([i64 ac, .bool (decide (p = q)), .bool fa, i64 at_, .bool true] ++ post)), S]) rfl ⟨rfl, by rw [show decide (p = q) = (false || decide (some q = some p)) by simp [eq_comm]]; rfl⟩ (Le.refl _)
    · repeat' first
      | refine TC_seq ?_
      | refine TQ_then ?_
      | refine TR_nil ?_
      | refine TQ_noPanic ?_
      | (refine TC_plain (id := 5) (by kernel_rfl) ?_; all_goals refine TR_pv0 PV_move rfl ?_; all_goals refine TR_pv0 PV_move rfl ?_; all_goals (first | refine TR_pv0 (PV_nil rfl) rfl ?_ | refine TR_pv0 (PV_nilF rfl) rfl ?_ | refine TR_pv0 (PV_nilY rfl) rfl ?_); all_goals refine TR_pv0 (PV_fieldAddr rfl) rfl ?_; all_goals (first | refine TR_load0 (v := .bool true) rfl 1 rfl (by simp only [getp]; rfl) rfl ?_ | refine TR_load0 rfl 0 rfl rfl rfl ?_ | refine TR_load0 rfl 1 rfl rfl rfl ?_ | refine TR_load0 rfl 2 rfl rfl rfl ?_ | refine TR_load0 rfl 3 rfl rfl rfl ?_); all_goals refine TR_pv0 PV_move rfl ?_; all_goals (first | refine TR_pv0 PV_move rfl ?_ | refine TR_skip0 rfl ?_ | (refine TR_gsplit rfl rfl rfl (fun hq => ?_) (fun hq => ?_) <;> (try simp only [qs] at hq) <;> (try simp only [reduceCtorEq] at hq) <;> (try (exfalso; omega)) <;> (try contradiction) <;> (first | refine TR_pv0 PV_move rfl ?_ | refine TR_skip0 rfl ?_))); all_goals (first | refine TR_pv0 PV_move rfl ?_ | refine TR_skip0 rfl ?_ | (refine TR_gsplit rfl rfl rfl (fun hq => ?_) (fun hq => ?_) <;> (try simp only [qs] at hq) <;> (try simp only [reduceCtorEq] at hq) <;> (try (exfalso; omega)) <;> (try contradiction) <;> (first | refine TR_pv0 PV_move rfl ?_ | refine TR_skip0 rfl ?_))); all_goals (first | refine TR_pv0 (PV_peq_nil rfl rfl) rfl ?_ | refine TR_pv0 (PV_peq rfl rfl) rfl ?_ | refine TR_skip0 rfl ?_ | (refine TR_gsplit rfl rfl rfl (fun hq => ?_) (fun hq => ?_) <;> (try simp only [qs] at hq) <;> (try simp only [reduceCtorEq] at hq) <;> (try (exfalso; omega)) <;> (try contradiction) <;> (first | refine TR_pv0 (PV_peq_nil rfl rfl) rfl ?_ | refine TR_pv0 (PV_peq rfl rfl) rfl ?_ | refine TR_skip0 rfl ?_))); all_goals (first | refine TR_pv0 (PV_pick_t rfl) rfl ?_ | refine TR_pv0 (PV_pick_f rfl) rfl ?_); all_goals (first | refine TR_pv0 (PV_nil rfl) rfl ?_ | refine TR_pv0 (PV_nilF rfl) rfl ?_ | refine TR_pv0 (PV_nilY rfl) rfl ?_); all_goals refine TR_pv0 (PV_fieldAddr rfl) rfl ?_; all_goals (first | refine TR_store0_1 rfl rfl rfl rfl (by rw [Nat.blt_eq]; simp only [List.length_set, List.length_append, List.length_cons]; omega) rfl ?_ | refine TR_store0_0 rfl rfl rfl rfl rfl rfl ?_ | refine TR_store0_1 rfl rfl rfl rfl rfl rfl ?_ | refine TR_store0_2 rfl rfl rfl rfl rfl rfl ?_ | refine TR_store0_3 rfl rfl rfl rfl rfl rfl ?_); all_goals refine TR_nil ?_)
      | refine TC_cond_t rfl rfl ?_
      | refine TC_cond_f rfl rfl ?_
      | refine TC_skip ?_
      | refine TC_ret ?_
      | refine TC_exit ?_
      | refine TC_block ?_
      | refine TQ_then_ret ?_
      | refine TQ_then_exit ?_
      | refine TQ_blk ?_
      | refine TQ_blk_ret ?_
      | refine TQ_blk_here ?_
      | refine TQ_blk_past rfl ?_
      | refine TC_label ?_
      | (refine TC_cond rfl rfl (fun hq => ?_) (fun hq => ?_) <;> (try simp only [qs] at hq) <;> (try simp only [reduceCtorEq] at hq) <;> (try (exfalso; omega)) <;> (try contradiction))
      refine TQ_le (L' := RL.bk ⟨ackR ⟨d, path, id, miss, at_, acked, lost, true, false⟩, p, w⟩ :: tblk tb (pre ++ ([i64 ac, .bool true, .bool fa, i64 at_, .bool true] ++ post)) :: S :: R) (Le.of_eq (by (try simp only [setp]); rfl)) ?_
      exact TQ_end0e (C' := [RL.bk ⟨ackR ⟨d, path, id, miss, at_, acked, lost, true, false⟩, p, w⟩, tblk tb (pre ++ ([i64 ac, .bool true, .bool fa, i64 at_, .bool true] ++ post)), S]) rfl ⟨rfl, rfl⟩ (Le.refl _)
  · refine TC_le (L' := RL.bk ⟨ackR ⟨d, path, id, miss, at_, acked, lost, true, true⟩, p, w⟩ :: tblk tb (pre ++ ([i64 ac, .bool ps, .bool fa, i64 at2, .bool so] ++ post)) :: S :: R) (Le.of_eq (by (try simp only [setp]); rfl)) ?_
    cases ps
    · cases low with
      | none =>
        repeat' first
          | refine TC_seq ?_
          | refine TQ_then ?_
          | refine TR_nil ?_
          | refine TQ_noPanic ?_
          | (refine TC_plain (id := 5) (by kernel_rfl) ?_; all_goals refine TR_pv0 PV_move rfl ?_; all_goals refine TR_pv0 PV_move rfl ?_; all_goals (first | refine TR_pv0 (PV_nil rfl) rfl ?_ | refine TR_pv0 (PV_nilF rfl) rfl ?_ | refine TR_pv0 (PV_nilY rfl) rfl ?_); all_goals refine TR_pv0 (PV_fieldAddr rfl) rfl ?_; all_goals (first | refine TR_load0 (v := .bool false) rfl 1 rfl (by simp only [getp]; rfl) rfl ?_ | refine TR_load0 rfl 0 rfl rfl rfl ?_ | refine TR_load0 rfl 1 rfl rfl rfl ?_ | refine TR_load0 rfl 2 rfl rfl rfl ?_ | refine TR_load0 rfl 3 rfl rfl rfl ?_); all_goals refine TR_pv0 PV_move rfl ?_; all_goals (first | refine TR_pv0 PV_move rfl ?_ | refine TR_skip0 rfl ?_ | (refine TR_gsplit rfl rfl rfl (fun hq => ?_) (fun hq => ?_) <;> (try simp only [qs] at hq) <;> (try simp only [reduceCtorEq] at hq) <;> (try (exfalso; omega)) <;> (try contradiction) <;> (first | refine TR_pv0 PV_move rfl ?_ | refine TR_skip0 rfl ?_))); all_goals (first | refine TR_pv0 PV_move rfl ?_ | refine TR_skip0 rfl ?_ | (refine TR_gsplit rfl rfl rfl (fun hq => ?_) (fun hq => ?_) <;> (try simp only [qs] at hq) <;> (try simp only [reduceCtorEq] at hq) <;> (try (exfalso; omega)) <;> (try contradiction) <;> (first | refine TR_pv0 PV_move rfl ?_ | refine TR_skip0 rfl ?_))); all_goals (first | refine TR_pv0 (PV_peq_nil rfl rfl) rfl ?_ | refine TR_pv0 (PV_peq rfl rfl) rfl ?_ | refine TR_skip0 rfl ?_ | (refine TR_gsplit rfl rfl rfl (fun hq => ?_) (fun hq => ?_) <;> (try simp only [qs] at hq) <;> (try simp only [reduceCtorEq] at hq) <;> (try (exfalso; omega)) <;> (try contradiction) <;> (first | refine TR_pv0 (PV_peq_nil rfl rfl) rfl ?_ | refine TR_pv0 (PV_peq rfl rfl) rfl ?_ | refine TR_skip0 rfl ?_))); all_goals (first | refine TR_pv0 (PV_pick_t rfl) rfl ?_ | refine TR_pv0 (PV_pick_f rfl) rfl ?_); all_goals (first | refine TR_pv0 (PV_nil rfl) rfl ?_ | refine TR_pv0 (PV_nilF rfl) rfl ?_ | refine TR_pv0 (PV_nilY rfl) rfl ?_); all_goals refine TR_pv0 (PV_fieldAddr rfl) rfl ?_; all_goals (first | refine TR_store0_1 rfl rfl rfl rfl (by rw [Nat.blt_eq]; simp only [List.length_set, List.length_append, List.length_cons]; omega) rfl ?_ | refine TR_store0_0 rfl rfl rfl rfl rfl rfl ?_ | refine TR_store0_1 rfl rfl rfl rfl rfl rfl ?_ | refine TR_store0_2 rfl rfl rfl rfl rfl rfl ?_ | refine TR_store0_3 rfl rfl rfl rfl rfl rfl ?_); all_goals refine TR_nil ?_)
          | refine TC_cond_t rfl rfl ?_
          | refine TC_cond_f rfl rfl ?_
          | refine TC_skip ?_
          | refine TC_ret ?_
          | refine TC_exit ?_
          | refine TC_block ?_
          | refine TQ_then_ret ?_
          | refine TQ_then_exit ?_
          | refine TQ_blk ?_
          | refine TQ_blk_ret ?_
          | refine TQ_blk_here ?_
          | refine TQ_blk_past rfl ?_
          | refine TC_label ?_
          | (refine TC_cond rfl rfl (fun hq => ?_) (fun hq => ?_) <;> (try simp only [qs] at hq) <;> (try simp only [reduceCtorEq] at hq) <;> (try (exfalso; omega)) <;> (try contradiction))
        refine TQ_le (L' := RL.bk ⟨ackR ⟨d, path, id, miss, at_, acked, lost, true, true⟩, p, w⟩ :: tblk tb (pre ++ ([i64 ac, .bool false, .bool fa, i64 at2, .bool so] ++ post)) :: S :: R) (Le.of_eq (by (try simp only [setp]); rfl)) ?_
        exact TQ_end0e (C' := [RL.bk ⟨ackR ⟨d, path, id, miss, at_, acked, lost, true, true⟩, p, w⟩, tblk tb (pre ++ ([i64 ac, .bool false, .bool fa, i64 at2, .bool so] ++ post)), S]) rfl ⟨rfl, rfl⟩ (Le.refl _)
      | some q =>
        rcases hlow q rfl with rfl | ⟨cs, T, hm⟩
        · repeat' first
          | refine TC_seq ?_
          | refine TQ_then ?_
          | refine TR_nil ?_
          | refine TQ_noPanic ?_
          | (refine TC_plain (id := 5) (by kernel_rfl) ?_; all_goals refine TR_pv0 PV_move rfl ?_; all_goals refine TR_pv0 PV_move rfl ?_; all_goals (first | refine TR_pv0 (PV_nil rfl) rfl ?_ | refine TR_pv0 (PV_nilF rfl) rfl ?_ | refine TR_pv0 (PV_nilY rfl) rfl ?_); all_goals refine TR_pv0 (PV_fieldAddr rfl) rfl ?_; all_goals (first | refine TR_load0 (v := .bool false) rfl 1 rfl (by simp only [getp]; rfl) rfl ?_ | refine TR_load0 rfl 0 rfl rfl rfl ?_ | refine TR_load0 rfl 1 rfl rfl rfl ?_ | refine TR_load0 rfl 2 rfl rfl rfl ?_ | refine TR_load0 rfl 3 rfl rfl rfl ?_); all_goals refine TR_pv0 PV_move rfl ?_; all_goals (first | refine TR_pv0 PV_move rfl ?_ | refine TR_skip0 rfl ?_ | (refine TR_gsplit rfl rfl rfl (fun hq => ?_) (fun hq => ?_) <;> (try simp only [qs] at hq) <;> (try simp only [reduceCtorEq] at hq) <;> (try (exfalso; omega)) <;> (try contradiction) <;> (first | refine TR_pv0 PV_move rfl ?_ | refine TR_skip0 rfl ?_))); all_goals (first | refine TR_pv0 PV_move rfl ?_ | refine TR_skip0 rfl ?_ | (refine TR_gsplit rfl rfl rfl (fun hq => ?_) (fun hq => ?_) <;> (try simp only [qs] at hq) <;> (try simp only [reduceCtorEq] at hq) <;> (try (exfalso; omega)) <;> (try contradiction) <;> (first | refine TR_pv0 PV_move rfl ?_ | refine TR_skip0 rfl ?_))); all_goals (first | refine TR_peq0 rfl rfl (.head _) (.head _) (.head _) (.head _) rfl ?_ | refine TR_pv0 (PV_peq_nil rfl rfl) rfl ?_ | refine TR_pv0 (PV_peq rfl rfl) rfl ?_ | refine TR_skip0 rfl ?_ | (refine TR_gsplit rfl rfl rfl (fun hq => ?_) (fun hq => ?_) <;> (try simp only [qs] at hq) <;> (try simp only [reduceCtorEq] at hq) <;> (try (exfalso; omega)) <;> (try contradiction) <;> (first | refine TR_peq0 rfl rfl (.head _) (.head _) (.head _) (.head _) rfl ?_ | refine TR_pv0 (PV_peq_nil rfl rfl) rfl ?_ | refine TR_pv0 (PV_peq rfl rfl) rfl ?_ | refine TR_skip0 rfl ?_))); all_goals (first | refine TR_pv0 (PV_pick_t rfl) rfl ?_ | refine TR_pv0 (PV_pick_f rfl) rfl ?_); all_goals (first | refine TR_pv0 (PV_nil rfl) rfl ?_ | refine TR_pv0 (PV_nilF rfl) rfl ?_ | refine TR_pv0 (PV_nilY rfl) rfl ?_); all_goals refine TR_pv0 (PV_fieldAddr rfl) rfl ?_; all_goals (first | refine TR_store0_1 rfl rfl rfl rfl (by rw [Nat.blt_eq]; simp only [List.length_set, List.length_append, List.length_cons]; omega) rfl ?_ | refine TR_store0_0 rfl rfl rfl rfl rfl rfl ?_ | refine TR_store0_1 rfl rfl rfl rfl rfl rfl ?_ | refine TR_store0_2 rfl rfl rfl rfl rfl rfl ?_ | refine TR_store0_3 rfl rfl rfl rfl rfl rfl ?_); all_goals refine TR_nil ?_)
          | refine TC_cond_t rfl rfl ?_
          | refine TC_cond_f rfl rfl ?_
          | refine TC_skip ?_
          | refine TC_ret ?_
          | refine TC_exit ?_
          | refine TC_block ?_
          | refine TQ_then_ret ?_
          | refine TQ_then_exit ?_
          | refine TQ_blk ?_
          | refine TQ_blk_ret ?_
          | refine TQ_blk_here ?_
          | refine TQ_blk_past rfl ?_
          | refine TC_label ?_
          | (refine TC_cond rfl rfl (fun hq => ?_) (fun hq => ?_) <;> (try simp only [qs] at hq) <;> (try simp only [reduceCtorEq] at hq) <;> (try (exfalso; omega)) <;> (try contradiction))
          refine TQ_le (L' := RL.bk ⟨ackR ⟨d, path, id, miss, at_, acked, lost, true, true⟩, q, w⟩ :: tblk tb (pre ++ ([i64 ac, .bool (decide (q = q)), .bool fa, i64 at2, .bool so] ++ post)) :: S :: R) (Le.of_eq (by (try simp only [setp]); rfl)) ?_
          exact TQ_end0e (C' := [RL.bk ⟨ackR ⟨d, path, id, miss, at_, acked, lost, true, true⟩, q, w⟩, tblk tb (pre ++ ([i64 ac, .bool (decide (q = q)), .bool fa, i64 at2, .bool so] ++ post)), S]) rfl ⟨rfl, by rw [show decide (q = q) = (false || decide (some q = some q)) by simp]; rfl⟩ (Le.refl _)
        · repeat' first
          | refine TC_seq ?_
          | refine TQ_then ?_
          | refine TR_nil ?_
          | refine TQ_noPanic ?_
          | (refine TC_plain (id := 5) (by kernel_rfl) ?_; all_goals refine TR_pv0 PV_move rfl ?_; all_goals refine TR_pv0 PV_move rfl ?_; all_goals (first | refine TR_pv0 (PV_nil rfl) rfl ?_ | refine TR_pv0 (PV_nilF rfl) rfl ?_ | refine TR_pv0 (PV_nilY rfl) rfl ?_); all_goals refine TR_pv0 (PV_fieldAddr rfl) rfl ?_; all_goals (first | refine TR_load0 (v := .bool false) rfl 1 rfl (by simp only [getp]; rfl) rfl ?_ | refine TR_load0 rfl 0 rfl rfl rfl ?_ | refine TR_load0 rfl 1 rfl rfl rfl ?_ | refine TR_load0 rfl 2 rfl rfl rfl ?_ | refine TR_load0 rfl 3 rfl rfl rfl ?_); all_goals refine TR_pv0 PV_move rfl ?_; all_goals (first | refine TR_pv0 PV_move rfl ?_ | refine TR_skip0 rfl ?_ | (refine TR_gsplit rfl rfl rfl (fun hq => ?_) (fun hq => ?_) <;> (try simp only [qs] at hq) <;> (try simp only [reduceCtorEq] at hq) <;> (try (exfalso; omega)) <;> (try contradiction) <;> (first | refine TR_pv0 PV_move rfl ?_ | refine TR_skip0 rfl ?_))); all_goals (first | refine TR_pv0 PV_move rfl ?_ | refine TR_skip0 rfl ?_ | (refine TR_gsplit rfl rfl rfl (fun hq => ?_) (fun hq => ?_) <;> (try simp only [qs] at hq) <;> (try simp only [reduceCtorEq] at hq) <;> (try (exfalso; omega)) <;> (try contradiction) <;> (first | refine TR_pv0 PV_move rfl ?_ | refine TR_skip0 rfl ?_))); all_goals (first | refine TR_peq0 rfl rfl (.head _) (.head _) hm (.tail _ (.tail _ (.head _))) rfl ?_ | refine TR_pv0 (PV_peq_nil rfl rfl) rfl ?_ | refine TR_pv0 (PV_peq rfl rfl) rfl ?_ | refine TR_skip0 rfl ?_ | (refine TR_gsplit rfl rfl rfl (fun hq => ?_) (fun hq => ?_) <;> (try simp only [qs] at hq) <;> (try simp only [reduceCtorEq] at hq) <;> (try (exfalso; omega)) <;> (try contradiction) <;> (first | refine TR_peq0 rfl rfl (.head _) (.head _) hm (.tail _ (.tail _ (.head _))) rfl ?_ | refine TR_pv0 (PV_peq_nil rfl rfl) rfl ?_ | refine TR_pv0 (PV_peq rfl rfl) rfl ?_ | refine TR_skip0 rfl ?_))); all_goals (first | refine TR_pv0 (PV_pick_t rfl) rfl ?_ | refine TR_pv0 (PV_pick_f rfl) rfl ?_); all_goals (first | refine TR_pv0 (PV_nil rfl) rfl ?_ | refine TR_pv0 (PV_nilF rfl) rfl ?_ | refine TR_pv0 (PV_nilY rfl) rfl ?_); all_goals refine TR_pv0 (PV_fieldAddr rfl) rfl ?_; all_goals (first | refine TR_store0_1 rfl rfl rfl rfl (by rw [Nat.blt_eq]; simp only [List.length_set, List.length_append, List.length_cons]; omega) rfl ?_ | refine TR_store0_0 rfl rfl rfl rfl rfl rfl ?_ | refine TR_store0_1 rfl rfl rfl rfl rfl rfl ?_ | refine TR_store0_2 rfl rfl rfl rfl rfl rfl ?_ | refine TR_store0_3 rfl rfl rfl rfl rfl rfl ?_); all_goals refine TR_nil ?_)
          | refine TC_cond_t rfl rfl ?_
          | refine TC_cond_f rfl rfl ?_
          | refine TC_skip ?_
          | refine TC_ret ?_
          | refine TC_exit ?_
          | refine TC_block ?_
          | refine TQ_then_ret ?_
          | refine TQ_then_exit ?_
          | refine TQ_blk ?_
          | refine TQ_blk_ret ?_
          | refine TQ_blk_here ?_
          | refine TQ_blk_past rfl ?_
          | refine TC_label ?_
          | (refine TC_cond rfl rfl (fun hq => ?_) (fun hq => ?_) <;> (try simp only [qs] at hq) <;> (try simp only [reduceCtorEq] at hq) <;> (try (exfalso; omega)) <;> (try contradiction))
          refine TQ_le (L' := RL.bk ⟨ackR ⟨d, path, id, miss, at_, acked, lost, true, true⟩, p, w⟩ :: tblk tb (pre ++ ([i64 ac, .bool (decide (p = q)), .bool fa, i64 at2, .bool so] ++ post)) :: S :: R) (Le.of_eq (by (try simp only [setp]); rfl)) ?_
          exact TQ_end0e (C' := [RL.bk ⟨ackR ⟨d, path, id, miss, at_, acked, lost, true, true⟩, p, w⟩, tblk tb (pre ++ ([i64 ac, .bool (decide (p = q)), .bool fa, i64 at2, .bool so] ++ post)), S]) rfl ⟨rfl, by rw [show decide (p = q) = (false || decide (some q = some p)) by simp [eq_comm]]; rfl⟩ (Le.refl _)
    · repeat' first
      | refine TC_seq ?_
      | refine TQ_then ?_
      | refine TR_nil ?_
      | refine TQ_noPanic ?_
      | (refine TC_plain (id := 5) (by kernel_rfl) ?_; all_goals refine TR_pv0 PV_move rfl ?_; all_goals refine TR_pv0 PV_move rfl ?_; all_goals (first | refine TR_pv0 (PV_nil rfl) rfl ?_ | refine TR_pv0 (PV_nilF rfl) rfl ?_ | refine TR_pv0 (PV_nilY rfl) rfl ?_); all_goals refine TR_pv0 (PV_fieldAddr rfl) rfl ?_; all_goals (first | refine TR_load0 (v := .bool true) rfl 1 rfl (by simp only [getp]; rfl) rfl ?_ | refine TR_load0 rfl 0 rfl rfl rfl ?_ | refine TR_load0 rfl 1 rfl rfl rfl ?_ | refine TR_load0 rfl 2 rfl rfl rfl ?_ | refine TR_load0 rfl 3 rfl rfl rfl ?_); all_goals refine TR_pv0 PV_move rfl ?_; all_goals (first | refine TR_pv0 PV_move rfl ?_ | refine TR_skip0 rfl ?_ | (refine TR_gsplit rfl rfl rfl (fun hq => ?_) (fun hq => ?_) <;> (try simp only [qs] at hq) <;> (try simp only [reduceCtorEq] at hq) <;> (try (exfalso; omega)) <;> (try contradiction) <;> (first | refine TR_pv0 PV_move rfl ?_ | refine TR_skip0 rfl ?_))); all_goals (first | refine TR_pv0 PV_move rfl ?_ | refine TR_skip0 rfl ?_ | (refine TR_gsplit rfl rfl rfl (fun hq => ?_) (fun hq => ?_) <;> (try simp only [qs] at hq) <;> (try simp only [reduceCtorEq] at hq) <;> (try (exfalso; omega)) <;> (try contradiction) <;> (first | refine TR_pv0 PV_move rfl ?_ | refine TR_skip0 rfl ?_))); all_goals (first | refine TR_pv0 (PV_peq_nil rfl rfl) rfl ?_ | refine TR_pv0 (PV_peq rfl rfl) rfl ?_ | refine TR_skip0 rfl ?_ | (refine TR_gsplit rfl rfl rfl (fun hq => ?_) (fun hq => ?_) <;> (try simp only [qs] at hq) <;> (try simp only [reduceCtorEq] at hq) <;> (try (exfalso; omega)) <;> (try contradiction) <;> (first | refine TR_pv0 (PV_peq_nil rfl rfl) rfl ?_ | refine TR_pv0 (PV_peq rfl rfl) rfl ?_ | refine TR_skip0 rfl ?_))); all_goals (first | refine TR_pv0 (PV_pick_t rfl) rfl ?_ | refine TR_pv0 (PV_pick_f rfl) rfl ?_); all_goals (first | refine TR_pv0 (PV_nil rfl) rfl ?_ | refine TR_pv0 (PV_nilF rfl) rfl ?_ | refine TR_pv0 (PV_nilY rfl) rfl ?_); all_goals refine TR_pv0 (PV_fieldAddr rfl) rfl ?_; all_goals (first | refine TR_store0_1 rfl rfl rfl rfl (by rw [Nat.blt_eq]; simp only [List.length_set, List.length_append, List.length_cons]; omega) rfl ?_ | refine TR_store0_0 rfl rfl rfl rfl rfl rfl ?_ | refine TR_store0_1 rfl rfl rfl rfl rfl rfl ?_ | refine TR_store0_2 rfl rfl rfl rfl rfl rfl ?_ | refine TR_store0_3 rfl rfl rfl rfl rfl rfl ?_); all_goals refine TR_nil ?_)
      | refine TC_cond_t rfl rfl ?_
      | refine TC_cond_f rfl rfl ?_
      | refine TC_skip ?_
      | refine TC_ret ?_
      | refine TC_exit ?_
      | refine TC_block ?_
      | refine TQ_then_ret ?_
      | refine TQ_then_exit ?_
      | refine TQ_blk ?_
      | refine TQ_blk_ret ?_
      | refine TQ_blk_here ?_
      | refine TQ_blk_past rfl ?_
      | refine TC_label ?_
      | (refine TC_cond rfl rfl (fun hq => ?_) (fun hq => ?_) <;> (try simp only [qs] at hq) <;> (try simp only [reduceCtorEq] at hq) <;> (try (exfalso; omega)) <;> (try contradiction))
      refine TQ_le (L' := RL.bk ⟨ackR ⟨d, path, id, miss, at_, acked, lost, true, true⟩, p, w⟩ :: tblk tb (pre ++ ([i64 ac, .bool true, .bool fa, i64 at2, .bool so] ++ post)) :: S :: R) (Le.of_eq (by (try simp only [setp]); rfl)) ?_
      exact TQ_end0e (C' := [RL.bk ⟨ackR ⟨d, path, id, miss, at_, acked, lost, true, true⟩, p, w⟩, tblk tb (pre ++ ([i64 ac, .bool true, .bool fa, i64 at2, .bool so] ++ post)), S]) rfl ⟨rfl, rfl⟩ (Le.refl _)
end Go.Proofs.Ytonfkkdahlboiaa
