/- The flight of the reference: Add, Again, Get. -/
import Derived.Test.YtonfkkdahlboiaaRfB
import Derived.Test.YtonfkkdahlboiaaFDoesC
namespace Go.Proofs.Ytonfkkdahlboiaa
open Go.RowKit
set_option maxHeartbeats 4000000
set_option maxRecDepth 10000

theorem QAt.blt {off cap : Nat} {cells : List Value} {l : List QL} (h : QAt off cap cells l) {k : Nat} (hk : k < l.length) {j : Nat} (hj : j < 15) : Nat.blt (off + k * 15 + j) cells.length = true := by
  have := h.lt hk hj
  exact Nat.ble_eq_true_of_le this

theorem qadd_ct (b : Nat) (X : QF) (h : QfOk X) (hf : FrOk X.abs) (d : Pc) (a : Option Addr) (cap : Nat) (path now id : Int) (S : Seg) (hs : ∀ w, sat w [S] → SrcAt w a (u8s d.bytes)) (hd : d.bytes.length ≤ 1048576) :
    Ct Try.prog 51 [ptr b, .agg (d.cells (.slice a d.bytes.length cap)).toArray, i64 path, i64 now, i64 id] [X.seg b, S]
      (fun v D => v = .tuple #[u32 (X.abs.addT d path), i64 (X.abs.addE d path)] ∧ ∃ X', D = [X'.seg b, S] ∧ QfOk X' ∧ X'.abs = X.abs.add d path now id) := by
  have hlen := QfOk.len hf
  have hc0 := hf.c0
  have hc1 := hf.c1
  change 0 ≤ X.cum at hc0
  change X.cum ≤ 4294967295 at hc1
  have hE : X.abs.addE d path = if path < 0 ∨ X.paths ≤ path ∨ d.bytes.length = 0 then 1 else if 2048 ≤ X.l.length then 6 else 0 := by simp only [Flt.addE, QF.abs, qrecs_length]
  by_cases hp : path < 0 ∨ X.paths ≤ path ∨ d.bytes.length = 0
  · rw [if_pos hp] at hE
    have e1 : X.abs.addT d path = 0 := by rw [Flt.addT, hE, if_neg (by omega)]
    have e2 : X.abs.add d path now id = X.abs := by rw [Flt.add, hE, if_neg (by omega)]
    rw [hE, e1, e2]
    refine Ct_intro Try.func51 rfl (by simp only [Try.ntmps51, List.length_cons, List.length_nil]; omega) ?_
    intro w₀ R
    refine TC_le (L' := X.bk b :: (X.w.C ++ qsegs X.l) :: S :: R) (fun a => by simp only [les, QF.seg]; omega) ?_
    repeat' first
      | refine TC_seq ?_
      | refine TQ_then ?_
      | (refine TC_plain (id := 0) (by kernel_rfl) ?_; (refine TR_box0 rfl rfl rfl ?_; intro _); refine TR_pv0 PV_assign rfl ?_; refine TR_pv0 PV_assign rfl ?_; refine TR_nil ?_)
      | (refine TC_plain (id := 1) (by kernel_rfl) ?_; refine TR_pv0 PV_move rfl ?_; refine TR_pv0 (PV_peq_nil rfl rfl) rfl ?_; refine TR_nil ?_)
      | (refine TC_plain (id := 3) (by kernel_rfl) ?_; all_goals refine TR_pv0 PV_move rfl ?_; all_goals refine TR_pv0 (PV_lss rfl rfl) rfl ?_; all_goals refine TR_pv0 PV_move rfl ?_; all_goals (refine TR_gsplit rfl rfl rfl (fun hq => ?_) (fun hq => ?_) <;> (try simp only [qs] at hq) <;> (try simp only [reduceCtorEq] at hq) <;> (try (exfalso; omega)) <;> (try contradiction) <;> (first | refine TR_pv0 PV_move rfl ?_ | refine TR_skip0 rfl ?_)); all_goals (first | refine TR_pv0 PV_move rfl ?_ | refine TR_skip0 rfl ?_); all_goals (first | refine TR_pv0 (PV_nil rfl) rfl ?_ | refine TR_skip0 rfl ?_); all_goals (first | refine TR_pv0 (PV_fieldAddr rfl) rfl ?_ | refine TR_skip0 rfl ?_); all_goals (first | refine TR_load0 rfl 1 rfl rfl rfl ?_ | refine TR_skip0 rfl ?_); all_goals (first | refine TR_pv0 (PV_geq rfl rfl) rfl ?_ | refine TR_skip0 rfl ?_); all_goals (first | refine TR_pv0 (PV_pick_t rfl) rfl ?_ | refine TR_pv0 (PV_pick_f rfl) rfl ?_); all_goals refine TR_pv0 PV_move rfl ?_; all_goals (first | refine TR_skip0 rfl ?_ | (refine TR_gsplit rfl rfl rfl (fun hq => ?_) (fun hq => ?_) <;> (try simp only [qs] at hq) <;> (try simp only [reduceCtorEq] at hq) <;> (try (exfalso; omega)) <;> (try contradiction) <;> (first | refine TR_pv0 (PV_fieldAddr rfl) rfl ?_ | refine TR_skip0 rfl ?_))); all_goals (first | refine TR_load0 rfl 0 rfl rfl rfl ?_ | refine TR_skip0 rfl ?_); all_goals (first | refine TR_pv0 (PV_len rfl) rfl ?_ | refine TR_skip0 rfl ?_); all_goals (first | refine TR_pv0 (PV_eql rfl rfl) rfl ?_ | refine TR_skip0 rfl ?_); all_goals (first | refine TR_pv0 (PV_pick_t rfl) rfl ?_ | refine TR_pv0 (PV_pick_f rfl) rfl ?_); all_goals refine TR_nil ?_)
      | (refine TC_plain (id := 4) (by kernel_rfl) ?_; refine TR_pv0 PV_assign rfl ?_; refine TR_pv0 PV_assign rfl ?_; refine TR_nil ?_)
      | refine TC_cond_t rfl rfl ?_
      | refine TC_cond_f rfl rfl ?_
      | refine TC_skip ?_
      | refine TC_ret ?_
      | refine TQ_then_ret ?_
      | (refine TC_cond rfl rfl (fun hq => ?_) (fun hq => ?_) <;> (try simp only [qs] at hq) <;> (try simp only [reduceCtorEq] at hq) <;> (try (exfalso; omega)) <;> (try contradiction))
    all_goals exact TQ_ret2e rfl rfl rfl rfl rfl ⟨rfl, X, rfl, h, rfl⟩ (fun a => by simp only [les, QF.seg]; omega)
  rw [if_neg hp] at hE
  by_cases hm : 2048 ≤ X.l.length
  · rw [if_pos hm] at hE
    have e1 : X.abs.addT d path = 0 := by rw [Flt.addT, hE, if_neg (by omega)]
    have e2 : X.abs.add d path now id = X.abs := by rw [Flt.add, hE, if_neg (by omega)]
    rw [hE, e1, e2]
    refine Ct_intro Try.func51 rfl (by simp only [Try.ntmps51, List.length_cons, List.length_nil]; omega) ?_
    intro w₀ R
    refine TC_le (L' := X.bk b :: (X.w.C ++ qsegs X.l) :: S :: R) (fun a => by simp only [les, QF.seg]; omega) ?_
    repeat' first
      | refine TC_seq ?_
      | refine TQ_then ?_
      | (refine TC_plain (id := 0) (by kernel_rfl) ?_; (refine TR_box0 rfl rfl rfl ?_; intro _); refine TR_pv0 PV_assign rfl ?_; refine TR_pv0 PV_assign rfl ?_; refine TR_nil ?_)
      | (refine TC_plain (id := 1) (by kernel_rfl) ?_; refine TR_pv0 PV_move rfl ?_; refine TR_pv0 (PV_peq_nil rfl rfl) rfl ?_; refine TR_nil ?_)
      | (refine TC_plain (id := 3) (by kernel_rfl) ?_; all_goals refine TR_pv0 PV_move rfl ?_; all_goals refine TR_pv0 (PV_lss rfl rfl) rfl ?_; all_goals refine TR_pv0 PV_move rfl ?_; all_goals (refine TR_gsplit rfl rfl rfl (fun hq => ?_) (fun hq => ?_) <;> (try simp only [qs] at hq) <;> (try simp only [reduceCtorEq] at hq) <;> (try (exfalso; omega)) <;> (try contradiction) <;> refine TR_pv0 PV_move rfl ?_); all_goals refine TR_pv0 PV_move rfl ?_; all_goals refine TR_pv0 (PV_nil rfl) rfl ?_; all_goals refine TR_pv0 (PV_fieldAddr rfl) rfl ?_; all_goals refine TR_load0 rfl 1 rfl rfl rfl ?_; all_goals refine TR_pv0 (PV_geq rfl rfl) rfl ?_; all_goals refine TR_pv0 (PV_pick_f rfl) rfl ?_; all_goals refine TR_pv0 PV_move rfl ?_; all_goals (refine TR_gsplit rfl rfl rfl (fun hq => ?_) (fun hq => ?_) <;> (try simp only [qs] at hq) <;> (try simp only [reduceCtorEq] at hq) <;> (try (exfalso; omega)) <;> (try contradiction) <;> refine TR_pv0 (PV_fieldAddr rfl) rfl ?_); all_goals refine TR_load0 rfl 0 rfl rfl rfl ?_; all_goals refine TR_pv0 (PV_len rfl) rfl ?_; all_goals refine TR_pv0 (PV_eql rfl rfl) rfl ?_; all_goals refine TR_pv0 (PV_pick_f rfl) rfl ?_; all_goals refine TR_nil ?_)
      | (refine TC_plain (id := 5) (by kernel_rfl) ?_; refine TR_pv0 PV_move rfl ?_; refine TR_pv0 (PV_nil rfl) rfl ?_; refine TR_pv0 (PV_fieldAddr rfl) rfl ?_; refine TR_load0 rfl 1 rfl rfl rfl ?_; refine TR_pv0 (PV_len rfl) rfl ?_; refine TR_pv0 (PV_geq rfl rfl) rfl ?_; refine TR_nil ?_)
      | (refine TC_plain (id := 6) (by kernel_rfl) ?_; refine TR_pv0 PV_assign rfl ?_; refine TR_pv0 PV_assign rfl ?_; refine TR_nil ?_)
      | refine TC_cond_f rfl rfl ?_
      | refine TC_skip ?_
      | refine TC_ret ?_
      | refine TQ_then_ret ?_
      | (refine TC_cond rfl rfl (fun hq => ?_) (fun hq => ?_) <;> (try simp only [qs] at hq) <;> (try simp only [reduceCtorEq] at hq) <;> (try (exfalso; omega)) <;> (try contradiction))
    all_goals exact TQ_ret2e rfl rfl rfl rfl rfl ⟨rfl, X, rfl, h, rfl⟩ (fun a => by simp only [les, QF.seg]; omega)
  rw [if_neg hm] at hE
  have e1 : X.abs.addT d path = X.abs.next := by rw [Flt.addT, hE, if_pos rfl]
  have e2 : X.abs.add d path now id = { X.abs with l := X.abs.l ++ [newRec d X.abs.next path now id] } := by rw [Flt.add, hE, if_pos rfl]
  have hnext : ((X.cum + 1) % 4294967296 + (X.l.length : Int) % 4294967296) % 4294967296 = X.abs.next := by
    simp only [Flt.next, QF.abs, qrecs_length]; omega
  have hrow := h.row
  rw [hE, e1, e2]
  refine Ct_intro Try.func51 rfl (by simp only [Try.ntmps51, List.length_cons, List.length_nil]; omega) ?_
  intro w₀ R
  refine TC_le (L' := X.bk b :: X.w.C :: qsegs X.l :: S :: R) (fun a => by simp only [les, QF.seg]; omega) ?_
  repeat' first
    | refine TC_seq ?_
    | refine TQ_then ?_
    | refine TQ_noPanic ?_
    | (refine TC_plain (id := 0) (by kernel_rfl) ?_; (refine TR_box0 rfl rfl rfl ?_; intro c); refine TR_pv0 PV_assign rfl ?_; refine TR_pv0 PV_assign rfl ?_; refine TR_nil ?_)
    | (refine TC_plain (id := 1) (by kernel_rfl) ?_; refine TR_pv0 PV_move rfl ?_; refine TR_pv0 (PV_peq_nil rfl rfl) rfl ?_; refine TR_nil ?_)
    | (refine TC_plain (id := 3) (by kernel_rfl) ?_; all_goals refine TR_pv0 PV_move rfl ?_; all_goals refine TR_pv0 (PV_lss rfl rfl) rfl ?_; all_goals refine TR_pv0 PV_move rfl ?_; all_goals (refine TR_gsplit rfl rfl rfl (fun hq => ?_) (fun hq => ?_) <;> (try simp only [qs] at hq) <;> (try simp only [reduceCtorEq] at hq) <;> (try (exfalso; omega)) <;> (try contradiction) <;> refine TR_pv0 PV_move rfl ?_); all_goals refine TR_pv0 PV_move rfl ?_; all_goals refine TR_pv0 (PV_nil rfl) rfl ?_; all_goals refine TR_pv0 (PV_fieldAddr rfl) rfl ?_; all_goals refine TR_load0 rfl 1 rfl rfl rfl ?_; all_goals refine TR_pv0 (PV_geq rfl rfl) rfl ?_; all_goals refine TR_pv0 (PV_pick_f rfl) rfl ?_; all_goals refine TR_pv0 PV_move rfl ?_; all_goals (refine TR_gsplit rfl rfl rfl (fun hq => ?_) (fun hq => ?_) <;> (try simp only [qs] at hq) <;> (try simp only [reduceCtorEq] at hq) <;> (try (exfalso; omega)) <;> (try contradiction) <;> refine TR_pv0 (PV_fieldAddr rfl) rfl ?_); all_goals refine TR_load0 rfl 0 rfl rfl rfl ?_; all_goals refine TR_pv0 (PV_len rfl) rfl ?_; all_goals refine TR_pv0 (PV_eql rfl rfl) rfl ?_; all_goals refine TR_pv0 (PV_pick_f rfl) rfl ?_; all_goals refine TR_nil ?_)
    | (refine TC_plain (id := 5) (by kernel_rfl) ?_; refine TR_pv0 PV_move rfl ?_; refine TR_pv0 (PV_nil rfl) rfl ?_; refine TR_pv0 (PV_fieldAddr rfl) rfl ?_; refine TR_load0 rfl 1 rfl rfl rfl ?_; refine TR_pv0 (PV_len rfl) rfl ?_; refine TR_pv0 (PV_geq rfl rfl) rfl ?_; refine TR_nil ?_)
    | (refine TC_drawn' (id := 7) [(0, 1), (1, 1), (2, 1), (3, 1), (4, 1), (5, 1), (6, 1), (7, 1), (8, 1), (9, 1), (10, 1), (11, 1), (12, 1), (13, 0)] mixed (by kernel_rfl) ?_; refine TR_pv1 PV_move rfl (fun _ h => h) ?_; refine TR_pv1 (PV_nil rfl) rfl (fun _ h => h) ?_; refine TR_pv1 (PV_fieldAddr rfl) rfl (fun _ h => h) ?_; refine TR_load1 rfl 1 rfl rfl rfl (fun _ h => h) ?_; refine TR_pv1 (PV_add32 rfl rfl) rfl (fun _ h => h) ?_; refine TR_pv1 PV_move rfl (fun _ h => h) ?_; refine TR_pv1 (PV_nil rfl) rfl (fun _ h => h) ?_; refine TR_pv1 (PV_fieldAddr rfl) rfl (fun _ h => h) ?_; refine TR_load1 rfl 1 rfl rfl rfl (fun _ h => h) ?_; refine TR_pv1 (PV_len rfl) rfl (fun _ h => h) ?_; refine TR_pv1 (PV_conv32 rfl) rfl (fun _ h => h) ?_; refine TR_pv1 (PV_add32 rfl rfl) rfl (fun _ h => h) ?_; refine TR_pv1 (PV_fieldAddr rfl) rfl (fun _ h => h) ?_; refine TR_store0_0 rfl rfl rfl rfl rfl rfl ?_; refine TR_nil ?_)
    | (refine TC_plain (id := 8) (by kernel_rfl) ?_; (refine TR_buildSlice (.inl rfl) rfl rfl rfl rfl ?_; intro q); refine TR_pv0 (PV_fieldAddr rfl) rfl ?_; refine TR_load0 rfl 1 rfl rfl rfl ?_; (refine TR_append00 (.inl rfl) (empty_ok _ _ _) rfl rfl (.cons .here .nil) (fun w h => hs w (sat_le h (fun a => by simp only [les]; omega))) (by rw [u8s_length, Nat.mul_one]) (u8s_all _) (by omega) rfl ?_; intro a1 cap1 C1 hS1); refine TR_pv0 (PV_fieldAddr rfl) rfl ?_; refine TR_store0_1 rfl rfl rfl rfl rfl rfl ?_; refine TR_nil ?_)
    | refine TC_cond_f rfl rfl ?_
    | refine TC_skip ?_
    | (refine TC_cond rfl rfl (fun hq => ?_) (fun hq => ?_) <;> (try simp only [qs] at hq) <;> (try simp only [reduceCtorEq] at hq) <;> (try (exfalso; omega)) <;> (try contradiction))
  refine TC_le (L' := C1 :: dbk c ({ d with tsn := ((X.cum + 1) % 4294967296 + (X.l.length : Int) % 4294967296) % 4294967296 }.at_ ⟨a1, cap1, C1⟩) :: X.bk b :: X.w.C :: qsegs X.l :: S :: R) (Le.refl _) ?_
  rw [hnext]
  refine TC_le (L' := X.w.C :: dbk c ({ d with tsn := X.abs.next }.at_ ⟨a1, cap1, C1⟩) :: X.bk b :: C1 :: S :: qsegs X.l :: R) (fun a => by simp only [les]; omega) ?_
  repeat' first
    | refine TC_seq ?_
    | refine TQ_then ?_
    | refine TQ_noPanic ?_
    | (refine TC_drawn (id := 9) (dbk c ({ d with tsn := X.abs.next }.at_ ⟨a1, cap1, C1⟩) :: X.bk b :: C1 :: S :: qsegs X.l :: R) [(0, 1), (1, 1), (2, 1), (3, 1), (4, 1), (5, 1), (6, 1), (7, 1), (8, 1), (9, 1), (10, 2), (11, 2), (12, 1), (13, 1), (14, 0)] mixed (by kernel_rfl) ?_; refine TR_pv1 PV_move rfl (fun _ h => h.sub (.cons _ (.refl _))) ?_; refine TR_pv1 PV_move rfl (fun _ h => h.sub (.cons _ (.refl _))) ?_; refine TR_pv1 (PV_nil rfl) rfl (fun _ h => h.sub (.cons _ (.refl _))) ?_; refine TR_pv1 (PV_fieldAddr rfl) rfl (fun _ h => h.sub (.cons _ (.refl _))) ?_; refine TR_load1 rfl 1 rfl rfl rfl (fun _ h => h.sub (.cons _ (.refl _))) ?_; refine TR_loadA1 rfl 0 rfl rfl rfl (fun _ h => h.sub (.cons _ (.refl _))) ?_; refine TR_pv1 PV_move rfl (fun _ h => h.sub (.cons _ (.refl _))) ?_; refine TR_pv1 PV_move rfl (fun _ h => h.sub (.cons _ (.refl _))) ?_; refine TR_pv1 PV_move rfl (fun _ h => h.sub (.cons _ (.refl _))) ?_; refine TR_pv1 (PV_build rfl rfl) rfl (fun _ h => h.sub (.cons _ (.refl _))) ?_; (refine TR_buildSlice (.inr ⟨rfl, (fun _ h => h.sub (.cons _ (.refl _)))⟩) rfl rfl rfl rfl ?_; intro q2); (refine TR_appendP (.inr ⟨rfl, (fun _ h => h.sub (.cons _ (.refl _)))⟩) hrow rfl rfl (.cons (.there .here) .nil) (src_at (m := 15) 0 rfl rfl) rfl rfl (by omega) rfl ?_; intro a' cap' C' hS); refine TR_pv1 (PV_nil rfl) rfl (fun _ h => h.sub (.cons _ (.cons _ (.refl _)))) ?_; refine TR_pv1 (PV_fieldAddr rfl) rfl (fun _ h => h.sub (.cons _ (.cons _ (.refl _)))) ?_; refine TR_store0_3 rfl rfl rfl rfl rfl rfl ?_; refine TR_nil ?_)
    | (refine TC_plain (id := 10) (by kernel_rfl) ?_; refine TR_pv0 (PV_fieldAddr rfl) rfl ?_; refine TR_load0 rfl 2 rfl rfl rfl ?_; refine TR_pv0 PV_assign rfl ?_; refine TR_pv0 PV_assign rfl ?_; refine TR_nil ?_)
    | refine TC_ret ?_
  refine TQ_le (L' := C' :: blk q2 111 (QL.cells ⟨newRec d X.abs.next path now id, ⟨a1, cap1, C1⟩⟩) :: dbk c ({ d with tsn := X.abs.next }.at_ ⟨a1, cap1, C1⟩) ::
    blk b 107 [(Row.mk a' cap' C').val (X.l.length + 1), u32 X.cum, i64 X.paths] :: C1 :: S :: qsegs X.l :: R) (Le.refl _) ?_
  refine TQ_ret2e (v := u32 X.abs.next) rfl rfl rfl rfl rfl ⟨rfl, ⟨X.l ++ [⟨newRec d X.abs.next path now id, ⟨a1, cap1, C1⟩⟩], ⟨a', cap', C'⟩, X.cum, X.paths⟩, rfl, ⟨?_, ?_⟩, ?_⟩ ?_
  · show Sl _ _ _ _ _ _ _
    rw [List.length_append, qcells, List.map_append, List.flatten_append]; exact hS
  · intro y hy
    rcases List.mem_append.1 hy with hy | hy
    · exact h.recs y hy
    · obtain rfl := List.mem_singleton.1 hy; exact hS1
  · simp [QF.abs, QF.recs]
  · intro a
    simp only [les, QF.seg, QF.bk, qsegs_append, qsegs_cons, List.length_append, List.length_cons, List.length_nil, Nat.zero_add]
    simp only [qsegs, List.map_nil, les]
    omega

theorem qagain_ct (b : Nat) (X : QF) (h : QfOk X) (hf : FrOk X.abs) (tsn path now : Int) : Ct Try.prog 52 [ptr b, u32 tsn, i64 path, i64 now] [X.seg b]
    (fun v D => v = i64 (X.abs.againE tsn path) ∧ ∃ X', D = [X'.seg b] ∧ QfOk X' ∧ X'.abs = X.abs.again tsn path now) := by
  have hlen := QfOk.len hf
  by_cases hp : path < 0 ∨ X.paths ≤ path
  · have e1 : X.abs.againE tsn path = 1 := if_pos hp
    have e2 : X.abs.again tsn path now = X.abs := by rw [Flt.again, e1, if_neg (by omega)]
    rw [e1, e2]
    refine Ct_intro Try.func52 rfl (by simp only [Try.ntmps52, List.length_cons, List.length_nil]; omega) ?_
    intro w₀ R
    refine TC_le (L' := X.bk b :: (X.w.C ++ qsegs X.l) :: R) (fun a => by simp only [les, QF.seg]; omega) ?_
    repeat' first
      | refine TC_seq ?_
      | refine TQ_then ?_
      | (refine TC_plain (id := 0) (by kernel_rfl) ?_; refine TR_pv0 PV_assign rfl ?_; refine TR_nil ?_)
      | (refine TC_plain (id := 1) (by kernel_rfl) ?_; refine TR_pv0 PV_move rfl ?_; refine TR_pv0 (PV_peq_nil rfl rfl) rfl ?_; refine TR_nil ?_)
      | (refine TC_plain (id := 3) (by kernel_rfl) ?_; all_goals refine TR_pv0 PV_move rfl ?_; all_goals refine TR_pv0 (PV_lss rfl rfl) rfl ?_; all_goals refine TR_pv0 PV_move rfl ?_; all_goals (refine TR_gsplit rfl rfl rfl (fun hq => ?_) (fun hq => ?_) <;> (try simp only [qs] at hq) <;> (try simp only [reduceCtorEq] at hq) <;> (try (exfalso; omega)) <;> (try contradiction) <;> (first | refine TR_pv0 PV_move rfl ?_ | refine TR_skip0 rfl ?_)); all_goals (first | refine TR_pv0 PV_move rfl ?_ | refine TR_skip0 rfl ?_); all_goals (first | refine TR_pv0 (PV_nil rfl) rfl ?_ | refine TR_skip0 rfl ?_); all_goals (first | refine TR_pv0 (PV_fieldAddr rfl) rfl ?_ | refine TR_skip0 rfl ?_); all_goals (first | refine TR_load0 rfl 0 rfl rfl rfl ?_ | refine TR_skip0 rfl ?_); all_goals (first | refine TR_pv0 (PV_geq rfl rfl) rfl ?_ | refine TR_skip0 rfl ?_); all_goals (first | refine TR_pv0 (PV_pick_t rfl) rfl ?_ | refine TR_pv0 (PV_pick_f rfl) rfl ?_); all_goals refine TR_nil ?_)
      | (refine TC_plain (id := 4) (by kernel_rfl) ?_; refine TR_pv0 PV_assign rfl ?_; refine TR_nil ?_)
      | refine TC_cond_t rfl rfl ?_
      | refine TC_cond_f rfl rfl ?_
      | refine TC_skip ?_
      | refine TC_ret ?_
      | refine TQ_then_ret ?_
      | (refine TC_cond rfl rfl (fun hq => ?_) (fun hq => ?_) <;> (try simp only [qs] at hq) <;> (try simp only [reduceCtorEq] at hq) <;> (try (exfalso; omega)) <;> (try contradiction))
    all_goals exact TQ_ret1e rfl rfl rfl ⟨rfl, X, rfl, h, rfl⟩ (fun a => by simp only [les, QF.seg]; omega)
  have hat := qat_cd b X hf tsn
  cases hk : X.abs.idx tsn with
  | none =>
    have e0 : X.abs.get tsn = none := by rw [Flt.get, hk]; rfl
    have e1 : X.abs.againE tsn path = 11 := by rw [Flt.againE, e0]; exact if_neg hp
    have e2 : X.abs.again tsn path now = X.abs := by rw [Flt.again, e1, if_neg (by omega)]
    have e3 : X.abs.place tsn = -1 := by rw [Flt.place, hk]
    rw [e3] at hat
    rw [e1, e2]
    refine Ct_intro Try.func52 rfl (by simp only [Try.ntmps52, List.length_cons, List.length_nil]; omega) ?_
    intro w₀ R
    refine TC_le (L' := X.bk b :: (X.w.C ++ qsegs X.l) :: R) (fun a => by simp only [les, QF.seg]; omega) ?_
    repeat' first
      | refine TC_seq ?_
      | refine TQ_then ?_
      | (refine TC_plain (id := 0) (by kernel_rfl) ?_; refine TR_pv0 PV_assign rfl ?_; refine TR_nil ?_)
      | (refine TC_plain (id := 1) (by kernel_rfl) ?_; refine TR_pv0 PV_move rfl ?_; refine TR_pv0 (PV_peq_nil rfl rfl) rfl ?_; refine TR_nil ?_)
      | (refine TC_plain (id := 3) (by kernel_rfl) ?_; all_goals refine TR_pv0 PV_move rfl ?_; all_goals refine TR_pv0 (PV_lss rfl rfl) rfl ?_; all_goals refine TR_pv0 PV_move rfl ?_; all_goals (refine TR_gsplit rfl rfl rfl (fun hq => ?_) (fun hq => ?_) <;> (try simp only [qs] at hq) <;> (try simp only [reduceCtorEq] at hq) <;> (try (exfalso; omega)) <;> (try contradiction) <;> refine TR_pv0 PV_move rfl ?_); all_goals refine TR_pv0 PV_move rfl ?_; all_goals refine TR_pv0 (PV_nil rfl) rfl ?_; all_goals refine TR_pv0 (PV_fieldAddr rfl) rfl ?_; all_goals refine TR_load0 rfl 0 rfl rfl rfl ?_; all_goals refine TR_pv0 (PV_geq rfl rfl) rfl ?_; all_goals refine TR_pv0 (PV_pick_f rfl) rfl ?_; all_goals refine TR_nil ?_)
      | refine TC_cond_f rfl rfl ?_
      | refine TC_skip ?_
      | (refine TC_cond rfl rfl (fun hq => ?_) (fun hq => ?_) <;> (try simp only [qs] at hq) <;> (try simp only [reduceCtorEq] at hq) <;> (try (exfalso; omega)) <;> (try contradiction))
    refine TC_le (L' := X.seg b :: R) (fun a => by simp only [les, QF.seg]; omega) ?_
    repeat' first
      | refine TC_seq ?_
      | refine TQ_then ?_
      | (refine TC_plain (id := 5) (by kernel_rfl) ?_; refine TR_pv0 PV_move rfl ?_; refine TR_pv0 PV_move rfl ?_; refine TR_calld1_0 (hat) rfl rfl rfl rfl ?_; refine TR_pv0 PV_assign rfl ?_; refine TR_nil ?_)
      | (refine TC_plain (id := 6) (by kernel_rfl) ?_; all_goals refine TR_pv0 PV_move rfl ?_; all_goals refine TR_pv0 (PV_lss rfl rfl) rfl ?_; all_goals refine TR_pv0 PV_move rfl ?_; all_goals refine TR_skip0 rfl ?_; all_goals refine TR_skip0 rfl ?_; all_goals refine TR_skip0 rfl ?_; all_goals refine TR_skip0 rfl ?_; all_goals refine TR_skip0 rfl ?_; all_goals refine TR_skip0 rfl ?_; all_goals refine TR_skip0 rfl ?_; all_goals refine TR_skip0 rfl ?_; all_goals refine TR_skip0 rfl ?_; all_goals refine TR_pv0 (PV_pick_t rfl) rfl ?_; all_goals refine TR_pv0 PV_move rfl ?_; all_goals refine TR_skip0 rfl ?_; all_goals refine TR_skip0 rfl ?_; all_goals refine TR_skip0 rfl ?_; all_goals refine TR_skip0 rfl ?_; all_goals refine TR_skip0 rfl ?_; all_goals refine TR_skip0 rfl ?_; all_goals refine TR_skip0 rfl ?_; all_goals refine TR_skip0 rfl ?_; all_goals refine TR_pv0 (PV_pick_t rfl) rfl ?_; all_goals refine TR_pv0 PV_move rfl ?_; all_goals refine TR_skip0 rfl ?_; all_goals refine TR_skip0 rfl ?_; all_goals refine TR_skip0 rfl ?_; all_goals refine TR_skip0 rfl ?_; all_goals refine TR_skip0 rfl ?_; all_goals refine TR_skip0 rfl ?_; all_goals refine TR_skip0 rfl ?_; all_goals refine TR_skip0 rfl ?_; all_goals refine TR_pv0 (PV_pick_t rfl) rfl ?_; all_goals refine TR_nil ?_)
      | (refine TC_plain (id := 7) (by kernel_rfl) ?_; refine TR_pv0 PV_assign rfl ?_; refine TR_nil ?_)
      | refine TC_cond_t rfl rfl ?_
      | refine TC_ret ?_
      | refine TQ_then_ret ?_
    exact TQ_ret1e rfl rfl rfl ⟨rfl, X, rfl, h, rfl⟩ (fun a => by simp only [les]; omega)
  | some k =>
    have h2 := (idx_some hk).2
    have hlt : k < X.l.length := by simpa only [QF.abs, qrecs_length] using h2
    obtain ⟨x, hx⟩ : ∃ x, X.l[k]? = some x := ⟨X.l[k], List.getElem?_eq_getElem hlt⟩
    have e0 : X.abs.get tsn = some x.r := by rw [get_of_idx hk]; exact qrecs_at hx
    have e3 : X.abs.place tsn = k := by rw [Flt.place, hk]
    rw [e3] at hat
    obtain ⟨rb, off, cells, ha, hC, hq0⟩ := qat_of h.row (by omega)
    have hsl : Value.slice X.w.a X.l.length X.w.cap = .slice (some ⟨rb, off, none⟩) X.l.length X.w.cap := by rw [ha]
    have c12 : cells[off + (k : Int).toNat * 15 + 12]? = some (.bool x.r.lost) := hq0.cell hx (j := 12) (by omega) rfl
    have c11 : cells[off + (k : Int).toNat * 15 + 11]? = some (.bool x.r.acked) := hq0.cell hx (j := 11) (by omega) rfl
    have c13 : cells[off + (k : Int).toNat * 15 + 13]? = some (.bool x.r.gone) := hq0.cell hx (j := 13) (by omega) rfl
    by_cases hop : x.r.lost = true ∧ x.r.acked = false ∧ x.r.gone = false
    · obtain ⟨o1, o2, o3⟩ := hop
      have hoo : x.r.open_ = true := by rw [FRec.open_, o1, o2, o3]; rfl
      have e1 : X.abs.againE tsn path = 0 := by rw [Flt.againE, e0]; simp only [hoo]; exact if_neg hp
      have e2 : X.abs.again tsn path now = { X.abs with l := X.recs.modify k (againR path now) } := by rw [Flt.again, e1, if_pos rfl, hk]; rfl
      rw [o1] at c12; rw [o2] at c11; rw [o3] at c13
      have hq1 := hq0.store hx (y := { x with r := { x.r with path := path } }) (j := 7) (v := i64 path) (by omega) rfl
      have hx1 : (X.l.set k { x with r := { x.r with path := path } })[k]? = some { x with r := { x.r with path := path } } := by rw [List.getElem?_set_self hlt]
      have hq2 := hq1.store hx1 (y := { x with r := { x.r with path := path, at_ := now } }) (j := 8) (v := i64 now) (by omega) rfl
      rw [List.set_set] at hq2
      have hx2 : (X.l.set k { x with r := { x.r with path := path, at_ := now } })[k]? = some { x with r := { x.r with path := path, at_ := now } } := by rw [List.getElem?_set_self hlt]
      have hq3 := hq2.store hx2 (y := { x with r := { x.r with path := path, at_ := now, lost := false } }) (j := 12) (v := .bool false) (by omega) rfl
      rw [List.set_set] at hq3
      have hx3 : (X.l.set k { x with r := { x.r with path := path, at_ := now, lost := false } })[k]? = some { x with r := { x.r with path := path, at_ := now, lost := false } } := by rw [List.getElem?_set_self hlt]
      have hq4 := hq3.store hx3 (y := { x with r := againR path now x.r }) (j := 14) (v := .bool true) (by omega) rfl
      rw [List.set_set] at hq4
      have l1 : Nat.blt (off + (k : Int).toNat * 15 + 7) cells.length = true := hq0.blt hlt (by omega)
      have l2 : Nat.blt (off + (k : Int).toNat * 15 + 8) (cells.set (off + k * 15 + 7) (i64 path)).length = true := hq1.blt (by rw [List.length_set]; exact hlt) (by omega)
      have l3 : Nat.blt (off + (k : Int).toNat * 15 + 12) ((cells.set (off + k * 15 + 7) (i64 path)).set (off + k * 15 + 8) (i64 now)).length = true := hq2.blt (by rw [List.length_set]; exact hlt) (by omega)
      have l4 : Nat.blt (off + (k : Int).toNat * 15 + 14) (((cells.set (off + k * 15 + 7) (i64 path)).set (off + k * 15 + 8) (i64 now)).set (off + k * 15 + 12) (.bool false)).length = true := hq3.blt (by rw [List.length_set]; exact hlt) (by omega)
      rw [e1, e2]
      refine Ct_intro Try.func52 rfl (by simp only [Try.ntmps52, List.length_cons, List.length_nil]; omega) ?_
      intro w₀ R
      refine TC_le (L' := X.bk b :: (X.w.C ++ qsegs X.l) :: R) (fun a => by simp only [les, QF.seg]; omega) ?_
      repeat' first
        | refine TC_seq ?_
        | refine TQ_then ?_
        | (refine TC_plain (id := 0) (by kernel_rfl) ?_; refine TR_pv0 PV_assign rfl ?_; refine TR_nil ?_)
        | (refine TC_plain (id := 1) (by kernel_rfl) ?_; refine TR_pv0 PV_move rfl ?_; refine TR_pv0 (PV_peq_nil rfl rfl) rfl ?_; refine TR_nil ?_)
        | (refine TC_plain (id := 3) (by kernel_rfl) ?_; all_goals refine TR_pv0 PV_move rfl ?_; all_goals refine TR_pv0 (PV_lss rfl rfl) rfl ?_; all_goals refine TR_pv0 PV_move rfl ?_; all_goals (refine TR_gsplit rfl rfl rfl (fun hq => ?_) (fun hq => ?_) <;> (try simp only [qs] at hq) <;> (try simp only [reduceCtorEq] at hq) <;> (try (exfalso; omega)) <;> (try contradiction) <;> refine TR_pv0 PV_move rfl ?_); all_goals refine TR_pv0 PV_move rfl ?_; all_goals refine TR_pv0 (PV_nil rfl) rfl ?_; all_goals refine TR_pv0 (PV_fieldAddr rfl) rfl ?_; all_goals refine TR_load0 rfl 0 rfl rfl rfl ?_; all_goals refine TR_pv0 (PV_geq rfl rfl) rfl ?_; all_goals refine TR_pv0 (PV_pick_f rfl) rfl ?_; all_goals refine TR_nil ?_)
        | refine TC_cond_f rfl rfl ?_
        | refine TC_skip ?_
        | (refine TC_cond rfl rfl (fun hq => ?_) (fun hq => ?_) <;> (try simp only [qs] at hq) <;> (try simp only [reduceCtorEq] at hq) <;> (try (exfalso; omega)) <;> (try contradiction))
      refine TC_le (L' := X.seg b :: R) (fun a => by simp only [les, QF.seg]; omega) ?_
      repeat' first
        | refine TC_seq ?_
        | refine TQ_then ?_
        | (refine TC_plain (id := 5) (by kernel_rfl) ?_; refine TR_pv0 PV_move rfl ?_; refine TR_pv0 PV_move rfl ?_; refine TR_calld1_0 (hat) rfl rfl rfl rfl ?_; refine TR_pv0 PV_assign rfl ?_; refine TR_nil ?_)
      refine TC_le (L' := X.bk b :: [(rb, .cells cells.toArray 111 (0, 0))] :: qsegs X.l :: R) (fun a => by simp only [les, QF.seg, hC]; omega) ?_
      repeat' first
        | refine TC_seq ?_
        | refine TQ_then ?_
        | (refine TC_plain (id := 6) (by kernel_rfl) ?_; all_goals refine TR_pv0 PV_move rfl ?_; all_goals refine TR_pv0 (PV_lss rfl rfl) rfl ?_; all_goals refine TR_pv0 PV_move rfl ?_; all_goals refine TR_pv0 PV_move rfl ?_; all_goals refine TR_pv0 (PV_nil rfl) rfl ?_; all_goals refine TR_pv0 (PV_fieldAddr rfl) rfl ?_; all_goals refine TR_load0 rfl 0 rfl rfl rfl ?_; all_goals refine TR_pv0 PV_move rfl ?_; all_goals refine TR_pv0 (PV_indexAddr hsl rfl (by omega)) rfl ?_; all_goals refine TR_pv0 (PV_fieldAddr rfl) rfl ?_; all_goals refine TR_load0 rfl 1 rfl c12 rfl ?_; all_goals refine TR_pv0 (PV_not rfl) rfl ?_; all_goals refine TR_pv0 (PV_pick_f rfl) rfl ?_; all_goals refine TR_pv0 PV_move rfl ?_; all_goals refine TR_pv0 PV_move rfl ?_; all_goals refine TR_pv0 (PV_nil rfl) rfl ?_; all_goals refine TR_pv0 (PV_fieldAddr rfl) rfl ?_; all_goals refine TR_load0 rfl 0 rfl rfl rfl ?_; all_goals refine TR_pv0 PV_move rfl ?_; all_goals refine TR_pv0 (PV_indexAddr hsl rfl (by omega)) rfl ?_; all_goals refine TR_pv0 (PV_fieldAddr rfl) rfl ?_; all_goals refine TR_load0 rfl 1 rfl c11 rfl ?_; all_goals refine TR_pv0 (PV_pick_f rfl) rfl ?_; all_goals refine TR_pv0 PV_move rfl ?_; all_goals refine TR_pv0 PV_move rfl ?_; all_goals refine TR_pv0 (PV_nil rfl) rfl ?_; all_goals refine TR_pv0 (PV_fieldAddr rfl) rfl ?_; all_goals refine TR_load0 rfl 0 rfl rfl rfl ?_; all_goals refine TR_pv0 PV_move rfl ?_; all_goals refine TR_pv0 (PV_indexAddr hsl rfl (by omega)) rfl ?_; all_goals refine TR_pv0 (PV_fieldAddr rfl) rfl ?_; all_goals refine TR_load0 rfl 1 rfl c13 rfl ?_; all_goals refine TR_pv0 (PV_pick_f rfl) rfl ?_; all_goals refine TR_nil ?_)
        | (refine TC_plain (id := 8) (by kernel_rfl) ?_; refine TR_pv0 PV_move rfl ?_; refine TR_pv0 (PV_nil rfl) rfl ?_; refine TR_pv0 (PV_fieldAddr rfl) rfl ?_; refine TR_load0 rfl 0 rfl rfl rfl ?_; refine TR_pv0 PV_move rfl ?_; refine TR_pv0 PV_move rfl ?_; refine TR_pv0 (PV_indexAddr hsl rfl (by omega)) rfl ?_; refine TR_pv0 (PV_fieldAddr rfl) rfl ?_; refine TR_store0_1 rfl rfl rfl rfl l1 rfl ?_; refine TR_nil ?_)
        | (refine TC_plain (id := 9) (by kernel_rfl) ?_; refine TR_pv0 PV_move rfl ?_; refine TR_pv0 (PV_nil rfl) rfl ?_; refine TR_pv0 (PV_fieldAddr rfl) rfl ?_; refine TR_load0 rfl 0 rfl rfl rfl ?_; refine TR_pv0 PV_move rfl ?_; refine TR_pv0 PV_move rfl ?_; refine TR_pv0 (PV_indexAddr hsl rfl (by omega)) rfl ?_; refine TR_pv0 (PV_fieldAddr rfl) rfl ?_; refine TR_store0_1 rfl rfl rfl rfl l2 rfl ?_; refine TR_nil ?_)
        | (refine TC_plain (id := 10) (by kernel_rfl) ?_; refine TR_pv0 PV_move rfl ?_; refine TR_pv0 (PV_nil rfl) rfl ?_; refine TR_pv0 (PV_fieldAddr rfl) rfl ?_; refine TR_load0 rfl 0 rfl rfl rfl ?_; refine TR_pv0 PV_move rfl ?_; refine TR_pv0 (PV_indexAddr hsl rfl (by omega)) rfl ?_; refine TR_pv0 (PV_fieldAddr rfl) rfl ?_; refine TR_store0_1 rfl rfl rfl rfl l3 rfl ?_; refine TR_nil ?_)
        | (refine TC_plain (id := 11) (by kernel_rfl) ?_; refine TR_pv0 PV_move rfl ?_; refine TR_pv0 (PV_nil rfl) rfl ?_; refine TR_pv0 (PV_fieldAddr rfl) rfl ?_; refine TR_load0 rfl 0 rfl rfl rfl ?_; refine TR_pv0 PV_move rfl ?_; refine TR_pv0 (PV_indexAddr hsl rfl (by omega)) rfl ?_; refine TR_pv0 (PV_fieldAddr rfl) rfl ?_; refine TR_store0_1 rfl rfl rfl rfl l4 rfl ?_; refine TR_nil ?_)
        | (refine TC_plain (id := 12) (by kernel_rfl) ?_; refine TR_pv0 PV_assign rfl ?_; refine TR_nil ?_)
        | refine TC_cond_f rfl rfl ?_
        | refine TC_skip ?_
        | refine TC_ret ?_
      refine TQ_ret1e (v := i64 0) (C' := [(X.put k { x with r := againR path now x.r } (some ⟨rb, off, none⟩) [(rb, .cells ((((cells.set (off + k * 15 + 7) (i64 path)).set (off + k * 15 + 8) (i64 now)).set (off + k * 15 + 12) (.bool false)).set (off + k * 15 + 14) (.bool true)).toArray 111 (0, 0))]).seg b]) rfl rfl rfl
        ⟨rfl, _, rfl, ⟨hq4.sl rb, oks_set h.recs hx rfl rfl⟩, ?_⟩ (Le.trans (M := X.bk b :: [(rb, .cells ((((cells.set (off + k * 15 + 7) (i64 path)).set (off + k * 15 + 8) (i64 now)).set (off + k * 15 + 12) (.bool false)).set (off + k * 15 + 14) (.bool true)).toArray 111 (0, 0))] :: qsegs X.l :: R) (Le.refl _) (fun a => by simp only [les, QF.put_seg b (y := { x with r := againR path now x.r }) hx rfl ha]; omega))
      simp only [QF.abs, QF.recs, QF.put]; rw [recs_set hx]
    · have hoo : x.r.open_ = false := by
        rw [FRec.open_]
        cases h1 : x.r.lost <;> cases h2 : x.r.acked <;> cases h3 : x.r.gone <;> simp_all
      have e1 : X.abs.againE tsn path = 11 := by rw [Flt.againE, e0]; simp only [hoo]; exact if_neg hp
      have e2 : X.abs.again tsn path now = X.abs := by rw [Flt.again, e1, if_neg (by omega)]
      rw [e1, e2]
      refine Ct_intro Try.func52 rfl (by simp only [Try.ntmps52, List.length_cons, List.length_nil]; omega) ?_
      intro w₀ R
      refine TC_le (L' := X.bk b :: (X.w.C ++ qsegs X.l) :: R) (fun a => by simp only [les, QF.seg]; omega) ?_
      repeat' first
        | refine TC_seq ?_
        | refine TQ_then ?_
        | (refine TC_plain (id := 0) (by kernel_rfl) ?_; refine TR_pv0 PV_assign rfl ?_; refine TR_nil ?_)
        | (refine TC_plain (id := 1) (by kernel_rfl) ?_; refine TR_pv0 PV_move rfl ?_; refine TR_pv0 (PV_peq_nil rfl rfl) rfl ?_; refine TR_nil ?_)
        | (refine TC_plain (id := 3) (by kernel_rfl) ?_; all_goals refine TR_pv0 PV_move rfl ?_; all_goals refine TR_pv0 (PV_lss rfl rfl) rfl ?_; all_goals refine TR_pv0 PV_move rfl ?_; all_goals (refine TR_gsplit rfl rfl rfl (fun hq => ?_) (fun hq => ?_) <;> (try simp only [qs] at hq) <;> (try simp only [reduceCtorEq] at hq) <;> (try (exfalso; omega)) <;> (try contradiction) <;> refine TR_pv0 PV_move rfl ?_); all_goals refine TR_pv0 PV_move rfl ?_; all_goals refine TR_pv0 (PV_nil rfl) rfl ?_; all_goals refine TR_pv0 (PV_fieldAddr rfl) rfl ?_; all_goals refine TR_load0 rfl 0 rfl rfl rfl ?_; all_goals refine TR_pv0 (PV_geq rfl rfl) rfl ?_; all_goals refine TR_pv0 (PV_pick_f rfl) rfl ?_; all_goals refine TR_nil ?_)
        | refine TC_cond_f rfl rfl ?_
        | refine TC_skip ?_
        | (refine TC_cond rfl rfl (fun hq => ?_) (fun hq => ?_) <;> (try simp only [qs] at hq) <;> (try simp only [reduceCtorEq] at hq) <;> (try (exfalso; omega)) <;> (try contradiction))
      refine TC_le (L' := X.seg b :: R) (fun a => by simp only [les, QF.seg]; omega) ?_
      repeat' first
        | refine TC_seq ?_
        | refine TQ_then ?_
        | (refine TC_plain (id := 5) (by kernel_rfl) ?_; refine TR_pv0 PV_move rfl ?_; refine TR_pv0 PV_move rfl ?_; refine TR_calld1_0 (hat) rfl rfl rfl rfl ?_; refine TR_pv0 PV_assign rfl ?_; refine TR_nil ?_)
      refine TC_le (L' := X.bk b :: [(rb, .cells cells.toArray 111 (0, 0))] :: qsegs X.l :: R) (fun a => by simp only [les, QF.seg, hC]; omega) ?_
      cases h1 : x.r.lost with
      | false =>
        rw [h1] at c12
        repeat' first
          | refine TC_seq ?_
          | refine TQ_then ?_
          | (refine TC_plain (id := 6) (by kernel_rfl) ?_; all_goals refine TR_pv0 PV_move rfl ?_; all_goals refine TR_pv0 (PV_lss rfl rfl) rfl ?_; all_goals refine TR_pv0 PV_move rfl ?_; all_goals refine TR_pv0 PV_move rfl ?_; all_goals refine TR_pv0 (PV_nil rfl) rfl ?_; all_goals refine TR_pv0 (PV_fieldAddr rfl) rfl ?_; all_goals refine TR_load0 rfl 0 rfl rfl rfl ?_; all_goals refine TR_pv0 PV_move rfl ?_; all_goals refine TR_pv0 (PV_indexAddr hsl rfl (by omega)) rfl ?_; all_goals refine TR_pv0 (PV_fieldAddr rfl) rfl ?_; all_goals refine TR_load0 rfl 1 rfl c12 rfl ?_; all_goals refine TR_pv0 (PV_not rfl) rfl ?_; all_goals refine TR_pv0 (PV_pick_f rfl) rfl ?_; all_goals refine TR_pv0 PV_move rfl ?_; all_goals refine TR_skip0 rfl ?_; all_goals refine TR_skip0 rfl ?_; all_goals refine TR_skip0 rfl ?_; all_goals refine TR_skip0 rfl ?_; all_goals refine TR_skip0 rfl ?_; all_goals refine TR_skip0 rfl ?_; all_goals refine TR_skip0 rfl ?_; all_goals refine TR_skip0 rfl ?_; all_goals refine TR_pv0 (PV_pick_t rfl) rfl ?_; all_goals refine TR_pv0 PV_move rfl ?_; all_goals refine TR_skip0 rfl ?_; all_goals refine TR_skip0 rfl ?_; all_goals refine TR_skip0 rfl ?_; all_goals refine TR_skip0 rfl ?_; all_goals refine TR_skip0 rfl ?_; all_goals refine TR_skip0 rfl ?_; all_goals refine TR_skip0 rfl ?_; all_goals refine TR_skip0 rfl ?_; all_goals refine TR_pv0 (PV_pick_t rfl) rfl ?_; all_goals refine TR_nil ?_)
          | (refine TC_plain (id := 7) (by kernel_rfl) ?_; refine TR_pv0 PV_assign rfl ?_; refine TR_nil ?_)
          | refine TC_cond_t rfl rfl ?_
          | refine TC_ret ?_
          | refine TQ_then_ret ?_
        exact TQ_ret1e rfl rfl rfl ⟨rfl, X, rfl, h, rfl⟩ (fun a => by simp only [les, QF.seg, hC]; omega)
      | true =>
        rw [h1] at c12
        cases h2 : x.r.acked with
        | true =>
          rw [h2] at c11
          repeat' first
            | refine TC_seq ?_
            | refine TQ_then ?_
            | (refine TC_plain (id := 6) (by kernel_rfl) ?_; all_goals refine TR_pv0 PV_move rfl ?_; all_goals refine TR_pv0 (PV_lss rfl rfl) rfl ?_; all_goals refine TR_pv0 PV_move rfl ?_; all_goals refine TR_pv0 PV_move rfl ?_; all_goals refine TR_pv0 (PV_nil rfl) rfl ?_; all_goals refine TR_pv0 (PV_fieldAddr rfl) rfl ?_; all_goals refine TR_load0 rfl 0 rfl rfl rfl ?_; all_goals refine TR_pv0 PV_move rfl ?_; all_goals refine TR_pv0 (PV_indexAddr hsl rfl (by omega)) rfl ?_; all_goals refine TR_pv0 (PV_fieldAddr rfl) rfl ?_; all_goals refine TR_load0 rfl 1 rfl c12 rfl ?_; all_goals refine TR_pv0 (PV_not rfl) rfl ?_; all_goals refine TR_pv0 (PV_pick_f rfl) rfl ?_; all_goals refine TR_pv0 PV_move rfl ?_; all_goals refine TR_pv0 PV_move rfl ?_; all_goals refine TR_pv0 (PV_nil rfl) rfl ?_; all_goals refine TR_pv0 (PV_fieldAddr rfl) rfl ?_; all_goals refine TR_load0 rfl 0 rfl rfl rfl ?_; all_goals refine TR_pv0 PV_move rfl ?_; all_goals refine TR_pv0 (PV_indexAddr hsl rfl (by omega)) rfl ?_; all_goals refine TR_pv0 (PV_fieldAddr rfl) rfl ?_; all_goals refine TR_load0 rfl 1 rfl c11 rfl ?_; all_goals refine TR_pv0 (PV_pick_f rfl) rfl ?_; all_goals refine TR_pv0 PV_move rfl ?_; all_goals refine TR_skip0 rfl ?_; all_goals refine TR_skip0 rfl ?_; all_goals refine TR_skip0 rfl ?_; all_goals refine TR_skip0 rfl ?_; all_goals refine TR_skip0 rfl ?_; all_goals refine TR_skip0 rfl ?_; all_goals refine TR_skip0 rfl ?_; all_goals refine TR_skip0 rfl ?_; all_goals refine TR_pv0 (PV_pick_t rfl) rfl ?_; all_goals refine TR_nil ?_)
            | (refine TC_plain (id := 7) (by kernel_rfl) ?_; refine TR_pv0 PV_assign rfl ?_; refine TR_nil ?_)
            | refine TC_cond_t rfl rfl ?_
            | refine TC_ret ?_
            | refine TQ_then_ret ?_
          exact TQ_ret1e rfl rfl rfl ⟨rfl, X, rfl, h, rfl⟩ (fun a => by simp only [les, QF.seg, hC]; omega)
        | false =>
          rw [h2] at c11
          have h3 : x.r.gone = true := by cases h3 : x.r.gone with | true => rfl | false => exact absurd ⟨h1, h2, h3⟩ hop
          rw [h3] at c13
          repeat' first
            | refine TC_seq ?_
            | refine TQ_then ?_
            | (refine TC_plain (id := 6) (by kernel_rfl) ?_; all_goals refine TR_pv0 PV_move rfl ?_; all_goals refine TR_pv0 (PV_lss rfl rfl) rfl ?_; all_goals refine TR_pv0 PV_move rfl ?_; all_goals refine TR_pv0 PV_move rfl ?_; all_goals refine TR_pv0 (PV_nil rfl) rfl ?_; all_goals refine TR_pv0 (PV_fieldAddr rfl) rfl ?_; all_goals refine TR_load0 rfl 0 rfl rfl rfl ?_; all_goals refine TR_pv0 PV_move rfl ?_; all_goals refine TR_pv0 (PV_indexAddr hsl rfl (by omega)) rfl ?_; all_goals refine TR_pv0 (PV_fieldAddr rfl) rfl ?_; all_goals refine TR_load0 rfl 1 rfl c12 rfl ?_; all_goals refine TR_pv0 (PV_not rfl) rfl ?_; all_goals refine TR_pv0 (PV_pick_f rfl) rfl ?_; all_goals refine TR_pv0 PV_move rfl ?_; all_goals refine TR_pv0 PV_move rfl ?_; all_goals refine TR_pv0 (PV_nil rfl) rfl ?_; all_goals refine TR_pv0 (PV_fieldAddr rfl) rfl ?_; all_goals refine TR_load0 rfl 0 rfl rfl rfl ?_; all_goals refine TR_pv0 PV_move rfl ?_; all_goals refine TR_pv0 (PV_indexAddr hsl rfl (by omega)) rfl ?_; all_goals refine TR_pv0 (PV_fieldAddr rfl) rfl ?_; all_goals refine TR_load0 rfl 1 rfl c11 rfl ?_; all_goals refine TR_pv0 (PV_pick_f rfl) rfl ?_; all_goals refine TR_pv0 PV_move rfl ?_; all_goals refine TR_pv0 PV_move rfl ?_; all_goals refine TR_pv0 (PV_nil rfl) rfl ?_; all_goals refine TR_pv0 (PV_fieldAddr rfl) rfl ?_; all_goals refine TR_load0 rfl 0 rfl rfl rfl ?_; all_goals refine TR_pv0 PV_move rfl ?_; all_goals refine TR_pv0 (PV_indexAddr hsl rfl (by omega)) rfl ?_; all_goals refine TR_pv0 (PV_fieldAddr rfl) rfl ?_; all_goals refine TR_load0 rfl 1 rfl c13 rfl ?_; all_goals refine TR_pv0 (PV_pick_f rfl) rfl ?_; all_goals refine TR_nil ?_)
            | (refine TC_plain (id := 7) (by kernel_rfl) ?_; refine TR_pv0 PV_assign rfl ?_; refine TR_nil ?_)
            | refine TC_cond_t rfl rfl ?_
            | refine TC_ret ?_
            | refine TQ_then_ret ?_
          exact TQ_ret1e rfl rfl rfl ⟨rfl, X, rfl, h, rfl⟩ (fun a => by simp only [les, QF.seg, hC]; omega)
end Go.Proofs.Ytonfkkdahlboiaa
