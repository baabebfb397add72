/- Get, Add, Point. -/
import Derived.Test.YtonfkkdahlboiaaFltA
namespace Go.Proofs.Ytonfkkdahlboiaa
open Go.RowKit
set_option maxHeartbeats 4000000
set_option maxRecDepth 10000

abbrev zeroPc : Pc := ⟨0, 0, 0, false, false, false, []⟩
/-- A piece's cells, its bytes in the row w. -/
abbrev Pc.at_ (d : Pc) (w : Row) : List Value := d.cells (w.val d.bytes.length)
abbrev dbk (b : Nat) (l : List Value) : Seg := blk b 32 l

theorem getF_ct_none (b : Nat) (X : FL) (h : FlOk X) (tsn : Int) (hk : X.abs.idx tsn = none) : Cd Try.prog 18 [ptr b, u32 tsn] [X.seg b]
    (.tuple #[.agg (zeroPc.cells (.slice none 0 0)).toArray, i64 0, .bool false]) [X.seg b] := by
  have hg := getF_none b X h tsn hk
  refine Ct_intro Try.func18 rfl (by simp only [Try.ntmps18, List.length_cons, List.length_nil]; omega) ?_
  intro w₀ R
  refine TC_le (L' := X.seg b :: R) (fun a => by simp only [les]; omega) ?_
  repeat' first
    | refine TC_seq ?_
    | refine TQ_then ?_
    | (refine TC_plain (id := 0) (by kernel_rfl) ?_; (refine TR_alloc0 rfl ?_; intro _); refine TR_pv0 PV_assign rfl ?_; refine TR_pv0 PV_assign rfl ?_; refine TR_nil ?_)
    | (refine TC_plain (id := 1) (by kernel_rfl) ?_; refine TR_pv0 PV_move rfl ?_; refine TR_pv0 PV_move rfl ?_; refine TR_calld1_1 (hg) rfl rfl rfl rfl ?_; refine TR_pv0 PV_assign rfl ?_; refine TR_nil ?_)
    | (refine TC_plain (id := 2) (by kernel_rfl) ?_; refine TR_pv0 PV_move rfl ?_; refine TR_pv0 (PV_peq_nil rfl rfl) rfl ?_; refine TR_nil ?_)
    | (refine TC_plain (id := 3) (by kernel_rfl) ?_; refine TR_pv0 (PV_build rfl rfl) rfl ?_; refine TR_storeA0_0 rfl rfl rfl rfl rfl rfl ?_; refine TR_pv0 PV_assign rfl ?_; refine TR_pv0 PV_assign rfl ?_; refine TR_nil ?_)
    | refine TC_cond_t rfl rfl ?_
    | refine TC_ret ?_
    | refine TQ_then_ret ?_
  rename_i c
  refine TQ_le (L' := dbk c (zeroPc.cells (.slice none 0 0)) :: X.seg b :: R) (Le.refl _) ?_
  exact TQ_retG rfl (.agg inferInstance rfl rfl 0 rfl rfl (.tmp rfl rfl (.tmp rfl rfl .nil))) rfl ⟨rfl, rfl⟩ (fun a => by simp only [les]; omega)
theorem getF_ct_some (b : Nat) (X : FL) (h : FlOk X) (tsn : Int) {k : Nat} {x : RL} (hk : X.abs.idx tsn = some k) (hx : X.l[k]? = some x) : Ct Try.prog 18 [ptr b, u32 tsn] [X.seg b]
    (fun v D => ∃ w : Row, v = .tuple #[.agg (x.r.d.at_ w).toArray, i64 x.r.path, .bool true] ∧ D = [w.C, X.seg b] ∧ w.ok 5 1 x.r.d.bytes.length (u8s x.r.d.bytes)) := by
  have hg := getF_some b X h tsn hk hx
  have hrec := h.recs x (List.mem_of_getElem? hx)
  have hb1 := hrec.2.b1
  refine Ct_intro Try.func18 rfl (by simp only [Try.ntmps18, List.length_cons, List.length_nil]; omega) ?_
  intro w₀ R
  refine TC_le (L' := X.seg b :: R) (fun a => by simp only [les]; omega) ?_
  repeat' first
    | refine TC_seq ?_
    | refine TQ_then ?_
    | (refine TC_plain (id := 0) (by kernel_rfl) ?_; (refine TR_alloc0 rfl ?_; intro _); refine TR_pv0 PV_assign rfl ?_; refine TR_pv0 PV_assign rfl ?_; refine TR_nil ?_)
    | (refine TC_plain (id := 1) (by kernel_rfl) ?_; refine TR_pv0 PV_move rfl ?_; refine TR_pv0 PV_move rfl ?_; refine TR_calld1_1 (hg) rfl rfl rfl rfl ?_; refine TR_pv0 PV_assign rfl ?_; refine TR_nil ?_)
    | (refine TC_plain (id := 2) (by kernel_rfl) ?_; refine TR_pv0 PV_move rfl ?_; refine TR_pv0 (PV_peq_nil rfl rfl) rfl ?_; refine TR_nil ?_)
    | refine TC_cond_f rfl rfl ?_
    | refine TC_skip ?_
  rename_i c
  refine TC_le (L' := dbk c (zeroPc.cells (.slice none 0 0)) :: X.seg b :: R) (Le.refl _) ?_
  refine TC_le (L' := dbk c (zeroPc.cells (.slice none 0 0)) :: x.bk :: x.w.C :: (X.bk b ++ (X.w.C ++ (rsegs (X.l.take k) ++ (rsegs (X.l.drop (k + 1)))))) :: R) (fun a => by simp only [les, FL.seg_at b hx]; omega) ?_
  repeat' first
    | refine TC_seq ?_
    | refine TQ_then ?_
    | (refine TC_plain (id := 4) (by kernel_rfl) ?_; refine TR_pv0 PV_move rfl ?_; refine TR_pv0 (PV_nil rfl) rfl ?_; refine TR_pv0 (PV_fieldAddr rfl) rfl ?_; refine TR_loadA0 rfl 1 rfl rfl rfl ?_; (refine TR_alloc0 rfl ?_; intro _); refine TR_storeA0_0 rfl rfl rfl rfl rfl rfl ?_; refine TR_nil ?_)
    | (refine TC_plain (id := 5) (by kernel_rfl) ?_; refine TR_pv0 (PV_fieldAddr rfl) rfl ?_; refine TR_load0 rfl 0 rfl rfl rfl ?_; (refine TR_call0 (clone_ct x.w.a x.r.d.bytes.length x.w.cap x.r.d.bytes [x.w.C] rfl (by omega) (src_sl hrec.1 0 rfl)) rfl rfl (.cons (.there (.there (.there .here))) .nil) rfl ?_; rintro _ _ ⟨w, rfl, rfl, hw⟩); refine TR_pv0 (PV_fieldAddr rfl) rfl ?_; refine TR_store0_2 rfl rfl rfl rfl rfl rfl ?_; refine TR_nil ?_)
  rename_i c2
  refine TC_le (L' := w.C :: x.w.C :: dbk c2 (x.r.d.at_ w) :: dbk c (zeroPc.cells (.slice none 0 0)) :: x.bk :: (X.bk b ++ (X.w.C ++ (rsegs (X.l.take k) ++ (rsegs (X.l.drop (k + 1)))))) :: R) (Le.refl _) ?_
  refine TC_le (L' := dbk c (zeroPc.cells (.slice none 0 0)) :: dbk c2 (x.r.d.at_ w) :: x.bk :: w.C :: x.w.C :: (X.bk b ++ (X.w.C ++ (rsegs (X.l.take k) ++ (rsegs (X.l.drop (k + 1)))))) :: R) (fun a => by simp only [les]; omega) ?_
  repeat' first
    | refine TQ_then ?_
    | refine TQ_noPanic ?_
    | (refine TC_drawn' (id := 6) [(0, 1), (1, 3), (2, 3), (3, 3), (4, 3), (5, 5), (6, 0), (7, 0)] mixed (by kernel_rfl) ?_; refine TR_loadA1 rfl 1 rfl rfl rfl (fun _ h => h) ?_; refine TR_pv3 PV_move rfl (fun _ h => h.tail) ?_; refine TR_pv3 (PV_nil rfl) rfl (fun _ h => h.tail) ?_; refine TR_pv3 (PV_fieldAddr rfl) rfl (fun _ h => h.tail) ?_; refine TR_load3 rfl 1 rfl rfl rfl (fun _ h => h.tail) ?_; refine TR_storeA5_0 rfl rfl rfl rfl rfl rfl (fun _ h => h) ?_; refine TR_pv0 PV_assign rfl ?_; refine TR_pv0 PV_assign rfl ?_; refine TR_nil ?_)
    | refine TC_ret ?_
  refine TQ_le (L' := dbk c (x.r.d.at_ w) :: dbk c2 (x.r.d.at_ w) :: x.bk :: w.C :: x.w.C :: (X.bk b ++ (X.w.C ++ (rsegs (X.l.take k) ++ (rsegs (X.l.drop (k + 1)))))) :: R) (Le.refl _) ?_
  exact TQ_retG rfl (.agg inferInstance rfl rfl 0 rfl rfl (.tmp rfl rfl (.tmp rfl rfl .nil))) rfl ⟨w, rfl, rfl, hw⟩ (fun a => by simp only [les, FL.seg_at b hx]; omega)
theorem getF_ct_nil (tsn : Int) : Cd Try.prog 18 [.pointer none, u32 tsn] [] (.tuple #[.agg (zeroPc.cells (.slice none 0 0)).toArray, i64 0, .bool false]) [] := by
  have hg := getF_nil tsn
  refine Ct_intro Try.func18 rfl (by simp only [Try.ntmps18, List.length_cons, List.length_nil]; omega) ?_
  intro w₀ R
  repeat' first
    | refine TC_seq ?_
    | refine TQ_then ?_
    | (refine TC_plain (id := 0) (by kernel_rfl) ?_; (refine TR_alloc0 rfl ?_; intro _); refine TR_pv0 PV_assign rfl ?_; refine TR_pv0 PV_assign rfl ?_; refine TR_nil ?_)
    | (refine TC_plain (id := 1) (by kernel_rfl) ?_; refine TR_pv0 PV_move rfl ?_; refine TR_pv0 PV_move rfl ?_; refine TR_calld0 (hg) rfl rfl rfl rfl ?_; refine TR_pv0 PV_assign rfl ?_; refine TR_nil ?_)
    | (refine TC_plain (id := 2) (by kernel_rfl) ?_; refine TR_pv0 PV_move rfl ?_; refine TR_pv0 (PV_peq_nil rfl rfl) rfl ?_; refine TR_nil ?_)
    | (refine TC_plain (id := 3) (by kernel_rfl) ?_; refine TR_pv0 (PV_build rfl rfl) rfl ?_; refine TR_storeA0_0 rfl rfl rfl rfl rfl rfl ?_; refine TR_pv0 PV_assign rfl ?_; refine TR_pv0 PV_assign rfl ?_; refine TR_nil ?_)
    | refine TC_cond_t rfl rfl ?_
    | refine TC_ret ?_
    | refine TQ_then_ret ?_
  rename_i c
  refine TQ_le (L' := dbk c (zeroPc.cells (.slice none 0 0)) :: R) (Le.refl _) ?_
  exact TQ_retG rfl (.agg inferInstance rfl rfl 0 rfl rfl (.tmp rfl rfl (.tmp rfl rfl .nil))) rfl ⟨rfl, rfl⟩ (fun a => by simp only [les]; omega)

/-! ### Add -/
theorem addE_eq (X : FL) (d : Pc) (path : Int) : X.abs.addE d path = if path < 0 ∨ X.paths ≤ path ∨ d.bytes.length = 0 then 1 else if 2048 ≤ X.l.length then 6 else 0 := by
  rw [Flt.addE]; simp only [FL.abs, recs_length]
theorem addF_no (b : Nat) (X : FL) (h : FlOk X) (d : Pc) (a : Option Addr) (cap : Nat) (path now id : Int) (hd : (d.bytes.length : Int) ≤ 9223372036854775807) (he : X.abs.addE d path ≠ 0) :
    Cd Try.prog 11 [ptr b, .agg (d.cells (.slice a d.bytes.length cap)).toArray, i64 path, i64 now, i64 id] [X.seg b] (.tuple #[u32 0, i64 (X.abs.addE d path)]) [X.seg b] := by
  have hlen := h.len
  by_cases hp : path < 0 ∨ X.paths ≤ path ∨ d.bytes.length = 0
  · have e1 : X.abs.addE d path = 1 := by rw [addE_eq, if_pos hp]
    rw [e1]
    refine Ct_intro Try.func11 rfl (by simp only [Try.ntmps11, List.length_cons, List.length_nil]; omega) ?_
    intro w₀ R
    refine TC_le (L' := X.bk b :: (X.w.C ++ rsegs X.l) :: R) (fun a => by simp only [les, FL.seg]; omega) ?_
    repeat' first
      | refine TC_seq ?_
      | refine TQ_then ?_
      | (refine TC_plain (id := 0) (by kernel_rfl) ?_; (refine TR_box0 rfl rfl rfl ?_; intro _); refine TR_pv0 PV_assign rfl ?_; refine TR_pv0 PV_assign rfl ?_; refine TR_nil ?_)
      | (refine TC_plain (id := 1) (by kernel_rfl) ?_; refine TR_pv0 PV_move rfl ?_; refine TR_pv0 (PV_peq_nil rfl rfl) rfl ?_; refine TR_pv0 PV_assign rfl ?_; refine TR_nil ?_)
      | (refine TC_plain (id := 3) (by kernel_rfl) ?_; all_goals refine TR_pv0 PV_move rfl ?_; all_goals refine TR_pv0 (PV_lss rfl rfl) rfl ?_; all_goals refine TR_pv0 PV_move rfl ?_; all_goals (refine TR_gsplit rfl rfl rfl (fun hq => ?_) (fun hq => ?_) <;> (try simp only [qs] at hq) <;> (try simp only [reduceCtorEq] at hq) <;> (try (exfalso; omega)) <;> (try contradiction) <;> (first | refine TR_pv0 PV_move rfl ?_ | refine TR_skip0 rfl ?_)); all_goals (first | refine TR_pv0 PV_move rfl ?_ | refine TR_skip0 rfl ?_); all_goals (first | refine TR_pv0 (PV_nil rfl) rfl ?_ | refine TR_skip0 rfl ?_); all_goals (first | refine TR_pv0 (PV_fieldAddr rfl) rfl ?_ | refine TR_skip0 rfl ?_); all_goals (first | refine TR_load0 rfl 1 rfl rfl rfl ?_ | refine TR_skip0 rfl ?_); all_goals (first | refine TR_pv0 (PV_geq rfl rfl) rfl ?_ | refine TR_skip0 rfl ?_); all_goals (first | refine TR_pv0 (PV_pick_t rfl) rfl ?_ | refine TR_pv0 (PV_pick_f rfl) rfl ?_); all_goals refine TR_pv0 PV_move rfl ?_; all_goals (first | refine TR_skip0 rfl ?_ | (refine TR_gsplit rfl rfl rfl (fun hq => ?_) (fun hq => ?_) <;> (try simp only [qs] at hq) <;> (try simp only [reduceCtorEq] at hq) <;> (try (exfalso; omega)) <;> (try contradiction) <;> (first | refine TR_pv0 (PV_fieldAddr rfl) rfl ?_ | refine TR_skip0 rfl ?_))); all_goals (first | refine TR_load0 rfl 0 rfl rfl rfl ?_ | refine TR_skip0 rfl ?_); all_goals (first | refine TR_pv0 (PV_len rfl) rfl ?_ | refine TR_skip0 rfl ?_); all_goals (first | refine TR_pv0 (PV_eql rfl rfl) rfl ?_ | refine TR_skip0 rfl ?_); all_goals (first | refine TR_pv0 (PV_pick_t rfl) rfl ?_ | refine TR_pv0 (PV_pick_f rfl) rfl ?_); all_goals refine TR_pv0 PV_assign rfl ?_; all_goals refine TR_nil ?_)
      | (refine TC_plain (id := 4) (by kernel_rfl) ?_; refine TR_pv0 PV_assign rfl ?_; refine TR_pv0 PV_assign rfl ?_; refine TR_nil ?_)
      | refine TC_cond_t rfl rfl ?_
      | refine TC_cond_f rfl rfl ?_
      | refine TC_ret ?_
      | refine TC_block ?_
      | refine TQ_then_ret ?_
      | refine TQ_blk_ret ?_
      | (refine TC_cond rfl rfl (fun hq => ?_) (fun hq => ?_) <;> (try simp only [qs] at hq) <;> (try simp only [reduceCtorEq] at hq) <;> (try (exfalso; omega)) <;> (try contradiction))
    all_goals exact TQ_ret2e rfl rfl rfl rfl rfl ⟨rfl, rfl⟩ (fun a => by simp only [les, FL.seg]; omega)
  · have hfull : 2048 ≤ X.l.length := by
      rw [addE_eq, if_neg hp] at he
      split at he
      · assumption
      · omega
    have e1 : X.abs.addE d path = 6 := by rw [addE_eq, if_neg hp, if_pos hfull]
    rw [e1]
    refine Ct_intro Try.func11 rfl (by simp only [Try.ntmps11, List.length_cons, List.length_nil]; omega) ?_
    intro w₀ R
    refine TC_le (L' := X.bk b :: (X.w.C ++ rsegs X.l) :: R) (fun a => by simp only [les, FL.seg]; omega) ?_
    repeat' first
      | refine TC_seq ?_
      | refine TQ_then ?_
      | (refine TC_plain (id := 0) (by kernel_rfl) ?_; (refine TR_box0 rfl rfl rfl ?_; intro _); refine TR_pv0 PV_assign rfl ?_; refine TR_pv0 PV_assign rfl ?_; refine TR_nil ?_)
      | (refine TC_plain (id := 1) (by kernel_rfl) ?_; refine TR_pv0 PV_move rfl ?_; refine TR_pv0 (PV_peq_nil rfl rfl) rfl ?_; refine TR_pv0 PV_assign rfl ?_; refine TR_nil ?_)
      | (refine TC_plain (id := 3) (by kernel_rfl) ?_; all_goals refine TR_pv0 PV_move rfl ?_; all_goals refine TR_pv0 (PV_lss rfl rfl) rfl ?_; all_goals refine TR_pv0 PV_move rfl ?_; all_goals (refine TR_gsplit rfl rfl rfl (fun hq => ?_) (fun hq => ?_) <;> (try simp only [qs] at hq) <;> (try simp only [reduceCtorEq] at hq) <;> (try (exfalso; omega)) <;> (try contradiction) <;> refine TR_pv0 PV_move rfl ?_); all_goals refine TR_pv0 PV_move rfl ?_; all_goals refine TR_pv0 (PV_nil rfl) rfl ?_; all_goals refine TR_pv0 (PV_fieldAddr rfl) rfl ?_; all_goals refine TR_load0 rfl 1 rfl rfl rfl ?_; all_goals refine TR_pv0 (PV_geq rfl rfl) rfl ?_; all_goals refine TR_pv0 (PV_pick_f rfl) rfl ?_; all_goals refine TR_pv0 PV_move rfl ?_; all_goals (refine TR_gsplit rfl rfl rfl (fun hq => ?_) (fun hq => ?_) <;> (try simp only [qs] at hq) <;> (try simp only [reduceCtorEq] at hq) <;> (try (exfalso; omega)) <;> (try contradiction) <;> refine TR_pv0 (PV_fieldAddr rfl) rfl ?_); all_goals refine TR_load0 rfl 0 rfl rfl rfl ?_; all_goals refine TR_pv0 (PV_len rfl) rfl ?_; all_goals refine TR_pv0 (PV_eql rfl rfl) rfl ?_; all_goals refine TR_pv0 (PV_pick_f rfl) rfl ?_; all_goals refine TR_pv0 PV_assign rfl ?_; all_goals refine TR_nil ?_)
      | (refine TC_plain (id := 5) (by kernel_rfl) ?_; refine TR_pv0 PV_move rfl ?_; refine TR_pv0 (PV_nil rfl) rfl ?_; refine TR_pv0 (PV_fieldAddr rfl) rfl ?_; refine TR_load0 rfl 1 rfl rfl rfl ?_; refine TR_pv0 (PV_len rfl) rfl ?_; refine TR_pv0 (PV_geq rfl rfl) rfl ?_; refine TR_pv0 PV_assign rfl ?_; refine TR_nil ?_)
      | (refine TC_plain (id := 6) (by kernel_rfl) ?_; refine TR_pv0 PV_assign rfl ?_; refine TR_pv0 PV_assign rfl ?_; refine TR_nil ?_)
      | refine TC_cond_f rfl rfl ?_
      | refine TC_ret ?_
      | refine TC_block ?_
      | refine TQ_then_ret ?_
      | refine TQ_blk_ret ?_
      | (refine TC_cond rfl rfl (fun hq => ?_) (fun hq => ?_) <;> (try simp only [qs] at hq) <;> (try simp only [reduceCtorEq] at hq) <;> (try (exfalso; omega)) <;> (try contradiction))
    all_goals exact TQ_ret2e rfl rfl rfl rfl rfl ⟨rfl, rfl⟩ (fun a => by simp only [les, FL.seg]; omega)
theorem addF_nil (d : Pc) (s : Value) (path now id : Int) : Cd Try.prog 11 [.pointer none, .agg (d.cells s).toArray, i64 path, i64 now, i64 id] [] (.tuple #[u32 0, i64 2]) [] := by
  refine Ct_intro Try.func11 rfl (by simp only [Try.ntmps11, List.length_cons, List.length_nil]; omega) ?_
  intro w₀ R
  repeat' first
    | refine TC_seq ?_
    | refine TQ_then ?_
    | (refine TC_plain (id := 0) (by kernel_rfl) ?_; (refine TR_box0 rfl rfl rfl ?_; intro _); refine TR_pv0 PV_assign rfl ?_; refine TR_pv0 PV_assign rfl ?_; refine TR_nil ?_)
    | (refine TC_plain (id := 1) (by kernel_rfl) ?_; refine TR_pv0 PV_move rfl ?_; refine TR_pv0 (PV_peq_nil rfl rfl) rfl ?_; refine TR_pv0 PV_assign rfl ?_; refine TR_nil ?_)
    | (refine TC_plain (id := 2) (by kernel_rfl) ?_; refine TR_pv0 PV_assign rfl ?_; refine TR_pv0 PV_assign rfl ?_; refine TR_nil ?_)
    | refine TC_cond_t rfl rfl ?_
    | refine TC_ret ?_
    | refine TC_block ?_
    | refine TQ_then_ret ?_
    | refine TQ_blk_ret ?_
  exact TQ_ret2e rfl rfl rfl rfl rfl ⟨rfl, rfl⟩ (fun a => by simp only [les]; omega)

def FL.push (X : FL) (x : RL) (w : Row) : FL := { X with l := X.l ++ [x], w := w }
theorem push_ok {X : FL} (h : FlOk X) {x : RL} {w : Row} (hlt : X.l.length < 2048) (hx : x.ok ∧ FRecOk x.r X.paths) (ht : x.r.d.tsn = (X.cum + 1 + X.l.length) % 4294967296)
    (hw : w.ok 88 1 (X.l.length + 1) (X.ptrs.map ptr ++ [ptr x.p])) : FlOk (X.push x w) := by
  refine ⟨?_, fun y hy => ?_, by simp only [FL.push, List.length_append, List.length_singleton]; omega, h.c0, h.c1, h.q0, h.q1, fun j y hj => ?_⟩
  · simp only [FL.push, FL.ptrs, List.length_append, List.length_singleton, List.map_append, List.map_singleton]
    exact hw
  · rcases List.mem_append.1 hy with hy | hy
    · exact h.recs y hy
    · obtain rfl := List.mem_singleton.1 hy
      exact hx
  · simp only [FL.push] at hj
    rw [List.getElem?_append] at hj
    split at hj
    · exact h.tsn j y hj
    · have : j - X.l.length = 0 := by
        rcases Nat.lt_or_ge (j - X.l.length) 1 with h' | h'
        · omega
        · rw [List.getElem?_eq_none (by simpa using h')] at hj; cases hj
      rw [this] at hj
      simp only [List.getElem?_cons_zero, Option.some.injEq] at hj
      subst hj
      rw [ht]
      have : j = X.l.length := by omega
      rw [this]; rfl

theorem push_seg (b : Nat) (X : FL) (x : RL) (w : Row) : (X.push x w).seg b = blk b 86 [w.val (X.l.length + 1), u32 X.cum, i64 X.paths] ++ (w.C ++ (rsegs X.l ++ (x.bk ++ x.w.C))) := by
  rw [FL.seg]
  simp only [FL.push, FL.bk, List.length_append, List.length_singleton, rsegs_append, rsegs_cons]
  simp [rsegs, RL.seg]

theorem addF_yes (b : Nat) (X : FL) (h : FlOk X) (d : Pc) (a : Option Addr) (cap : Nat) (path now id : Int) (S : Seg) (hs : ∀ w, sat w [S] → SrcAt w a (u8s d.bytes)) (hd : d.bytes.length ≤ 1048576) (he : X.abs.addE d path = 0) :
    Ct Try.prog 11 [ptr b, .agg (d.cells (.slice a d.bytes.length cap)).toArray, i64 path, i64 now, i64 id] [X.seg b, S]
      (fun v D => v = .tuple #[u32 X.abs.next, i64 0] ∧ ∃ X', D = [X'.seg b, S] ∧ FlOk X' ∧ X'.abs = X.abs.add d path now id) := by
  have hlen := h.len
  have hc0 := h.c0
  have hc1 := h.c1
  have hp : ¬ (path < 0 ∨ X.paths ≤ path ∨ d.bytes.length = 0) := fun hp => by rw [addE_eq, if_pos hp] at he; omega
  have hfull : X.l.length < 2048 := by
    rw [addE_eq, if_neg hp] at he
    split at he
    · omega
    · omega
  have hnext : ((X.cum + 1) % 4294967296 + (X.l.length : Int) % 4294967296) % 4294967296 = X.abs.next := by
    simp only [Flt.next, FL.abs, recs_length]; omega
  have hcl := clone_ct a d.bytes.length cap d.bytes [S] rfl (by omega) hs
  have hrow := h.row
  refine Ct_intro Try.func11 rfl (by simp only [Try.ntmps11, List.length_cons, List.length_nil]; omega) ?_
  intro w₀ R
  refine TC_le (L' := X.bk b :: X.w.C :: rsegs X.l :: S :: R) (fun a => by simp only [les, FL.seg]; omega) ?_
  repeat' first
    | refine TC_seq ?_
    | refine TQ_then ?_
    | refine TQ_noPanic ?_
    | (refine TC_plain (id := 0) (by kernel_rfl) ?_; (refine TR_box0 rfl rfl rfl ?_; intro _); refine TR_pv0 PV_assign rfl ?_; refine TR_pv0 PV_assign rfl ?_; refine TR_nil ?_)
    | (refine TC_plain (id := 1) (by kernel_rfl) ?_; refine TR_pv0 PV_move rfl ?_; refine TR_pv0 (PV_peq_nil rfl rfl) rfl ?_; refine TR_pv0 PV_assign rfl ?_; refine TR_nil ?_)
    | (refine TC_plain (id := 3) (by kernel_rfl) ?_; all_goals refine TR_pv0 PV_move rfl ?_; all_goals refine TR_pv0 (PV_lss rfl rfl) rfl ?_; all_goals refine TR_pv0 PV_move rfl ?_; all_goals (refine TR_gsplit rfl rfl rfl (fun hq => ?_) (fun hq => ?_) <;> (try simp only [qs] at hq) <;> (try simp only [reduceCtorEq] at hq) <;> (try (exfalso; omega)) <;> (try contradiction) <;> refine TR_pv0 PV_move rfl ?_); all_goals refine TR_pv0 PV_move rfl ?_; all_goals refine TR_pv0 (PV_nil rfl) rfl ?_; all_goals refine TR_pv0 (PV_fieldAddr rfl) rfl ?_; all_goals refine TR_load0 rfl 1 rfl rfl rfl ?_; all_goals refine TR_pv0 (PV_geq rfl rfl) rfl ?_; all_goals refine TR_pv0 (PV_pick_f rfl) rfl ?_; all_goals refine TR_pv0 PV_move rfl ?_; all_goals (refine TR_gsplit rfl rfl rfl (fun hq => ?_) (fun hq => ?_) <;> (try simp only [qs] at hq) <;> (try simp only [reduceCtorEq] at hq) <;> (try (exfalso; omega)) <;> (try contradiction) <;> refine TR_pv0 (PV_fieldAddr rfl) rfl ?_); all_goals refine TR_load0 rfl 0 rfl rfl rfl ?_; all_goals refine TR_pv0 (PV_len rfl) rfl ?_; all_goals refine TR_pv0 (PV_eql rfl rfl) rfl ?_; all_goals refine TR_pv0 (PV_pick_f rfl) rfl ?_; all_goals refine TR_pv0 PV_assign rfl ?_; all_goals refine TR_nil ?_)
    | (refine TC_plain (id := 5) (by kernel_rfl) ?_; refine TR_pv0 PV_move rfl ?_; refine TR_pv0 (PV_nil rfl) rfl ?_; refine TR_pv0 (PV_fieldAddr rfl) rfl ?_; refine TR_load0 rfl 1 rfl rfl rfl ?_; refine TR_pv0 (PV_len rfl) rfl ?_; refine TR_pv0 (PV_geq rfl rfl) rfl ?_; refine TR_pv0 PV_assign rfl ?_; refine TR_nil ?_)
    | (refine TC_drawn' (id := 7) [(0, 1), (1, 1), (2, 1), (3, 1), (4, 1), (5, 1), (6, 1), (7, 1), (8, 1), (9, 1), (10, 1), (11, 1), (12, 1), (13, 0)] mixed (by kernel_rfl) ?_; refine TR_pv1 PV_move rfl (fun _ h => h) ?_; refine TR_pv1 (PV_nil rfl) rfl (fun _ h => h) ?_; refine TR_pv1 (PV_fieldAddr rfl) rfl (fun _ h => h) ?_; refine TR_load1 rfl 1 rfl rfl rfl (fun _ h => h) ?_; refine TR_pv1 (PV_add32 rfl rfl) rfl (fun _ h => h) ?_; refine TR_pv1 PV_move rfl (fun _ h => h) ?_; refine TR_pv1 (PV_nil rfl) rfl (fun _ h => h) ?_; refine TR_pv1 (PV_fieldAddr rfl) rfl (fun _ h => h) ?_; refine TR_load1 rfl 1 rfl rfl rfl (fun _ h => h) ?_; refine TR_pv1 (PV_len rfl) rfl (fun _ h => h) ?_; refine TR_pv1 (PV_conv32 rfl) rfl (fun _ h => h) ?_; refine TR_pv1 (PV_add32 rfl rfl) rfl (fun _ h => h) ?_; refine TR_pv1 (PV_fieldAddr rfl) rfl (fun _ h => h) ?_; refine TR_store0_0 rfl rfl rfl rfl rfl rfl ?_; refine TR_nil ?_)
    | (refine TC_plain (id := 8) (by kernel_rfl) ?_; refine TR_pv0 (PV_fieldAddr rfl) rfl ?_; refine TR_load0 rfl 0 rfl rfl rfl ?_; (refine TR_call0 (hcl) rfl rfl (.cons (.there (.there (.there (.there .here)))) .nil) rfl ?_; rintro _ _ ⟨w, rfl, rfl, hw⟩); refine TR_pv0 (PV_fieldAddr rfl) rfl ?_; refine TR_store0_2 rfl rfl rfl rfl rfl rfl ?_; refine TR_nil ?_)
    | refine TC_cond_f rfl rfl ?_
    | refine TC_skip ?_
    | refine TC_block ?_
    | refine TQ_blk ?_
    | (refine TC_cond rfl rfl (fun hq => ?_) (fun hq => ?_) <;> (try simp only [qs] at hq) <;> (try simp only [reduceCtorEq] at hq) <;> (try (exfalso; omega)) <;> (try contradiction))
  rename_i c _ _ _
  refine TC_le (L' := w.C :: S :: dbk c ({ d with tsn := ((X.cum + 1) % 4294967296 + (X.l.length : Int) % 4294967296) % 4294967296 }.at_ w) :: X.bk b :: X.w.C :: rsegs X.l :: R) (Le.refl _) ?_
  rw [hnext]
  refine TC_le (L' := X.w.C :: dbk c ({ d with tsn := X.abs.next }.at_ w) :: X.bk b :: w.C :: S :: rsegs X.l :: R) (fun a => by simp only [les]; omega) ?_
  repeat' first
    | refine TC_seq ?_
    | refine TQ_then ?_
    | refine TQ_noPanic ?_
    | (refine TC_drawn (id := 9) (dbk c ({ d with tsn := X.abs.next }.at_ w) :: X.bk b :: w.C :: S :: rsegs X.l :: R) [(0, 1), (1, 1), (2, 1), (3, 1), (4, 1), (5, 1), (6, 1), (7, 1), (8, 1), (9, 1), (10, 2), (11, 2), (12, 2), (13, 1), (14, 1), (15, 0)] mixed (by kernel_rfl) ?_; refine TR_pv1 PV_move rfl (fun _ h => h.sub (.cons _ (.refl _))) ?_; refine TR_pv1 PV_move rfl (fun _ h => h.sub (.cons _ (.refl _))) ?_; refine TR_pv1 (PV_nil rfl) rfl (fun _ h => h.sub (.cons _ (.refl _))) ?_; refine TR_pv1 (PV_fieldAddr rfl) rfl (fun _ h => h.sub (.cons _ (.refl _))) ?_; refine TR_load1 rfl 1 rfl rfl rfl (fun _ h => h.sub (.cons _ (.refl _))) ?_; refine TR_loadA1 rfl 0 rfl rfl rfl (fun _ h => h.sub (.cons _ (.refl _))) ?_; refine TR_pv1 PV_move rfl (fun _ h => h.sub (.cons _ (.refl _))) ?_; refine TR_pv1 PV_move rfl (fun _ h => h.sub (.cons _ (.refl _))) ?_; refine TR_pv1 PV_move rfl (fun _ h => h.sub (.cons _ (.refl _))) ?_; refine TR_pv1 (PV_build rfl rfl) rfl (fun _ h => h.sub (.cons _ (.refl _))) ?_; (refine TR_boxk (fun _ h => h.sub (.cons _ (.refl _))) rfl rfl rfl ?_; intro _); (refine TR_buildSlice (.inr ⟨rfl, (fun _ h => h.sub (.cons _ (.cons _ (.refl _))))⟩) rfl rfl rfl rfl ?_; intro _); (refine TR_appendP (.inr ⟨rfl, (fun _ h => h.sub (.cons _ (.cons _ (.refl _))))⟩) hrow rfl rfl (.cons (.there (.there .here)) .nil) (src_at (m := 1) 0 rfl rfl) rfl rfl (by omega) rfl ?_; intro a' cap' C' hS); refine TR_pv1 (PV_nil rfl) rfl (fun _ h => h.sub (.cons _ (.cons _ (.cons _ (.refl _))))) ?_; refine TR_pv1 (PV_fieldAddr rfl) rfl (fun _ h => h.sub (.cons _ (.cons _ (.cons _ (.refl _))))) ?_; refine TR_store0_4 rfl rfl rfl rfl rfl rfl ?_; refine TR_nil ?_)
    | (refine TC_plain (id := 10) (by kernel_rfl) ?_; refine TR_pv0 (PV_fieldAddr rfl) rfl ?_; refine TR_load0 rfl 3 rfl rfl rfl ?_; refine TR_pv0 PV_assign rfl ?_; refine TR_pv0 PV_assign rfl ?_; refine TR_nil ?_)
    | refine TC_ret ?_
  rename_i p q
  refine TQ_le (L' := C' :: blk q 88 [ptr p] :: RL.bk ⟨newRec d X.abs.next path now id, p, w⟩ :: dbk c ({ d with tsn := X.abs.next }.at_ w) ::
    blk b 86 [(Row.mk a' cap' C').val (X.l.length + 1), u32 X.cum, i64 X.paths] :: w.C :: S :: rsegs X.l :: R) (Le.refl _) ?_
  refine TQ_ret2e (v := u32 X.abs.next) rfl rfl rfl rfl rfl ⟨rfl, X.push ⟨newRec d X.abs.next path now id, p, w⟩ ⟨a', cap', C'⟩, rfl, push_ok h hfull ⟨hw, ?_⟩ ?_ hS, ?_⟩ (fun a => by simp only [les, push_seg]; omega)
  · exact ⟨by show 0 ≤ path; omega, by show path < X.paths; omega, by show 1 ≤ d.bytes.length; omega, hd, by show (0 : Int) ≤ 0; omega, by show (0 : Int) ≤ 3; omega, fun _ _ => by show (0 : Int) ≤ 2; omega⟩
  · show X.abs.next = _
    simp only [Flt.next, FL.abs, recs_length]
  · rw [Flt.add, if_pos he]
    simp [FL.abs, FL.push, FL.recs]

/-! ### Point -/
structure PL where
  d : Pc
  w : Row
abbrev PL.ok (x : PL) : Prop := x.w.ok 5 1 x.d.bytes.length (u8s x.d.bytes)
def pcells (l : List PL) : List Value := (l.map fun x => x.d.at_ x.w).flatten
def psegs (l : List PL) : Seg := (l.map fun x => x.w.C).flatten
theorem pcells_snoc (l : List PL) (x : PL) : pcells (l ++ [x]) = pcells l ++ x.d.at_ x.w := by simp [pcells]
theorem psegs_snoc (l : List PL) (x : PL) : psegs (l ++ [x]) = psegs l ++ x.w.C := by simp [psegs]

theorem over_stop {l : List FRec} {k : Nat} (hk : k ≤ l.length) (h : ∀ r ∈ l.take k, r.gone = true) (hs : k = l.length ∨ ∃ r, l[k]? = some r ∧ r.gone = false) : l.takeWhile (·.gone) = l.take k := by
  have e : l = l.take k ++ l.drop k := (List.take_append_drop k l).symm
  conv => lhs; rw [e]
  rw [List.takeWhile_append_of_pos h]
  rcases hs with rfl | ⟨r, hr, hg⟩
  · simp
  · obtain ⟨hlt, rfl⟩ := List.getElem?_eq_some_iff.1 hr
    rw [List.drop_eq_getElem_cons hlt, List.takeWhile_cons, hg]
    simp

structure PtInv (X : FL) (k : Nat) (row : Row) (l : List PL) : Prop where
  kn : k ≤ X.l.length
  gone : ∀ r ∈ X.recs.take k, r.gone = true
  d : l.map (·.d) = (X.recs.take k).map (·.d)
  ok : ∀ x ∈ l, x.ok
  row : row.ok 32 7 k (pcells l)

theorem pointF_ct (b : Nat) (X : FL) (h : FlOk X) : Ct Try.prog 20 [ptr b] [X.seg b]
    (fun v D => ∃ (row : Row) (l : List PL), v = .tuple #[u32 ((X.cum + l.length) % 4294967296), row.val l.length] ∧ D = [row.C ++ psegs l, X.seg b] ∧ row.ok 32 7 l.length (pcells l) ∧ (∀ x ∈ l, x.ok) ∧
      l.map (·.d) = X.abs.over ∧ l.length ≤ 2048) := by
  have hlen := h.len
  have hc0 := h.c0
  have hc1 := h.c1
  have fin : ∀ (k : Nat) (row : Row) (l : List PL), PtInv X k row l → (k = X.l.length ∨ ∃ r, X.recs[k]? = some r ∧ r.gone = false) → l.length = k ∧ l.map (·.d) = X.abs.over := fun k row l hi hs => by
    have e1 : l.length = k := by have := congrArg List.length hi.d; simp only [List.length_map, List.length_take, recs_length] at this; have := hi.kn; omega
    refine ⟨e1, ?_⟩
    rw [hi.d, Flt.over]
    have := over_stop (l := X.recs) (k := k) (by rw [recs_length]; exact hi.kn) hi.gone (by rw [recs_length]; exact hs)
    show _ = (X.recs.takeWhile (·.gone)).map (·.d)
    rw [this]
  refine Ct_intro Try.func20 rfl (by simp only [Try.ntmps20, List.length_cons, List.length_nil]; omega) ?_
  intro w₀ R
  refine TC_le (L' := X.bk b :: (X.w.C ++ rsegs X.l) :: R) (fun a => by simp only [les, FL.seg]; omega) ?_
  repeat' first
    | refine TC_seq ?_
    | refine TQ_then ?_
    | (refine TC_plain (id := 0) (by kernel_rfl) ?_; refine TR_pv0 PV_assign rfl ?_; refine TR_pv0 PV_assign rfl ?_; refine TR_nil ?_)
    | (refine TC_plain (id := 1) (by kernel_rfl) ?_; refine TR_pv0 PV_move rfl ?_; refine TR_pv0 (PV_peq_nil rfl rfl) rfl ?_; refine TR_nil ?_)
    | (refine TC_plain (id := 3) (by kernel_rfl) ?_; refine TR_pv0 PV_assign rfl ?_; refine TR_nil ?_)
    | (refine TC_plain (id := 4) (by kernel_rfl) ?_; refine TR_pv0 PV_move rfl ?_; refine TR_pv0 (PV_nil rfl) rfl ?_; refine TR_pv0 (PV_fieldAddr rfl) rfl ?_; refine TR_load0 rfl 0 rfl rfl rfl ?_; refine TR_pv0 (PV_len rfl) rfl ?_; refine TR_pv0 PV_move rfl ?_; refine TR_nil ?_)
    | refine TC_cond_f rfl rfl ?_
    | refine TC_skip ?_
    | refine TC_block ?_
  refine TC_loopP (X := Nat × Row × List PL) (fun s => s.2.1.C :: psegs s.2.2 :: X.seg b :: R) (fun s => [(0, ptr b), (4, s.2.1.val s.1), (13, X.w.val X.l.length), (14, i64 X.l.length), (15, i64 s.1)]) (fun s => PtInv X s.1 s.2.1 s.2.2)
    (fun s => X.l.length - s.1) (0, ⟨none, 0, []⟩, []) ⟨Nat.zero_le _, by simp, rfl, by simp, .nil⟩ ⟨rfl, rfl, rfl, rfl, rfl, trivial⟩ (fun w hs => hs.le (fun a => by simp only [les, FL.seg, psegs, List.map_nil]; omega)) ?_
  rintro ⟨k, row, l⟩ σg mm hmm hi
  dsimp only at hmm hi ⊢
  have hkn := hi.kn
  by_cases hlt : k < X.l.length
  · obtain ⟨x, hx⟩ : ∃ x, X.l[k]? = some x := ⟨X.l[k], List.getElem?_eq_getElem hlt⟩
    have hrec := h.recs x (List.mem_of_getElem? hx)
    have hb1 := hrec.2.b1
    obtain ⟨rb, off, cells, ha, hC, hl, ht⟩ := h.row.opened (by omega)
    have hc : cells[off + (k : Int).toNat * 1]? = some (ptr x.p) := by
      rw [Int.toNat_natCast, Nat.mul_one, take_at ht (j := k) (by omega), List.getElem?_map, FL.ptrs, List.getElem?_map, hx]; rfl
    have hsl : Value.slice X.w.a X.l.length X.w.cap = .slice (some ⟨rb, off, none⟩) X.l.length X.w.cap := by rw [ha]
    have hrow := hi.row
    refine TC_le (L' := x.bk :: x.w.C :: [(rb, .cells cells.toArray 88 (0, 0))] :: row.C :: psegs l :: (X.bk b ++ (rsegs (X.l.take k) ++ (rsegs (X.l.drop (k + 1))))) :: R) (fun a => by simp only [les, FL.seg_at b hx, hC]; omega) ?_
    by_cases hg : x.r.gone = true
    · have hng : ¬ x.r.gone = false := by rw [hg]; simp
      repeat' first
        | refine TC_seq ?_
        | refine TQ_then ?_
        | (refine TC_plain (id := 5) (by kernel_rfl) ?_; refine TR_pv0 (PV_lss rfl rfl) rfl ?_; refine TR_nil ?_)
        | (refine TC_plain (id := 6) (by kernel_rfl) ?_; refine TR_pv0 (PV_indexAddr hsl rfl (by omega)) rfl ?_; refine TR_load0 rfl 2 rfl hc rfl ?_; refine TR_pv0 PV_assign rfl ?_; refine TR_nil ?_)
        | (refine TC_plain (id := 7) (by kernel_rfl) ?_; refine TR_pv0 PV_move rfl ?_; refine TR_pv0 (PV_nil rfl) rfl ?_; refine TR_pv0 (PV_fieldAddr rfl) rfl ?_; refine TR_load0 rfl 0 rfl rfl rfl ?_; refine TR_pv0 (PV_not rfl) rfl ?_; refine TR_nil ?_)
        | (refine TC_plain (id := 8) (by kernel_rfl) ?_; refine TR_pv0 PV_move rfl ?_; refine TR_pv0 (PV_nil rfl) rfl ?_; refine TR_pv0 (PV_fieldAddr rfl) rfl ?_; refine TR_loadA0 rfl 0 rfl rfl rfl ?_; (refine TR_alloc0 rfl ?_; intro _); refine TR_storeA0_0 rfl rfl rfl rfl rfl rfl ?_; refine TR_nil ?_)
        | (refine TC_plain (id := 9) (by kernel_rfl) ?_; refine TR_pv0 (PV_fieldAddr rfl) rfl ?_; refine TR_load0 rfl 0 rfl rfl rfl ?_; (refine TR_call0 (clone_ct x.w.a x.r.d.bytes.length x.w.cap x.r.d.bytes [x.w.C] rfl (by omega) (src_sl hrec.1 0 rfl)) rfl rfl (.cons (.there (.there .here)) .nil) rfl ?_; rintro _ _ ⟨w, rfl, rfl, hw⟩); refine TR_pv0 (PV_fieldAddr rfl) rfl ?_; refine TR_store0_2 rfl rfl rfl rfl rfl rfl ?_; refine TR_nil ?_)
        | refine TC_skip ?_
        | refine TC_block ?_
        | (refine TC_cond rfl rfl (fun hq => ?_) (fun hq => ?_) <;> (try simp only [qs] at hq) <;> (try simp only [reduceCtorEq] at hq) <;> (try (exfalso; omega)) <;> (try contradiction))
      rename_i c
      have hrl : (X.l.take k) ++ x :: X.l.drop (k + 1) = X.l := (split_at hx).symm
      refine TC_le (L' := w.C :: x.w.C :: dbk c (x.r.d.at_ w) :: x.bk :: [(rb, .cells cells.toArray 88 (0, 0))] :: row.C :: psegs l :: (X.bk b ++ (rsegs (X.l.take k) ++ (rsegs (X.l.drop (k + 1))))) :: R) (Le.refl _) ?_
      refine TC_le (L' := row.C :: dbk c (x.r.d.at_ w) :: x.bk :: w.C :: x.w.C :: [(rb, .cells cells.toArray 88 (0, 0))] :: psegs l :: (X.bk b ++ (rsegs (X.l.take k) ++ (rsegs (X.l.drop (k + 1))))) :: R) (fun a => by simp only [les]; omega) ?_
      repeat' first
        | refine TQ_then ?_
        | (refine TC_plain (id := 10) (by kernel_rfl) ?_; refine TR_pv0 PV_move rfl ?_; refine TR_loadA0 rfl 1 rfl rfl rfl ?_; (refine TR_buildSlice (.inl rfl) rfl rfl rfl rfl ?_; intro _); (refine TR_appendP (.inl rfl) hrow rfl rfl (.cons (.there .here) .nil) (src_at (m := 7) 0 rfl rfl) rfl rfl (by omega) rfl ?_; intro a' cap' C' hS); refine TR_pv0 PV_assign rfl ?_; refine TR_nil ?_)
        | (refine TC_plain (id := 11) (by kernel_rfl) ?_; refine TR_pv0 (PV_add64 rfl rfl (by omega)) rfl ?_; refine TR_pv0 PV_move rfl ?_; refine TR_nil ?_)
        | refine TQ_blk ?_
      rename_i q
      refine TQ_roundP (k + 1, ⟨a', cap', C'⟩, l ++ [⟨x.r.d, w⟩]) ⟨hlt, ?_, ?_, ?_, ?_⟩ (by show X.l.length - (k + 1) < mm; omega) ⟨rfl, rfl, rfl, rfl, rfl, trivial⟩ (fun w' hs => ?_)
      · rw [take_next (recs_at hx)]
        intro r hr
        rcases List.mem_append.1 hr with hr | hr
        · exact hi.gone r hr
        · obtain rfl := List.mem_singleton.1 hr; exact hg
      · rw [take_next (recs_at hx), List.map_append, List.map_append, hi.d]; rfl
      · intro y hy
        rcases List.mem_append.1 hy with hy | hy
        · exact hi.ok y hy
        · obtain rfl := List.mem_singleton.1 hy; exact hw
      · rw [pcells_snoc]; exact hS
      · have hs2 : St w₀ w' (C' :: blk q 32 (x.r.d.at_ w) :: dbk c (x.r.d.at_ w) :: x.bk :: w.C :: x.w.C :: [(rb, .cells cells.toArray 88 (0, 0))] :: psegs l :: (X.bk b ++ (rsegs (X.l.take k) ++ (rsegs (X.l.drop (k + 1))))) :: R) := hs
        exact hs2.le (fun a => by simp only [les, FL.seg_at b hx, hC, psegs_snoc]; omega)
    · have hg' : x.r.gone = false := by simpa using hg
      obtain ⟨e1, e2⟩ := fin k row l hi (.inr ⟨x.r, recs_at hx, hg'⟩)
      repeat' first
        | refine TC_seq ?_
        | refine TQ_then ?_
        | (refine TC_plain (id := 5) (by kernel_rfl) ?_; refine TR_pv0 (PV_lss rfl rfl) rfl ?_; refine TR_nil ?_)
        | (refine TC_plain (id := 6) (by kernel_rfl) ?_; refine TR_pv0 (PV_indexAddr hsl rfl (by omega)) rfl ?_; refine TR_load0 rfl 2 rfl hc rfl ?_; refine TR_pv0 PV_assign rfl ?_; refine TR_nil ?_)
        | (refine TC_plain (id := 7) (by kernel_rfl) ?_; refine TR_pv0 PV_move rfl ?_; refine TR_pv0 (PV_nil rfl) rfl ?_; refine TR_pv0 (PV_fieldAddr rfl) rfl ?_; refine TR_load0 rfl 0 rfl rfl rfl ?_; refine TR_pv0 (PV_not rfl) rfl ?_; refine TR_nil ?_)
        | refine TC_skip ?_
        | refine TC_exit ?_
        | refine TC_block ?_
        | refine TQ_then_exit ?_
        | refine TQ_blk_here ?_
        | refine TQ_blk_past rfl ?_
        | (refine TC_cond rfl rfl (fun hq => ?_) (fun hq => ?_) <;> (try simp only [qs] at hq) <;> (try simp only [reduceCtorEq] at hq) <;> (try (exfalso; omega)) <;> (try contradiction))
      refine TC_le (L' := X.bk b :: row.C :: psegs l :: (X.w.C ++ rsegs X.l) :: R) (fun a => by simp only [les, FL.seg, rsegs_at hx, hC]; omega) ?_
      repeat' first
        | refine TQ_then ?_
        | (refine TC_plain (id := 12) (by kernel_rfl) ?_; refine TR_pv0 PV_move rfl ?_; refine TR_pv0 (PV_nil rfl) rfl ?_; refine TR_pv0 (PV_fieldAddr rfl) rfl ?_; refine TR_load0 rfl 0 rfl rfl rfl ?_; refine TR_pv0 PV_move rfl ?_; refine TR_pv0 (PV_len rfl) rfl ?_; refine TR_pv0 (PV_conv32 rfl) rfl ?_; refine TR_pv0 (PV_add32 rfl rfl) rfl ?_; refine TR_pv0 PV_move rfl ?_; refine TR_pv0 PV_assign rfl ?_; refine TR_pv0 PV_assign rfl ?_; refine TR_nil ?_)
        | refine TC_ret ?_
      have e3 : ((X.cum + (k : Int) % 4294967296) % 4294967296) = (X.cum + l.length) % 4294967296 := by rw [e1]; omega
      refine TQ_ret2e (v := u32 ((X.cum + (k : Int) % 4294967296) % 4294967296)) (u' := row.val k) rfl rfl rfl rfl rfl ⟨row, l, by rw [e3, e1], rfl, by rw [e1]; exact hi.row, hi.ok, e2, by omega⟩ (fun a => by simp only [les, FL.seg]; omega)
  · obtain rfl : k = X.l.length := by omega
    obtain ⟨e1, e2⟩ := fin _ row l hi (.inl rfl)
    refine TC_le (L' := X.bk b :: row.C :: psegs l :: (X.w.C ++ rsegs X.l) :: R) (fun a => by simp only [les, FL.seg]; omega) ?_
    repeat' first
      | refine TC_seq ?_
      | refine TQ_then ?_
      | (refine TC_plain (id := 5) (by kernel_rfl) ?_; refine TR_pv0 (PV_lss rfl rfl) rfl ?_; refine TR_nil ?_)
      | (refine TC_plain (id := 12) (by kernel_rfl) ?_; refine TR_pv0 PV_move rfl ?_; refine TR_pv0 (PV_nil rfl) rfl ?_; refine TR_pv0 (PV_fieldAddr rfl) rfl ?_; refine TR_load0 rfl 0 rfl rfl rfl ?_; refine TR_pv0 PV_move rfl ?_; refine TR_pv0 (PV_len rfl) rfl ?_; refine TR_pv0 (PV_conv32 rfl) rfl ?_; refine TR_pv0 (PV_add32 rfl rfl) rfl ?_; refine TR_pv0 PV_move rfl ?_; refine TR_pv0 PV_assign rfl ?_; refine TR_pv0 PV_assign rfl ?_; refine TR_nil ?_)
      | refine TC_ret ?_
      | refine TC_exit ?_
      | refine TQ_then_exit ?_
      | refine TQ_blk_here ?_
      | (refine TC_cond rfl rfl (fun hq => ?_) (fun hq => ?_) <;> (try simp only [qs] at hq) <;> (try simp only [reduceCtorEq] at hq) <;> (try (exfalso; omega)) <;> (try contradiction))
    have e3 : ((X.cum + (X.l.length : Int) % 4294967296) % 4294967296) = (X.cum + l.length) % 4294967296 := by rw [e1]; omega
    refine TQ_ret2e (v := u32 ((X.cum + (X.l.length : Int) % 4294967296) % 4294967296)) (u' := row.val X.l.length) rfl rfl rfl rfl rfl ⟨row, l, by rw [e3, e1], rfl, by rw [e1]; exact hi.row, hi.ok, e2, by omega⟩ (fun a => by simp only [les, FL.seg]; omega)
theorem pointF_nil : Cd Try.prog 20 [.pointer none] [] (.tuple #[u32 0, .slice none 0 0]) [] := by
  refine Ct_intro Try.func20 rfl (by simp only [Try.ntmps20, List.length_cons, List.length_nil]; omega) ?_
  intro w₀ R
  repeat' first
    | refine TC_seq ?_
    | refine TQ_then ?_
    | (refine TC_plain (id := 0) (by kernel_rfl) ?_; refine TR_pv0 PV_assign rfl ?_; refine TR_pv0 PV_assign rfl ?_; refine TR_nil ?_)
    | (refine TC_plain (id := 1) (by kernel_rfl) ?_; refine TR_pv0 PV_move rfl ?_; refine TR_pv0 (PV_peq_nil rfl rfl) rfl ?_; refine TR_nil ?_)
    | (refine TC_plain (id := 2) (by kernel_rfl) ?_; refine TR_pv0 PV_assign rfl ?_; refine TR_pv0 PV_assign rfl ?_; refine TR_nil ?_)
    | refine TC_cond_t rfl rfl ?_
    | refine TC_ret ?_
    | refine TQ_then_ret ?_
  exact TQ_ret2 rfl rfl rfl rfl rfl ⟨rfl, rfl⟩ .nil
end Go.Proofs.Ytonfkkdahlboiaa
