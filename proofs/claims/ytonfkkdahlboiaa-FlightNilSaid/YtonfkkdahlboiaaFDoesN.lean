/- does, with no flight. -/
import Derived.Test.YtonfkkdahlboiaaFNil
namespace Go.Proofs.Ytonfkkdahlboiaa
open Go.RowKit
set_option maxHeartbeats 4000000
set_option maxRecDepth 10000

def NilPost (H : Seg) (A : Ans) (v : Value) (D : List Seg) : Prop := ∃ w : Row, v = .agg (A.cells w).toArray ∧ D = [w.C, H]

theorem doesn_again (H : Seg) (o : LOp) (hk : o.kind = 1) (cum : Int) : Ct Try.prog 22 [.pointer none, .agg o.cells.toArray, u32 cum] [H] (NilPost H { ans0 with e := 2 }) := by
  refine Ct_intro Try.func22 rfl (by simp only [Try.ntmps22, List.length_cons, List.length_nil]; omega) ?_
  intro w₀ R
  repeat' first
    | refine TC_seq ?_
    | refine TQ_then ?_
    | refine TR_nil ?_
    | refine TQ_noPanic ?_
    | (refine TC_plain (id := 0) (by kernel_rfl) ?_; (refine TR_box0 rfl rfl rfl ?_; intro xb); (refine TR_alloc0 rfl ?_; intro rb); refine TR_nil ?_)
    | (refine TC_plain (id := 1) (by kernel_rfl) ?_; (refine TR_alloc0 rfl ?_; intro zb); refine TR_nil ?_)
    | (refine TC_plain (id := 2) (by kernel_rfl) ?_; refine TR_pv0 (PV_fieldAddr rfl) rfl ?_; (first | refine TR_load0 rfl 0 rfl rfl rfl ?_ | refine TR_load0 rfl 1 rfl rfl rfl ?_ | refine TR_load0 rfl 2 rfl rfl rfl ?_ | refine TR_load0 rfl 3 rfl rfl rfl ?_); refine TR_nil ?_)
    | (refine TC_plain (id := 3) (by kernel_rfl) ?_; refine TR_pv0 (PV_eql rfl rfl) rfl ?_; refine TR_pv0 PV_assign rfl ?_; refine TR_nil ?_)
    | (refine TC_plain (id := 12) (by kernel_rfl) ?_; refine TR_pv0 (PV_eql rfl rfl) rfl ?_; refine TR_pv0 PV_assign rfl ?_; refine TR_nil ?_)
    | (refine TC_plain (id := 13) (by kernel_rfl) ?_; refine TR_pv0 PV_move rfl ?_; refine TR_pv0 PV_move rfl ?_; refine TR_pv0 (PV_fieldAddr rfl) rfl ?_; (first | refine TR_load0 rfl 0 rfl rfl rfl ?_ | refine TR_load0 rfl 1 rfl rfl rfl ?_ | refine TR_load0 rfl 2 rfl rfl rfl ?_ | refine TR_load0 rfl 3 rfl rfl rfl ?_); refine TR_pv0 (PV_add32 rfl rfl) rfl ?_; refine TR_pv0 (PV_fieldAddr rfl) rfl ?_; (first | refine TR_load0 rfl 0 rfl rfl rfl ?_ | refine TR_load0 rfl 1 rfl rfl rfl ?_ | refine TR_load0 rfl 2 rfl rfl rfl ?_ | refine TR_load0 rfl 3 rfl rfl rfl ?_); refine TR_pv0 (PV_fieldAddr rfl) rfl ?_; (first | refine TR_load0 rfl 0 rfl rfl rfl ?_ | refine TR_load0 rfl 1 rfl rfl rfl ?_ | refine TR_load0 rfl 2 rfl rfl rfl ?_ | refine TR_load0 rfl 3 rfl rfl rfl ?_); refine TR_calld0 (againF_nil (doTsn o cum) o.path o.now) rfl rfl rfl rfl ?_; refine TR_pv0 (PV_fieldAddr rfl) rfl ?_; (first | refine TR_store0_0 rfl rfl rfl rfl rfl rfl ?_ | refine TR_store0_1 rfl rfl rfl rfl rfl rfl ?_ | refine TR_store0_2 rfl rfl rfl rfl rfl rfl ?_ | refine TR_store0_3 rfl rfl rfl rfl rfl rfl ?_); refine TR_nil ?_)
    | (refine TC_plain (id := 29) (by kernel_rfl) ?_; (first | refine TR_loadA0 rfl 0 rfl rfl rfl ?_ | refine TR_loadA0 rfl 1 rfl rfl rfl ?_ | refine TR_loadA0 rfl 2 rfl rfl rfl ?_ | refine TR_loadA0 rfl 3 rfl rfl rfl ?_); (first | refine TR_storeA0_0 rfl rfl rfl rfl rfl rfl ?_ | refine TR_storeA0_1 rfl rfl rfl rfl rfl rfl ?_ | refine TR_storeA0_2 rfl rfl rfl rfl rfl rfl ?_ | refine TR_storeA0_3 rfl rfl rfl rfl rfl rfl ?_); refine TR_nil ?_)
    | refine TC_cond_t rfl rfl ?_
    | refine TC_cond_f rfl rfl ?_
    | refine TC_skip ?_
    | refine TC_ret ?_
    | refine TC_exit ?_
    | refine TC_block ?_
    | refine TQ_then_ret ?_
    | refine TQ_then_exit ?_
    | refine TQ_blk ?_
    | refine TQ_blk_ret ?_
    | refine TQ_blk_here ?_
    | refine TQ_blk_past rfl ?_
    | refine TC_label ?_
    | (refine TC_cond rfl rfl (fun hq => ?_) (fun hq => ?_) <;> (try simp only [qs] at hq) <;> (try simp only [reduceCtorEq] at hq) <;> (try (exfalso; omega)) <;> (try contradiction))
  refine TQ_le (L' := asbk zb (Ans.cells { ans0 with e := 2 } nilRow) :: asbk rb (setAll zAns 0 (((Ans.cells { ans0 with e := 2 } nilRow).drop 0).take 32)) :: opbk xb o :: H :: R) (Le.refl _) ?_
  rw [cp_ans]
  exact TQ_retCe (cs := Ans.cells { ans0 with e := 2 } nilRow) (C' := [nilRow.C, H]) rfl rfl rfl 1 rfl rfl ⟨nilRow, rfl, rfl⟩ (fun a => by simp only [les, nilRow]; omega)

theorem doesn_mark (H : Seg) (o : LOp) (hk : o.kind = 3) (cum : Int) : Ct Try.prog 22 [.pointer none, .agg o.cells.toArray, u32 cum] [H] (NilPost H ans0) := by
  refine Ct_intro Try.func22 rfl (by simp only [Try.ntmps22, List.length_cons, List.length_nil]; omega) ?_
  intro w₀ R
  repeat' first
    | refine TC_seq ?_
    | refine TQ_then ?_
    | refine TR_nil ?_
    | refine TQ_noPanic ?_
    | (refine TC_plain (id := 0) (by kernel_rfl) ?_; (refine TR_box0 rfl rfl rfl ?_; intro xb); (refine TR_alloc0 rfl ?_; intro rb); refine TR_nil ?_)
    | (refine TC_plain (id := 1) (by kernel_rfl) ?_; (refine TR_alloc0 rfl ?_; intro zb); refine TR_nil ?_)
    | (refine TC_plain (id := 2) (by kernel_rfl) ?_; refine TR_pv0 (PV_fieldAddr rfl) rfl ?_; (first | refine TR_load0 rfl 0 rfl rfl rfl ?_ | refine TR_load0 rfl 1 rfl rfl rfl ?_ | refine TR_load0 rfl 2 rfl rfl rfl ?_ | refine TR_load0 rfl 3 rfl rfl rfl ?_); refine TR_nil ?_)
    | (refine TC_plain (id := 3) (by kernel_rfl) ?_; refine TR_pv0 (PV_eql rfl rfl) rfl ?_; refine TR_pv0 PV_assign rfl ?_; refine TR_nil ?_)
    | (refine TC_plain (id := 12) (by kernel_rfl) ?_; refine TR_pv0 (PV_eql rfl rfl) rfl ?_; refine TR_pv0 PV_assign rfl ?_; refine TR_nil ?_)
    | (refine TC_plain (id := 14) (by kernel_rfl) ?_; refine TR_pv0 (PV_eql rfl rfl) rfl ?_; refine TR_pv0 PV_assign rfl ?_; refine TR_nil ?_)
    | (refine TC_plain (id := 22) (by kernel_rfl) ?_; refine TR_pv0 (PV_eql rfl rfl) rfl ?_; refine TR_pv0 PV_assign rfl ?_; refine TR_nil ?_)
    | (refine TC_plain (id := 23) (by kernel_rfl) ?_; refine TR_pv0 PV_move rfl ?_; refine TR_pv0 (PV_fieldAddr rfl) rfl ?_; (first | refine TR_load0 rfl 0 rfl rfl rfl ?_ | refine TR_load0 rfl 1 rfl rfl rfl ?_ | refine TR_load0 rfl 2 rfl rfl rfl ?_ | refine TR_load0 rfl 3 rfl rfl rfl ?_); refine TR_calld0 (markF_nil o.path) rfl rfl rfl rfl ?_; refine TR_pv0 (PV_fieldAddr rfl) rfl ?_; (first | refine TR_store0_0 rfl rfl rfl rfl rfl rfl ?_ | refine TR_store0_1 rfl rfl rfl rfl rfl rfl ?_ | refine TR_store0_2 rfl rfl rfl rfl rfl rfl ?_ | refine TR_store0_3 rfl rfl rfl rfl rfl rfl ?_); refine TR_nil ?_)
    | (refine TC_plain (id := 29) (by kernel_rfl) ?_; (first | refine TR_loadA0 rfl 0 rfl rfl rfl ?_ | refine TR_loadA0 rfl 1 rfl rfl rfl ?_ | refine TR_loadA0 rfl 2 rfl rfl rfl ?_ | refine TR_loadA0 rfl 3 rfl rfl rfl ?_); (first | refine TR_storeA0_0 rfl rfl rfl rfl rfl rfl ?_ | refine TR_storeA0_1 rfl rfl rfl rfl rfl rfl ?_ | refine TR_storeA0_2 rfl rfl rfl rfl rfl rfl ?_ | refine TR_storeA0_3 rfl rfl rfl rfl rfl rfl ?_); refine TR_nil ?_)
    | refine TC_cond_t rfl rfl ?_
    | refine TC_cond_f rfl rfl ?_
    | refine TC_skip ?_
    | refine TC_ret ?_
    | refine TC_exit ?_
    | refine TC_block ?_
    | refine TQ_then_ret ?_
    | refine TQ_then_exit ?_
    | refine TQ_blk ?_
    | refine TQ_blk_ret ?_
    | refine TQ_blk_here ?_
    | refine TQ_blk_past rfl ?_
    | refine TC_label ?_
    | (refine TC_cond rfl rfl (fun hq => ?_) (fun hq => ?_) <;> (try simp only [qs] at hq) <;> (try simp only [reduceCtorEq] at hq) <;> (try (exfalso; omega)) <;> (try contradiction))
  refine TQ_le (L' := asbk zb (Ans.cells ans0 nilRow) :: asbk rb (setAll zAns 0 (((Ans.cells ans0 nilRow).drop 0).take 32)) :: opbk xb o :: H :: R) (Le.refl _) ?_
  rw [cp_ans]
  exact TQ_retCe (cs := Ans.cells ans0 nilRow) (C' := [nilRow.C, H]) rfl rfl rfl 1 rfl rfl ⟨nilRow, rfl, rfl⟩ (fun a => by simp only [les, nilRow]; omega)

theorem doesn_abandon (H : Seg) (o : LOp) (hk : o.kind = 4) (cum : Int) : Ct Try.prog 22 [.pointer none, .agg o.cells.toArray, u32 cum] [H] (NilPost H ans0) := by
  refine Ct_intro Try.func22 rfl (by simp only [Try.ntmps22, List.length_cons, List.length_nil]; omega) ?_
  intro w₀ R
  repeat' first
    | refine TC_seq ?_
    | refine TQ_then ?_
    | refine TR_nil ?_
    | refine TQ_noPanic ?_
    | (refine TC_plain (id := 0) (by kernel_rfl) ?_; (refine TR_box0 rfl rfl rfl ?_; intro xb); (refine TR_alloc0 rfl ?_; intro rb); refine TR_nil ?_)
    | (refine TC_plain (id := 1) (by kernel_rfl) ?_; (refine TR_alloc0 rfl ?_; intro zb); refine TR_nil ?_)
    | (refine TC_plain (id := 2) (by kernel_rfl) ?_; refine TR_pv0 (PV_fieldAddr rfl) rfl ?_; (first | refine TR_load0 rfl 0 rfl rfl rfl ?_ | refine TR_load0 rfl 1 rfl rfl rfl ?_ | refine TR_load0 rfl 2 rfl rfl rfl ?_ | refine TR_load0 rfl 3 rfl rfl rfl ?_); refine TR_nil ?_)
    | (refine TC_plain (id := 3) (by kernel_rfl) ?_; refine TR_pv0 (PV_eql rfl rfl) rfl ?_; refine TR_pv0 PV_assign rfl ?_; refine TR_nil ?_)
    | (refine TC_plain (id := 12) (by kernel_rfl) ?_; refine TR_pv0 (PV_eql rfl rfl) rfl ?_; refine TR_pv0 PV_assign rfl ?_; refine TR_nil ?_)
    | (refine TC_plain (id := 14) (by kernel_rfl) ?_; refine TR_pv0 (PV_eql rfl rfl) rfl ?_; refine TR_pv0 PV_assign rfl ?_; refine TR_nil ?_)
    | (refine TC_plain (id := 22) (by kernel_rfl) ?_; refine TR_pv0 (PV_eql rfl rfl) rfl ?_; refine TR_pv0 PV_assign rfl ?_; refine TR_nil ?_)
    | (refine TC_plain (id := 24) (by kernel_rfl) ?_; refine TR_pv0 (PV_eql rfl rfl) rfl ?_; refine TR_pv0 PV_assign rfl ?_; refine TR_nil ?_)
    | (refine TC_plain (id := 25) (by kernel_rfl) ?_; refine TR_pv0 PV_move rfl ?_; refine TR_pv0 (PV_fieldAddr rfl) rfl ?_; (first | refine TR_load0 rfl 0 rfl rfl rfl ?_ | refine TR_load0 rfl 1 rfl rfl rfl ?_ | refine TR_load0 rfl 2 rfl rfl rfl ?_ | refine TR_load0 rfl 3 rfl rfl rfl ?_); refine TR_calld0 (abandonF_nil o.id) rfl rfl rfl rfl ?_; refine TR_pv0 (PV_fieldAddr rfl) rfl ?_; (first | refine TR_store0_0 rfl rfl rfl rfl rfl rfl ?_ | refine TR_store0_1 rfl rfl rfl rfl rfl rfl ?_ | refine TR_store0_2 rfl rfl rfl rfl rfl rfl ?_ | refine TR_store0_3 rfl rfl rfl rfl rfl rfl ?_); refine TR_nil ?_)
    | (refine TC_plain (id := 29) (by kernel_rfl) ?_; (first | refine TR_loadA0 rfl 0 rfl rfl rfl ?_ | refine TR_loadA0 rfl 1 rfl rfl rfl ?_ | refine TR_loadA0 rfl 2 rfl rfl rfl ?_ | refine TR_loadA0 rfl 3 rfl rfl rfl ?_); (first | refine TR_storeA0_0 rfl rfl rfl rfl rfl rfl ?_ | refine TR_storeA0_1 rfl rfl rfl rfl rfl rfl ?_ | refine TR_storeA0_2 rfl rfl rfl rfl rfl rfl ?_ | refine TR_storeA0_3 rfl rfl rfl rfl rfl rfl ?_); refine TR_nil ?_)
    | refine TC_cond_t rfl rfl ?_
    | refine TC_cond_f rfl rfl ?_
    | refine TC_skip ?_
    | refine TC_ret ?_
    | refine TC_exit ?_
    | refine TC_block ?_
    | refine TQ_then_ret ?_
    | refine TQ_then_exit ?_
    | refine TQ_blk ?_
    | refine TQ_blk_ret ?_
    | refine TQ_blk_here ?_
    | refine TQ_blk_past rfl ?_
    | refine TC_label ?_
    | (refine TC_cond rfl rfl (fun hq => ?_) (fun hq => ?_) <;> (try simp only [qs] at hq) <;> (try simp only [reduceCtorEq] at hq) <;> (try (exfalso; omega)) <;> (try contradiction))
  refine TQ_le (L' := asbk zb (Ans.cells ans0 nilRow) :: asbk rb (setAll zAns 0 (((Ans.cells ans0 nilRow).drop 0).take 32)) :: opbk xb o :: H :: R) (Le.refl _) ?_
  rw [cp_ans]
  exact TQ_retCe (cs := Ans.cells ans0 nilRow) (C' := [nilRow.C, H]) rfl rfl rfl 1 rfl rfl ⟨nilRow, rfl, rfl⟩ (fun a => by simp only [les, nilRow]; omega)

theorem doesn_none (H : Seg) (o : LOp) (hk0 : ¬ o.kind = 0) (hk1 : ¬ o.kind = 1) (hk2 : ¬ o.kind = 2) (hk3 : ¬ o.kind = 3) (hk4 : ¬ o.kind = 4) (hk5 : ¬ o.kind = 5) (cum : Int) : Ct Try.prog 22 [.pointer none, .agg o.cells.toArray, u32 cum] [H] (NilPost H ans0) := by
  refine Ct_intro Try.func22 rfl (by simp only [Try.ntmps22, List.length_cons, List.length_nil]; omega) ?_
  intro w₀ R
  repeat' first
    | refine TC_seq ?_
    | refine TQ_then ?_
    | refine TR_nil ?_
    | refine TQ_noPanic ?_
    | (refine TC_plain (id := 0) (by kernel_rfl) ?_; (refine TR_box0 rfl rfl rfl ?_; intro xb); (refine TR_alloc0 rfl ?_; intro rb); refine TR_nil ?_)
    | (refine TC_plain (id := 1) (by kernel_rfl) ?_; (refine TR_alloc0 rfl ?_; intro zb); refine TR_nil ?_)
    | (refine TC_plain (id := 2) (by kernel_rfl) ?_; refine TR_pv0 (PV_fieldAddr rfl) rfl ?_; (first | refine TR_load0 rfl 0 rfl rfl rfl ?_ | refine TR_load0 rfl 1 rfl rfl rfl ?_ | refine TR_load0 rfl 2 rfl rfl rfl ?_ | refine TR_load0 rfl 3 rfl rfl rfl ?_); refine TR_nil ?_)
    | (refine TC_plain (id := 3) (by kernel_rfl) ?_; refine TR_pv0 (PV_eql rfl rfl) rfl ?_; refine TR_pv0 PV_assign rfl ?_; refine TR_nil ?_)
    | (refine TC_plain (id := 12) (by kernel_rfl) ?_; refine TR_pv0 (PV_eql rfl rfl) rfl ?_; refine TR_pv0 PV_assign rfl ?_; refine TR_nil ?_)
    | (refine TC_plain (id := 14) (by kernel_rfl) ?_; refine TR_pv0 (PV_eql rfl rfl) rfl ?_; refine TR_pv0 PV_assign rfl ?_; refine TR_nil ?_)
    | (refine TC_plain (id := 22) (by kernel_rfl) ?_; refine TR_pv0 (PV_eql rfl rfl) rfl ?_; refine TR_pv0 PV_assign rfl ?_; refine TR_nil ?_)
    | (refine TC_plain (id := 24) (by kernel_rfl) ?_; refine TR_pv0 (PV_eql rfl rfl) rfl ?_; refine TR_pv0 PV_assign rfl ?_; refine TR_nil ?_)
    | (refine TC_plain (id := 26) (by kernel_rfl) ?_; refine TR_pv0 (PV_eql rfl rfl) rfl ?_; refine TR_pv0 PV_assign rfl ?_; refine TR_nil ?_)
    | (refine TC_plain (id := 29) (by kernel_rfl) ?_; (first | refine TR_loadA0 rfl 0 rfl rfl rfl ?_ | refine TR_loadA0 rfl 1 rfl rfl rfl ?_ | refine TR_loadA0 rfl 2 rfl rfl rfl ?_ | refine TR_loadA0 rfl 3 rfl rfl rfl ?_); (first | refine TR_storeA0_0 rfl rfl rfl rfl rfl rfl ?_ | refine TR_storeA0_1 rfl rfl rfl rfl rfl rfl ?_ | refine TR_storeA0_2 rfl rfl rfl rfl rfl rfl ?_ | refine TR_storeA0_3 rfl rfl rfl rfl rfl rfl ?_); refine TR_nil ?_)
    | refine TC_cond_t rfl rfl ?_
    | refine TC_cond_f rfl rfl ?_
    | refine TC_skip ?_
    | refine TC_ret ?_
    | refine TC_exit ?_
    | refine TC_block ?_
    | refine TQ_then_ret ?_
    | refine TQ_then_exit ?_
    | refine TQ_blk ?_
    | refine TQ_blk_ret ?_
    | refine TQ_blk_here ?_
    | refine TQ_blk_past rfl ?_
    | refine TC_label ?_
    | (refine TC_cond rfl rfl (fun hq => ?_) (fun hq => ?_) <;> (try simp only [qs] at hq) <;> (try simp only [reduceCtorEq] at hq) <;> (try (exfalso; omega)) <;> (try contradiction))
  refine TQ_le (L' := asbk zb (Ans.cells ans0 nilRow) :: asbk rb (setAll zAns 0 (((Ans.cells ans0 nilRow).drop 0).take 32)) :: opbk xb o :: H :: R) (Le.refl _) ?_
  rw [cp_ans]
  exact TQ_retCe (cs := Ans.cells ans0 nilRow) (C' := [nilRow.C, H]) rfl rfl rfl 1 rfl rfl ⟨nilRow, rfl, rfl⟩ (fun a => by simp only [les, nilRow]; omega)

theorem doesn_add (H : Seg) (o : LOp) (ho : o.ok H) (hb : o.d.bytes.length ≤ 65536) (hk : o.kind = 0) (cum : Int) :
    Ct Try.prog 22 [.pointer none, .agg o.cells.toArray, u32 cum] [H] (NilPost H { ans0 with e := 2 }) := by
  have hsrc : ∀ (L : List Seg) (i : Nat), L[i]? = some H → ∀ w, sat w L → SrcAt w o.ba (u8s o.d.bytes) := fun L i hm => by
    have := src_slice ho.b (by omega) (fun x hx => by obtain ⟨y, _, rfl⟩ := List.mem_map.1 hx; rfl) i hm
    rwa [flat_u8] at this
  refine Ct_intro Try.func22 rfl (by simp only [Try.ntmps22, List.length_cons, List.length_nil]; omega) ?_
  intro w₀ R
  repeat' first
    | refine TC_seq ?_
    | refine TQ_then ?_
    | refine TR_nil ?_
    | refine TQ_noPanic ?_
    | (refine TC_plain (id := 0) (by kernel_rfl) ?_; (refine TR_box0 rfl rfl rfl ?_; intro xb); (refine TR_alloc0 rfl ?_; intro rb); refine TR_nil ?_)
    | (refine TC_plain (id := 1) (by kernel_rfl) ?_; (refine TR_alloc0 rfl ?_; intro zb); refine TR_nil ?_)
    | (refine TC_plain (id := 2) (by kernel_rfl) ?_; refine TR_pv0 (PV_fieldAddr rfl) rfl ?_; (first | refine TR_load0 rfl 0 rfl rfl rfl ?_ | refine TR_load0 rfl 1 rfl rfl rfl ?_ | refine TR_load0 rfl 2 rfl rfl rfl ?_ | refine TR_load0 rfl 3 rfl rfl rfl ?_ | refine TR_load0 rfl 4 rfl rfl rfl ?_ | refine TR_load0 rfl 5 rfl rfl rfl ?_ | refine TR_load0 rfl 6 rfl rfl rfl ?_); refine TR_nil ?_)
    | (refine TC_plain (id := 3) (by kernel_rfl) ?_; refine TR_pv0 (PV_eql rfl rfl) rfl ?_; refine TR_pv0 PV_assign rfl ?_; refine TR_nil ?_)
    | (refine TC_plain (id := 4) (by kernel_rfl) ?_; refine TR_pv0 (PV_fieldAddr rfl) rfl ?_; (first | refine TR_loadA0 rfl 0 rfl rfl rfl ?_ | refine TR_loadA0 rfl 1 rfl rfl rfl ?_ | refine TR_loadA0 rfl 2 rfl rfl rfl ?_ | refine TR_loadA0 rfl 3 rfl rfl rfl ?_ | refine TR_loadA0 rfl 4 rfl rfl rfl ?_ | refine TR_loadA0 rfl 5 rfl rfl rfl ?_ | refine TR_loadA0 rfl 6 rfl rfl rfl ?_); (refine TR_alloc0 rfl ?_; intro db); (first | refine TR_storeA0_0 rfl rfl rfl rfl rfl rfl ?_ | refine TR_storeA0_1 rfl rfl rfl rfl rfl rfl ?_ | refine TR_storeA0_2 rfl rfl rfl rfl rfl rfl ?_ | refine TR_storeA0_3 rfl rfl rfl rfl rfl rfl ?_ | refine TR_storeA0_4 rfl rfl rfl rfl rfl rfl ?_ | refine TR_storeA0_5 rfl rfl rfl rfl rfl rfl ?_ | refine TR_storeA0_6 rfl rfl rfl rfl rfl rfl ?_); refine TR_nil ?_)
    | (refine TC_plain (id := 5) (by kernel_rfl) ?_; (refine TR_buildSlice (.inl rfl) rfl rfl rfl rfl ?_; intro q); refine TR_pv0 (PV_fieldAddr rfl) rfl ?_; refine TR_pv0 (PV_fieldAddr rfl) rfl ?_; (first | refine TR_load0 rfl 0 rfl rfl rfl ?_ | refine TR_load0 rfl 1 rfl rfl rfl ?_ | refine TR_load0 rfl 2 rfl rfl rfl ?_ | refine TR_load0 rfl 3 rfl rfl rfl ?_ | refine TR_load0 rfl 4 rfl rfl rfl ?_ | refine TR_load0 rfl 5 rfl rfl rfl ?_ | refine TR_load0 rfl 6 rfl rfl rfl ?_); (refine TR_append00 (.inl rfl) (empty_ok _ _ _) rfl rfl (.cons .here .nil) (hsrc _ 5 rfl) (by rw [u8s_length, Nat.mul_one]) (u8s_all _) (by omega) rfl ?_; intro a' cap' C' hS); refine TR_pv0 (PV_fieldAddr rfl) rfl ?_; (first | refine TR_store0_0 rfl rfl rfl rfl rfl rfl ?_ | refine TR_store0_1 rfl rfl rfl rfl rfl rfl ?_ | refine TR_store0_2 rfl rfl rfl rfl rfl rfl ?_ | refine TR_store0_3 rfl rfl rfl rfl rfl rfl ?_ | refine TR_store0_4 rfl rfl rfl rfl rfl rfl ?_ | refine TR_store0_5 rfl rfl rfl rfl rfl rfl ?_ | refine TR_store0_6 rfl rfl rfl rfl rfl rfl ?_); refine TR_nil ?_)
    | refine TC_cond_t rfl rfl ?_
    | refine TC_cond_f rfl rfl ?_
    | refine TC_skip ?_
    | refine TC_ret ?_
    | refine TC_exit ?_
    | refine TC_block ?_
    | refine TQ_then_ret ?_
    | refine TQ_then_exit ?_
    | refine TQ_blk ?_
    | refine TQ_blk_ret ?_
    | refine TQ_blk_here ?_
    | refine TQ_blk_past rfl ?_
    | refine TC_label ?_
    | (refine TC_cond rfl rfl (fun hq => ?_) (fun hq => ?_) <;> (try simp only [qs] at hq) <;> (try simp only [reduceCtorEq] at hq) <;> (try (exfalso; omega)) <;> (try contradiction))
  refine TC_slots [(0, .pointer none), (2, u32 cum), (4, ptr xb), (6, ptr rb), (7, ptr zb), (8, ptr db)] ⟨rfl, rfl, rfl, rfl, rfl, rfl, trivial⟩ fun σ' => ?_
  refine TC_le (L' := C' :: dbk db (o.d.cells (.slice a' o.d.bytes.length cap')) :: asbk rb zAns :: opbk xb o :: H :: R) (Le.trans (M := C' :: dbk db (o.d.cells (.slice a' o.d.bytes.length cap')) :: asbk zb zAns :: asbk rb zAns :: opbk xb o :: H :: R) (Le.refl _) (fun a => by simp only [les]; omega)) ?_
  repeat' first
    | refine TC_seq ?_
    | refine TQ_then ?_
    | refine TR_nil ?_
    | refine TQ_noPanic ?_
    | (refine TC_plain (id := 6) (by kernel_rfl) ?_; refine TR_pv0 PV_move rfl ?_; (first | refine TR_loadA0 rfl 0 rfl rfl rfl ?_ | refine TR_loadA0 rfl 1 rfl rfl rfl ?_ | refine TR_loadA0 rfl 2 rfl rfl rfl ?_ | refine TR_loadA0 rfl 3 rfl rfl rfl ?_ | refine TR_loadA0 rfl 4 rfl rfl rfl ?_); refine TR_pv0 (PV_fieldAddr rfl) rfl ?_; (first | refine TR_load0 rfl 0 rfl rfl rfl ?_ | refine TR_load0 rfl 1 rfl rfl rfl ?_ | refine TR_load0 rfl 2 rfl rfl rfl ?_ | refine TR_load0 rfl 3 rfl rfl rfl ?_ | refine TR_load0 rfl 4 rfl rfl rfl ?_); refine TR_pv0 (PV_fieldAddr rfl) rfl ?_; (first | refine TR_load0 rfl 0 rfl rfl rfl ?_ | refine TR_load0 rfl 1 rfl rfl rfl ?_ | refine TR_load0 rfl 2 rfl rfl rfl ?_ | refine TR_load0 rfl 3 rfl rfl rfl ?_ | refine TR_load0 rfl 4 rfl rfl rfl ?_); refine TR_pv0 (PV_fieldAddr rfl) rfl ?_; (first | refine TR_load0 rfl 0 rfl rfl rfl ?_ | refine TR_load0 rfl 1 rfl rfl rfl ?_ | refine TR_load0 rfl 2 rfl rfl rfl ?_ | refine TR_load0 rfl 3 rfl rfl rfl ?_ | refine TR_load0 rfl 4 rfl rfl rfl ?_); refine TR_calld0 (addF_nil o.d (.slice a' o.d.bytes.length cap') o.path o.now o.id) rfl rfl rfl rfl ?_; refine TR_pv0 PV_move rfl ?_; refine TR_pv0 (PV_extract rfl rfl) rfl ?_; refine TR_pv0 (PV_extract rfl rfl) rfl ?_; refine TR_pv0 PV_assign rfl ?_; refine TR_pv0 PV_assign rfl ?_; refine TR_nil ?_)
    | (refine TC_plain (id := 7) (by kernel_rfl) ?_; refine TR_pv0 PV_assign rfl ?_; refine TR_nil ?_)
    | refine TC_cond_t rfl rfl ?_
    | refine TC_cond_f rfl rfl ?_
    | refine TC_skip ?_
    | refine TC_ret ?_
    | refine TC_exit ?_
    | refine TC_block ?_
    | refine TQ_then_ret ?_
    | refine TQ_then_exit ?_
    | refine TQ_blk ?_
    | refine TQ_blk_ret ?_
    | refine TQ_blk_here ?_
    | refine TQ_blk_past rfl ?_
    | refine TC_label ?_
    | (refine TC_cond rfl rfl (fun hq => ?_) (fun hq => ?_) <;> (try simp only [qs] at hq) <;> (try simp only [reduceCtorEq] at hq) <;> (try (exfalso; omega)) <;> (try contradiction))
  refine TC_loopP (X := Nat × Seg) (fun s => s.2 :: dbk db (o.d.cells (.slice a' o.d.bytes.length cap')) :: asbk rb zAns :: opbk xb o :: H :: R)
    (fun s => [(6, ptr rb), (8, ptr db), (9, u32 (0)), (10, i64 (2)), (11, i64 s.1)]) (fun s => s.1 ≤ o.d.bytes.length ∧ ∃ cs, Sl 5 1 a' o.d.bytes.length cap' s.2 cs) (fun s => o.d.bytes.length - s.1) (0, C')
    ⟨Nat.zero_le _, _, hS⟩ ⟨rfl, rfl, rfl, rfl, rfl, trivial⟩ (fun w hs => hs.le (fun a => by simp only [les]; omega)) ?_
  rintro ⟨i, C2⟩ σg mm hmm ⟨hi, cs2, hS2⟩
  dsimp only at hmm hi hS2 ⊢
  by_cases hlt : i < o.d.bytes.length
  · obtain ⟨qb, off, cells, rfl, rfl, hl, ht⟩ := hS2.opened (by omega)
    obtain ⟨h1, h2⟩ := hS2.cap
    have hble : Nat.blt (off + (i : Int).toNat * 1) cells.length = true := by rw [Int.toNat_natCast]; exact Nat.ble_eq_true_of_le (by omega)
    repeat' first
      | refine TC_seq ?_
      | refine TQ_then ?_
      | refine TR_nil ?_
      | refine TQ_noPanic ?_
      | (refine TC_plain (id := 8) (by kernel_rfl) ?_; refine TR_pv0 PV_move rfl ?_; refine TR_pv0 (PV_fieldAddr rfl) rfl ?_; (first | refine TR_load0 rfl 0 rfl rfl rfl ?_ | refine TR_load0 rfl 1 rfl rfl rfl ?_ | refine TR_load0 rfl 2 rfl rfl rfl ?_ | refine TR_load0 rfl 3 rfl rfl rfl ?_ | refine TR_load0 rfl 4 rfl rfl rfl ?_); refine TR_pv0 (PV_len rfl) rfl ?_; refine TR_pv0 (PV_lss rfl rfl) rfl ?_; refine TR_nil ?_)
      | (refine TC_plain (id := 10) (by kernel_rfl) ?_; refine TR_pv0 (PV_fieldAddr rfl) rfl ?_; (first | refine TR_load0 rfl 0 rfl rfl rfl ?_ | refine TR_load0 rfl 1 rfl rfl rfl ?_ | refine TR_load0 rfl 2 rfl rfl rfl ?_ | refine TR_load0 rfl 3 rfl rfl rfl ?_ | refine TR_load0 rfl 4 rfl rfl rfl ?_); refine TR_pv0 PV_move rfl ?_; (first | refine TR_pv0 (PV_indexAddr rfl rfl (by omega)) rfl ?_ | refine TR_pv0 (PV_indexArr rfl rfl (by omega)) rfl ?_); (first | refine TR_store0_0 rfl rfl rfl rfl hble rfl ?_ | refine TR_store0_0 rfl rfl rfl rfl rfl rfl ?_ | refine TR_store0_1 rfl rfl rfl rfl rfl rfl ?_ | refine TR_store0_2 rfl rfl rfl rfl rfl rfl ?_ | refine TR_store0_3 rfl rfl rfl rfl rfl rfl ?_ | refine TR_store0_4 rfl rfl rfl rfl rfl rfl ?_); refine TR_nil ?_)
      | (refine TC_plain (id := 9) (by kernel_rfl) ?_; refine TR_pv0 PV_move rfl ?_; (first | refine TR_pv0 (PV_add64 rfl rfl (by omega)) rfl ?_ | refine TR_pv0 (PV_add64w rfl rfl) rfl ?_); refine TR_pv0 PV_assign rfl ?_; refine TR_nil ?_)
      | refine TC_cond_t rfl rfl ?_
      | refine TC_cond_f rfl rfl ?_
      | refine TC_skip ?_
      | refine TC_ret ?_
      | refine TC_exit ?_
      | refine TC_block ?_
      | refine TQ_then_ret ?_
      | refine TQ_then_exit ?_
      | refine TQ_blk ?_
      | refine TQ_blk_ret ?_
      | refine TQ_blk_here ?_
      | refine TQ_blk_past rfl ?_
      | refine TC_label ?_
      | (refine TC_cond rfl rfl (fun hq => ?_) (fun hq => ?_) <;> (try simp only [qs] at hq) <;> (try simp only [reduceCtorEq] at hq) <;> (try (exfalso; omega)) <;> (try contradiction))
    exact TQ_roundP (i + 1, _) ⟨hlt, _, hS2.touch hl _ _⟩ (by show o.d.bytes.length - (i + 1) < mm; omega) ⟨rfl, rfl, rfl, rfl, rfl, trivial⟩ (fun w hs => hs)
  · repeat' first
    | refine TC_seq ?_
    | refine TQ_then ?_
    | refine TR_nil ?_
    | refine TQ_noPanic ?_
    | (refine TC_plain (id := 8) (by kernel_rfl) ?_; refine TR_pv0 PV_move rfl ?_; refine TR_pv0 (PV_fieldAddr rfl) rfl ?_; (first | refine TR_load0 rfl 0 rfl rfl rfl ?_ | refine TR_load0 rfl 1 rfl rfl rfl ?_ | refine TR_load0 rfl 2 rfl rfl rfl ?_ | refine TR_load0 rfl 3 rfl rfl rfl ?_ | refine TR_load0 rfl 4 rfl rfl rfl ?_); refine TR_pv0 (PV_len rfl) rfl ?_; refine TR_pv0 (PV_lss rfl rfl) rfl ?_; refine TR_nil ?_)
    | (refine TC_plain (id := 10) (by kernel_rfl) ?_; refine TR_pv0 (PV_fieldAddr rfl) rfl ?_; (first | refine TR_load0 rfl 0 rfl rfl rfl ?_ | refine TR_load0 rfl 1 rfl rfl rfl ?_ | refine TR_load0 rfl 2 rfl rfl rfl ?_ | refine TR_load0 rfl 3 rfl rfl rfl ?_ | refine TR_load0 rfl 4 rfl rfl rfl ?_); refine TR_pv0 PV_move rfl ?_; (first | refine TR_pv0 (PV_indexAddr rfl rfl (by omega)) rfl ?_ | refine TR_pv0 (PV_indexArr rfl rfl (by omega)) rfl ?_); (first | refine TR_store0_0 rfl rfl rfl rfl rfl rfl ?_ | refine TR_store0_1 rfl rfl rfl rfl rfl rfl ?_ | refine TR_store0_2 rfl rfl rfl rfl rfl rfl ?_ | refine TR_store0_3 rfl rfl rfl rfl rfl rfl ?_ | refine TR_store0_4 rfl rfl rfl rfl rfl rfl ?_); refine TR_nil ?_)
    | (refine TC_plain (id := 9) (by kernel_rfl) ?_; refine TR_pv0 PV_move rfl ?_; (first | refine TR_pv0 (PV_add64 rfl rfl (by omega)) rfl ?_ | refine TR_pv0 (PV_add64w rfl rfl) rfl ?_); refine TR_pv0 PV_assign rfl ?_; refine TR_nil ?_)
    | (refine TC_plain (id := 11) (by kernel_rfl) ?_; refine TR_pv0 PV_move rfl ?_; refine TR_pv0 (PV_conv64 rfl (by omega)) rfl ?_; refine TR_pv0 PV_move rfl ?_; refine TR_pv0 (PV_build rfl rfl) rfl ?_; (first | refine TR_storeA0_0 rfl rfl rfl rfl rfl rfl ?_ | refine TR_storeA0_1 rfl rfl rfl rfl rfl rfl ?_ | refine TR_storeA0_2 rfl rfl rfl rfl rfl rfl ?_ | refine TR_storeA0_3 rfl rfl rfl rfl rfl rfl ?_ | refine TR_storeA0_4 rfl rfl rfl rfl rfl rfl ?_); refine TR_nil ?_)
    | refine TC_cond_t rfl rfl ?_
    | refine TC_cond_f rfl rfl ?_
    | refine TC_skip ?_
    | refine TC_ret ?_
    | refine TC_exit ?_
    | refine TC_block ?_
    | refine TQ_then_ret ?_
    | refine TQ_then_exit ?_
    | refine TQ_blk ?_
    | refine TQ_blk_ret ?_
    | refine TQ_blk_here ?_
    | refine TQ_blk_past rfl ?_
    | refine TC_label ?_
    | (refine TC_cond rfl rfl (fun hq => ?_) (fun hq => ?_) <;> (try simp only [qs] at hq) <;> (try simp only [reduceCtorEq] at hq) <;> (try (exfalso; omega)) <;> (try contradiction))
    refine TQ_le (L' := C2 :: dbk db (o.d.cells (.slice a' o.d.bytes.length cap')) :: asbk rb (setAll zAns 0 (Ans.cells { ans0 with e := 2 } nilRow)) :: opbk xb o :: H :: R) (Le.refl _) ?_
    rw [cp_ans0]
    exact TQ_retCe (cs := Ans.cells { ans0 with e := 2 } nilRow) (C' := [nilRow.C, H]) rfl rfl rfl 2 rfl rfl ⟨nilRow, rfl, rfl⟩ (fun a => by simp only [les, nilRow]; omega)

theorem doesn_sack (H : Seg) (o : LOp) (ho : o.ok H) (hb : o.gaps.length ≤ 50) (hk : o.kind = 5) (cum : Int) :
    Ct Try.prog 22 [.pointer none, .agg o.cells.toArray, u32 cum] [H] (NilPost H { ans0 with e := 2 }) := by
  have hsrc : ∀ (L : List Seg) (i : Nat), L[i]? = some H → ∀ w, sat w L → SrcAt w o.ga (gcells o.gaps) := fun L i hm =>
    src_slice ho.g (by omega) (fun x hx => by obtain ⟨y, _, rfl⟩ := List.mem_map.1 hx; rfl) i hm
  refine Ct_intro Try.func22 rfl (by simp only [Try.ntmps22, List.length_cons, List.length_nil]; omega) ?_
  intro w₀ R
  repeat' first
    | refine TC_seq ?_
    | refine TQ_then ?_
    | refine TR_nil ?_
    | refine TQ_noPanic ?_
    | (refine TC_plain (id := 0) (by kernel_rfl) ?_; (refine TR_box0 rfl rfl rfl ?_; intro xb); (refine TR_alloc0 rfl ?_; intro rb); refine TR_nil ?_)
    | (refine TC_plain (id := 1) (by kernel_rfl) ?_; (refine TR_alloc0 rfl ?_; intro zb); refine TR_nil ?_)
    | (refine TC_plain (id := 2) (by kernel_rfl) ?_; refine TR_pv0 (PV_fieldAddr rfl) rfl ?_; (first | refine TR_load0 rfl 0 rfl rfl rfl ?_ | refine TR_load0 rfl 1 rfl rfl rfl ?_ | refine TR_load0 rfl 2 rfl rfl rfl ?_ | refine TR_load0 rfl 3 rfl rfl rfl ?_ | refine TR_load0 rfl 4 rfl rfl rfl ?_); refine TR_nil ?_)
    | (refine TC_plain (id := 3) (by kernel_rfl) ?_; refine TR_pv0 (PV_eql rfl rfl) rfl ?_; refine TR_pv0 PV_assign rfl ?_; refine TR_nil ?_)
    | (refine TC_plain (id := 12) (by kernel_rfl) ?_; refine TR_pv0 (PV_eql rfl rfl) rfl ?_; refine TR_pv0 PV_assign rfl ?_; refine TR_nil ?_)
    | (refine TC_plain (id := 14) (by kernel_rfl) ?_; refine TR_pv0 (PV_eql rfl rfl) rfl ?_; refine TR_pv0 PV_assign rfl ?_; refine TR_nil ?_)
    | (refine TC_plain (id := 22) (by kernel_rfl) ?_; refine TR_pv0 (PV_eql rfl rfl) rfl ?_; refine TR_pv0 PV_assign rfl ?_; refine TR_nil ?_)
    | (refine TC_plain (id := 24) (by kernel_rfl) ?_; refine TR_pv0 (PV_eql rfl rfl) rfl ?_; refine TR_pv0 PV_assign rfl ?_; refine TR_nil ?_)
    | (refine TC_plain (id := 26) (by kernel_rfl) ?_; refine TR_pv0 (PV_eql rfl rfl) rfl ?_; refine TR_pv0 PV_assign rfl ?_; refine TR_nil ?_)
    | refine TC_cond_t rfl rfl ?_
    | refine TC_cond_f rfl rfl ?_
    | refine TC_skip ?_
    | refine TC_ret ?_
    | refine TC_exit ?_
    | refine TC_block ?_
    | refine TQ_then_ret ?_
    | refine TQ_then_exit ?_
    | refine TQ_blk ?_
    | refine TQ_blk_ret ?_
    | refine TQ_blk_here ?_
    | refine TQ_blk_past rfl ?_
    | refine TC_label ?_
    | (refine TC_cond rfl rfl (fun hq => ?_) (fun hq => ?_) <;> (try simp only [qs] at hq) <;> (try simp only [reduceCtorEq] at hq) <;> (try (exfalso; omega)) <;> (try contradiction))
  refine TC_slots [(0, .pointer none), (2, u32 cum), (4, ptr xb), (6, ptr rb)] ⟨rfl, rfl, rfl, rfl, trivial⟩ fun σ' => ?_
  refine TC_le (L' := opbk xb o :: asbk rb zAns :: H :: R) (Le.trans (M := asbk zb zAns :: asbk rb zAns :: opbk xb o :: H :: R) (Le.refl _) (fun a => by simp only [les]; omega)) ?_
  refine TC_cutQ (X := Nat) (fun s => tblk s told0.cells :: opbk xb o :: asbk rb zAns :: H :: R) (fun s => [(6, ptr rb), (16, ptr s), (17, i64 2)]) (fun _ => True) ?_ ?_
  · repeat' first
    | refine TC_seq ?_
    | refine TQ_then ?_
    | refine TR_nil ?_
    | refine TQ_noPanic ?_
    | (refine TC_forked (id := 27) (opbk xb o :: asbk rb zAns :: H :: R) (.alt [(0, 1), (1, 1), (2, 1), (3, 1), (4, 1), (6, 1), (7, 1)] 5 2 (.alt [] 8 2 (.alt [(9, 1)] 10 2 (.fin [(11, 1), (12, 1), (13, 1), (14, 2), (15, 2), (16, 1)]) 14 2 (.fin [(10, 2), (11, 1), (12, 1), (13, 1), (15, 2), (16, 1)])) 14 2 (.fin [(8, 2), (9, 1), (10, 2), (11, 1), (12, 1), (13, 1), (15, 2), (16, 1)])) 14 2 (.fin [(5, 2), (8, 2), (9, 1), (10, 2), (11, 1), (12, 1), (13, 1), (15, 2), (16, 1)])) mixed (by kernel_rfl) ?_; refine TT_alt ?_; refine TR_pv1 PV_move rfl (fun _ h => h.sub (by first | exact .refl _ | exact .cons _ (.refl _) | exact .cons _ (.cons _ (.refl _)) | exact .cons_cons _ (.cons _ (.refl _)) | exact .cons _ (.cons _ (.cons _ (.refl _))) | exact .cons _ (.cons _ (.cons _ (.cons _ (.refl _)))) | exact .cons _ (.cons _ (.cons _ (.cons _ (.cons _ (.refl _))))) | exact .cons _ (.cons _ (.cons_cons _ (.cons _ (.refl _)))))) ?_; refine TR_pv1 PV_move rfl (fun _ h => h.sub (by first | exact .refl _ | exact .cons _ (.refl _) | exact .cons _ (.cons _ (.refl _)) | exact .cons_cons _ (.cons _ (.refl _)) | exact .cons _ (.cons _ (.cons _ (.refl _))) | exact .cons _ (.cons _ (.cons _ (.cons _ (.refl _)))) | exact .cons _ (.cons _ (.cons _ (.cons _ (.cons _ (.refl _))))) | exact .cons _ (.cons _ (.cons_cons _ (.cons _ (.refl _)))))) ?_; refine TR_pv1 (PV_fieldAddr rfl) rfl (fun _ h => h.sub (by first | exact .refl _ | exact .cons _ (.refl _) | exact .cons _ (.cons _ (.refl _)) | exact .cons_cons _ (.cons _ (.refl _)) | exact .cons _ (.cons _ (.cons _ (.refl _))) | exact .cons _ (.cons _ (.cons _ (.cons _ (.refl _)))) | exact .cons _ (.cons _ (.cons _ (.cons _ (.cons _ (.refl _))))) | exact .cons _ (.cons _ (.cons_cons _ (.cons _ (.refl _)))))) ?_; (first | refine TR_load1 rfl 0 rfl rfl rfl (fun _ h => h.sub (by first | exact .refl _ | exact .cons _ (.refl _) | exact .cons _ (.cons _ (.refl _)) | exact .cons_cons _ (.cons _ (.refl _)) | exact .cons _ (.cons _ (.cons _ (.refl _))) | exact .cons _ (.cons _ (.cons _ (.cons _ (.refl _)))) | exact .cons _ (.cons _ (.cons _ (.cons _ (.cons _ (.refl _))))) | exact .cons _ (.cons _ (.cons_cons _ (.cons _ (.refl _)))))) ?_ | refine TR_load1 rfl 1 rfl rfl rfl (fun _ h => h.sub (by first | exact .refl _ | exact .cons _ (.refl _) | exact .cons _ (.cons _ (.refl _)) | exact .cons_cons _ (.cons _ (.refl _)) | exact .cons _ (.cons _ (.cons _ (.refl _))) | exact .cons _ (.cons _ (.cons _ (.cons _ (.refl _)))) | exact .cons _ (.cons _ (.cons _ (.cons _ (.cons _ (.refl _))))) | exact .cons _ (.cons _ (.cons_cons _ (.cons _ (.refl _)))))) ?_ | refine TR_load1 rfl 2 rfl rfl rfl (fun _ h => h.sub (by first | exact .refl _ | exact .cons _ (.refl _) | exact .cons _ (.cons _ (.refl _)) | exact .cons_cons _ (.cons _ (.refl _)) | exact .cons _ (.cons _ (.cons _ (.refl _))) | exact .cons _ (.cons _ (.cons _ (.cons _ (.refl _)))) | exact .cons _ (.cons _ (.cons _ (.cons _ (.cons _ (.refl _))))) | exact .cons _ (.cons _ (.cons_cons _ (.cons _ (.refl _)))))) ?_ | refine TR_load1 rfl 3 rfl rfl rfl (fun _ h => h.sub (by first | exact .refl _ | exact .cons _ (.refl _) | exact .cons _ (.cons _ (.refl _)) | exact .cons_cons _ (.cons _ (.refl _)) | exact .cons _ (.cons _ (.cons _ (.refl _))) | exact .cons _ (.cons _ (.cons _ (.cons _ (.refl _)))) | exact .cons _ (.cons _ (.cons _ (.cons _ (.cons _ (.refl _))))) | exact .cons _ (.cons _ (.cons_cons _ (.cons _ (.refl _)))))) ?_ | refine TR_load1 rfl 4 rfl rfl rfl (fun _ h => h.sub (by first | exact .refl _ | exact .cons _ (.refl _) | exact .cons _ (.cons _ (.refl _)) | exact .cons_cons _ (.cons _ (.refl _)) | exact .cons _ (.cons _ (.cons _ (.refl _))) | exact .cons _ (.cons _ (.cons _ (.cons _ (.refl _)))) | exact .cons _ (.cons _ (.cons _ (.cons _ (.cons _ (.refl _))))) | exact .cons _ (.cons _ (.cons_cons _ (.cons _ (.refl _)))))) ?_); refine TR_pv1 (PV_add32 rfl rfl) rfl (fun _ h => h.sub (by first | exact .refl _ | exact .cons _ (.refl _) | exact .cons _ (.cons _ (.refl _)) | exact .cons_cons _ (.cons _ (.refl _)) | exact .cons _ (.cons _ (.cons _ (.refl _))) | exact .cons _ (.cons _ (.cons _ (.cons _ (.refl _)))) | exact .cons _ (.cons _ (.cons _ (.cons _ (.cons _ (.refl _))))) | exact .cons _ (.cons _ (.cons_cons _ (.cons _ (.refl _)))))) ?_; refine TR_pv1 (PV_fieldAddr rfl) rfl (fun _ h => h.sub (by first | exact .refl _ | exact .cons _ (.refl _) | exact .cons _ (.cons _ (.refl _)) | exact .cons_cons _ (.cons _ (.refl _)) | exact .cons _ (.cons _ (.cons _ (.refl _))) | exact .cons _ (.cons _ (.cons _ (.cons _ (.refl _)))) | exact .cons _ (.cons _ (.cons _ (.cons _ (.cons _ (.refl _))))) | exact .cons _ (.cons _ (.cons_cons _ (.cons _ (.refl _)))))) ?_; (first | refine TR_load1 rfl 0 rfl rfl rfl (fun _ h => h.sub (by first | exact .refl _ | exact .cons _ (.refl _) | exact .cons _ (.cons _ (.refl _)) | exact .cons_cons _ (.cons _ (.refl _)) | exact .cons _ (.cons _ (.cons _ (.refl _))) | exact .cons _ (.cons _ (.cons _ (.cons _ (.refl _)))) | exact .cons _ (.cons _ (.cons _ (.cons _ (.cons _ (.refl _))))) | exact .cons _ (.cons _ (.cons_cons _ (.cons _ (.refl _)))))) ?_ | refine TR_load1 rfl 1 rfl rfl rfl (fun _ h => h.sub (by first | exact .refl _ | exact .cons _ (.refl _) | exact .cons _ (.cons _ (.refl _)) | exact .cons_cons _ (.cons _ (.refl _)) | exact .cons _ (.cons _ (.cons _ (.refl _))) | exact .cons _ (.cons _ (.cons _ (.cons _ (.refl _)))) | exact .cons _ (.cons _ (.cons _ (.cons _ (.cons _ (.refl _))))) | exact .cons _ (.cons _ (.cons_cons _ (.cons _ (.refl _)))))) ?_ | refine TR_load1 rfl 2 rfl rfl rfl (fun _ h => h.sub (by first | exact .refl _ | exact .cons _ (.refl _) | exact .cons _ (.cons _ (.refl _)) | exact .cons_cons _ (.cons _ (.refl _)) | exact .cons _ (.cons _ (.cons _ (.refl _))) | exact .cons _ (.cons _ (.cons _ (.cons _ (.refl _)))) | exact .cons _ (.cons _ (.cons _ (.cons _ (.cons _ (.refl _))))) | exact .cons _ (.cons _ (.cons_cons _ (.cons _ (.refl _)))))) ?_ | refine TR_load1 rfl 3 rfl rfl rfl (fun _ h => h.sub (by first | exact .refl _ | exact .cons _ (.refl _) | exact .cons _ (.cons _ (.refl _)) | exact .cons_cons _ (.cons _ (.refl _)) | exact .cons _ (.cons _ (.cons _ (.refl _))) | exact .cons _ (.cons _ (.cons _ (.cons _ (.refl _)))) | exact .cons _ (.cons _ (.cons _ (.cons _ (.cons _ (.refl _))))) | exact .cons _ (.cons _ (.cons_cons _ (.cons _ (.refl _)))))) ?_ | refine TR_load1 rfl 4 rfl rfl rfl (fun _ h => h.sub (by first | exact .refl _ | exact .cons _ (.refl _) | exact .cons _ (.cons _ (.refl _)) | exact .cons_cons _ (.cons _ (.refl _)) | exact .cons _ (.cons _ (.cons _ (.refl _))) | exact .cons _ (.cons _ (.cons _ (.cons _ (.refl _)))) | exact .cons _ (.cons _ (.cons _ (.cons _ (.cons _ (.refl _))))) | exact .cons _ (.cons _ (.cons_cons _ (.cons _ (.refl _)))))) ?_); refine TR_nil ?_; (refine TQ_alt ?_ ?_ <;> first | ((refine TR_buildSlice (.inr ⟨rfl, (fun _ h => h.sub (by first | exact .refl _ | exact .cons _ (.refl _) | exact .cons _ (.cons _ (.refl _)) | exact .cons_cons _ (.cons _ (.refl _)) | exact .cons _ (.cons _ (.cons _ (.refl _))) | exact .cons _ (.cons _ (.cons _ (.cons _ (.refl _)))) | exact .cons _ (.cons _ (.cons _ (.cons _ (.cons _ (.refl _))))) | exact .cons _ (.cons _ (.cons_cons _ (.cons _ (.refl _))))))⟩) rfl rfl rfl rfl ?_; intro q); refine TR_nil ?_; refine TQ_tree ?_; refine TT_alt ?_; refine TR_nil ?_; (refine TQ_alt ?_ ?_ <;> first | ((first | (refine TR_append00 (.inr ⟨rfl, (fun _ h => h.sub (by first | exact .refl _ | exact .cons _ (.refl _) | exact .cons _ (.cons _ (.refl _)) | exact .cons_cons _ (.cons _ (.refl _)) | exact .cons _ (.cons _ (.cons _ (.refl _))) | exact .cons _ (.cons _ (.cons _ (.cons _ (.refl _)))) | exact .cons _ (.cons _ (.cons _ (.cons _ (.cons _ (.refl _))))) | exact .cons _ (.cons _ (.cons_cons _ (.cons _ (.refl _))))))⟩) (empty_ok _ _ _) rfl rfl (.cons .here .nil) (hsrc _ 3 rfl) (gcells_length _) (gcells_all _) (by omega) rfl ?_; intro a' cap' C' hS) | (refine TR_append00 (.inr ⟨rfl, (fun _ h => h.sub (by first | exact .refl _ | exact .cons _ (.refl _) | exact .cons _ (.cons _ (.refl _)) | exact .cons_cons _ (.cons _ (.refl _)) | exact .cons _ (.cons _ (.cons _ (.refl _))) | exact .cons _ (.cons _ (.cons _ (.cons _ (.refl _)))) | exact .cons _ (.cons _ (.cons _ (.cons _ (.cons _ (.refl _))))) | exact .cons _ (.cons _ (.cons_cons _ (.cons _ (.refl _))))))⟩) (empty_ok _ _ _) rfl rfl (.cons .here .nil) (hsrc _ 4 rfl) (gcells_length _) (gcells_all _) (by omega) rfl ?_; intro a' cap' C' hS) | (refine TR_append00 (.inr ⟨rfl, (fun _ h => h.sub (by first | exact .refl _ | exact .cons _ (.refl _) | exact .cons _ (.cons _ (.refl _)) | exact .cons_cons _ (.cons _ (.refl _)) | exact .cons _ (.cons _ (.cons _ (.refl _))) | exact .cons _ (.cons _ (.cons _ (.cons _ (.refl _)))) | exact .cons _ (.cons _ (.cons _ (.cons _ (.cons _ (.refl _))))) | exact .cons _ (.cons _ (.cons_cons _ (.cons _ (.refl _))))))⟩) (empty_ok _ _ _) rfl rfl (.cons (.there .here) .nil) (hsrc _ 4 rfl) (gcells_length _) (gcells_all _) (by omega) rfl ?_; intro a' cap' C' hS)); refine TR_nil ?_; refine TQ_tree ?_; refine TT_alt ?_; refine TR_pv1 (PV_build rfl rfl) rfl (fun _ h => h.sub (by first | exact .refl _ | exact .cons _ (.refl _) | exact .cons _ (.cons _ (.refl _)) | exact .cons_cons _ (.cons _ (.refl _)) | exact .cons _ (.cons _ (.cons _ (.refl _))) | exact .cons _ (.cons _ (.cons _ (.cons _ (.refl _)))) | exact .cons _ (.cons _ (.cons _ (.cons _ (.cons _ (.refl _))))) | exact .cons _ (.cons _ (.cons_cons _ (.cons _ (.refl _)))))) ?_; refine TR_nil ?_; (refine TQ_alt ?_ ?_ <;> first | ((refine TR_call2 ((sackF_nil (.agg [u32 (doTsn o cum), u32 0, .slice a' o.gaps.length cap', .slice none 0 0].toArray) [u32 (doTsn o cum), u32 0, .slice a' o.gaps.length cap', .slice none 0 0] rfl)) rfl rfl .nil rfl (fun _ _ _ _ hs => hs.sub (List.Sublist.trans (by first | exact .refl _ | exact .cons _ (.refl _) | exact .cons _ (.cons _ (.refl _)) | exact .cons_cons _ (.cons _ (.refl _)) | exact .cons _ (.cons _ (.cons _ (.refl _))) | exact .cons _ (.cons _ (.cons _ (.cons _ (.refl _)))) | exact .cons _ (.cons _ (.cons _ (.cons _ (.cons _ (.refl _))))) | exact .cons _ (.cons _ (.cons_cons _ (.cons _ (.refl _))))) (List.sublist_append_right _ _))) ?_; rintro _ _ ⟨rfl, rfl⟩); refine TR_nil ?_; refine TQ_tree ?_; refine TT_fin ?_; refine TR_pv1 PV_move rfl (fun _ h => h.sub (by first | exact .refl _ | exact .cons _ (.refl _) | exact .cons _ (.cons _ (.refl _)) | exact .cons_cons _ (.cons _ (.refl _)) | exact .cons _ (.cons _ (.cons _ (.refl _))) | exact .cons _ (.cons _ (.cons _ (.cons _ (.refl _)))) | exact .cons _ (.cons _ (.cons _ (.cons _ (.cons _ (.refl _))))) | exact .cons _ (.cons _ (.cons_cons _ (.cons _ (.refl _)))))) ?_; refine TR_pv1 (PV_extract rfl rfl) rfl (fun _ h => h.sub (by first | exact .refl _ | exact .cons _ (.refl _) | exact .cons _ (.cons _ (.refl _)) | exact .cons_cons _ (.cons _ (.refl _)) | exact .cons _ (.cons _ (.cons _ (.refl _))) | exact .cons _ (.cons _ (.cons _ (.cons _ (.refl _)))) | exact .cons _ (.cons _ (.cons _ (.cons _ (.cons _ (.refl _))))) | exact .cons _ (.cons _ (.cons_cons _ (.cons _ (.refl _)))))) ?_; refine TR_pv1 (PV_extract rfl rfl) rfl (fun _ h => h.sub (by first | exact .refl _ | exact .cons _ (.refl _) | exact .cons _ (.cons _ (.refl _)) | exact .cons_cons _ (.cons _ (.refl _)) | exact .cons _ (.cons _ (.cons _ (.refl _))) | exact .cons _ (.cons _ (.cons _ (.cons _ (.refl _)))) | exact .cons _ (.cons _ (.cons _ (.cons _ (.cons _ (.refl _))))) | exact .cons _ (.cons _ (.cons_cons _ (.cons _ (.refl _)))))) ?_; (refine TR_allock (fun _ h => h.sub (by first | exact .refl _ | exact .cons _ (.refl _) | exact .cons _ (.cons _ (.refl _)) | exact .cons_cons _ (.cons _ (.refl _)) | exact .cons _ (.cons _ (.cons _ (.refl _))) | exact .cons _ (.cons _ (.cons _ (.cons _ (.refl _)))) | exact .cons _ (.cons _ (.cons _ (.cons _ (.cons _ (.refl _))))) | exact .cons _ (.cons _ (.cons_cons _ (.cons _ (.refl _)))))) rfl ?_; intro tb); (first | refine TR_storeA2 rfl rfl rfl .here rfl rfl (fun _ h => h.sub (by first | exact .refl _ | exact .cons _ (.refl _) | exact .cons _ (.cons _ (.refl _)) | exact .cons_cons _ (.cons _ (.refl _)) | exact .cons _ (.cons _ (.cons _ (.refl _))) | exact .cons _ (.cons _ (.cons _ (.cons _ (.refl _)))) | exact .cons _ (.cons _ (.cons _ (.cons _ (.cons _ (.refl _))))) | exact .cons _ (.cons _ (.cons_cons _ (.cons _ (.refl _)))))) ?_ | refine TR_storeA2 rfl rfl rfl (.there (.here)) rfl rfl (fun _ h => h.sub (by first | exact .refl _ | exact .cons _ (.refl _) | exact .cons _ (.cons _ (.refl _)) | exact .cons_cons _ (.cons _ (.refl _)) | exact .cons _ (.cons _ (.cons _ (.refl _))) | exact .cons _ (.cons _ (.cons _ (.cons _ (.refl _)))) | exact .cons _ (.cons _ (.cons _ (.cons _ (.cons _ (.refl _))))) | exact .cons _ (.cons _ (.cons_cons _ (.cons _ (.refl _)))))) ?_ | refine TR_storeA2 rfl rfl rfl (.there (.there (.here))) rfl rfl (fun _ h => h.sub (by first | exact .refl _ | exact .cons _ (.refl _) | exact .cons _ (.cons _ (.refl _)) | exact .cons_cons _ (.cons _ (.refl _)) | exact .cons _ (.cons _ (.cons _ (.refl _))) | exact .cons _ (.cons _ (.cons _ (.cons _ (.refl _)))) | exact .cons _ (.cons _ (.cons _ (.cons _ (.cons _ (.refl _))))) | exact .cons _ (.cons _ (.cons_cons _ (.cons _ (.refl _)))))) ?_ | refine TR_storeA2 rfl rfl rfl (.there (.there (.there (.here)))) rfl rfl (fun _ h => h.sub (by first | exact .refl _ | exact .cons _ (.refl _) | exact .cons _ (.cons _ (.refl _)) | exact .cons_cons _ (.cons _ (.refl _)) | exact .cons _ (.cons _ (.cons _ (.refl _))) | exact .cons _ (.cons _ (.cons _ (.cons _ (.refl _)))) | exact .cons _ (.cons _ (.cons _ (.cons _ (.cons _ (.refl _))))) | exact .cons _ (.cons _ (.cons_cons _ (.cons _ (.refl _)))))) ?_); refine TR_pv1 PV_assign rfl (fun _ h => h.sub (by first | exact .refl _ | exact .cons _ (.refl _) | exact .cons _ (.cons _ (.refl _)) | exact .cons_cons _ (.cons _ (.refl _)) | exact .cons _ (.cons _ (.cons _ (.refl _))) | exact .cons _ (.cons _ (.cons _ (.cons _ (.refl _)))) | exact .cons _ (.cons _ (.cons _ (.cons _ (.cons _ (.refl _))))) | exact .cons _ (.cons _ (.cons_cons _ (.cons _ (.refl _)))))) ?_; refine TR_nil ?_) | ((refine TR_allock (fun _ h => h.sub (by first | exact .refl _ | exact .cons _ (.refl _) | exact .cons _ (.cons _ (.refl _)) | exact .cons_cons _ (.cons _ (.refl _)) | exact .cons _ (.cons _ (.cons _ (.refl _))) | exact .cons _ (.cons _ (.cons _ (.cons _ (.refl _)))) | exact .cons _ (.cons _ (.cons _ (.cons _ (.cons _ (.refl _))))) | exact .cons _ (.cons _ (.cons_cons _ (.cons _ (.refl _)))))) rfl ?_; intro tb); refine TR_nil ?_; refine TQ_tree ?_; refine TT_fin ?_; (refine TR_call2 ((sackF_nil (.agg [u32 (doTsn o cum), u32 0, .slice a' o.gaps.length cap', .slice none 0 0].toArray) [u32 (doTsn o cum), u32 0, .slice a' o.gaps.length cap', .slice none 0 0] rfl)) rfl rfl .nil rfl (fun _ _ _ _ hs => hs.sub (List.Sublist.trans (by first | exact .refl _ | exact .cons _ (.refl _) | exact .cons _ (.cons _ (.refl _)) | exact .cons_cons _ (.cons _ (.refl _)) | exact .cons _ (.cons _ (.cons _ (.refl _))) | exact .cons _ (.cons _ (.cons _ (.cons _ (.refl _)))) | exact .cons _ (.cons _ (.cons _ (.cons _ (.cons _ (.refl _))))) | exact .cons _ (.cons _ (.cons_cons _ (.cons _ (.refl _))))) (List.sublist_append_right _ _))) ?_; rintro _ _ ⟨rfl, rfl⟩); refine TR_pv1 PV_move rfl (fun _ h => h.sub (by first | exact .refl _ | exact .cons _ (.refl _) | exact .cons _ (.cons _ (.refl _)) | exact .cons_cons _ (.cons _ (.refl _)) | exact .cons _ (.cons _ (.cons _ (.refl _))) | exact .cons _ (.cons _ (.cons _ (.cons _ (.refl _)))) | exact .cons _ (.cons _ (.cons _ (.cons _ (.cons _ (.refl _))))) | exact .cons _ (.cons _ (.cons_cons _ (.cons _ (.refl _)))))) ?_; refine TR_pv1 (PV_extract rfl rfl) rfl (fun _ h => h.sub (by first | exact .refl _ | exact .cons _ (.refl _) | exact .cons _ (.cons _ (.refl _)) | exact .cons_cons _ (.cons _ (.refl _)) | exact .cons _ (.cons _ (.cons _ (.refl _))) | exact .cons _ (.cons _ (.cons _ (.cons _ (.refl _)))) | exact .cons _ (.cons _ (.cons _ (.cons _ (.cons _ (.refl _))))) | exact .cons _ (.cons _ (.cons_cons _ (.cons _ (.refl _)))))) ?_; refine TR_pv1 (PV_extract rfl rfl) rfl (fun _ h => h.sub (by first | exact .refl _ | exact .cons _ (.refl _) | exact .cons _ (.cons _ (.refl _)) | exact .cons_cons _ (.cons _ (.refl _)) | exact .cons _ (.cons _ (.cons _ (.refl _))) | exact .cons _ (.cons _ (.cons _ (.cons _ (.refl _)))) | exact .cons _ (.cons _ (.cons _ (.cons _ (.cons _ (.refl _))))) | exact .cons _ (.cons _ (.cons_cons _ (.cons _ (.refl _)))))) ?_; (first | refine TR_storeA2 rfl rfl rfl .here rfl rfl (fun _ h => h.sub (by first | exact .refl _ | exact .cons _ (.refl _) | exact .cons _ (.cons _ (.refl _)) | exact .cons_cons _ (.cons _ (.refl _)) | exact .cons _ (.cons _ (.cons _ (.refl _))) | exact .cons _ (.cons _ (.cons _ (.cons _ (.refl _)))) | exact .cons _ (.cons _ (.cons _ (.cons _ (.cons _ (.refl _))))) | exact .cons _ (.cons _ (.cons_cons _ (.cons _ (.refl _)))))) ?_ | refine TR_storeA2 rfl rfl rfl (.there (.here)) rfl rfl (fun _ h => h.sub (by first | exact .refl _ | exact .cons _ (.refl _) | exact .cons _ (.cons _ (.refl _)) | exact .cons_cons _ (.cons _ (.refl _)) | exact .cons _ (.cons _ (.cons _ (.refl _))) | exact .cons _ (.cons _ (.cons _ (.cons _ (.refl _)))) | exact .cons _ (.cons _ (.cons _ (.cons _ (.cons _ (.refl _))))) | exact .cons _ (.cons _ (.cons_cons _ (.cons _ (.refl _)))))) ?_ | refine TR_storeA2 rfl rfl rfl (.there (.there (.here))) rfl rfl (fun _ h => h.sub (by first | exact .refl _ | exact .cons _ (.refl _) | exact .cons _ (.cons _ (.refl _)) | exact .cons_cons _ (.cons _ (.refl _)) | exact .cons _ (.cons _ (.cons _ (.refl _))) | exact .cons _ (.cons _ (.cons _ (.cons _ (.refl _)))) | exact .cons _ (.cons _ (.cons _ (.cons _ (.cons _ (.refl _))))) | exact .cons _ (.cons _ (.cons_cons _ (.cons _ (.refl _)))))) ?_ | refine TR_storeA2 rfl rfl rfl (.there (.there (.there (.here)))) rfl rfl (fun _ h => h.sub (by first | exact .refl _ | exact .cons _ (.refl _) | exact .cons _ (.cons _ (.refl _)) | exact .cons_cons _ (.cons _ (.refl _)) | exact .cons _ (.cons _ (.cons _ (.refl _))) | exact .cons _ (.cons _ (.cons _ (.cons _ (.refl _)))) | exact .cons _ (.cons _ (.cons _ (.cons _ (.cons _ (.refl _))))) | exact .cons _ (.cons _ (.cons_cons _ (.cons _ (.refl _)))))) ?_); refine TR_pv1 PV_assign rfl (fun _ h => h.sub (by first | exact .refl _ | exact .cons _ (.refl _) | exact .cons _ (.cons _ (.refl _)) | exact .cons_cons _ (.cons _ (.refl _)) | exact .cons _ (.cons _ (.cons _ (.refl _))) | exact .cons _ (.cons _ (.cons _ (.cons _ (.refl _)))) | exact .cons _ (.cons _ (.cons _ (.cons _ (.cons _ (.refl _))))) | exact .cons _ (.cons _ (.cons_cons _ (.cons _ (.refl _)))))) ?_; refine TR_nil ?_))) | ((refine TR_allock (fun _ h => h.sub (by first | exact .refl _ | exact .cons _ (.refl _) | exact .cons _ (.cons _ (.refl _)) | exact .cons_cons _ (.cons _ (.refl _)) | exact .cons _ (.cons _ (.cons _ (.refl _))) | exact .cons _ (.cons _ (.cons _ (.cons _ (.refl _)))) | exact .cons _ (.cons _ (.cons _ (.cons _ (.cons _ (.refl _))))) | exact .cons _ (.cons _ (.cons_cons _ (.cons _ (.refl _)))))) rfl ?_; intro tb); refine TR_nil ?_; refine TQ_tree ?_; refine TT_fin ?_; (first | (refine TR_append00 (.inr ⟨rfl, (fun _ h => h.sub (by first | exact .refl _ | exact .cons _ (.refl _) | exact .cons _ (.cons _ (.refl _)) | exact .cons_cons _ (.cons _ (.refl _)) | exact .cons _ (.cons _ (.cons _ (.refl _))) | exact .cons _ (.cons _ (.cons _ (.cons _ (.refl _)))) | exact .cons _ (.cons _ (.cons _ (.cons _ (.cons _ (.refl _))))) | exact .cons _ (.cons _ (.cons_cons _ (.cons _ (.refl _))))))⟩) (empty_ok _ _ _) rfl rfl (.cons .here .nil) (hsrc _ 3 rfl) (gcells_length _) (gcells_all _) (by omega) rfl ?_; intro a' cap' C' hS) | (refine TR_append00 (.inr ⟨rfl, (fun _ h => h.sub (by first | exact .refl _ | exact .cons _ (.refl _) | exact .cons _ (.cons _ (.refl _)) | exact .cons_cons _ (.cons _ (.refl _)) | exact .cons _ (.cons _ (.cons _ (.refl _))) | exact .cons _ (.cons _ (.cons _ (.cons _ (.refl _)))) | exact .cons _ (.cons _ (.cons _ (.cons _ (.cons _ (.refl _))))) | exact .cons _ (.cons _ (.cons_cons _ (.cons _ (.refl _))))))⟩) (empty_ok _ _ _) rfl rfl (.cons .here .nil) (hsrc _ 4 rfl) (gcells_length _) (gcells_all _) (by omega) rfl ?_; intro a' cap' C' hS) | (refine TR_append00 (.inr ⟨rfl, (fun _ h => h.sub (by first | exact .refl _ | exact .cons _ (.refl _) | exact .cons _ (.cons _ (.refl _)) | exact .cons_cons _ (.cons _ (.refl _)) | exact .cons _ (.cons _ (.cons _ (.refl _))) | exact .cons _ (.cons _ (.cons _ (.cons _ (.refl _)))) | exact .cons _ (.cons _ (.cons _ (.cons _ (.cons _ (.refl _))))) | exact .cons _ (.cons _ (.cons_cons _ (.cons _ (.refl _))))))⟩) (empty_ok _ _ _) rfl rfl (.cons (.there .here) .nil) (hsrc _ 4 rfl) (gcells_length _) (gcells_all _) (by omega) rfl ?_; intro a' cap' C' hS)); refine TR_pv1 (PV_build rfl rfl) rfl (fun _ h => h.sub (by first | exact .refl _ | exact .cons _ (.refl _) | exact .cons _ (.cons _ (.refl _)) | exact .cons_cons _ (.cons _ (.refl _)) | exact .cons _ (.cons _ (.cons _ (.refl _))) | exact .cons _ (.cons _ (.cons _ (.cons _ (.refl _)))) | exact .cons _ (.cons _ (.cons _ (.cons _ (.cons _ (.refl _))))) | exact .cons _ (.cons _ (.cons_cons _ (.cons _ (.refl _)))))) ?_; (refine TR_call2 ((sackF_nil (.agg [u32 (doTsn o cum), u32 0, .slice a' o.gaps.length cap', .slice none 0 0].toArray) [u32 (doTsn o cum), u32 0, .slice a' o.gaps.length cap', .slice none 0 0] rfl)) rfl rfl .nil rfl (fun _ _ _ _ hs => hs.sub (List.Sublist.trans (by first | exact .refl _ | exact .cons _ (.refl _) | exact .cons _ (.cons _ (.refl _)) | exact .cons_cons _ (.cons _ (.refl _)) | exact .cons _ (.cons _ (.cons _ (.refl _))) | exact .cons _ (.cons _ (.cons _ (.cons _ (.refl _)))) | exact .cons _ (.cons _ (.cons _ (.cons _ (.cons _ (.refl _))))) | exact .cons _ (.cons _ (.cons_cons _ (.cons _ (.refl _))))) (List.sublist_append_right _ _))) ?_; rintro _ _ ⟨rfl, rfl⟩); refine TR_pv1 PV_move rfl (fun _ h => h.sub (by first | exact .refl _ | exact .cons _ (.refl _) | exact .cons _ (.cons _ (.refl _)) | exact .cons_cons _ (.cons _ (.refl _)) | exact .cons _ (.cons _ (.cons _ (.refl _))) | exact .cons _ (.cons _ (.cons _ (.cons _ (.refl _)))) | exact .cons _ (.cons _ (.cons _ (.cons _ (.cons _ (.refl _))))) | exact .cons _ (.cons _ (.cons_cons _ (.cons _ (.refl _)))))) ?_; refine TR_pv1 (PV_extract rfl rfl) rfl (fun _ h => h.sub (by first | exact .refl _ | exact .cons _ (.refl _) | exact .cons _ (.cons _ (.refl _)) | exact .cons_cons _ (.cons _ (.refl _)) | exact .cons _ (.cons _ (.cons _ (.refl _))) | exact .cons _ (.cons _ (.cons _ (.cons _ (.refl _)))) | exact .cons _ (.cons _ (.cons _ (.cons _ (.cons _ (.refl _))))) | exact .cons _ (.cons _ (.cons_cons _ (.cons _ (.refl _)))))) ?_; refine TR_pv1 (PV_extract rfl rfl) rfl (fun _ h => h.sub (by first | exact .refl _ | exact .cons _ (.refl _) | exact .cons _ (.cons _ (.refl _)) | exact .cons_cons _ (.cons _ (.refl _)) | exact .cons _ (.cons _ (.cons _ (.refl _))) | exact .cons _ (.cons _ (.cons _ (.cons _ (.refl _)))) | exact .cons _ (.cons _ (.cons _ (.cons _ (.cons _ (.refl _))))) | exact .cons _ (.cons _ (.cons_cons _ (.cons _ (.refl _)))))) ?_; (first | refine TR_storeA2 rfl rfl rfl .here rfl rfl (fun _ h => h.sub (by first | exact .refl _ | exact .cons _ (.refl _) | exact .cons _ (.cons _ (.refl _)) | exact .cons_cons _ (.cons _ (.refl _)) | exact .cons _ (.cons _ (.cons _ (.refl _))) | exact .cons _ (.cons _ (.cons _ (.cons _ (.refl _)))) | exact .cons _ (.cons _ (.cons _ (.cons _ (.cons _ (.refl _))))) | exact .cons _ (.cons _ (.cons_cons _ (.cons _ (.refl _)))))) ?_ | refine TR_storeA2 rfl rfl rfl (.there (.here)) rfl rfl (fun _ h => h.sub (by first | exact .refl _ | exact .cons _ (.refl _) | exact .cons _ (.cons _ (.refl _)) | exact .cons_cons _ (.cons _ (.refl _)) | exact .cons _ (.cons _ (.cons _ (.refl _))) | exact .cons _ (.cons _ (.cons _ (.cons _ (.refl _)))) | exact .cons _ (.cons _ (.cons _ (.cons _ (.cons _ (.refl _))))) | exact .cons _ (.cons _ (.cons_cons _ (.cons _ (.refl _)))))) ?_ | refine TR_storeA2 rfl rfl rfl (.there (.there (.here))) rfl rfl (fun _ h => h.sub (by first | exact .refl _ | exact .cons _ (.refl _) | exact .cons _ (.cons _ (.refl _)) | exact .cons_cons _ (.cons _ (.refl _)) | exact .cons _ (.cons _ (.cons _ (.refl _))) | exact .cons _ (.cons _ (.cons _ (.cons _ (.refl _)))) | exact .cons _ (.cons _ (.cons _ (.cons _ (.cons _ (.refl _))))) | exact .cons _ (.cons _ (.cons_cons _ (.cons _ (.refl _)))))) ?_ | refine TR_storeA2 rfl rfl rfl (.there (.there (.there (.here)))) rfl rfl (fun _ h => h.sub (by first | exact .refl _ | exact .cons _ (.refl _) | exact .cons _ (.cons _ (.refl _)) | exact .cons_cons _ (.cons _ (.refl _)) | exact .cons _ (.cons _ (.cons _ (.refl _))) | exact .cons _ (.cons _ (.cons _ (.cons _ (.refl _)))) | exact .cons _ (.cons _ (.cons _ (.cons _ (.cons _ (.refl _))))) | exact .cons _ (.cons _ (.cons_cons _ (.cons _ (.refl _)))))) ?_); refine TR_pv1 PV_assign rfl (fun _ h => h.sub (by first | exact .refl _ | exact .cons _ (.refl _) | exact .cons _ (.cons _ (.refl _)) | exact .cons_cons _ (.cons _ (.refl _)) | exact .cons _ (.cons _ (.cons _ (.refl _))) | exact .cons _ (.cons _ (.cons _ (.cons _ (.refl _)))) | exact .cons _ (.cons _ (.cons _ (.cons _ (.cons _ (.refl _))))) | exact .cons _ (.cons _ (.cons_cons _ (.cons _ (.refl _)))))) ?_; refine TR_nil ?_))) | ((refine TR_allock (fun _ h => h.sub (by first | exact .refl _ | exact .cons _ (.refl _) | exact .cons _ (.cons _ (.refl _)) | exact .cons_cons _ (.cons _ (.refl _)) | exact .cons _ (.cons _ (.cons _ (.refl _))) | exact .cons _ (.cons _ (.cons _ (.cons _ (.refl _)))) | exact .cons _ (.cons _ (.cons _ (.cons _ (.cons _ (.refl _))))) | exact .cons _ (.cons _ (.cons_cons _ (.cons _ (.refl _)))))) rfl ?_; intro tb); refine TR_nil ?_; refine TQ_tree ?_; refine TT_fin ?_; (refine TR_buildSlice (.inr ⟨rfl, (fun _ h => h.sub (by first | exact .refl _ | exact .cons _ (.refl _) | exact .cons _ (.cons _ (.refl _)) | exact .cons_cons _ (.cons _ (.refl _)) | exact .cons _ (.cons _ (.cons _ (.refl _))) | exact .cons _ (.cons _ (.cons _ (.cons _ (.refl _)))) | exact .cons _ (.cons _ (.cons _ (.cons _ (.cons _ (.refl _))))) | exact .cons _ (.cons _ (.cons_cons _ (.cons _ (.refl _))))))⟩) rfl rfl rfl rfl ?_; intro q); (first | (refine TR_append00 (.inr ⟨rfl, (fun _ h => h.sub (by first | exact .refl _ | exact .cons _ (.refl _) | exact .cons _ (.cons _ (.refl _)) | exact .cons_cons _ (.cons _ (.refl _)) | exact .cons _ (.cons _ (.cons _ (.refl _))) | exact .cons _ (.cons _ (.cons _ (.cons _ (.refl _)))) | exact .cons _ (.cons _ (.cons _ (.cons _ (.cons _ (.refl _))))) | exact .cons _ (.cons _ (.cons_cons _ (.cons _ (.refl _))))))⟩) (empty_ok _ _ _) rfl rfl (.cons .here .nil) (hsrc _ 3 rfl) (gcells_length _) (gcells_all _) (by omega) rfl ?_; intro a' cap' C' hS) | (refine TR_append00 (.inr ⟨rfl, (fun _ h => h.sub (by first | exact .refl _ | exact .cons _ (.refl _) | exact .cons _ (.cons _ (.refl _)) | exact .cons_cons _ (.cons _ (.refl _)) | exact .cons _ (.cons _ (.cons _ (.refl _))) | exact .cons _ (.cons _ (.cons _ (.cons _ (.refl _)))) | exact .cons _ (.cons _ (.cons _ (.cons _ (.cons _ (.refl _))))) | exact .cons _ (.cons _ (.cons_cons _ (.cons _ (.refl _))))))⟩) (empty_ok _ _ _) rfl rfl (.cons .here .nil) (hsrc _ 4 rfl) (gcells_length _) (gcells_all _) (by omega) rfl ?_; intro a' cap' C' hS) | (refine TR_append00 (.inr ⟨rfl, (fun _ h => h.sub (by first | exact .refl _ | exact .cons _ (.refl _) | exact .cons _ (.cons _ (.refl _)) | exact .cons_cons _ (.cons _ (.refl _)) | exact .cons _ (.cons _ (.cons _ (.refl _))) | exact .cons _ (.cons _ (.cons _ (.cons _ (.refl _)))) | exact .cons _ (.cons _ (.cons _ (.cons _ (.cons _ (.refl _))))) | exact .cons _ (.cons _ (.cons_cons _ (.cons _ (.refl _))))))⟩) (empty_ok _ _ _) rfl rfl (.cons (.there .here) .nil) (hsrc _ 4 rfl) (gcells_length _) (gcells_all _) (by omega) rfl ?_; intro a' cap' C' hS)); refine TR_pv1 (PV_build rfl rfl) rfl (fun _ h => h.sub (by first | exact .refl _ | exact .cons _ (.refl _) | exact .cons _ (.cons _ (.refl _)) | exact .cons_cons _ (.cons _ (.refl _)) | exact .cons _ (.cons _ (.cons _ (.refl _))) | exact .cons _ (.cons _ (.cons _ (.cons _ (.refl _)))) | exact .cons _ (.cons _ (.cons _ (.cons _ (.cons _ (.refl _))))) | exact .cons _ (.cons _ (.cons_cons _ (.cons _ (.refl _)))))) ?_; (refine TR_call2 ((sackF_nil (.agg [u32 (doTsn o cum), u32 0, .slice a' o.gaps.length cap', .slice none 0 0].toArray) [u32 (doTsn o cum), u32 0, .slice a' o.gaps.length cap', .slice none 0 0] rfl)) rfl rfl .nil rfl (fun _ _ _ _ hs => hs.sub (List.Sublist.trans (by first | exact .refl _ | exact .cons _ (.refl _) | exact .cons _ (.cons _ (.refl _)) | exact .cons_cons _ (.cons _ (.refl _)) | exact .cons _ (.cons _ (.cons _ (.refl _))) | exact .cons _ (.cons _ (.cons _ (.cons _ (.refl _)))) | exact .cons _ (.cons _ (.cons _ (.cons _ (.cons _ (.refl _))))) | exact .cons _ (.cons _ (.cons_cons _ (.cons _ (.refl _))))) (List.sublist_append_right _ _))) ?_; rintro _ _ ⟨rfl, rfl⟩); refine TR_pv1 PV_move rfl (fun _ h => h.sub (by first | exact .refl _ | exact .cons _ (.refl _) | exact .cons _ (.cons _ (.refl _)) | exact .cons_cons _ (.cons _ (.refl _)) | exact .cons _ (.cons _ (.cons _ (.refl _))) | exact .cons _ (.cons _ (.cons _ (.cons _ (.refl _)))) | exact .cons _ (.cons _ (.cons _ (.cons _ (.cons _ (.refl _))))) | exact .cons _ (.cons _ (.cons_cons _ (.cons _ (.refl _)))))) ?_; refine TR_pv1 (PV_extract rfl rfl) rfl (fun _ h => h.sub (by first | exact .refl _ | exact .cons _ (.refl _) | exact .cons _ (.cons _ (.refl _)) | exact .cons_cons _ (.cons _ (.refl _)) | exact .cons _ (.cons _ (.cons _ (.refl _))) | exact .cons _ (.cons _ (.cons _ (.cons _ (.refl _)))) | exact .cons _ (.cons _ (.cons _ (.cons _ (.cons _ (.refl _))))) | exact .cons _ (.cons _ (.cons_cons _ (.cons _ (.refl _)))))) ?_; refine TR_pv1 (PV_extract rfl rfl) rfl (fun _ h => h.sub (by first | exact .refl _ | exact .cons _ (.refl _) | exact .cons _ (.cons _ (.refl _)) | exact .cons_cons _ (.cons _ (.refl _)) | exact .cons _ (.cons _ (.cons _ (.refl _))) | exact .cons _ (.cons _ (.cons _ (.cons _ (.refl _)))) | exact .cons _ (.cons _ (.cons _ (.cons _ (.cons _ (.refl _))))) | exact .cons _ (.cons _ (.cons_cons _ (.cons _ (.refl _)))))) ?_; (first | refine TR_storeA2 rfl rfl rfl .here rfl rfl (fun _ h => h.sub (by first | exact .refl _ | exact .cons _ (.refl _) | exact .cons _ (.cons _ (.refl _)) | exact .cons_cons _ (.cons _ (.refl _)) | exact .cons _ (.cons _ (.cons _ (.refl _))) | exact .cons _ (.cons _ (.cons _ (.cons _ (.refl _)))) | exact .cons _ (.cons _ (.cons _ (.cons _ (.cons _ (.refl _))))) | exact .cons _ (.cons _ (.cons_cons _ (.cons _ (.refl _)))))) ?_ | refine TR_storeA2 rfl rfl rfl (.there (.here)) rfl rfl (fun _ h => h.sub (by first | exact .refl _ | exact .cons _ (.refl _) | exact .cons _ (.cons _ (.refl _)) | exact .cons_cons _ (.cons _ (.refl _)) | exact .cons _ (.cons _ (.cons _ (.refl _))) | exact .cons _ (.cons _ (.cons _ (.cons _ (.refl _)))) | exact .cons _ (.cons _ (.cons _ (.cons _ (.cons _ (.refl _))))) | exact .cons _ (.cons _ (.cons_cons _ (.cons _ (.refl _)))))) ?_ | refine TR_storeA2 rfl rfl rfl (.there (.there (.here))) rfl rfl (fun _ h => h.sub (by first | exact .refl _ | exact .cons _ (.refl _) | exact .cons _ (.cons _ (.refl _)) | exact .cons_cons _ (.cons _ (.refl _)) | exact .cons _ (.cons _ (.cons _ (.refl _))) | exact .cons _ (.cons _ (.cons _ (.cons _ (.refl _)))) | exact .cons _ (.cons _ (.cons _ (.cons _ (.cons _ (.refl _))))) | exact .cons _ (.cons _ (.cons_cons _ (.cons _ (.refl _)))))) ?_ | refine TR_storeA2 rfl rfl rfl (.there (.there (.there (.here)))) rfl rfl (fun _ h => h.sub (by first | exact .refl _ | exact .cons _ (.refl _) | exact .cons _ (.cons _ (.refl _)) | exact .cons_cons _ (.cons _ (.refl _)) | exact .cons _ (.cons _ (.cons _ (.refl _))) | exact .cons _ (.cons _ (.cons _ (.cons _ (.refl _)))) | exact .cons _ (.cons _ (.cons _ (.cons _ (.cons _ (.refl _))))) | exact .cons _ (.cons _ (.cons_cons _ (.cons _ (.refl _)))))) ?_); refine TR_pv1 PV_assign rfl (fun _ h => h.sub (by first | exact .refl _ | exact .cons _ (.refl _) | exact .cons _ (.cons _ (.refl _)) | exact .cons_cons _ (.cons _ (.refl _)) | exact .cons _ (.cons _ (.cons _ (.refl _))) | exact .cons _ (.cons _ (.cons _ (.cons _ (.refl _)))) | exact .cons _ (.cons _ (.cons _ (.cons _ (.cons _ (.refl _))))) | exact .cons _ (.cons _ (.cons_cons _ (.cons _ (.refl _)))))) ?_; refine TR_nil ?_)))
    | refine TC_cond_t rfl rfl ?_
    | refine TC_cond_f rfl rfl ?_
    | refine TC_skip ?_
    | refine TC_ret ?_
    | refine TC_exit ?_
    | refine TC_block ?_
    | refine TQ_then_ret ?_
    | refine TQ_then_exit ?_
    | refine TQ_blk ?_
    | refine TQ_blk_ret ?_
    | refine TQ_blk_here ?_
    | refine TQ_blk_past rfl ?_
    | refine TC_label ?_
    | (refine TC_cond rfl rfl (fun hq => ?_) (fun hq => ?_) <;> (try simp only [qs] at hq) <;> (try simp only [reduceCtorEq] at hq) <;> (try (exfalso; omega)) <;> (try contradiction))
    all_goals
      first
        | exact TQ_cut tb trivial ⟨rfl, rfl, rfl, trivial⟩ (fun w hs => by
            have hs2 : St w₀ w (tblk tb (setAll (toldCells 0 false (fun _ => tp0)) 0 told0.cells) :: C' :: opbk xb o :: asbk rb zAns :: H :: R) := hs
            rw [cp_told] at hs2
            exact hs2.le (fun a => by simp only [les]; omega))
        | exact TQ_cut tb trivial ⟨rfl, rfl, rfl, trivial⟩ (fun w hs => by
            have hs2 : St w₀ w (C' :: tblk tb (setAll (toldCells 0 false (fun _ => tp0)) 0 told0.cells) :: opbk xb o :: asbk rb zAns :: H :: R) := hs
            rw [cp_told] at hs2
            exact hs2.le (fun a => by simp only [les]; omega))
  · rintro tb σg -
    have htk : (told0.cells.drop 0).take 22 = told0.cells := tk_told told0
    repeat' first
      | refine TC_seq ?_
      | refine TQ_then ?_
      | refine TR_nil ?_
      | refine TQ_noPanic ?_
      | (refine TC_plain (id := 28) (by kernel_rfl) ?_; (first | refine TR_loadAM0 rfl (.head _) 0 rfl htk rfl rfl ?_ | refine TR_loadA0 rfl 0 rfl rfl rfl ?_ | refine TR_loadA0 rfl 1 rfl rfl rfl ?_ | refine TR_loadA0 rfl 2 rfl rfl rfl ?_ | refine TR_loadA0 rfl 3 rfl rfl rfl ?_ | refine TR_loadA0 rfl 4 rfl rfl rfl ?_); refine TR_calld0 (plain21_cd told0) rfl rfl rfl rfl ?_; refine TR_pv0 PV_move rfl ?_; (first | refine TR_pv0 (PV_build rfl (ans_fill told0 2)) rfl ?_ | refine TR_pv0 (PV_build rfl rfl) rfl ?_); (first | refine TR_storeA0_0 rfl rfl rfl rfl rfl rfl ?_ | refine TR_storeA0_1 rfl rfl rfl rfl rfl rfl ?_ | refine TR_storeA0_2 rfl rfl rfl rfl rfl rfl ?_ | refine TR_storeA0_3 rfl rfl rfl rfl rfl rfl ?_ | refine TR_storeA0_4 rfl rfl rfl rfl rfl rfl ?_); refine TR_nil ?_)
      | refine TC_cond_t rfl rfl ?_
      | refine TC_cond_f rfl rfl ?_
      | refine TC_skip ?_
      | refine TC_ret ?_
      | refine TC_exit ?_
      | refine TC_block ?_
      | refine TQ_then_ret ?_
      | refine TQ_then_exit ?_
      | refine TQ_blk ?_
      | refine TQ_blk_ret ?_
      | refine TQ_blk_here ?_
      | refine TQ_blk_past rfl ?_
      | refine TC_label ?_
      | (refine TC_cond rfl rfl (fun hq => ?_) (fun hq => ?_) <;> (try simp only [qs] at hq) <;> (try simp only [reduceCtorEq] at hq) <;> (try (exfalso; omega)) <;> (try contradiction))
    refine TQ_le (L' := tblk tb told0.cells :: opbk xb o :: asbk rb (setAll zAns 0 (Ans.cells { ans0 with e := 2, t := told0 } nilRow)) :: H :: R) (Le.refl _) ?_
    rw [cp_ans0]
    exact TQ_retCe (cs := Ans.cells { ans0 with e := 2, t := told0 } nilRow) (C' := [nilRow.C, H]) rfl rfl rfl 2 rfl rfl ⟨nilRow, rfl, rfl⟩ (fun a => by simp only [les, nilRow]; omega)

end Go.Proofs.Ytonfkkdahlboiaa
