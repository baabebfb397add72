/- does, with no flight: get; all of it. -/
import Derived.Test.YtonfkkdahlboiaaFDoesN
namespace Go.Proofs.Ytonfkkdahlboiaa
open Go.RowKit
set_option maxHeartbeats 4000000
set_option maxRecDepth 10000

theorem doesn_get (H : Seg) (o : LOp) (hk : o.kind = 2) (cum : Int) : Ct Try.prog 22 [.pointer none, .agg o.cells.toArray, u32 cum] [H] (NilPost H ans0) := by
  refine Ct_intro Try.func22 rfl (by simp only [Try.ntmps22, List.length_cons, List.length_nil]; omega) ?_
  intro w₀ R
  repeat' first
    | refine TC_seq ?_
    | refine TQ_then ?_
    | refine TR_nil ?_
    | refine TQ_noPanic ?_
    | (refine TC_plain (id := 0) (by kernel_rfl) ?_; (refine TR_box0 rfl rfl rfl ?_; intro xb); (refine TR_alloc0 rfl ?_; intro rb); refine TR_nil ?_)
    | (refine TC_plain (id := 1) (by kernel_rfl) ?_; (refine TR_alloc0 rfl ?_; intro zb); refine TR_nil ?_)
    | (refine TC_plain (id := 2) (by kernel_rfl) ?_; refine TR_pv0 (PV_fieldAddr rfl) rfl ?_; (first | refine TR_load0 rfl 0 rfl rfl rfl ?_ | refine TR_load0 rfl 1 rfl rfl rfl ?_ | refine TR_load0 rfl 2 rfl rfl rfl ?_ | refine TR_load0 rfl 3 rfl rfl rfl ?_ | refine TR_load0 rfl 4 rfl rfl rfl ?_); refine TR_nil ?_)
    | (refine TC_plain (id := 3) (by kernel_rfl) ?_; refine TR_pv0 (PV_eql rfl rfl) rfl ?_; refine TR_pv0 PV_assign rfl ?_; refine TR_nil ?_)
    | (refine TC_plain (id := 12) (by kernel_rfl) ?_; refine TR_pv0 (PV_eql rfl rfl) rfl ?_; refine TR_pv0 PV_assign rfl ?_; refine TR_nil ?_)
    | (refine TC_plain (id := 14) (by kernel_rfl) ?_; refine TR_pv0 (PV_eql rfl rfl) rfl ?_; refine TR_pv0 PV_assign rfl ?_; refine TR_nil ?_)
    | (refine TC_plain (id := 15) (by kernel_rfl) ?_; refine TR_pv0 PV_move rfl ?_; refine TR_pv0 PV_move rfl ?_; refine TR_pv0 (PV_fieldAddr rfl) rfl ?_; (first | refine TR_load0 rfl 0 rfl rfl rfl ?_ | refine TR_load0 rfl 1 rfl rfl rfl ?_ | refine TR_load0 rfl 2 rfl rfl rfl ?_ | refine TR_load0 rfl 3 rfl rfl rfl ?_ | refine TR_load0 rfl 4 rfl rfl rfl ?_); refine TR_pv0 (PV_add32 rfl rfl) rfl ?_; refine TR_calld0 (getF_ct_nil (doTsn o cum)) rfl rfl rfl rfl ?_; refine TR_pv0 PV_move rfl ?_; refine TR_pv0 (PV_extract rfl rfl) rfl ?_; refine TR_pv0 (PV_extract rfl rfl) rfl ?_; refine TR_pv0 (PV_extract rfl rfl) rfl ?_; (refine TR_alloc0 rfl ?_; intro db); (first | refine TR_storeA0_0 rfl rfl rfl rfl rfl rfl ?_ | refine TR_storeA0_1 rfl rfl rfl rfl rfl rfl ?_ | refine TR_storeA0_2 rfl rfl rfl rfl rfl rfl ?_ | refine TR_storeA0_3 rfl rfl rfl rfl rfl rfl ?_ | refine TR_storeA0_4 rfl rfl rfl rfl rfl rfl ?_); refine TR_pv0 PV_assign rfl ?_; refine TR_pv0 PV_assign rfl ?_; refine TR_nil ?_)
    | refine TC_cond_t rfl rfl ?_
    | refine TC_cond_f rfl rfl ?_
    | refine TC_skip ?_
    | refine TC_ret ?_
    | refine TC_exit ?_
    | refine TC_block ?_
    | refine TQ_then_ret ?_
    | refine TQ_then_exit ?_
    | refine TQ_blk ?_
    | refine TQ_blk_ret ?_
    | refine TQ_blk_here ?_
    | refine TQ_blk_past rfl ?_
    | refine TC_label ?_
    | (refine TC_cond rfl rfl (fun hq => ?_) (fun hq => ?_) <;> (try simp only [qs] at hq) <;> (try simp only [reduceCtorEq] at hq) <;> (try (exfalso; omega)) <;> (try contradiction))
  refine TC_slots [(6, ptr rb), (7, ptr zb), (12, ptr db), (13, i64 0), (14, .bool false)] ⟨rfl, rfl, rfl, rfl, rfl, trivial⟩ fun σ' => ?_
  refine TC_le (L' := dbk db (zeroPc.at_ nilRow) :: asbk zb zAns :: asbk rb zAns :: opbk xb o :: H :: R) (Le.refl _) ?_
  repeat' first
    | refine TC_seq ?_
    | refine TQ_then ?_
    | refine TR_nil ?_
    | refine TQ_noPanic ?_
    | (refine TC_plain (id := 16) (by kernel_rfl) ?_; (first | refine TR_loadA0 rfl 0 rfl rfl rfl ?_ | refine TR_loadA0 rfl 1 rfl rfl rfl ?_ | refine TR_loadA0 rfl 2 rfl rfl rfl ?_ | refine TR_loadA0 rfl 3 rfl rfl rfl ?_ | refine TR_loadA0 rfl 4 rfl rfl rfl ?_); refine TR_pv0 PV_move rfl ?_; refine TR_pv0 PV_move rfl ?_; refine TR_pv0 (PV_build rfl rfl) rfl ?_; (first | refine TR_storeA0_0 rfl rfl rfl rfl rfl rfl ?_ | refine TR_storeA0_1 rfl rfl rfl rfl rfl rfl ?_ | refine TR_storeA0_2 rfl rfl rfl rfl rfl rfl ?_ | refine TR_storeA0_3 rfl rfl rfl rfl rfl rfl ?_ | refine TR_storeA0_4 rfl rfl rfl rfl rfl rfl ?_); refine TR_nil ?_)
    | refine TC_cond_t rfl rfl ?_
    | refine TC_cond_f rfl rfl ?_
    | refine TC_skip ?_
    | refine TC_ret ?_
    | refine TC_exit ?_
    | refine TC_block ?_
    | refine TQ_then_ret ?_
    | refine TQ_then_exit ?_
    | refine TQ_blk ?_
    | refine TQ_blk_ret ?_
    | refine TQ_blk_here ?_
    | refine TQ_blk_past rfl ?_
    | refine TC_label ?_
    | (refine TC_cond rfl rfl (fun hq => ?_) (fun hq => ?_) <;> (try simp only [qs] at hq) <;> (try simp only [reduceCtorEq] at hq) <;> (try (exfalso; omega)) <;> (try contradiction))
  refine TC_le (L' := dbk db (zeroPc.at_ nilRow) :: asbk zb (setAll zAns 0 (Ans.cells ans0 nilRow)) :: asbk rb zAns :: opbk xb o :: H :: R) (Le.refl _) ?_
  rw [cp_ans0]
  repeat' first
    | refine TC_seq ?_
    | refine TQ_then ?_
    | refine TR_nil ?_
    | refine TQ_noPanic ?_
    | (refine TC_plain (id := 17) (by kernel_rfl) ?_; (refine TR_buildSlice (.inl rfl) rfl rfl rfl rfl ?_; intro q); refine TR_pv0 (PV_fieldAddr rfl) rfl ?_; (first | refine TR_load0 rfl 0 rfl rfl rfl ?_ | refine TR_load0 rfl 1 rfl rfl rfl ?_ | refine TR_load0 rfl 2 rfl rfl rfl ?_ | refine TR_load0 rfl 3 rfl rfl rfl ?_ | refine TR_load0 rfl 4 rfl rfl rfl ?_); (refine TR_append00 (.inl rfl) (empty_ok _ _ _) rfl rfl (.cons .here .nil) (src_nil _) (news := []) rfl rfl (show 0 * (1 + 1) ≤ 140737488355328 by omega) rfl ?_; intro a' cap' C' hS); refine TR_pv0 (PV_fieldAddr rfl) rfl ?_; refine TR_pv0 (PV_fieldAddr rfl) rfl ?_; (first | refine TR_store0_0 rfl rfl rfl rfl rfl rfl ?_ | refine TR_store0_1 rfl rfl rfl rfl rfl rfl ?_ | refine TR_store0_2 rfl rfl rfl rfl rfl rfl ?_ | refine TR_store0_3 rfl rfl rfl rfl rfl rfl ?_ | refine TR_store0_4 rfl rfl rfl rfl rfl rfl ?_); refine TR_nil ?_)
    | (refine TC_plain (id := 18) (by kernel_rfl) ?_; refine TR_pv0 PV_assign rfl ?_; refine TR_nil ?_)
    | refine TC_cond_t rfl rfl ?_
    | refine TC_cond_f rfl rfl ?_
    | refine TC_skip ?_
    | refine TC_ret ?_
    | refine TC_exit ?_
    | refine TC_block ?_
    | refine TQ_then_ret ?_
    | refine TQ_then_exit ?_
    | refine TQ_blk ?_
    | refine TQ_blk_ret ?_
    | refine TQ_blk_here ?_
    | refine TQ_blk_past rfl ?_
    | refine TC_label ?_
    | (refine TC_cond rfl rfl (fun hq => ?_) (fun hq => ?_) <;> (try simp only [qs] at hq) <;> (try simp only [reduceCtorEq] at hq) <;> (try (exfalso; omega)) <;> (try contradiction))
  refine TC_slots [(6, ptr rb), (7, ptr zb), (12, ptr db), (15, i64 0)] ⟨rfl, rfl, rfl, rfl, trivial⟩ fun σ' => ?_
  refine TC_loopP (X := Nat) (fun _ => dbk db (zeroPc.at_ nilRow) :: asbk zb (Ans.cells ans0 ⟨a', cap', C'⟩) :: asbk rb zAns :: C' :: opbk xb o :: H :: R)
    (fun _ => [(6, ptr rb), (7, ptr zb), (12, ptr db), (15, i64 0)]) (fun _ => True) (fun _ => 0) 0 trivial ⟨rfl, rfl, rfl, rfl, trivial⟩ (fun w' hs => ?_) ?_
  · have hs2 : St w₀ w' (C' :: dbk db (zeroPc.at_ nilRow) :: asbk zb (Ans.cells ans0 ⟨a', cap', C'⟩) :: asbk rb zAns :: opbk xb o :: H :: R) := hs
    exact hs2.le (fun a => by simp only [les]; omega)
  rintro _ σg mm hmm -
  repeat' first
    | refine TC_seq ?_
    | refine TQ_then ?_
    | refine TR_nil ?_
    | refine TQ_noPanic ?_
    | (refine TC_plain (id := 19) (by kernel_rfl) ?_; refine TR_pv0 PV_move rfl ?_; refine TR_pv0 (PV_fieldAddr rfl) rfl ?_; (first | refine TR_load0 rfl 0 rfl rfl rfl ?_ | refine TR_load0 rfl 1 rfl rfl rfl ?_ | refine TR_load0 rfl 2 rfl rfl rfl ?_ | refine TR_load0 rfl 3 rfl rfl rfl ?_ | refine TR_load0 rfl 4 rfl rfl rfl ?_); refine TR_pv0 (PV_len rfl) rfl ?_; refine TR_pv0 (PV_lss rfl rfl) rfl ?_; refine TR_nil ?_)
    | (refine TC_plain (id := 21) (by kernel_rfl) ?_; refine TR_pv0 (PV_fieldAddr rfl) rfl ?_; (first | refine TR_load0 rfl 0 rfl rfl rfl ?_ | refine TR_load0 rfl 1 rfl rfl rfl ?_ | refine TR_load0 rfl 2 rfl rfl rfl ?_ | refine TR_load0 rfl 3 rfl rfl rfl ?_ | refine TR_load0 rfl 4 rfl rfl rfl ?_); refine TR_pv0 PV_move rfl ?_; (first | refine TR_pv0 (PV_indexAddr rfl rfl (by omega)) rfl ?_ | refine TR_pv0 (PV_indexArr rfl rfl (by omega)) rfl ?_); (first | refine TR_store0_0 rfl rfl rfl rfl rfl rfl ?_ | refine TR_store0_1 rfl rfl rfl rfl rfl rfl ?_ | refine TR_store0_2 rfl rfl rfl rfl rfl rfl ?_ | refine TR_store0_3 rfl rfl rfl rfl rfl rfl ?_ | refine TR_store0_4 rfl rfl rfl rfl rfl rfl ?_); refine TR_nil ?_)
    | (refine TC_plain (id := 20) (by kernel_rfl) ?_; refine TR_pv0 PV_move rfl ?_; (first | refine TR_pv0 (PV_add64 rfl rfl (by omega)) rfl ?_ | refine TR_pv0 (PV_add64w rfl rfl) rfl ?_); refine TR_pv0 PV_assign rfl ?_; refine TR_nil ?_)
    | (refine TC_plain (id := 29) (by kernel_rfl) ?_; (first | refine TR_loadA0 rfl 0 rfl rfl rfl ?_ | refine TR_loadA0 rfl 1 rfl rfl rfl ?_ | refine TR_loadA0 rfl 2 rfl rfl rfl ?_ | refine TR_loadA0 rfl 3 rfl rfl rfl ?_ | refine TR_loadA0 rfl 4 rfl rfl rfl ?_); (first | refine TR_storeA0_0 rfl rfl rfl rfl rfl rfl ?_ | refine TR_storeA0_1 rfl rfl rfl rfl rfl rfl ?_ | refine TR_storeA0_2 rfl rfl rfl rfl rfl rfl ?_ | refine TR_storeA0_3 rfl rfl rfl rfl rfl rfl ?_ | refine TR_storeA0_4 rfl rfl rfl rfl rfl rfl ?_); refine TR_nil ?_)
    | refine TC_cond_t rfl rfl ?_
    | refine TC_cond_f rfl rfl ?_
    | refine TC_skip ?_
    | refine TC_ret ?_
    | refine TC_exit ?_
    | refine TC_block ?_
    | refine TQ_then_ret ?_
    | refine TQ_then_exit ?_
    | refine TQ_blk ?_
    | refine TQ_blk_ret ?_
    | refine TQ_blk_here ?_
    | refine TQ_blk_past rfl ?_
    | refine TC_label ?_
    | (refine TC_cond rfl rfl (fun hq => ?_) (fun hq => ?_) <;> (try simp only [qs] at hq) <;> (try simp only [reduceCtorEq] at hq) <;> (try (exfalso; omega)) <;> (try contradiction))
  refine TQ_le (L' := dbk db (zeroPc.at_ nilRow) :: asbk zb (Ans.cells ans0 ⟨a', cap', C'⟩) :: asbk rb (setAll zAns 0 (((Ans.cells ans0 ⟨a', cap', C'⟩).drop 0).take 32)) :: C' :: opbk xb o :: H :: R) (Le.refl _) ?_
  rw [cp_ans]
  exact TQ_retCe (cs := Ans.cells ans0 ⟨a', cap', C'⟩) (C' := [C', H]) rfl rfl rfl 2 rfl rfl ⟨⟨a', cap', C'⟩, rfl, rfl⟩ (fun a => by simp only [les]; omega)

def nilA (o : LOp) : Ans := { ans0 with e := if o.kind = 0 ∨ o.kind = 1 ∨ o.kind = 5 then 2 else 0 }
theorem doesn_ct (H : Seg) (o : LOp) (ho : o.ok H) (hs : o.small) (cum : Int) : Ct Try.prog 22 [.pointer none, .agg o.cells.toArray, u32 cum] [H] (NilPost H (nilA o)) := by
  unfold nilA
  by_cases h0 : o.kind = 0
  · rw [if_pos (.inl h0)]; exact doesn_add H o ho hs.b h0 cum
  by_cases h1 : o.kind = 1
  · rw [if_pos (.inr (.inl h1))]; exact doesn_again H o h1 cum
  by_cases h5 : o.kind = 5
  · rw [if_pos (.inr (.inr h5))]; exact doesn_sack H o ho hs.g h5 cum
  rw [if_neg (by omega)]
  by_cases h2 : o.kind = 2
  · exact doesn_get H o h2 cum
  by_cases h3 : o.kind = 3
  · exact doesn_mark H o h3 cum
  by_cases h4 : o.kind = 4
  · exact doesn_abandon H o h4 cum
  exact doesn_none H o h0 h1 h2 h3 h4 h5 cum
end Go.Proofs.Ytonfkkdahlboiaa
