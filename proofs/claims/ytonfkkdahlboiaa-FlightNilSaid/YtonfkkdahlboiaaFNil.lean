/- No flight: what each function makes of it. -/
import Derived.Test.YtonfkkdahlboiaaFDoesC
namespace Go.Proofs.Ytonfkkdahlboiaa
open Go.RowKit
set_option maxHeartbeats 4000000
set_option maxRecDepth 10000

theorem such_itn (l b1 b2 : Nat) : Ct Try.prog 58 [yieldV l, ptr b1, ptr b2] [fbox b1 none] (fun v D => v = .tuple #[] ∧ D = [fbox b1 none]) := by
  refine Ct_intro Try.func58 rfl (by simp only [Try.ntmps58, List.length_cons, List.length_nil]; omega) ?_
  intro w₀ R
  repeat' first
    | refine TC_seq ?_
    | refine TQ_then ?_
    | refine TR_nil ?_
    | refine TQ_noPanic ?_
    | (refine TC_plain (id := 0) (by kernel_rfl) ?_; (first | refine TR_load0 rfl 0 rfl rfl rfl ?_ | refine TR_load0 rfl 1 rfl rfl rfl ?_ | refine TR_load0 rfl 2 rfl rfl rfl ?_ | refine TR_load0 rfl 3 rfl rfl rfl ?_); (first | refine TR_pv0 (PV_peq_nil rfl rfl) rfl ?_ | refine TR_pv0 (PV_peq rfl rfl) rfl ?_); refine TR_nil ?_)
    | refine TC_cond_t rfl rfl ?_
    | refine TC_cond_f rfl rfl ?_
    | refine TC_skip ?_
    | refine TC_ret ?_
    | refine TC_exit ?_
    | refine TC_block ?_
    | refine TQ_then_ret ?_
    | refine TQ_then_exit ?_
    | refine TQ_blk ?_
    | refine TQ_blk_ret ?_
    | refine TQ_blk_here ?_
    | refine TQ_blk_past rfl ?_
    | refine TC_label ?_
    | (refine TC_cond rfl rfl (fun hq => ?_) (fun hq => ?_) <;> (try simp only [qs] at hq) <;> (try simp only [reduceCtorEq] at hq) <;> (try (exfalso; omega)) <;> (try contradiction))
  exact TQ_ret0e (C' := [fbox b1 none]) rfl ⟨rfl, rfl⟩ (fun a => by simp only [les]; omega)
theorem TC_suchn {n t : Nat} {ds : List Deferred} {w₀ : World} {Q : Exit → Act → World → Prop} {L : List Seg} {σ : Sig} {g : Operand} {assign body : Code} {R : List Seg} (b1 b2 : Nat)
    (hg : ev σ g = .func (.func 58) #[] #[ptr b1, ptr b2]) (hok : okO n g = true) (hL : Le L (fbox b1 none :: R))
    (k : ∀ d, TQ n (markOf d :: ds) w₀ Q .normal (defSeg d :: R) σ) : TC Try.prog none n ds w₀ (.rangeFunc g #[t] assign body) Q L σ := by
  refine TC_le hL ?_
  refine TC_ranged (C := [fbox b1 none]) (R := R) (fs := []) (cs := [ptr b1, ptr b2]) (fun l r v D => v = .tuple #[] ∧ D = [loopSeg l r, fbox b1 none]) hg hok (.cons .here .nil) (fun fn l d r hr => ?_) (fun l d r v C' h => ?_)
  · exact Cd.within (E := [loopSeg l r]) (such_itn l b1 b2) (fun a => by simp only [les]; omega) (fun a => by simp only [les]; omega)
  · obtain ⟨_, rfl⟩ := h
    refine ⟨[fbox b1 none], Le.refl _, ?_⟩
    exact TQ_le (L' := defSeg d :: R) (fun a => by simp only [les]; omega) (k d)
theorem outF_nil (path : Int) : Cd Try.prog 17 [.pointer none, i64 path] [] (i64 0) [] := by
  refine Ct_introM Try.func17 rfl (by simp only [Try.ntmps17, List.length_cons, List.length_nil]; omega) ?_
  intro w₀ R
  repeat' first
    | refine TC_seq ?_
    | refine TQ_then ?_
    | refine TR_nil ?_
    | refine TQ_noPanic ?_
    | (refine TC_plain (id := 0) (by kernel_rfl) ?_; refine TR_pv0 PV_assign rfl ?_; refine TR_nil ?_)
    | (refine TC_plain (id := 1) (by kernel_rfl) ?_; (refine TR_alloc0 rfl ?_; intro _); (first | refine TR_store0_0 rfl rfl rfl rfl rfl rfl ?_ | refine TR_store0_1 rfl rfl rfl rfl rfl rfl ?_ | refine TR_store0_2 rfl rfl rfl rfl rfl rfl ?_ | refine TR_store0_3 rfl rfl rfl rfl rfl rfl ?_); refine TR_nil ?_)
    | (refine TC_plain (id := 2) (by kernel_rfl) ?_; refine TR_pv0 PV_move rfl ?_; refine TR_pv0 PV_move rfl ?_; (refine TR_calln (by_ct path) rfl rfl rfl ?_; intro pb); (refine TR_call0 (such_ct none 59 #[] #[ptr pb]) rfl rfl .nil rfl ?_; rintro _ _ ⟨b1, b2, rfl, rfl⟩); refine TR_nil ?_)
    | refine TC_cond_t rfl rfl ?_
    | refine TC_cond_f rfl rfl ?_
    | refine TC_skip ?_
    | refine TC_ret ?_
    | refine TC_exit ?_
    | refine TC_block ?_
    | refine TQ_then_ret ?_
    | refine TQ_then_exit ?_
    | refine TQ_blk ?_
    | refine TQ_blk_ret ?_
    | refine TQ_blk_here ?_
    | refine TQ_blk_past rfl ?_
    | refine TC_label ?_
    | (refine TC_cond rfl rfl (fun hq => ?_) (fun hq => ?_) <;> (try simp only [qs] at hq) <;> (try simp only [reduceCtorEq] at hq) <;> (try (exfalso; omega)) <;> (try contradiction))
  rename_i nb
  refine TC_suchn (R := ibox nb 0 :: ibox pb path :: R) b1 b2 rfl rfl (Le.trans (M := fbox b1 none :: isbox b2 (.func (.func 59) #[] #[ptr pb]) :: ibox pb path :: ibox nb 0 :: R) (Le.refl _) (fun a => by simp only [les]; omega)) fun d => ?_
  refine TQ_le (L' := ibox nb 0 :: defSeg d :: ibox pb path :: R) (fun a => by simp only [les]; omega) ?_
  repeat' first
    | refine TC_seq ?_
    | refine TQ_then ?_
    | refine TR_nil ?_
    | refine TQ_noPanic ?_
    | (refine TC_plain (id := 5) (by kernel_rfl) ?_; (first | refine TR_load0 rfl 0 rfl rfl rfl ?_ | refine TR_load0 rfl 1 rfl rfl rfl ?_ | refine TR_load0 rfl 2 rfl rfl rfl ?_ | refine TR_load0 rfl 3 rfl rfl rfl ?_); refine TR_pv0 PV_assign rfl ?_; refine TR_nil ?_)
    | refine TC_cond_t rfl rfl ?_
    | refine TC_cond_f rfl rfl ?_
    | refine TC_skip ?_
    | refine TC_ret ?_
    | refine TC_exit ?_
    | refine TC_block ?_
    | refine TQ_then_ret ?_
    | refine TQ_then_exit ?_
    | refine TQ_blk ?_
    | refine TQ_blk_ret ?_
    | refine TQ_blk_here ?_
    | refine TQ_blk_past rfl ?_
    | refine TC_label ?_
    | (refine TC_cond rfl rfl (fun hq => ?_) (fun hq => ?_) <;> (try simp only [qs] at hq) <;> (try simp only [reduceCtorEq] at hq) <;> (try (exfalso; omega)) <;> (try contradiction))
  exact TQ_mark (M := R) (fun a => by simp only [les]; omega) (TQ_unmarked (TQ_ret1e rfl rfl rfl ⟨rfl, rfl⟩ (fun a => by simp only [les]; omega)))
theorem markF_nil (path : Int) : Cd Try.prog 12 [.pointer none, i64 path] [] (i64 0) [] := by
  refine Ct_introM Try.func12 rfl (by simp only [Try.ntmps12, List.length_cons, List.length_nil]; omega) ?_
  intro w₀ R
  repeat' first
    | refine TC_seq ?_
    | refine TQ_then ?_
    | refine TR_nil ?_
    | refine TQ_noPanic ?_
    | (refine TC_plain (id := 0) (by kernel_rfl) ?_; refine TR_pv0 PV_assign rfl ?_; refine TR_nil ?_)
    | (refine TC_plain (id := 1) (by kernel_rfl) ?_; (refine TR_alloc0 rfl ?_; intro _); (first | refine TR_store0_0 rfl rfl rfl rfl rfl rfl ?_ | refine TR_store0_1 rfl rfl rfl rfl rfl rfl ?_ | refine TR_store0_2 rfl rfl rfl rfl rfl rfl ?_ | refine TR_store0_3 rfl rfl rfl rfl rfl rfl ?_); refine TR_nil ?_)
    | (refine TC_plain (id := 2) (by kernel_rfl) ?_; refine TR_pv0 PV_move rfl ?_; refine TR_pv0 PV_move rfl ?_; (refine TR_calln (by_ct path) rfl rfl rfl ?_; intro pb); (refine TR_call0 (such_ct none 59 #[] #[ptr pb]) rfl rfl .nil rfl ?_; rintro _ _ ⟨b1, b2, rfl, rfl⟩); refine TR_nil ?_)
    | refine TC_cond_t rfl rfl ?_
    | refine TC_cond_f rfl rfl ?_
    | refine TC_skip ?_
    | refine TC_ret ?_
    | refine TC_exit ?_
    | refine TC_block ?_
    | refine TQ_then_ret ?_
    | refine TQ_then_exit ?_
    | refine TQ_blk ?_
    | refine TQ_blk_ret ?_
    | refine TQ_blk_here ?_
    | refine TQ_blk_past rfl ?_
    | refine TC_label ?_
    | (refine TC_cond rfl rfl (fun hq => ?_) (fun hq => ?_) <;> (try simp only [qs] at hq) <;> (try simp only [reduceCtorEq] at hq) <;> (try (exfalso; omega)) <;> (try contradiction))
  rename_i nb
  refine TC_suchn (R := ibox nb 0 :: ibox pb path :: R) b1 b2 rfl rfl (Le.trans (M := fbox b1 none :: isbox b2 (.func (.func 59) #[] #[ptr pb]) :: ibox pb path :: ibox nb 0 :: R) (Le.refl _) (fun a => by simp only [les]; omega)) fun d => ?_
  refine TQ_le (L' := ibox nb 0 :: defSeg d :: ibox pb path :: R) (fun a => by simp only [les]; omega) ?_
  repeat' first
    | refine TC_seq ?_
    | refine TQ_then ?_
    | refine TR_nil ?_
    | refine TQ_noPanic ?_
    | (refine TC_plain (id := 6) (by kernel_rfl) ?_; (first | refine TR_load0 rfl 0 rfl rfl rfl ?_ | refine TR_load0 rfl 1 rfl rfl rfl ?_ | refine TR_load0 rfl 2 rfl rfl rfl ?_ | refine TR_load0 rfl 3 rfl rfl rfl ?_); refine TR_pv0 PV_assign rfl ?_; refine TR_nil ?_)
    | refine TC_cond_t rfl rfl ?_
    | refine TC_cond_f rfl rfl ?_
    | refine TC_skip ?_
    | refine TC_ret ?_
    | refine TC_exit ?_
    | refine TC_block ?_
    | refine TQ_then_ret ?_
    | refine TQ_then_exit ?_
    | refine TQ_blk ?_
    | refine TQ_blk_ret ?_
    | refine TQ_blk_here ?_
    | refine TQ_blk_past rfl ?_
    | refine TC_label ?_
    | (refine TC_cond rfl rfl (fun hq => ?_) (fun hq => ?_) <;> (try simp only [qs] at hq) <;> (try simp only [reduceCtorEq] at hq) <;> (try (exfalso; omega)) <;> (try contradiction))
  exact TQ_mark (M := R) (fun a => by simp only [les]; omega) (TQ_unmarked (TQ_ret1e rfl rfl rfl ⟨rfl, rfl⟩ (fun a => by simp only [les]; omega)))
theorem openF_nil : Cd Try.prog 25 [.pointer none] [] (i64 0) [] := by
  refine Ct_introM Try.func25 rfl (by simp only [Try.ntmps25, List.length_cons, List.length_nil]; omega) ?_
  intro w₀ R
  repeat' first
    | refine TC_seq ?_
    | refine TQ_then ?_
    | refine TR_nil ?_
    | refine TQ_noPanic ?_
    | (refine TC_plain (id := 0) (by kernel_rfl) ?_; refine TR_pv0 PV_assign rfl ?_; refine TR_nil ?_)
    | (refine TC_plain (id := 1) (by kernel_rfl) ?_; (refine TR_alloc0 rfl ?_; intro _); (first | refine TR_store0_0 rfl rfl rfl rfl rfl rfl ?_ | refine TR_store0_1 rfl rfl rfl rfl rfl rfl ?_ | refine TR_store0_2 rfl rfl rfl rfl rfl rfl ?_ | refine TR_store0_3 rfl rfl rfl rfl rfl rfl ?_); refine TR_nil ?_)
    | (refine TC_plain (id := 2) (by kernel_rfl) ?_; refine TR_pv0 PV_move rfl ?_; (refine TR_call0 (such_ct none 50 #[] #[]) rfl rfl .nil rfl ?_; rintro _ _ ⟨b1, b2, rfl, rfl⟩); refine TR_nil ?_)
    | refine TC_cond_t rfl rfl ?_
    | refine TC_cond_f rfl rfl ?_
    | refine TC_skip ?_
    | refine TC_ret ?_
    | refine TC_exit ?_
    | refine TC_block ?_
    | refine TQ_then_ret ?_
    | refine TQ_then_exit ?_
    | refine TQ_blk ?_
    | refine TQ_blk_ret ?_
    | refine TQ_blk_here ?_
    | refine TQ_blk_past rfl ?_
    | refine TC_label ?_
    | (refine TC_cond rfl rfl (fun hq => ?_) (fun hq => ?_) <;> (try simp only [qs] at hq) <;> (try simp only [reduceCtorEq] at hq) <;> (try (exfalso; omega)) <;> (try contradiction))
  rename_i nb
  refine TC_suchn (R := ibox nb 0 :: R) b1 b2 rfl rfl (Le.trans (M := fbox b1 none :: isbox b2 (.func (.func 50) #[] #[]) :: ibox nb 0 :: R) (Le.refl _) (fun a => by simp only [les]; omega)) fun d => ?_
  refine TQ_le (L' := ibox nb 0 :: defSeg d :: R) (fun a => by simp only [les]; omega) ?_
  repeat' first
    | refine TC_seq ?_
    | refine TQ_then ?_
    | refine TR_nil ?_
    | refine TQ_noPanic ?_
    | (refine TC_plain (id := 5) (by kernel_rfl) ?_; (first | refine TR_load0 rfl 0 rfl rfl rfl ?_ | refine TR_load0 rfl 1 rfl rfl rfl ?_ | refine TR_load0 rfl 2 rfl rfl rfl ?_ | refine TR_load0 rfl 3 rfl rfl rfl ?_); refine TR_pv0 PV_assign rfl ?_; refine TR_nil ?_)
    | refine TC_cond_t rfl rfl ?_
    | refine TC_cond_f rfl rfl ?_
    | refine TC_skip ?_
    | refine TC_ret ?_
    | refine TC_exit ?_
    | refine TC_block ?_
    | refine TQ_then_ret ?_
    | refine TQ_then_exit ?_
    | refine TQ_blk ?_
    | refine TQ_blk_ret ?_
    | refine TQ_blk_here ?_
    | refine TQ_blk_past rfl ?_
    | refine TC_label ?_
    | (refine TC_cond rfl rfl (fun hq => ?_) (fun hq => ?_) <;> (try simp only [qs] at hq) <;> (try simp only [reduceCtorEq] at hq) <;> (try (exfalso; omega)) <;> (try contradiction))
  exact TQ_mark (M := R) (fun a => by simp only [les]; omega) (TQ_unmarked (TQ_ret1e rfl rfl rfl ⟨rfl, rfl⟩ (fun a => by simp only [les]; omega)))
theorem lostF_nil : Cd Try.prog 15 [.pointer none] [] (.slice none 0 0) [] := by
  refine Ct_introM Try.func15 rfl (by simp only [Try.ntmps15, List.length_cons, List.length_nil]; omega) ?_
  intro w₀ R
  repeat' first
    | refine TC_seq ?_
    | refine TQ_then ?_
    | refine TR_nil ?_
    | refine TQ_noPanic ?_
    | (refine TC_plain (id := 0) (by kernel_rfl) ?_; refine TR_pv0 PV_assign rfl ?_; refine TR_nil ?_)
    | (refine TC_plain (id := 1) (by kernel_rfl) ?_; (refine TR_alloc0 rfl ?_; intro _); refine TR_nil ?_)
    | (refine TC_plain (id := 2) (by kernel_rfl) ?_; refine TR_pv0 PV_move rfl ?_; (refine TR_call0 (such_ct none 41 #[] #[]) rfl rfl .nil rfl ?_; rintro _ _ ⟨b1, b2, rfl, rfl⟩); refine TR_nil ?_)
    | refine TC_cond_t rfl rfl ?_
    | refine TC_cond_f rfl rfl ?_
    | refine TC_skip ?_
    | refine TC_ret ?_
    | refine TC_exit ?_
    | refine TC_block ?_
    | refine TQ_then_ret ?_
    | refine TQ_then_exit ?_
    | refine TQ_blk ?_
    | refine TQ_blk_ret ?_
    | refine TQ_blk_here ?_
    | refine TQ_blk_past rfl ?_
    | refine TC_label ?_
    | (refine TC_cond rfl rfl (fun hq => ?_) (fun hq => ?_) <;> (try simp only [qs] at hq) <;> (try simp only [reduceCtorEq] at hq) <;> (try (exfalso; omega)) <;> (try contradiction))
  rename_i nb
  refine TC_suchn (R := lbox nb nilRow 0 :: R) b1 b2 rfl rfl (Le.trans (M := fbox b1 none :: isbox b2 (.func (.func 41) #[] #[]) :: lbox nb nilRow 0 :: R) (Le.refl _) (fun a => by simp only [les]; omega)) fun d => ?_
  refine TQ_le (L' := lbox nb nilRow 0 :: defSeg d :: R) (fun a => by simp only [les]; omega) ?_
  repeat' first
    | refine TC_seq ?_
    | refine TQ_then ?_
    | refine TR_nil ?_
    | refine TQ_noPanic ?_
    | (refine TC_plain (id := 5) (by kernel_rfl) ?_; (first | refine TR_load0 rfl 0 rfl rfl rfl ?_ | refine TR_load0 rfl 1 rfl rfl rfl ?_ | refine TR_load0 rfl 2 rfl rfl rfl ?_ | refine TR_load0 rfl 3 rfl rfl rfl ?_); refine TR_pv0 PV_assign rfl ?_; refine TR_nil ?_)
    | refine TC_cond_t rfl rfl ?_
    | refine TC_cond_f rfl rfl ?_
    | refine TC_skip ?_
    | refine TC_ret ?_
    | refine TC_exit ?_
    | refine TC_block ?_
    | refine TQ_then_ret ?_
    | refine TQ_then_exit ?_
    | refine TQ_blk ?_
    | refine TQ_blk_ret ?_
    | refine TQ_blk_here ?_
    | refine TQ_blk_past rfl ?_
    | refine TC_label ?_
    | (refine TC_cond rfl rfl (fun hq => ?_) (fun hq => ?_) <;> (try simp only [qs] at hq) <;> (try simp only [reduceCtorEq] at hq) <;> (try (exfalso; omega)) <;> (try contradiction))
  exact TQ_mark (M := R) (fun a => by simp only [les]; omega) (TQ_unmarked (TQ_ret1e (v := .slice none 0 0) rfl rfl rfl ⟨rfl, rfl⟩ (fun a => by simp only [les]; omega)))
theorem abandonF_nil (id : Int) : Cd Try.prog 19 [.pointer none, i64 id] [] (i64 0) [] := by
  refine Ct_introM Try.func19 rfl (by simp only [Try.ntmps19, List.length_cons, List.length_nil]; omega) ?_
  intro w₀ R
  repeat' first
    | refine TC_seq ?_
    | refine TQ_then ?_
    | refine TR_nil ?_
    | refine TQ_noPanic ?_
    | (refine TC_plain (id := 0) (by kernel_rfl) ?_; (refine TR_box0 rfl rfl rfl ?_; intro _); refine TR_pv0 PV_assign rfl ?_; refine TR_nil ?_)
    | (refine TC_plain (id := 1) (by kernel_rfl) ?_; (refine TR_alloc0 rfl ?_; intro _); (first | refine TR_store0_0 rfl rfl rfl rfl rfl rfl ?_ | refine TR_store0_1 rfl rfl rfl rfl rfl rfl ?_ | refine TR_store0_2 rfl rfl rfl rfl rfl rfl ?_ | refine TR_store0_3 rfl rfl rfl rfl rfl rfl ?_); refine TR_nil ?_)
    | (refine TC_plain (id := 2) (by kernel_rfl) ?_; refine TR_pv0 PV_move rfl ?_; refine TR_pv0 PV_makeFunc rfl ?_; (refine TR_call0 (such_ct none 47 #[] _) rfl rfl .nil rfl ?_; rintro _ _ ⟨b1, b2, rfl, rfl⟩); refine TR_nil ?_)
    | refine TC_cond_t rfl rfl ?_
    | refine TC_cond_f rfl rfl ?_
    | refine TC_skip ?_
    | refine TC_ret ?_
    | refine TC_exit ?_
    | refine TC_block ?_
    | refine TQ_then_ret ?_
    | refine TQ_then_exit ?_
    | refine TQ_blk ?_
    | refine TQ_blk_ret ?_
    | refine TQ_blk_here ?_
    | refine TQ_blk_past rfl ?_
    | refine TC_label ?_
    | (refine TC_cond rfl rfl (fun hq => ?_) (fun hq => ?_) <;> (try simp only [qs] at hq) <;> (try simp only [reduceCtorEq] at hq) <;> (try (exfalso; omega)) <;> (try contradiction))
  rename_i pb nb
  refine TC_suchn (R := ibox nb 0 :: ibox pb id :: R) b1 b2 rfl rfl (Le.trans (M := fbox b1 none :: isbox b2 (.func (.func 47) #[] #[ptr pb]) :: ibox nb 0 :: ibox pb id :: R) (Le.refl _) (fun a => by simp only [les]; omega)) fun d => ?_
  refine TQ_le (L' := ibox nb 0 :: ibox pb id :: defSeg d :: R) (fun a => by simp only [les]; omega) ?_
  repeat' first
    | refine TC_seq ?_
    | refine TQ_then ?_
    | refine TR_nil ?_
    | refine TQ_noPanic ?_
    | (refine TC_plain (id := 4) (by kernel_rfl) ?_; (first | refine TR_load0 rfl 0 rfl rfl rfl ?_ | refine TR_load0 rfl 1 rfl rfl rfl ?_ | refine TR_load0 rfl 2 rfl rfl rfl ?_ | refine TR_load0 rfl 3 rfl rfl rfl ?_); refine TR_pv0 (PV_eql rfl rfl) rfl ?_; refine TR_nil ?_)
    | (refine TC_plain (id := 5) (by kernel_rfl) ?_; refine TR_pv0 PV_assign rfl ?_; refine TR_nil ?_)
    | refine TC_cond_t rfl rfl ?_
    | refine TC_cond_f rfl rfl ?_
    | refine TC_skip ?_
    | refine TC_ret ?_
    | refine TC_exit ?_
    | refine TC_block ?_
    | refine TQ_then_ret ?_
    | refine TQ_then_exit ?_
    | refine TQ_blk ?_
    | refine TQ_blk_ret ?_
    | refine TQ_blk_here ?_
    | refine TQ_blk_past rfl ?_
    | refine TC_label ?_
    | (refine TC_cond rfl rfl (fun hq => ?_) (fun hq => ?_) <;> (try simp only [qs] at hq) <;> (try simp only [reduceCtorEq] at hq) <;> (try (exfalso; omega)) <;> (try contradiction))
  exact TQ_mark (M := R) (fun a => by simp only [les]; omega) (TQ_unmarked (TQ_ret1e rfl rfl rfl ⟨rfl, rfl⟩ (fun a => by simp only [les]; omega)))
end Go.Proofs.Ytonfkkdahlboiaa
