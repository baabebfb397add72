/- Abandon, the lowest of each path. -/
import Derived.Test.YtonfkkdahlboiaaFltR
namespace Go.Proofs.Ytonfkkdahlboiaa
open Go.RowKit
set_option maxHeartbeats 4000000

def goneR (id : Int) (r : FRec) : FRec := if r.id = id then { r with gone := true } else r
theorem goneR_ok (id : Int) {paths : Int} {r : FRec} (h : FRecOk r paths) : FRecOk (goneR id r) paths := by
  unfold goneR
  split
  · exact ⟨h.p0, h.p1, h.b0, h.b1, h.m0, h.m1, h.m2⟩
  · exact h
theorem goneR_d (id : Int) (r : FRec) : (goneR id r).d = r.d := by unfold goneR; split <;> rfl
def livesOf (id : Int) (l : List FRec) : Int := countIf (fun r => decide (r.id = id) && !r.acked && !r.gone) l
def FL.abandon (X : FL) (id : Int) : FL := if livesOf id X.recs = 0 then X else X.upTo (goneR id) X.l.length

theorem abandonF_cd (b : Nat) (X : FL) (h : FlOk X) (id : Int) : Cd Try.prog 19 [ptr b, i64 id] [X.seg b] (i64 (livesOf id X.recs)) [(X.abandon id).seg b] := by
  unfold FL.abandon livesOf
  generalize hp : (fun r : FRec => decide (r.id = id) && !r.acked && !r.gone) = p
  refine Ct_introM Try.func19 rfl (by simp only [Try.ntmps19, List.length_cons, List.length_nil]; omega) ?_
  intro w₀ R
  repeat' first
    | refine TC_seq ?_
    | refine TQ_then ?_
    | (refine TC_plain (id := 0) (by kernel_rfl) ?_; (refine TR_box0 rfl rfl rfl ?_; intro _); refine TR_pv0 PV_assign rfl ?_; refine TR_nil ?_)
    | (refine TC_plain (id := 1) (by kernel_rfl) ?_; (refine TR_alloc0 rfl ?_; intro _); refine TR_store0_0 rfl rfl rfl rfl rfl rfl ?_; refine TR_nil ?_)
    | (refine TC_plain (id := 2) (by kernel_rfl) ?_; refine TR_pv0 PV_move rfl ?_; refine TR_pv0 PV_makeFunc rfl ?_; (refine TR_call0 (such_ct (some ⟨b, 0, none⟩) 47 #[] _) rfl rfl .nil rfl ?_; rintro _ _ ⟨b1, b2, rfl, rfl⟩); refine TR_nil ?_)
    | refine TC_block ?_
  rename_i pb nb
  refine TC_such (R := R) b b1 b2 47 [] [ptr pb] X.ptrs X.w (fun n : Int => ibox nb n ++ ibox pb id) (fun _ => X) (fun k n => n = countIf p (X.recs.take k)) 0 (fun _ _ _ => ⟨rfl, rfl, h⟩) (fun k n e hn he => ?_) (by simp [countIf]) rfl rfl
    (Le.trans (M := fbox b1 (some ⟨b, 0, none⟩) :: isbox b2 (.func (.func 47) #[] #[ptr pb]) :: ibox nb 0 :: ibox pb id :: X.seg b :: R) (Le.refl _) (fun a => by simp only [les]; omega)) (fun d n hn => ?_)
  · refine ⟨p e.r, hp ▸ Cd.within (E := [ibox nb n ++ (X.bk b ++ (X.w.C ++ (rsegs (X.l.take k) ++ (e.w.C ++ rsegs (X.l.drop (k + 1))))))]) (abandon1_cd e pb id) (fun a => by simp only [les, FL.seg_at b he]; omega) (fun a => by simp only [les, FL.seg_at b he]; omega), fun hf => ?_, fun ht l r hr1 hr2 w₁ R' => ?_⟩
    · rw [countIf_next p (recs_at he), hf, hn]; simp
    · have h1 := countIf_take h p k
      rw [← hn] at h1
      have h3 := countIf_next p (recs_at he)
      rw [ht, ← hn, if_pos rfl] at h3
      clear hn
      refine TC_le (L' := loopSeg l r :: ibox nb n :: ((fbox b1 (some ⟨b, 0, none⟩) ++ isbox b2 (.func (.func 47) #[] #[ptr pb])) ++ (ibox pb id ++ X.seg b)) :: R') (fun a => by simp only [les]; omega) ?_
      repeat' first
        | refine TQ_begun hr1 (Le.refl _) ?_
        | (refine TC_plain (id := 3) (by kernel_rfl) ?_; refine TR_load0 rfl 1 rfl rfl rfl ?_; refine TR_pv0 (PV_add64 rfl rfl (by omega)) rfl ?_; refine TR_store0_1 rfl rfl rfl rfl rfl rfl ?_; refine TR_nil ?_)
        | refine TC_skip ?_
        | refine TC_block ?_
        | refine TQ_blk ?_
      refine TQ_le (L' := loopSeg l (busy r) :: ibox nb (n + 1) :: ((fbox b1 (some ⟨b, 0, none⟩) ++ isbox b2 (.func (.func 47) #[] #[ptr pb])) ++ (ibox pb id ++ X.seg b)) :: R') (Le.refl _) ?_
      exact TQ_roundOn hr1 hr2 (Le.refl _) ⟨rfl, n + 1, h3.symm, rfl⟩ (fun a => by simp only [les]; omega)
  · rw [recs_all] at hn
    have h1 := countIf_le p X.recs
    have h2 := h.len
    rw [← recs_length] at h2
    rw [← hn] at h1 ⊢
    clear hn
    refine TQ_le (L' := ibox nb n :: ibox pb id :: X.seg b :: defSeg d :: R) (fun a => by simp only [les]; omega) ?_
    by_cases hc : n = 0
    · rw [if_pos hc]
      repeat' first
        | refine TC_seq ?_
        | refine TQ_then ?_
        | (refine TC_plain (id := 4) (by kernel_rfl) ?_; refine TR_load0 rfl 0 rfl rfl rfl ?_; refine TR_pv0 (PV_eql rfl rfl) rfl ?_; refine TR_nil ?_)
        | (refine TC_plain (id := 5) (by kernel_rfl) ?_; refine TR_pv0 PV_assign rfl ?_; refine TR_nil ?_)
        | refine TC_ret ?_
        | refine TQ_then_ret ?_
        | refine TQ_blk ?_
        | (refine TC_cond rfl rfl (fun hq => ?_) (fun hq => ?_) <;> (try simp only [qs] at hq) <;> (try simp only [reduceCtorEq] at hq) <;> (try (exfalso; omega)) <;> (try contradiction))
      subst hc
      exact TQ_mark (M := X.seg b :: R) (fun a => by simp only [les]; omega) (TQ_unmarked (TQ_ret1e rfl rfl rfl ⟨rfl, rfl⟩ (fun a => by simp only [les]; omega)))
    · rw [if_neg hc]
      repeat' first
        | refine TC_seq ?_
        | refine TQ_then ?_
        | (refine TC_plain (id := 4) (by kernel_rfl) ?_; refine TR_load0 rfl 0 rfl rfl rfl ?_; refine TR_pv0 (PV_eql rfl rfl) rfl ?_; refine TR_nil ?_)
        | (refine TC_plain (id := 6) (by kernel_rfl) ?_; refine TR_pv0 PV_move rfl ?_; refine TR_pv0 PV_makeFunc rfl ?_; (refine TR_call0 (such_ct (some ⟨b, 0, none⟩) 48 #[] _) rfl rfl .nil rfl ?_; rintro _ _ ⟨c1, c2, rfl, rfl⟩); refine TR_nil ?_)
        | refine TC_skip ?_
        | refine TC_block ?_
        | refine TQ_blk ?_
        | (refine TC_cond rfl rfl (fun hq => ?_) (fun hq => ?_) <;> (try simp only [qs] at hq) <;> (try simp only [reduceCtorEq] at hq) <;> (try (exfalso; omega)) <;> (try contradiction))
      refine TC_such (R := defSeg d :: R) b c1 c2 48 [] [ptr pb] X.ptrs X.w (fun _ : Nat => ibox nb n ++ ibox pb id) (fun s => X.upTo (goneR id) s) (fun k s => X.upTo (goneR id) s = X.upTo (goneR id) k) 0
        (fun k s hs => ⟨by rw [upTo_ptrs], rfl, upTo_ok h _ _ (goneR_d id) fun r => goneR_ok id⟩) ?_ rfl rfl rfl
        (Le.trans (M := fbox c1 (some ⟨b, 0, none⟩) :: isbox c2 (.func (.func 48) #[] #[ptr pb]) :: ibox nb n :: ibox pb id :: X.seg b :: defSeg d :: R) (Le.refl _) (fun a => by simp only [les, upTo_zero]; omega)) ?_
      · rintro k j e hj he
        rw [hj] at he ⊢
        have hx := upTo_at _ he
        refine ⟨decide (e.r.id = id), Cd.within (E := [ibox nb n ++ (X.bk b ++ (X.w.C ++ (rsegs ((X.l.take k).map (fun x => { x with r := goneR id x.r })) ++ (e.w.C ++ rsegs (X.l.drop (k + 1))))))]) (abandon2_cd e pb id) (fun a => by simp only [les, upTo_seg b (goneR id) hx]; omega) (fun a => by simp only [les, upTo_seg b (goneR id) hx]; omega), fun hf => ?_, fun ht l r hr1 hr2 w₁ R' => ?_⟩
        · rw [upTo_same _ hx]
          exact if_neg (of_decide_eq_false hf)
        · have h4 : goneR id e.r = { e.r with gone := true } := if_pos (of_decide_eq_true ht)
          refine TC_le (L' := loopSeg l r :: e.bk :: ((fbox c1 (some ⟨b, 0, none⟩) ++ isbox c2 (.func (.func 48) #[] #[ptr pb])) ++ (ibox nb n ++ (ibox pb id ++ (X.bk b ++ (X.w.C ++ (rsegs ((X.l.take k).map (fun x => { x with r := goneR id x.r })) ++ (e.w.C ++ rsegs (X.l.drop (k + 1))))))))) :: R') (fun a => by simp only [les, upTo_seg b (goneR id) hx]; omega) ?_
          repeat' first
            | refine TQ_begun hr1 (Le.refl _) ?_
            | (refine TC_plain (id := 7) (by kernel_rfl) ?_; refine TR_pv0 PV_assign rfl ?_; refine TR_nil ?_)
            | (refine TC_plain (id := 8) (by kernel_rfl) ?_; refine TR_pv0 PV_move rfl ?_; refine TR_pv0 (PV_nil rfl) rfl ?_; refine TR_pv0 (PV_fieldAddr rfl) rfl ?_; refine TR_store0_1 rfl rfl rfl rfl rfl rfl ?_; refine TR_nil ?_)
            | refine TC_block ?_
            | refine TQ_blk ?_
          refine TQ_le (L' := loopSeg l (busy r) :: RL.bk { e with r := { e.r with gone := true } } :: ((fbox c1 (some ⟨b, 0, none⟩) ++ isbox c2 (.func (.func 48) #[] #[ptr pb])) ++ (ibox nb n ++ (ibox pb id ++ (X.bk b ++ (X.w.C ++ (rsegs ((X.l.take k).map (fun x => { x with r := goneR id x.r })) ++ (e.w.C ++ rsegs (X.l.drop (k + 1))))))))) :: R') (Le.refl _) ?_
          exact TQ_roundOn hr1 hr2 (Le.refl _) ⟨rfl, k + 1, rfl, rfl⟩ (fun a => by simp only [les, upTo_segN b (goneR id) hx, h4]; omega)
      · rintro d' j hj
        have e1 : X.ptrs.length = X.l.length := by rw [FL.ptrs, List.length_map]
        rw [hj, e1]
        refine TQ_le (L' := ibox nb n :: defSeg d' :: ibox pb id :: (X.upTo (goneR id) X.l.length).seg b :: defSeg d :: R) (fun a => by simp only [les]; omega) ?_
        repeat' first
          | refine TC_seq ?_
          | refine TQ_then ?_
          | (refine TC_plain (id := 9) (by kernel_rfl) ?_; refine TR_load0 rfl 0 rfl rfl rfl ?_; refine TR_pv0 PV_assign rfl ?_; refine TR_nil ?_)
          | refine TC_ret ?_
          | refine TQ_blk ?_
        exact TQ_mark (M := (X.upTo (goneR id) X.l.length).seg b :: defSeg d :: R) (fun a => by simp only [les]; omega) (TQ_mark (M := (X.upTo (goneR id) X.l.length).seg b :: R) (fun a => by simp only [les]; omega) (TQ_unmarked (TQ_ret1e rfl rfl rfl ⟨rfl, rfl⟩ (fun a => by simp only [les]; omega))))
end Go.Proofs.Ytonfkkdahlboiaa
