/- lowest, span. -/
import Derived.Test.YtonfkkdahlboiaaFltC
namespace Go.Proofs.Ytonfkkdahlboiaa
open Go.RowKit
set_option maxHeartbeats 4000000
set_option maxRecDepth 10000

/-! ### The lowest of each path -/
def FL.low (X : FL) (k : Nat) (p : Nat) : Option Nat := (lowIdx (X.recs.take k) p).bind (X.ptrs[·]?)
def lowP (p : Nat) (r : FRec) : Bool := decide (r.path = (p : Int)) && !r.acked && !r.gone
theorem lowIdx_next {l : List FRec} {k : Nat} {r : FRec} (h : l[k]? = some r) (p : Nat) : lowIdx (l.take (k + 1)) p = (lowIdx (l.take k) p).or (if lowP p r then some k else none) := by
  have hk := (List.getElem?_eq_some_iff.1 h).1
  rw [take_next h, lowIdx, lowIdx, List.findIdx?_append]
  congr 1
  simp only [List.findIdx?_cons, List.findIdx?_nil, List.length_take, Nat.min_eq_left (Nat.le_of_lt hk)]
  unfold lowP
  split <;> simp
theorem low_next {X : FL} {k : Nat} {e : RL} (h : X.l[k]? = some e) (p : Nat) : X.low (k + 1) p = if lowIdx (X.recs.take k) p = none ∧ lowP p e.r = true then some e.p else X.low k p := by
  have hp : X.ptrs[k]? = some e.p := by rw [FL.ptrs, List.getElem?_map, h]; rfl
  unfold FL.low
  rw [lowIdx_next (recs_at h)]
  cases hl : lowIdx (X.recs.take k) p with
  | some i => simp
  | none =>
    cases hr : lowP p e.r with
    | true => simp [hp]
    | false => simp
theorem low_none {X : FL} {k p : Nat} (hk : k ≤ X.l.length) : X.low k p = none ↔ lowIdx (X.recs.take k) p = none := by
  unfold FL.low
  cases hl : lowIdx (X.recs.take k) p with
  | none => simp
  | some i =>
    have hi : i < (X.recs.take k).length := by
      unfold lowIdx at hl
      exact (List.findIdx?_eq_some_iff_getElem.1 hl).1
    have : i < X.ptrs.length := by rw [FL.ptrs, List.length_map]; rw [List.length_take, recs_length] at hi; omega
    simp [List.getElem?_eq_getElem this]

abbrev lowBk (lb : Nat) (g : Nat → Option Nat) : Seg := blk lb 99 (four fun p => ptrO (g p))
theorem lowest_cd (b : Nat) (X : FL) (h : FlOk X) : Cd Try.prog 43 [ptr b] [X.seg b] (.agg (four fun p => ptrO (X.low X.l.length p)).toArray) [X.seg b] := by
  refine Ct_introM Try.func43 rfl (by simp only [Try.ntmps43, List.length_cons, List.length_nil]; omega) ?_
  intro w₀ R
  repeat' first
    | refine TC_seq ?_
    | refine TQ_then ?_
    | (refine TC_plain (id := 0) (by kernel_rfl) ?_; (refine TR_alloc0 rfl ?_; intro _); refine TR_nil ?_)
    | (refine TC_plain (id := 1) (by kernel_rfl) ?_; refine TR_pv0 PV_move rfl ?_; (refine TR_call0 (such_ct (some ⟨b, 0, none⟩) 62 #[] #[]) rfl rfl .nil rfl ?_; rintro _ _ ⟨b1, b2, rfl, rfl⟩); refine TR_nil ?_)
    | refine TC_block ?_
  rename_i lb
  refine TC_such (R := R) b b1 b2 62 [] [] X.ptrs X.w (fun g : Nat → Option Nat => lowBk lb g) (fun _ => X) (fun k g => k ≤ X.l.length ∧ g = X.low k) (fun _ => none) (fun _ _ _ => ⟨rfl, rfl, h⟩) (fun k g e hg he => ?_) ⟨Nat.zero_le _, by funext p; simp [FL.low, lowIdx]⟩ rfl rfl
    (Le.trans (M := fbox b1 (some ⟨b, 0, none⟩) :: isbox b2 (.func (.func 62) #[] #[]) :: lowBk lb (fun _ => none) :: X.seg b :: R) (Le.refl _) (fun a => by simp only [les]; omega)) (fun d g hg => ?_)
  · obtain ⟨hk, rfl⟩ := hg
    have hk1 : k + 1 ≤ X.l.length := (List.getElem?_eq_some_iff.1 he).1
    have hrec := (h.recs e (List.mem_of_getElem? he)).2
    have hp0 := hrec.p0
    have hp1 := hrec.p1
    have hq1 := h.q1
    refine ⟨!e.r.acked && !e.r.gone, Cd.within (E := [lowBk lb (X.low k) ++ (X.bk b ++ (X.w.C ++ (rsegs (X.l.take k) ++ (e.w.C ++ rsegs (X.l.drop (k + 1))))))]) (lowest1_cd e) (fun a => by simp only [les, FL.seg_at b he]; omega) (fun a => by simp only [les, FL.seg_at b he]; omega), fun hf => ⟨hk1, ?_⟩, fun ht l r hr1 hr2 w₁ R' => ?_⟩
    · funext p
      rw [low_next he, if_neg]
      rintro ⟨_, h2⟩
      unfold lowP at h2
      rw [Bool.and_assoc, hf, Bool.and_false] at h2
      cases h2
    · refine TC_le (L' := loopSeg l r :: e.bk :: lowBk lb (X.low k) :: ((fbox b1 (some ⟨b, 0, none⟩) ++ isbox b2 (.func (.func 62) #[] #[])) ++ (X.bk b ++ (X.w.C ++ (rsegs (X.l.take k) ++ (e.w.C ++ rsegs (X.l.drop (k + 1))))))) :: R') (fun a => by simp only [les, FL.seg_at b he]; omega) ?_
      have hlt : e.r.path.toNat < 4 := by omega
      have hgp : (four fun p => ptrO (X.low k p))[0 + e.r.path.toNat * 1]? = some (ptrO (X.low k e.r.path.toNat)) := by rw [Nat.zero_add, Nat.mul_one, four_get _ hlt]
      have hset : (four fun p => ptrO (X.low k p)).set (0 + e.r.path.toNat * 1) (ptr e.p) = four (at4 (fun p => ptrO (X.low k p)) e.r.path.toNat (ptr e.p)) := by rw [Nat.zero_add, Nat.mul_one, four_set _ hlt]
      cases hg : X.low k e.r.path.toNat with
      | none =>
        rw [hg] at hgp
        repeat' first
          | refine TQ_begun hr1 (Le.refl _) ?_
          | refine TC_seq ?_
          | refine TQ_then ?_
          | (refine TC_plain (id := 2) (by kernel_rfl) ?_; refine TR_pv0 PV_assign rfl ?_; refine TR_nil ?_)
          | (refine TC_plain (id := 3) (by kernel_rfl) ?_; refine TR_pv0 PV_move rfl ?_; refine TR_pv0 (PV_nil rfl) rfl ?_; refine TR_pv0 (PV_fieldAddr rfl) rfl ?_; refine TR_load0 rfl 1 rfl rfl rfl ?_; refine TR_pv0 (PV_indexArr rfl rfl (by omega)) rfl ?_; refine TR_load0 rfl 2 rfl hgp rfl ?_; refine TR_pv0 (PV_peq_nil rfl rfl) rfl ?_; refine TR_nil ?_)
          | (refine TC_plain (id := 4) (by kernel_rfl) ?_; refine TR_pv0 PV_move rfl ?_; refine TR_pv0 (PV_nil rfl) rfl ?_; refine TR_pv0 (PV_fieldAddr rfl) rfl ?_; refine TR_load0 rfl 1 rfl rfl rfl ?_; refine TR_pv0 PV_move rfl ?_; refine TR_pv0 (PV_indexArr rfl rfl (by omega)) rfl ?_; refine TR_store0_2 rfl rfl rfl rfl (by rw [Nat.blt_eq]; show _ < 4; omega) rfl ?_; refine TR_nil ?_)
          | refine TC_cond_t rfl rfl ?_
          | refine TC_block ?_
          | refine TQ_blk ?_
        have hnew : (fun p => ptrO (X.low (k + 1) p)) = at4 (fun p => ptrO (X.low k p)) e.r.path.toNat (ptr e.p) := by
          funext p
          rw [low_next he]
          unfold at4
          by_cases hpp : p = e.r.path.toNat
          · have hc : lowIdx (X.recs.take k) p = none ∧ lowP p e.r = true := by
              refine ⟨(low_none hk).1 (by rw [hpp]; exact hg), ?_⟩
              unfold lowP
              rw [Bool.and_assoc, ht, Bool.and_true]
              exact decide_eq_true (by omega)
            rw [if_pos hpp, if_pos hc]; rfl
          · rw [if_neg hpp, if_neg]
            rintro ⟨_, h2⟩
            unfold lowP at h2
            simp only [Bool.and_eq_true, decide_eq_true_eq] at h2
            omega
        refine TQ_le (L' := loopSeg l (busy r) :: e.bk :: lowBk lb (X.low (k + 1)) :: ((fbox b1 (some ⟨b, 0, none⟩) ++ isbox b2 (.func (.func 62) #[] #[])) ++ (X.bk b ++ (X.w.C ++ (rsegs (X.l.take k) ++ (e.w.C ++ rsegs (X.l.drop (k + 1))))))) :: R')
          (Le.of_eq (by rw [lowBk, hnew, ← hset]; rfl)) ?_
        exact TQ_roundOn hr1 hr2 (Le.refl _) ⟨rfl, X.low (k + 1), ⟨hk1, rfl⟩, rfl⟩ (fun a => by simp only [les, FL.seg_at b he]; omega)
      | some q =>
        rw [hg] at hgp
        repeat' first
          | refine TQ_begun hr1 (Le.refl _) ?_
          | refine TC_seq ?_
          | refine TQ_then ?_
          | (refine TC_plain (id := 2) (by kernel_rfl) ?_; refine TR_pv0 PV_assign rfl ?_; refine TR_nil ?_)
          | (refine TC_plain (id := 3) (by kernel_rfl) ?_; refine TR_pv0 PV_move rfl ?_; refine TR_pv0 (PV_nil rfl) rfl ?_; refine TR_pv0 (PV_fieldAddr rfl) rfl ?_; refine TR_load0 rfl 1 rfl rfl rfl ?_; refine TR_pv0 (PV_indexArr rfl rfl (by omega)) rfl ?_; refine TR_load0 rfl 2 rfl hgp rfl ?_; refine TR_pv0 (PV_peq_nil rfl rfl) rfl ?_; refine TR_nil ?_)
          | refine TC_cond_f rfl rfl ?_
          | refine TC_skip ?_
          | refine TC_block ?_
          | refine TQ_blk ?_
        have hnew : X.low (k + 1) = X.low k := by
          funext p
          rw [low_next he, if_neg]
          rintro ⟨h1, h2⟩
          unfold lowP at h2
          simp only [Bool.and_eq_true, decide_eq_true_eq] at h2
          have : p = e.r.path.toNat := by omega
          rw [← low_none hk, this, hg] at h1
          cases h1
        exact TQ_roundOn hr1 hr2 (Le.refl _) ⟨rfl, X.low k, ⟨hk1, hnew.symm⟩, rfl⟩ (fun a => by simp only [les, FL.seg_at b he]; omega)
  · obtain ⟨_, rfl⟩ := hg
    have e1 : X.ptrs.length = X.l.length := by rw [FL.ptrs, List.length_map]
    rw [e1]
    refine TQ_le (L' := lowBk lb (X.low X.l.length) :: defSeg d :: X.seg b :: R) (fun a => by simp only [les]; omega) ?_
    repeat' first
      | refine TC_seq ?_
      | refine TQ_then ?_
      | (refine TC_plain (id := 5) (by kernel_rfl) ?_; refine TR_loadA0 rfl 0 rfl rfl rfl ?_; refine TR_storeA0_0 rfl rfl rfl rfl rfl rfl ?_; refine TR_nil ?_)
      | refine TC_ret ?_
      | refine TQ_blk ?_
    refine TQ_le (L' := lowBk lb (X.low X.l.length) :: defSeg d :: X.seg b :: R) (Le.refl _) ?_
    exact TQ_mark (M := lowBk lb (X.low X.l.length) :: X.seg b :: R) (fun a => by simp only [les]; omega) (TQ_unmarked (TQ_retCe rfl rfl rfl 0 rfl rfl ⟨rfl, rfl⟩ (fun a => by simp only [les]; omega)))
end Go.Proofs.Ytonfkkdahlboiaa
