/- What goes through the flight's records: Out, Open, Lost, Mark, Abandon. -/
import Derived.Test.YtonfkkdahlboiaaFltS
namespace Go.Proofs.Ytonfkkdahlboiaa
open Go.RowKit
set_option maxHeartbeats 4000000

/-- A range over such records of a flight; x: what is turned on the way; ex: the caller's own boxes. -/
theorem TC_such {α : Type} {n t : Nat} {ds : List Deferred} {w₀ : World} {Q : Exit → Act → World → Prop} {L : List Seg} {σ : Sig} {g : Operand} {assign body : Code} {R : List Seg}
    (b b1 b2 isf : Nat) [TFn Try.prog isf] (fs cs : List Value) (ps : List Nat) (row : Row) (ex : α → Seg) (fl : α → FL) (Inv : Nat → α → Prop) (x₀ : α)
    (hfl : ∀ k x, Inv k x → (fl x).ptrs = ps ∧ (fl x).w = row ∧ FlOk (fl x))
    (his : ∀ k x e, Inv k x → (fl x).l[k]? = some e → ∃ y : Bool, Cd Try.prog isf (fs ++ [ptr e.p] ++ cs) [ex x ++ (fl x).seg b] (.bool y) [ex x ++ (fl x).seg b] ∧ (y = false → Inv (k + 1) x) ∧
      (y = true → ∀ (l : Nat) (r : Loop), r.state = .ready → r.pending = none → ∀ (w₁ : World) (R' : List Seg),
        TC Try.prog (some l) n [] w₁ assign (AtBegin Try.prog l body (roundPost Try.prog l (RoundOwes (fun v D => v = .bool true ∧ ∃ x', Inv (k + 1) x' ∧
          D = [loopSeg l r ++ (fbox b1 (some ⟨b, 0, none⟩) ++ (isbox b2 (.func (.func isf) fs.toArray cs.toArray) ++ (ex x' ++ (fl x').seg b)))]) R' w₁)))
          (loopSeg l r :: (fbox b1 (some ⟨b, 0, none⟩) ++ isbox b2 (.func (.func isf) fs.toArray cs.toArray)) :: ex x :: (fl x).seg b :: R') (upd σ t (ptr e.p))))
    (h0 : Inv 0 x₀) (hg : ev σ g = .func (.func 58) #[] #[ptr b1, ptr b2]) (hok : okO n g = true)
    (hL : Le L (fbox b1 (some ⟨b, 0, none⟩) :: isbox b2 (.func (.func isf) fs.toArray cs.toArray) :: ex x₀ :: (fl x₀).seg b :: R))
    (k : ∀ d x, Inv ps.length x → TQ n (markOf d :: ds) w₀ Q .normal (defSeg d :: ex x :: (fl x).seg b :: R) σ) :
    TC Try.prog none n ds w₀ (.rangeFunc g #[t] assign body) Q L σ := by
  obtain ⟨hps, hrow, hok0⟩ := hfl 0 x₀ h0
  have hlen : ps.length = (fl x₀).l.length := by rw [← hps, FL.ptrs, List.length_map]
  refine TC_le hL ?_
  refine TC_ranged (C := [fbox b1 (some ⟨b, 0, none⟩), isbox b2 (.func (.func isf) fs.toArray cs.toArray), ex x₀, (fl x₀).seg b]) (R := R) (fs := []) (cs := [ptr b1, ptr b2])
    (fun l r v D => v = .tuple #[] ∧ ∃ x, Inv ps.length x ∧ D = [loopSeg l r ++ (fbox b1 (some ⟨b, 0, none⟩) ++ (isbox b2 (.func (.func isf) fs.toArray cs.toArray) ++ (ex x ++ (fl x).seg b)))])
    hg hok (.cons .here (.cons .here (.cons .here (.cons .here .nil)))) (fun fn l d r hr => ?_) (fun l d r v C' h => ?_)
  · refine Ct.pre (such_it (α := α) l b b1 b2 isf fs cs row.a row.cap ps (fun x => loopSeg l r ++ (fbox b1 (some ⟨b, 0, none⟩) ++ (isbox b2 (.func (.func isf) fs.toArray cs.toArray) ++ (ex x ++ (fl x).seg b)))) Inv
      (fun _ x _ => by simp) (fun _ x _ => by simp) (fun j x hx => ?_) (fun j p hp => ?_) (fun j x p hx hp => ?_) (by have := hok0.len; omega) x₀ h0) fun w R' hs => sat_le hs (fun a => by simp only [les]; omega)
    · obtain ⟨h1, h2, h3⟩ := hfl j x hx
      refine ⟨[u32 (fl x).cum, i64 (fl x).paths], ?_⟩
      have e : row.val ps.length = (fl x).w.val (fl x).l.length := by rw [h2, ← h1, FL.ptrs, List.length_map]
      simp only [Row.val] at e
      simp [FL.seg, e]
    · have hj : j < ps.length := (List.getElem?_eq_some_iff.1 hp).1
      obtain ⟨rb, off, cells, ha, hC, hl, ht⟩ := hok0.row.opened (by rw [hlen] at hj; omega)
      rw [hrow] at ha hC
      refine ⟨rb, off, ha, fun x hx => ?_⟩
      obtain ⟨h1, h2, h3⟩ := hfl j x hx
      refine ⟨cells, 88, (0, 0), by simp [FL.seg, h2, hC], ?_⟩
      have := take_at ht (j := j) (by rw [← hlen]; omega)
      rw [this, hps, List.getElem?_map, hp]; rfl
    · obtain ⟨h1, h2, h3⟩ := hfl j x hx
      rw [← h1, FL.ptrs, List.getElem?_map] at hp
      obtain ⟨e, he, rfl⟩ := Option.map_eq_some_iff.1 hp
      obtain ⟨y, hy, hno, hyes⟩ := his j x e hx he
      refine ⟨y, Cd.within (E := [loopSeg l r ++ (fbox b1 (some ⟨b, 0, none⟩) ++ isbox b2 (.func (.func isf) fs.toArray cs.toArray))]) hy (fun a => by simp only [les]; omega) (fun a => by simp only [les]; omega), hno, fun hyt => ?_⟩
      have hb := hyes hyt l r (by rw [hr]) (by rw [hr])
      refine (YCt_body (C := [fbox b1 (some ⟨b, 0, none⟩) ++ isbox b2 (.func (.func isf) fs.toArray cs.toArray), ex x, (fl x).seg b]) hr fun w₁ R' => hb w₁ R').le (fun a => by simp only [les]; omega)
  · obtain ⟨rfl, x, hx, rfl⟩ := h
    refine ⟨[fbox b1 (some ⟨b, 0, none⟩) ++ (isbox b2 (.func (.func isf) fs.toArray cs.toArray) ++ (ex x ++ (fl x).seg b))], (fun a => by simp only [les]; omega), TQ_le (L' := defSeg d :: ex x :: (fl x).seg b :: R) (fun a => by simp only [les]; omega) (k d x hx)⟩

def FL.recs (X : FL) : List FRec := X.l.map RL.r
theorem recs_at {X : FL} {k : Nat} {e : RL} (h : X.l[k]? = some e) : X.recs[k]? = some e.r := by rw [FL.recs, List.getElem?_map, h]; rfl
theorem recs_length (X : FL) : X.recs.length = X.l.length := List.length_map _
theorem recs_all (X : FL) : X.recs.take X.ptrs.length = X.recs := by rw [FL.ptrs, List.length_map, ← recs_length, List.take_length]

/-- So many bytes have the records of a kind. -/
def sumIf (p : FRec → Bool) (l : List FRec) : Int := (l.map fun r => if p r then (r.d.bytes.length : Int) else 0).sum
def countIf (p : FRec → Bool) (l : List FRec) : Int := (l.map fun r => if p r then (1 : Int) else 0).sum
theorem take_next {α : Type} {l : List α} {k : Nat} {x : α} (h : l[k]? = some x) : l.take (k + 1) = l.take k ++ [x] := by rw [List.take_add_one, h]; rfl
theorem sumIf_next (p : FRec → Bool) {l : List FRec} {k : Nat} {r : FRec} (h : l[k]? = some r) : sumIf p (l.take (k + 1)) = sumIf p (l.take k) + if p r then (r.d.bytes.length : Int) else 0 := by
  rw [take_next h]; simp [sumIf]
theorem countIf_next (p : FRec → Bool) {l : List FRec} {k : Nat} {r : FRec} (h : l[k]? = some r) : countIf p (l.take (k + 1)) = countIf p (l.take k) + if p r then (1 : Int) else 0 := by
  rw [take_next h]; simp [countIf]
theorem sumIf_le (p : FRec → Bool) (paths : Int) : ∀ (l : List FRec), (∀ r ∈ l, FRecOk r paths) → 0 ≤ sumIf p l ∧ sumIf p l ≤ 1048576 * l.length
  | [], _ => by simp [sumIf]
  | r :: l, h => by
    have ih := sumIf_le p paths l fun y hy => h y (.tail _ hy)
    have h1 := (h r (.head _)).b1
    have e : sumIf p (r :: l) = (if p r then (r.d.bytes.length : Int) else 0) + sumIf p l := by simp [sumIf]
    rw [e, List.length_cons]
    split <;> omega
theorem countIf_le (p : FRec → Bool) : ∀ (l : List FRec), 0 ≤ countIf p l ∧ countIf p l ≤ l.length
  | [] => by simp [countIf]
  | r :: l => by
    have ih := countIf_le p l
    have e : countIf p (r :: l) = (if p r then (1 : Int) else 0) + countIf p l := by simp [countIf]
    rw [e, List.length_cons]
    split <;> omega
theorem FlOk.rec_ok {X : FL} (h : FlOk X) : ∀ r ∈ X.recs, FRecOk r X.paths := fun r hr => by
  obtain ⟨x, hx, rfl⟩ := List.mem_map.1 hr
  exact (h.recs x hx).2
theorem sumIf_take {X : FL} (h : FlOk X) (p : FRec → Bool) (k : Nat) : 0 ≤ sumIf p (X.recs.take k) ∧ sumIf p (X.recs.take k) ≤ 2147483648 := by
  have h1 := sumIf_le p X.paths (X.recs.take k) fun x hx => h.rec_ok x (List.mem_of_mem_take hx)
  have h2 : (X.recs.take k).length ≤ X.l.length := by rw [List.length_take, recs_length]; omega
  have := h.len
  omega
theorem countIf_take {X : FL} (h : FlOk X) (p : FRec → Bool) (k : Nat) : 0 ≤ countIf p (X.recs.take k) ∧ countIf p (X.recs.take k) ≤ 2048 := by
  have h1 := countIf_le p (X.recs.take k)
  have h2 : (X.recs.take k).length ≤ X.l.length := by rw [List.length_take, recs_length]; omega
  have := h.len
  omega

theorem outF_cd (b : Nat) (X : FL) (h : FlOk X) (path : Int) :
    Cd Try.prog 17 [ptr b, i64 path] [X.seg b] (i64 (sumIf (fun r => decide (r.path = path) && r.away) X.recs)) [X.seg b] := by
  generalize hp : (fun r : FRec => decide (r.path = path) && r.away) = p
  refine Ct_introM Try.func17 rfl (by simp only [Try.ntmps17, List.length_cons, List.length_nil]; omega) ?_
  intro w₀ R
  repeat' first
    | refine TC_seq ?_
    | refine TQ_then ?_
    | (refine TC_plain (id := 0) (by kernel_rfl) ?_; refine TR_pv0 PV_assign rfl ?_; refine TR_nil ?_)
    | (refine TC_plain (id := 1) (by kernel_rfl) ?_; (refine TR_alloc0 rfl ?_; intro _); refine TR_store0_0 rfl rfl rfl rfl rfl rfl ?_; refine TR_nil ?_)
    | (refine TC_plain (id := 2) (by kernel_rfl) ?_; refine TR_pv0 PV_move rfl ?_; refine TR_pv0 PV_move rfl ?_; (refine TR_calln (by_ct path) rfl rfl rfl ?_; intro pb); (refine TR_call0 (such_ct (some ⟨b, 0, none⟩) 59 #[] #[ptr pb]) rfl rfl .nil rfl ?_; rintro _ _ ⟨b1, b2, rfl, rfl⟩); refine TR_nil ?_)
    | refine TC_block ?_
  rename_i nb
  refine TC_such (R := R) b b1 b2 59 [] [ptr pb] X.ptrs X.w (fun n : Int => ibox nb n ++ ibox pb path) (fun _ => X) (fun k n => n = sumIf p (X.recs.take k)) 0 (fun _ _ _ => ⟨rfl, rfl, h⟩) (fun k n e hn he => ?_) (by simp [sumIf]) rfl rfl
    (Le.trans (M := fbox b1 (some ⟨b, 0, none⟩) :: isbox b2 (.func (.func 59) #[] #[ptr pb]) :: ibox pb path :: ibox nb 0 :: X.seg b :: R) (Le.refl _) (fun a => by simp only [les]; omega)) (fun d n hn => ?_)
  · refine ⟨p e.r, hp ▸ Cd.within (E := [ibox nb n ++ (X.bk b ++ (X.w.C ++ (rsegs (X.l.take k) ++ (e.w.C ++ rsegs (X.l.drop (k + 1))))))]) (by1_cd e pb path) (fun a => by simp only [les, FL.seg_at b he]; omega) (fun a => by simp only [les, FL.seg_at b he]; omega), fun hf => ?_, fun ht l r hr1 hr2 w₁ R' => ?_⟩
    · rw [sumIf_next p (recs_at he), hf, hn]; simp
    · have h1 := sumIf_take h p k
      have h2 := (h.recs e (List.mem_of_getElem? he)).2.b1
      rw [← hn] at h1
      have h3 := sumIf_next p (recs_at he)
      rw [ht, ← hn, if_pos rfl] at h3
      clear hn
      refine TC_le (L' := loopSeg l r :: e.bk :: ibox nb n :: ((fbox b1 (some ⟨b, 0, none⟩) ++ isbox b2 (.func (.func 59) #[] #[ptr pb])) ++ (ibox pb path ++ (X.bk b ++ (X.w.C ++ (rsegs (X.l.take k) ++ (e.w.C ++ rsegs (X.l.drop (k + 1)))))))) :: R')
        (fun a => by simp only [les, FL.seg_at b he]; omega) ?_
      repeat' first
        | refine TQ_begun hr1 (Le.refl _) ?_
        | refine TQ_noPanic ?_
        | (refine TC_plain (id := 3) (by kernel_rfl) ?_; refine TR_pv0 PV_assign rfl ?_; refine TR_nil ?_)
        | (refine TC_drawn' (id := 4) [(0, 1), (1, 1), (2, 1), (3, 1), (4, 1), (5, 1), (6, 1), (7, 1), (8, 0)] mixed (by kernel_rfl) ?_; refine TR_load1 rfl 2 rfl rfl rfl (fun _ h => h) ?_; refine TR_pv1 PV_move rfl (fun _ h => h) ?_; refine TR_pv1 (PV_nil rfl) rfl (fun _ h => h) ?_; refine TR_pv1 (PV_fieldAddr rfl) rfl (fun _ h => h) ?_; refine TR_pv1 (PV_fieldAddr rfl) rfl (fun _ h => h) ?_; refine TR_load1 rfl 1 rfl rfl rfl (fun _ h => h) ?_; refine TR_pv1 (PV_len rfl) rfl (fun _ h => h) ?_; refine TR_pv1 (PV_add64 rfl rfl (by omega)) rfl (fun _ h => h) ?_; refine TR_store0_2 rfl rfl rfl rfl rfl rfl ?_; refine TR_nil ?_)
        | refine TC_block ?_
        | refine TQ_blk ?_
      refine TQ_le (L' := loopSeg l (busy r) :: e.bk :: ibox nb (n + e.r.d.bytes.length) :: ((fbox b1 (some ⟨b, 0, none⟩) ++ isbox b2 (.func (.func 59) #[] #[ptr pb])) ++ (ibox pb path ++ (X.bk b ++ (X.w.C ++ (rsegs (X.l.take k) ++ (e.w.C ++ rsegs (X.l.drop (k + 1)))))))) :: R')
        (Le.refl _) ?_
      exact TQ_roundOn hr1 hr2 (Le.refl _) ⟨rfl, n + e.r.d.bytes.length, h3.symm, rfl⟩ (fun a => by simp only [les, FL.seg_at b he]; omega)
  · rw [recs_all] at hn
    subst hn
    refine TQ_le (L' := ibox nb (sumIf p X.recs) :: defSeg d :: ibox pb path :: X.seg b :: R) (fun a => by simp only [les]; omega) ?_
    repeat' first
      | refine TC_seq ?_
      | refine TQ_then ?_
      | (refine TC_plain (id := 5) (by kernel_rfl) ?_; refine TR_load0 rfl 0 rfl rfl rfl ?_; refine TR_pv0 PV_assign rfl ?_; refine TR_nil ?_)
      | refine TC_ret ?_
      | refine TQ_blk ?_
    exact TQ_mark (M := X.seg b :: R) (fun a => by simp only [les]; omega) (TQ_unmarked (TQ_ret1e rfl rfl rfl ⟨rfl, rfl⟩ (fun a => by simp only [les]; omega)))

theorem openF_cd (b : Nat) (X : FL) (h : FlOk X) : Cd Try.prog 25 [ptr b] [X.seg b] (i64 (sumIf (fun r => !r.acked) X.recs)) [X.seg b] := by
  generalize hp : (fun r : FRec => !r.acked) = p
  refine Ct_introM Try.func25 rfl (by simp only [Try.ntmps25, List.length_cons, List.length_nil]; omega) ?_
  intro w₀ R
  repeat' first
    | refine TC_seq ?_
    | refine TQ_then ?_
    | (refine TC_plain (id := 0) (by kernel_rfl) ?_; refine TR_pv0 PV_assign rfl ?_; refine TR_nil ?_)
    | (refine TC_plain (id := 1) (by kernel_rfl) ?_; (refine TR_alloc0 rfl ?_; intro _); refine TR_store0_0 rfl rfl rfl rfl rfl rfl ?_; refine TR_nil ?_)
    | (refine TC_plain (id := 2) (by kernel_rfl) ?_; refine TR_pv0 PV_move rfl ?_; (refine TR_call0 (such_ct (some ⟨b, 0, none⟩) 50 #[] #[]) rfl rfl .nil rfl ?_; rintro _ _ ⟨b1, b2, rfl, rfl⟩); refine TR_nil ?_)
    | refine TC_block ?_
  rename_i nb
  refine TC_such (R := R) b b1 b2 50 [] [] X.ptrs X.w (fun n : Int => ibox nb n) (fun _ => X) (fun k n => n = sumIf p (X.recs.take k)) 0 (fun _ _ _ => ⟨rfl, rfl, h⟩) (fun k n e hn he => ?_) (by simp [sumIf]) rfl rfl
    (Le.trans (M := fbox b1 (some ⟨b, 0, none⟩) :: isbox b2 (.func (.func 50) #[] #[]) :: ibox nb 0 :: X.seg b :: R) (Le.refl _) (fun a => by simp only [les]; omega)) (fun d n hn => ?_)
  · refine ⟨p e.r, hp ▸ Cd.within (E := [ibox nb n ++ (X.bk b ++ (X.w.C ++ (rsegs (X.l.take k) ++ (e.w.C ++ rsegs (X.l.drop (k + 1))))))]) (open1_cd e) (fun a => by simp only [les, FL.seg_at b he]; omega) (fun a => by simp only [les, FL.seg_at b he]; omega), fun hf => ?_, fun ht l r hr1 hr2 w₁ R' => ?_⟩
    · rw [sumIf_next p (recs_at he), hf, hn]; simp
    · have h1 := sumIf_take h p k
      have h2 := (h.recs e (List.mem_of_getElem? he)).2.b1
      rw [← hn] at h1
      have h3 := sumIf_next p (recs_at he)
      rw [ht, ← hn, if_pos rfl] at h3
      clear hn
      refine TC_le (L' := loopSeg l r :: e.bk :: ibox nb n :: ((fbox b1 (some ⟨b, 0, none⟩) ++ isbox b2 (.func (.func 50) #[] #[])) ++ (X.bk b ++ (X.w.C ++ (rsegs (X.l.take k) ++ (e.w.C ++ rsegs (X.l.drop (k + 1))))))) :: R') (fun a => by simp only [les, FL.seg_at b he]; omega) ?_
      repeat' first
        | refine TQ_begun hr1 (Le.refl _) ?_
        | refine TQ_noPanic ?_
        | (refine TC_plain (id := 3) (by kernel_rfl) ?_; refine TR_pv0 PV_assign rfl ?_; refine TR_nil ?_)
        | (refine TC_drawn' (id := 4) [(0, 1), (1, 1), (2, 1), (3, 1), (4, 1), (5, 1), (6, 1), (7, 1), (8, 0)] mixed (by kernel_rfl) ?_; refine TR_load1 rfl 2 rfl rfl rfl (fun _ h => h) ?_; refine TR_pv1 PV_move rfl (fun _ h => h) ?_; refine TR_pv1 (PV_nil rfl) rfl (fun _ h => h) ?_; refine TR_pv1 (PV_fieldAddr rfl) rfl (fun _ h => h) ?_; refine TR_pv1 (PV_fieldAddr rfl) rfl (fun _ h => h) ?_; refine TR_load1 rfl 1 rfl rfl rfl (fun _ h => h) ?_; refine TR_pv1 (PV_len rfl) rfl (fun _ h => h) ?_; refine TR_pv1 (PV_add64 rfl rfl (by omega)) rfl (fun _ h => h) ?_; refine TR_store0_2 rfl rfl rfl rfl rfl rfl ?_; refine TR_nil ?_)
        | refine TC_block ?_
        | refine TQ_blk ?_
      refine TQ_le (L' := loopSeg l (busy r) :: e.bk :: ibox nb (n + e.r.d.bytes.length) :: ((fbox b1 (some ⟨b, 0, none⟩) ++ isbox b2 (.func (.func 50) #[] #[])) ++ (X.bk b ++ (X.w.C ++ (rsegs (X.l.take k) ++ (e.w.C ++ rsegs (X.l.drop (k + 1))))))) :: R') (Le.refl _) ?_
      exact TQ_roundOn hr1 hr2 (Le.refl _) ⟨rfl, n + e.r.d.bytes.length, h3.symm, rfl⟩ (fun a => by simp only [les, FL.seg_at b he]; omega)
  · rw [recs_all] at hn
    subst hn
    refine TQ_le (L' := ibox nb (sumIf p X.recs) :: defSeg d :: X.seg b :: R) (fun a => by simp only [les]; omega) ?_
    repeat' first
      | refine TC_seq ?_
      | refine TQ_then ?_
      | (refine TC_plain (id := 5) (by kernel_rfl) ?_; refine TR_load0 rfl 0 rfl rfl rfl ?_; refine TR_pv0 PV_assign rfl ?_; refine TR_nil ?_)
      | refine TC_ret ?_
      | refine TQ_blk ?_
    exact TQ_mark (M := X.seg b :: R) (fun a => by simp only [les]; omega) (TQ_unmarked (TQ_ret1e rfl rfl rfl ⟨rfl, rfl⟩ (fun a => by simp only [les]; omega)))

/-! ### What is lost -/
def lostOf (l : List FRec) : List Int := (l.filter FRec.open_).map (·.d.tsn)
theorem lostOf_next {l : List FRec} {k : Nat} {r : FRec} (h : l[k]? = some r) : lostOf (l.take (k + 1)) = lostOf (l.take k) ++ if r.open_ then [r.d.tsn] else [] := by
  rw [take_next h, lostOf, lostOf, List.filter_append, List.map_append]
  cases hr : r.open_ <;> simp [hr]
theorem lostOf_len (l : List FRec) : (lostOf l).length ≤ l.length := by rw [lostOf, List.length_map]; exact List.length_filter_le _ _
abbrev u32s (l : List Int) : List Value := l.map u32
abbrev lbox (nb : Nat) (row : Row) (n : Nat) : Seg := blk nb 46 [row.val n]

theorem lostF_ct (b : Nat) (X : FL) (h : FlOk X) : Ct Try.prog 15 [ptr b] [X.seg b]
    (fun v D => ∃ row : Row, v = row.val (lostOf X.recs).length ∧ D = [row.C, X.seg b] ∧ row.ok 22 1 (lostOf X.recs).length (u32s (lostOf X.recs))) := by
  refine Ct_introM Try.func15 rfl (by simp only [Try.ntmps15, List.length_cons, List.length_nil]; omega) ?_
  intro w₀ R
  repeat' first
    | refine TC_seq ?_
    | refine TQ_then ?_
    | (refine TC_plain (id := 0) (by kernel_rfl) ?_; refine TR_pv0 PV_assign rfl ?_; refine TR_nil ?_)
    | (refine TC_plain (id := 1) (by kernel_rfl) ?_; (refine TR_alloc0 rfl ?_; intro _); refine TR_nil ?_)
    | (refine TC_plain (id := 2) (by kernel_rfl) ?_; refine TR_pv0 PV_move rfl ?_; (refine TR_call0 (such_ct (some ⟨b, 0, none⟩) 41 #[] #[]) rfl rfl .nil rfl ?_; rintro _ _ ⟨b1, b2, rfl, rfl⟩); refine TR_nil ?_)
    | refine TC_block ?_
  rename_i nb
  refine TC_such (R := R) b b1 b2 41 [] [] X.ptrs X.w (fun s : Row × List Int => lbox nb s.1 s.2.length ++ s.1.C) (fun _ => X)
    (fun k s => s.2 = lostOf (X.recs.take k) ∧ s.1.ok 22 1 s.2.length (u32s s.2)) (⟨none, 0, []⟩, []) (fun _ _ _ => ⟨rfl, rfl, h⟩) ?_ ⟨by simp [lostOf], .nil⟩ rfl rfl
    (Le.trans (M := fbox b1 (some ⟨b, 0, none⟩) :: isbox b2 (.func (.func 41) #[] #[]) :: lbox nb ⟨none, 0, []⟩ 0 :: X.seg b :: R) (Le.refl _) (fun a => by simp only [les, List.length_nil]; omega)) ?_
  · rintro k ⟨row, l⟩ e ⟨hl, hrow⟩ he
    dsimp only at hl hrow ⊢
    refine ⟨e.r.open_, Cd.within (E := [(lbox nb row l.length ++ row.C) ++ (X.bk b ++ (X.w.C ++ (rsegs (X.l.take k) ++ (e.w.C ++ rsegs (X.l.drop (k + 1))))))]) (open_cd e) (fun a => by simp only [les, FL.seg_at b he]; omega) (fun a => by simp only [les, FL.seg_at b he]; omega), fun hf => ?_, fun ht l r hr1 hr2 w₁ R' => ?_⟩
    · refine ⟨?_, hrow⟩
      rw [lostOf_next (recs_at he), hf, hl]; simp
    · rename_i ll
      have h1 := lostOf_len (X.recs.take k)
      have h2 : (X.recs.take k).length ≤ X.l.length := by rw [List.length_take, recs_length]; omega
      have h3 := h.len
      have h4 := lostOf_next (recs_at he)
      rw [ht, if_pos rfl, ← hl] at h4
      rw [← hl] at h1
      refine TC_le (L' := loopSeg l r :: e.bk :: lbox nb row ll.length :: row.C :: ((fbox b1 (some ⟨b, 0, none⟩) ++ isbox b2 (.func (.func 41) #[] #[])) ++ (X.bk b ++ (X.w.C ++ (rsegs (X.l.take k) ++ (e.w.C ++ rsegs (X.l.drop (k + 1))))))) :: R') (fun a => by simp only [les, FL.seg_at b he]; omega) ?_
      repeat' first
        | refine TQ_begun hr1 (Le.refl _) ?_
        | refine TQ_noPanic ?_
        | (refine TC_plain (id := 3) (by kernel_rfl) ?_; refine TR_pv0 PV_assign rfl ?_; refine TR_nil ?_)
        | (refine TC_drawn' (id := 4) [(0, 1), (1, 1), (2, 1), (3, 1), (4, 1), (5, 1), (6, 2), (7, 0), (8, 0)] mixed (by kernel_rfl) ?_; refine TR_load1 rfl 2 rfl rfl rfl (fun _ h => h) ?_; refine TR_pv1 PV_move rfl (fun _ h => h) ?_; refine TR_pv1 (PV_nil rfl) rfl (fun _ h => h) ?_; refine TR_pv1 (PV_fieldAddr rfl) rfl (fun _ h => h) ?_; refine TR_pv1 (PV_fieldAddr rfl) rfl (fun _ h => h) ?_; refine TR_load1 rfl 1 rfl rfl rfl (fun _ h => h) ?_; (refine TR_buildSlice (.inr ⟨rfl, (fun _ h => h)⟩) rfl rfl rfl rfl ?_; intro _); (refine TR_appendP (.inl rfl) hrow rfl rfl (.cons (.there (.there (.there (.there .here)))) .nil) (src_at (m := 1) 0 rfl rfl) rfl rfl (by omega) rfl ?_; intro a' cap' C' hS); refine TR_store0_4 rfl rfl rfl rfl rfl rfl ?_; refine TR_nil ?_)
        | refine TC_block ?_
        | refine TQ_blk ?_
      rename_i bb
      have hS2 : Sl 22 1 a' (ll.length + 1) cap' C' (u32s ll ++ [u32 e.r.d.tsn]) := hS
      refine TQ_le (L' := C' :: blk bb 22 [u32 e.r.d.tsn] :: loopSeg l (busy r) :: e.bk :: lbox nb ⟨a', cap', C'⟩ (ll.length + 1) :: ((fbox b1 (some ⟨b, 0, none⟩) ++ isbox b2 (.func (.func 41) #[] #[])) ++ (X.bk b ++ (X.w.C ++ (rsegs (X.l.take k) ++ (e.w.C ++ rsegs (X.l.drop (k + 1))))))) :: R') (Le.refl _) ?_
      have e1 : (ll ++ [e.r.d.tsn]).length = ll.length + 1 := by simp
      refine TQ_roundOn (M := C' :: e.bk :: lbox nb ⟨a', cap', C'⟩ (ll.length + 1) :: ((fbox b1 (some ⟨b, 0, none⟩) ++ isbox b2 (.func (.func 41) #[] #[])) ++ (X.bk b ++ (X.w.C ++ (rsegs (X.l.take k) ++ (e.w.C ++ rsegs (X.l.drop (k + 1))))))) :: R') hr1 hr2 (fun a => by simp only [les]; omega)
        ⟨rfl, (⟨a', cap', C'⟩, ll ++ [e.r.d.tsn]), ⟨h4.symm, ?_⟩, rfl⟩ (fun a => by simp only [les, FL.seg_at b he, e1]; omega)
      dsimp only
      rw [e1, show u32s (ll ++ [e.r.d.tsn]) = u32s ll ++ [u32 e.r.d.tsn] by simp [u32s]]
      exact hS2
  · rintro d ⟨row, l⟩ ⟨hl, hrow⟩
    dsimp only at hl hrow ⊢
    rw [recs_all] at hl
    subst hl
    refine TQ_le (L' := lbox nb row (lostOf X.recs).length :: row.C :: defSeg d :: X.seg b :: R) (fun a => by simp only [les]; omega) ?_
    repeat' first
      | refine TC_seq ?_
      | refine TQ_then ?_
      | (refine TC_plain (id := 5) (by kernel_rfl) ?_; refine TR_load0 rfl 0 rfl rfl rfl ?_; refine TR_pv0 PV_assign rfl ?_; refine TR_nil ?_)
      | refine TC_ret ?_
      | refine TQ_blk ?_
    exact TQ_mark (M := row.C :: X.seg b :: R) (fun a => by simp only [les]; omega) (TQ_unmarked (TQ_ret1e (v := row.val (lostOf X.recs).length) rfl rfl rfl ⟨row, rfl, rfl, hrow⟩ (fun a => by simp only [les]; omega)))

/-! ### What turns records -/
/-- The first k records are turned by g. -/
def FL.upTo (X : FL) (g : FRec → FRec) (k : Nat) : FL := { X with l := (X.l.take k).map (fun x => { x with r := g x.r }) ++ X.l.drop k }
theorem upTo_zero (X : FL) (g : FRec → FRec) : X.upTo g 0 = X := by simp [FL.upTo]
theorem upTo_ptrs (X : FL) (g : FRec → FRec) (k : Nat) : (X.upTo g k).ptrs = X.ptrs := by
  simp only [FL.upTo, FL.ptrs, List.map_append, List.map_map]
  rw [show (RL.p ∘ fun x : RL => { x with r := g x.r }) = RL.p from rfl, ← List.map_append, List.take_append_drop]
theorem upTo_length (X : FL) (g : FRec → FRec) (k : Nat) : (X.upTo g k).l.length = X.l.length := by
  simp only [FL.upTo, List.length_append, List.length_map, List.length_take, List.length_drop]; omega
theorem upTo_at {X : FL} (g : FRec → FRec) {k : Nat} {e : RL} (h : (X.upTo g k).l[k]? = some e) : X.l[k]? = some e := by
  simp only [FL.upTo] at h
  by_cases hk : k ≤ X.l.length
  · rw [List.getElem?_append_right (by simp [hk])] at h
    simpa [List.length_take, Nat.min_eq_left hk] using h
  · rw [List.getElem?_eq_none (by simp; omega)] at h; cases h
theorem upTo_get {X : FL} (g : FRec → FRec) {k : Nat} {j : Nat} {e : RL} (h : (X.upTo g k).l[j]? = some e) : ∃ x, X.l[j]? = some x ∧ (e = x ∨ e = { x with r := g x.r }) := by
  simp only [FL.upTo] at h
  rw [List.getElem?_append] at h
  split at h
  · rename_i hj
    rw [List.getElem?_map, List.getElem?_take] at h
    split at h
    · obtain ⟨x, hx, rfl⟩ := Option.map_eq_some_iff.1 h
      exact ⟨x, hx, .inr rfl⟩
    · cases h
  · rename_i hj
    rw [List.getElem?_drop] at h
    simp only [List.length_map, List.length_take] at hj h
    have hlt := (List.getElem?_eq_some_iff.1 h).1
    exact ⟨e, by rw [← h]; congr 1; omega, .inl rfl⟩
theorem upTo_seg (b : Nat) {X : FL} (g : FRec → FRec) {k : Nat} {e : RL} (h : X.l[k]? = some e) :
    (X.upTo g k).seg b = X.bk b ++ (X.w.C ++ (rsegs ((X.l.take k).map (fun x => { x with r := g x.r })) ++ (e.bk ++ (e.w.C ++ rsegs (X.l.drop (k + 1)))))) := by
  obtain ⟨hk, rfl⟩ := List.getElem?_eq_some_iff.1 h
  have e1 : X.l.drop k = X.l[k] :: X.l.drop (k + 1) := List.drop_eq_getElem_cons hk
  rw [FL.seg, show (X.upTo g k).bk b = X.bk b by rw [FL.bk, FL.bk, upTo_length]; rfl]
  show X.bk b ++ (X.w.C ++ rsegs ((X.l.take k).map (fun x => { x with r := g x.r }) ++ X.l.drop k)) = _
  rw [e1, rsegs_append, rsegs_cons, RL.seg, List.append_assoc]
theorem upTo_segN (b : Nat) {X : FL} (g : FRec → FRec) {k : Nat} {e : RL} (h : X.l[k]? = some e) :
    (X.upTo g (k + 1)).seg b = X.bk b ++ (X.w.C ++ (rsegs ((X.l.take k).map (fun x => { x with r := g x.r })) ++ (RL.bk { e with r := g e.r } ++ (e.w.C ++ rsegs (X.l.drop (k + 1)))))) := by
  rw [FL.seg, show (X.upTo g (k + 1)).bk b = X.bk b by rw [FL.bk, FL.bk, upTo_length]; rfl]
  show X.bk b ++ (X.w.C ++ rsegs ((X.l.take (k + 1)).map (fun x => { x with r := g x.r }) ++ X.l.drop (k + 1))) = _
  rw [take_next h, List.map_append, List.map_singleton, rsegs_append, rsegs_append, rsegs_cons, RL.seg, List.append_assoc, List.append_assoc]
  rfl
theorem upTo_same {X : FL} (g : FRec → FRec) {k : Nat} {e : RL} (h : X.l[k]? = some e) (hg : g e.r = e.r) : X.upTo g (k + 1) = X.upTo g k := by
  obtain ⟨hk, rfl⟩ := List.getElem?_eq_some_iff.1 h
  have e1 : X.l.drop k = X.l[k] :: X.l.drop (k + 1) := List.drop_eq_getElem_cons hk
  simp only [FL.upTo]
  rw [take_next h, List.map_append, List.map_singleton, e1, hg, List.append_assoc]
  rfl
theorem upTo_recs (X : FL) (g : FRec → FRec) : (X.upTo g X.l.length).recs = X.recs.map g := by
  simp only [FL.upTo, FL.recs, List.take_length, List.drop_length, List.append_nil, List.map_map]
  rfl
theorem upTo_ok {X : FL} (h : FlOk X) (g : FRec → FRec) (k : Nat) (hd : ∀ r, (g r).d = r.d) (hg : ∀ r, FRecOk r X.paths → FRecOk (g r) X.paths) : FlOk (X.upTo g k) := by
  have hlen := upTo_length X g k
  refine ⟨?_, ?_, by rw [hlen]; exact h.len, h.c0, h.c1, h.q0, h.q1, ?_⟩
  · rw [upTo_ptrs, hlen]; exact h.row
  · intro x hx
    obtain ⟨j, hj⟩ := List.getElem?_of_mem hx
    obtain ⟨y, hy, hxy⟩ := upTo_get g hj
    have hy' := h.recs y (List.mem_of_getElem? hy)
    rcases hxy with rfl | rfl
    · exact hy'
    · refine ⟨?_, hg _ hy'.2⟩
      have := hy'.1
      simp only [RL.ok] at this ⊢
      rw [hd]; exact this
  · intro j x hx
    obtain ⟨y, hy, hxy⟩ := upTo_get g hx
    have := h.tsn j y hy
    rcases hxy with rfl | rfl
    · exact this
    · simp only [hd]; exact this

def markR (path : Int) (r : FRec) : FRec := if decide (r.path = path) && r.away then { r with lost := true } else r
theorem markR_ok (path : Int) {paths : Int} {r : FRec} (h : FRecOk r paths) : FRecOk (markR path r) paths := by
  unfold markR
  split
  · exact ⟨h.p0, h.p1, h.b0, h.b1, h.m0, h.m1, fun h => by simp at h⟩
  · exact h
theorem markR_d (path : Int) (r : FRec) : (markR path r).d = r.d := by unfold markR; split <;> rfl

theorem markF_cd (b : Nat) (X : FL) (h : FlOk X) (path : Int) :
    Cd Try.prog 12 [ptr b, i64 path] [X.seg b] (i64 (countIf (fun r => decide (r.path = path) && r.away) X.recs)) [(X.upTo (markR path) X.l.length).seg b] := by
  generalize hp : (fun r : FRec => decide (r.path = path) && r.away) = p
  refine Ct_introM Try.func12 rfl (by simp only [Try.ntmps12, List.length_cons, List.length_nil]; omega) ?_
  intro w₀ R
  repeat' first
    | refine TC_seq ?_
    | refine TQ_then ?_
    | (refine TC_plain (id := 0) (by kernel_rfl) ?_; refine TR_pv0 PV_assign rfl ?_; refine TR_nil ?_)
    | (refine TC_plain (id := 1) (by kernel_rfl) ?_; (refine TR_alloc0 rfl ?_; intro _); refine TR_store0_0 rfl rfl rfl rfl rfl rfl ?_; refine TR_nil ?_)
    | (refine TC_plain (id := 2) (by kernel_rfl) ?_; refine TR_pv0 PV_move rfl ?_; refine TR_pv0 PV_move rfl ?_; (refine TR_calln (by_ct path) rfl rfl rfl ?_; intro pb); (refine TR_call0 (such_ct (some ⟨b, 0, none⟩) 59 #[] #[ptr pb]) rfl rfl .nil rfl ?_; rintro _ _ ⟨b1, b2, rfl, rfl⟩); refine TR_nil ?_)
    | refine TC_block ?_
  rename_i nb
  refine TC_such (R := R) b b1 b2 59 [] [ptr pb] X.ptrs X.w (fun s : Int × Nat => ibox nb s.1 ++ ibox pb path) (fun s => X.upTo (markR path) s.2) (fun k s => s.1 = countIf p (X.recs.take k) ∧ X.upTo (markR path) s.2 = X.upTo (markR path) k) (0, 0)
    (fun k s hs => ⟨by rw [upTo_ptrs], rfl, upTo_ok h _ _ (markR_d path) fun r => markR_ok path⟩) ?_ ⟨by simp [countIf], rfl⟩ rfl rfl
    (Le.trans (M := fbox b1 (some ⟨b, 0, none⟩) :: isbox b2 (.func (.func 59) #[] #[ptr pb]) :: ibox pb path :: ibox nb 0 :: X.seg b :: R) (Le.refl _) (fun a => by simp only [les, upTo_zero]; omega)) ?_
  · rintro k ⟨n, j⟩ e ⟨hn, hj⟩ he
    dsimp only at hn hj he ⊢
    rw [hj] at he ⊢
    have hx := upTo_at _ he
    refine ⟨p e.r, hp ▸ Cd.within (E := [ibox nb n ++ (X.bk b ++ (X.w.C ++ (rsegs ((X.l.take k).map (fun x => { x with r := markR path x.r })) ++ (e.w.C ++ rsegs (X.l.drop (k + 1))))))]) (by1_cd e pb path) (fun a => by simp only [les, upTo_seg b (markR path) hx]; omega) (fun a => by simp only [les, upTo_seg b (markR path) hx]; omega), fun hf => ?_, fun ht l r hr1 hr2 w₁ R' => ?_⟩
    · refine ⟨?_, ?_⟩
      · rw [countIf_next p (recs_at hx), hf, hn]; simp
      · rw [upTo_same _ hx]
        subst hp
        exact if_neg fun h' => by rw [show (decide (e.r.path = path) && e.r.away) = false from hf] at h'; cases h'
    · have h1 := countIf_take h p k
      rw [← hn] at h1
      have h3 := countIf_next p (recs_at hx)
      rw [ht, ← hn, if_pos rfl] at h3
      have h4 : markR path e.r = { e.r with lost := true } := by subst hp; exact if_pos ht
      clear hn
      refine TC_le (L' := loopSeg l r :: e.bk :: ibox nb n :: ((fbox b1 (some ⟨b, 0, none⟩) ++ isbox b2 (.func (.func 59) #[] #[ptr pb])) ++ (ibox pb path ++ (X.bk b ++ (X.w.C ++ (rsegs ((X.l.take k).map (fun x => { x with r := markR path x.r })) ++ (e.w.C ++ rsegs (X.l.drop (k + 1)))))))) :: R') (fun a => by simp only [les, upTo_seg b (markR path) hx]; omega) ?_
      repeat' first
        | refine TQ_begun hr1 (Le.refl _) ?_
        | refine TC_seq ?_
        | refine TQ_then ?_
        | (refine TC_plain (id := 3) (by kernel_rfl) ?_; refine TR_pv0 PV_assign rfl ?_; refine TR_nil ?_)
        | (refine TC_plain (id := 4) (by kernel_rfl) ?_; refine TR_pv0 PV_move rfl ?_; refine TR_pv0 (PV_nil rfl) rfl ?_; refine TR_pv0 (PV_fieldAddr rfl) rfl ?_; refine TR_store0_1 rfl rfl rfl rfl rfl rfl ?_; refine TR_nil ?_)
        | (refine TC_plain (id := 5) (by kernel_rfl) ?_; refine TR_load0 rfl 2 rfl rfl rfl ?_; refine TR_pv0 (PV_add64 rfl rfl (by omega)) rfl ?_; refine TR_store0_2 rfl rfl rfl rfl rfl rfl ?_; refine TR_nil ?_)
        | refine TC_block ?_
        | refine TQ_blk ?_
      refine TQ_le (L' := loopSeg l (busy r) :: RL.bk { e with r := { e.r with lost := true } } :: ibox nb (n + 1) :: ((fbox b1 (some ⟨b, 0, none⟩) ++ isbox b2 (.func (.func 59) #[] #[ptr pb])) ++ (ibox pb path ++ (X.bk b ++ (X.w.C ++ (rsegs ((X.l.take k).map (fun x => { x with r := markR path x.r })) ++ (e.w.C ++ rsegs (X.l.drop (k + 1)))))))) :: R') (Le.refl _) ?_
      exact TQ_roundOn hr1 hr2 (Le.refl _) ⟨rfl, (n + 1, k + 1), ⟨h3.symm, rfl⟩, rfl⟩ (fun a => by simp only [les, upTo_segN b (markR path) hx, h4]; omega)
  · rintro d ⟨n, j⟩ ⟨hn, hj⟩
    dsimp only at hn hj ⊢
    rw [recs_all] at hn
    rw [hj]
    subst hn
    refine TQ_le (L' := ibox nb (countIf p X.recs) :: defSeg d :: ibox pb path :: (X.upTo (markR path) X.ptrs.length).seg b :: R) (fun a => by simp only [les]; omega) ?_
    repeat' first
      | refine TC_seq ?_
      | refine TQ_then ?_
      | (refine TC_plain (id := 6) (by kernel_rfl) ?_; refine TR_load0 rfl 0 rfl rfl rfl ?_; refine TR_pv0 PV_assign rfl ?_; refine TR_nil ?_)
      | refine TC_ret ?_
      | refine TQ_blk ?_
    have e1 : X.ptrs.length = X.l.length := by rw [FL.ptrs, List.length_map]
    rw [e1]
    exact TQ_mark (M := (X.upTo (markR path) X.l.length).seg b :: R) (fun a => by simp only [les]; omega) (TQ_unmarked (TQ_ret1e rfl rfl rfl ⟨rfl, rfl⟩ (fun a => by simp only [les]; omega)))
end Go.Proofs.Ytonfkkdahlboiaa
