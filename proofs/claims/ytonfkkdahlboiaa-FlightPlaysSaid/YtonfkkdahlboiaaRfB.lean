/- The flight of the reference: what is asked of it: New, Cum, Count, Open, Out, Lost, at. -/
import Derived.Test.YtonfkkdahlboiaaRfA
namespace Go.Proofs.Ytonfkkdahlboiaa
open Go.RowKit
set_option maxHeartbeats 4000000
set_option maxRecDepth 10000

theorem QfOk.len {X : QF} (hf : FrOk X.abs) : X.l.length ≤ 2048 := by have := hf.len; simpa [QF.abs, qrecs_length] using this
theorem FrOk.sum {F : Flt} (h : FrOk F) (p : FRec → Bool) (k : Nat) : 0 ≤ sumIf p (F.l.take k) ∧ sumIf p (F.l.take k) ≤ 2147483648 := by
  have h1 := sumIf_le p F.paths (F.l.take k) fun x hx => h.recs x (List.mem_of_mem_take hx)
  have h2 : (F.l.take k).length ≤ F.l.length := by rw [List.length_take]; omega
  have := h.len
  omega
theorem FrOk.cnt {F : Flt} (h : FrOk F) (p : FRec → Bool) (k : Nat) : 0 ≤ countIf p (F.l.take k) ∧ countIf p (F.l.take k) ≤ 2048 := by
  have h1 := countIf_le p (F.l.take k)
  have h2 : (F.l.take k).length ≤ F.l.length := by rw [List.length_take]; omega
  have := h.len
  omega
theorem FrOk.at_ {X : QF} (h : FrOk X.abs) {k : Nat} {x : QL} (hx : X.l[k]? = some x) : FRecOk x.r X.paths := h.recs x.r (List.mem_of_getElem? (qrecs_at hx))

theorem qaway_cd (x : QL) : Cd Try.prog 57 [.agg x.cells.toArray] [] (.bool x.r.away) [] := by
  obtain ⟨⟨d, path, id, miss, at_, acked, lost, gone, again⟩, w⟩ := x
  refine Ct_intro Try.func57 rfl (by simp only [Try.ntmps57, List.length_cons, List.length_nil]; omega) ?_
  intro w₀ R
  cases acked <;> cases lost <;> cases gone <;> repeat' first
    | refine TC_seq ?_
    | refine TQ_then ?_
    | (refine TC_plain (id := 0) (by kernel_rfl) ?_; (refine TR_box0 rfl rfl rfl ?_; intro _); refine TR_pv0 PV_assign rfl ?_; refine TR_nil ?_)
    | (refine TC_plain (id := 1) (by kernel_rfl) ?_; all_goals refine TR_pv0 (PV_fieldAddr rfl) rfl ?_; all_goals refine TR_load0 rfl 0 rfl rfl rfl ?_; all_goals refine TR_pv0 (PV_not rfl) rfl ?_; all_goals refine TR_pv0 PV_move rfl ?_; all_goals (first | refine TR_pv0 (PV_fieldAddr rfl) rfl ?_ | refine TR_skip0 rfl ?_); all_goals (first | refine TR_load0 rfl 0 rfl rfl rfl ?_ | refine TR_skip0 rfl ?_); all_goals (first | refine TR_pv0 (PV_not rfl) rfl ?_ | refine TR_skip0 rfl ?_); all_goals (first | refine TR_pv0 (PV_pick_t rfl) rfl ?_ | refine TR_pv0 (PV_pick_f rfl) rfl ?_); all_goals refine TR_pv0 PV_move rfl ?_; all_goals (first | refine TR_pv0 (PV_fieldAddr rfl) rfl ?_ | refine TR_skip0 rfl ?_); all_goals (first | refine TR_load0 rfl 0 rfl rfl rfl ?_ | refine TR_skip0 rfl ?_); all_goals (first | refine TR_pv0 (PV_not rfl) rfl ?_ | refine TR_skip0 rfl ?_); all_goals (first | refine TR_pv0 (PV_pick_t rfl) rfl ?_ | refine TR_pv0 (PV_pick_f rfl) rfl ?_); all_goals refine TR_pv0 PV_assign rfl ?_; all_goals refine TR_nil ?_)
    | refine TC_ret ?_
  all_goals exact TQ_ret1e rfl rfl rfl ⟨rfl, rfl⟩ (fun a => by simp only [les]; omega)

theorem qnew_ct (paths first : Int) (hp : 1 ≤ paths ∧ paths ≤ 4) :
    Cn Try.prog 26 [i64 paths, u32 first] (fun b => .tuple #[ptr b, i64 0]) (fun b => QF.seg b ⟨[], ⟨none, 0, []⟩, (first - 1) % 4294967296, paths⟩) := by
  refine Ct_intro Try.func26 rfl (by simp only [Try.ntmps26, List.length_cons, List.length_nil]; omega) ?_
  intro w₀ R
  repeat' first
    | refine TC_seq ?_
    | refine TQ_then ?_
    | (refine TC_plain (id := 0) (by kernel_rfl) ?_; refine TR_pv0 PV_assign rfl ?_; refine TR_pv0 PV_assign rfl ?_; refine TR_nil ?_)
    | (refine TC_plain (id := 1) (by kernel_rfl) ?_; all_goals refine TR_pv0 PV_move rfl ?_; all_goals refine TR_pv0 (PV_lss rfl rfl) rfl ?_; all_goals refine TR_pv0 PV_move rfl ?_; all_goals (refine TR_gsplit rfl rfl rfl (fun hq => ?_) (fun hq => ?_) <;> (try simp only [qs] at hq) <;> (try simp only [reduceCtorEq] at hq) <;> (try (exfalso; omega)) <;> (try contradiction) <;> refine TR_pv0 PV_move rfl ?_); all_goals refine TR_pv0 (PV_gtr rfl rfl) rfl ?_; all_goals refine TR_pv0 (PV_pick_f rfl) rfl ?_; all_goals refine TR_nil ?_)
    | (refine TC_plain (id := 3) (by kernel_rfl) ?_; refine TR_pv0 PV_move rfl ?_; refine TR_pv0 (PV_sub32 rfl rfl) rfl ?_; refine TR_pv0 PV_move rfl ?_; refine TR_pv0 (PV_build rfl rfl) rfl ?_; (refine TR_box0 rfl rfl rfl ?_; intro b); refine TR_pv0 PV_assign rfl ?_; refine TR_pv0 PV_assign rfl ?_; refine TR_nil ?_)
    | refine TC_skip ?_
    | refine TC_ret ?_
    | (refine TC_cond rfl rfl (fun hq => ?_) (fun hq => ?_) <;> (try simp only [qs] at hq) <;> (try simp only [reduceCtorEq] at hq) <;> (try (exfalso; omega)) <;> (try contradiction))
  exact TQ_ret2e rfl rfl rfl rfl rfl ⟨b, rfl, rfl⟩ (Le.refl _)
theorem qnew_no (paths first : Int) (hp : ¬ (1 ≤ paths ∧ paths ≤ 4)) : Cd Try.prog 26 [i64 paths, u32 first] [] (.tuple #[.pointer none, i64 1]) [] := by
  refine Ct_intro Try.func26 rfl (by simp only [Try.ntmps26, List.length_cons, List.length_nil]; omega) ?_
  intro w₀ R
  repeat' first
    | refine TC_seq ?_
    | refine TQ_then ?_
    | (refine TC_plain (id := 0) (by kernel_rfl) ?_; refine TR_pv0 PV_assign rfl ?_; refine TR_pv0 PV_assign rfl ?_; refine TR_nil ?_)
    | (refine TC_plain (id := 1) (by kernel_rfl) ?_; all_goals refine TR_pv0 PV_move rfl ?_; all_goals refine TR_pv0 (PV_lss rfl rfl) rfl ?_; all_goals refine TR_pv0 PV_move rfl ?_; all_goals (refine TR_gsplit rfl rfl rfl (fun hq => ?_) (fun hq => ?_) <;> (try simp only [qs] at hq) <;> (try simp only [reduceCtorEq] at hq) <;> (try (exfalso; omega)) <;> (try contradiction) <;> (first | refine TR_pv0 PV_move rfl ?_ | refine TR_skip0 rfl ?_)); all_goals (first | refine TR_pv0 (PV_gtr rfl rfl) rfl ?_ | refine TR_skip0 rfl ?_); all_goals (first | refine TR_pv0 (PV_pick_t rfl) rfl ?_ | refine TR_pv0 (PV_pick_f rfl) rfl ?_); all_goals refine TR_nil ?_)
    | (refine TC_plain (id := 2) (by kernel_rfl) ?_; refine TR_pv0 PV_assign rfl ?_; refine TR_pv0 PV_assign rfl ?_; refine TR_nil ?_)
    | refine TC_cond_t rfl rfl ?_
    | refine TC_ret ?_
    | refine TQ_then_ret ?_
    | (refine TC_cond rfl rfl (fun hq => ?_) (fun hq => ?_) <;> (try simp only [qs] at hq) <;> (try simp only [reduceCtorEq] at hq) <;> (try (exfalso; omega)) <;> (try contradiction))
  all_goals exact TQ_ret2e rfl rfl rfl rfl rfl ⟨rfl, rfl⟩ (fun a => by simp only [les]; omega)

theorem qcount_cd (b : Nat) (X : QF) : Cd Try.prog 30 [ptr b] [X.seg b] (i64 X.l.length) [X.seg b] := by
  refine Ct_intro Try.func30 rfl (by simp only [Try.ntmps30, List.length_cons, List.length_nil]; omega) ?_
  intro w₀ R
  refine TC_le (L' := X.bk b :: (X.w.C ++ qsegs X.l) :: R) (fun a => by simp only [les, QF.seg]; omega) ?_
  repeat' first
    | refine TC_seq ?_
    | refine TQ_then ?_
    | (refine TC_plain (id := 0) (by kernel_rfl) ?_; refine TR_pv0 PV_assign rfl ?_; refine TR_nil ?_)
    | (refine TC_plain (id := 1) (by kernel_rfl) ?_; refine TR_pv0 PV_move rfl ?_; refine TR_pv0 (PV_peq_nil rfl rfl) rfl ?_; refine TR_nil ?_)
    | (refine TC_plain (id := 3) (by kernel_rfl) ?_; refine TR_pv0 PV_move rfl ?_; refine TR_pv0 (PV_nil rfl) rfl ?_; refine TR_pv0 (PV_fieldAddr rfl) rfl ?_; refine TR_load0 rfl 0 rfl rfl rfl ?_; refine TR_pv0 (PV_len rfl) rfl ?_; refine TR_pv0 PV_assign rfl ?_; refine TR_nil ?_)
    | refine TC_cond_f rfl rfl ?_
    | refine TC_skip ?_
    | refine TC_ret ?_
  exact TQ_ret1e rfl rfl rfl ⟨rfl, rfl⟩ (fun a => by simp only [les, QF.seg]; omega)
theorem qcum_cd (b : Nat) (X : QF) : Cd Try.prog 27 [ptr b] [X.seg b] (u32 X.cum) [X.seg b] := by
  refine Ct_intro Try.func27 rfl (by simp only [Try.ntmps27, List.length_cons, List.length_nil]; omega) ?_
  intro w₀ R
  refine TC_le (L' := X.bk b :: (X.w.C ++ qsegs X.l) :: R) (fun a => by simp only [les, QF.seg]; omega) ?_
  repeat' first
    | refine TC_seq ?_
    | refine TQ_then ?_
    | (refine TC_plain (id := 0) (by kernel_rfl) ?_; refine TR_pv0 PV_assign rfl ?_; refine TR_nil ?_)
    | (refine TC_plain (id := 1) (by kernel_rfl) ?_; refine TR_pv0 PV_move rfl ?_; refine TR_pv0 (PV_peq_nil rfl rfl) rfl ?_; refine TR_nil ?_)
    | (refine TC_plain (id := 3) (by kernel_rfl) ?_; refine TR_pv0 PV_move rfl ?_; refine TR_pv0 (PV_nil rfl) rfl ?_; refine TR_pv0 (PV_fieldAddr rfl) rfl ?_; refine TR_load0 rfl 0 rfl rfl rfl ?_; refine TR_pv0 PV_assign rfl ?_; refine TR_nil ?_)
    | refine TC_cond_f rfl rfl ?_
    | refine TC_skip ?_
    | refine TC_ret ?_
  exact TQ_ret1e rfl rfl rfl ⟨rfl, rfl⟩ (fun a => by simp only [les, QF.seg]; omega)

theorem qopen_cd (b : Nat) (X : QF) (h : QfOk X) (hf : FrOk X.abs) : Cd Try.prog 31 [ptr b] [X.seg b] (i64 (sumIf (fun r => !r.acked) X.recs)) [X.seg b] := by
  have hlen := QfOk.len hf
  refine Ct_intro Try.func31 rfl (by simp only [Try.ntmps31, List.length_cons, List.length_nil]; omega) ?_
  intro w₀ R
  refine TC_le (L' := X.bk b :: X.w.C :: qsegs X.l :: R) (fun a => by simp only [les, QF.seg]; omega) ?_
  repeat' first
    | refine TC_seq ?_
    | refine TQ_then ?_
    | (refine TC_plain (id := 0) (by kernel_rfl) ?_; refine TR_pv0 PV_assign rfl ?_; refine TR_nil ?_)
    | (refine TC_plain (id := 1) (by kernel_rfl) ?_; refine TR_pv0 PV_assign rfl ?_; refine TR_nil ?_)
    | (refine TC_plain (id := 2) (by kernel_rfl) ?_; refine TR_pv0 PV_assign rfl ?_; refine TR_nil ?_)
    | refine TC_block ?_
  refine TC_loopP (X := Nat) (fun _ => X.bk b :: X.w.C :: qsegs X.l :: R) (fun k => [(0, ptr b), (3, i64 (sumIf (fun r => !r.acked) (X.recs.take k))), (4, i64 k)]) (fun k => k ≤ X.l.length) (fun k => X.l.length - k) 0 (Nat.zero_le _) ⟨rfl, rfl, rfl, trivial⟩ (fun w hs => hs) ?_
  rintro k σg mm hmm hk
  have hs0 := hf.sum (fun r => !r.acked) k
  change 0 ≤ sumIf (fun r => !r.acked) (X.recs.take k) ∧ sumIf (fun r => !r.acked) (X.recs.take k) ≤ 2147483648 at hs0
  by_cases hlt : k < X.l.length
  · obtain ⟨x, hx⟩ : ∃ x, X.l[k]? = some x := ⟨_, List.getElem?_eq_getElem hlt⟩
    obtain ⟨rb, off, cells, ha, hC, hat⟩ := qat_of h.row (by omega)
    have hsl : Value.slice X.w.a X.l.length X.w.cap = .slice (some ⟨rb, off, none⟩) X.l.length X.w.cap := by rw [ha]
    have c11 : cells[off + (k : Int).toNat * 15 + 11]? = some (.bool x.r.acked) := hat.cell hx (j := 11) (by omega) rfl
    have c6 : cells[off + (k : Int).toNat * 15 + 0 + 6]? = some (x.w.val x.r.d.bytes.length) := hat.cell hx (j := 6) (by omega) rfl
    have hb := (hf.at_ hx).b1
    have hn := sumIf_next (fun r => !r.acked) (qrecs_at hx)
    refine TC_le (L' := X.bk b :: [(rb, .cells cells.toArray 111 (0, 0))] :: qsegs X.l :: R) (Le.of_eq (by rw [hC])) ?_
    cases hac : x.r.acked with
    | true =>
      rw [hac] at c11
      simp only [hac, Bool.not_true, Bool.false_eq_true, if_false, Int.add_zero] at hn
      repeat' first
        | refine TC_seq ?_
        | refine TQ_then ?_
        | (refine TC_plain (id := 3) (by kernel_rfl) ?_; all_goals refine TR_pv0 PV_move rfl ?_; all_goals refine TR_pv0 (PV_pne_nil rfl rfl) rfl ?_; all_goals refine TR_pv0 PV_move rfl ?_; all_goals refine TR_pv0 PV_move rfl ?_; all_goals refine TR_pv0 PV_move rfl ?_; all_goals refine TR_pv0 (PV_nil rfl) rfl ?_; all_goals refine TR_pv0 (PV_fieldAddr rfl) rfl ?_; all_goals refine TR_load0 rfl 0 rfl rfl rfl ?_; all_goals refine TR_pv0 (PV_len rfl) rfl ?_; all_goals refine TR_pv0 (PV_lss rfl rfl) rfl ?_; all_goals refine TR_pv0 (PV_pick_t rfl) rfl ?_; all_goals refine TR_nil ?_)
        | (refine TC_plain (id := 5) (by kernel_rfl) ?_; refine TR_pv0 PV_move rfl ?_; refine TR_pv0 (PV_nil rfl) rfl ?_; refine TR_pv0 (PV_fieldAddr rfl) rfl ?_; refine TR_load0 rfl 0 rfl rfl rfl ?_; refine TR_pv0 PV_move rfl ?_; refine TR_pv0 (PV_indexAddr hsl rfl (by omega)) rfl ?_; refine TR_pv0 (PV_fieldAddr rfl) rfl ?_; refine TR_load0 rfl 1 rfl c11 rfl ?_; refine TR_pv0 (PV_not rfl) rfl ?_; refine TR_nil ?_)
        | (refine TC_plain (id := 4) (by kernel_rfl) ?_; refine TR_pv0 PV_move rfl ?_; refine TR_pv0 (PV_add64 rfl rfl (by omega)) rfl ?_; refine TR_pv0 PV_assign rfl ?_; refine TR_nil ?_)
        | refine TC_cond_f rfl rfl ?_
        | refine TC_skip ?_
        | refine TC_block ?_
        | refine TQ_blk ?_
        | (refine TC_cond rfl rfl (fun hq => ?_) (fun hq => ?_) <;> (try simp only [qs] at hq) <;> (try simp only [reduceCtorEq] at hq) <;> (try (exfalso; omega)) <;> (try contradiction))
      exact TQ_roundP (k + 1) hlt (by show X.l.length - (k + 1) < mm; omega) ⟨rfl, by rw [hn]; rfl, rfl, trivial⟩ (fun w hs => hs.le (Le.of_eq (by rw [hC])))
    | false =>
      rw [hac] at c11
      simp only [hac, Bool.not_false, if_true] at hn
      repeat' first
        | refine TC_seq ?_
        | refine TQ_then ?_
        | (refine TC_plain (id := 3) (by kernel_rfl) ?_; all_goals refine TR_pv0 PV_move rfl ?_; all_goals refine TR_pv0 (PV_pne_nil rfl rfl) rfl ?_; all_goals refine TR_pv0 PV_move rfl ?_; all_goals refine TR_pv0 PV_move rfl ?_; all_goals refine TR_pv0 PV_move rfl ?_; all_goals refine TR_pv0 (PV_nil rfl) rfl ?_; all_goals refine TR_pv0 (PV_fieldAddr rfl) rfl ?_; all_goals refine TR_load0 rfl 0 rfl rfl rfl ?_; all_goals refine TR_pv0 (PV_len rfl) rfl ?_; all_goals refine TR_pv0 (PV_lss rfl rfl) rfl ?_; all_goals refine TR_pv0 (PV_pick_t rfl) rfl ?_; all_goals refine TR_nil ?_)
        | (refine TC_plain (id := 5) (by kernel_rfl) ?_; refine TR_pv0 PV_move rfl ?_; refine TR_pv0 (PV_nil rfl) rfl ?_; refine TR_pv0 (PV_fieldAddr rfl) rfl ?_; refine TR_load0 rfl 0 rfl rfl rfl ?_; refine TR_pv0 PV_move rfl ?_; refine TR_pv0 (PV_indexAddr hsl rfl (by omega)) rfl ?_; refine TR_pv0 (PV_fieldAddr rfl) rfl ?_; refine TR_load0 rfl 1 rfl c11 rfl ?_; refine TR_pv0 (PV_not rfl) rfl ?_; refine TR_nil ?_)
        | (refine TC_plain (id := 6) (by kernel_rfl) ?_; refine TR_pv0 PV_move rfl ?_; refine TR_pv0 PV_move rfl ?_; refine TR_pv0 (PV_nil rfl) rfl ?_; refine TR_pv0 (PV_fieldAddr rfl) rfl ?_; refine TR_load0 rfl 0 rfl rfl rfl ?_; refine TR_pv0 PV_move rfl ?_; refine TR_pv0 (PV_indexAddr hsl rfl (by omega)) rfl ?_; refine TR_pv0 (PV_fieldAddr rfl) rfl ?_; refine TR_pv0 (PV_fieldAddr rfl) rfl ?_; refine TR_load0 rfl 1 rfl c6 rfl ?_; refine TR_pv0 (PV_len rfl) rfl ?_; refine TR_pv0 (PV_add64 rfl rfl (by omega)) rfl ?_; refine TR_pv0 PV_assign rfl ?_; refine TR_nil ?_)
        | (refine TC_plain (id := 4) (by kernel_rfl) ?_; refine TR_pv0 PV_move rfl ?_; refine TR_pv0 (PV_add64 rfl rfl (by omega)) rfl ?_; refine TR_pv0 PV_assign rfl ?_; refine TR_nil ?_)
        | refine TC_cond_t rfl rfl ?_
        | refine TC_skip ?_
        | refine TC_block ?_
        | refine TQ_blk ?_
        | (refine TC_cond rfl rfl (fun hq => ?_) (fun hq => ?_) <;> (try simp only [qs] at hq) <;> (try simp only [reduceCtorEq] at hq) <;> (try (exfalso; omega)) <;> (try contradiction))
      exact TQ_roundP (k + 1) hlt (by show X.l.length - (k + 1) < mm; omega) ⟨rfl, by rw [hn]; rfl, rfl, trivial⟩ (fun w hs => hs.le (Le.of_eq (by rw [hC])))
  · obtain rfl : k = X.l.length := by omega
    rw [List.take_of_length_le (by rw [qrecs_length]; omega)]
    repeat' first
      | refine TC_seq ?_
      | refine TQ_then ?_
      | (refine TC_plain (id := 3) (by kernel_rfl) ?_; all_goals refine TR_pv0 PV_move rfl ?_; all_goals refine TR_pv0 (PV_pne_nil rfl rfl) rfl ?_; all_goals refine TR_pv0 PV_move rfl ?_; all_goals refine TR_pv0 PV_move rfl ?_; all_goals refine TR_pv0 PV_move rfl ?_; all_goals refine TR_pv0 (PV_nil rfl) rfl ?_; all_goals refine TR_pv0 (PV_fieldAddr rfl) rfl ?_; all_goals refine TR_load0 rfl 0 rfl rfl rfl ?_; all_goals refine TR_pv0 (PV_len rfl) rfl ?_; all_goals refine TR_pv0 (PV_lss rfl rfl) rfl ?_; all_goals refine TR_pv0 (PV_pick_t rfl) rfl ?_; all_goals refine TR_nil ?_)
      | (refine TC_plain (id := 7) (by kernel_rfl) ?_; refine TR_pv0 PV_move rfl ?_; refine TR_pv0 PV_assign rfl ?_; refine TR_nil ?_)
      | refine TC_ret ?_
      | refine TC_exit ?_
      | refine TQ_then_exit ?_
      | refine TQ_blk_here ?_
      | (refine TC_cond rfl rfl (fun hq => ?_) (fun hq => ?_) <;> (try simp only [qs] at hq) <;> (try simp only [reduceCtorEq] at hq) <;> (try (exfalso; omega)) <;> (try contradiction))
    exact TQ_ret1e rfl rfl rfl ⟨rfl, rfl⟩ (fun a => by simp only [les, QF.seg]; omega)

theorem qout_cd (b : Nat) (X : QF) (h : QfOk X) (hf : FrOk X.abs) (path : Int) :
    Cd Try.prog 34 [ptr b, i64 path] [X.seg b] (i64 (sumIf (fun r => decide (r.path = path) && r.away) X.recs)) [X.seg b] := by
  have hlen := QfOk.len hf
  generalize hp : (fun r : FRec => decide (r.path = path) && r.away) = p
  refine Ct_intro Try.func34 rfl (by simp only [Try.ntmps34, List.length_cons, List.length_nil]; omega) ?_
  intro w₀ R
  refine TC_le (L' := X.bk b :: X.w.C :: qsegs X.l :: R) (fun a => by simp only [les, QF.seg]; omega) ?_
  repeat' first
    | refine TC_seq ?_
    | refine TQ_then ?_
    | (refine TC_plain (id := 0) (by kernel_rfl) ?_; refine TR_pv0 PV_assign rfl ?_; refine TR_nil ?_)
    | (refine TC_plain (id := 1) (by kernel_rfl) ?_; refine TR_pv0 PV_assign rfl ?_; refine TR_nil ?_)
    | (refine TC_plain (id := 2) (by kernel_rfl) ?_; refine TR_pv0 PV_assign rfl ?_; refine TR_nil ?_)
    | refine TC_block ?_
  refine TC_loopP (X := Nat) (fun _ => X.bk b :: X.w.C :: qsegs X.l :: R) (fun k => [(0, ptr b), (1, i64 path), (5, i64 (sumIf p (X.recs.take k))), (6, i64 k)]) (fun k => k ≤ X.l.length) (fun k => X.l.length - k) 0 (Nat.zero_le _) ⟨rfl, rfl, rfl, rfl, trivial⟩ (fun w hs => hs) ?_
  rintro k σg mm hmm hk
  have hs0 := hf.sum p k
  change 0 ≤ sumIf p (X.recs.take k) ∧ sumIf p (X.recs.take k) ≤ 2147483648 at hs0
  by_cases hlt : k < X.l.length
  · obtain ⟨x, hx⟩ : ∃ x, X.l[k]? = some x := ⟨_, List.getElem?_eq_getElem hlt⟩
    obtain ⟨rb, off, cells, ha, hC, hat⟩ := qat_of h.row (by omega)
    have hsl : Value.slice X.w.a X.l.length X.w.cap = .slice (some ⟨rb, off, none⟩) X.l.length X.w.cap := by rw [ha]
    have cA : (cells.drop (off + (k : Int).toNat * 15)).take 15 = x.cells := hat.get hx
    have c7 : cells[off + (k : Int).toNat * 15 + 7]? = some (i64 x.r.path) := hat.cell hx (j := 7) (by omega) rfl
    have c6 : cells[off + (k : Int).toNat * 15 + 0 + 6]? = some (x.w.val x.r.d.bytes.length) := hat.cell hx (j := 6) (by omega) rfl
    have hb := (hf.at_ hx).b1
    have hn := sumIf_next p (qrecs_at hx)
    rw [← hp] at hn
    have haw := qaway_cd x
    refine TC_le (L' := X.bk b :: [(rb, .cells cells.toArray 111 (0, 0))] :: qsegs X.l :: R) (Le.of_eq (by rw [hC])) ?_
    cases hac : x.r.away with
    | false =>
      rw [hac] at haw
      simp only [hac, Bool.and_false, Bool.false_eq_true, if_false, Int.add_zero] at hn
      rw [hp] at hn
      repeat' first
        | refine TC_seq ?_
        | refine TQ_then ?_
        | (refine TC_plain (id := 3) (by kernel_rfl) ?_; all_goals refine TR_pv0 PV_move rfl ?_; all_goals refine TR_pv0 (PV_pne_nil rfl rfl) rfl ?_; all_goals refine TR_pv0 PV_move rfl ?_; all_goals refine TR_pv0 PV_move rfl ?_; all_goals refine TR_pv0 PV_move rfl ?_; all_goals refine TR_pv0 (PV_nil rfl) rfl ?_; all_goals refine TR_pv0 (PV_fieldAddr rfl) rfl ?_; all_goals refine TR_load0 rfl 0 rfl rfl rfl ?_; all_goals refine TR_pv0 (PV_len rfl) rfl ?_; all_goals refine TR_pv0 (PV_lss rfl rfl) rfl ?_; all_goals refine TR_pv0 (PV_pick_t rfl) rfl ?_; all_goals refine TR_nil ?_)
        | (refine TC_plain (id := 5) (by kernel_rfl) ?_; all_goals refine TR_pv0 PV_move rfl ?_; all_goals refine TR_pv0 (PV_nil rfl) rfl ?_; all_goals refine TR_pv0 (PV_fieldAddr rfl) rfl ?_; all_goals refine TR_load0 rfl 0 rfl rfl rfl ?_; all_goals refine TR_pv0 PV_move rfl ?_; all_goals refine TR_pv0 (PV_indexAddr hsl rfl (by omega)) rfl ?_; all_goals refine TR_loadAM0 rfl (.head _) 1 rfl cA rfl rfl ?_; all_goals refine TR_calld0 (haw) rfl rfl rfl rfl ?_; all_goals refine TR_pv0 PV_move rfl ?_; all_goals refine TR_skip0 rfl ?_; all_goals refine TR_skip0 rfl ?_; all_goals refine TR_skip0 rfl ?_; all_goals refine TR_skip0 rfl ?_; all_goals refine TR_skip0 rfl ?_; all_goals refine TR_skip0 rfl ?_; all_goals refine TR_skip0 rfl ?_; all_goals refine TR_skip0 rfl ?_; all_goals refine TR_skip0 rfl ?_; all_goals refine TR_skip0 rfl ?_; all_goals refine TR_pv0 (PV_pick_f rfl) rfl ?_; all_goals refine TR_nil ?_)
        | (refine TC_plain (id := 4) (by kernel_rfl) ?_; refine TR_pv0 PV_move rfl ?_; refine TR_pv0 (PV_add64 rfl rfl (by omega)) rfl ?_; refine TR_pv0 PV_assign rfl ?_; refine TR_nil ?_)
        | refine TC_cond_f rfl rfl ?_
        | refine TC_skip ?_
        | refine TC_block ?_
        | refine TQ_blk ?_
        | (refine TC_cond rfl rfl (fun hq => ?_) (fun hq => ?_) <;> (try simp only [qs] at hq) <;> (try simp only [reduceCtorEq] at hq) <;> (try (exfalso; omega)) <;> (try contradiction))
      exact TQ_roundP (k + 1) hlt (by show X.l.length - (k + 1) < mm; omega) ⟨rfl, rfl, by rw [hn]; rfl, rfl, trivial⟩ (fun w hs => hs.le (Le.of_eq (by rw [hC])))
    | true =>
      rw [hac] at haw
      by_cases hpp : x.r.path = path
      · simp only [hac, hpp, decide_true, Bool.and_true, if_true] at hn
        rw [hp] at hn
        repeat' first
          | refine TC_seq ?_
          | refine TQ_then ?_
          | (refine TC_plain (id := 3) (by kernel_rfl) ?_; all_goals refine TR_pv0 PV_move rfl ?_; all_goals refine TR_pv0 (PV_pne_nil rfl rfl) rfl ?_; all_goals refine TR_pv0 PV_move rfl ?_; all_goals refine TR_pv0 PV_move rfl ?_; all_goals refine TR_pv0 PV_move rfl ?_; all_goals refine TR_pv0 (PV_nil rfl) rfl ?_; all_goals refine TR_pv0 (PV_fieldAddr rfl) rfl ?_; all_goals refine TR_load0 rfl 0 rfl rfl rfl ?_; all_goals refine TR_pv0 (PV_len rfl) rfl ?_; all_goals refine TR_pv0 (PV_lss rfl rfl) rfl ?_; all_goals refine TR_pv0 (PV_pick_t rfl) rfl ?_; all_goals refine TR_nil ?_)
          | (refine TC_plain (id := 5) (by kernel_rfl) ?_; all_goals refine TR_pv0 PV_move rfl ?_; all_goals refine TR_pv0 (PV_nil rfl) rfl ?_; all_goals refine TR_pv0 (PV_fieldAddr rfl) rfl ?_; all_goals refine TR_load0 rfl 0 rfl rfl rfl ?_; all_goals refine TR_pv0 PV_move rfl ?_; all_goals refine TR_pv0 (PV_indexAddr hsl rfl (by omega)) rfl ?_; all_goals refine TR_loadAM0 rfl (.head _) 1 rfl cA rfl rfl ?_; all_goals refine TR_calld0 (haw) rfl rfl rfl rfl ?_; all_goals refine TR_pv0 PV_move rfl ?_; all_goals refine TR_pv0 PV_move rfl ?_; all_goals refine TR_pv0 (PV_nil rfl) rfl ?_; all_goals refine TR_pv0 (PV_fieldAddr rfl) rfl ?_; all_goals refine TR_load0 rfl 0 rfl rfl rfl ?_; all_goals refine TR_pv0 PV_move rfl ?_; all_goals refine TR_pv0 (PV_indexAddr hsl rfl (by omega)) rfl ?_; all_goals refine TR_pv0 (PV_fieldAddr rfl) rfl ?_; all_goals refine TR_load0 rfl 1 rfl c7 rfl ?_; all_goals refine TR_pv0 PV_move rfl ?_; all_goals refine TR_pv0 (PV_eql rfl rfl) rfl ?_; all_goals refine TR_pv0 (PV_pick_t rfl) rfl ?_; all_goals refine TR_nil ?_)
          | (refine TC_plain (id := 6) (by kernel_rfl) ?_; refine TR_pv0 PV_move rfl ?_; refine TR_pv0 PV_move rfl ?_; refine TR_pv0 (PV_nil rfl) rfl ?_; refine TR_pv0 (PV_fieldAddr rfl) rfl ?_; refine TR_load0 rfl 0 rfl rfl rfl ?_; refine TR_pv0 PV_move rfl ?_; refine TR_pv0 (PV_indexAddr hsl rfl (by omega)) rfl ?_; refine TR_pv0 (PV_fieldAddr rfl) rfl ?_; refine TR_pv0 (PV_fieldAddr rfl) rfl ?_; refine TR_load0 rfl 1 rfl c6 rfl ?_; refine TR_pv0 (PV_len rfl) rfl ?_; refine TR_pv0 (PV_add64 rfl rfl (by omega)) rfl ?_; refine TR_pv0 PV_assign rfl ?_; refine TR_nil ?_)
          | (refine TC_plain (id := 4) (by kernel_rfl) ?_; refine TR_pv0 PV_move rfl ?_; refine TR_pv0 (PV_add64 rfl rfl (by omega)) rfl ?_; refine TR_pv0 PV_assign rfl ?_; refine TR_nil ?_)
          | refine TC_skip ?_
          | refine TC_block ?_
          | refine TQ_blk ?_
          | (refine TC_cond rfl rfl (fun hq => ?_) (fun hq => ?_) <;> (try simp only [qs] at hq) <;> (try simp only [reduceCtorEq] at hq) <;> (try (exfalso; omega)) <;> (try contradiction))
        exact TQ_roundP (k + 1) hlt (by show X.l.length - (k + 1) < mm; omega) ⟨rfl, rfl, by rw [hn]; rfl, rfl, trivial⟩ (fun w hs => hs.le (Le.of_eq (by rw [hC])))
      · simp only [hac, hpp, decide_false, Bool.and_true, Bool.false_eq_true, if_false, Int.add_zero] at hn
        rw [hp] at hn
        repeat' first
          | refine TC_seq ?_
          | refine TQ_then ?_
          | (refine TC_plain (id := 3) (by kernel_rfl) ?_; all_goals refine TR_pv0 PV_move rfl ?_; all_goals refine TR_pv0 (PV_pne_nil rfl rfl) rfl ?_; all_goals refine TR_pv0 PV_move rfl ?_; all_goals refine TR_pv0 PV_move rfl ?_; all_goals refine TR_pv0 PV_move rfl ?_; all_goals refine TR_pv0 (PV_nil rfl) rfl ?_; all_goals refine TR_pv0 (PV_fieldAddr rfl) rfl ?_; all_goals refine TR_load0 rfl 0 rfl rfl rfl ?_; all_goals refine TR_pv0 (PV_len rfl) rfl ?_; all_goals refine TR_pv0 (PV_lss rfl rfl) rfl ?_; all_goals refine TR_pv0 (PV_pick_t rfl) rfl ?_; all_goals refine TR_nil ?_)
          | (refine TC_plain (id := 5) (by kernel_rfl) ?_; all_goals refine TR_pv0 PV_move rfl ?_; all_goals refine TR_pv0 (PV_nil rfl) rfl ?_; all_goals refine TR_pv0 (PV_fieldAddr rfl) rfl ?_; all_goals refine TR_load0 rfl 0 rfl rfl rfl ?_; all_goals refine TR_pv0 PV_move rfl ?_; all_goals refine TR_pv0 (PV_indexAddr hsl rfl (by omega)) rfl ?_; all_goals refine TR_loadAM0 rfl (.head _) 1 rfl cA rfl rfl ?_; all_goals refine TR_calld0 (haw) rfl rfl rfl rfl ?_; all_goals refine TR_pv0 PV_move rfl ?_; all_goals refine TR_pv0 PV_move rfl ?_; all_goals refine TR_pv0 (PV_nil rfl) rfl ?_; all_goals refine TR_pv0 (PV_fieldAddr rfl) rfl ?_; all_goals refine TR_load0 rfl 0 rfl rfl rfl ?_; all_goals refine TR_pv0 PV_move rfl ?_; all_goals refine TR_pv0 (PV_indexAddr hsl rfl (by omega)) rfl ?_; all_goals refine TR_pv0 (PV_fieldAddr rfl) rfl ?_; all_goals refine TR_load0 rfl 1 rfl c7 rfl ?_; all_goals refine TR_pv0 PV_move rfl ?_; all_goals refine TR_pv0 (PV_eql rfl rfl) rfl ?_; all_goals refine TR_pv0 (PV_pick_t rfl) rfl ?_; all_goals refine TR_nil ?_)
          | (refine TC_plain (id := 4) (by kernel_rfl) ?_; refine TR_pv0 PV_move rfl ?_; refine TR_pv0 (PV_add64 rfl rfl (by omega)) rfl ?_; refine TR_pv0 PV_assign rfl ?_; refine TR_nil ?_)
          | refine TC_skip ?_
          | refine TC_block ?_
          | refine TQ_blk ?_
          | (refine TC_cond rfl rfl (fun hq => ?_) (fun hq => ?_) <;> (try simp only [qs] at hq) <;> (try simp only [reduceCtorEq] at hq) <;> (try (exfalso; omega)) <;> (try contradiction))
        exact TQ_roundP (k + 1) hlt (by show X.l.length - (k + 1) < mm; omega) ⟨rfl, rfl, by rw [hn]; rfl, rfl, trivial⟩ (fun w hs => hs.le (Le.of_eq (by rw [hC])))
  · obtain rfl : k = X.l.length := by omega
    rw [List.take_of_length_le (by rw [qrecs_length]; omega)]
    repeat' first
      | refine TC_seq ?_
      | refine TQ_then ?_
      | (refine TC_plain (id := 3) (by kernel_rfl) ?_; all_goals refine TR_pv0 PV_move rfl ?_; all_goals refine TR_pv0 (PV_pne_nil rfl rfl) rfl ?_; all_goals refine TR_pv0 PV_move rfl ?_; all_goals refine TR_pv0 PV_move rfl ?_; all_goals refine TR_pv0 PV_move rfl ?_; all_goals refine TR_pv0 (PV_nil rfl) rfl ?_; all_goals refine TR_pv0 (PV_fieldAddr rfl) rfl ?_; all_goals refine TR_load0 rfl 0 rfl rfl rfl ?_; all_goals refine TR_pv0 (PV_len rfl) rfl ?_; all_goals refine TR_pv0 (PV_lss rfl rfl) rfl ?_; all_goals refine TR_pv0 (PV_pick_t rfl) rfl ?_; all_goals refine TR_nil ?_)
      | (refine TC_plain (id := 7) (by kernel_rfl) ?_; refine TR_pv0 PV_move rfl ?_; refine TR_pv0 PV_assign rfl ?_; refine TR_nil ?_)
      | refine TC_ret ?_
      | refine TC_exit ?_
      | refine TQ_then_exit ?_
      | refine TQ_blk_here ?_
      | (refine TC_cond rfl rfl (fun hq => ?_) (fun hq => ?_) <;> (try simp only [qs] at hq) <;> (try simp only [reduceCtorEq] at hq) <;> (try (exfalso; omega)) <;> (try contradiction))
    exact TQ_ret1e rfl rfl rfl ⟨rfl, rfl⟩ (fun a => by simp only [les, QF.seg]; omega)

theorem qlost_ct (b : Nat) (X : QF) (h : QfOk X) (hf : FrOk X.abs) : Ct Try.prog 33 [ptr b] [X.seg b]
    (fun v D => ∃ row : Row, v = row.val (lostOf X.recs).length ∧ D = [row.C, X.seg b] ∧ row.ok 22 1 (lostOf X.recs).length (u32s (lostOf X.recs))) := by
  have hlen := QfOk.len hf
  refine Ct_intro Try.func33 rfl (by simp only [Try.ntmps33, List.length_cons, List.length_nil]; omega) ?_
  intro w₀ R
  refine TC_le (L' := X.bk b :: X.w.C :: qsegs X.l :: R) (fun a => by simp only [les, QF.seg]; omega) ?_
  repeat' first
    | refine TC_seq ?_
    | refine TQ_then ?_
    | (refine TC_plain (id := 0) (by kernel_rfl) ?_; refine TR_pv0 PV_assign rfl ?_; refine TR_nil ?_)
    | (refine TC_plain (id := 1) (by kernel_rfl) ?_; refine TR_pv0 PV_assign rfl ?_; refine TR_nil ?_)
    | (refine TC_plain (id := 2) (by kernel_rfl) ?_; refine TR_pv0 PV_assign rfl ?_; refine TR_nil ?_)
    | refine TC_block ?_
  refine TC_loopP (X := Nat × Row) (fun s => X.bk b :: X.w.C :: s.2.C :: qsegs X.l :: R) (fun s => [(0, ptr b), (3, s.2.val (lostOf (X.recs.take s.1)).length), (4, i64 s.1)])
    (fun s => s.1 ≤ X.l.length ∧ s.2.ok 22 1 (lostOf (X.recs.take s.1)).length (u32s (lostOf (X.recs.take s.1)))) (fun s => X.l.length - s.1) (0, ⟨none, 0, []⟩) ⟨Nat.zero_le _, .nil⟩ ⟨rfl, rfl, rfl, trivial⟩ (fun w hs => hs.le (fun a => by simp only [les]; omega)) ?_
  rintro ⟨k, row⟩ σg mm hmm ⟨hk, hrow⟩
  dsimp only at hmm hk hrow ⊢
  have hll := lostOf_len (X.recs.take k)
  rw [List.length_take] at hll
  by_cases hlt : k < X.l.length
  · obtain ⟨x, hx⟩ : ∃ x, X.l[k]? = some x := ⟨_, List.getElem?_eq_getElem hlt⟩
    obtain ⟨rb, off, cells, ha, hC, hat⟩ := qat_of h.row (by omega)
    have hsl : Value.slice X.w.a X.l.length X.w.cap = .slice (some ⟨rb, off, none⟩) X.l.length X.w.cap := by rw [ha]
    have c0 : cells[off + (k : Int).toNat * 15 + 0 + 0]? = some (u32 x.r.d.tsn) := hat.cell hx (j := 0) (by omega) rfl
    have c12 : cells[off + (k : Int).toNat * 15 + 12]? = some (.bool x.r.lost) := hat.cell hx (j := 12) (by omega) rfl
    have c11 : cells[off + (k : Int).toNat * 15 + 11]? = some (.bool x.r.acked) := hat.cell hx (j := 11) (by omega) rfl
    have c13 : cells[off + (k : Int).toNat * 15 + 13]? = some (.bool x.r.gone) := hat.cell hx (j := 13) (by omega) rfl
    have hn := lostOf_next (qrecs_at hx)
    refine TC_le (L' := X.bk b :: [(rb, .cells cells.toArray 111 (0, 0))] :: row.C :: qsegs X.l :: R) (Le.of_eq (by rw [hC])) ?_
    by_cases hop : x.r.lost = true ∧ x.r.acked = false ∧ x.r.gone = false
    · obtain ⟨o1, o2, o3⟩ := hop
      have hoo : x.r.open_ = true := by rw [FRec.open_, o1, o2, o3]; rfl
      rw [o1] at c12; rw [o2] at c11; rw [o3] at c13
      rw [hoo, if_pos rfl] at hn
      repeat' first
        | refine TC_seq ?_
        | refine TQ_then ?_
        | (refine TC_plain (id := 3) (by kernel_rfl) ?_; all_goals refine TR_pv0 PV_move rfl ?_; all_goals refine TR_pv0 (PV_pne_nil rfl rfl) rfl ?_; all_goals refine TR_pv0 PV_move rfl ?_; all_goals refine TR_pv0 PV_move rfl ?_; all_goals refine TR_pv0 PV_move rfl ?_; all_goals refine TR_pv0 (PV_nil rfl) rfl ?_; all_goals refine TR_pv0 (PV_fieldAddr rfl) rfl ?_; all_goals refine TR_load0 rfl 0 rfl rfl rfl ?_; all_goals refine TR_pv0 (PV_len rfl) rfl ?_; all_goals refine TR_pv0 (PV_lss rfl rfl) rfl ?_; all_goals refine TR_pv0 (PV_pick_t rfl) rfl ?_; all_goals refine TR_nil ?_)
        | (refine TC_plain (id := 5) (by kernel_rfl) ?_; all_goals refine TR_pv0 PV_move rfl ?_; all_goals refine TR_pv0 (PV_nil rfl) rfl ?_; all_goals refine TR_pv0 (PV_fieldAddr rfl) rfl ?_; all_goals refine TR_load0 rfl 0 rfl rfl rfl ?_; all_goals refine TR_pv0 PV_move rfl ?_; all_goals refine TR_pv0 (PV_indexAddr hsl rfl (by omega)) rfl ?_; all_goals refine TR_pv0 (PV_fieldAddr rfl) rfl ?_; all_goals refine TR_load0 rfl 1 rfl c12 rfl ?_; all_goals refine TR_pv0 PV_move rfl ?_; all_goals refine TR_pv0 PV_move rfl ?_; all_goals refine TR_pv0 (PV_nil rfl) rfl ?_; all_goals refine TR_pv0 (PV_fieldAddr rfl) rfl ?_; all_goals refine TR_load0 rfl 0 rfl rfl rfl ?_; all_goals refine TR_pv0 PV_move rfl ?_; all_goals refine TR_pv0 (PV_indexAddr hsl rfl (by omega)) rfl ?_; all_goals refine TR_pv0 (PV_fieldAddr rfl) rfl ?_; all_goals refine TR_load0 rfl 1 rfl c11 rfl ?_; all_goals refine TR_pv0 (PV_not rfl) rfl ?_; all_goals refine TR_pv0 (PV_pick_t rfl) rfl ?_; all_goals refine TR_pv0 PV_move rfl ?_; all_goals refine TR_pv0 PV_move rfl ?_; all_goals refine TR_pv0 (PV_nil rfl) rfl ?_; all_goals refine TR_pv0 (PV_fieldAddr rfl) rfl ?_; all_goals refine TR_load0 rfl 0 rfl rfl rfl ?_; all_goals refine TR_pv0 PV_move rfl ?_; all_goals refine TR_pv0 (PV_indexAddr hsl rfl (by omega)) rfl ?_; all_goals refine TR_pv0 (PV_fieldAddr rfl) rfl ?_; all_goals refine TR_load0 rfl 1 rfl c13 rfl ?_; all_goals refine TR_pv0 (PV_not rfl) rfl ?_; all_goals refine TR_pv0 (PV_pick_t rfl) rfl ?_; all_goals refine TR_nil ?_)
        | (refine TC_plain (id := 6) (by kernel_rfl) ?_; refine TR_pv0 PV_move rfl ?_; refine TR_pv0 PV_move rfl ?_; refine TR_pv0 (PV_nil rfl) rfl ?_; refine TR_pv0 (PV_fieldAddr rfl) rfl ?_; refine TR_load0 rfl 0 rfl rfl rfl ?_; refine TR_pv0 PV_move rfl ?_; refine TR_pv0 (PV_indexAddr hsl rfl (by omega)) rfl ?_; refine TR_pv0 (PV_fieldAddr rfl) rfl ?_; refine TR_pv0 (PV_fieldAddr rfl) rfl ?_; refine TR_load0 rfl 1 rfl c0 rfl ?_; (refine TR_buildSlice (.inl rfl) rfl rfl rfl rfl ?_; intro q); (refine TR_appendP (.inl rfl) hrow rfl rfl (.cons (.there (.there (.there .here))) .nil) (src_at (m := 1) 0 rfl rfl) rfl rfl (by omega) rfl ?_; intro a' cap' C' hS); refine TR_pv0 PV_assign rfl ?_; refine TR_nil ?_)
        | (refine TC_plain (id := 4) (by kernel_rfl) ?_; refine TR_pv0 PV_move rfl ?_; refine TR_pv0 (PV_add64 rfl rfl (by omega)) rfl ?_; refine TR_pv0 PV_assign rfl ?_; refine TR_nil ?_)
        | refine TC_cond_t rfl rfl ?_
        | refine TC_skip ?_
        | refine TC_block ?_
        | refine TQ_blk ?_
        | (refine TC_cond rfl rfl (fun hq => ?_) (fun hq => ?_) <;> (try simp only [qs] at hq) <;> (try simp only [reduceCtorEq] at hq) <;> (try (exfalso; omega)) <;> (try contradiction))
      have e3 : Value.slice a' ((lostOf (X.recs.take k)).length + 1) cap' = Value.slice a' (lostOf (X.recs.take (k + 1))).length cap' := by rw [hn, List.length_append]; rfl
      have e4 : Sl 22 1 a' (lostOf (X.recs.take (k + 1))).length cap' C' (u32s (lostOf (X.recs.take (k + 1)))) := by rw [hn, List.length_append, u32s, List.map_append]; exact hS
      refine TQ_roundP (k + 1, ⟨a', cap', C'⟩) ⟨hlt, e4⟩ (by show X.l.length - (k + 1) < mm; omega) ⟨rfl, e3, rfl, trivial⟩ (fun w hs => ?_)
      · have hs2 : St w₀ w (C' :: blk q 22 [u32 x.r.d.tsn] :: X.bk b :: [(rb, .cells cells.toArray 111 (0, 0))] :: qsegs X.l :: R) := hs
        exact hs2.le (fun a => by simp only [les, hC]; omega)
    · have hoo : x.r.open_ = false := by
        rw [FRec.open_]
        cases h1 : x.r.lost <;> cases h2 : x.r.acked <;> cases h3 : x.r.gone <;> simp_all
      rw [hoo] at hn
      simp only [Bool.false_eq_true, if_false, List.append_nil] at hn
      cases h1 : x.r.lost with
      | false =>
        rw [h1] at c12
        repeat' first
          | refine TC_seq ?_
          | refine TQ_then ?_
          | (refine TC_plain (id := 3) (by kernel_rfl) ?_; all_goals refine TR_pv0 PV_move rfl ?_; all_goals refine TR_pv0 (PV_pne_nil rfl rfl) rfl ?_; all_goals refine TR_pv0 PV_move rfl ?_; all_goals refine TR_pv0 PV_move rfl ?_; all_goals refine TR_pv0 PV_move rfl ?_; all_goals refine TR_pv0 (PV_nil rfl) rfl ?_; all_goals refine TR_pv0 (PV_fieldAddr rfl) rfl ?_; all_goals refine TR_load0 rfl 0 rfl rfl rfl ?_; all_goals refine TR_pv0 (PV_len rfl) rfl ?_; all_goals refine TR_pv0 (PV_lss rfl rfl) rfl ?_; all_goals refine TR_pv0 (PV_pick_t rfl) rfl ?_; all_goals refine TR_nil ?_)
          | (refine TC_plain (id := 5) (by kernel_rfl) ?_; all_goals refine TR_pv0 PV_move rfl ?_; all_goals refine TR_pv0 (PV_nil rfl) rfl ?_; all_goals refine TR_pv0 (PV_fieldAddr rfl) rfl ?_; all_goals refine TR_load0 rfl 0 rfl rfl rfl ?_; all_goals refine TR_pv0 PV_move rfl ?_; all_goals refine TR_pv0 (PV_indexAddr hsl rfl (by omega)) rfl ?_; all_goals refine TR_pv0 (PV_fieldAddr rfl) rfl ?_; all_goals refine TR_load0 rfl 1 rfl c12 rfl ?_; all_goals refine TR_pv0 PV_move rfl ?_; all_goals refine TR_skip0 rfl ?_; all_goals refine TR_skip0 rfl ?_; all_goals refine TR_skip0 rfl ?_; all_goals refine TR_skip0 rfl ?_; all_goals refine TR_skip0 rfl ?_; all_goals refine TR_skip0 rfl ?_; all_goals refine TR_skip0 rfl ?_; all_goals refine TR_skip0 rfl ?_; all_goals refine TR_skip0 rfl ?_; all_goals refine TR_pv0 (PV_pick_f rfl) rfl ?_; all_goals refine TR_pv0 PV_move rfl ?_; all_goals refine TR_skip0 rfl ?_; all_goals refine TR_skip0 rfl ?_; all_goals refine TR_skip0 rfl ?_; all_goals refine TR_skip0 rfl ?_; all_goals refine TR_skip0 rfl ?_; all_goals refine TR_skip0 rfl ?_; all_goals refine TR_skip0 rfl ?_; all_goals refine TR_skip0 rfl ?_; all_goals refine TR_skip0 rfl ?_; all_goals refine TR_pv0 (PV_pick_f rfl) rfl ?_; all_goals refine TR_nil ?_)
          | (refine TC_plain (id := 4) (by kernel_rfl) ?_; refine TR_pv0 PV_move rfl ?_; refine TR_pv0 (PV_add64 rfl rfl (by omega)) rfl ?_; refine TR_pv0 PV_assign rfl ?_; refine TR_nil ?_)
          | refine TC_cond_f rfl rfl ?_
          | refine TC_skip ?_
          | refine TC_block ?_
          | refine TQ_blk ?_
          | (refine TC_cond rfl rfl (fun hq => ?_) (fun hq => ?_) <;> (try simp only [qs] at hq) <;> (try simp only [reduceCtorEq] at hq) <;> (try (exfalso; omega)) <;> (try contradiction))
        exact TQ_roundP (k + 1, row) ⟨hlt, by show Sl _ _ _ _ _ _ _; rw [hn]; exact hrow⟩ (by show X.l.length - (k + 1) < mm; omega) ⟨rfl, by rw [hn]; rfl, rfl, trivial⟩ (fun w hs => hs.le (Le.of_eq (by rw [hC])))
      | true =>
        rw [h1] at c12
        cases h2 : x.r.acked with
        | true =>
          rw [h2] at c11
          repeat' first
            | refine TC_seq ?_
            | refine TQ_then ?_
            | (refine TC_plain (id := 3) (by kernel_rfl) ?_; all_goals refine TR_pv0 PV_move rfl ?_; all_goals refine TR_pv0 (PV_pne_nil rfl rfl) rfl ?_; all_goals refine TR_pv0 PV_move rfl ?_; all_goals refine TR_pv0 PV_move rfl ?_; all_goals refine TR_pv0 PV_move rfl ?_; all_goals refine TR_pv0 (PV_nil rfl) rfl ?_; all_goals refine TR_pv0 (PV_fieldAddr rfl) rfl ?_; all_goals refine TR_load0 rfl 0 rfl rfl rfl ?_; all_goals refine TR_pv0 (PV_len rfl) rfl ?_; all_goals refine TR_pv0 (PV_lss rfl rfl) rfl ?_; all_goals refine TR_pv0 (PV_pick_t rfl) rfl ?_; all_goals refine TR_nil ?_)
            | (refine TC_plain (id := 5) (by kernel_rfl) ?_; all_goals refine TR_pv0 PV_move rfl ?_; all_goals refine TR_pv0 (PV_nil rfl) rfl ?_; all_goals refine TR_pv0 (PV_fieldAddr rfl) rfl ?_; all_goals refine TR_load0 rfl 0 rfl rfl rfl ?_; all_goals refine TR_pv0 PV_move rfl ?_; all_goals refine TR_pv0 (PV_indexAddr hsl rfl (by omega)) rfl ?_; all_goals refine TR_pv0 (PV_fieldAddr rfl) rfl ?_; all_goals refine TR_load0 rfl 1 rfl c12 rfl ?_; all_goals refine TR_pv0 PV_move rfl ?_; all_goals refine TR_pv0 PV_move rfl ?_; all_goals refine TR_pv0 (PV_nil rfl) rfl ?_; all_goals refine TR_pv0 (PV_fieldAddr rfl) rfl ?_; all_goals refine TR_load0 rfl 0 rfl rfl rfl ?_; all_goals refine TR_pv0 PV_move rfl ?_; all_goals refine TR_pv0 (PV_indexAddr hsl rfl (by omega)) rfl ?_; all_goals refine TR_pv0 (PV_fieldAddr rfl) rfl ?_; all_goals refine TR_load0 rfl 1 rfl c11 rfl ?_; all_goals refine TR_pv0 (PV_not rfl) rfl ?_; all_goals refine TR_pv0 (PV_pick_t rfl) rfl ?_; all_goals refine TR_pv0 PV_move rfl ?_; all_goals refine TR_skip0 rfl ?_; all_goals refine TR_skip0 rfl ?_; all_goals refine TR_skip0 rfl ?_; all_goals refine TR_skip0 rfl ?_; all_goals refine TR_skip0 rfl ?_; all_goals refine TR_skip0 rfl ?_; all_goals refine TR_skip0 rfl ?_; all_goals refine TR_skip0 rfl ?_; all_goals refine TR_skip0 rfl ?_; all_goals refine TR_pv0 (PV_pick_f rfl) rfl ?_; all_goals refine TR_nil ?_)
            | (refine TC_plain (id := 4) (by kernel_rfl) ?_; refine TR_pv0 PV_move rfl ?_; refine TR_pv0 (PV_add64 rfl rfl (by omega)) rfl ?_; refine TR_pv0 PV_assign rfl ?_; refine TR_nil ?_)
            | refine TC_cond_f rfl rfl ?_
            | refine TC_skip ?_
            | refine TC_block ?_
            | refine TQ_blk ?_
            | (refine TC_cond rfl rfl (fun hq => ?_) (fun hq => ?_) <;> (try simp only [qs] at hq) <;> (try simp only [reduceCtorEq] at hq) <;> (try (exfalso; omega)) <;> (try contradiction))
          exact TQ_roundP (k + 1, row) ⟨hlt, by show Sl _ _ _ _ _ _ _; rw [hn]; exact hrow⟩ (by show X.l.length - (k + 1) < mm; omega) ⟨rfl, by rw [hn]; rfl, rfl, trivial⟩ (fun w hs => hs.le (Le.of_eq (by rw [hC])))
        | false =>
          rw [h2] at c11
          have h3 : x.r.gone = true := by cases h3 : x.r.gone with | true => rfl | false => exact absurd ⟨h1, h2, h3⟩ hop
          rw [h3] at c13
          repeat' first
            | refine TC_seq ?_
            | refine TQ_then ?_
            | (refine TC_plain (id := 3) (by kernel_rfl) ?_; all_goals refine TR_pv0 PV_move rfl ?_; all_goals refine TR_pv0 (PV_pne_nil rfl rfl) rfl ?_; all_goals refine TR_pv0 PV_move rfl ?_; all_goals refine TR_pv0 PV_move rfl ?_; all_goals refine TR_pv0 PV_move rfl ?_; all_goals refine TR_pv0 (PV_nil rfl) rfl ?_; all_goals refine TR_pv0 (PV_fieldAddr rfl) rfl ?_; all_goals refine TR_load0 rfl 0 rfl rfl rfl ?_; all_goals refine TR_pv0 (PV_len rfl) rfl ?_; all_goals refine TR_pv0 (PV_lss rfl rfl) rfl ?_; all_goals refine TR_pv0 (PV_pick_t rfl) rfl ?_; all_goals refine TR_nil ?_)
            | (refine TC_plain (id := 5) (by kernel_rfl) ?_; all_goals refine TR_pv0 PV_move rfl ?_; all_goals refine TR_pv0 (PV_nil rfl) rfl ?_; all_goals refine TR_pv0 (PV_fieldAddr rfl) rfl ?_; all_goals refine TR_load0 rfl 0 rfl rfl rfl ?_; all_goals refine TR_pv0 PV_move rfl ?_; all_goals refine TR_pv0 (PV_indexAddr hsl rfl (by omega)) rfl ?_; all_goals refine TR_pv0 (PV_fieldAddr rfl) rfl ?_; all_goals refine TR_load0 rfl 1 rfl c12 rfl ?_; all_goals refine TR_pv0 PV_move rfl ?_; all_goals refine TR_pv0 PV_move rfl ?_; all_goals refine TR_pv0 (PV_nil rfl) rfl ?_; all_goals refine TR_pv0 (PV_fieldAddr rfl) rfl ?_; all_goals refine TR_load0 rfl 0 rfl rfl rfl ?_; all_goals refine TR_pv0 PV_move rfl ?_; all_goals refine TR_pv0 (PV_indexAddr hsl rfl (by omega)) rfl ?_; all_goals refine TR_pv0 (PV_fieldAddr rfl) rfl ?_; all_goals refine TR_load0 rfl 1 rfl c11 rfl ?_; all_goals refine TR_pv0 (PV_not rfl) rfl ?_; all_goals refine TR_pv0 (PV_pick_t rfl) rfl ?_; all_goals refine TR_pv0 PV_move rfl ?_; all_goals refine TR_pv0 PV_move rfl ?_; all_goals refine TR_pv0 (PV_nil rfl) rfl ?_; all_goals refine TR_pv0 (PV_fieldAddr rfl) rfl ?_; all_goals refine TR_load0 rfl 0 rfl rfl rfl ?_; all_goals refine TR_pv0 PV_move rfl ?_; all_goals refine TR_pv0 (PV_indexAddr hsl rfl (by omega)) rfl ?_; all_goals refine TR_pv0 (PV_fieldAddr rfl) rfl ?_; all_goals refine TR_load0 rfl 1 rfl c13 rfl ?_; all_goals refine TR_pv0 (PV_not rfl) rfl ?_; all_goals refine TR_pv0 (PV_pick_t rfl) rfl ?_; all_goals refine TR_nil ?_)
            | (refine TC_plain (id := 4) (by kernel_rfl) ?_; refine TR_pv0 PV_move rfl ?_; refine TR_pv0 (PV_add64 rfl rfl (by omega)) rfl ?_; refine TR_pv0 PV_assign rfl ?_; refine TR_nil ?_)
            | refine TC_cond_f rfl rfl ?_
            | refine TC_skip ?_
            | refine TC_block ?_
            | refine TQ_blk ?_
            | (refine TC_cond rfl rfl (fun hq => ?_) (fun hq => ?_) <;> (try simp only [qs] at hq) <;> (try simp only [reduceCtorEq] at hq) <;> (try (exfalso; omega)) <;> (try contradiction))
          exact TQ_roundP (k + 1, row) ⟨hlt, by show Sl _ _ _ _ _ _ _; rw [hn]; exact hrow⟩ (by show X.l.length - (k + 1) < mm; omega) ⟨rfl, by rw [hn]; rfl, rfl, trivial⟩ (fun w hs => hs.le (Le.of_eq (by rw [hC])))
  · obtain rfl : k = X.l.length := by omega
    rw [List.take_of_length_le (by rw [qrecs_length]; omega)] at hrow ⊢
    repeat' first
      | refine TC_seq ?_
      | refine TQ_then ?_
      | (refine TC_plain (id := 3) (by kernel_rfl) ?_; all_goals refine TR_pv0 PV_move rfl ?_; all_goals refine TR_pv0 (PV_pne_nil rfl rfl) rfl ?_; all_goals refine TR_pv0 PV_move rfl ?_; all_goals refine TR_pv0 PV_move rfl ?_; all_goals refine TR_pv0 PV_move rfl ?_; all_goals refine TR_pv0 (PV_nil rfl) rfl ?_; all_goals refine TR_pv0 (PV_fieldAddr rfl) rfl ?_; all_goals refine TR_load0 rfl 0 rfl rfl rfl ?_; all_goals refine TR_pv0 (PV_len rfl) rfl ?_; all_goals refine TR_pv0 (PV_lss rfl rfl) rfl ?_; all_goals refine TR_pv0 (PV_pick_t rfl) rfl ?_; all_goals refine TR_nil ?_)
      | (refine TC_plain (id := 7) (by kernel_rfl) ?_; refine TR_pv0 PV_move rfl ?_; refine TR_pv0 PV_assign rfl ?_; refine TR_nil ?_)
      | refine TC_ret ?_
      | refine TC_exit ?_
      | refine TQ_then_exit ?_
      | refine TQ_blk_here ?_
      | (refine TC_cond rfl rfl (fun hq => ?_) (fun hq => ?_) <;> (try simp only [qs] at hq) <;> (try simp only [reduceCtorEq] at hq) <;> (try (exfalso; omega)) <;> (try contradiction))
    exact TQ_ret1e (v := row.val (lostOf X.recs).length) rfl rfl rfl ⟨row, rfl, rfl, hrow⟩ (fun a => by simp only [les, QF.seg]; omega)

def Flt.place (F : Flt) (tsn : Int) : Int := match F.idx tsn with
  | none => -1
  | some k => k
theorem qatb_cd (b : Nat) (X : QF) (hf : FrOk X.abs) (tsn : Int) : Cd Try.prog 63 [ptr b, u32 tsn] [X.bk b] (i64 (X.abs.place tsn)) [X.bk b] := by
  have hlen := QfOk.len hf
  by_cases hc : 1 ≤ (tsn - X.cum) % 4294967296 ∧ (tsn - X.cum) % 4294967296 ≤ X.l.length
  · have e : X.abs.place tsn = (tsn - X.cum) % 4294967296 - 1 := by
      have e1 : X.abs.idx tsn = some ((tsn - X.cum) % 4294967296 - 1).toNat := if_pos (by rw [show X.abs.l.length = X.l.length from qrecs_length X]; exact hc)
      rw [Flt.place, e1]
      show ((((tsn - X.cum) % 4294967296 - 1).toNat : Nat) : Int) = _
      omega
    rw [e]
    refine Ct_intro Try.func63 rfl (by simp only [Try.ntmps63, List.length_cons, List.length_nil]; omega) ?_
    intro w₀ R
    repeat' first
      | refine TC_seq ?_
      | refine TQ_then ?_
      | (refine TC_plain (id := 0) (by kernel_rfl) ?_; refine TR_pv0 PV_assign rfl ?_; refine TR_nil ?_)
      | (refine TC_plain (id := 1) (by kernel_rfl) ?_; refine TR_pv0 PV_move rfl ?_; refine TR_pv0 PV_move rfl ?_; refine TR_pv0 (PV_nil rfl) rfl ?_; refine TR_pv0 (PV_fieldAddr rfl) rfl ?_; refine TR_load0 rfl 0 rfl rfl rfl ?_; refine TR_pv0 (PV_sub32 rfl rfl) rfl ?_; refine TR_pv0 PV_assign rfl ?_; refine TR_nil ?_)
      | (refine TC_plain (id := 2) (by kernel_rfl) ?_; all_goals refine TR_pv0 PV_move rfl ?_; all_goals refine TR_pv0 (PV_lss rfl rfl) rfl ?_; all_goals refine TR_pv0 PV_move rfl ?_; all_goals (refine TR_gsplit rfl rfl rfl (fun hq => ?_) (fun hq => ?_) <;> (try simp only [qs] at hq) <;> (try simp only [reduceCtorEq] at hq) <;> (try (exfalso; omega)) <;> (try contradiction) <;> refine TR_pv0 PV_move rfl ?_); all_goals refine TR_pv0 PV_move rfl ?_; all_goals refine TR_pv0 (PV_nil rfl) rfl ?_; all_goals refine TR_pv0 (PV_fieldAddr rfl) rfl ?_; all_goals refine TR_load0 rfl 0 rfl rfl rfl ?_; all_goals refine TR_pv0 (PV_len rfl) rfl ?_; all_goals refine TR_pv0 (PV_conv32 rfl) rfl ?_; all_goals refine TR_pv0 (PV_gtr rfl rfl) rfl ?_; all_goals refine TR_pv0 (PV_pick_f rfl) rfl ?_; all_goals refine TR_nil ?_)
      | (refine TC_plain (id := 4) (by kernel_rfl) ?_; refine TR_pv0 PV_move rfl ?_; refine TR_pv0 (PV_conv64 rfl (by omega)) rfl ?_; refine TR_pv0 (PV_sub64 rfl rfl (by omega)) rfl ?_; refine TR_pv0 PV_assign rfl ?_; refine TR_nil ?_)
      | refine TC_skip ?_
      | refine TC_ret ?_
      | (refine TC_cond rfl rfl (fun hq => ?_) (fun hq => ?_) <;> (try simp only [qs] at hq) <;> (try simp only [reduceCtorEq] at hq) <;> (try (exfalso; omega)) <;> (try contradiction))
    exact TQ_ret1e rfl rfl rfl ⟨rfl, rfl⟩ (fun a => by simp only [les]; omega)
  · have e : X.abs.place tsn = -1 := by
      have e1 : X.abs.idx tsn = none := if_neg (by rw [show X.abs.l.length = X.l.length from qrecs_length X]; exact hc)
      rw [Flt.place, e1]
    rw [e]
    refine Ct_intro Try.func63 rfl (by simp only [Try.ntmps63, List.length_cons, List.length_nil]; omega) ?_
    intro w₀ R
    repeat' first
      | refine TC_seq ?_
      | refine TQ_then ?_
      | (refine TC_plain (id := 0) (by kernel_rfl) ?_; refine TR_pv0 PV_assign rfl ?_; refine TR_nil ?_)
      | (refine TC_plain (id := 1) (by kernel_rfl) ?_; refine TR_pv0 PV_move rfl ?_; refine TR_pv0 PV_move rfl ?_; refine TR_pv0 (PV_nil rfl) rfl ?_; refine TR_pv0 (PV_fieldAddr rfl) rfl ?_; refine TR_load0 rfl 0 rfl rfl rfl ?_; refine TR_pv0 (PV_sub32 rfl rfl) rfl ?_; refine TR_pv0 PV_assign rfl ?_; refine TR_nil ?_)
      | (refine TC_plain (id := 2) (by kernel_rfl) ?_; all_goals refine TR_pv0 PV_move rfl ?_; all_goals refine TR_pv0 (PV_lss rfl rfl) rfl ?_; all_goals refine TR_pv0 PV_move rfl ?_; all_goals (refine TR_gsplit rfl rfl rfl (fun hq => ?_) (fun hq => ?_) <;> (try simp only [qs] at hq) <;> (try simp only [reduceCtorEq] at hq) <;> (try (exfalso; omega)) <;> (try contradiction) <;> (first | refine TR_pv0 PV_move rfl ?_ | refine TR_skip0 rfl ?_)); all_goals (first | refine TR_pv0 PV_move rfl ?_ | refine TR_skip0 rfl ?_); all_goals (first | refine TR_pv0 (PV_nil rfl) rfl ?_ | refine TR_skip0 rfl ?_); all_goals (first | refine TR_pv0 (PV_fieldAddr rfl) rfl ?_ | refine TR_skip0 rfl ?_); all_goals (first | refine TR_load0 rfl 0 rfl rfl rfl ?_ | refine TR_skip0 rfl ?_); all_goals (first | refine TR_pv0 (PV_len rfl) rfl ?_ | refine TR_skip0 rfl ?_); all_goals (first | refine TR_pv0 (PV_conv32 rfl) rfl ?_ | refine TR_skip0 rfl ?_); all_goals (first | refine TR_pv0 (PV_gtr rfl rfl) rfl ?_ | refine TR_skip0 rfl ?_); all_goals (first | refine TR_pv0 (PV_pick_t rfl) rfl ?_ | refine TR_pv0 (PV_pick_f rfl) rfl ?_); all_goals refine TR_nil ?_)
      | (refine TC_plain (id := 3) (by kernel_rfl) ?_; refine TR_pv0 PV_assign rfl ?_; refine TR_nil ?_)
      | refine TC_cond_t rfl rfl ?_
      | refine TC_ret ?_
      | refine TQ_then_ret ?_
      | (refine TC_cond rfl rfl (fun hq => ?_) (fun hq => ?_) <;> (try simp only [qs] at hq) <;> (try simp only [reduceCtorEq] at hq) <;> (try (exfalso; omega)) <;> (try contradiction))
    all_goals exact TQ_ret1e rfl rfl rfl ⟨rfl, rfl⟩ (fun a => by simp only [les]; omega)
theorem qat_cd (b : Nat) (X : QF) (hf : FrOk X.abs) (tsn : Int) : Cd Try.prog 63 [ptr b, u32 tsn] [X.seg b] (i64 (X.abs.place tsn)) [X.seg b] :=
  Cd.within (E := [X.w.C ++ qsegs X.l]) (qatb_cd b X hf tsn) (fun a => by simp only [les, QF.seg]; omega) (fun a => by simp only [les, QF.seg]; omega)
end Go.Proofs.Ytonfkkdahlboiaa
