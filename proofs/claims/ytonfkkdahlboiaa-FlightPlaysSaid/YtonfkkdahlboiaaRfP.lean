/- FlightPlays: the walk: the program's flight and the reference's, side by side. -/
import Derived.Test.YtonfkkdahlboiaaRfM
namespace Go.Proofs.Ytonfkkdahlboiaa
open Go.RowKit
set_option maxHeartbeats 8000000
set_option maxRecDepth 10000

instance : TAgg Try.prog 63 20 := ⟨by kernel_rfl, by kernel_rfl⟩
instance : TAgg Try.prog 62 5 := ⟨by kernel_rfl, by kernel_rfl⟩
theorem eqTp (p : Tp) (d : Nat) (w : World) : (Op.equalIn (d + 2) 62 (.agg p.cells.toArray) (.agg p.cells.toArray)).run Try.prog w = .ok true w := by
  refine eq_struct [("Acked", 3, 0), ("Pseudo", 4, 1), ("Fast", 4, 2), ("At", 2, 3), ("Some", 4, 4)] (by kernel_rfl) (by kernel_rfl) (by kernel_rfl) (by decide) (fun x hx => ?_) w
  simp only [List.mem_cons, List.not_mem_nil, or_false] at hx
  rcases hx with rfl | rfl | rfl | rfl | rfl
  · exact self_int (k := .i64) (by kernel_rfl) rfl
  · exact self_bool (by kernel_rfl) rfl
  · exact self_bool (by kernel_rfl) rfl
  · exact self_int (k := .i64) (by kernel_rfl) rfl
  · exact self_bool (by kernel_rfl) rfl
theorem eqTps (t : Nat → Tp) (d : Nat) (w : World) :
    (Op.equalIn (d + 3) 63 (.agg ((t 0).cells ++ ((t 1).cells ++ ((t 2).cells ++ (t 3).cells))).toArray) (.agg ((t 0).cells ++ ((t 1).cells ++ ((t 2).cells ++ (t 3).cells))).toArray)).run Try.prog w = .ok true w := by
  have hc : Try.prog.cellsOf 62 = 5 := by kernel_rfl
  have hi : ∃ i, Try.prog.info? 62 = some i := by
    have : (Try.prog.info? 62).isSome = true := by kernel_rfl
    exact Option.isSome_iff_exists.1 this
  obtain ⟨i, hi⟩ := hi
  rw [run_equalIn_array w (d + 2) (t := 63) (e := 62) (n := 4) _ _ (by kernel_rfl) hi, hc]
  refine run_eqItemsSelf _ _ _ _ _ (fun j hj => ?_) w
  have hj := List.mem_range.1 hj
  match j, hj with
  | 0, _ => exact self_agg (s := 5) rfl (eqTp (t 0) d)
  | 1, _ => exact self_agg (s := 5) rfl (eqTp (t 1) d)
  | 2, _ => exact self_agg (s := 5) rfl (eqTp (t 2) d)
  | 3, _ => exact self_agg (s := 5) rfl (eqTp (t 3) d)
theorem eqTold (T : Told) (w : World) : (Op.equalIn 10000 65 (.agg T.cells.toArray) (.agg T.cells.toArray)).run Try.prog w = .ok true w := by
  refine eq_struct (d := 9999) [("Freed", 3, 0), ("Whole", 4, 1), ("Paths", 63, 2)] (by kernel_rfl) (by kernel_rfl) (by kernel_rfl) (by decide) (fun x hx => ?_) w
  simp only [List.mem_cons, List.not_mem_nil, or_false] at hx
  rcases hx with rfl | rfl | rfl
  · exact self_int (d := 9998) (k := .i64) (by kernel_rfl) rfl
  · exact self_bool (d := 9998) (by kernel_rfl) rfl
  · exact self_agg (s := 20) rfl (eqTps T.t 9996)

theorem ans_told (A : Ans) (w : Row) : ((A.cells w).drop (0 + 10)).take 22 = A.t.cells := by
  have hl : A.t.cells.length = 22 := rfl
  show A.t.cells.take 22 = _
  rw [List.take_of_length_le (by rw [hl]; omega)]
theorem qnewX_ok {c paths : Int} : QfOk ⟨[], ⟨none, 0, []⟩, c, paths⟩ := ⟨.nil, fun x hx => by cases hx⟩

theorem plays_pre (H : Seg) (paths c : Int) (a : Option Addr) (n cap : Nat) (ops : List LOp) (hc : 0 ≤ c ∧ c ≤ 4294967295) (hn : n ≤ 9223372036854775807)
    (ho : ∀ o ∈ ops, o.ok H) (hs : SliceAt H 13 a n (ops.map LOp.cells)) :
    Cd Try.prog 8 [i64 paths, u32 c, .slice a n cap] [H] (.bool true) [H] := by
  have hv := vast2_ct H a n cap ops hn ho hs
  have hl : ops.length = n := by simpa using hs.len
  subst hl
  refine Ct_intro Try.func8 rfl (by simp only [Try.ntmps8, List.length_cons, List.length_nil]; omega) ?_
  intro w₀ R
  by_cases hp : 1 ≤ paths ∧ paths ≤ 4
  · repeat' first
    | refine TC_seq ?_
    | refine TQ_then ?_
    | (refine TC_plain (id := 0) (by kernel_rfl) ?_; refine TR_pv0 PV_assign rfl ?_; refine TR_nil ?_)
    | (refine TC_plain (id := 1) (by kernel_rfl) ?_; refine TR_pv0 PV_move rfl ?_; (refine TR_call0 (hv) rfl rfl (.cons .here .nil) rfl ?_; rintro _ _ ⟨r, rfl, rfl, hr⟩); refine TR_nil ?_)
    | (refine TC_plain (id := 2) (by kernel_rfl) ?_; refine TR_calld0 (flWorks) rfl rfl rfl rfl ?_; refine TR_pv0 PV_assign rfl ?_; refine TR_nil ?_)
    | (refine TC_plain (id := 3) (by kernel_rfl) ?_; refine TR_pv0 PV_move rfl ?_; refine TR_pv0 PV_move rfl ?_; (refine TR_call0 (newF_ct paths c hp) rfl rfl .nil rfl ?_; rintro _ _ ⟨b, rfl, rfl⟩); refine TR_pv0 PV_move rfl ?_; refine TR_pv0 (PV_extract rfl rfl) rfl ?_; refine TR_pv0 (PV_extract rfl rfl) rfl ?_; refine TR_pv0 PV_assign rfl ?_; refine TR_pv0 PV_assign rfl ?_; refine TR_nil ?_)
    | (refine TC_plain (id := 4) (by kernel_rfl) ?_; refine TR_pv0 PV_move rfl ?_; refine TR_pv0 PV_move rfl ?_; (refine TR_calln (qnew_ct paths c hp) rfl rfl rfl ?_; intro q); refine TR_pv0 PV_move rfl ?_; refine TR_pv0 (PV_extract rfl rfl) rfl ?_; refine TR_pv0 (PV_extract rfl rfl) rfl ?_; refine TR_pv0 PV_assign rfl ?_; refine TR_pv0 PV_assign rfl ?_; refine TR_nil ?_)
    | (refine TC_plain (id := 5) (by kernel_rfl) ?_; all_goals refine TR_pv0 PV_move rfl ?_; all_goals refine TR_pv0 PV_move rfl ?_; all_goals refine TR_pv0 (PV_neq rfl rfl) rfl ?_; all_goals refine TR_pv0 PV_move rfl ?_; all_goals refine TR_pv0 PV_move rfl ?_; all_goals refine TR_pv0 (PV_peq_nil rfl rfl) rfl ?_; all_goals refine TR_pv0 PV_move rfl ?_; all_goals refine TR_pv0 (PV_peq_nil rfl rfl) rfl ?_; all_goals refine TR_pv0 (PV_bne rfl rfl) rfl ?_; all_goals refine TR_pv0 (PV_pick_f rfl) rfl ?_; all_goals refine TR_nil ?_)
    | (refine TC_plain (id := 7) (by kernel_rfl) ?_; refine TR_pv0 PV_move rfl ?_; refine TR_pv0 (PV_peq_nil rfl rfl) rfl ?_; refine TR_nil ?_)
    | (refine TC_plain (id := 9) (by kernel_rfl) ?_; refine TR_pv0 PV_assign rfl ?_; refine TR_nil ?_)
    | refine TC_cond_f rfl rfl ?_
    | refine TC_skip ?_
    | refine TC_ret ?_
    | refine TC_block ?_
    | refine TQ_then_ret ?_
    | (refine TC_cond rfl rfl (fun hq => ?_) (fun hq => ?_) <;> (try simp only [qs] at hq) <;> (try simp only [reduceCtorEq] at hq) <;> (try (exfalso; omega)) <;> (try contradiction))
    · exact TQ_ret1e (v := .bool true) rfl rfl rfl ⟨rfl, rfl⟩ (fun a => by simp only [les]; omega)
    have hfew := hr hq
    refine TC_loopP (X := Nat × FL × QF) (fun s => s.2.1.seg b :: s.2.2.seg q :: H :: R) (fun s => [(2, .slice a ops.length cap), (7, ptr b), (9, ptr q), (11, i64 s.1)])
      (fun s => s.1 ≤ ops.length ∧ FlOk s.2.1 ∧ QfOk s.2.2 ∧ s.2.2.abs = s.2.1.abs) (fun s => ops.length - s.1) (0, ⟨[], ⟨none, 0, []⟩, (c - 1) % 4294967296, paths⟩, ⟨[], ⟨none, 0, []⟩, (c - 1) % 4294967296, paths⟩)
      ⟨Nat.zero_le _, newX_ok ⟨by omega, by omega⟩ hp, qnewX_ok, rfl⟩ ⟨rfl, rfl, rfl, rfl, trivial⟩ (fun w hs => hs.le (fun a => by simp only [les]; omega)) ?_
    rintro ⟨i, X, Y⟩ σg mm hmm ⟨hi, hX, hY, hA⟩
    dsimp only at hmm hi hX hY hA ⊢
    by_cases hlt : i < ops.length
    · obtain ⟨o, hok⟩ : ∃ o, ops[i]? = some o := ⟨ops[i], List.getElem?_eq_getElem hlt⟩
      obtain ⟨bb, off, T, cs, fz, ha, hmem, htk⟩ := hs.at_ i o.cells (by rw [List.getElem?_map, hok]; rfl)
      have hosm := hfew.s o (List.mem_of_getElem? hok)
      have hcum : Y.cum = X.cum := congrArg Flt.cum hA
      have hfY : FrOk Y.abs := by rw [hA]; exact hX.fr
      have hdo := does_ct H b X hX o (ho o (List.mem_of_getElem? hok)) hosm X.cum
      have hme := meant_ct H q Y hY hfY o (ho o (List.mem_of_getElem? hok)) hosm X.cum
      have hqc := qcum_cd q Y
      rw [hcum] at hqc
      rw [hA] at hme
      revert hdo hme
      generalize X.abs.doA o X.cum = A
      generalize X.abs.doF o X.cum = F'
      intro hdo hme
      subst ha
      have htk' : (cs.drop (off + (i : Int).toNat * 13)).take 13 = o.cells := htk
      repeat' first
        | refine TC_seq ?_
        | refine TQ_then ?_
        | (refine TC_plain (id := 10) (by kernel_rfl) ?_; refine TR_pv0 PV_move rfl ?_; refine TR_pv0 PV_move rfl ?_; refine TR_pv0 (PV_len rfl) rfl ?_; refine TR_pv0 (PV_lss rfl rfl) rfl ?_; refine TR_nil ?_)
        | (refine TC_plain (id := 12) (by kernel_rfl) ?_; refine TR_pv0 PV_move rfl ?_; refine TR_calld1_1 (hqc) rfl rfl rfl rfl ?_; refine TR_pv0 PV_assign rfl ?_; refine TR_nil ?_)
        | (refine TC_plain (id := 13) (by kernel_rfl) ?_; refine TR_pv0 PV_move rfl ?_; refine TR_pv0 PV_move rfl ?_; refine TR_pv0 PV_move rfl ?_; refine TR_pv0 (PV_indexAddr rfl rfl (by omega)) rfl ?_; refine TR_loadAM0 rfl hmem 2 rfl htk' rfl rfl ?_; refine TR_pv0 PV_move rfl ?_; (refine TR_call0 (hdo) rfl rfl (.cons .here (.cons (.there .here) .nil)) rfl ?_; rintro _ _ ⟨w, X', rfl, rfl, hX', hA', hw⟩); (refine TR_alloc0 rfl ?_; intro ta); refine TR_storeA0_0 rfl rfl rfl rfl rfl rfl ?_; refine TR_nil ?_)
        | refine TC_skip ?_
        | refine TC_block ?_
        | (refine TC_cond rfl rfl (fun hq => ?_) (fun hq => ?_) <;> (try simp only [qs] at hq) <;> (try simp only [reduceCtorEq] at hq) <;> (try (exfalso; omega)) <;> (try contradiction))
      refine TC_slots [(2, .slice (some ⟨bb, off, none⟩) ops.length cap), (7, ptr b), (9, ptr q), (11, i64 i), (12, u32 X.cum), (13, ptr ta)] ⟨rfl, rfl, rfl, rfl, rfl, rfl, trivial⟩ fun σ1 => ?_
      refine TC_le (L' := asbk ta (A.cells w) :: Y.seg q :: H :: w.C :: X'.seg b :: R) (Le.trans (M := asbk ta (setAll zAns 0 (A.cells w)) :: w.C :: X'.seg b :: H :: Y.seg q :: R) (Le.refl _) (fun a => by simp only [les, cp_ans0]; omega)) ?_
      repeat' first
        | refine TC_seq ?_
        | refine TQ_then ?_
        | (refine TC_plain (id := 14) (by kernel_rfl) ?_; refine TR_pv0 PV_move rfl ?_; refine TR_pv0 PV_move rfl ?_; refine TR_pv0 PV_move rfl ?_; refine TR_pv0 (PV_indexAddr rfl rfl (by omega)) rfl ?_; refine TR_loadAM0 rfl hmem 2 rfl htk' rfl rfl ?_; refine TR_pv0 PV_move rfl ?_; (refine TR_call0 (hme) rfl rfl (.cons (.there .here) (.cons (.there .here) .nil)) rfl ?_; rintro _ _ ⟨w2, Y', rfl, rfl, hY', hB', hw2⟩); (refine TR_alloc0 rfl ?_; intro tb); refine TR_storeA0_0 rfl rfl rfl rfl rfl rfl ?_; refine TR_nil ?_)
      refine TC_slots [(2, .slice (some ⟨bb, off, none⟩) ops.length cap), (7, ptr b), (9, ptr q), (11, i64 i), (13, ptr ta), (14, ptr tb)] ⟨rfl, rfl, rfl, rfl, rfl, rfl, trivial⟩ fun σ2 => ?_
      refine TC_le (L' := asbk tb (A.cells w2) :: asbk ta (A.cells w) :: w.C :: w2.C :: X'.seg b :: Y'.seg q :: H :: R) (Le.trans (M := asbk tb (setAll zAns 0 (A.cells w2)) :: w2.C :: Y'.seg q :: H :: asbk ta (A.cells w) :: w.C :: X'.seg b :: R) (Le.refl _) (fun a => by simp only [les, cp_ans0]; omega)) ?_
      have hAB : Y'.abs = X'.abs := hB'.trans hA'.symm
      have hrec : Y'.recs = X'.recs := congrArg Flt.l hAB
      have hcum' : Y'.cum = X'.cum := congrArg Flt.cum hAB
      have hlen' : Y'.l.length = X'.l.length := by rw [← qrecs_length, hrec, recs_length]
      have hfY' : FrOk Y'.abs := by rw [hAB]; exact hX'.fr
      have q1 := qcum_cd q Y'
      rw [hcum'] at q1
      have q2 := qcount_cd q Y'
      rw [hlen'] at q2
      have q3 := qopen_cd q Y' hY' hfY'
      rw [hrec] at q3
      have q4 := qlost_ct q Y' hY' hfY'
      rw [hrec] at q4
      have hll := lostOf_len X'.recs
      rw [recs_length] at hll
      have hxl := hX'.len
      have e1 := ans_told A w
      have e2 := ans_told A w2
      have sd := sameD_cd A.d w w2 hw hw2
      repeat' first
        | refine TC_seq ?_
        | refine TQ_then ?_
        | (refine TC_plain (id := 15) (by kernel_rfl) ?_; all_goals refine TR_pv0 (PV_fieldAddr rfl) rfl ?_; all_goals refine TR_load0 rfl 1 rfl rfl rfl ?_; all_goals refine TR_pv0 (PV_fieldAddr rfl) rfl ?_; all_goals refine TR_load0 rfl 0 rfl rfl rfl ?_; all_goals refine TR_pv0 (PV_neq rfl rfl) rfl ?_; all_goals refine TR_pv0 PV_move rfl ?_; all_goals (refine TR_gsplit rfl rfl rfl (fun hq => ?_) (fun hq => ?_) <;> (try simp only [qs] at hq) <;> (try simp only [reduceCtorEq] at hq) <;> (try (exfalso; omega)) <;> (try contradiction) <;> refine TR_pv0 (PV_fieldAddr rfl) rfl ?_); all_goals refine TR_load0 rfl 1 rfl rfl rfl ?_; all_goals refine TR_pv0 (PV_fieldAddr rfl) rfl ?_; all_goals refine TR_load0 rfl 0 rfl rfl rfl ?_; all_goals refine TR_pv0 (PV_bne rfl rfl) rfl ?_; all_goals refine TR_pv0 (PV_pick_f rfl) rfl ?_; all_goals refine TR_pv0 PV_move rfl ?_; all_goals (refine TR_gsplit rfl rfl rfl (fun hq => ?_) (fun hq => ?_) <;> (try simp only [qs] at hq) <;> (try simp only [reduceCtorEq] at hq) <;> (try (exfalso; omega)) <;> (try contradiction) <;> refine TR_pv0 (PV_fieldAddr rfl) rfl ?_); all_goals refine TR_load0 rfl 1 rfl rfl rfl ?_; all_goals refine TR_pv0 (PV_fieldAddr rfl) rfl ?_; all_goals refine TR_load0 rfl 0 rfl rfl rfl ?_; all_goals refine TR_pv0 (PV_neq rfl rfl) rfl ?_; all_goals refine TR_pv0 (PV_pick_f rfl) rfl ?_; all_goals refine TR_pv0 PV_move rfl ?_; all_goals (refine TR_gsplit rfl rfl rfl (fun hq => ?_) (fun hq => ?_) <;> (try simp only [qs] at hq) <;> (try simp only [reduceCtorEq] at hq) <;> (try (exfalso; omega)) <;> (try contradiction) <;> refine TR_pv0 (PV_fieldAddr rfl) rfl ?_); all_goals refine TR_loadAM0 rfl (.head _) 1 rfl e1 rfl rfl ?_; all_goals refine TR_pv0 (PV_fieldAddr rfl) rfl ?_; all_goals refine TR_loadAM0 rfl (.head _) 0 rfl e2 rfl rfl ?_; all_goals refine TR_pv0 (PV_neSelf rfl rfl (by kernel_rfl) (eqTold A.t)) rfl ?_; all_goals refine TR_pv0 (PV_pick_f rfl) rfl ?_; all_goals refine TR_pv0 PV_move rfl ?_; all_goals refine TR_pv0 (PV_fieldAddr rfl) rfl ?_; all_goals refine TR_loadA0 rfl 1 rfl rfl rfl ?_; all_goals refine TR_pv0 (PV_fieldAddr rfl) rfl ?_; all_goals refine TR_loadA0 rfl 0 rfl rfl rfl ?_; all_goals refine TR_calld2_2_3 (sd) rfl rfl rfl rfl ?_; all_goals refine TR_pv0 (PV_not rfl) rfl ?_; all_goals refine TR_pv0 (PV_pick_f rfl) rfl ?_; all_goals refine TR_pv0 PV_move rfl ?_; all_goals refine TR_pv0 PV_move rfl ?_; all_goals refine TR_calld1_4 (cumF_cd b X') rfl rfl rfl rfl ?_; all_goals refine TR_pv0 PV_move rfl ?_; all_goals refine TR_calld1_5 (q1) rfl rfl rfl rfl ?_; all_goals refine TR_pv0 (PV_neq rfl rfl) rfl ?_; all_goals refine TR_pv0 (PV_pick_f rfl) rfl ?_; all_goals refine TR_pv0 PV_move rfl ?_; all_goals (refine TR_gsplit rfl rfl rfl (fun hq => ?_) (fun hq => ?_) <;> (try simp only [qs] at hq) <;> (try simp only [reduceCtorEq] at hq) <;> (try (exfalso; omega)) <;> (try contradiction) <;> refine TR_pv0 PV_move rfl ?_); all_goals refine TR_calld1_4 (countF_cd b X') rfl rfl rfl rfl ?_; all_goals refine TR_pv0 PV_move rfl ?_; all_goals refine TR_calld1_5 (q2) rfl rfl rfl rfl ?_; all_goals refine TR_pv0 (PV_neq rfl rfl) rfl ?_; all_goals refine TR_pv0 (PV_pick_f rfl) rfl ?_; all_goals refine TR_pv0 PV_move rfl ?_; all_goals (refine TR_gsplit rfl rfl rfl (fun hq => ?_) (fun hq => ?_) <;> (try simp only [qs] at hq) <;> (try simp only [reduceCtorEq] at hq) <;> (try (exfalso; omega)) <;> (try contradiction) <;> refine TR_pv0 PV_move rfl ?_); all_goals refine TR_calld1_4 (openF_cd b X' hX') rfl rfl rfl rfl ?_; all_goals refine TR_pv0 PV_move rfl ?_; all_goals refine TR_calld1_5 (q3) rfl rfl rfl rfl ?_; all_goals refine TR_pv0 (PV_neq rfl rfl) rfl ?_; all_goals refine TR_pv0 (PV_pick_f rfl) rfl ?_; all_goals refine TR_pv0 PV_move rfl ?_; all_goals (refine TR_gsplit rfl rfl rfl (fun hq => ?_) (fun hq => ?_) <;> (try simp only [qs] at hq) <;> (try simp only [reduceCtorEq] at hq) <;> (try (exfalso; omega)) <;> (try contradiction) <;> refine TR_pv0 PV_move rfl ?_); all_goals (refine TR_call0 (lostF_ct b X' hX') rfl rfl (.cons (.there (.there (.there (.there .here)))) .nil) rfl ?_; rintro _ _ ⟨r1, rfl, rfl, hr1⟩); all_goals refine TR_pv0 PV_move rfl ?_; all_goals (refine TR_call0 (q4) rfl rfl (.cons (.there (.there (.there (.there (.there (.there .here)))))) .nil) rfl ?_; rintro _ _ ⟨r2, rfl, rfl, hr2⟩); all_goals refine TR_calld2_2_0 (sameL_cd (lostOf X'.recs) r1 r2 hr1 hr2 (by omega)) rfl rfl rfl rfl ?_; all_goals refine TR_pv0 (PV_not rfl) rfl ?_; all_goals refine TR_pv0 (PV_pick_f rfl) rfl ?_; all_goals refine TR_nil ?_)
        | refine TC_cond_f rfl rfl ?_
        | refine TC_skip ?_
      refine TC_slots [(2, .slice (some ⟨bb, off, none⟩) ops.length cap), (7, ptr b), (9, ptr q), (11, i64 i)] ⟨rfl, rfl, rfl, rfl, trivial⟩ fun σ3 => ?_
      refine TC_le (L' := X'.seg b :: Y'.seg q :: H :: R) (fun a => by simp only [les]; omega) ?_
      repeat' first
        | refine TQ_then ?_
        | (refine TC_plain (id := 17) (by kernel_rfl) ?_; refine TR_pv0 PV_assign rfl ?_; refine TR_nil ?_)
        | refine TC_block ?_
      refine TC_loopP (X := Nat) (fun _ => X'.seg b :: Y'.seg q :: H :: R) (fun p => [(2, .slice (some ⟨bb, off, none⟩) ops.length cap), (7, ptr b), (9, ptr q), (11, i64 i), (15, i64 p)]) (fun p => p ≤ 5) (fun p => 5 - p) 0 (Nat.zero_le _) ⟨rfl, rfl, rfl, rfl, rfl, trivial⟩ (fun w hs => hs) ?_
      rintro p σ4 m2 hm2 hp5
      by_cases hpl : p < 5
      · have q5 := qout_cd q Y' hY' hfY' p
        rw [hrec] at q5
        repeat' first
          | refine TC_seq ?_
          | refine TQ_then ?_
          | (refine TC_plain (id := 18) (by kernel_rfl) ?_; refine TR_pv0 PV_move rfl ?_; refine TR_pv0 (PV_lss rfl rfl) rfl ?_; refine TR_nil ?_)
          | (refine TC_plain (id := 20) (by kernel_rfl) ?_; refine TR_pv0 PV_move rfl ?_; refine TR_pv0 PV_move rfl ?_; refine TR_calld1_0 (outF_cd b X' hX' p) rfl rfl rfl rfl ?_; refine TR_pv0 PV_move rfl ?_; refine TR_pv0 PV_move rfl ?_; refine TR_calld1_1 (q5) rfl rfl rfl rfl ?_; refine TR_pv0 (PV_neq rfl rfl) rfl ?_; refine TR_nil ?_)
          | (refine TC_plain (id := 19) (by kernel_rfl) ?_; refine TR_pv0 PV_move rfl ?_; refine TR_pv0 (PV_add64 rfl rfl (by omega)) rfl ?_; refine TR_pv0 PV_assign rfl ?_; refine TR_nil ?_)
          | refine TC_skip ?_
          | refine TC_block ?_
          | refine TQ_blk ?_
          | (refine TC_cond rfl rfl (fun hq => ?_) (fun hq => ?_) <;> (try simp only [qs] at hq) <;> (try simp only [reduceCtorEq] at hq) <;> (try (exfalso; omega)) <;> (try contradiction))
        exact TQ_roundP (p + 1) hpl (by show 5 - (p + 1) < m2; omega) ⟨rfl, rfl, rfl, rfl, rfl, trivial⟩ (fun w hs => hs)
      obtain rfl : p = 5 := by omega
      have q6 := qpoint_ct q Y' hY' hfY'
      rw [hAB, hcum'] at q6
      repeat' first
        | refine TC_seq ?_
        | refine TQ_then ?_
        | (refine TC_plain (id := 18) (by kernel_rfl) ?_; refine TR_pv0 PV_move rfl ?_; refine TR_pv0 (PV_lss rfl rfl) rfl ?_; refine TR_nil ?_)
        | (refine TC_plain (id := 22) (by kernel_rfl) ?_; refine TR_pv0 PV_move rfl ?_; (refine TR_call0 (pointF_ct b X' hX') rfl rfl (.cons .here .nil) rfl ?_; rintro _ _ ⟨r1, l1, rfl, rfl, hr1, ok1, hd1, hn1⟩); refine TR_pv0 PV_move rfl ?_; refine TR_pv0 (PV_extract rfl rfl) rfl ?_; refine TR_pv0 (PV_extract rfl rfl) rfl ?_; refine TR_pv0 PV_assign rfl ?_; refine TR_pv0 PV_assign rfl ?_; refine TR_nil ?_)
        | (refine TC_plain (id := 23) (by kernel_rfl) ?_; refine TR_pv0 PV_move rfl ?_; (refine TR_call0 (q6) rfl rfl (.cons (.there (.there .here)) .nil) rfl ?_; rintro _ _ ⟨r2, l2, rfl, rfl, hr2, ok2, hd2, hn2⟩); refine TR_pv0 PV_move rfl ?_; refine TR_pv0 (PV_extract rfl rfl) rfl ?_; refine TR_pv0 (PV_extract rfl rfl) rfl ?_; refine TR_pv0 PV_assign rfl ?_; refine TR_pv0 PV_assign rfl ?_; refine TR_nil ?_)
        | refine TC_cond_f rfl rfl ?_
        | refine TC_exit ?_
        | refine TQ_then_exit ?_
        | refine TQ_blk_here ?_
      have hdd : l1.map (·.d) = l2.map (·.d) := hd1.trans hd2.symm
      have hll2 : l1.length = l2.length := by have := congrArg List.length hdd; simpa using this
      have sps := samePs_cd l1 l2 r1 r2 hr1 hr2 ok1 ok2 hdd (by omega)
      repeat' first
        | refine TQ_then ?_
        | (refine TC_plain (id := 24) (by kernel_rfl) ?_; all_goals refine TR_pv0 PV_move rfl ?_; all_goals refine TR_pv0 PV_move rfl ?_; all_goals refine TR_pv0 (PV_neq rfl rfl) rfl ?_; all_goals refine TR_pv0 PV_move rfl ?_; all_goals (refine TR_gsplit rfl rfl rfl (fun hq => ?_) (fun hq => ?_) <;> (try simp only [qs] at hq) <;> (try simp only [reduceCtorEq] at hq) <;> (try (exfalso; omega)) <;> (try contradiction) <;> refine TR_pv0 PV_move rfl ?_); all_goals refine TR_pv0 PV_move rfl ?_; all_goals refine TR_calld2_2_0 (sps) rfl rfl rfl rfl ?_; all_goals refine TR_pv0 (PV_not rfl) rfl ?_; all_goals refine TR_pv0 (PV_pick_f rfl) rfl ?_; all_goals refine TR_nil ?_)
        | (refine TC_plain (id := 11) (by kernel_rfl) ?_; refine TR_pv0 PV_move rfl ?_; refine TR_pv0 (PV_add64 rfl rfl (by omega)) rfl ?_; refine TR_pv0 PV_assign rfl ?_; refine TR_nil ?_)
        | refine TC_cond_f rfl rfl ?_
        | refine TC_skip ?_
        | refine TQ_blk ?_
      exact TQ_roundP (i + 1, X', Y') ⟨hlt, hX', hY', hAB⟩ (by show ops.length - (i + 1) < mm; omega) ⟨rfl, rfl, rfl, rfl, trivial⟩ (fun w hs => hs.le (fun a => by simp only [les]; omega))
    · obtain rfl : i = ops.length := by omega
      repeat' first
        | refine TC_seq ?_
        | refine TQ_then ?_
        | (refine TC_plain (id := 10) (by kernel_rfl) ?_; refine TR_pv0 PV_move rfl ?_; refine TR_pv0 PV_move rfl ?_; refine TR_pv0 (PV_len rfl) rfl ?_; refine TR_pv0 (PV_lss rfl rfl) rfl ?_; refine TR_nil ?_)
        | (refine TC_plain (id := 26) (by kernel_rfl) ?_; refine TR_calld0 (flWorks) rfl rfl rfl rfl ?_; refine TR_pv0 PV_assign rfl ?_; refine TR_nil ?_)
        | refine TC_ret ?_
        | refine TC_exit ?_
        | refine TQ_then_exit ?_
        | refine TQ_blk_here ?_
        | (refine TC_cond rfl rfl (fun hq => ?_) (fun hq => ?_) <;> (try simp only [qs] at hq) <;> (try simp only [reduceCtorEq] at hq) <;> (try (exfalso; omega)) <;> (try contradiction))
      exact TQ_ret1e (v := .bool true) rfl rfl rfl ⟨rfl, rfl⟩ (fun a => by simp only [les]; omega)
  · repeat' first
    | refine TC_seq ?_
    | refine TQ_then ?_
    | (refine TC_plain (id := 0) (by kernel_rfl) ?_; refine TR_pv0 PV_assign rfl ?_; refine TR_nil ?_)
    | (refine TC_plain (id := 1) (by kernel_rfl) ?_; refine TR_pv0 PV_move rfl ?_; (refine TR_call0 (hv) rfl rfl (.cons .here .nil) rfl ?_; rintro _ _ ⟨r, rfl, rfl, hr⟩); refine TR_nil ?_)
    | (refine TC_plain (id := 2) (by kernel_rfl) ?_; refine TR_calld0 (flWorks) rfl rfl rfl rfl ?_; refine TR_pv0 PV_assign rfl ?_; refine TR_nil ?_)
    | (refine TC_plain (id := 3) (by kernel_rfl) ?_; refine TR_pv0 PV_move rfl ?_; refine TR_pv0 PV_move rfl ?_; refine TR_calld0 (newF_no paths c hp) rfl rfl rfl rfl ?_; refine TR_pv0 PV_move rfl ?_; refine TR_pv0 (PV_extract rfl rfl) rfl ?_; refine TR_pv0 (PV_extract rfl rfl) rfl ?_; refine TR_pv0 PV_assign rfl ?_; refine TR_pv0 PV_assign rfl ?_; refine TR_nil ?_)
    | (refine TC_plain (id := 4) (by kernel_rfl) ?_; refine TR_pv0 PV_move rfl ?_; refine TR_pv0 PV_move rfl ?_; refine TR_calld0 (qnew_no paths c hp) rfl rfl rfl rfl ?_; refine TR_pv0 PV_move rfl ?_; refine TR_pv0 (PV_extract rfl rfl) rfl ?_; refine TR_pv0 (PV_extract rfl rfl) rfl ?_; refine TR_pv0 PV_assign rfl ?_; refine TR_pv0 PV_assign rfl ?_; refine TR_nil ?_)
    | (refine TC_plain (id := 5) (by kernel_rfl) ?_; all_goals refine TR_pv0 PV_move rfl ?_; all_goals refine TR_pv0 PV_move rfl ?_; all_goals refine TR_pv0 (PV_neq rfl rfl) rfl ?_; all_goals refine TR_pv0 PV_move rfl ?_; all_goals refine TR_pv0 PV_move rfl ?_; all_goals refine TR_pv0 (PV_peq_nil rfl rfl) rfl ?_; all_goals refine TR_pv0 PV_move rfl ?_; all_goals refine TR_pv0 (PV_peq_nil rfl rfl) rfl ?_; all_goals refine TR_pv0 (PV_bne rfl rfl) rfl ?_; all_goals refine TR_pv0 (PV_pick_f rfl) rfl ?_; all_goals refine TR_nil ?_)
    | (refine TC_plain (id := 7) (by kernel_rfl) ?_; refine TR_pv0 PV_move rfl ?_; refine TR_pv0 (PV_peq_nil rfl rfl) rfl ?_; refine TR_nil ?_)
    | (refine TC_plain (id := 8) (by kernel_rfl) ?_; refine TR_calld0 (flWorks) rfl rfl rfl rfl ?_; refine TR_pv0 PV_assign rfl ?_; refine TR_nil ?_)
    | refine TC_cond_t rfl rfl ?_
    | refine TC_cond_f rfl rfl ?_
    | refine TC_skip ?_
    | refine TC_ret ?_
    | refine TQ_then_ret ?_
    | (refine TC_cond rfl rfl (fun hq => ?_) (fun hq => ?_) <;> (try simp only [qs] at hq) <;> (try simp only [reduceCtorEq] at hq) <;> (try (exfalso; omega)) <;> (try contradiction))
    all_goals exact TQ_ret1e (v := .bool true) rfl rfl rfl ⟨rfl, rfl⟩ (fun a => by simp only [les]; omega)
end Go.Proofs.Ytonfkkdahlboiaa
