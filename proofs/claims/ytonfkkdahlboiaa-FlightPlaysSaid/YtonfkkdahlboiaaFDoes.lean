/- does: what is done with a flight. -/
import Derived.Test.YtonfkkdahlboiaaFPlain
namespace Go.Proofs.Ytonfkkdahlboiaa
open Go.RowKit
set_option maxHeartbeats 4000000
set_option maxRecDepth 10000

structure Ans where
  d : Pc
  n : Int
  is : Bool
  e : Int
  t : Told
def told0 : Told := ⟨0, false, fun _ => tp0⟩
def ans0 : Ans := ⟨zeroPc, 0, false, 0, told0⟩
abbrev Ans.cells (x : Ans) (w : Row) : List Value := x.d.at_ w ++ (i64 x.n :: .bool x.is :: i64 x.e :: x.t.cells)
def doTsn (o : LOp) (cum : Int) : Int := (cum + o.by_) % 4294967296
def Flt.doF (F : Flt) (o : LOp) (cum : Int) : Flt :=
  if o.kind = 0 then F.add o.d o.path o.now o.id else if o.kind = 1 then F.again (doTsn o cum) o.path o.now else if o.kind = 2 then F else if o.kind = 3 then F.mark o.path else if o.kind = 4 then F.abandon o.id else
  if o.kind = 5 then (if F.may (doTsn o cum) o.gaps then F.sack (doTsn o cum) o.gaps else F) else F
def Flt.doA (F : Flt) (o : LOp) (cum : Int) : Ans :=
  if o.kind = 0 then { ans0 with n := F.addT o.d o.path, e := F.addE o.d o.path } else if o.kind = 1 then { ans0 with e := F.againE (doTsn o cum) o.path } else
  if o.kind = 2 then (match F.get (doTsn o cum) with | none => ans0 | some r => { ans0 with d := r.d, n := r.path, is := true }) else
  if o.kind = 3 then { ans0 with n := countIf (fun r => decide (r.path = o.path) && r.away) F.l } else if o.kind = 4 then { ans0 with n := livesOf o.id F.l } else
  if o.kind = 5 then (if F.may (doTsn o cum) o.gaps then { ans0 with t := F.sackT (doTsn o cum) o.gaps } else { ans0 with e := 1 }) else ans0

def nilRow : Row := ⟨none, 0, []⟩
def DoPost (H : Seg) (b : Nat) (F : Flt) (A : Ans) (v : Value) (D : List Seg) : Prop :=
  ∃ (w : Row) (X' : FL), v = .agg (A.cells w).toArray ∧ D = [w.C, X'.seg b, H] ∧ FlOk X' ∧ X'.abs = F ∧ w.ok 5 1 A.d.bytes.length (u8s A.d.bytes)
def zAns : List Value := ans0.cells nilRow
theorem cp_ans (A : Ans) (w : Row) : setAll zAns 0 (((A.cells w).drop 0).take 32) = A.cells w := by
  have hl : (A.cells w).length = 32 := rfl
  rw [List.drop_zero, List.take_of_length_le (by rw [hl]; omega)]
  exact setAll_row _ [] _ rfl

abbrev asbk (b : Nat) (l : List Value) : Seg := blk b 67 l
abbrev opbk (b : Nat) (o : LOp) : Seg := blk b 70 o.cells

theorem does_again (H : Seg) (b : Nat) (X : FL) (h : FlOk X) (o : LOp) (hk : o.kind = 1) (cum : Int) :
    Ct Try.prog 22 [ptr b, .agg o.cells.toArray, u32 cum] [X.seg b, H] (DoPost H b (X.abs.again (doTsn o cum) o.path o.now) { ans0 with e := X.abs.againE (doTsn o cum) o.path }) := by
  have hag := againF_ct b X h (doTsn o cum) o.path o.now
  refine Ct_intro Try.func22 rfl (by simp only [Try.ntmps22, List.length_cons, List.length_nil]; omega) ?_
  intro w₀ R
  repeat' first
    | refine TC_seq ?_
    | refine TQ_then ?_
    | (refine TC_plain (id := 0) (by kernel_rfl) ?_; (refine TR_box0 rfl rfl rfl ?_; intro xb); (refine TR_alloc0 rfl ?_; intro rb); refine TR_nil ?_)
    | (refine TC_plain (id := 1) (by kernel_rfl) ?_; (refine TR_alloc0 rfl ?_; intro zb); refine TR_nil ?_)
    | (refine TC_plain (id := 2) (by kernel_rfl) ?_; refine TR_pv0 (PV_fieldAddr rfl) rfl ?_; refine TR_load0 rfl 2 rfl rfl rfl ?_; refine TR_nil ?_)
    | (refine TC_plain (id := 3) (by kernel_rfl) ?_; refine TR_pv0 (PV_eql rfl rfl) rfl ?_; refine TR_pv0 PV_assign rfl ?_; refine TR_nil ?_)
    | (refine TC_plain (id := 12) (by kernel_rfl) ?_; refine TR_pv0 (PV_eql rfl rfl) rfl ?_; refine TR_pv0 PV_assign rfl ?_; refine TR_nil ?_)
    | (refine TC_plain (id := 13) (by kernel_rfl) ?_; refine TR_pv0 PV_move rfl ?_; refine TR_pv0 PV_move rfl ?_; refine TR_pv0 (PV_fieldAddr rfl) rfl ?_; refine TR_load0 rfl 2 rfl rfl rfl ?_; refine TR_pv0 (PV_add32 rfl rfl) rfl ?_; refine TR_pv0 (PV_fieldAddr rfl) rfl ?_; refine TR_load0 rfl 2 rfl rfl rfl ?_; refine TR_pv0 (PV_fieldAddr rfl) rfl ?_; refine TR_load0 rfl 2 rfl rfl rfl ?_; (refine TR_call0 (hag) rfl rfl (.cons (.there (.there (.there .here))) .nil) rfl ?_; rintro _ _ ⟨rfl, X', rfl, hX', hA', _⟩); refine TR_pv0 (PV_fieldAddr rfl) rfl ?_; refine TR_store0_1 rfl rfl rfl rfl rfl rfl ?_; refine TR_nil ?_)
    | (refine TC_plain (id := 29) (by kernel_rfl) ?_; refine TR_loadA0 rfl 1 rfl rfl rfl ?_; refine TR_storeA0_2 rfl rfl rfl rfl rfl rfl ?_; refine TR_nil ?_)
    | refine TC_ret ?_
    | refine TC_block ?_
    | refine TQ_blk ?_
    | (refine TC_cond rfl rfl (fun hq => ?_) (fun hq => ?_) <;> (try simp only [qs] at hq) <;> (try simp only [reduceCtorEq] at hq) <;> (try (exfalso; omega)) <;> (try contradiction))
  refine TQ_le (L' := X'.seg b :: asbk zb (Ans.cells { ans0 with e := X.abs.againE (doTsn o cum) o.path } nilRow) :: asbk rb (setAll zAns 0 (((Ans.cells { ans0 with e := X.abs.againE (doTsn o cum) o.path } nilRow).drop 0).take 32)) :: opbk xb o :: H :: R) (Le.refl _) ?_
  rw [cp_ans]
  exact TQ_retCe (cs := Ans.cells { ans0 with e := X.abs.againE (doTsn o cum) o.path } nilRow) (C' := [nilRow.C, X'.seg b, H]) rfl rfl rfl 2 rfl rfl ⟨nilRow, X', rfl, rfl, hX', hA', .nil⟩ (fun a => by simp only [les, nilRow]; omega)
theorem does_mark (H : Seg) (b : Nat) (X : FL) (h : FlOk X) (o : LOp) (hk : o.kind = 3) (cum : Int) :
    Ct Try.prog 22 [ptr b, .agg o.cells.toArray, u32 cum] [X.seg b, H] (DoPost H b (X.abs.mark o.path) { ans0 with n := countIf (fun r => decide (r.path = o.path) && r.away) X.abs.l }) := by
  have hag := markF_ct b X h o.path
  refine Ct_intro Try.func22 rfl (by simp only [Try.ntmps22, List.length_cons, List.length_nil]; omega) ?_
  intro w₀ R
  repeat' first
    | refine TC_seq ?_
    | refine TQ_then ?_
    | (refine TC_plain (id := 0) (by kernel_rfl) ?_; (refine TR_box0 rfl rfl rfl ?_; intro xb); (refine TR_alloc0 rfl ?_; intro rb); refine TR_nil ?_)
    | (refine TC_plain (id := 1) (by kernel_rfl) ?_; (refine TR_alloc0 rfl ?_; intro zb); refine TR_nil ?_)
    | (refine TC_plain (id := 2) (by kernel_rfl) ?_; refine TR_pv0 (PV_fieldAddr rfl) rfl ?_; refine TR_load0 rfl 2 rfl rfl rfl ?_; refine TR_nil ?_)
    | (refine TC_plain (id := 3) (by kernel_rfl) ?_; refine TR_pv0 (PV_eql rfl rfl) rfl ?_; refine TR_pv0 PV_assign rfl ?_; refine TR_nil ?_)
    | (refine TC_plain (id := 12) (by kernel_rfl) ?_; refine TR_pv0 (PV_eql rfl rfl) rfl ?_; refine TR_pv0 PV_assign rfl ?_; refine TR_nil ?_)
    | (refine TC_plain (id := 14) (by kernel_rfl) ?_; refine TR_pv0 (PV_eql rfl rfl) rfl ?_; refine TR_pv0 PV_assign rfl ?_; refine TR_nil ?_)
    | (refine TC_plain (id := 22) (by kernel_rfl) ?_; refine TR_pv0 (PV_eql rfl rfl) rfl ?_; refine TR_pv0 PV_assign rfl ?_; refine TR_nil ?_)
    | (refine TC_plain (id := 23) (by kernel_rfl) ?_; refine TR_pv0 PV_move rfl ?_; refine TR_pv0 (PV_fieldAddr rfl) rfl ?_; refine TR_load0 rfl 2 rfl rfl rfl ?_; (refine TR_call0 (hag) rfl rfl (.cons (.there (.there (.there .here))) .nil) rfl ?_; rintro _ _ ⟨rfl, X', rfl, hX', hA', _⟩); refine TR_pv0 (PV_fieldAddr rfl) rfl ?_; refine TR_store0_1 rfl rfl rfl rfl rfl rfl ?_; refine TR_nil ?_)
    | (refine TC_plain (id := 29) (by kernel_rfl) ?_; refine TR_loadA0 rfl 1 rfl rfl rfl ?_; refine TR_storeA0_2 rfl rfl rfl rfl rfl rfl ?_; refine TR_nil ?_)
    | refine TC_ret ?_
    | refine TC_block ?_
    | refine TQ_blk ?_
    | (refine TC_cond rfl rfl (fun hq => ?_) (fun hq => ?_) <;> (try simp only [qs] at hq) <;> (try simp only [reduceCtorEq] at hq) <;> (try (exfalso; omega)) <;> (try contradiction))
  refine TQ_le (L' := X'.seg b :: asbk zb (Ans.cells { ans0 with n := countIf (fun r => decide (r.path = o.path) && r.away) X.abs.l } nilRow) :: asbk rb (setAll zAns 0 (((Ans.cells { ans0 with n := countIf (fun r => decide (r.path = o.path) && r.away) X.abs.l } nilRow).drop 0).take 32)) :: opbk xb o :: H :: R) (Le.refl _) ?_
  rw [cp_ans]
  exact TQ_retCe (cs := Ans.cells { ans0 with n := countIf (fun r => decide (r.path = o.path) && r.away) X.abs.l } nilRow) (C' := [nilRow.C, X'.seg b, H]) rfl rfl rfl 2 rfl rfl ⟨nilRow, X', rfl, rfl, hX', hA', .nil⟩ (fun a => by simp only [les, nilRow]; omega)
theorem does_abandon (H : Seg) (b : Nat) (X : FL) (h : FlOk X) (o : LOp) (hk : o.kind = 4) (cum : Int) :
    Ct Try.prog 22 [ptr b, .agg o.cells.toArray, u32 cum] [X.seg b, H] (DoPost H b (X.abs.abandon o.id) { ans0 with n := livesOf o.id X.abs.l }) := by
  have hag := abandonF_ct b X h o.id
  refine Ct_intro Try.func22 rfl (by simp only [Try.ntmps22, List.length_cons, List.length_nil]; omega) ?_
  intro w₀ R
  repeat' first
    | refine TC_seq ?_
    | refine TQ_then ?_
    | (refine TC_plain (id := 0) (by kernel_rfl) ?_; (refine TR_box0 rfl rfl rfl ?_; intro xb); (refine TR_alloc0 rfl ?_; intro rb); refine TR_nil ?_)
    | (refine TC_plain (id := 1) (by kernel_rfl) ?_; (refine TR_alloc0 rfl ?_; intro zb); refine TR_nil ?_)
    | (refine TC_plain (id := 2) (by kernel_rfl) ?_; refine TR_pv0 (PV_fieldAddr rfl) rfl ?_; refine TR_load0 rfl 2 rfl rfl rfl ?_; refine TR_nil ?_)
    | (refine TC_plain (id := 3) (by kernel_rfl) ?_; refine TR_pv0 (PV_eql rfl rfl) rfl ?_; refine TR_pv0 PV_assign rfl ?_; refine TR_nil ?_)
    | (refine TC_plain (id := 12) (by kernel_rfl) ?_; refine TR_pv0 (PV_eql rfl rfl) rfl ?_; refine TR_pv0 PV_assign rfl ?_; refine TR_nil ?_)
    | (refine TC_plain (id := 14) (by kernel_rfl) ?_; refine TR_pv0 (PV_eql rfl rfl) rfl ?_; refine TR_pv0 PV_assign rfl ?_; refine TR_nil ?_)
    | (refine TC_plain (id := 22) (by kernel_rfl) ?_; refine TR_pv0 (PV_eql rfl rfl) rfl ?_; refine TR_pv0 PV_assign rfl ?_; refine TR_nil ?_)
    | (refine TC_plain (id := 24) (by kernel_rfl) ?_; refine TR_pv0 (PV_eql rfl rfl) rfl ?_; refine TR_pv0 PV_assign rfl ?_; refine TR_nil ?_)
    | (refine TC_plain (id := 25) (by kernel_rfl) ?_; refine TR_pv0 PV_move rfl ?_; refine TR_pv0 (PV_fieldAddr rfl) rfl ?_; refine TR_load0 rfl 2 rfl rfl rfl ?_; (refine TR_call0 (hag) rfl rfl (.cons (.there (.there (.there .here))) .nil) rfl ?_; rintro _ _ ⟨rfl, X', rfl, hX', hA', _⟩); refine TR_pv0 (PV_fieldAddr rfl) rfl ?_; refine TR_store0_1 rfl rfl rfl rfl rfl rfl ?_; refine TR_nil ?_)
    | (refine TC_plain (id := 29) (by kernel_rfl) ?_; refine TR_loadA0 rfl 1 rfl rfl rfl ?_; refine TR_storeA0_2 rfl rfl rfl rfl rfl rfl ?_; refine TR_nil ?_)
    | refine TC_ret ?_
    | refine TC_block ?_
    | refine TQ_blk ?_
    | (refine TC_cond rfl rfl (fun hq => ?_) (fun hq => ?_) <;> (try simp only [qs] at hq) <;> (try simp only [reduceCtorEq] at hq) <;> (try (exfalso; omega)) <;> (try contradiction))
  refine TQ_le (L' := X'.seg b :: asbk zb (Ans.cells { ans0 with n := livesOf o.id X.abs.l } nilRow) :: asbk rb (setAll zAns 0 (((Ans.cells { ans0 with n := livesOf o.id X.abs.l } nilRow).drop 0).take 32)) :: opbk xb o :: H :: R) (Le.refl _) ?_
  rw [cp_ans]
  exact TQ_retCe (cs := Ans.cells { ans0 with n := livesOf o.id X.abs.l } nilRow) (C' := [nilRow.C, X'.seg b, H]) rfl rfl rfl 2 rfl rfl ⟨nilRow, X', rfl, rfl, hX', hA', .nil⟩ (fun a => by simp only [les, nilRow]; omega)
theorem does_none (H : Seg) (b : Nat) (X : FL) (h : FlOk X) (o : LOp) (hk0 : ¬ o.kind = 0) (hk1 : ¬ o.kind = 1) (hk2 : ¬ o.kind = 2) (hk3 : ¬ o.kind = 3) (hk4 : ¬ o.kind = 4) (hk5 : ¬ o.kind = 5) (cum : Int) :
    Ct Try.prog 22 [ptr b, .agg o.cells.toArray, u32 cum] [X.seg b, H] (DoPost H b X.abs ans0) := by
  refine Ct_intro Try.func22 rfl (by simp only [Try.ntmps22, List.length_cons, List.length_nil]; omega) ?_
  intro w₀ R
  repeat' first
    | refine TC_seq ?_
    | refine TQ_then ?_
    | (refine TC_plain (id := 0) (by kernel_rfl) ?_; (refine TR_box0 rfl rfl rfl ?_; intro xb); (refine TR_alloc0 rfl ?_; intro rb); refine TR_nil ?_)
    | (refine TC_plain (id := 1) (by kernel_rfl) ?_; (refine TR_alloc0 rfl ?_; intro zb); refine TR_nil ?_)
    | (refine TC_plain (id := 2) (by kernel_rfl) ?_; refine TR_pv0 (PV_fieldAddr rfl) rfl ?_; refine TR_load0 rfl 2 rfl rfl rfl ?_; refine TR_nil ?_)
    | (refine TC_plain (id := 3) (by kernel_rfl) ?_; refine TR_pv0 (PV_eql rfl rfl) rfl ?_; refine TR_pv0 PV_assign rfl ?_; refine TR_nil ?_)
    | (refine TC_plain (id := 12) (by kernel_rfl) ?_; refine TR_pv0 (PV_eql rfl rfl) rfl ?_; refine TR_pv0 PV_assign rfl ?_; refine TR_nil ?_)
    | (refine TC_plain (id := 14) (by kernel_rfl) ?_; refine TR_pv0 (PV_eql rfl rfl) rfl ?_; refine TR_pv0 PV_assign rfl ?_; refine TR_nil ?_)
    | (refine TC_plain (id := 22) (by kernel_rfl) ?_; refine TR_pv0 (PV_eql rfl rfl) rfl ?_; refine TR_pv0 PV_assign rfl ?_; refine TR_nil ?_)
    | (refine TC_plain (id := 24) (by kernel_rfl) ?_; refine TR_pv0 (PV_eql rfl rfl) rfl ?_; refine TR_pv0 PV_assign rfl ?_; refine TR_nil ?_)
    | (refine TC_plain (id := 26) (by kernel_rfl) ?_; refine TR_pv0 (PV_eql rfl rfl) rfl ?_; refine TR_pv0 PV_assign rfl ?_; refine TR_nil ?_)
    | (refine TC_plain (id := 29) (by kernel_rfl) ?_; refine TR_loadA0 rfl 0 rfl rfl rfl ?_; refine TR_storeA0_1 rfl rfl rfl rfl rfl rfl ?_; refine TR_nil ?_)
    | refine TC_skip ?_
    | refine TC_ret ?_
    | refine TC_block ?_
    | refine TQ_blk ?_
    | (refine TC_cond rfl rfl (fun hq => ?_) (fun hq => ?_) <;> (try simp only [qs] at hq) <;> (try simp only [reduceCtorEq] at hq) <;> (try (exfalso; omega)) <;> (try contradiction))
  refine TQ_le (L' := asbk zb (Ans.cells ans0 nilRow) :: asbk rb (setAll zAns 0 (((Ans.cells ans0 nilRow).drop 0).take 32)) :: opbk xb o :: X.seg b :: H :: R) (Le.refl _) ?_
  rw [cp_ans]
  exact TQ_retCe (cs := Ans.cells ans0 nilRow) (C' := [nilRow.C, X.seg b, H]) rfl rfl rfl 1 rfl rfl ⟨nilRow, X, rfl, rfl, h, rfl, .nil⟩ (fun a => by simp only [les, nilRow]; omega)
end Go.Proofs.Ytonfkkdahlboiaa
