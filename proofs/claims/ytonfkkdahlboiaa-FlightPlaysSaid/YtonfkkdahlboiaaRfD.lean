/- The flight of the reference: Get, Mark, Abandon, Point. -/
import Derived.Test.YtonfkkdahlboiaaRfC
namespace Go.Proofs.Ytonfkkdahlboiaa
open Go.RowKit
set_option maxHeartbeats 4000000
set_option maxRecDepth 10000

def zQ : QL := ⟨⟨zeroPc, 0, 0, 0, 0, false, false, false, false⟩, nilRow⟩
theorem cp_rec (x : QL) : setAll zQ.cells 0 x.cells = x.cells := setAll_row _ [] _ rfl

theorem qget_ct (b : Nat) (X : QF) (h : QfOk X) (hf : FrOk X.abs) (tsn : Int) : Ct Try.prog 53 [ptr b, u32 tsn] [X.seg b]
    (fun v D => ∃ w : Row, v = .tuple #[.agg ((X.abs.getA tsn).d.at_ w).toArray, i64 (X.abs.getA tsn).n, .bool (X.abs.getA tsn).is] ∧ D = [w.C, X.seg b] ∧ w.ok 5 1 (X.abs.getA tsn).d.bytes.length (u8s (X.abs.getA tsn).d.bytes)) := by
  have hat := qatb_cd b X hf tsn
  cases hk : X.abs.idx tsn with
  | none =>
    have e : X.abs.getA tsn = ans0 := by rw [Flt.getA, Flt.get, hk]; rfl
    have e3 : X.abs.place tsn = -1 := by rw [Flt.place, hk]
    rw [e3] at hat
    rw [e]
    refine Ct_intro Try.func53 rfl (by simp only [Try.ntmps53, List.length_cons, List.length_nil]; omega) ?_
    intro w₀ R
    refine TC_le (L' := X.bk b :: (X.w.C ++ qsegs X.l) :: R) (fun a => by simp only [les, QF.seg]; omega) ?_
    repeat' first
      | refine TC_seq ?_
      | refine TQ_then ?_
      | (refine TC_plain (id := 0) (by kernel_rfl) ?_; (refine TR_alloc0 rfl ?_; intro c); refine TR_pv0 PV_assign rfl ?_; refine TR_pv0 PV_assign rfl ?_; refine TR_nil ?_)
      | (refine TC_plain (id := 1) (by kernel_rfl) ?_; all_goals refine TR_pv0 PV_move rfl ?_; all_goals refine TR_pv0 (PV_peq_nil rfl rfl) rfl ?_; all_goals refine TR_pv0 PV_move rfl ?_; all_goals refine TR_pv0 PV_move rfl ?_; all_goals refine TR_pv0 PV_move rfl ?_; all_goals refine TR_calld1_1 (hat) rfl rfl rfl rfl ?_; all_goals refine TR_pv0 (PV_lss rfl rfl) rfl ?_; all_goals refine TR_pv0 (PV_pick_f rfl) rfl ?_; all_goals refine TR_nil ?_)
      | (refine TC_plain (id := 2) (by kernel_rfl) ?_; refine TR_pv0 (PV_build rfl rfl) rfl ?_; refine TR_storeA0_0 rfl rfl rfl rfl rfl rfl ?_; refine TR_pv0 PV_assign rfl ?_; refine TR_pv0 PV_assign rfl ?_; refine TR_nil ?_)
      | refine TC_cond_t rfl rfl ?_
      | refine TC_ret ?_
      | refine TQ_then_ret ?_
    refine TQ_le (L' := dbk c (zeroPc.at_ nilRow) :: X.bk b :: (X.w.C ++ qsegs X.l) :: R) (Le.refl _) ?_
    exact TQ_retG rfl (.agg inferInstance rfl rfl 0 rfl rfl (.tmp rfl rfl (.tmp rfl rfl .nil))) rfl ⟨nilRow, rfl, rfl, .nil⟩ (fun a => by simp only [les, QF.seg, nilRow]; omega)
  | some k =>
    have h2 := (idx_some hk).2
    have hlt : k < X.l.length := by simpa only [QF.abs, qrecs_length] using h2
    obtain ⟨x, hx⟩ : ∃ x, X.l[k]? = some x := ⟨X.l[k], List.getElem?_eq_getElem hlt⟩
    have e0 : X.abs.get tsn = some x.r := by rw [get_of_idx hk]; exact qrecs_at hx
    have e : X.abs.getA tsn = { ans0 with d := x.r.d, n := x.r.path, is := true } := by rw [Flt.getA, e0]
    have e3 : X.abs.place tsn = k := by rw [Flt.place, hk]
    rw [e3] at hat
    obtain ⟨rb, off, cells, ha, hC, hq0⟩ := qat_of h.row (by omega)
    have hsl : Value.slice X.w.a X.l.length X.w.cap = .slice (some ⟨rb, off, none⟩) X.l.length X.w.cap := by rw [ha]
    have cA : (cells.drop (off + (k : Int).toNat * 15)).take 15 = x.cells := hq0.get hx
    have hok := h.recs x (List.mem_of_getElem? hx)
    have hb1 := (hf.at_ hx).b1
    rw [e]
    refine Ct_intro Try.func53 rfl (by simp only [Try.ntmps53, List.length_cons, List.length_nil]; omega) ?_
    intro w₀ R
    refine TC_le (L' := X.bk b :: [(rb, .cells cells.toArray 111 (0, 0))] :: x.w.C :: (qsegs (X.l.take k) ++ qsegs (X.l.drop (k + 1))) :: R) (fun a => by simp only [les, QF.seg_at b hx, hC]; omega) ?_
    repeat' first
      | refine TC_seq ?_
      | refine TQ_then ?_
      | (refine TC_plain (id := 0) (by kernel_rfl) ?_; (refine TR_alloc0 rfl ?_; intro c); refine TR_pv0 PV_assign rfl ?_; refine TR_pv0 PV_assign rfl ?_; refine TR_nil ?_)
      | (refine TC_plain (id := 1) (by kernel_rfl) ?_; all_goals refine TR_pv0 PV_move rfl ?_; all_goals refine TR_pv0 (PV_peq_nil rfl rfl) rfl ?_; all_goals refine TR_pv0 PV_move rfl ?_; all_goals refine TR_pv0 PV_move rfl ?_; all_goals refine TR_pv0 PV_move rfl ?_; all_goals refine TR_calld1_1 (hat) rfl rfl rfl rfl ?_; all_goals refine TR_pv0 (PV_lss rfl rfl) rfl ?_; all_goals refine TR_pv0 (PV_pick_f rfl) rfl ?_; all_goals refine TR_nil ?_)
      | refine TC_cond_f rfl rfl ?_
      | refine TC_skip ?_
    refine TC_slots [(0, ptr b), (1, u32 tsn), (4, ptr c)] ⟨rfl, rfl, rfl, trivial⟩ fun σ' => ?_
    refine TC_le (L' := X.bk b :: [(rb, .cells cells.toArray 111 (0, 0))] :: x.w.C :: dbk c (zeroPc.at_ nilRow) :: (qsegs (X.l.take k) ++ qsegs (X.l.drop (k + 1))) :: R) (Le.trans (M := dbk c (zeroPc.at_ nilRow) :: X.bk b :: [(rb, .cells cells.toArray 111 (0, 0))] :: x.w.C :: (qsegs (X.l.take k) ++ qsegs (X.l.drop (k + 1))) :: R) (Le.refl _) (fun a => by simp only [les]; omega)) ?_
    refine TC_cutQ (X := Nat) (fun rc => blk rc 111 x.cells :: X.bk b :: [(rb, .cells cells.toArray 111 (0, 0))] :: x.w.C :: dbk c (zeroPc.at_ nilRow) :: (qsegs (X.l.take k) ++ qsegs (X.l.drop (k + 1))) :: R) (fun rc => [(4, ptr c), (7, ptr rc)]) (fun _ => True) ?_ ?_
    · repeat' first
      | refine TQ_noPanic ?_
      | (refine TC_forked (id := 3) (X.bk b :: [(rb, .cells cells.toArray 111 (0, 0))] :: x.w.C :: dbk c (zeroPc.at_ nilRow) :: (qsegs (X.l.take k) ++ qsegs (X.l.drop (k + 1))) :: R) (.alt [(0, 1), (1, 1), (2, 1), (3, 1), (4, 1), (5, 1)] 6 2 (.fin [(7, 1), (8, 1), (9, 2), (10, 2)]) 9 2 (.fin [(6, 2), (7, 1), (8, 1), (10, 2)])) mixed (by kernel_rfl) ?_; refine TT_alt ?_; refine TR_pv1 PV_move rfl (fun _ h => h.sub (.refl _)) ?_; refine TR_pv1 (PV_nil rfl) rfl (fun _ h => h.sub (.refl _)) ?_; refine TR_pv1 (PV_fieldAddr rfl) rfl (fun _ h => h.sub (.refl _)) ?_; refine TR_load1 rfl 0 rfl rfl rfl (fun _ h => h.sub (.refl _)) ?_; refine TR_pv1 PV_move rfl (fun _ h => h.sub (.refl _)) ?_; refine TR_pv1 PV_move rfl (fun _ h => h.sub (.refl _)) ?_; refine TR_nil ?_; (refine TQ_alt ?_ ?_ <;> first | (refine TR_callsP (hat) rfl rfl (.cons .here .nil) (.cons .here .nil) rfl (.refl _) ?_; refine TR_nil ?_; refine TQ_tree ?_; refine TT_fin ?_; refine TR_pv1 (PV_indexAddr hsl rfl (by omega)) rfl (fun _ h => h.sub (.refl _)) ?_; refine TR_loadAM1 rfl (.head _) 1 rfl cA rfl rfl (fun _ h => h.sub (.refl _)) ?_; (refine TR_allock (fun _ h => h.sub (.refl _)) rfl ?_; intro rc); refine TR_storeA2 rfl rfl rfl .here rfl rfl (fun _ h => h.sub (.cons _ (.refl _))) ?_; refine TR_nil ?_) | ((refine TR_allock (fun _ h => h.sub (.refl _)) rfl ?_; intro rc); refine TR_nil ?_; refine TQ_tree ?_; refine TT_fin ?_; refine TR_callsP (hat) rfl rfl (.cons (.there .here) .nil) (.cons (.there .here) .nil) rfl (.cons _ (.refl _)) ?_; refine TR_pv1 (PV_indexAddr hsl rfl (by omega)) rfl (fun _ h => h.sub (.cons _ (.refl _))) ?_; refine TR_loadAM1 rfl (.head _) 1 rfl cA rfl rfl (fun _ h => h.sub (.cons _ (.refl _))) ?_; refine TR_storeA2 rfl rfl rfl .here rfl rfl (fun _ h => h.sub (.cons _ (.refl _))) ?_; refine TR_nil ?_)))
      all_goals
        exact TQ_cut rc trivial ⟨rfl, rfl, trivial⟩ (fun w hs => by
          have hs2 : St w₀ w (blk rc 111 (setAll zQ.cells 0 x.cells) :: X.bk b :: [(rb, .cells cells.toArray 111 (0, 0))] :: x.w.C :: dbk c (zeroPc.at_ nilRow) :: (qsegs (X.l.take k) ++ qsegs (X.l.drop (k + 1))) :: R) := hs
          rw [cp_rec] at hs2
          exact hs2)
    rintro rc σg -
    repeat' first
      | refine TC_seq ?_
      | refine TQ_then ?_
      | (refine TC_plain (id := 4) (by kernel_rfl) ?_; refine TR_pv0 (PV_fieldAddr rfl) rfl ?_; refine TR_loadA0 rfl 0 rfl rfl rfl ?_; (refine TR_alloc0 rfl ?_; intro c2); refine TR_storeA0_0 rfl rfl rfl rfl rfl rfl ?_; refine TR_nil ?_)
      | (refine TC_plain (id := 5) (by kernel_rfl) ?_; (refine TR_buildSlice (.inl rfl) rfl rfl rfl rfl ?_; intro q); refine TR_pv0 (PV_fieldAddr rfl) rfl ?_; refine TR_load0 rfl 1 rfl rfl rfl ?_; (refine TR_append00 (.inl rfl) (empty_ok _ _ _) rfl rfl (.cons .here .nil) (src_sl hok 5 rfl) (by rw [u8s_length, Nat.mul_one]) (u8s_all _) (by omega) rfl ?_; intro a' cap' C' hS); refine TR_pv0 (PV_fieldAddr rfl) rfl ?_; refine TR_store0_1 rfl rfl rfl rfl rfl rfl ?_; refine TR_nil ?_)
    refine TC_le (L' := C' :: dbk c2 (x.r.d.at_ ⟨a', cap', C'⟩) :: blk rc 111 x.cells :: X.bk b :: [(rb, .cells cells.toArray 111 (0, 0))] :: x.w.C :: dbk c (zeroPc.at_ nilRow) :: (qsegs (X.l.take k) ++ qsegs (X.l.drop (k + 1))) :: R) (Le.refl _) ?_
    refine TC_le (L' := dbk c (zeroPc.at_ nilRow) :: dbk c2 (x.r.d.at_ ⟨a', cap', C'⟩) :: blk rc 111 x.cells :: C' :: X.bk b :: [(rb, .cells cells.toArray 111 (0, 0))] :: x.w.C :: (qsegs (X.l.take k) ++ qsegs (X.l.drop (k + 1))) :: R) (fun a => by simp only [les]; omega) ?_
    repeat' first
      | refine TQ_then ?_
      | refine TQ_noPanic ?_
      | (refine TC_drawn' (id := 6) [(0, 1), (1, 3), (2, 3), (3, 5), (4, 0), (5, 0)] mixed (by kernel_rfl) ?_; refine TR_loadA1 rfl 1 rfl rfl rfl (fun _ h => h) ?_; refine TR_pv3 (PV_fieldAddr rfl) rfl (fun _ h => h.tail) ?_; refine TR_load3 rfl 1 rfl rfl rfl (fun _ h => h.tail) ?_; refine TR_storeA5_0 rfl rfl rfl rfl rfl rfl (fun _ h => h) ?_; refine TR_pv0 PV_assign rfl ?_; refine TR_pv0 PV_assign rfl ?_; refine TR_nil ?_)
      | refine TC_ret ?_
    refine TQ_le (L' := dbk c (x.r.d.at_ ⟨a', cap', C'⟩) :: dbk c2 (x.r.d.at_ ⟨a', cap', C'⟩) :: blk rc 111 x.cells :: C' :: X.bk b :: [(rb, .cells cells.toArray 111 (0, 0))] :: x.w.C :: (qsegs (X.l.take k) ++ qsegs (X.l.drop (k + 1))) :: R) (Le.refl _) ?_
    exact TQ_retG rfl (.agg inferInstance rfl rfl 0 rfl rfl (.tmp rfl rfl (.tmp rfl rfl .nil))) rfl ⟨⟨a', cap', C'⟩, rfl, rfl, hS⟩ (fun a => by simp only [les, QF.seg_at b hx, hC]; omega)

/-! ### What turns records -/
def upk {α : Type} (f : α → α) (l : List α) (k : Nat) : List α := (l.take k).map f ++ l.drop k
theorem upk_zero {α : Type} (f : α → α) (l : List α) : upk f l 0 = l := by simp [upk]
theorem upk_all {α : Type} (f : α → α) (l : List α) : upk f l l.length = l.map f := by simp [upk]
theorem upk_len {α : Type} (f : α → α) (l : List α) (k : Nat) : (upk f l k).length = l.length := by
  simp only [upk, List.length_append, List.length_map, List.length_take, List.length_drop]; omega
theorem upk_get {α : Type} (f : α → α) {l : List α} {k j : Nat} (h : k ≤ j) : (upk f l k)[j]? = l[j]? := by
  rw [upk, List.getElem?_append]
  by_cases hk : k ≤ l.length
  · rw [if_neg (by simp; omega)]
    simp only [List.length_map, List.length_take, List.getElem?_drop]
    rw [Nat.min_eq_left hk, show k + (j - k) = j by omega]
  · rw [List.getElem?_eq_none (by omega : l.length ≤ j)]
    rw [if_neg (by simp; omega), List.getElem?_eq_none]
    simp; omega
theorem upk_set {α : Type} (f : α → α) {l : List α} {k : Nat} {x : α} (h : l[k]? = some x) : (upk f l k).set k (f x) = upk f l (k + 1) := by
  have hk := (List.getElem?_eq_some_iff.1 h).1
  rw [upk, upk, take_next h, List.map_append]
  have hl : ((l.take k).map f).length = k := by simp; omega
  rw [List.set_append_right _ _ (by omega), hl, Nat.sub_self]
  have hd : l.drop k = x :: l.drop (k + 1) := by
    obtain ⟨_, rfl⟩ := List.getElem?_eq_some_iff.1 h
    exact (List.getElem_cons_drop hk).symm
  rw [hd]; simp
theorem upk_same {α : Type} (f : α → α) {l : List α} {k : Nat} {x : α} (h : l[k]? = some x) (hx : f x = x) : upk f l (k + 1) = upk f l k := by
  rw [← upk_set f h, hx]
  have h' : (upk f l k)[k]? = some x := by rw [upk_get f (Nat.le_refl _)]; exact h
  apply List.ext_getElem?
  intro j
  rw [List.getElem?_set]
  split
  · rename_i hj
    subst hj
    rw [if_pos (List.getElem?_eq_some_iff.1 h').1, h']
  · rfl

/-- A flight of which the first k records were turned. -/
structure Up (X Y : QF) (f : FRec → FRec) (k : Nat) : Prop where
  ok : QfOk Y
  l : Y.l = upk (fun x : QL => { x with r := f x.r }) X.l k
  cum : Y.cum = X.cum
  paths : Y.paths = X.paths
  segs : qsegs Y.l = qsegs X.l
theorem Up.zero {X : QF} (h : QfOk X) (f : FRec → FRec) : Up X X f 0 := ⟨h, (upk_zero _ _).symm, rfl, rfl, rfl⟩
theorem Up.len {X Y : QF} {f : FRec → FRec} {k : Nat} (h : Up X Y f k) : Y.l.length = X.l.length := by rw [h.l, upk_len]
theorem Up.get {X Y : QF} {f : FRec → FRec} {k j : Nat} (h : Up X Y f k) (hj : k ≤ j) : Y.l[j]? = X.l[j]? := by rw [h.l, upk_get _ hj]
theorem Up.same {X Y : QF} {f : FRec → FRec} {k : Nat} {x : QL} (h : Up X Y f k) (hx : X.l[k]? = some x) (hf : f x.r = x.r) : Up X Y f (k + 1) :=
  ⟨h.ok, by rw [upk_same _ hx (by simp only [hf])]; exact h.l, h.cum, h.paths, h.segs⟩
theorem Up.put {X Y : QF} {f : FRec → FRec} {k : Nat} {x : QL} (h : Up X Y f k) (hx : X.l[k]? = some x) {rb off : Nat} {cells : List Value} (hd : (f x.r).d = x.r.d)
    (hq : QAt off Y.w.cap cells (Y.l.set k { x with r := f x.r })) : Up X (Y.put k { x with r := f x.r } (some ⟨rb, off, none⟩) [(rb, .cells cells.toArray 111 (0, 0))]) f (k + 1) := by
  have hxy : Y.l[k]? = some x := by rw [h.get (Nat.le_refl _)]; exact hx
  refine ⟨⟨hq.sl rb, oks_set h.ok.recs hxy rfl hd⟩, ?_, h.cum, h.paths, (qsegs_set (y := { x with r := f x.r }) hxy rfl).trans h.segs⟩
  show Y.l.set k _ = _
  rw [h.l]; exact upk_set (fun x : QL => { x with r := f x.r }) hx
theorem Up.abs {X Y : QF} {f : FRec → FRec} (h : Up X Y f X.l.length) : Y.abs = { X.abs with l := X.abs.l.map f } := by
  simp only [QF.abs, QF.recs, h.cum, h.paths]
  rw [h.l, upk_all, List.map_map, List.map_map]; rfl

theorem qmark_ct (b : Nat) (X : QF) (h : QfOk X) (hf : FrOk X.abs) (path : Int) : Ct Try.prog 54 [ptr b, i64 path] [X.seg b]
    (fun v D => v = i64 (countIf (fun r => decide (r.path = path) && r.away) X.recs) ∧ ∃ X', D = [X'.seg b] ∧ QfOk X' ∧ X'.abs = X.abs.mark path) := by
  have hlen := QfOk.len hf
  generalize hp : (fun r : FRec => decide (r.path = path) && r.away) = p
  refine Ct_intro Try.func54 rfl (by simp only [Try.ntmps54, List.length_cons, List.length_nil]; omega) ?_
  intro w₀ R
  refine TC_le (L' := X.bk b :: X.w.C :: qsegs X.l :: R) (fun a => by simp only [les, QF.seg]; omega) ?_
  repeat' first
    | refine TC_seq ?_
    | refine TQ_then ?_
    | (refine TC_plain (id := 0) (by kernel_rfl) ?_; refine TR_pv0 PV_assign rfl ?_; refine TR_nil ?_)
    | (refine TC_plain (id := 1) (by kernel_rfl) ?_; refine TR_pv0 PV_assign rfl ?_; refine TR_nil ?_)
    | (refine TC_plain (id := 2) (by kernel_rfl) ?_; refine TR_pv0 PV_assign rfl ?_; refine TR_nil ?_)
    | refine TC_block ?_
  refine TC_loopP (X := Nat × QF) (fun s => s.2.bk b :: s.2.w.C :: qsegs X.l :: R) (fun s => [(0, ptr b), (1, i64 path), (5, i64 (countIf p (X.recs.take s.1))), (6, i64 s.1)]) (fun s => s.1 ≤ X.l.length ∧ Up X s.2 (markR path) s.1) (fun s => X.l.length - s.1) (0, X) ⟨Nat.zero_le _, .zero h _⟩ ⟨rfl, rfl, rfl, rfl, trivial⟩ (fun w hs => hs) ?_
  rintro ⟨k, Y⟩ σg mm hmm ⟨hk, hU⟩
  dsimp only at hmm hk hU ⊢
  have hs0 := hf.cnt p k
  change 0 ≤ countIf p (X.recs.take k) ∧ countIf p (X.recs.take k) ≤ 2048 at hs0
  have hyl := hU.len
  by_cases hlt : k < X.l.length
  · obtain ⟨x, hx⟩ : ∃ x, X.l[k]? = some x := ⟨_, List.getElem?_eq_getElem hlt⟩
    have hy : Y.l[k]? = some x := by rw [hU.get (Nat.le_refl _)]; exact hx
    obtain ⟨rb, off, cells, ha, hC, hat⟩ := qat_of hU.ok.row (by omega)
    have hsl : Value.slice Y.w.a Y.l.length Y.w.cap = .slice (some ⟨rb, off, none⟩) Y.l.length Y.w.cap := by rw [ha]
    have cA : (cells.drop (off + (k : Int).toNat * 15)).take 15 = x.cells := hat.get hy
    have c7 : cells[off + (k : Int).toNat * 15 + 7]? = some (i64 x.r.path) := hat.cell hy (j := 7) (by omega) rfl
    have l12 : Nat.blt (off + (k : Int).toNat * 15 + 12) cells.length = true := hat.blt (by omega) (by omega)
    have hn := countIf_next p (qrecs_at hx)
    rw [← hp] at hn
    have haw := qaway_cd x
    refine TC_le (L' := Y.bk b :: [(rb, .cells cells.toArray 111 (0, 0))] :: qsegs X.l :: R) (Le.of_eq (by rw [hC])) ?_
    cases hac : x.r.away with
    | false =>
      rw [hac] at haw
      simp only [hac, Bool.and_false, Bool.false_eq_true, if_false, Int.add_zero] at hn
      rw [hp] at hn
      have hsame : markR path x.r = x.r := by unfold markR; rw [hac]; simp
      repeat' first
        | refine TC_seq ?_
        | refine TQ_then ?_
        | (refine TC_plain (id := 3) (by kernel_rfl) ?_; all_goals refine TR_pv0 PV_move rfl ?_; all_goals refine TR_pv0 (PV_pne_nil rfl rfl) rfl ?_; all_goals refine TR_pv0 PV_move rfl ?_; all_goals refine TR_pv0 PV_move rfl ?_; all_goals refine TR_pv0 PV_move rfl ?_; all_goals refine TR_pv0 (PV_nil rfl) rfl ?_; all_goals refine TR_pv0 (PV_fieldAddr rfl) rfl ?_; all_goals refine TR_load0 rfl 0 rfl rfl rfl ?_; all_goals refine TR_pv0 (PV_len rfl) rfl ?_; all_goals refine TR_pv0 (PV_lss rfl rfl) rfl ?_; all_goals refine TR_pv0 (PV_pick_t rfl) rfl ?_; all_goals refine TR_nil ?_)
        | (refine TC_plain (id := 5) (by kernel_rfl) ?_; all_goals refine TR_pv0 PV_move rfl ?_; all_goals refine TR_pv0 (PV_nil rfl) rfl ?_; all_goals refine TR_pv0 (PV_fieldAddr rfl) rfl ?_; all_goals refine TR_load0 rfl 0 rfl rfl rfl ?_; all_goals refine TR_pv0 PV_move rfl ?_; all_goals refine TR_pv0 (PV_indexAddr hsl rfl (by omega)) rfl ?_; all_goals refine TR_loadAM0 rfl (.head _) 1 rfl cA rfl rfl ?_; all_goals refine TR_calld0 (haw) rfl rfl rfl rfl ?_; all_goals refine TR_pv0 PV_move rfl ?_; all_goals refine TR_skip0 rfl ?_; all_goals refine TR_skip0 rfl ?_; all_goals refine TR_skip0 rfl ?_; all_goals refine TR_skip0 rfl ?_; all_goals refine TR_skip0 rfl ?_; all_goals refine TR_skip0 rfl ?_; all_goals refine TR_skip0 rfl ?_; all_goals refine TR_skip0 rfl ?_; all_goals refine TR_skip0 rfl ?_; all_goals refine TR_skip0 rfl ?_; all_goals refine TR_pv0 (PV_pick_f rfl) rfl ?_; all_goals refine TR_nil ?_)
        | (refine TC_plain (id := 4) (by kernel_rfl) ?_; refine TR_pv0 PV_move rfl ?_; refine TR_pv0 (PV_add64 rfl rfl (by omega)) rfl ?_; refine TR_pv0 PV_assign rfl ?_; refine TR_nil ?_)
        | refine TC_cond_f rfl rfl ?_
        | refine TC_skip ?_
        | refine TC_block ?_
        | refine TQ_blk ?_
        | (refine TC_cond rfl rfl (fun hq => ?_) (fun hq => ?_) <;> (try simp only [qs] at hq) <;> (try simp only [reduceCtorEq] at hq) <;> (try (exfalso; omega)) <;> (try contradiction))
      exact TQ_roundP (k + 1, Y) ⟨hlt, hU.same hx hsame⟩ (by show X.l.length - (k + 1) < mm; omega) ⟨rfl, rfl, by rw [hn]; rfl, rfl, trivial⟩ (fun w hs => hs.le (Le.of_eq (by rw [hC])))
    | true =>
      rw [hac] at haw
      by_cases hpp : x.r.path = path
      · simp only [hac, hpp, decide_true, Bool.and_true, if_true] at hn
        rw [hp] at hn
        have hmk : markR path x.r = { x.r with lost := true } := by unfold markR; rw [if_pos (by simp [hpp, hac])]
        have hst := hat.store hy (y := { x with r := markR path x.r }) (j := 12) (v := .bool true) (by omega) (by rw [hmk]; rfl)
        have hU2 := hU.put (rb := rb) hx (by rw [hmk]) hst
        repeat' first
          | refine TC_seq ?_
          | refine TQ_then ?_
          | (refine TC_plain (id := 3) (by kernel_rfl) ?_; all_goals refine TR_pv0 PV_move rfl ?_; all_goals refine TR_pv0 (PV_pne_nil rfl rfl) rfl ?_; all_goals refine TR_pv0 PV_move rfl ?_; all_goals refine TR_pv0 PV_move rfl ?_; all_goals refine TR_pv0 PV_move rfl ?_; all_goals refine TR_pv0 (PV_nil rfl) rfl ?_; all_goals refine TR_pv0 (PV_fieldAddr rfl) rfl ?_; all_goals refine TR_load0 rfl 0 rfl rfl rfl ?_; all_goals refine TR_pv0 (PV_len rfl) rfl ?_; all_goals refine TR_pv0 (PV_lss rfl rfl) rfl ?_; all_goals refine TR_pv0 (PV_pick_t rfl) rfl ?_; all_goals refine TR_nil ?_)
          | (refine TC_plain (id := 5) (by kernel_rfl) ?_; all_goals refine TR_pv0 PV_move rfl ?_; all_goals refine TR_pv0 (PV_nil rfl) rfl ?_; all_goals refine TR_pv0 (PV_fieldAddr rfl) rfl ?_; all_goals refine TR_load0 rfl 0 rfl rfl rfl ?_; all_goals refine TR_pv0 PV_move rfl ?_; all_goals refine TR_pv0 (PV_indexAddr hsl rfl (by omega)) rfl ?_; all_goals refine TR_loadAM0 rfl (.head _) 1 rfl cA rfl rfl ?_; all_goals refine TR_calld0 (haw) rfl rfl rfl rfl ?_; all_goals refine TR_pv0 PV_move rfl ?_; all_goals refine TR_pv0 PV_move rfl ?_; all_goals refine TR_pv0 (PV_nil rfl) rfl ?_; all_goals refine TR_pv0 (PV_fieldAddr rfl) rfl ?_; all_goals refine TR_load0 rfl 0 rfl rfl rfl ?_; all_goals refine TR_pv0 PV_move rfl ?_; all_goals refine TR_pv0 (PV_indexAddr hsl rfl (by omega)) rfl ?_; all_goals refine TR_pv0 (PV_fieldAddr rfl) rfl ?_; all_goals refine TR_load0 rfl 1 rfl c7 rfl ?_; all_goals refine TR_pv0 PV_move rfl ?_; all_goals refine TR_pv0 (PV_eql rfl rfl) rfl ?_; all_goals refine TR_pv0 (PV_pick_t rfl) rfl ?_; all_goals refine TR_nil ?_)
          | (refine TC_plain (id := 6) (by kernel_rfl) ?_; refine TR_pv0 PV_move rfl ?_; refine TR_pv0 (PV_nil rfl) rfl ?_; refine TR_pv0 (PV_fieldAddr rfl) rfl ?_; refine TR_load0 rfl 0 rfl rfl rfl ?_; refine TR_pv0 PV_move rfl ?_; refine TR_pv0 (PV_indexAddr hsl rfl (by omega)) rfl ?_; refine TR_pv0 (PV_fieldAddr rfl) rfl ?_; refine TR_store0_1 rfl rfl rfl rfl l12 rfl ?_; refine TR_nil ?_)
          | (refine TC_plain (id := 7) (by kernel_rfl) ?_; refine TR_pv0 PV_move rfl ?_; refine TR_pv0 (PV_add64 rfl rfl (by omega)) rfl ?_; refine TR_pv0 PV_assign rfl ?_; refine TR_nil ?_)
          | (refine TC_plain (id := 4) (by kernel_rfl) ?_; refine TR_pv0 PV_move rfl ?_; refine TR_pv0 (PV_add64 rfl rfl (by omega)) rfl ?_; refine TR_pv0 PV_assign rfl ?_; refine TR_nil ?_)
          | refine TC_skip ?_
          | refine TC_block ?_
          | refine TQ_blk ?_
          | (refine TC_cond rfl rfl (fun hq => ?_) (fun hq => ?_) <;> (try simp only [qs] at hq) <;> (try simp only [reduceCtorEq] at hq) <;> (try (exfalso; omega)) <;> (try contradiction))
        refine TQ_roundP (k + 1, _) ⟨hlt, hU2⟩ (by show X.l.length - (k + 1) < mm; omega) ⟨rfl, rfl, by rw [hn]; rfl, rfl, trivial⟩ (fun w hs => ?_)
        have hs2 : St w₀ w (Y.bk b :: [(rb, .cells (cells.set (off + k * 15 + 12) (.bool true)).toArray 111 (0, 0))] :: qsegs X.l :: R) := hs
        have e9 : (Y.put k { x with r := markR path x.r } (some ⟨rb, off, none⟩) [(rb, .cells (cells.set (off + k * 15 + 12) (.bool true)).toArray 111 (0, 0))]).bk b = Y.bk b := QF.put_bk b ha
        exact hs2.le (Le.of_eq (congrArg (fun z => z :: _ :: qsegs X.l :: R) e9.symm))
      · simp only [hac, hpp, decide_false, Bool.and_true, Bool.false_eq_true, if_false, Int.add_zero] at hn
        rw [hp] at hn
        have hsame : markR path x.r = x.r := by unfold markR; rw [if_neg (by simp [hpp])]
        repeat' first
          | refine TC_seq ?_
          | refine TQ_then ?_
          | (refine TC_plain (id := 3) (by kernel_rfl) ?_; all_goals refine TR_pv0 PV_move rfl ?_; all_goals refine TR_pv0 (PV_pne_nil rfl rfl) rfl ?_; all_goals refine TR_pv0 PV_move rfl ?_; all_goals refine TR_pv0 PV_move rfl ?_; all_goals refine TR_pv0 PV_move rfl ?_; all_goals refine TR_pv0 (PV_nil rfl) rfl ?_; all_goals refine TR_pv0 (PV_fieldAddr rfl) rfl ?_; all_goals refine TR_load0 rfl 0 rfl rfl rfl ?_; all_goals refine TR_pv0 (PV_len rfl) rfl ?_; all_goals refine TR_pv0 (PV_lss rfl rfl) rfl ?_; all_goals refine TR_pv0 (PV_pick_t rfl) rfl ?_; all_goals refine TR_nil ?_)
          | (refine TC_plain (id := 5) (by kernel_rfl) ?_; all_goals refine TR_pv0 PV_move rfl ?_; all_goals refine TR_pv0 (PV_nil rfl) rfl ?_; all_goals refine TR_pv0 (PV_fieldAddr rfl) rfl ?_; all_goals refine TR_load0 rfl 0 rfl rfl rfl ?_; all_goals refine TR_pv0 PV_move rfl ?_; all_goals refine TR_pv0 (PV_indexAddr hsl rfl (by omega)) rfl ?_; all_goals refine TR_loadAM0 rfl (.head _) 1 rfl cA rfl rfl ?_; all_goals refine TR_calld0 (haw) rfl rfl rfl rfl ?_; all_goals refine TR_pv0 PV_move rfl ?_; all_goals refine TR_pv0 PV_move rfl ?_; all_goals refine TR_pv0 (PV_nil rfl) rfl ?_; all_goals refine TR_pv0 (PV_fieldAddr rfl) rfl ?_; all_goals refine TR_load0 rfl 0 rfl rfl rfl ?_; all_goals refine TR_pv0 PV_move rfl ?_; all_goals refine TR_pv0 (PV_indexAddr hsl rfl (by omega)) rfl ?_; all_goals refine TR_pv0 (PV_fieldAddr rfl) rfl ?_; all_goals refine TR_load0 rfl 1 rfl c7 rfl ?_; all_goals refine TR_pv0 PV_move rfl ?_; all_goals refine TR_pv0 (PV_eql rfl rfl) rfl ?_; all_goals refine TR_pv0 (PV_pick_t rfl) rfl ?_; all_goals refine TR_nil ?_)
          | (refine TC_plain (id := 4) (by kernel_rfl) ?_; refine TR_pv0 PV_move rfl ?_; refine TR_pv0 (PV_add64 rfl rfl (by omega)) rfl ?_; refine TR_pv0 PV_assign rfl ?_; refine TR_nil ?_)
          | refine TC_skip ?_
          | refine TC_block ?_
          | refine TQ_blk ?_
          | (refine TC_cond rfl rfl (fun hq => ?_) (fun hq => ?_) <;> (try simp only [qs] at hq) <;> (try simp only [reduceCtorEq] at hq) <;> (try (exfalso; omega)) <;> (try contradiction))
        exact TQ_roundP (k + 1, Y) ⟨hlt, hU.same hx hsame⟩ (by show X.l.length - (k + 1) < mm; omega) ⟨rfl, rfl, by rw [hn]; rfl, rfl, trivial⟩ (fun w hs => hs.le (Le.of_eq (by rw [hC])))
  · obtain rfl : k = X.l.length := by omega
    rw [List.take_of_length_le (by rw [qrecs_length]; omega)]
    repeat' first
      | refine TC_seq ?_
      | refine TQ_then ?_
      | (refine TC_plain (id := 3) (by kernel_rfl) ?_; all_goals refine TR_pv0 PV_move rfl ?_; all_goals refine TR_pv0 (PV_pne_nil rfl rfl) rfl ?_; all_goals refine TR_pv0 PV_move rfl ?_; all_goals refine TR_pv0 PV_move rfl ?_; all_goals refine TR_pv0 PV_move rfl ?_; all_goals refine TR_pv0 (PV_nil rfl) rfl ?_; all_goals refine TR_pv0 (PV_fieldAddr rfl) rfl ?_; all_goals refine TR_load0 rfl 0 rfl rfl rfl ?_; all_goals refine TR_pv0 (PV_len rfl) rfl ?_; all_goals refine TR_pv0 (PV_lss rfl rfl) rfl ?_; all_goals refine TR_pv0 (PV_pick_t rfl) rfl ?_; all_goals refine TR_nil ?_)
      | (refine TC_plain (id := 8) (by kernel_rfl) ?_; refine TR_pv0 PV_move rfl ?_; refine TR_pv0 PV_assign rfl ?_; refine TR_nil ?_)
      | refine TC_ret ?_
      | refine TC_exit ?_
      | refine TQ_then_exit ?_
      | refine TQ_blk_here ?_
      | (refine TC_cond rfl rfl (fun hq => ?_) (fun hq => ?_) <;> (try simp only [qs] at hq) <;> (try simp only [reduceCtorEq] at hq) <;> (try (exfalso; omega)) <;> (try contradiction))
    exact TQ_ret1e (v := i64 (countIf p X.recs)) rfl rfl rfl ⟨rfl, Y, rfl, hU.ok, hU.abs⟩ (fun a => by simp only [les, QF.seg, hU.segs]; omega)

theorem qabandon_ct (b : Nat) (X : QF) (h : QfOk X) (hf : FrOk X.abs) (id : Int) : Ct Try.prog 55 [ptr b, i64 id] [X.seg b]
    (fun v D => v = i64 (livesOf id X.recs) ∧ ∃ X', D = [X'.seg b] ∧ QfOk X' ∧ X'.abs = X.abs.abandon id) := by
  have hlen := QfOk.len hf
  have hlv : livesOf id X.recs = countIf (fun r : FRec => decide (r.id = id) && !r.acked && !r.gone) X.recs := rfl
  have hab : X.abs.abandon id = if livesOf id X.recs = 0 then X.abs else { X.abs with l := X.abs.l.map (goneR id) } := rfl
  rw [hab, hlv]
  clear hab hlv
  generalize hp : (fun r : FRec => decide (r.id = id) && !r.acked && !r.gone) = p
  refine Ct_intro Try.func55 rfl (by simp only [Try.ntmps55, List.length_cons, List.length_nil]; omega) ?_
  intro w₀ R
  refine TC_le (L' := X.bk b :: X.w.C :: qsegs X.l :: R) (fun a => by simp only [les, QF.seg]; omega) ?_
  repeat' first
    | refine TC_seq ?_
    | refine TQ_then ?_
    | (refine TC_plain (id := 0) (by kernel_rfl) ?_; refine TR_pv0 PV_assign rfl ?_; refine TR_nil ?_)
    | (refine TC_plain (id := 1) (by kernel_rfl) ?_; refine TR_pv0 PV_assign rfl ?_; refine TR_nil ?_)
    | (refine TC_plain (id := 2) (by kernel_rfl) ?_; refine TR_pv0 PV_assign rfl ?_; refine TR_nil ?_)
    | refine TC_block ?_
  refine TC_loopP (X := Nat) (fun _ => X.bk b :: X.w.C :: qsegs X.l :: R) (fun k => [(0, ptr b), (1, i64 id), (5, i64 (countIf p (X.recs.take k))), (6, i64 k)]) (fun k => k ≤ X.l.length) (fun k => X.l.length - k) 0 (Nat.zero_le _) ⟨rfl, rfl, rfl, rfl, trivial⟩ (fun w hs => hs) ?_
  rintro k σg mm hmm hk
  have hs0 := hf.cnt p k
  change 0 ≤ countIf p (X.recs.take k) ∧ countIf p (X.recs.take k) ≤ 2048 at hs0
  by_cases hlt : k < X.l.length
  · obtain ⟨x, hx⟩ : ∃ x, X.l[k]? = some x := ⟨_, List.getElem?_eq_getElem hlt⟩
    obtain ⟨rb, off, cells, ha, hC, hat⟩ := qat_of h.row (by omega)
    have hsl : Value.slice X.w.a X.l.length X.w.cap = .slice (some ⟨rb, off, none⟩) X.l.length X.w.cap := by rw [ha]
    have c9 : cells[off + (k : Int).toNat * 15 + 9]? = some (i64 x.r.id) := hat.cell hx (j := 9) (by omega) rfl
    have c11 : cells[off + (k : Int).toNat * 15 + 11]? = some (.bool x.r.acked) := hat.cell hx (j := 11) (by omega) rfl
    have c13 : cells[off + (k : Int).toNat * 15 + 13]? = some (.bool x.r.gone) := hat.cell hx (j := 13) (by omega) rfl
    have hn := countIf_next p (qrecs_at hx)
    rw [← hp] at hn
    refine TC_le (L' := X.bk b :: [(rb, .cells cells.toArray 111 (0, 0))] :: qsegs X.l :: R) (Le.of_eq (by rw [hC])) ?_
    by_cases hid : x.r.id = id
    · cases hac : x.r.acked with
      | true =>
        rw [hac] at c11
        simp only [hac, hid, decide_true, Bool.not_true, Bool.and_false, Bool.false_and, Bool.false_eq_true, if_false, Int.add_zero] at hn
        rw [hp] at hn
        repeat' first
          | refine TC_seq ?_
          | refine TQ_then ?_
          | (refine TC_plain (id := 3) (by kernel_rfl) ?_; all_goals refine TR_pv0 PV_move rfl ?_; all_goals refine TR_pv0 (PV_pne_nil rfl rfl) rfl ?_; all_goals refine TR_pv0 PV_move rfl ?_; all_goals refine TR_pv0 PV_move rfl ?_; all_goals refine TR_pv0 PV_move rfl ?_; all_goals refine TR_pv0 (PV_nil rfl) rfl ?_; all_goals refine TR_pv0 (PV_fieldAddr rfl) rfl ?_; all_goals refine TR_load0 rfl 0 rfl rfl rfl ?_; all_goals refine TR_pv0 (PV_len rfl) rfl ?_; all_goals refine TR_pv0 (PV_lss rfl rfl) rfl ?_; all_goals refine TR_pv0 (PV_pick_t rfl) rfl ?_; all_goals refine TR_nil ?_)
          | (refine TC_plain (id := 5) (by kernel_rfl) ?_; all_goals refine TR_pv0 PV_move rfl ?_; all_goals refine TR_pv0 (PV_nil rfl) rfl ?_; all_goals refine TR_pv0 (PV_fieldAddr rfl) rfl ?_; all_goals refine TR_load0 rfl 0 rfl rfl rfl ?_; all_goals refine TR_pv0 PV_move rfl ?_; all_goals refine TR_pv0 (PV_indexAddr hsl rfl (by omega)) rfl ?_; all_goals refine TR_pv0 (PV_fieldAddr rfl) rfl ?_; all_goals refine TR_load0 rfl 1 rfl c9 rfl ?_; all_goals refine TR_pv0 PV_move rfl ?_; all_goals refine TR_pv0 (PV_eql rfl rfl) rfl ?_; all_goals refine TR_pv0 PV_move rfl ?_; all_goals (refine TR_gsplit rfl rfl rfl (fun hq => ?_) (fun hq => ?_) <;> (try simp only [qs] at hq) <;> (try simp only [reduceCtorEq] at hq) <;> (try (exfalso; omega)) <;> (try contradiction) <;> refine TR_pv0 PV_move rfl ?_); all_goals refine TR_pv0 (PV_nil rfl) rfl ?_; all_goals refine TR_pv0 (PV_fieldAddr rfl) rfl ?_; all_goals refine TR_load0 rfl 0 rfl rfl rfl ?_; all_goals refine TR_pv0 PV_move rfl ?_; all_goals refine TR_pv0 (PV_indexAddr hsl rfl (by omega)) rfl ?_; all_goals refine TR_pv0 (PV_fieldAddr rfl) rfl ?_; all_goals refine TR_load0 rfl 1 rfl c11 rfl ?_; all_goals refine TR_pv0 (PV_not rfl) rfl ?_; all_goals refine TR_pv0 (PV_pick_t rfl) rfl ?_; all_goals refine TR_pv0 PV_move rfl ?_; all_goals refine TR_skip0 rfl ?_; all_goals refine TR_skip0 rfl ?_; all_goals refine TR_skip0 rfl ?_; all_goals refine TR_skip0 rfl ?_; all_goals refine TR_skip0 rfl ?_; all_goals refine TR_skip0 rfl ?_; all_goals refine TR_skip0 rfl ?_; all_goals refine TR_skip0 rfl ?_; all_goals refine TR_skip0 rfl ?_; all_goals refine TR_pv0 (PV_pick_f rfl) rfl ?_; all_goals refine TR_nil ?_)
          | (refine TC_plain (id := 4) (by kernel_rfl) ?_; refine TR_pv0 PV_move rfl ?_; refine TR_pv0 (PV_add64 rfl rfl (by omega)) rfl ?_; refine TR_pv0 PV_assign rfl ?_; refine TR_nil ?_)
          | refine TC_cond_f rfl rfl ?_
          | refine TC_skip ?_
          | refine TC_block ?_
          | refine TQ_blk ?_
          | (refine TC_cond rfl rfl (fun hq => ?_) (fun hq => ?_) <;> (try simp only [qs] at hq) <;> (try simp only [reduceCtorEq] at hq) <;> (try (exfalso; omega)) <;> (try contradiction))
        exact TQ_roundP (k + 1) hlt (by show X.l.length - (k + 1) < mm; omega) ⟨rfl, rfl, by rw [hn]; rfl, rfl, trivial⟩ (fun w hs => hs.le (Le.of_eq (by rw [hC])))
      | false =>
        rw [hac] at c11
        cases hgo : x.r.gone with
        | true =>
          rw [hgo] at c13
          simp only [hac, hgo, hid, decide_true, Bool.not_true, Bool.not_false, Bool.and_false, Bool.and_true, Bool.false_eq_true, if_false, Int.add_zero] at hn
          rw [hp] at hn
          repeat' first
            | refine TC_seq ?_
            | refine TQ_then ?_
            | (refine TC_plain (id := 3) (by kernel_rfl) ?_; all_goals refine TR_pv0 PV_move rfl ?_; all_goals refine TR_pv0 (PV_pne_nil rfl rfl) rfl ?_; all_goals refine TR_pv0 PV_move rfl ?_; all_goals refine TR_pv0 PV_move rfl ?_; all_goals refine TR_pv0 PV_move rfl ?_; all_goals refine TR_pv0 (PV_nil rfl) rfl ?_; all_goals refine TR_pv0 (PV_fieldAddr rfl) rfl ?_; all_goals refine TR_load0 rfl 0 rfl rfl rfl ?_; all_goals refine TR_pv0 (PV_len rfl) rfl ?_; all_goals refine TR_pv0 (PV_lss rfl rfl) rfl ?_; all_goals refine TR_pv0 (PV_pick_t rfl) rfl ?_; all_goals refine TR_nil ?_)
            | (refine TC_plain (id := 5) (by kernel_rfl) ?_; all_goals refine TR_pv0 PV_move rfl ?_; all_goals refine TR_pv0 (PV_nil rfl) rfl ?_; all_goals refine TR_pv0 (PV_fieldAddr rfl) rfl ?_; all_goals refine TR_load0 rfl 0 rfl rfl rfl ?_; all_goals refine TR_pv0 PV_move rfl ?_; all_goals refine TR_pv0 (PV_indexAddr hsl rfl (by omega)) rfl ?_; all_goals refine TR_pv0 (PV_fieldAddr rfl) rfl ?_; all_goals refine TR_load0 rfl 1 rfl c9 rfl ?_; all_goals refine TR_pv0 PV_move rfl ?_; all_goals refine TR_pv0 (PV_eql rfl rfl) rfl ?_; all_goals refine TR_pv0 PV_move rfl ?_; all_goals (refine TR_gsplit rfl rfl rfl (fun hq => ?_) (fun hq => ?_) <;> (try simp only [qs] at hq) <;> (try simp only [reduceCtorEq] at hq) <;> (try (exfalso; omega)) <;> (try contradiction) <;> refine TR_pv0 PV_move rfl ?_); all_goals refine TR_pv0 (PV_nil rfl) rfl ?_; all_goals refine TR_pv0 (PV_fieldAddr rfl) rfl ?_; all_goals refine TR_load0 rfl 0 rfl rfl rfl ?_; all_goals refine TR_pv0 PV_move rfl ?_; all_goals refine TR_pv0 (PV_indexAddr hsl rfl (by omega)) rfl ?_; all_goals refine TR_pv0 (PV_fieldAddr rfl) rfl ?_; all_goals refine TR_load0 rfl 1 rfl c11 rfl ?_; all_goals refine TR_pv0 (PV_not rfl) rfl ?_; all_goals refine TR_pv0 (PV_pick_t rfl) rfl ?_; all_goals refine TR_pv0 PV_move rfl ?_; all_goals refine TR_pv0 PV_move rfl ?_; all_goals refine TR_pv0 (PV_nil rfl) rfl ?_; all_goals refine TR_pv0 (PV_fieldAddr rfl) rfl ?_; all_goals refine TR_load0 rfl 0 rfl rfl rfl ?_; all_goals refine TR_pv0 PV_move rfl ?_; all_goals refine TR_pv0 (PV_indexAddr hsl rfl (by omega)) rfl ?_; all_goals refine TR_pv0 (PV_fieldAddr rfl) rfl ?_; all_goals refine TR_load0 rfl 1 rfl c13 rfl ?_; all_goals refine TR_pv0 (PV_not rfl) rfl ?_; all_goals refine TR_pv0 (PV_pick_t rfl) rfl ?_; all_goals refine TR_nil ?_)
            | (refine TC_plain (id := 4) (by kernel_rfl) ?_; refine TR_pv0 PV_move rfl ?_; refine TR_pv0 (PV_add64 rfl rfl (by omega)) rfl ?_; refine TR_pv0 PV_assign rfl ?_; refine TR_nil ?_)
            | refine TC_cond_f rfl rfl ?_
            | refine TC_skip ?_
            | refine TC_block ?_
            | refine TQ_blk ?_
            | (refine TC_cond rfl rfl (fun hq => ?_) (fun hq => ?_) <;> (try simp only [qs] at hq) <;> (try simp only [reduceCtorEq] at hq) <;> (try (exfalso; omega)) <;> (try contradiction))
          exact TQ_roundP (k + 1) hlt (by show X.l.length - (k + 1) < mm; omega) ⟨rfl, rfl, by rw [hn]; rfl, rfl, trivial⟩ (fun w hs => hs.le (Le.of_eq (by rw [hC])))
        | false =>
          rw [hgo] at c13
          simp only [hac, hgo, hid, decide_true, Bool.not_false, Bool.and_true, if_true] at hn
          rw [hp] at hn
          repeat' first
            | refine TC_seq ?_
            | refine TQ_then ?_
            | (refine TC_plain (id := 3) (by kernel_rfl) ?_; all_goals refine TR_pv0 PV_move rfl ?_; all_goals refine TR_pv0 (PV_pne_nil rfl rfl) rfl ?_; all_goals refine TR_pv0 PV_move rfl ?_; all_goals refine TR_pv0 PV_move rfl ?_; all_goals refine TR_pv0 PV_move rfl ?_; all_goals refine TR_pv0 (PV_nil rfl) rfl ?_; all_goals refine TR_pv0 (PV_fieldAddr rfl) rfl ?_; all_goals refine TR_load0 rfl 0 rfl rfl rfl ?_; all_goals refine TR_pv0 (PV_len rfl) rfl ?_; all_goals refine TR_pv0 (PV_lss rfl rfl) rfl ?_; all_goals refine TR_pv0 (PV_pick_t rfl) rfl ?_; all_goals refine TR_nil ?_)
            | (refine TC_plain (id := 5) (by kernel_rfl) ?_; all_goals refine TR_pv0 PV_move rfl ?_; all_goals refine TR_pv0 (PV_nil rfl) rfl ?_; all_goals refine TR_pv0 (PV_fieldAddr rfl) rfl ?_; all_goals refine TR_load0 rfl 0 rfl rfl rfl ?_; all_goals refine TR_pv0 PV_move rfl ?_; all_goals refine TR_pv0 (PV_indexAddr hsl rfl (by omega)) rfl ?_; all_goals refine TR_pv0 (PV_fieldAddr rfl) rfl ?_; all_goals refine TR_load0 rfl 1 rfl c9 rfl ?_; all_goals refine TR_pv0 PV_move rfl ?_; all_goals refine TR_pv0 (PV_eql rfl rfl) rfl ?_; all_goals refine TR_pv0 PV_move rfl ?_; all_goals (refine TR_gsplit rfl rfl rfl (fun hq => ?_) (fun hq => ?_) <;> (try simp only [qs] at hq) <;> (try simp only [reduceCtorEq] at hq) <;> (try (exfalso; omega)) <;> (try contradiction) <;> refine TR_pv0 PV_move rfl ?_); all_goals refine TR_pv0 (PV_nil rfl) rfl ?_; all_goals refine TR_pv0 (PV_fieldAddr rfl) rfl ?_; all_goals refine TR_load0 rfl 0 rfl rfl rfl ?_; all_goals refine TR_pv0 PV_move rfl ?_; all_goals refine TR_pv0 (PV_indexAddr hsl rfl (by omega)) rfl ?_; all_goals refine TR_pv0 (PV_fieldAddr rfl) rfl ?_; all_goals refine TR_load0 rfl 1 rfl c11 rfl ?_; all_goals refine TR_pv0 (PV_not rfl) rfl ?_; all_goals refine TR_pv0 (PV_pick_t rfl) rfl ?_; all_goals refine TR_pv0 PV_move rfl ?_; all_goals refine TR_pv0 PV_move rfl ?_; all_goals refine TR_pv0 (PV_nil rfl) rfl ?_; all_goals refine TR_pv0 (PV_fieldAddr rfl) rfl ?_; all_goals refine TR_load0 rfl 0 rfl rfl rfl ?_; all_goals refine TR_pv0 PV_move rfl ?_; all_goals refine TR_pv0 (PV_indexAddr hsl rfl (by omega)) rfl ?_; all_goals refine TR_pv0 (PV_fieldAddr rfl) rfl ?_; all_goals refine TR_load0 rfl 1 rfl c13 rfl ?_; all_goals refine TR_pv0 (PV_not rfl) rfl ?_; all_goals refine TR_pv0 (PV_pick_t rfl) rfl ?_; all_goals refine TR_nil ?_)
            | (refine TC_plain (id := 6) (by kernel_rfl) ?_; refine TR_pv0 PV_move rfl ?_; refine TR_pv0 (PV_add64 rfl rfl (by omega)) rfl ?_; refine TR_pv0 PV_assign rfl ?_; refine TR_nil ?_)
            | (refine TC_plain (id := 4) (by kernel_rfl) ?_; refine TR_pv0 PV_move rfl ?_; refine TR_pv0 (PV_add64 rfl rfl (by omega)) rfl ?_; refine TR_pv0 PV_assign rfl ?_; refine TR_nil ?_)
            | refine TC_cond_t rfl rfl ?_
            | refine TC_skip ?_
            | refine TC_block ?_
            | refine TQ_blk ?_
            | (refine TC_cond rfl rfl (fun hq => ?_) (fun hq => ?_) <;> (try simp only [qs] at hq) <;> (try simp only [reduceCtorEq] at hq) <;> (try (exfalso; omega)) <;> (try contradiction))
          exact TQ_roundP (k + 1) hlt (by show X.l.length - (k + 1) < mm; omega) ⟨rfl, rfl, by rw [hn]; rfl, rfl, trivial⟩ (fun w hs => hs.le (Le.of_eq (by rw [hC])))
    · simp only [hid, decide_false, Bool.false_and, Bool.false_eq_true, if_false, Int.add_zero] at hn
      rw [hp] at hn
      repeat' first
        | refine TC_seq ?_
        | refine TQ_then ?_
        | (refine TC_plain (id := 3) (by kernel_rfl) ?_; all_goals refine TR_pv0 PV_move rfl ?_; all_goals refine TR_pv0 (PV_pne_nil rfl rfl) rfl ?_; all_goals refine TR_pv0 PV_move rfl ?_; all_goals refine TR_pv0 PV_move rfl ?_; all_goals refine TR_pv0 PV_move rfl ?_; all_goals refine TR_pv0 (PV_nil rfl) rfl ?_; all_goals refine TR_pv0 (PV_fieldAddr rfl) rfl ?_; all_goals refine TR_load0 rfl 0 rfl rfl rfl ?_; all_goals refine TR_pv0 (PV_len rfl) rfl ?_; all_goals refine TR_pv0 (PV_lss rfl rfl) rfl ?_; all_goals refine TR_pv0 (PV_pick_t rfl) rfl ?_; all_goals refine TR_nil ?_)
        | (refine TC_plain (id := 5) (by kernel_rfl) ?_; all_goals refine TR_pv0 PV_move rfl ?_; all_goals refine TR_pv0 (PV_nil rfl) rfl ?_; all_goals refine TR_pv0 (PV_fieldAddr rfl) rfl ?_; all_goals refine TR_load0 rfl 0 rfl rfl rfl ?_; all_goals refine TR_pv0 PV_move rfl ?_; all_goals refine TR_pv0 (PV_indexAddr hsl rfl (by omega)) rfl ?_; all_goals refine TR_pv0 (PV_fieldAddr rfl) rfl ?_; all_goals refine TR_load0 rfl 1 rfl c9 rfl ?_; all_goals refine TR_pv0 PV_move rfl ?_; all_goals refine TR_pv0 (PV_eql rfl rfl) rfl ?_; all_goals refine TR_pv0 PV_move rfl ?_; all_goals (refine TR_gsplit rfl rfl rfl (fun hq => ?_) (fun hq => ?_) <;> (try simp only [qs] at hq) <;> (try simp only [reduceCtorEq] at hq) <;> (try (exfalso; omega)) <;> (try contradiction) <;> refine TR_skip0 rfl ?_); all_goals refine TR_skip0 rfl ?_; all_goals refine TR_skip0 rfl ?_; all_goals refine TR_skip0 rfl ?_; all_goals refine TR_skip0 rfl ?_; all_goals refine TR_skip0 rfl ?_; all_goals refine TR_skip0 rfl ?_; all_goals refine TR_skip0 rfl ?_; all_goals refine TR_skip0 rfl ?_; all_goals refine TR_pv0 (PV_pick_f rfl) rfl ?_; all_goals refine TR_pv0 PV_move rfl ?_; all_goals refine TR_skip0 rfl ?_; all_goals refine TR_skip0 rfl ?_; all_goals refine TR_skip0 rfl ?_; all_goals refine TR_skip0 rfl ?_; all_goals refine TR_skip0 rfl ?_; all_goals refine TR_skip0 rfl ?_; all_goals refine TR_skip0 rfl ?_; all_goals refine TR_skip0 rfl ?_; all_goals refine TR_skip0 rfl ?_; all_goals refine TR_pv0 (PV_pick_f rfl) rfl ?_; all_goals refine TR_nil ?_)
        | (refine TC_plain (id := 4) (by kernel_rfl) ?_; refine TR_pv0 PV_move rfl ?_; refine TR_pv0 (PV_add64 rfl rfl (by omega)) rfl ?_; refine TR_pv0 PV_assign rfl ?_; refine TR_nil ?_)
        | refine TC_cond_f rfl rfl ?_
        | refine TC_skip ?_
        | refine TC_block ?_
        | refine TQ_blk ?_
        | (refine TC_cond rfl rfl (fun hq => ?_) (fun hq => ?_) <;> (try simp only [qs] at hq) <;> (try simp only [reduceCtorEq] at hq) <;> (try (exfalso; omega)) <;> (try contradiction))
      exact TQ_roundP (k + 1) hlt (by show X.l.length - (k + 1) < mm; omega) ⟨rfl, rfl, by rw [hn]; rfl, rfl, trivial⟩ (fun w hs => hs.le (Le.of_eq (by rw [hC])))
  obtain rfl : k = X.l.length := by omega
  rw [List.take_of_length_le (by rw [qrecs_length]; omega)] at hs0 ⊢
  repeat' first
    | refine TC_seq ?_
    | refine TQ_then ?_
    | (refine TC_plain (id := 3) (by kernel_rfl) ?_; all_goals refine TR_pv0 PV_move rfl ?_; all_goals refine TR_pv0 (PV_pne_nil rfl rfl) rfl ?_; all_goals refine TR_pv0 PV_move rfl ?_; all_goals refine TR_pv0 PV_move rfl ?_; all_goals refine TR_pv0 PV_move rfl ?_; all_goals refine TR_pv0 (PV_nil rfl) rfl ?_; all_goals refine TR_pv0 (PV_fieldAddr rfl) rfl ?_; all_goals refine TR_load0 rfl 0 rfl rfl rfl ?_; all_goals refine TR_pv0 (PV_len rfl) rfl ?_; all_goals refine TR_pv0 (PV_lss rfl rfl) rfl ?_; all_goals refine TR_pv0 (PV_pick_t rfl) rfl ?_; all_goals refine TR_nil ?_)
    | (refine TC_plain (id := 7) (by kernel_rfl) ?_; refine TR_pv0 PV_assign rfl ?_; refine TR_nil ?_)
    | refine TC_exit ?_
    | refine TC_block ?_
    | refine TQ_then_exit ?_
    | refine TQ_blk_here ?_
    | (refine TC_cond rfl rfl (fun hq => ?_) (fun hq => ?_) <;> (try simp only [qs] at hq) <;> (try simp only [reduceCtorEq] at hq) <;> (try (exfalso; omega)) <;> (try contradiction))
  refine TC_loopP (X := Nat × QF) (fun s => s.2.bk b :: s.2.w.C :: qsegs X.l :: R) (fun s => [(0, ptr b), (1, i64 id), (5, i64 (countIf p X.recs)), (7, i64 s.1)]) (fun s => s.1 ≤ X.l.length ∧ Up X s.2 (goneR id) s.1 ∧ (countIf p X.recs = 0 → s.2 = X)) (fun s => X.l.length - s.1) (0, X) ⟨Nat.zero_le _, .zero h _, fun _ => rfl⟩ ⟨rfl, rfl, rfl, rfl, trivial⟩ (fun w hs => hs) ?_
  rintro ⟨k, Y⟩ σg mm hmm ⟨hk, hU, hz⟩
  dsimp only at hmm hk hU hz ⊢
  have hyl := hU.len
  by_cases hzero : countIf p X.recs = 0
  · obtain rfl := hz hzero
    rw [if_pos hzero]
    repeat' first
      | refine TC_seq ?_
      | refine TQ_then ?_
      | (refine TC_plain (id := 8) (by kernel_rfl) ?_; all_goals refine TR_pv0 PV_move rfl ?_; all_goals refine TR_pv0 (PV_gtr rfl rfl) rfl ?_; all_goals refine TR_pv0 PV_move rfl ?_; all_goals (refine TR_gsplit rfl rfl rfl (fun hq => ?_) (fun hq => ?_) <;> (try simp only [qs] at hq) <;> (try simp only [reduceCtorEq] at hq) <;> (try (exfalso; omega)) <;> (try contradiction) <;> refine TR_skip0 rfl ?_); all_goals refine TR_skip0 rfl ?_; all_goals refine TR_skip0 rfl ?_; all_goals refine TR_skip0 rfl ?_; all_goals refine TR_skip0 rfl ?_; all_goals refine TR_skip0 rfl ?_; all_goals refine TR_skip0 rfl ?_; all_goals refine TR_pv0 (PV_pick_f rfl) rfl ?_; all_goals refine TR_nil ?_)
      | (refine TC_plain (id := 12) (by kernel_rfl) ?_; refine TR_pv0 PV_move rfl ?_; refine TR_pv0 PV_assign rfl ?_; refine TR_nil ?_)
      | refine TC_cond_f rfl rfl ?_
      | refine TC_ret ?_
      | refine TC_exit ?_
      | refine TQ_then_exit ?_
      | refine TQ_blk_here ?_
    exact TQ_ret1e (v := i64 (countIf p Y.recs)) rfl rfl rfl ⟨rfl, Y, rfl, h, rfl⟩ (fun a => by simp only [les, QF.seg]; omega)
  rw [if_neg hzero]
  by_cases hlt : k < X.l.length
  · obtain ⟨x, hx⟩ : ∃ x, X.l[k]? = some x := ⟨_, List.getElem?_eq_getElem hlt⟩
    have hy : Y.l[k]? = some x := by rw [hU.get (Nat.le_refl _)]; exact hx
    obtain ⟨rb, off, cells, ha, hC, hat⟩ := qat_of hU.ok.row (by omega)
    have hsl : Value.slice Y.w.a Y.l.length Y.w.cap = .slice (some ⟨rb, off, none⟩) Y.l.length Y.w.cap := by rw [ha]
    have c9 : cells[off + (k : Int).toNat * 15 + 9]? = some (i64 x.r.id) := hat.cell hy (j := 9) (by omega) rfl
    have l13 : Nat.blt (off + (k : Int).toNat * 15 + 13) cells.length = true := hat.blt (by omega) (by omega)
    refine TC_le (L' := Y.bk b :: [(rb, .cells cells.toArray 111 (0, 0))] :: qsegs X.l :: R) (Le.of_eq (by rw [hC])) ?_
    by_cases hid : x.r.id = id
    · have hmk : goneR id x.r = { x.r with gone := true } := by unfold goneR; rw [if_pos hid]
      have hst := hat.store hy (y := { x with r := goneR id x.r }) (j := 13) (v := .bool true) (by omega) (by rw [hmk]; rfl)
      have hU2 := hU.put (rb := rb) hx (by rw [hmk]) hst
      repeat' first
        | refine TC_seq ?_
        | refine TQ_then ?_
        | (refine TC_plain (id := 8) (by kernel_rfl) ?_; all_goals refine TR_pv0 PV_move rfl ?_; all_goals refine TR_pv0 (PV_gtr rfl rfl) rfl ?_; all_goals refine TR_pv0 PV_move rfl ?_; all_goals (refine TR_gsplit rfl rfl rfl (fun hq => ?_) (fun hq => ?_) <;> (try simp only [qs] at hq) <;> (try simp only [reduceCtorEq] at hq) <;> (try (exfalso; omega)) <;> (try contradiction) <;> refine TR_pv0 PV_move rfl ?_); all_goals refine TR_pv0 PV_move rfl ?_; all_goals refine TR_pv0 (PV_nil rfl) rfl ?_; all_goals refine TR_pv0 (PV_fieldAddr rfl) rfl ?_; all_goals refine TR_load0 rfl 0 rfl rfl rfl ?_; all_goals refine TR_pv0 (PV_len rfl) rfl ?_; all_goals refine TR_pv0 (PV_lss rfl rfl) rfl ?_; all_goals refine TR_pv0 (PV_pick_t rfl) rfl ?_; all_goals refine TR_nil ?_)
        | (refine TC_plain (id := 10) (by kernel_rfl) ?_; refine TR_pv0 PV_move rfl ?_; refine TR_pv0 (PV_nil rfl) rfl ?_; refine TR_pv0 (PV_fieldAddr rfl) rfl ?_; refine TR_load0 rfl 0 rfl rfl rfl ?_; refine TR_pv0 PV_move rfl ?_; refine TR_pv0 (PV_indexAddr hsl rfl (by omega)) rfl ?_; refine TR_pv0 (PV_fieldAddr rfl) rfl ?_; refine TR_load0 rfl 1 rfl c9 rfl ?_; refine TR_pv0 PV_move rfl ?_; refine TR_pv0 (PV_eql rfl rfl) rfl ?_; refine TR_nil ?_)
        | (refine TC_plain (id := 11) (by kernel_rfl) ?_; refine TR_pv0 PV_move rfl ?_; refine TR_pv0 (PV_nil rfl) rfl ?_; refine TR_pv0 (PV_fieldAddr rfl) rfl ?_; refine TR_load0 rfl 0 rfl rfl rfl ?_; refine TR_pv0 PV_move rfl ?_; refine TR_pv0 (PV_indexAddr hsl rfl (by omega)) rfl ?_; refine TR_pv0 (PV_fieldAddr rfl) rfl ?_; refine TR_store0_1 rfl rfl rfl rfl l13 rfl ?_; refine TR_nil ?_)
        | (refine TC_plain (id := 9) (by kernel_rfl) ?_; refine TR_pv0 PV_move rfl ?_; refine TR_pv0 (PV_add64 rfl rfl (by omega)) rfl ?_; refine TR_pv0 PV_assign rfl ?_; refine TR_nil ?_)
        | refine TC_skip ?_
        | refine TC_block ?_
        | refine TQ_blk ?_
        | (refine TC_cond rfl rfl (fun hq => ?_) (fun hq => ?_) <;> (try simp only [qs] at hq) <;> (try simp only [reduceCtorEq] at hq) <;> (try (exfalso; omega)) <;> (try contradiction))
      refine TQ_roundP (k + 1, _) ⟨hlt, hU2, fun e => absurd e hzero⟩ (by show X.l.length - (k + 1) < mm; omega) ⟨rfl, rfl, rfl, rfl, trivial⟩ (fun w hs => ?_)
      have hs2 : St w₀ w (Y.bk b :: [(rb, .cells (cells.set (off + k * 15 + 13) (.bool true)).toArray 111 (0, 0))] :: qsegs X.l :: R) := hs
      have e9 : (Y.put k { x with r := goneR id x.r } (some ⟨rb, off, none⟩) [(rb, .cells (cells.set (off + k * 15 + 13) (.bool true)).toArray 111 (0, 0))]).bk b = Y.bk b := QF.put_bk b ha
      exact hs2.le (Le.of_eq (congrArg (fun z => z :: _ :: qsegs X.l :: R) e9.symm))
    · have hsame : goneR id x.r = x.r := by unfold goneR; rw [if_neg hid]
      repeat' first
        | refine TC_seq ?_
        | refine TQ_then ?_
        | (refine TC_plain (id := 8) (by kernel_rfl) ?_; all_goals refine TR_pv0 PV_move rfl ?_; all_goals refine TR_pv0 (PV_gtr rfl rfl) rfl ?_; all_goals refine TR_pv0 PV_move rfl ?_; all_goals (refine TR_gsplit rfl rfl rfl (fun hq => ?_) (fun hq => ?_) <;> (try simp only [qs] at hq) <;> (try simp only [reduceCtorEq] at hq) <;> (try (exfalso; omega)) <;> (try contradiction) <;> refine TR_pv0 PV_move rfl ?_); all_goals refine TR_pv0 PV_move rfl ?_; all_goals refine TR_pv0 (PV_nil rfl) rfl ?_; all_goals refine TR_pv0 (PV_fieldAddr rfl) rfl ?_; all_goals refine TR_load0 rfl 0 rfl rfl rfl ?_; all_goals refine TR_pv0 (PV_len rfl) rfl ?_; all_goals refine TR_pv0 (PV_lss rfl rfl) rfl ?_; all_goals refine TR_pv0 (PV_pick_t rfl) rfl ?_; all_goals refine TR_nil ?_)
        | (refine TC_plain (id := 10) (by kernel_rfl) ?_; refine TR_pv0 PV_move rfl ?_; refine TR_pv0 (PV_nil rfl) rfl ?_; refine TR_pv0 (PV_fieldAddr rfl) rfl ?_; refine TR_load0 rfl 0 rfl rfl rfl ?_; refine TR_pv0 PV_move rfl ?_; refine TR_pv0 (PV_indexAddr hsl rfl (by omega)) rfl ?_; refine TR_pv0 (PV_fieldAddr rfl) rfl ?_; refine TR_load0 rfl 1 rfl c9 rfl ?_; refine TR_pv0 PV_move rfl ?_; refine TR_pv0 (PV_eql rfl rfl) rfl ?_; refine TR_nil ?_)
        | (refine TC_plain (id := 9) (by kernel_rfl) ?_; refine TR_pv0 PV_move rfl ?_; refine TR_pv0 (PV_add64 rfl rfl (by omega)) rfl ?_; refine TR_pv0 PV_assign rfl ?_; refine TR_nil ?_)
        | refine TC_skip ?_
        | refine TC_block ?_
        | refine TQ_blk ?_
        | (refine TC_cond rfl rfl (fun hq => ?_) (fun hq => ?_) <;> (try simp only [qs] at hq) <;> (try simp only [reduceCtorEq] at hq) <;> (try (exfalso; omega)) <;> (try contradiction))
      exact TQ_roundP (k + 1, Y) ⟨hlt, hU.same hx hsame, fun e => absurd e hzero⟩ (by show X.l.length - (k + 1) < mm; omega) ⟨rfl, rfl, rfl, rfl, trivial⟩ (fun w hs => hs.le (Le.of_eq (by rw [hC])))
  · obtain rfl : k = X.l.length := by omega
    repeat' first
      | refine TC_seq ?_
      | refine TQ_then ?_
      | (refine TC_plain (id := 8) (by kernel_rfl) ?_; all_goals refine TR_pv0 PV_move rfl ?_; all_goals refine TR_pv0 (PV_gtr rfl rfl) rfl ?_; all_goals refine TR_pv0 PV_move rfl ?_; all_goals (refine TR_gsplit rfl rfl rfl (fun hq => ?_) (fun hq => ?_) <;> (try simp only [qs] at hq) <;> (try simp only [reduceCtorEq] at hq) <;> (try (exfalso; omega)) <;> (try contradiction) <;> refine TR_pv0 PV_move rfl ?_); all_goals refine TR_pv0 PV_move rfl ?_; all_goals refine TR_pv0 (PV_nil rfl) rfl ?_; all_goals refine TR_pv0 (PV_fieldAddr rfl) rfl ?_; all_goals refine TR_load0 rfl 0 rfl rfl rfl ?_; all_goals refine TR_pv0 (PV_len rfl) rfl ?_; all_goals refine TR_pv0 (PV_lss rfl rfl) rfl ?_; all_goals refine TR_pv0 (PV_pick_t rfl) rfl ?_; all_goals refine TR_nil ?_)
      | (refine TC_plain (id := 12) (by kernel_rfl) ?_; refine TR_pv0 PV_move rfl ?_; refine TR_pv0 PV_assign rfl ?_; refine TR_nil ?_)
      | refine TC_ret ?_
      | refine TC_exit ?_
      | refine TQ_then_exit ?_
      | refine TQ_blk_here ?_
      | (refine TC_cond rfl rfl (fun hq => ?_) (fun hq => ?_) <;> (try simp only [qs] at hq) <;> (try simp only [reduceCtorEq] at hq) <;> (try (exfalso; omega)) <;> (try contradiction))
    exact TQ_ret1e (v := i64 (countIf p X.recs)) rfl rfl rfl ⟨rfl, Y, rfl, hU.ok, hU.abs⟩ (fun a => by simp only [les, QF.seg, hU.segs]; omega)

/-! ### Point -/
structure QPt (X : QF) (k : Nat) (row : Row) (l : List PL) : Prop where
  kn : k ≤ X.l.length
  gone : ∀ r ∈ X.recs.take k, r.gone = true
  d : l.map (·.d) = (X.recs.take k).map (·.d)
  ok : ∀ x ∈ l, x.ok
  row : row.ok 32 7 k (pcells l)
theorem qpoint_ct (b : Nat) (X : QF) (h : QfOk X) (hf : FrOk X.abs) : Ct Try.prog 35 [ptr b] [X.seg b]
    (fun v D => ∃ (row : Row) (l : List PL), v = .tuple #[u32 ((X.cum + l.length) % 4294967296), row.val l.length] ∧ D = [row.C ++ psegs l, X.seg b] ∧ row.ok 32 7 l.length (pcells l) ∧ (∀ x ∈ l, x.ok) ∧
      l.map (·.d) = X.abs.over ∧ l.length ≤ 2048) := by
  have hlen := QfOk.len hf
  have hc0 := hf.c0
  have hc1 := hf.c1
  change 0 ≤ X.cum at hc0
  change X.cum ≤ 4294967295 at hc1
  have fin : ∀ (k : Nat) (row : Row) (l : List PL), QPt X k row l → (k = X.l.length ∨ ∃ r, X.recs[k]? = some r ∧ r.gone = false) → l.length = k ∧ l.map (·.d) = X.abs.over := fun k row l hi hs => by
    have e1 : l.length = k := by have := congrArg List.length hi.d; simp only [List.length_map, List.length_take, qrecs_length] at this; have := hi.kn; omega
    refine ⟨e1, ?_⟩
    rw [hi.d, Flt.over]
    have := over_stop (l := X.recs) (k := k) (by rw [qrecs_length]; exact hi.kn) hi.gone (by rw [qrecs_length]; exact hs)
    show _ = (X.recs.takeWhile (·.gone)).map (·.d)
    rw [this]
  refine Ct_intro Try.func35 rfl (by simp only [Try.ntmps35, List.length_cons, List.length_nil]; omega) ?_
  intro w₀ R
  refine TC_le (L' := X.bk b :: X.w.C :: qsegs X.l :: R) (fun a => by simp only [les, QF.seg]; omega) ?_
  repeat' first
    | refine TC_seq ?_
    | refine TQ_then ?_
    | (refine TC_plain (id := 0) (by kernel_rfl) ?_; refine TR_pv0 PV_assign rfl ?_; refine TR_pv0 PV_assign rfl ?_; refine TR_nil ?_)
    | (refine TC_plain (id := 1) (by kernel_rfl) ?_; refine TR_pv0 PV_move rfl ?_; refine TR_pv0 (PV_peq_nil rfl rfl) rfl ?_; refine TR_nil ?_)
    | (refine TC_plain (id := 3) (by kernel_rfl) ?_; refine TR_pv0 PV_move rfl ?_; refine TR_pv0 (PV_nil rfl) rfl ?_; refine TR_pv0 (PV_fieldAddr rfl) rfl ?_; refine TR_load0 rfl 0 rfl rfl rfl ?_; refine TR_pv0 PV_assign rfl ?_; refine TR_nil ?_)
    | (refine TC_plain (id := 4) (by kernel_rfl) ?_; refine TR_pv0 PV_assign rfl ?_; refine TR_nil ?_)
    | (refine TC_plain (id := 5) (by kernel_rfl) ?_; refine TR_pv0 PV_assign rfl ?_; refine TR_nil ?_)
    | refine TC_cond_f rfl rfl ?_
    | refine TC_skip ?_
    | refine TC_block ?_
  refine TC_loopP (X := Nat × Row × List PL) (fun s => X.bk b :: X.w.C :: s.2.1.C :: psegs s.2.2 :: qsegs X.l :: R) (fun s => [(0, ptr b), (4, u32 ((X.cum + s.1) % 4294967296)), (5, s.2.1.val s.1), (6, i64 s.1)]) (fun s => QPt X s.1 s.2.1 s.2.2)
    (fun s => X.l.length - s.1) (0, ⟨none, 0, []⟩, []) ⟨Nat.zero_le _, by simp, rfl, by simp, .nil⟩ ⟨rfl, by show u32 X.cum = u32 ((X.cum + ((0 : Nat) : Int)) % 4294967296); congr 1; omega, rfl, rfl, trivial⟩ (fun w hs => hs.le (fun a => by simp only [les, psegs, List.map_nil]; omega)) ?_
  rintro ⟨k, row, l⟩ σg mm hmm hi
  dsimp only at hmm hi ⊢
  have hkn := hi.kn
  by_cases hlt : k < X.l.length
  · obtain ⟨x, hx⟩ : ∃ x, X.l[k]? = some x := ⟨X.l[k], List.getElem?_eq_getElem hlt⟩
    obtain ⟨rb, off, cells, ha, hC, hq0⟩ := qat_of h.row (by omega)
    have hsl : Value.slice X.w.a X.l.length X.w.cap = .slice (some ⟨rb, off, none⟩) X.l.length X.w.cap := by rw [ha]
    have c13 : cells[off + (k : Int).toNat * 15 + 13]? = some (.bool x.r.gone) := hq0.cell hx (j := 13) (by omega) rfl
    have cA : (cells.drop (off + (k : Int).toNat * 15)).take 15 = x.cells := hq0.get hx
    have cD : (cells.drop (off + (k : Int).toNat * 15 + 0)).take 7 = x.r.d.at_ x.w := by
      have := congrArg (List.take 7) cA
      rw [List.take_take] at this
      exact this
    have hok := h.recs x (List.mem_of_getElem? hx)
    have hb1 := (hf.at_ hx).b1
    have hrow := hi.row
    refine TC_le (L' := X.bk b :: [(rb, .cells cells.toArray 111 (0, 0))] :: x.w.C :: row.C :: psegs l :: (qsegs (X.l.take k) ++ qsegs (X.l.drop (k + 1))) :: R) (fun a => by simp only [les, qsegs_at hx, hC]; omega) ?_
    by_cases hg : x.r.gone = true
    · rw [hg] at c13
      repeat' first
        | refine TC_seq ?_
        | refine TQ_then ?_
        | (refine TC_plain (id := 6) (by kernel_rfl) ?_; all_goals refine TR_pv0 PV_move rfl ?_; all_goals refine TR_pv0 PV_move rfl ?_; all_goals refine TR_pv0 (PV_nil rfl) rfl ?_; all_goals refine TR_pv0 (PV_fieldAddr rfl) rfl ?_; all_goals refine TR_load0 rfl 0 rfl rfl rfl ?_; all_goals refine TR_pv0 (PV_len rfl) rfl ?_; all_goals refine TR_pv0 (PV_lss rfl rfl) rfl ?_; all_goals refine TR_pv0 PV_move rfl ?_; all_goals (refine TR_gsplit rfl rfl rfl (fun hq => ?_) (fun hq => ?_) <;> (try simp only [qs] at hq) <;> (try simp only [reduceCtorEq] at hq) <;> (try (exfalso; omega)) <;> (try contradiction) <;> refine TR_pv0 PV_move rfl ?_); all_goals refine TR_pv0 (PV_nil rfl) rfl ?_; all_goals refine TR_pv0 (PV_fieldAddr rfl) rfl ?_; all_goals refine TR_load0 rfl 0 rfl rfl rfl ?_; all_goals refine TR_pv0 PV_move rfl ?_; all_goals refine TR_pv0 (PV_indexAddr hsl rfl (by omega)) rfl ?_; all_goals refine TR_pv0 (PV_fieldAddr rfl) rfl ?_; all_goals refine TR_load0 rfl 1 rfl c13 rfl ?_; all_goals refine TR_pv0 (PV_pick_t rfl) rfl ?_; all_goals refine TR_nil ?_)
        | (refine TC_plain (id := 8) (by kernel_rfl) ?_; refine TR_pv0 PV_move rfl ?_; refine TR_pv0 (PV_nil rfl) rfl ?_; refine TR_pv0 (PV_fieldAddr rfl) rfl ?_; refine TR_load0 rfl 0 rfl rfl rfl ?_; refine TR_pv0 PV_move rfl ?_; refine TR_pv0 (PV_indexAddr hsl rfl (by omega)) rfl ?_; refine TR_pv0 (PV_fieldAddr rfl) rfl ?_; refine TR_loadAM0 rfl (.head _) 1 rfl cD rfl rfl ?_; (refine TR_alloc0 rfl ?_; intro c); refine TR_storeA0_0 rfl rfl rfl rfl rfl rfl ?_; refine TR_nil ?_)
        | (refine TC_plain (id := 9) (by kernel_rfl) ?_; (refine TR_buildSlice (.inl rfl) rfl rfl rfl rfl ?_; intro q); refine TR_pv0 (PV_fieldAddr rfl) rfl ?_; refine TR_load0 rfl 1 rfl rfl rfl ?_; (refine TR_append00 (.inl rfl) (empty_ok _ _ _) rfl rfl (.cons .here .nil) (src_sl hok 4 rfl) (by rw [u8s_length, Nat.mul_one]) (u8s_all _) (by omega) rfl ?_; intro a1 cap1 C1 hS1); refine TR_pv0 (PV_fieldAddr rfl) rfl ?_; refine TR_store0_1 rfl rfl rfl rfl rfl rfl ?_; refine TR_nil ?_)
        | refine TC_cond_t rfl rfl ?_
        | refine TC_skip ?_
        | refine TC_block ?_
      refine TC_slots [(0, ptr b), (4, u32 ((X.cum + k) % 4294967296)), (5, row.val k), (6, i64 k), (7, ptr c)] ⟨rfl, rfl, rfl, rfl, rfl, trivial⟩ fun σ' => ?_
      refine TC_le (L' := row.C :: dbk c (x.r.d.at_ ⟨a1, cap1, C1⟩) :: C1 :: X.bk b :: [(rb, .cells cells.toArray 111 (0, 0))] :: x.w.C :: psegs l :: (qsegs (X.l.take k) ++ qsegs (X.l.drop (k + 1))) :: R) (Le.trans (M := C1 :: dbk c (x.r.d.at_ ⟨a1, cap1, C1⟩) :: X.bk b :: [(rb, .cells cells.toArray 111 (0, 0))] :: x.w.C :: row.C :: psegs l :: (qsegs (X.l.take k) ++ qsegs (X.l.drop (k + 1))) :: R) (Le.refl _) (fun a => by simp only [les]; omega)) ?_
      repeat' first
        | refine TQ_then ?_
        | (refine TC_plain (id := 10) (by kernel_rfl) ?_; refine TR_pv0 PV_move rfl ?_; refine TR_loadA0 rfl 1 rfl rfl rfl ?_; (refine TR_buildSlice (.inl rfl) rfl rfl rfl rfl ?_; intro q2); (refine TR_appendP (.inl rfl) hrow rfl rfl (.cons (.there .here) .nil) (src_at (m := 7) 0 rfl rfl) rfl rfl (by omega) rfl ?_; intro a' cap' C' hS); refine TR_pv0 PV_assign rfl ?_; refine TR_nil ?_)
        | (refine TC_plain (id := 11) (by kernel_rfl) ?_; refine TR_pv0 PV_move rfl ?_; refine TR_pv0 (PV_add32 rfl rfl) rfl ?_; refine TR_pv0 PV_assign rfl ?_; refine TR_nil ?_)
        | (refine TC_plain (id := 7) (by kernel_rfl) ?_; refine TR_pv0 PV_move rfl ?_; refine TR_pv0 (PV_add64 rfl rfl (by omega)) rfl ?_; refine TR_pv0 PV_assign rfl ?_; refine TR_nil ?_)
        | refine TQ_blk ?_
      have e4 : u32 ((((X.cum + (k : Int)) % 4294967296) + 1) % 4294967296) = u32 ((X.cum + ((k + 1 : Nat) : Int)) % 4294967296) := by congr 1; omega
      refine TQ_roundP (k + 1, ⟨a', cap', C'⟩, l ++ [⟨x.r.d, ⟨a1, cap1, C1⟩⟩]) ⟨hlt, ?_, ?_, ?_, ?_⟩ (by show X.l.length - (k + 1) < mm; omega) ⟨rfl, e4, rfl, rfl, trivial⟩ (fun w' hs => ?_)
      · rw [take_next (qrecs_at hx)]
        intro r hr
        rcases List.mem_append.1 hr with hr | hr
        · exact hi.gone r hr
        · obtain rfl := List.mem_singleton.1 hr; exact hg
      · rw [take_next (qrecs_at hx), List.map_append, List.map_append, hi.d]; rfl
      · intro y hy
        rcases List.mem_append.1 hy with hy | hy
        · exact hi.ok y hy
        · obtain rfl := List.mem_singleton.1 hy; exact hS1
      · rw [pcells_snoc]; exact hS
      · have hs2 : St w₀ w' (C' :: blk q2 32 (x.r.d.at_ ⟨a1, cap1, C1⟩) :: dbk c (x.r.d.at_ ⟨a1, cap1, C1⟩) :: C1 :: X.bk b :: [(rb, .cells cells.toArray 111 (0, 0))] :: x.w.C :: psegs l :: (qsegs (X.l.take k) ++ qsegs (X.l.drop (k + 1))) :: R) := hs
        exact hs2.le (fun a => by simp only [les, qsegs_at hx, hC, psegs_snoc]; omega)
    · have hg' : x.r.gone = false := by simpa using hg
      rw [hg'] at c13
      obtain ⟨e1, e2⟩ := fin k row l hi (.inr ⟨x.r, qrecs_at hx, hg'⟩)
      repeat' first
        | refine TC_seq ?_
        | refine TQ_then ?_
        | (refine TC_plain (id := 6) (by kernel_rfl) ?_; all_goals refine TR_pv0 PV_move rfl ?_; all_goals refine TR_pv0 PV_move rfl ?_; all_goals refine TR_pv0 (PV_nil rfl) rfl ?_; all_goals refine TR_pv0 (PV_fieldAddr rfl) rfl ?_; all_goals refine TR_load0 rfl 0 rfl rfl rfl ?_; all_goals refine TR_pv0 (PV_len rfl) rfl ?_; all_goals refine TR_pv0 (PV_lss rfl rfl) rfl ?_; all_goals refine TR_pv0 PV_move rfl ?_; all_goals (refine TR_gsplit rfl rfl rfl (fun hq => ?_) (fun hq => ?_) <;> (try simp only [qs] at hq) <;> (try simp only [reduceCtorEq] at hq) <;> (try (exfalso; omega)) <;> (try contradiction) <;> refine TR_pv0 PV_move rfl ?_); all_goals refine TR_pv0 (PV_nil rfl) rfl ?_; all_goals refine TR_pv0 (PV_fieldAddr rfl) rfl ?_; all_goals refine TR_load0 rfl 0 rfl rfl rfl ?_; all_goals refine TR_pv0 PV_move rfl ?_; all_goals refine TR_pv0 (PV_indexAddr hsl rfl (by omega)) rfl ?_; all_goals refine TR_pv0 (PV_fieldAddr rfl) rfl ?_; all_goals refine TR_load0 rfl 1 rfl c13 rfl ?_; all_goals refine TR_pv0 (PV_pick_t rfl) rfl ?_; all_goals refine TR_nil ?_)
        | (refine TC_plain (id := 12) (by kernel_rfl) ?_; refine TR_pv0 PV_move rfl ?_; refine TR_pv0 PV_move rfl ?_; refine TR_pv0 PV_assign rfl ?_; refine TR_pv0 PV_assign rfl ?_; refine TR_nil ?_)
        | refine TC_cond_f rfl rfl ?_
        | refine TC_ret ?_
        | refine TC_exit ?_
        | refine TQ_then_exit ?_
        | refine TQ_blk_here ?_
      exact TQ_ret2e (v := u32 ((X.cum + (k : Int)) % 4294967296)) (u' := row.val k) rfl rfl rfl rfl rfl ⟨row, l, by rw [e1], rfl, by rw [e1]; exact hi.row, hi.ok, e2, by omega⟩ (fun a => by simp only [les, QF.seg_at b hx, hC]; omega)
  · obtain rfl : k = X.l.length := by omega
    obtain ⟨e1, e2⟩ := fin _ row l hi (.inl rfl)
    repeat' first
      | refine TC_seq ?_
      | refine TQ_then ?_
      | (refine TC_plain (id := 6) (by kernel_rfl) ?_; all_goals refine TR_pv0 PV_move rfl ?_; all_goals refine TR_pv0 PV_move rfl ?_; all_goals refine TR_pv0 (PV_nil rfl) rfl ?_; all_goals refine TR_pv0 (PV_fieldAddr rfl) rfl ?_; all_goals refine TR_load0 rfl 0 rfl rfl rfl ?_; all_goals refine TR_pv0 (PV_len rfl) rfl ?_; all_goals refine TR_pv0 (PV_lss rfl rfl) rfl ?_; all_goals refine TR_pv0 PV_move rfl ?_; all_goals (refine TR_gsplit rfl rfl rfl (fun hq => ?_) (fun hq => ?_) <;> (try simp only [qs] at hq) <;> (try simp only [reduceCtorEq] at hq) <;> (try (exfalso; omega)) <;> (try contradiction) <;> refine TR_skip0 rfl ?_); all_goals refine TR_skip0 rfl ?_; all_goals refine TR_skip0 rfl ?_; all_goals refine TR_skip0 rfl ?_; all_goals refine TR_skip0 rfl ?_; all_goals refine TR_skip0 rfl ?_; all_goals refine TR_skip0 rfl ?_; all_goals refine TR_skip0 rfl ?_; all_goals refine TR_pv0 (PV_pick_f rfl) rfl ?_; all_goals refine TR_nil ?_)
      | (refine TC_plain (id := 12) (by kernel_rfl) ?_; refine TR_pv0 PV_move rfl ?_; refine TR_pv0 PV_move rfl ?_; refine TR_pv0 PV_assign rfl ?_; refine TR_pv0 PV_assign rfl ?_; refine TR_nil ?_)
      | refine TC_cond_f rfl rfl ?_
      | refine TC_ret ?_
      | refine TC_exit ?_
      | refine TQ_then_exit ?_
      | refine TQ_blk_here ?_
    exact TQ_ret2e (v := u32 ((X.cum + (X.l.length : Int)) % 4294967296)) (u' := row.val X.l.length) rfl rfl rfl rfl rfl ⟨row, l, by rw [e1], rfl, by rw [e1]; exact hi.row, hi.ok, e2, by omega⟩ (fun a => by simp only [les, QF.seg]; omega)
end Go.Proofs.Ytonfkkdahlboiaa
