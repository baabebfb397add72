/- Sack. -/
import Derived.Test.YtonfkkdahlboiaaFltF
namespace Go.Proofs.Ytonfkkdahlboiaa
open Go.RowKit
set_option maxHeartbeats 4000000
set_option maxRecDepth 10000

theorem sackF_no (b : Nat) (X : FL) (h : FlOk X) (c rwnd : Int) (gs : List (Int × Int)) (gr : Row) (dv : Value) (hc : 0 ≤ c ∧ c ≤ 4294967295) (hgs : GapsOk gs) (hgr : grOk gr gs) (hgn : gs.length ≤ 1099511627776) (hmay : X.abs.may c gs = false) :
    Cd Try.prog 14 [ptr b, .agg [u32 c, u32 rwnd, gr.val gs.length, dv].toArray] [X.seg b, gr.C] (.tuple #[.agg (toldCells 0 false (fun _ => tp0)).toArray, i64 1]) [X.seg b, gr.C] := by
  have hsp := span_no b X h c rwnd gs gr dv hc hgs hgr hgn hmay
  refine Ct_intro Try.func14 rfl (by simp only [Try.ntmps14, List.length_cons, List.length_nil]; omega) ?_
  intro w₀ R
  repeat' first
    | refine TC_seq ?_
    | refine TQ_then ?_
    | (refine TC_plain (id := 0) (by kernel_rfl) ?_; (refine TR_box0 rfl rfl rfl ?_; intro sb); (refine TR_alloc0 rfl ?_; intro rb); refine TR_pv0 PV_assign rfl ?_; refine TR_nil ?_)
    | (refine TC_plain (id := 1) (by kernel_rfl) ?_; refine TR_pv0 PV_move rfl ?_; refine TR_pv0 (PV_peq_nil rfl rfl) rfl ?_; refine TR_nil ?_)
    | (refine TC_plain (id := 3) (by kernel_rfl) ?_; refine TR_pv0 PV_move rfl ?_; refine TR_loadA0 rfl 1 rfl rfl rfl ?_; (refine TR_call0 (hsp) rfl rfl (.cons (.there (.there .here)) (.cons (.there (.there .here)) .nil)) rfl ?_; rintro _ _ ⟨rfl, rfl⟩); refine TR_pv0 PV_move rfl ?_; refine TR_pv0 (PV_extract rfl rfl) rfl ?_; refine TR_pv0 (PV_extract rfl rfl) rfl ?_; refine TR_pv0 PV_assign rfl ?_; refine TR_pv0 PV_assign rfl ?_; refine TR_nil ?_)
    | refine TC_cond_f rfl rfl ?_
    | refine TC_skip ?_
  refine TC_le (L' := tblk rb (toldCells 0 false (fun _ => tp0)) :: X.seg b :: gr.C :: sbox sb c rwnd gr gs.length dv :: R) (Le.trans (M := X.seg b :: gr.C :: tblk rb (toldCells 0 false (fun _ => tp0)) :: sbox sb c rwnd gr gs.length dv :: R) (Le.refl _) (fun a => by simp only [les]; omega)) ?_
  repeat' first
    | refine TC_seq ?_
    | refine TQ_then ?_
    | (refine TC_plain (id := 4) (by kernel_rfl) ?_; refine TR_pv0 PV_move rfl ?_; refine TR_pv0 (PV_not rfl) rfl ?_; refine TR_nil ?_)
    | (refine TC_plain (id := 5) (by kernel_rfl) ?_; refine TR_pv0 (PV_build rfl rfl) rfl ?_; refine TR_storeA0_0 rfl rfl rfl rfl rfl rfl ?_; refine TR_pv0 PV_assign rfl ?_; refine TR_nil ?_)
    | refine TC_cond_t rfl rfl ?_
    | refine TC_ret ?_
    | refine TQ_then_ret ?_
  refine TQ_le (L' := tblk rb (toldCells 0 false (fun _ => tp0)) :: X.seg b :: gr.C :: sbox sb c rwnd gr gs.length dv :: R) (Le.refl _) ?_
  exact TQ_retG rfl (.agg inferInstance rfl rfl 0 rfl rfl (.tmp rfl rfl .nil)) rfl ⟨rfl, rfl⟩ (fun a => by simp only [les]; omega)

theorem ackStep_no {low : Nat → Option Nat} {s : SK} {i : Nat} {r : FRec} (h : s.l[i]? = some r) (hr : r.acked = true) : ackStep low s i = s := by simp [ackStep, h, hr]
theorem ackStep_yes {low : Nat → Option Nat} {s : SK} {i : Nat} {r : FRec} (h : s.l[i]? = some r) (hr : r.acked = false) :
    ackStep low s i = ⟨s.l.modify i ackR, at4 s.t r.path.toNat (tkT r (decide (low r.path.toNat = some i)) (s.t r.path.toNat)), at4 s.high r.path.toNat i⟩ := by simp [ackStep, h, hr]
theorem idxsOf_next {sp : List (Nat × Nat)} {k : Nat} {s : Nat × Nat} (h : sp[k]? = some s) : idxsOf (sp.take (k + 1)) = idxsOf (sp.take k) ++ List.range' s.1 (s.2 - s.1) := by
  rw [take_next h]; simp [idxsOf]
theorem hbk_set (hb : Nat) (g : Nat → Int) {p : Nat} (hp : p < 4) (v : Int) : (four fun p => i64 (g p)).set (0 + p * 1) (i64 v) = four fun q => i64 (at4 g p v q) := by
  rw [Nat.zero_add, Nat.mul_one, four_set _ hp]
  congr 1
  funext q
  unfold at4
  split <;> rfl
theorem missR_lo {r : FRec} (h : ¬ 3 ≤ r.miss + 1) : missR r = { r with miss := r.miss + 1 } := by
  unfold missR; rw [decide_eq_false h, Bool.or_false]
theorem missR_hi {r : FRec} (h : 3 ≤ r.miss + 1) : missR r = { r with miss := r.miss + 1, lost := true } := by
  unfold missR; rw [decide_eq_true h, Bool.or_true]
theorem missR_ok {r : FRec} {paths : Int} (h : FRecOk r paths) (h1 : r.lost = false) (h2 : r.again = false) : FRecOk (missR r) paths := by
  have hm := h.m2 h1 h2
  have h0 := h.m0
  refine ⟨h.p0, h.p1, h.b0, h.b1, by show 0 ≤ r.miss + 1; omega, by show r.miss + 1 ≤ 3; omega, fun hl _ => ?_⟩
  have hl' : (r.lost || decide (3 ≤ r.miss + 1)) = false := hl
  rw [h1, Bool.false_or, decide_eq_false_iff_not] at hl'
  show r.miss + 1 ≤ 2
  omega
theorem missStep_no {high : Nat → Int} {s : List FRec × (Nat → Tp)} {i : Nat} {r : FRec} (h : s.1[i]? = some r) (hc : r.away = false ∨ r.again = true ∨ high r.path.toNat ≤ i) : missStep high s i = s := by
  unfold missStep; rw [h]; exact if_pos hc
theorem missStep_yes {high : Nat → Int} {s : List FRec × (Nat → Tp)} {i : Nat} {r : FRec} (h : s.1[i]? = some r) (hc : ¬ (r.away = false ∨ r.again = true ∨ high r.path.toNat ≤ i)) :
    missStep high s i = (s.1.modify i missR, if 3 ≤ r.miss + 1 then at4 s.2 r.path.toNat { s.2 r.path.toNat with fast := true } else s.2) := by
  unfold missStep; rw [h]; exact if_neg hc
theorem told_fast (freed : Int) (whole : Bool) (t : Nat → Tp) {p : Nat} (h : p < 4) : (toldCells freed whole t).set (0 + 2 + p * 5 + 2) (.bool true) = toldCells freed whole (at4 t p { t p with fast := true }) := by
  match p, h with
  | 0, _ => rfl
  | 1, _ => rfl
  | 2, _ => rfl
  | 3, _ => rfl
theorem wide2_next {sp : List (Nat × Nat)} {k : Nat} {s : Nat × Nat} (h : sp[k]? = some s) : wide2 (sp.take (k + 1)) = wide2 (sp.take k) + ((s.2 : Int) - s.1) := by
  rw [take_next h]; simp [wide2]
theorem wide2_len : ∀ (sp : List (Nat × Nat)), (∀ s ∈ sp, s.1 ≤ s.2) → wide2 sp = ((idxsOf sp).length : Int)
  | [], _ => rfl
  | s :: sp, h => by
    have ih := wide2_len sp fun x hx => h x (.tail _ hx)
    have hs := h s (.head _)
    have e1 : wide2 (s :: sp) = ((s.2 : Int) - s.1) + wide2 sp := by simp [wide2]
    have e2 : (idxsOf (s :: sp)).length = (s.2 - s.1) + (idxsOf sp).length := by simp [idxsOf]
    rw [e1, e2, ih]; omega
theorem idxsOf_take (sp : List (Nat × Nat)) (k : Nat) : (idxsOf (sp.take k)).length ≤ (idxsOf sp).length := by
  have : idxsOf sp = idxsOf (sp.take k) ++ idxsOf (sp.drop k) := by rw [idxsOf, idxsOf, idxsOf, ← List.flatten_append, ← List.map_append, List.take_append_drop]
  rw [this, List.length_append]; omega
def FL.dropTo (X : FL) (k : Nat) (c : Int) (C : Seg) : FL := ⟨X.l.drop k, ⟨cutAt X.w.a X.w.cap k 1, X.w.cap - k, C⟩, c, X.paths⟩
theorem dropTo_ok {X : FL} (h : FlOk X) {k : Nat} (hk : k ≤ X.l.length) {c : Int} (hc : 0 ≤ c ∧ c ≤ 4294967295) (hck : (c - X.cum) % 4294967296 = k) {C : Seg}
    (hC : Sl 88 1 (cutAt X.w.a X.w.cap k 1) (X.l.length - k) (X.w.cap - k) C ((X.ptrs.map ptr).drop (k * 1))) : FlOk (X.dropTo k c C) := by
  refine ⟨?_, fun x hx => h.recs x (List.mem_of_mem_drop hx), by have := h.len; simp only [FL.dropTo, List.length_drop]; omega, hc.1, hc.2, h.q0, h.q1, fun j x hx => ?_⟩
  · rw [Nat.mul_one] at hC
    simp only [FL.dropTo, FL.ptrs, List.length_drop, List.map_drop] at hC ⊢
    exact hC
  · simp only [FL.dropTo, List.getElem?_drop] at hx ⊢
    have := h.tsn (k + j) x hx
    have h0 := h.c0
    have h1 := h.c1
    rw [this]
    omega
theorem dropTo_seg (b : Nat) (X : FL) (k : Nat) (c : Int) (C : Seg) : (X.dropTo k c C).seg b =
    blk b 86 [.slice (cutAt X.w.a X.w.cap k 1) (X.l.length - k) (X.w.cap - k), u32 c, i64 X.paths] ++ (C ++ rsegs (X.l.drop k)) := by
  simp only [FL.seg, FL.bk, FL.dropTo, Row.val, List.length_drop]
theorem rsegs_cut (l : List RL) (k : Nat) : rsegs l = rsegs (l.take k) ++ rsegs (l.drop k) := by rw [← rsegs_append, List.take_append_drop]
theorem setAll_row : ∀ (vs pre rest : List Value), rest.length = vs.length → setAll (pre ++ rest) pre.length vs = pre ++ vs
  | [], pre, rest, h => by
    obtain rfl : rest = [] := List.eq_nil_of_length_eq_zero h
    rfl
  | v :: vs, pre, r :: rest, h => by
    have e : (pre ++ r :: rest).set pre.length v = (pre ++ [v]) ++ rest := by rw [List.set_append_right _ _ (Nat.le_refl _)]; simp
    rw [setAll, e]
    have := setAll_row vs (pre ++ [v]) rest (by simpa using h)
    rw [List.length_append, List.length_singleton] at this
    rw [this, List.append_assoc]; rfl
theorem told_length (f : Int) (w : Bool) (t : Nat → Tp) : (toldCells f w t).length = 22 := rfl
theorem told_copy (f f' : Int) (w w' : Bool) (t t' : Nat → Tp) : setAll (toldCells f' w' t') 0 (((toldCells f w t).drop 0).take 22) = toldCells f w t := by
  rw [List.drop_zero, List.take_of_length_le (by rw [told_length]; omega)]
  exact setAll_row _ [] _ rfl
structure MissInv (X : FL) (s : SK) (i : Nat) (m : List FRec × (Nat → Tp)) (Y : FL) : Prop where
  kin : Kin X Y
  st : m = (List.range i).foldl (missStep s.high) (s.l, s.t)
  recs : Y.recs = m.1
structure AckInv (X : FL) (is : List Nat) (s : SK) (Y : FL) : Prop where
  kin : Kin X Y
  st : s = is.foldl (ackStep (lowIdx X.recs)) (sk0 X.recs)
  recs : Y.recs = s.l

theorem sackF_ct (b : Nat) (X : FL) (h : FlOk X) (c rwnd : Int) (gs : List (Int × Int)) (gr : Row) (dv : Value) (hc : 0 ≤ c ∧ c ≤ 4294967295) (hgs : GapsOk gs) (hgr : grOk gr gs) (hgn : gs.length ≤ 1099511627776) (hmay : X.abs.may c gs = true) :
    Ct Try.prog 14 [ptr b, .agg [u32 c, u32 rwnd, gr.val gs.length, dv].toArray] [X.seg b, gr.C]
      (fun v D => v = .tuple #[.agg (X.abs.sackT c gs).cells.toArray, i64 0] ∧ ∃ X', D = [X'.seg b, gr.C] ∧ FlOk X' ∧ X'.abs = X.abs.sack c gs) := by
  have hsp := span_yes b X h c rwnd gs gr dv hc hgs hgr hgn hmay
  have hlow := lowest_cd b X h
  obtain ⟨f1, f2, f3⟩ := may_facts hmay
  have hlenX : X.abs.l.length = X.l.length := recs_length X
  rw [hlenX] at f1 f2 f3
  have hlen := h.len
  refine Ct_introM Try.func14 rfl (by simp only [Try.ntmps14, List.length_cons, List.length_nil]; omega) ?_
  intro w₀ R
  refine TC_nodup fun hnd => ?_
  have hnp := nodup_ptrs (L := gr.C :: R) hnd
  generalize hsps : spansOf (X.abs.base c) gs = sps at hsp f2
  have hspl : sps.length = gs.length + 1 := by rw [← hsps]; simp [spansOf]
  repeat' first
    | refine TC_seq ?_
    | refine TQ_then ?_
    | (refine TC_plain (id := 0) (by kernel_rfl) ?_; (refine TR_box0 rfl rfl rfl ?_; intro sb); (refine TR_alloc0 rfl ?_; intro rb); refine TR_pv0 PV_assign rfl ?_; refine TR_nil ?_)
    | (refine TC_plain (id := 1) (by kernel_rfl) ?_; refine TR_pv0 PV_move rfl ?_; refine TR_pv0 (PV_peq_nil rfl rfl) rfl ?_; refine TR_nil ?_)
    | (refine TC_plain (id := 3) (by kernel_rfl) ?_; refine TR_pv0 PV_move rfl ?_; refine TR_loadA0 rfl 1 rfl rfl rfl ?_; (refine TR_call0 (hsp) rfl rfl (.cons (.there (.there .here)) (.cons (.there (.there .here)) .nil)) rfl ?_; rintro _ _ ⟨row, rfl, rfl, hrow⟩); refine TR_pv0 PV_move rfl ?_; refine TR_pv0 (PV_extract rfl rfl) rfl ?_; refine TR_pv0 (PV_extract rfl rfl) rfl ?_; refine TR_pv0 PV_assign rfl ?_; refine TR_pv0 PV_assign rfl ?_; refine TR_nil ?_)
    | (refine TC_plain (id := 4) (by kernel_rfl) ?_; refine TR_pv0 PV_move rfl ?_; refine TR_pv0 (PV_not rfl) rfl ?_; refine TR_nil ?_)
    | (refine TC_plain (id := 6) (by kernel_rfl) ?_; (refine TR_alloc0 rfl ?_; intro tb); refine TR_nil ?_)
    | (refine TC_plain (id := 7) (by kernel_rfl) ?_; refine TR_pv0 PV_move rfl ?_; (refine TR_call0 (hlow) rfl rfl (.cons (.there (.there .here)) .nil) rfl ?_; rintro _ _ ⟨rfl, rfl⟩); (refine TR_alloc0 rfl ?_; intro lb); refine TR_storeA0_0 rfl rfl rfl rfl rfl rfl ?_; refine TR_nil ?_)
    | (refine TC_plain (id := 8) (by kernel_rfl) ?_; refine TR_pv0 (PV_buildA rfl rfl) rfl ?_; (refine TR_alloc0 rfl ?_; intro hb); refine TR_storeA0_0 rfl rfl rfl rfl rfl rfl ?_; refine TR_nil ?_)
    | (refine TC_plain (id := 9) (by kernel_rfl) ?_; refine TR_pv0 PV_move rfl ?_; refine TR_pv0 (PV_len rfl) rfl ?_; refine TR_pv0 PV_move rfl ?_; refine TR_nil ?_)
    | refine TC_cond_f rfl rfl ?_
    | refine TC_skip ?_
    | refine TC_block ?_
  rw [← hspl]
  refine TC_le (L' := hbk hb (sk0 X.recs).high :: lowBk lb (X.low X.l.length) :: X.seg b :: tblk tb (toldCells 0 false (sk0 X.recs).t) :: row.C :: gr.C :: tblk rb (toldCells 0 false (fun _ => tp0)) :: sbox sb c rwnd gr gs.length dv :: R) (Le.refl _) ?_
  have hbytes : ∀ r ∈ X.recs, r.d.bytes.length ≤ 1048576 := fun r hr => (h.rec_ok r hr).b1
  have hidl : (idxsOf sps).length ≤ X.l.length := by rw [← hsps]; exact f3
  have hack : ∀ is : List Nat, is.length ≤ X.l.length → ∀ p, 0 ≤ ((is.foldl (ackStep (lowIdx X.recs)) (sk0 X.recs)).t p).acked ∧ ((is.foldl (ackStep (lowIdx X.recs)) (sk0 X.recs)).t p).acked ≤ 2147483648 := fun is hi p => by
    have := acked_bound (lowIdx X.recs) is (sk0 X.recs) 0 hbytes (fun p => by simp [sk0]) p
    omega
  refine TC_loopP (X := Nat × SK × FL) (fun z => tblk tb (toldCells 0 false z.2.1.t) :: hbk hb z.2.1.high :: lowBk lb (X.low X.l.length) :: row.C :: z.2.2.seg b :: (gr.C ++ (tblk rb (toldCells 0 false (fun _ => tp0)) ++ sbox sb c rwnd gr gs.length dv)) :: R)
    (fun z => [(0, ptr b), (3, ptr sb), (4, ptr rb), (5, i64 0), (6, row.val sps.length), (8, ptr tb), (9, ptr lb), (10, ptr hb), (37, row.val sps.length), (38, i64 sps.length), (39, i64 z.1)])
    (fun z => z.1 ≤ sps.length ∧ AckInv X (idxsOf (sps.take z.1)) z.2.1 z.2.2) (fun z => sps.length - z.1) (0, sk0 X.recs, X) ⟨Nat.zero_le _, ⟨h, rfl, rfl, rfl, rfl⟩, rfl, rfl⟩ ⟨rfl, rfl, rfl, rfl, rfl, rfl, rfl, rfl, rfl, rfl, rfl, trivial⟩ (fun w hs => hs.le (fun a => by simp only [les]; omega)) ?_
  rintro ⟨k, s, Y⟩ σg mm hmm ⟨hkn, hY⟩
  dsimp only at hmm hkn hY ⊢
  rcases Nat.lt_or_ge k sps.length with hlt | hge
  · obtain ⟨sp, hsp1⟩ : ∃ sp, sps[k]? = some sp := ⟨sps[k], List.getElem?_eq_getElem hlt⟩
    obtain ⟨g1, g2⟩ := f2 sp (List.mem_of_getElem? hsp1)
    obtain ⟨qb, off, cells, ha, hC, hl, ht⟩ := hrow.opened (by omega)
    have hsl : Value.slice row.a sps.length row.cap = .slice (some ⟨qb, off, none⟩) sps.length row.cap := by rw [ha]
    have hgv : (cells.drop (off + (k : Int).toNat * 2)).take 2 = [i64 sp.1, i64 sp.2] := by
      rw [Int.toNat_natCast]
      refine flat_at (xs := sps.map fun s => [i64 s.1, i64 s.2]) (fun x hx => ?_) (by rw [List.length_map]; exact ht) (by rw [List.getElem?_map, hsp1]; rfl)
      obtain ⟨g', _, rfl⟩ := List.mem_map.1 hx; rfl
    have hgm : (qb, Obj.cells cells.toArray 101 (0, 0)) ∈ row.C := by rw [hC]; exact .head _
    have hYl := hY.kin.len
    have hcap := hY.kin.ok.row.cap
    have hsplen : (idxsOf (sps.take (k + 1))).length ≤ X.l.length := by
      have : idxsOf sps = idxsOf (sps.take (k + 1)) ++ idxsOf (sps.drop (k + 1)) := by
        rw [idxsOf, idxsOf, idxsOf, ← List.flatten_append, ← List.map_append, List.take_append_drop]
      rw [this, List.length_append] at hidl
      omega
    rw [idxsOf_next hsp1, List.length_append, List.length_range'] at hsplen
    refine TC_le (L' := Y.bk b :: (Y.w.C ++ rsegs Y.l) :: row.C :: tblk tb (toldCells 0 false s.t) :: hbk hb s.high :: lowBk lb (X.low X.l.length) :: (gr.C ++ (tblk rb (toldCells 0 false (fun _ => tp0)) ++ sbox sb c rwnd gr gs.length dv)) :: R) (fun a => by simp only [les, FL.seg]; omega) ?_
    repeat' first
      | refine TC_seq ?_
      | refine TQ_then ?_
      | refine TQ_noPanic ?_
      | (refine TC_plain (id := 10) (by kernel_rfl) ?_; refine TR_pv0 (PV_lss rfl rfl) rfl ?_; refine TR_nil ?_)
      | (refine TC_plain (id := 11) (by kernel_rfl) ?_; refine TR_pv0 (PV_indexAddr hsl rfl (by omega)) rfl ?_; refine TR_loadAM0 rfl hgm 2 rfl hgv rfl rfl ?_; (refine TR_alloc0 rfl ?_; intro g); refine TR_storeA0_0 rfl rfl rfl rfl rfl rfl ?_; refine TR_nil ?_)
      | (refine TC_drawn' (id := 12) [(0, 1), (1, 1), (2, 1), (3, 1), (4, 1), (5, 1), (6, 1), (7, 1), (8, 1), (9, 1), (10, 1)] mixed (by kernel_rfl) ?_; refine TR_pv1 PV_move rfl (fun _ h => h) ?_; refine TR_pv1 (PV_nil rfl) rfl (fun _ h => h) ?_; refine TR_pv1 (PV_fieldAddr rfl) rfl (fun _ h => h) ?_; refine TR_load1 rfl 1 rfl rfl rfl (fun _ h => h) ?_; refine TR_pv1 (PV_indexArr rfl rfl (by omega)) rfl (fun _ h => h) ?_; refine TR_load1 rfl 0 rfl rfl rfl (fun _ h => h) ?_; refine TR_pv1 (PV_indexArr rfl rfl (by omega)) rfl (fun _ h => h) ?_; refine TR_load1 rfl 0 rfl rfl rfl (fun _ h => h) ?_; refine TR_pv1 (PV_sliceLH rfl rfl rfl (by omega)) rfl (fun _ h => h) ?_; refine TR_pv1 (PV_len rfl) rfl (fun _ h => h) ?_; refine TR_pv1 PV_move rfl (fun _ h => h) ?_; refine TR_nil ?_)
      | refine TC_skip ?_
      | refine TC_block ?_
      | (refine TC_cond rfl rfl (fun hq => ?_) (fun hq => ?_) <;> (try simp only [qs] at hq) <;> (try simp only [reduceCtorEq] at hq) <;> (try (exfalso; omega)) <;> (try contradiction))
    refine TC_loopP (X := Nat × SK × FL) (fun z => tblk tb (toldCells 0 false z.2.1.t) :: hbk hb z.2.1.high :: lowBk lb (X.low X.l.length) :: z.2.2.seg b :: blk g 101 [i64 sp.1, i64 sp.2] :: row.C :: (gr.C ++ (tblk rb (toldCells 0 false (fun _ => tp0)) ++ sbox sb c rwnd gr gs.length dv)) :: R)
      (fun z => [(0, ptr b), (3, ptr sb), (4, ptr rb), (5, i64 0), (6, row.val sps.length), (8, ptr tb), (9, ptr lb), (10, ptr hb), (37, row.val sps.length), (38, i64 sps.length), (39, i64 k),
        (12, ptr g), (51, .slice (cutAt Y.w.a Y.w.cap sp.1 1) (sp.2 - sp.1) (Y.w.cap - sp.1)), (52, i64 (sp.2 - sp.1 : Nat)), (53, i64 z.1)])
      (fun z => z.1 ≤ sp.2 - sp.1 ∧ AckInv X (idxsOf (sps.take k) ++ List.range' sp.1 z.1) z.2.1 z.2.2) (fun z => (sp.2 - sp.1) - z.1) (0, s, Y)
      ⟨Nat.zero_le _, by simpa using hY⟩ ⟨rfl, rfl, rfl, rfl, rfl, rfl, rfl, rfl, rfl, rfl, rfl, rfl, rfl, rfl, rfl, trivial⟩
      (fun w hs => St.le (L := blk g 101 [i64 sp.1, i64 sp.2] :: Y.bk b :: (Y.w.C ++ rsegs Y.l) :: row.C :: tblk tb (toldCells 0 false s.t) :: hbk hb s.high :: lowBk lb (X.low X.l.length) :: (gr.C ++ (tblk rb (toldCells 0 false (fun _ => tp0)) ++ sbox sb c rwnd gr gs.length dv)) :: R) hs (fun a => by simp only [les, FL.seg]; omega)) ?_
    rintro ⟨j, s2, Z⟩ σh mm2 hmm2 ⟨hj, hZ⟩
    dsimp only at hmm2 hj hZ ⊢
    rcases Nat.lt_or_ge j (sp.2 - sp.1) with hjl | hjl
    · have hZl := hZ.kin.len
      have hZw : Z.w = Y.w := hZ.kin.w.trans hY.kin.w.symm
      obtain ⟨e, he⟩ : ∃ e, Z.l[sp.1 + j]? = some e := ⟨Z.l[sp.1 + j]'(by omega), List.getElem?_eq_getElem _⟩
      have hrec := hZ.kin.ok.recs e (List.mem_of_getElem? he)
      have hs2 : s2.l[sp.1 + j]? = some e.r := by rw [← hZ.recs]; exact recs_at he
      have hp0 := hrec.2.p0
      have hp1 := hrec.2.p1
      have hq1 := hZ.kin.ok.q1
      have hlt4 : e.r.path.toNat < 4 := by omega
      obtain ⟨rb2, off2, cells2, ha2, hC2, hl2, ht2⟩ := hZ.kin.ok.row.opened (by omega)
      have hc2 : cells2[off2 + sp.1 * 1 + (j : Int).toNat * 1]? = some (ptr e.p) := by
        rw [Int.toNat_natCast, Nat.mul_one, Nat.mul_one, Nat.add_assoc, take_at ht2 (j := sp.1 + j) (by omega), List.getElem?_map, FL.ptrs, List.getElem?_map, he]; rfl
      have hcapZ := hZ.kin.ok.row.cap
      have hsl2 : Value.slice (cutAt Y.w.a Y.w.cap sp.1 1) (sp.2 - sp.1) (Y.w.cap - sp.1) = .slice (some ⟨rb2, off2 + sp.1 * 1, none⟩) (sp.2 - sp.1) (Y.w.cap - sp.1) := by
        rw [← hZw, cutAt, if_neg (by omega), ha2]; simp [addr_add]
      refine TC_le (L' := [(rb2, .cells cells2.toArray 88 (0, 0))] :: e.bk :: tblk tb (toldCells 0 false s2.t) :: hbk hb s2.high :: lowBk lb (X.low X.l.length) :: blk g 101 [i64 sp.1, i64 sp.2] ::
        (Z.bk b ++ (rsegs (Z.l.take (sp.1 + j)) ++ (e.w.C ++ rsegs (Z.l.drop (sp.1 + j + 1))))) :: row.C :: (gr.C ++ (tblk rb (toldCells 0 false (fun _ => tp0)) ++ sbox sb c rwnd gr gs.length dv)) :: R) (fun a => by simp only [les, FL.seg_at b he, hC2]; omega) ?_
      by_cases hak : e.r.acked = true
      · have hna : ¬ e.r.acked = false := by rw [hak]; simp
        repeat' first
          | refine TC_seq ?_
          | refine TQ_then ?_
          | (refine TC_plain (id := 13) (by kernel_rfl) ?_; refine TR_pv0 (PV_lss rfl rfl) rfl ?_; refine TR_nil ?_)
          | (refine TC_plain (id := 14) (by kernel_rfl) ?_; refine TR_pv0 PV_move rfl ?_; refine TR_pv0 (PV_indexAddr hsl2 rfl (by omega)) rfl ?_; refine TR_load0 rfl 0 rfl hc2 rfl ?_; refine TR_pv0 PV_assign rfl ?_; refine TR_pv0 PV_assign rfl ?_; refine TR_nil ?_)
          | (refine TC_plain (id := 15) (by kernel_rfl) ?_; refine TR_pv0 PV_move rfl ?_; refine TR_pv0 (PV_nil rfl) rfl ?_; refine TR_pv0 (PV_fieldAddr rfl) rfl ?_; refine TR_load0 rfl 1 rfl rfl rfl ?_; refine TR_pv0 (PV_not rfl) rfl ?_; refine TR_nil ?_)
          | (refine TC_plain (id := 18) (by kernel_rfl) ?_; refine TR_pv0 (PV_add64 rfl rfl (by omega)) rfl ?_; refine TR_pv0 PV_move rfl ?_; refine TR_nil ?_)
          | refine TC_skip ?_
          | refine TC_block ?_
          | refine TQ_blk ?_
          | (refine TC_cond rfl rfl (fun hq => ?_) (fun hq => ?_) <;> (try simp only [qs] at hq) <;> (try simp only [reduceCtorEq] at hq) <;> (try (exfalso; omega)) <;> (try contradiction))
        refine TQ_roundP (j + 1, s2, Z) ⟨hjl, hZ.kin, ?_, hZ.recs⟩ (by show (sp.2 - sp.1) - (j + 1) < mm2; omega) ⟨rfl, rfl, rfl, rfl, rfl, rfl, rfl, rfl, rfl, rfl, rfl, rfl, rfl, rfl, rfl, trivial⟩ (fun w hs => hs.le (fun a => by simp only [les, FL.seg_at b he, hC2]; omega))
        rw [List.range'_1_concat, ← List.append_assoc, List.foldl_append, ← hZ.st]
        exact (ackStep_no hs2 hak).symm
      · have hak' : e.r.acked = false := by simpa using hak
        repeat' first
          | refine TC_seq ?_
          | refine TQ_then ?_
          | (refine TC_plain (id := 13) (by kernel_rfl) ?_; refine TR_pv0 (PV_lss rfl rfl) rfl ?_; refine TR_nil ?_)
          | (refine TC_plain (id := 14) (by kernel_rfl) ?_; refine TR_pv0 PV_move rfl ?_; refine TR_pv0 (PV_indexAddr hsl2 rfl (by omega)) rfl ?_; refine TR_load0 rfl 0 rfl hc2 rfl ?_; refine TR_pv0 PV_assign rfl ?_; refine TR_pv0 PV_assign rfl ?_; refine TR_nil ?_)
          | (refine TC_plain (id := 15) (by kernel_rfl) ?_; refine TR_pv0 PV_move rfl ?_; refine TR_pv0 (PV_nil rfl) rfl ?_; refine TR_pv0 (PV_fieldAddr rfl) rfl ?_; refine TR_load0 rfl 1 rfl rfl rfl ?_; refine TR_pv0 (PV_not rfl) rfl ?_; refine TR_nil ?_)
          | refine TC_skip ?_
          | refine TC_block ?_
          | (refine TC_cond rfl rfl (fun hq => ?_) (fun hq => ?_) <;> (try simp only [qs] at hq) <;> (try simp only [reduceCtorEq] at hq) <;> (try (exfalso; omega)) <;> (try contradiction))
        have hprefix : (idxsOf (sps.take k) ++ List.range' sp.1 j).length ≤ X.l.length := by rw [List.length_append, List.length_range']; omega
        have hbnd := hack _ hprefix e.r.path.toNat
        rw [← hZ.st] at hbnd
        have hpt : X.ptrs[sp.1 + j]? = some e.p := by rw [← hZ.kin.ptrs, FL.ptrs, List.getElem?_map, he]; rfl
        have htk := takeT_cd e tb 0 false s2.t (X.low X.l.length e.r.path.toNat) ((Z.bk b ++ (Z.w.C ++ (rsegs (Z.l.take (sp.1 + j)) ++ (e.w.C ++ rsegs (Z.l.drop (sp.1 + j + 1)))))) ++ []) ⟨hp0, by omega⟩ hrec.2.b1 ⟨hbnd.1, by omega⟩ (low_in hZ.kin he _ [])
        rw [low_eq hnp hpt] at htk
        have hgl : (four fun p => ptrO (X.low X.l.length p))[0 + e.r.path.toNat * 1]? = some (ptrO (X.low X.l.length e.r.path.toNat)) := by rw [Nat.zero_add, Nat.mul_one, four_get _ hlt4]
        have hap : (ackR e.r).path = e.r.path := rfl
        refine TC_le (L' := e.bk :: tblk tb (toldCells 0 false s2.t) :: ((Z.bk b ++ (Z.w.C ++ (rsegs (Z.l.take (sp.1 + j)) ++ (e.w.C ++ rsegs (Z.l.drop (sp.1 + j + 1)))))) ++ []) :: lowBk lb (X.low X.l.length) :: hbk hb s2.high :: blk g 101 [i64 sp.1, i64 sp.2] :: row.C :: (gr.C ++ (tblk rb (toldCells 0 false (fun _ => tp0)) ++ sbox sb c rwnd gr gs.length dv)) :: R) (fun a => by simp only [les, hC2]; omega) ?_
        repeat' first
          | refine TQ_then ?_
          | refine TQ_noPanic ?_
          | (refine TC_drawn' (id := 16) [(0, 1), (1, 1), (2, 1), (3, 1), (4, 1), (5, 1), (6, 1), (7, 1), (8, 1), (9, 1), (10, 1), (11, 1), (12, 1), (13, 0)] mixed (by kernel_rfl) ?_; refine TR_pv1 PV_move rfl (fun _ h => h) ?_; refine TR_pv1 PV_move rfl (fun _ h => h) ?_; refine TR_pv1 (PV_nil rfl) rfl (fun _ h => h) ?_; refine TR_pv1 (PV_fieldAddr rfl) rfl (fun _ h => h) ?_; refine TR_load1 rfl 0 rfl rfl rfl (fun _ h => h) ?_; refine TR_pv1 (PV_fieldAddr rfl) rfl (fun _ h => h) ?_; refine TR_pv1 (PV_indexArr rfl rfl (show 0 ≤ e.r.path ∧ e.r.path < (4 : Nat) from ⟨hp0, by omega⟩)) rfl (fun _ h => h) ?_; refine TR_pv1 PV_move rfl (fun _ h => h) ?_; refine TR_pv1 (PV_nil rfl) rfl (fun _ h => h) ?_; refine TR_pv1 (PV_fieldAddr rfl) rfl (fun _ h => h) ?_; refine TR_load1 rfl 0 rfl rfl rfl (fun _ h => h) ?_; refine TR_pv1 (PV_indexArr rfl rfl (show 0 ≤ e.r.path ∧ e.r.path < (4 : Nat) from ⟨hp0, by omega⟩)) rfl (fun _ h => h) ?_; refine TR_load1 rfl 3 rfl hgl rfl (fun _ h => h) ?_; (refine TR_call0 (htk) rfl rfl (.cons .here (.cons .here (.cons .here .nil))) rfl ?_; rintro _ _ ⟨rfl, rfl⟩); refine TR_nil ?_)
          | (refine TC_drawn' (id := 17) [(0, 1), (1, 1), (2, 1), (3, 1), (4, 1), (5, 1), (6, 1), (7, 1), (8, 1), (9, 0)] mixed (by kernel_rfl) ?_; refine TR_pv1 PV_move rfl (fun _ h => h) ?_; refine TR_pv1 (PV_nil rfl) rfl (fun _ h => h) ?_; refine TR_pv1 (PV_fieldAddr rfl) rfl (fun _ h => h) ?_; refine TR_load1 rfl 0 rfl rfl rfl (fun _ h => h) ?_; refine TR_pv1 (PV_indexArr rfl rfl (by omega)) rfl (fun _ h => h) ?_; refine TR_load1 rfl 5 rfl rfl rfl (fun _ h => h) ?_; refine TR_pv1 PV_move rfl (fun _ h => h) ?_; refine TR_pv1 (PV_add64 rfl rfl (by omega)) rfl (fun _ h => h) ?_; refine TR_pv1 (PV_indexArr rfl rfl (show 0 ≤ e.r.path ∧ e.r.path < (4 : Nat) from ⟨hp0, by omega⟩)) rfl (fun _ h => h) ?_; refine TR_store0_4 rfl rfl rfl rfl (by rw [Nat.blt_eq]; show 0 + e.r.path.toNat * 1 < 4; omega) rfl ?_; refine TR_nil ?_)
          | (refine TC_plain (id := 18) (by kernel_rfl) ?_; refine TR_pv0 (PV_add64 rfl rfl (by omega)) rfl ?_; refine TR_pv0 PV_move rfl ?_; refine TR_nil ?_)
          | refine TQ_blk ?_
        refine TQ_roundP (j + 1, ⟨s2.l.modify (sp.1 + j) ackR, at4 s2.t e.r.path.toNat (tkT e.r (decide (lowIdx X.recs e.r.path.toNat = some (sp.1 + j))) (s2.t e.r.path.toNat)), at4 s2.high e.r.path.toNat (sp.1 + j : Nat)⟩, Z.put (sp.1 + j) e (ackR e.r))
          ⟨hjl, hZ.kin.put he rfl (ackR_ok hrec.2), ?_, ?_⟩ (by show (sp.2 - sp.1) - (j + 1) < mm2; omega) ⟨rfl, rfl, rfl, rfl, rfl, rfl, rfl, rfl, rfl, rfl, rfl, rfl, rfl, rfl, rfl, trivial⟩ (fun w hs => ?_)
        · rw [List.range'_1_concat, ← List.append_assoc, List.foldl_append, ← hZ.st]
          exact (ackStep_yes hs2 hak').symm
        · rw [put_recs he ackR, hZ.recs]
        · have hs' : St w₀ w (RL.bk { e with r := ackR e.r } :: tblk tb (toldCells 0 false (at4 s2.t e.r.path.toNat (tkT e.r (decide (lowIdx X.recs e.r.path.toNat = some (sp.1 + j))) (s2.t e.r.path.toNat)))) :: ((Z.bk b ++ (Z.w.C ++ (rsegs (Z.l.take (sp.1 + j)) ++ (e.w.C ++ rsegs (Z.l.drop (sp.1 + j + 1)))))) ++ []) :: lowBk lb (X.low X.l.length) ::
            [(hb, .cells ((four fun p => i64 (s2.high p)).set (0 + e.r.path.toNat * 1) (i64 ((sp.1 : Int) + j))).toArray 72 (0, 0))] :: blk g 101 [i64 sp.1, i64 sp.2] :: row.C :: (gr.C ++ (tblk rb (toldCells 0 false (fun _ => tp0)) ++ sbox sb c rwnd gr gs.length dv)) :: R) := hs
          rw [hbk_set hb _ hlt4, show (sp.1 : Int) + j = ((sp.1 + j : Nat) : Int) by omega] at hs'
          exact hs'.le (fun a => by simp only [les, put_seg b he]; omega)
    · obtain rfl : j = sp.2 - sp.1 := by omega
      repeat' first
        | refine TC_seq ?_
        | refine TQ_then ?_
        | (refine TC_plain (id := 13) (by kernel_rfl) ?_; refine TR_pv0 (PV_lss rfl rfl) rfl ?_; refine TR_nil ?_)
        | (refine TC_plain (id := 19) (by kernel_rfl) ?_; refine TR_pv0 (PV_add64 rfl rfl (by omega)) rfl ?_; refine TR_pv0 PV_move rfl ?_; refine TR_nil ?_)
        | refine TC_exit ?_
        | refine TQ_then_exit ?_
        | refine TQ_blk ?_
        | refine TQ_blk_here ?_
        | (refine TC_cond rfl rfl (fun hq => ?_) (fun hq => ?_) <;> (try simp only [qs] at hq) <;> (try simp only [reduceCtorEq] at hq) <;> (try (exfalso; omega)) <;> (try contradiction))
      refine TQ_roundP (k + 1, s2, Z) ⟨hlt, hZ.kin, ?_, hZ.recs⟩ (by show sps.length - (k + 1) < mm; omega) ⟨rfl, rfl, rfl, rfl, rfl, rfl, rfl, rfl, rfl, rfl, rfl, trivial⟩ (fun w hs => hs.le (fun a => by simp only [les]; omega))
      rw [idxsOf_next hsp1]; exact hZ.st
  · obtain rfl : k = sps.length := by omega
    rw [List.take_length] at hY
    have hYl := hY.kin.len
    refine TC_le (L' := Y.bk b :: (Y.w.C ++ rsegs Y.l) :: tblk tb (toldCells 0 false s.t) :: hbk hb s.high :: lowBk lb (X.low X.l.length) :: row.C :: (gr.C ++ (tblk rb (toldCells 0 false (fun _ => tp0)) ++ sbox sb c rwnd gr gs.length dv)) :: R) (fun a => by simp only [les, FL.seg]; omega) ?_
    repeat' first
      | refine TC_seq ?_
      | refine TQ_then ?_
      | (refine TC_plain (id := 10) (by kernel_rfl) ?_; refine TR_pv0 (PV_lss rfl rfl) rfl ?_; refine TR_nil ?_)
      | (refine TC_plain (id := 20) (by kernel_rfl) ?_; refine TR_pv0 PV_move rfl ?_; refine TR_pv0 (PV_nil rfl) rfl ?_; refine TR_pv0 (PV_fieldAddr rfl) rfl ?_; refine TR_load0 rfl 0 rfl rfl rfl ?_; refine TR_pv0 (PV_len rfl) rfl ?_; refine TR_pv0 PV_move rfl ?_; refine TR_nil ?_)
      | refine TC_exit ?_
      | refine TC_block ?_
      | refine TQ_then_exit ?_
      | refine TQ_blk_here ?_
      | (refine TC_cond rfl rfl (fun hq => ?_) (fun hq => ?_) <;> (try simp only [qs] at hq) <;> (try simp only [reduceCtorEq] at hq) <;> (try (exfalso; omega)) <;> (try contradiction))
    refine TC_loopP (X := Nat × (List FRec × (Nat → Tp)) × FL) (fun z => tblk tb (toldCells 0 false z.2.1.2) :: hbk hb s.high :: z.2.2.seg b :: row.C :: (lowBk lb (X.low X.l.length) ++ (gr.C ++ (tblk rb (toldCells 0 false (fun _ => tp0)) ++ sbox sb c rwnd gr gs.length dv))) :: R)
      (fun z => [(0, ptr b), (3, ptr sb), (4, ptr rb), (5, i64 0), (6, row.val sps.length), (8, ptr tb), (10, ptr hb), (91, Y.w.val Y.l.length), (92, i64 Y.l.length), (93, i64 z.1)])
      (fun z => z.1 ≤ X.l.length ∧ MissInv X s z.1 z.2.1 z.2.2) (fun z => X.l.length - z.1) (0, (s.l, s.t), Y) ⟨Nat.zero_le _, hY.kin, rfl, hY.recs⟩ ⟨rfl, rfl, rfl, rfl, rfl, rfl, rfl, rfl, rfl, rfl, trivial⟩ (fun w hs => hs.le (fun a => by simp only [les, FL.seg]; omega)) ?_
    rintro ⟨i, m, Z⟩ σ2 mm2 hmm2 ⟨hin, hZ⟩
    dsimp only at hmm2 hin hZ ⊢
    have hZl := hZ.kin.len
    rcases Nat.lt_or_ge i X.l.length with hil | hig
    · obtain ⟨e, he⟩ : ∃ e, Z.l[i]? = some e := ⟨Z.l[i]'(by omega), List.getElem?_eq_getElem _⟩
      have hrec := hZ.kin.ok.recs e (List.mem_of_getElem? he)
      have hm1 : m.1[i]? = some e.r := by rw [← hZ.recs]; exact recs_at he
      have hp0 := hrec.2.p0
      have hp1 := hrec.2.p1
      have hq1 := hZ.kin.ok.q1
      have hmi0 := hrec.2.m0
      have hmi1 := hrec.2.m1
      have hlt4 : e.r.path.toNat < 4 := by omega
      obtain ⟨rb2, off2, cells2, ha2, hC2, hl2, ht2⟩ := hZ.kin.ok.row.opened (by omega)
      have hc2 : cells2[off2 + (i : Int).toNat * 1]? = some (ptr e.p) := by
        rw [Int.toNat_natCast, Nat.mul_one, take_at ht2 (j := i) (by omega), List.getElem?_map, FL.ptrs, List.getElem?_map, he]; rfl
      have hsl2 : Value.slice Y.w.a Y.l.length Y.w.cap = .slice (some ⟨rb2, off2, none⟩) Y.l.length Y.w.cap := by
        rw [show Y.w = Z.w from hY.kin.w.trans hZ.kin.w.symm, ha2]
      have hgh : (four fun p => i64 (s.high p))[0 + e.r.path.toNat * 1]? = some (i64 (s.high e.r.path.toNat)) := by rw [Nat.zero_add, Nat.mul_one, four_get _ hlt4]
      have haw := away_cd e
      have skip : (e.r.away = false ∨ e.r.again = true ∨ s.high e.r.path.toNat ≤ i) → MissInv X s (i + 1) m Z := fun hcn => ⟨hZ.kin, by rw [List.range_succ, List.foldl_append, ← hZ.st]; exact (missStep_no hm1 hcn).symm, hZ.recs⟩
      refine TC_le (L' := [(rb2, .cells cells2.toArray 88 (0, 0))] :: e.bk :: tblk tb (toldCells 0 false m.2) :: hbk hb s.high :: (Z.bk b ++ (rsegs (Z.l.take i) ++ (e.w.C ++ rsegs (Z.l.drop (i + 1))))) :: row.C :: (lowBk lb (X.low X.l.length) ++ (gr.C ++ (tblk rb (toldCells 0 false (fun _ => tp0)) ++ sbox sb c rwnd gr gs.length dv))) :: R) (fun a => by simp only [les, FL.seg_at b he, hC2]; omega) ?_
      by_cases hc1 : e.r.away = true
      · rw [hc1] at haw
        by_cases hc3 : e.r.again = true
        · have hn3 : ¬ e.r.again = false := by rw [hc3]; simp
          repeat' first
            | refine TC_seq ?_
            | refine TQ_then ?_
            | (refine TC_plain (id := 21) (by kernel_rfl) ?_; refine TR_pv0 (PV_lss rfl rfl) rfl ?_; refine TR_nil ?_)
            | (refine TC_plain (id := 22) (by kernel_rfl) ?_; refine TR_pv0 PV_move rfl ?_; refine TR_pv0 (PV_indexAddr hsl2 rfl (by omega)) rfl ?_; refine TR_load0 rfl 0 rfl hc2 rfl ?_; refine TR_pv0 PV_assign rfl ?_; refine TR_pv0 PV_assign rfl ?_; refine TR_nil ?_)
            | (refine TC_plain (id := 23) (by kernel_rfl) ?_; all_goals refine TR_pv0 PV_move rfl ?_; all_goals refine TR_calld1_1 (haw) rfl rfl rfl rfl ?_; all_goals refine TR_pv0 (PV_not rfl) rfl ?_; all_goals refine TR_pv0 PV_move rfl ?_; all_goals refine TR_pv0 PV_move rfl ?_; all_goals refine TR_pv0 (PV_nil rfl) rfl ?_; all_goals refine TR_pv0 (PV_fieldAddr rfl) rfl ?_; all_goals refine TR_load0 rfl 1 rfl rfl rfl ?_; all_goals refine TR_pv0 (PV_pick_f rfl) rfl ?_; all_goals refine TR_pv0 PV_move rfl ?_; all_goals (refine TR_gsplit rfl rfl rfl (fun hq => ?_) (fun hq => ?_) <;> (try simp only [qs] at hq) <;> (try simp only [reduceCtorEq] at hq) <;> (try (exfalso; omega)) <;> (try contradiction) <;> refine TR_skip0 rfl ?_); all_goals refine TR_skip0 rfl ?_; all_goals refine TR_skip0 rfl ?_; all_goals refine TR_skip0 rfl ?_; all_goals refine TR_skip0 rfl ?_; all_goals refine TR_skip0 rfl ?_; all_goals refine TR_skip0 rfl ?_; all_goals refine TR_skip0 rfl ?_; all_goals refine TR_pv0 (PV_pick_t rfl) rfl ?_; all_goals refine TR_nil ?_)
            | (refine TC_plain (id := 27) (by kernel_rfl) ?_; refine TR_pv0 (PV_add64 rfl rfl (by omega)) rfl ?_; refine TR_pv0 PV_move rfl ?_; refine TR_nil ?_)
            | refine TC_cond_t rfl rfl ?_
            | refine TC_skip ?_
            | refine TC_exit ?_
            | refine TC_block ?_
            | refine TQ_then_exit ?_
            | refine TQ_blk_here ?_
            | (refine TC_cond rfl rfl (fun hq => ?_) (fun hq => ?_) <;> (try simp only [qs] at hq) <;> (try simp only [reduceCtorEq] at hq) <;> (try (exfalso; omega)) <;> (try contradiction))
          all_goals exact TQ_roundP (i + 1, m, Z) ⟨hil, skip (.inr (.inl hc3))⟩ (by show X.l.length - (i + 1) < mm2; omega) ⟨rfl, rfl, rfl, rfl, rfl, rfl, rfl, rfl, rfl, rfl, trivial⟩ (fun w hs => hs.le (fun a => by simp only [les, FL.seg_at b he, hC2]; omega))
        · have hn3 : e.r.again = false := by simpa using hc3
          by_cases hc4 : s.high e.r.path.toNat ≤ i
          · repeat' first
            | refine TC_seq ?_
            | refine TQ_then ?_
            | (refine TC_plain (id := 21) (by kernel_rfl) ?_; refine TR_pv0 (PV_lss rfl rfl) rfl ?_; refine TR_nil ?_)
            | (refine TC_plain (id := 22) (by kernel_rfl) ?_; refine TR_pv0 PV_move rfl ?_; refine TR_pv0 (PV_indexAddr hsl2 rfl (by omega)) rfl ?_; refine TR_load0 rfl 0 rfl hc2 rfl ?_; refine TR_pv0 PV_assign rfl ?_; refine TR_pv0 PV_assign rfl ?_; refine TR_nil ?_)
            | (refine TC_plain (id := 23) (by kernel_rfl) ?_; all_goals refine TR_pv0 PV_move rfl ?_; all_goals refine TR_calld1_1 (haw) rfl rfl rfl rfl ?_; all_goals refine TR_pv0 (PV_not rfl) rfl ?_; all_goals refine TR_pv0 PV_move rfl ?_; all_goals refine TR_pv0 PV_move rfl ?_; all_goals refine TR_pv0 (PV_nil rfl) rfl ?_; all_goals refine TR_pv0 (PV_fieldAddr rfl) rfl ?_; all_goals refine TR_load0 rfl 1 rfl rfl rfl ?_; all_goals refine TR_pv0 (PV_pick_f rfl) rfl ?_; all_goals refine TR_pv0 PV_move rfl ?_; all_goals (refine TR_gsplit rfl rfl rfl (fun hq => ?_) (fun hq => ?_) <;> (try simp only [qs] at hq) <;> (try simp only [reduceCtorEq] at hq) <;> (try (exfalso; omega)) <;> (try contradiction) <;> refine TR_pv0 PV_move rfl ?_); all_goals refine TR_pv0 (PV_nil rfl) rfl ?_; all_goals refine TR_pv0 (PV_fieldAddr rfl) rfl ?_; all_goals refine TR_load0 rfl 1 rfl rfl rfl ?_; all_goals refine TR_pv0 (PV_indexArr rfl rfl (by omega)) rfl ?_; all_goals refine TR_load0 rfl 3 rfl hgh rfl ?_; all_goals refine TR_pv0 PV_move rfl ?_; all_goals refine TR_pv0 (PV_leq rfl rfl) rfl ?_; all_goals refine TR_pv0 (PV_pick_f rfl) rfl ?_; all_goals refine TR_nil ?_)
            | (refine TC_plain (id := 27) (by kernel_rfl) ?_; refine TR_pv0 (PV_add64 rfl rfl (by omega)) rfl ?_; refine TR_pv0 PV_move rfl ?_; refine TR_nil ?_)
            | refine TC_skip ?_
            | refine TC_exit ?_
            | refine TC_block ?_
            | refine TQ_then_exit ?_
            | refine TQ_blk_here ?_
            | (refine TC_cond rfl rfl (fun hq => ?_) (fun hq => ?_) <;> (try simp only [qs] at hq) <;> (try simp only [reduceCtorEq] at hq) <;> (try (exfalso; omega)) <;> (try contradiction))
            all_goals exact TQ_roundP (i + 1, m, Z) ⟨hil, skip (.inr (.inr hc4))⟩ (by show X.l.length - (i + 1) < mm2; omega) ⟨rfl, rfl, rfl, rfl, rfl, rfl, rfl, rfl, rfl, rfl, trivial⟩ (fun w hs => hs.le (fun a => by simp only [les, FL.seg_at b he, hC2]; omega))
          · have hcn : ¬ (e.r.away = false ∨ e.r.again = true ∨ s.high e.r.path.toNat ≤ i) := by rintro (h' | h' | h') <;> simp_all
            have hlost : e.r.lost = false := by
              have := hc1
              unfold FRec.away at this
              simp only [Bool.and_eq_true, Bool.not_eq_true'] at this
              exact this.1.2
            have hnext : missStep s.high m i = _ := missStep_yes hm1 hcn
            have hst : ∀ m', missStep s.high m i = m' → m' = (List.range (i + 1)).foldl (missStep s.high) (s.l, s.t) := fun m' hm' => by rw [List.range_succ, List.foldl_append, ← hZ.st]; exact hm'.symm
            have hrecs : (Z.put i e (missR e.r)).recs = m.1.modify i missR := by rw [put_recs he missR, hZ.recs]
            by_cases hc5 : 3 ≤ e.r.miss + 1
            · rw [if_pos hc5] at hnext
              repeat' first
                | refine TC_seq ?_
                | refine TQ_then ?_
                | (refine TC_plain (id := 21) (by kernel_rfl) ?_; refine TR_pv0 (PV_lss rfl rfl) rfl ?_; refine TR_nil ?_)
                | (refine TC_plain (id := 22) (by kernel_rfl) ?_; refine TR_pv0 PV_move rfl ?_; refine TR_pv0 (PV_indexAddr hsl2 rfl (by omega)) rfl ?_; refine TR_load0 rfl 0 rfl hc2 rfl ?_; refine TR_pv0 PV_assign rfl ?_; refine TR_pv0 PV_assign rfl ?_; refine TR_nil ?_)
                | (refine TC_plain (id := 23) (by kernel_rfl) ?_; all_goals refine TR_pv0 PV_move rfl ?_; all_goals refine TR_calld1_1 (haw) rfl rfl rfl rfl ?_; all_goals refine TR_pv0 (PV_not rfl) rfl ?_; all_goals refine TR_pv0 PV_move rfl ?_; all_goals refine TR_pv0 PV_move rfl ?_; all_goals refine TR_pv0 (PV_nil rfl) rfl ?_; all_goals refine TR_pv0 (PV_fieldAddr rfl) rfl ?_; all_goals refine TR_load0 rfl 1 rfl rfl rfl ?_; all_goals refine TR_pv0 (PV_pick_f rfl) rfl ?_; all_goals refine TR_pv0 PV_move rfl ?_; all_goals (refine TR_gsplit rfl rfl rfl (fun hq => ?_) (fun hq => ?_) <;> (try simp only [qs] at hq) <;> (try simp only [reduceCtorEq] at hq) <;> (try (exfalso; omega)) <;> (try contradiction) <;> refine TR_pv0 PV_move rfl ?_); all_goals refine TR_pv0 (PV_nil rfl) rfl ?_; all_goals refine TR_pv0 (PV_fieldAddr rfl) rfl ?_; all_goals refine TR_load0 rfl 1 rfl rfl rfl ?_; all_goals refine TR_pv0 (PV_indexArr rfl rfl (by omega)) rfl ?_; all_goals refine TR_load0 rfl 3 rfl hgh rfl ?_; all_goals refine TR_pv0 PV_move rfl ?_; all_goals refine TR_pv0 (PV_leq rfl rfl) rfl ?_; all_goals refine TR_pv0 (PV_pick_f rfl) rfl ?_; all_goals refine TR_nil ?_)
                | (refine TC_plain (id := 24) (by kernel_rfl) ?_; refine TR_pv0 PV_move rfl ?_; refine TR_pv0 (PV_nil rfl) rfl ?_; refine TR_pv0 (PV_fieldAddr rfl) rfl ?_; refine TR_load0 rfl 1 rfl rfl rfl ?_; refine TR_pv0 (PV_add64 rfl rfl (by omega)) rfl ?_; refine TR_pv0 (PV_nil rfl) rfl ?_; refine TR_pv0 (PV_fieldAddr rfl) rfl ?_; refine TR_store0_1 rfl rfl rfl rfl rfl rfl ?_; refine TR_nil ?_)
                | (refine TC_plain (id := 25) (by kernel_rfl) ?_; refine TR_pv0 PV_move rfl ?_; refine TR_pv0 (PV_nil rfl) rfl ?_; refine TR_pv0 (PV_fieldAddr rfl) rfl ?_; refine TR_load0 rfl 1 rfl rfl rfl ?_; refine TR_pv0 (PV_geq rfl rfl) rfl ?_; refine TR_nil ?_)
                | (refine TC_plain (id := 26) (by kernel_rfl) ?_; refine TR_pv0 PV_move rfl ?_; refine TR_pv0 PV_move rfl ?_; refine TR_pv0 (PV_nil rfl) rfl ?_; refine TR_pv0 (PV_fieldAddr rfl) rfl ?_; refine TR_load0 rfl 1 rfl rfl rfl ?_; refine TR_pv0 (PV_nil rfl) rfl ?_; refine TR_pv0 (PV_fieldAddr rfl) rfl ?_; refine TR_store0_1 rfl rfl rfl rfl rfl rfl ?_; refine TR_pv0 (PV_fieldAddr rfl) rfl ?_; refine TR_pv0 (PV_indexArr rfl rfl (by omega)) rfl ?_; refine TR_pv0 (PV_fieldAddr rfl) rfl ?_; refine TR_store0_2 rfl rfl rfl rfl (by rw [Nat.blt_eq]; show 0 + 2 + e.r.path.toNat * 5 + 2 < 22; omega) rfl ?_; refine TR_nil ?_)
                | (refine TC_plain (id := 27) (by kernel_rfl) ?_; refine TR_pv0 (PV_add64 rfl rfl (by omega)) rfl ?_; refine TR_pv0 PV_move rfl ?_; refine TR_nil ?_)
                | refine TC_skip ?_
                | refine TC_block ?_
                | refine TQ_blk ?_
                | (refine TC_cond rfl rfl (fun hq => ?_) (fun hq => ?_) <;> (try simp only [qs] at hq) <;> (try simp only [reduceCtorEq] at hq) <;> (try (exfalso; omega)) <;> (try contradiction))
              refine TQ_roundP (i + 1, (m.1.modify i missR, at4 m.2 e.r.path.toNat { m.2 e.r.path.toNat with fast := true }), Z.put i e (missR e.r)) ⟨hil, hZ.kin.put he rfl (missR_ok hrec.2 hlost hn3), hst _ hnext, hrecs⟩ (by show X.l.length - (i + 1) < mm2; omega) ⟨rfl, rfl, rfl, rfl, rfl, rfl, rfl, rfl, rfl, rfl, trivial⟩ (fun w hs => ?_)
              have hs' : St w₀ w ([(rb2, .cells cells2.toArray 88 (0, 0))] :: RL.bk { e with r := { e.r with miss := e.r.miss + 1, lost := true } } ::
                [(tb, .cells ((toldCells 0 false m.2).set (0 + 2 + e.r.path.toNat * 5 + 2) (.bool true)).toArray 40 (0, 0))] :: hbk hb s.high :: (Z.bk b ++ (rsegs (Z.l.take i) ++ (e.w.C ++ rsegs (Z.l.drop (i + 1))))) :: row.C :: (lowBk lb (X.low X.l.length) ++ (gr.C ++ (tblk rb (toldCells 0 false (fun _ => tp0)) ++ sbox sb c rwnd gr gs.length dv))) :: R) := hs
              rw [told_fast _ _ _ hlt4, ← missR_hi hc5] at hs'
              exact hs'.le (fun a => by simp only [les, put_seg b he, hC2]; omega)
            · rw [if_neg hc5] at hnext
              repeat' first
                | refine TC_seq ?_
                | refine TQ_then ?_
                | (refine TC_plain (id := 21) (by kernel_rfl) ?_; refine TR_pv0 (PV_lss rfl rfl) rfl ?_; refine TR_nil ?_)
                | (refine TC_plain (id := 22) (by kernel_rfl) ?_; refine TR_pv0 PV_move rfl ?_; refine TR_pv0 (PV_indexAddr hsl2 rfl (by omega)) rfl ?_; refine TR_load0 rfl 0 rfl hc2 rfl ?_; refine TR_pv0 PV_assign rfl ?_; refine TR_pv0 PV_assign rfl ?_; refine TR_nil ?_)
                | (refine TC_plain (id := 23) (by kernel_rfl) ?_; all_goals refine TR_pv0 PV_move rfl ?_; all_goals refine TR_calld1_1 (haw) rfl rfl rfl rfl ?_; all_goals refine TR_pv0 (PV_not rfl) rfl ?_; all_goals refine TR_pv0 PV_move rfl ?_; all_goals refine TR_pv0 PV_move rfl ?_; all_goals refine TR_pv0 (PV_nil rfl) rfl ?_; all_goals refine TR_pv0 (PV_fieldAddr rfl) rfl ?_; all_goals refine TR_load0 rfl 1 rfl rfl rfl ?_; all_goals refine TR_pv0 (PV_pick_f rfl) rfl ?_; all_goals refine TR_pv0 PV_move rfl ?_; all_goals (refine TR_gsplit rfl rfl rfl (fun hq => ?_) (fun hq => ?_) <;> (try simp only [qs] at hq) <;> (try simp only [reduceCtorEq] at hq) <;> (try (exfalso; omega)) <;> (try contradiction) <;> refine TR_pv0 PV_move rfl ?_); all_goals refine TR_pv0 (PV_nil rfl) rfl ?_; all_goals refine TR_pv0 (PV_fieldAddr rfl) rfl ?_; all_goals refine TR_load0 rfl 1 rfl rfl rfl ?_; all_goals refine TR_pv0 (PV_indexArr rfl rfl (by omega)) rfl ?_; all_goals refine TR_load0 rfl 3 rfl hgh rfl ?_; all_goals refine TR_pv0 PV_move rfl ?_; all_goals refine TR_pv0 (PV_leq rfl rfl) rfl ?_; all_goals refine TR_pv0 (PV_pick_f rfl) rfl ?_; all_goals refine TR_nil ?_)
                | (refine TC_plain (id := 24) (by kernel_rfl) ?_; refine TR_pv0 PV_move rfl ?_; refine TR_pv0 (PV_nil rfl) rfl ?_; refine TR_pv0 (PV_fieldAddr rfl) rfl ?_; refine TR_load0 rfl 1 rfl rfl rfl ?_; refine TR_pv0 (PV_add64 rfl rfl (by omega)) rfl ?_; refine TR_pv0 (PV_nil rfl) rfl ?_; refine TR_pv0 (PV_fieldAddr rfl) rfl ?_; refine TR_store0_1 rfl rfl rfl rfl rfl rfl ?_; refine TR_nil ?_)
                | (refine TC_plain (id := 25) (by kernel_rfl) ?_; refine TR_pv0 PV_move rfl ?_; refine TR_pv0 (PV_nil rfl) rfl ?_; refine TR_pv0 (PV_fieldAddr rfl) rfl ?_; refine TR_load0 rfl 1 rfl rfl rfl ?_; refine TR_pv0 (PV_geq rfl rfl) rfl ?_; refine TR_nil ?_)
                | (refine TC_plain (id := 27) (by kernel_rfl) ?_; refine TR_pv0 (PV_add64 rfl rfl (by omega)) rfl ?_; refine TR_pv0 PV_move rfl ?_; refine TR_nil ?_)
                | refine TC_skip ?_
                | refine TC_block ?_
                | refine TQ_blk ?_
                | (refine TC_cond rfl rfl (fun hq => ?_) (fun hq => ?_) <;> (try simp only [qs] at hq) <;> (try simp only [reduceCtorEq] at hq) <;> (try (exfalso; omega)) <;> (try contradiction))
              refine TQ_roundP (i + 1, (m.1.modify i missR, m.2), Z.put i e (missR e.r)) ⟨hil, hZ.kin.put he rfl (missR_ok hrec.2 hlost hn3), hst _ hnext, hrecs⟩ (by show X.l.length - (i + 1) < mm2; omega) ⟨rfl, rfl, rfl, rfl, rfl, rfl, rfl, rfl, rfl, rfl, trivial⟩ (fun w hs => ?_)
              have hs' : St w₀ w ([(rb2, .cells cells2.toArray 88 (0, 0))] :: RL.bk { e with r := { e.r with miss := e.r.miss + 1 } } :: tblk tb (toldCells 0 false m.2) :: hbk hb s.high :: (Z.bk b ++ (rsegs (Z.l.take i) ++ (e.w.C ++ rsegs (Z.l.drop (i + 1))))) :: row.C ::
                (lowBk lb (X.low X.l.length) ++ (gr.C ++ (tblk rb (toldCells 0 false (fun _ => tp0)) ++ sbox sb c rwnd gr gs.length dv))) :: R) := hs
              rw [← missR_lo hc5] at hs'
              exact hs'.le (fun a => by simp only [les, put_seg b he, hC2]; omega)
      · have hc1' : e.r.away = false := by simpa using hc1
        rw [hc1'] at haw
        repeat' first
          | refine TC_seq ?_
          | refine TQ_then ?_
          | (refine TC_plain (id := 21) (by kernel_rfl) ?_; refine TR_pv0 (PV_lss rfl rfl) rfl ?_; refine TR_nil ?_)
          | (refine TC_plain (id := 22) (by kernel_rfl) ?_; refine TR_pv0 PV_move rfl ?_; refine TR_pv0 (PV_indexAddr hsl2 rfl (by omega)) rfl ?_; refine TR_load0 rfl 0 rfl hc2 rfl ?_; refine TR_pv0 PV_assign rfl ?_; refine TR_pv0 PV_assign rfl ?_; refine TR_nil ?_)
          | (refine TC_plain (id := 23) (by kernel_rfl) ?_; all_goals refine TR_pv0 PV_move rfl ?_; all_goals refine TR_calld1_1 (haw) rfl rfl rfl rfl ?_; all_goals refine TR_pv0 (PV_not rfl) rfl ?_; all_goals refine TR_pv0 PV_move rfl ?_; all_goals refine TR_skip0 rfl ?_; all_goals refine TR_skip0 rfl ?_; all_goals refine TR_skip0 rfl ?_; all_goals refine TR_skip0 rfl ?_; all_goals refine TR_pv0 (PV_pick_t rfl) rfl ?_; all_goals refine TR_pv0 PV_move rfl ?_; all_goals refine TR_skip0 rfl ?_; all_goals refine TR_skip0 rfl ?_; all_goals refine TR_skip0 rfl ?_; all_goals refine TR_skip0 rfl ?_; all_goals refine TR_skip0 rfl ?_; all_goals refine TR_skip0 rfl ?_; all_goals refine TR_skip0 rfl ?_; all_goals refine TR_skip0 rfl ?_; all_goals refine TR_pv0 (PV_pick_t rfl) rfl ?_; all_goals refine TR_nil ?_)
          | (refine TC_plain (id := 27) (by kernel_rfl) ?_; refine TR_pv0 (PV_add64 rfl rfl (by omega)) rfl ?_; refine TR_pv0 PV_move rfl ?_; refine TR_nil ?_)
          | refine TC_cond_t rfl rfl ?_
          | refine TC_skip ?_
          | refine TC_exit ?_
          | refine TC_block ?_
          | refine TQ_then_exit ?_
          | refine TQ_blk_here ?_
          | (refine TC_cond rfl rfl (fun hq => ?_) (fun hq => ?_) <;> (try simp only [qs] at hq) <;> (try simp only [reduceCtorEq] at hq) <;> (try (exfalso; omega)) <;> (try contradiction))
        all_goals exact TQ_roundP (i + 1, m, Z) ⟨hil, skip (.inl hc1')⟩ (by show X.l.length - (i + 1) < mm2; omega) ⟨rfl, rfl, rfl, rfl, rfl, rfl, rfl, rfl, rfl, rfl, trivial⟩ (fun w hs => hs.le (fun a => by simp only [les, FL.seg_at b he, hC2]; omega))
    · obtain rfl : i = X.l.length := by omega
      have hfall : ∀ sp ∈ sps, sp.1 ≤ sp.2 := fun sp hsp => (f2 sp hsp).1
      obtain ⟨qb, off, cells, ha, hC, hl, ht⟩ := hrow.opened (by omega)
      have hsl : Value.slice row.a sps.length row.cap = .slice (some ⟨qb, off, none⟩) sps.length row.cap := by rw [ha]
      have hgm : (qb, Obj.cells cells.toArray 101 (0, 0)) ∈ row.C := by rw [hC]; exact .head _
      have hgat : ∀ (k : Nat) sp, sps[k]? = some sp → (cells.drop (off + k * 2)).take 2 = [i64 sp.1, i64 sp.2] := fun k sp hsp1 => by
        refine flat_at (xs := sps.map fun s => [i64 s.1, i64 s.2]) (fun x hx => ?_) (by rw [List.length_map]; exact ht) (by rw [List.getElem?_map, hsp1]; rfl)
        obtain ⟨g', _, rfl⟩ := List.mem_map.1 hx; rfl
      refine TC_le (L' := tblk tb (toldCells 0 false m.2) :: Z.seg b :: row.C :: (hbk hb s.high ++ (lowBk lb (X.low X.l.length) ++ (gr.C ++ (tblk rb (toldCells 0 false (fun _ => tp0)) ++ sbox sb c rwnd gr gs.length dv)))) :: R) (fun a => by simp only [les]; omega) ?_
      repeat' first
        | refine TC_seq ?_
        | refine TQ_then ?_
        | (refine TC_plain (id := 21) (by kernel_rfl) ?_; refine TR_pv0 (PV_lss rfl rfl) rfl ?_; refine TR_nil ?_)
        | (refine TC_plain (id := 28) (by kernel_rfl) ?_; (refine TR_alloc0 rfl ?_; intro tn); refine TR_store0_0 rfl rfl rfl rfl rfl rfl ?_; refine TR_nil ?_)
        | (refine TC_plain (id := 29) (by kernel_rfl) ?_; refine TR_pv0 PV_move rfl ?_; refine TR_pv0 (PV_len rfl) rfl ?_; refine TR_pv0 PV_move rfl ?_; refine TR_nil ?_)
        | refine TC_exit ?_
        | refine TC_block ?_
        | refine TQ_then_exit ?_
        | refine TQ_blk_here ?_
        | (refine TC_cond rfl rfl (fun hq => ?_) (fun hq => ?_) <;> (try simp only [qs] at hq) <;> (try simp only [reduceCtorEq] at hq) <;> (try (exfalso; omega)) <;> (try contradiction))
      refine TC_loopP (X := Nat × Int) (fun z => ibox tn z.2 :: row.C :: tblk tb (toldCells 0 false m.2) :: Z.seg b :: (hbk hb s.high ++ (lowBk lb (X.low X.l.length) ++ (gr.C ++ (tblk rb (toldCells 0 false (fun _ => tp0)) ++ sbox sb c rwnd gr gs.length dv)))) :: R)
        (fun z => [(0, ptr b), (3, ptr sb), (4, ptr rb), (5, i64 0), (6, row.val sps.length), (8, ptr tb), (17, ptr tn), (140, row.val sps.length), (141, i64 sps.length), (142, i64 z.1)])
        (fun z => z.1 ≤ sps.length ∧ z.2 = wide2 (sps.take z.1)) (fun z => sps.length - z.1) (0, 0) ⟨Nat.zero_le _, rfl⟩ ⟨rfl, rfl, rfl, rfl, rfl, rfl, rfl, rfl, rfl, rfl, trivial⟩
        (fun w hs => St.le (L := ibox tn 0 :: tblk tb (toldCells 0 false m.2) :: Z.seg b :: row.C :: (hbk hb s.high ++ (lowBk lb (X.low X.l.length) ++ (gr.C ++ (tblk rb (toldCells 0 false (fun _ => tp0)) ++ sbox sb c rwnd gr gs.length dv)))) :: R) hs (fun a => by simp only [les]; omega)) ?_
      rintro ⟨k, n⟩ σ3 mm3 hmm3 ⟨hk3, hn3⟩
      dsimp only at hmm3 hk3 hn3 ⊢
      have hnb : 0 ≤ n ∧ n ≤ 2048 := by
        have h1 := wide2_len (sps.take k) fun sp hsp => hfall sp (List.mem_of_mem_take hsp)
        have h2 := idxsOf_take sps k
        omega
      rcases Nat.lt_or_ge k sps.length with hlt3 | hge3
      · obtain ⟨sp, hsp1⟩ : ∃ sp, sps[k]? = some sp := ⟨sps[k], List.getElem?_eq_getElem hlt3⟩
        obtain ⟨g1, g2⟩ := f2 sp (List.mem_of_getElem? hsp1)
        have hgv : (cells.drop (off + (k : Int).toNat * 2)).take 2 = [i64 sp.1, i64 sp.2] := by rw [Int.toNat_natCast]; exact hgat k sp hsp1
        repeat' first
          | refine TC_seq ?_
          | refine TQ_then ?_
          | (refine TC_plain (id := 30) (by kernel_rfl) ?_; refine TR_pv0 (PV_lss rfl rfl) rfl ?_; refine TR_nil ?_)
          | (refine TC_plain (id := 31) (by kernel_rfl) ?_; refine TR_pv0 (PV_indexAddr hsl rfl (by omega)) rfl ?_; refine TR_loadAM0 rfl hgm 1 rfl hgv rfl rfl ?_; (refine TR_alloc0 rfl ?_; intro g3); refine TR_storeA0_0 rfl rfl rfl rfl rfl rfl ?_; refine TR_nil ?_)
          | (refine TC_plain (id := 32) (by kernel_rfl) ?_; refine TR_load0 rfl 1 rfl rfl rfl ?_; refine TR_pv0 (PV_indexArr rfl rfl (by omega)) rfl ?_; refine TR_load0 rfl 0 rfl rfl rfl ?_; refine TR_pv0 (PV_indexArr rfl rfl (by omega)) rfl ?_; refine TR_load0 rfl 0 rfl rfl rfl ?_; refine TR_pv0 (PV_sub64 rfl rfl (by omega)) rfl ?_; refine TR_pv0 (PV_add64 rfl rfl (by omega)) rfl ?_; refine TR_store0_1 rfl rfl rfl rfl rfl rfl ?_; refine TR_nil ?_)
          | (refine TC_plain (id := 33) (by kernel_rfl) ?_; refine TR_pv0 (PV_add64 rfl rfl (by omega)) rfl ?_; refine TR_pv0 PV_move rfl ?_; refine TR_nil ?_)
          | refine TC_skip ?_
          | refine TC_block ?_
          | refine TQ_blk ?_
          | (refine TC_cond rfl rfl (fun hq => ?_) (fun hq => ?_) <;> (try simp only [qs] at hq) <;> (try simp only [reduceCtorEq] at hq) <;> (try (exfalso; omega)) <;> (try contradiction))
        refine TQ_roundP (k + 1, n + ((sp.2 : Int) - sp.1)) ⟨hlt3, by rw [wide2_next hsp1, hn3]⟩ (by show sps.length - (k + 1) < mm3; omega) ⟨rfl, rfl, rfl, rfl, rfl, rfl, rfl, rfl, rfl, rfl, trivial⟩ (fun w hs => ?_)
        have hs' : St w₀ w (blk g3 101 [i64 sp.1, i64 sp.2] :: ibox tn (n + ((sp.2 : Int) - sp.1)) :: row.C :: tblk tb (toldCells 0 false m.2) :: Z.seg b :: (hbk hb s.high ++ (lowBk lb (X.low X.l.length) ++ (gr.C ++ (tblk rb (toldCells 0 false (fun _ => tp0)) ++ sbox sb c rwnd gr gs.length dv)))) :: R) := hs
        exact hs'.le (fun a => by simp only [les]; omega)
      · obtain rfl : k = sps.length := by omega
        rw [List.take_length] at hn3
        repeat' first
          | refine TC_seq ?_
          | refine TQ_then ?_
          | (refine TC_plain (id := 30) (by kernel_rfl) ?_; refine TR_pv0 (PV_lss rfl rfl) rfl ?_; refine TR_nil ?_)
          | (refine TC_plain (id := 34) (by kernel_rfl) ?_; refine TR_pv0 PV_move rfl ?_; (refine TR_call0 (such_ct (some ⟨b, 0, none⟩) 46 #[] #[]) rfl rfl .nil rfl ?_; rintro _ _ ⟨b1, b2, rfl, rfl⟩); refine TR_nil ?_)
          | refine TC_exit ?_
          | refine TC_block ?_
          | refine TQ_then_exit ?_
          | refine TQ_blk_here ?_
          | (refine TC_cond rfl rfl (fun hq => ?_) (fun hq => ?_) <;> (try simp only [qs] at hq) <;> (try simp only [reduceCtorEq] at hq) <;> (try (exfalso; omega)) <;> (try contradiction))
        have hcount := countIf_le (fun r => r.acked) Z.recs
        have hZr : Z.recs.length = X.l.length := by rw [recs_length]; exact hZl
        refine TC_such (R := row.C :: tblk tb (toldCells 0 false m.2) :: (hbk hb s.high ++ (lowBk lb (X.low X.l.length) ++ (gr.C ++ (tblk rb (toldCells 0 false (fun _ => tp0)) ++ sbox sb c rwnd gr gs.length dv)))) :: R) b b1 b2 46 [] [] Z.ptrs Z.w (fun n' : Int => ibox tn n') (fun _ => Z) (fun k n' => n' = n - countIf (fun r => r.acked) (Z.recs.take k)) n (fun _ _ _ => ⟨rfl, rfl, hZ.kin.ok⟩)
          (fun k n' e hn' he => ?_) (by simp [countIf]) rfl rfl (Le.trans (M := fbox b1 (some ⟨b, 0, none⟩) :: isbox b2 (.func (.func 46) #[] #[]) :: ibox tn n :: row.C :: tblk tb (toldCells 0 false m.2) :: Z.seg b :: (hbk hb s.high ++ (lowBk lb (X.low X.l.length) ++ (gr.C ++ (tblk rb (toldCells 0 false (fun _ => tp0)) ++ sbox sb c rwnd gr gs.length dv)))) :: R) (Le.refl _) (fun a => by simp only [les]; omega)) (fun d n' hn' => ?_)
        · refine ⟨e.r.acked, Cd.within (E := [ibox tn n' ++ (Z.bk b ++ (Z.w.C ++ (rsegs (Z.l.take k) ++ (e.w.C ++ rsegs (Z.l.drop (k + 1))))))]) (sack1_cd e) (fun a => by simp only [les, FL.seg_at b he]; omega) (fun a => by simp only [les, FL.seg_at b he]; omega), fun hf => ?_, fun ht l r hr1 hr2 w₁ R' => ?_⟩
          · rw [countIf_next (fun r => r.acked) (recs_at he), hf, hn']; simp
          · have h1 := countIf_take hZ.kin.ok (fun r => r.acked) k
            have h3 := countIf_next (fun r => r.acked) (recs_at he)
            rw [if_pos ht] at h3
            refine TC_le (L' := loopSeg l r :: ibox tn n' :: ((fbox b1 (some ⟨b, 0, none⟩) ++ isbox b2 (.func (.func 46) #[] #[])) ++ Z.seg b) :: R') (fun a => by simp only [les]; omega) ?_
            repeat' first
              | refine TQ_begun hr1 (Le.refl _) ?_
              | (refine TC_plain (id := 35) (by kernel_rfl) ?_; refine TR_load0 rfl 1 rfl rfl rfl ?_; refine TR_pv0 (PV_sub64 rfl rfl (by omega)) rfl ?_; refine TR_store0_1 rfl rfl rfl rfl rfl rfl ?_; refine TR_nil ?_)
              | refine TC_skip ?_
              | refine TC_block ?_
              | refine TQ_blk ?_
            refine TQ_le (L' := loopSeg l (busy r) :: ibox tn (n' - 1) :: ((fbox b1 (some ⟨b, 0, none⟩) ++ isbox b2 (.func (.func 46) #[] #[])) ++ Z.seg b) :: R') (Le.refl _) ?_
            exact TQ_roundOn hr1 hr2 (Le.refl _) ⟨rfl, n' - 1, by rw [h3, hn']; omega, rfl⟩ (fun a => by simp only [les]; omega)
        · rw [recs_all, hZ.recs] at hn'
          have hcum : Z.cum = X.cum := hZ.kin.cum
          have hbase : ((X.abs.base c : Nat) : Int) = (c - X.cum) % 4294967296 := by show (((c - X.cum) % 4294967296).toNat : Int) = _; omega
          have hs0 : sps[0]? = some (0, X.abs.base c) := by rw [← hsps]; rfl
          generalize hB : X.abs.base c = base at hbase hs0 f1
          have hsp0 : cells[off + (0 : Int).toNat * 2 + (1 : Int).toNat * 1]? = some (i64 base) := take_at (hgat 0 _ hs0) (j := 1) (by omega)
          have hcapZ := hZ.kin.ok.row.cap
          refine TQ_blk ?_
          refine TQ_then ?_
          refine TC_cut (X := Bool) (fun wv => Z.bk b :: (Z.w.C ++ rsegs Z.l) :: sbox sb c rwnd gr gs.length dv :: tblk tb (toldCells 0 wv m.2) :: row.C :: (defSeg d ++ (hbk hb s.high ++ (lowBk lb (X.low X.l.length) ++ (gr.C ++ tblk rb (toldCells 0 false (fun _ => tp0)))))) :: R) (fun _ => [(0, ptr b), (3, ptr sb), (4, ptr rb), (6, row.val sps.length), (8, ptr tb)])
            (fun wv => wv = (decide (c ≠ X.cum) || decide (n' = 0))) ?_ ?_
          · refine TC_le (L' := Z.bk b :: (Z.w.C ++ rsegs Z.l) :: sbox sb c rwnd gr gs.length dv :: tblk tb (toldCells 0 false m.2) :: ibox tn n' :: row.C :: (defSeg d ++ (hbk hb s.high ++ (lowBk lb (X.low X.l.length) ++ (gr.C ++ tblk rb (toldCells 0 false (fun _ => tp0)))))) :: R) (fun a => by simp only [les, FL.seg]; omega) ?_
            by_cases hcc : c = Z.cum
            · repeat' first
              | refine TQ_noPanic ?_
              | (refine TC_drawn' (id := 36) [(0, 1), (1, 1), (2, 1), (3, 1), (4, 1), (5, 1), (6, 1), (7, 1), (8, 1), (9, 1), (10, 1), (11, 1), (12, 0)] mixed (by kernel_rfl) ?_; all_goals refine TR_pv1 (PV_fieldAddr rfl) rfl (fun _ h => h) ?_; all_goals refine TR_load1 rfl 2 rfl rfl rfl (fun _ h => h) ?_; all_goals refine TR_pv1 PV_move rfl (fun _ h => h) ?_; all_goals refine TR_pv1 (PV_nil rfl) rfl (fun _ h => h) ?_; all_goals refine TR_pv1 (PV_fieldAddr rfl) rfl (fun _ h => h) ?_; all_goals refine TR_load1 rfl 0 rfl rfl rfl (fun _ h => h) ?_; all_goals refine TR_pv1 (PV_neq rfl rfl) rfl (fun _ h => h) ?_; all_goals refine TR_pv1 PV_move rfl (fun _ h => h) ?_; all_goals (refine TR_gsplit rfl rfl rfl (fun hq => ?_) (fun hq => ?_) <;> (try simp only [qs] at hq) <;> (try simp only [reduceCtorEq] at hq) <;> (try (exfalso; omega)) <;> (try contradiction) <;> refine TR_load1 rfl 4 rfl rfl rfl (fun _ h => h) ?_); all_goals refine TR_pv1 (PV_eql rfl rfl) rfl (fun _ h => h) ?_; all_goals refine TR_pv1 (PV_pick_f rfl) rfl (fun _ h => h) ?_; all_goals refine TR_pv1 (PV_fieldAddr rfl) rfl (fun _ h => h) ?_; all_goals refine TR_store0_3 rfl rfl rfl rfl rfl rfl ?_; all_goals refine TR_nil ?_)
              refine TQ_cut (decide (n' = 0)) ?_ ⟨rfl, rfl, rfl, rfl, rfl, trivial⟩ (fun w hs => St.le (L := Z.bk b :: (Z.w.C ++ rsegs Z.l) :: sbox sb c rwnd gr gs.length dv :: tblk tb (toldCells 0 (decide (n' = 0)) m.2) :: ibox tn n' :: row.C :: (defSeg d ++ (hbk hb s.high ++ (lowBk lb (X.low X.l.length) ++ (gr.C ++ tblk rb (toldCells 0 false (fun _ => tp0)))))) :: R) hs (fun a => by simp only [les]; omega))
              rw [decide_eq_false (show ¬ (c ≠ X.cum) by rw [← hcum]; simp [hcc])]; rfl
            · repeat' first
              | refine TQ_noPanic ?_
              | (refine TC_drawn' (id := 36) [(0, 1), (1, 1), (2, 1), (3, 1), (4, 1), (5, 1), (6, 1), (7, 1), (8, 1), (9, 1), (10, 1), (11, 1), (12, 0)] mixed (by kernel_rfl) ?_; all_goals refine TR_pv1 (PV_fieldAddr rfl) rfl (fun _ h => h) ?_; all_goals refine TR_load1 rfl 2 rfl rfl rfl (fun _ h => h) ?_; all_goals refine TR_pv1 PV_move rfl (fun _ h => h) ?_; all_goals refine TR_pv1 (PV_nil rfl) rfl (fun _ h => h) ?_; all_goals refine TR_pv1 (PV_fieldAddr rfl) rfl (fun _ h => h) ?_; all_goals refine TR_load1 rfl 0 rfl rfl rfl (fun _ h => h) ?_; all_goals refine TR_pv1 (PV_neq rfl rfl) rfl (fun _ h => h) ?_; all_goals refine TR_pv1 PV_move rfl (fun _ h => h) ?_; all_goals (refine TR_gsplit rfl rfl rfl (fun hq => ?_) (fun hq => ?_) <;> (try simp only [qs] at hq) <;> (try simp only [reduceCtorEq] at hq) <;> (try (exfalso; omega)) <;> (try contradiction) <;> refine TR_skip1 rfl (fun _ h => h) ?_); all_goals refine TR_skip1 rfl (fun _ h => h) ?_; all_goals refine TR_pv1 (PV_pick_t rfl) rfl (fun _ h => h) ?_; all_goals refine TR_pv1 (PV_fieldAddr rfl) rfl (fun _ h => h) ?_; all_goals refine TR_store0_3 rfl rfl rfl rfl rfl rfl ?_; all_goals refine TR_nil ?_)
              refine TQ_cut true ?_ ⟨rfl, rfl, rfl, rfl, rfl, trivial⟩ (fun w hs => St.le (L := Z.bk b :: (Z.w.C ++ rsegs Z.l) :: sbox sb c rwnd gr gs.length dv :: tblk tb (toldCells 0 true m.2) :: ibox tn n' :: row.C :: (defSeg d ++ (hbk hb s.high ++ (lowBk lb (X.low X.l.length) ++ (gr.C ++ tblk rb (toldCells 0 false (fun _ => tp0)))))) :: R) hs (fun a => by simp only [les]; omega))
              rw [decide_eq_true (show c ≠ X.cum by rw [← hcum]; exact hcc)]; rfl
          · intro wv σ4 hwv
            repeat' first
              | refine TC_seq ?_
              | refine TQ_then ?_
              | refine TQ_noPanic ?_
              | (refine TC_drawn' (id := 37) [(0, 1), (1, 1), (2, 1), (3, 1), (4, 1), (5, 1), (6, 1), (7, 1), (8, 1), (9, 1), (10, 1)] mixed (by kernel_rfl) ?_; refine TR_pv1 PV_move rfl (fun _ h => h) ?_; refine TR_pv1 (PV_nil rfl) rfl (fun _ h => h) ?_; refine TR_pv1 (PV_fieldAddr rfl) rfl (fun _ h => h) ?_; refine TR_load1 rfl 0 rfl rfl rfl (fun _ h => h) ?_; refine TR_pv1 PV_move rfl (fun _ h => h) ?_; refine TR_pv1 (PV_indexAddr hsl rfl (by omega)) rfl (fun _ h => h) ?_; refine TR_pv1 (PV_indexArr rfl rfl (by omega)) rfl (fun _ h => h) ?_; refine TR_loadM1 rfl hgm 4 rfl hsp0 rfl (fun _ h => h) ?_; refine TR_pv1 (PV_sliceH rfl rfl (by omega)) rfl (fun _ h => h) ?_; refine TR_pv1 (PV_len rfl) rfl (fun _ h => h) ?_; refine TR_pv1 PV_move rfl (fun _ h => h) ?_; refine TR_nil ?_)
              | refine TC_block ?_
            refine TC_loopP (X := Nat × Int) (fun z => tblk tb (toldCells z.2 wv m.2) :: Z.seg b :: sbox sb c rwnd gr gs.length dv :: row.C :: (defSeg d ++ (hbk hb s.high ++ (lowBk lb (X.low X.l.length) ++ (gr.C ++ tblk rb (toldCells 0 false (fun _ => tp0)))))) :: R)
              (fun z => [(0, ptr b), (3, ptr sb), (4, ptr rb), (6, row.val sps.length), (8, ptr tb), (179, .slice (cutAt Z.w.a Z.w.cap 0 1) base Z.w.cap), (180, i64 base), (181, i64 z.1)])
              (fun z => z.1 ≤ base ∧ z.2 = sumIf (fun _ => true) (Z.recs.take z.1)) (fun z => base - z.1) (0, 0) ⟨Nat.zero_le _, rfl⟩ ⟨rfl, rfl, rfl, rfl, rfl, rfl, rfl, rfl, trivial⟩
              (fun w hs => St.le (L := Z.bk b :: (Z.w.C ++ rsegs Z.l) :: sbox sb c rwnd gr gs.length dv :: tblk tb (toldCells 0 wv m.2) :: row.C :: (defSeg d ++ (hbk hb s.high ++ (lowBk lb (X.low X.l.length) ++ (gr.C ++ tblk rb (toldCells 0 false (fun _ => tp0)))))) :: R) hs (fun a => by simp only [les, FL.seg]; omega)) ?_
            rintro ⟨k, f⟩ σ5 mm5 hmm5 ⟨hk5, hf5⟩
            dsimp only at hmm5 hk5 hf5 ⊢
            rcases Nat.lt_or_ge k base with hkl | hkg
            · obtain ⟨e, he⟩ : ∃ e, Z.l[k]? = some e := ⟨Z.l[k]'(by omega), List.getElem?_eq_getElem _⟩
              have hrec := hZ.kin.ok.recs e (List.mem_of_getElem? he)
              have hb1 := hrec.2.b1
              have hsum := sumIf_take hZ.kin.ok (fun _ => true) k
              rw [← hf5] at hsum
              obtain ⟨rb2, off2, cells2, ha2, hC2, hl2, ht2⟩ := hZ.kin.ok.row.opened (by omega)
              have hc2 : cells2[off2 + 0 * 1 + (k : Int).toNat * 1]? = some (ptr e.p) := by
                rw [Int.toNat_natCast, Nat.zero_mul, Nat.mul_one, Nat.add_zero, take_at ht2 (j := k) (by omega), List.getElem?_map, FL.ptrs, List.getElem?_map, he]; rfl
              have hsl2 : Value.slice (cutAt Z.w.a Z.w.cap 0 1) base Z.w.cap = .slice (some ⟨rb2, off2 + 0 * 1, none⟩) base Z.w.cap := by
                rw [cutAt, if_neg (by omega), ha2]; simp [addr_add]
              refine TC_le (L' := [(rb2, .cells cells2.toArray 88 (0, 0))] :: e.bk :: tblk tb (toldCells f wv m.2) :: (Z.bk b ++ (rsegs (Z.l.take k) ++ (e.w.C ++ rsegs (Z.l.drop (k + 1))))) :: sbox sb c rwnd gr gs.length dv :: row.C :: (defSeg d ++ (hbk hb s.high ++ (lowBk lb (X.low X.l.length) ++ (gr.C ++ tblk rb (toldCells 0 false (fun _ => tp0)))))) :: R) (fun a => by simp only [les, FL.seg_at b he, hC2]; omega) ?_
              repeat' first
                | refine TC_seq ?_
                | refine TQ_then ?_
                | refine TQ_noPanic ?_
                | (refine TC_plain (id := 38) (by kernel_rfl) ?_; refine TR_pv0 (PV_lss rfl rfl) rfl ?_; refine TR_nil ?_)
                | (refine TC_plain (id := 39) (by kernel_rfl) ?_; refine TR_pv0 (PV_indexAddr hsl2 rfl (by omega)) rfl ?_; refine TR_load0 rfl 0 rfl hc2 rfl ?_; refine TR_pv0 PV_assign rfl ?_; refine TR_nil ?_)
                | (refine TC_drawn' (id := 40) [(0, 1), (1, 1), (2, 1), (3, 1), (4, 1), (5, 1), (6, 1), (7, 1), (8, 1), (9, 1), (10, 0)] mixed (by kernel_rfl) ?_; refine TR_pv1 (PV_fieldAddr rfl) rfl (fun _ h => h) ?_; refine TR_load1 rfl 2 rfl rfl rfl (fun _ h => h) ?_; refine TR_pv1 PV_move rfl (fun _ h => h) ?_; refine TR_pv1 (PV_nil rfl) rfl (fun _ h => h) ?_; refine TR_pv1 (PV_fieldAddr rfl) rfl (fun _ h => h) ?_; refine TR_pv1 (PV_fieldAddr rfl) rfl (fun _ h => h) ?_; refine TR_load1 rfl 1 rfl rfl rfl (fun _ h => h) ?_; refine TR_pv1 (PV_len rfl) rfl (fun _ h => h) ?_; refine TR_pv1 (PV_add64 rfl rfl (by omega)) rfl (fun _ h => h) ?_; refine TR_pv1 (PV_fieldAddr rfl) rfl (fun _ h => h) ?_; refine TR_store0_2 rfl rfl rfl rfl rfl rfl ?_; refine TR_nil ?_)
                | (refine TC_plain (id := 41) (by kernel_rfl) ?_; refine TR_pv0 (PV_add64 rfl rfl (by omega)) rfl ?_; refine TR_pv0 PV_move rfl ?_; refine TR_nil ?_)
                | refine TC_skip ?_
                | refine TC_block ?_
                | refine TQ_blk ?_
                | (refine TC_cond rfl rfl (fun hq => ?_) (fun hq => ?_) <;> (try simp only [qs] at hq) <;> (try simp only [reduceCtorEq] at hq) <;> (try (exfalso; omega)) <;> (try contradiction))
              refine TQ_roundP (k + 1, f + e.r.d.bytes.length) ⟨hkl, by rw [sumIf_next _ (recs_at he), hf5]; simp⟩ (by show base - (k + 1) < mm5; omega) ⟨rfl, rfl, rfl, rfl, rfl, rfl, rfl, rfl, trivial⟩ (fun w hs => ?_)
              have hs' : St w₀ w ([(rb2, .cells cells2.toArray 88 (0, 0))] :: e.bk :: tblk tb (toldCells (f + e.r.d.bytes.length) wv m.2) :: (Z.bk b ++ (rsegs (Z.l.take k) ++ (e.w.C ++ rsegs (Z.l.drop (k + 1))))) :: sbox sb c rwnd gr gs.length dv :: row.C :: (defSeg d ++ (hbk hb s.high ++ (lowBk lb (X.low X.l.length) ++ (gr.C ++ tblk rb (toldCells 0 false (fun _ => tp0)))))) :: R) := hs
              exact hs'.le (fun a => by simp only [les, FL.seg_at b he, hC2]; omega)
            · obtain rfl : k = base := by omega
              refine TC_le (L' := Z.bk b :: sbox sb c rwnd gr gs.length dv :: row.C :: tblk tb (toldCells f wv m.2) :: (Z.w.C ++ rsegs Z.l) :: tblk rb (toldCells 0 false (fun _ => tp0)) :: (defSeg d ++ (hbk hb s.high ++ (lowBk lb (X.low X.l.length) ++ gr.C))) :: R) (fun a => by simp only [les, FL.seg]; omega) ?_
              repeat' first
                | refine TC_seq ?_
                | refine TQ_then ?_
                | refine TQ_noPanic ?_
                | (refine TC_plain (id := 38) (by kernel_rfl) ?_; refine TR_pv0 (PV_lss rfl rfl) rfl ?_; refine TR_nil ?_)
                | (refine TC_drawn' (id := 42) [(0, 1), (1, 3), (2, 1), (3, 1), (4, 1), (5, 1), (6, 1), (7, 1), (8, 1), (9, 1), (10, 1), (11, 3), (12, 3), (13, 1), (14, 1), (15, 5), (16, 0), (17, 0), (18, 0)] mixed (by kernel_rfl) ?_; refine TR_pv1 PV_move rfl (fun _ h => h) ?_; refine TR_pv3 PV_move rfl (fun _ h => h.tail) ?_; refine TR_pv1 PV_move rfl (fun _ h => h) ?_; refine TR_pv1 (PV_nil rfl) rfl (fun _ h => h) ?_; refine TR_pv1 (PV_fieldAddr rfl) rfl (fun _ h => h) ?_; refine TR_load1 rfl 0 rfl rfl rfl (fun _ h => h) ?_; refine TR_pv1 PV_move rfl (fun _ h => h) ?_; refine TR_pv1 (PV_indexAddr hsl rfl (by omega)) rfl (fun _ h => h) ?_; refine TR_pv1 (PV_indexArr rfl rfl (by omega)) rfl (fun _ h => h) ?_; refine TR_loadM1 rfl hgm 2 rfl hsp0 rfl (fun _ h => h) ?_; refine TR_pv1 (PV_sliceL rfl rfl (by omega)) rfl (fun _ h => h) ?_; refine TR_pv3 (PV_fieldAddr rfl) rfl (fun _ h => h.tail) ?_; refine TR_load3 rfl 0 rfl rfl rfl (fun _ h => h.tail) ?_; refine TR_pv1 (PV_nil rfl) rfl (fun _ h => h) ?_; refine TR_pv1 (PV_fieldAddr rfl) rfl (fun _ h => h) ?_; refine TR_store5_0 rfl rfl rfl rfl rfl rfl (fun _ h => h) ?_; refine TR_pv0 (PV_nil rfl) rfl ?_; refine TR_pv0 (PV_fieldAddr rfl) rfl ?_; refine TR_store0_0 rfl rfl rfl rfl rfl rfl ?_; refine TR_nil ?_)
                | refine TC_exit ?_
                | refine TQ_then_exit ?_
                | refine TQ_blk_here ?_
                | (refine TC_cond rfl rfl (fun hq => ?_) (fun hq => ?_) <;> (try simp only [qs] at hq) <;> (try simp only [reduceCtorEq] at hq) <;> (try (exfalso; omega)) <;> (try contradiction))
              obtain ⟨C', hC', hCC⟩ := hZ.kin.ok.row.drop (k := k) (by omega)
              refine TC_le (L' := blk b 86 [.slice (cutAt Z.w.a Z.w.cap k 1) (Z.l.length - k) (Z.w.cap - k), u32 c, i64 Z.paths] :: sbox sb c rwnd gr gs.length dv :: row.C :: tblk tb (toldCells f wv m.2) :: (Z.w.C ++ rsegs Z.l) :: tblk rb (toldCells 0 false (fun _ => tp0)) :: (defSeg d ++ (hbk hb s.high ++ (lowBk lb (X.low X.l.length) ++ gr.C))) :: R) (Le.refl _) ?_
              repeat' first
                | refine TQ_then ?_
                | (refine TC_plain (id := 43) (by kernel_rfl) ?_; refine TR_loadA0 rfl 3 rfl rfl rfl ?_; refine TR_storeA0_5 rfl rfl rfl rfl rfl rfl ?_; refine TR_pv0 PV_assign rfl ?_; refine TR_nil ?_)
                | refine TC_ret ?_
              refine TQ_le (L' := blk b 86 [.slice (cutAt Z.w.a Z.w.cap k 1) (Z.l.length - k) (Z.w.cap - k), u32 c, i64 Z.paths] :: sbox sb c rwnd gr gs.length dv :: row.C :: tblk tb (toldCells f wv m.2) :: (Z.w.C ++ rsegs Z.l) :: tblk rb (setAll (toldCells 0 false (fun _ => tp0)) 0 (((toldCells f wv m.2).drop 0).take 22)) :: (defSeg d ++ (hbk hb s.high ++ (lowBk lb (X.low X.l.length) ++ gr.C))) :: R) (Le.refl _) ?_
              rw [told_copy]
              refine TQ_mark (M := tblk rb (toldCells f wv m.2) :: blk b 86 [.slice (cutAt Z.w.a Z.w.cap k 1) (Z.l.length - k) (Z.w.cap - k), u32 c, i64 Z.paths] :: (Z.w.C ++ rsegs Z.l) :: gr.C :: R) (fun a => by simp only [les]; omega) ?_
              refine TQ_unmarked ?_
              have hacks : X.abs.acks c gs = s := by
                show (idxsOf (spansOf (X.abs.base c) gs)).foldl (ackStep (lowIdx X.recs)) (sk0 X.recs) = s
                rw [hsps]; exact hY.st.symm
              have hmis : X.abs.misses c gs = m := by rw [Flt.misses, hacks, hlenX]; exact hZ.st.symm
              have hT : (X.abs.sackT c gs).cells = toldCells f wv m.2 := by
                rw [Told.cells, Flt.sackT, hmis, hsps, hB, hf5, hZ.recs, hwv, hn', hn3]; rfl
              refine TQ_retG (vs := [.agg (toldCells f wv m.2).toArray, i64 0]) rfl (.agg inferInstance rfl rfl 0 rfl rfl (.tmp rfl rfl .nil)) rfl ⟨by rw [hT], Z.dropTo k c C', rfl, dropTo_ok hZ.kin.ok (by omega) hc (by rw [hcum]; omega) hC', ?_⟩ ?_
              · rw [Flt.sack, hmis, hB, ← hZ.recs]
                show Flt.mk ((Z.l.drop k).map RL.r) c Z.paths = Flt.mk (Z.recs.drop k) c X.paths
                rw [List.map_drop, hZ.kin.paths]; rfl
              · rcases hCC with rfl | rfl
                · exact (fun a => by simp only [les, dropTo_seg, rsegs_cut Z.l k]; omega)
                · exact (fun a => by simp only [les, dropTo_seg, rsegs_cut Z.l k]; omega)
theorem sackF_nil (v : Value) (cs : List Value) (hv : v = .agg cs.toArray) : Cd Try.prog 14 [.pointer none, v] [] (.tuple #[.agg (toldCells 0 false (fun _ => tp0)).toArray, i64 2]) [] := by
  subst hv
  refine Ct_intro Try.func14 rfl (by simp only [Try.ntmps14, List.length_cons, List.length_nil]; omega) ?_
  intro w₀ R
  repeat' first
    | refine TC_seq ?_
    | refine TQ_then ?_
    | (refine TC_plain (id := 0) (by kernel_rfl) ?_; (refine TR_box0 rfl rfl rfl ?_; intro sb); (refine TR_alloc0 rfl ?_; intro rb); refine TR_pv0 PV_assign rfl ?_; refine TR_nil ?_)
    | (refine TC_plain (id := 1) (by kernel_rfl) ?_; refine TR_pv0 PV_move rfl ?_; refine TR_pv0 (PV_peq_nil rfl rfl) rfl ?_; refine TR_nil ?_)
    | (refine TC_plain (id := 2) (by kernel_rfl) ?_; refine TR_pv0 (PV_build rfl rfl) rfl ?_; refine TR_storeA0_0 rfl rfl rfl rfl rfl rfl ?_; refine TR_pv0 PV_assign rfl ?_; refine TR_nil ?_)
    | refine TC_cond_t rfl rfl ?_
    | refine TC_ret ?_
    | refine TQ_then_ret ?_
  refine TQ_le (L' := tblk rb (toldCells 0 false (fun _ => tp0)) :: blk sb 48 cs :: R) (Le.refl _) ?_
  exact TQ_retG rfl (.agg inferInstance rfl rfl 0 rfl rfl (.tmp rfl rfl .nil)) rfl ⟨rfl, rfl⟩ (fun a => by simp only [les]; omega)
end Go.Proofs.Ytonfkkdahlboiaa
