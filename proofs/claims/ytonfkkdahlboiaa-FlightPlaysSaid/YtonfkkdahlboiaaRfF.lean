/- The flight of the reference: Sack: what its loops keep. -/
import Derived.Test.YtonfkkdahlboiaaRfE
namespace Go.Proofs.Ytonfkkdahlboiaa
open Go.RowKit
set_option maxHeartbeats 4000000
set_option maxRecDepth 10000

theorem told_c0 (f : Int) (w : Bool) (t : Nat → Tp) (v : Tp) {p : Nat} (h : p < 4) : (toldCells f w (at4 t p v))[0 + 2 + p * 5 + 0]? = some (i64 v.acked) := by
  match p, h with
  | 0, _ => rfl
  | 1, _ => rfl
  | 2, _ => rfl
  | 3, _ => rfl
theorem told_s0 (f : Int) (w : Bool) (t : Nat → Tp) (v : Tp) {p : Nat} (h : p < 4) (x : Int) : (toldCells f w (at4 t p v)).set (0 + 2 + p * 5 + 0) (i64 x) = toldCells f w (at4 t p { v with acked := x }) := by
  match p, h with
  | 0, _ => rfl
  | 1, _ => rfl
  | 2, _ => rfl
  | 3, _ => rfl
theorem told_s1 (f : Int) (w : Bool) (t : Nat → Tp) (v : Tp) {p : Nat} (h : p < 4) (x : Bool) : (toldCells f w (at4 t p v)).set (0 + 2 + p * 5 + 1) (.bool x) = toldCells f w (at4 t p { v with pseudo := x }) := by
  match p, h with
  | 0, _ => rfl
  | 1, _ => rfl
  | 2, _ => rfl
  | 3, _ => rfl
theorem told_s34 (f : Int) (w : Bool) (t : Nat → Tp) (v : Tp) {p : Nat} (h : p < 4) (x : Int) (y : Bool) : ((toldCells f w (at4 t p v)).set (0 + 2 + p * 5 + 3) (i64 x)).set (0 + 2 + p * 5 + 4) (.bool y) = toldCells f w (at4 t p { v with at_ := x, some_ := y }) := by
  match p, h with
  | 0, _ => rfl
  | 1, _ => rfl
  | 2, _ => rfl
  | 3, _ => rfl
theorem told_blt (f : Int) (w : Bool) (t : Nat → Tp) {p j : Nat} (h : p < 4) (hj : j < 5) : Nat.blt (0 + 2 + p * 5 + j) (toldCells f w t).length = true := by
  rw [told_length]; exact Nat.ble_eq_true_of_le (show 0 + 2 + p * 5 + j + 1 ≤ 22 by omega)
theorem four_blt (g : Nat → Value) {p : Nat} (h : p < 4) : Nat.blt (0 + p * 1) (four g).length = true := Nat.ble_eq_true_of_le (show 0 + p * 1 + 1 ≤ 4 by omega)
theorem four_at (g : Nat → Int) {p : Nat} (h : p < 4) : (four fun q => i64 (g q))[0 + p * 1]? = some (i64 (g p)) := by rw [Nat.zero_add, Nat.mul_one]; exact four_get (fun q => i64 (g q)) h
theorem cons_path {P : Int} (h0 : 0 ≤ P) (h1 : P < 4) : P.toNat < 4 := by omega

/-- What is kept of a flight while its records are turned. -/
structure QS (X Y : QF) (l : List FRec) : Prop where
  ok : QfOk Y
  recs : Y.recs = l
  cum : Y.cum = X.cum
  paths : Y.paths = X.paths
  segs : qsegs Y.l = qsegs X.l
theorem QS.len {X Y : QF} {l : List FRec} (h : QS X Y l) : Y.l.length = l.length := by rw [← h.recs, qrecs_length]
theorem QS.put {X Y : QF} {l : List FRec} (h : QS X Y l) {k : Nat} {x : QL} (hx : Y.l[k]? = some x) (f : FRec → FRec) {rb off : Nat} {cells : List Value} (hd : (f x.r).d = x.r.d)
    (hq : QAt off Y.w.cap cells (Y.l.set k { x with r := f x.r })) : QS X (Y.put k { x with r := f x.r } (some ⟨rb, off, none⟩) [(rb, .cells cells.toArray 111 (0, 0))]) (l.modify k f) :=
  ⟨⟨hq.sl rb, oks_set h.ok.recs hx rfl hd⟩, (recs_set hx f).trans (by rw [← h.recs]; rfl), h.cum, h.paths, (qsegs_set (y := { x with r := f x.r }) hx rfl).trans h.segs⟩
theorem QS.at_ {X Y : QF} {l : List FRec} (h : QS X Y l) {k : Nat} (hk : k < l.length) : ∃ x, Y.l[k]? = some x ∧ l[k]? = some x.r := by
  have h1 : k < Y.l.length := by rw [h.len]; exact hk
  exact ⟨Y.l[k], List.getElem?_eq_getElem h1, by rw [← h.recs]; exact qrecs_at (List.getElem?_eq_getElem h1)⟩

theorem ackTo_ok {F : Flt} (hf : FrOk F) (c : Int) (gs : List (Int × Int)) : ∀ i, ∀ r ∈ (ackTo F c gs i).l, FRecOk r F.paths
  | 0 => hf.recs
  | i + 1 => by
    have ih := ackTo_ok hf c gs i
    rw [ackTo_next]
    split
    · rw [ackStep_l]
      intro r hr
      obtain ⟨j, hj⟩ := List.getElem?_of_mem hr
      rw [List.getElem?_modify] at hj
      cases hx : (ackTo F c gs i).l[j]? with
      | none => rw [hx] at hj; simp at hj
      | some x =>
        rw [hx] at hj
        have hx' := ih x (List.mem_of_getElem? hx)
        simp only [Option.map_eq_map, Option.map_some, Option.some.injEq] at hj
        subst hj
        split
        · exact ackR_ok hx'
        · exact hx'
    · exact ih
theorem ackTo_acked {F : Flt} (hf : FrOk F) (c : Int) (gs : List (Int × Int)) (i : Nat) (hi : i ≤ 2048) (p : Nat) : 0 ≤ ((ackTo F c gs i).t p).acked ∧ ((ackTo F c gs i).t p).acked ≤ 2147483648 := by
  have e : ackTo F c gs i = ((List.range i).filter (toldB (F.base c) gs)).foldl (ackStep (lowIdx F.l)) (sk0 F.l) := by rw [List.foldl_filter]; rfl
  have := acked_bound (lowIdx F.l) ((List.range i).filter (toldB (F.base c) gs)) (sk0 F.l) 0 (fun r hr => (hf.recs r hr).b1) (fun p => ⟨Int.le_refl _, Int.le_refl _⟩) p
  have hl : ((List.range i).filter (toldB (F.base c) gs)).length ≤ i := by have := List.length_filter_le (toldB (F.base c) gs) (List.range i); rwa [List.length_range] at this
  rw [e]
  omega
/-- The rounds of the third loop. -/
def missTo (F : Flt) (c : Int) (gs : List (Int × Int)) (i : Nat) : List FRec × (Nat → Tp) := (List.range i).foldl (missStep (F.acks c gs).high) ((F.acks c gs).l, (F.acks c gs).t)
theorem missTo_next (F : Flt) (c : Int) (gs : List (Int × Int)) (i : Nat) : missTo F c gs (i + 1) = missStep (F.acks c gs).high (missTo F c gs i) i := by
  rw [missTo, List.range_succ, List.foldl_append]; rfl
theorem missTo_get (F : Flt) (c : Int) (gs : List (Int × Int)) {i k : Nat} (h : i ≤ k) : (missTo F c gs i).1[k]? = (F.acks c gs).l[k]? := by
  rw [missTo, misses_at]
  show (F.acks c gs).l[k]?.map _ = _
  cases (F.acks c gs).l[k]? with
  | none => rfl
  | some r => rw [Option.map_some, if_neg (fun h' => by omega)]
theorem missTo_len (F : Flt) (c : Int) (gs : List (Int × Int)) : ∀ i, (missTo F c gs i).1.length = (F.acks c gs).l.length
  | 0 => rfl
  | i + 1 => by rw [missTo_next, missStep_len, missTo_len F c gs i]
theorem misses_d (F : Flt) (c : Int) (gs : List (Int × Int)) (hm : F.may c gs = true) : szs (F.misses c gs).1 = szs F.l := by
  have m2 : szs (F.misses c gs).1 = szs (F.acks c gs).l := miss_same (fun _ => rfl) _ _ _
  rw [m2, acks_told hm]
  have : ∀ i, szs (ackTo F c gs i).l = szs F.l := by
    intro i
    induction i with
    | zero => rfl
    | succ i ih =>
      rw [ackTo_next]
      split
      · rw [ackStep_l]; exact (map_modify_same (g := ackR) (w := fun r : FRec => (r.d.bytes.length : Int)) (fun _ => rfl) _ _).trans ih
      · exact ih
  exact this _
theorem sum_szs (l : List FRec) (k : Nat) : sumIf (fun _ => true) (l.take k) = ((szs l).take k).sum := by
  rw [szs, ← List.map_take]; simp [sumIf]
theorem at4_at4 {α : Type} (g : Nat → α) (i : Nat) (v w : α) : at4 (at4 g i v) i w = at4 g i w := by
  funext j; unfold at4; split <;> rfl
theorem at4_get {α : Type} (g : Nat → α) (i : Nat) (v : α) : at4 g i v i = v := by unfold at4; rw [if_pos rfl]
theorem low_at4 {l : List FRec} {i : Nat} {r : FRec} (h : l[i]? = some r) (h0 : 0 ≤ r.path) (hc : r.acked = false ∧ r.gone = false) : (fun p => lowFrom l i p) = at4 (fun p => lowFrom l (i + 1) p) r.path.toNat (i : Int) := by
  funext p
  rw [lowFrom_step h p, hc.1, hc.2]
  unfold at4
  by_cases hp : p = r.path.toNat
  · rw [if_pos hp, if_pos]
    simp; omega
  · rw [if_neg hp, if_neg]
    simp; omega
theorem low_same {l : List FRec} {i : Nat} {r : FRec} (h : l[i]? = some r) (hc : r.acked = true ∨ r.gone = true) : (fun p => lowFrom l i p) = fun p => lowFrom l (i + 1) p := by
  funext p
  rw [lowFrom_step h p, if_neg]
  rcases hc with hc | hc <;> rw [hc] <;> simp
theorem miss_acked {F : Flt} {c : Int} {gs : List (Int × Int)} {k : Nat} {r : FRec} (h : (F.misses c gs).1[k]? = some r) : ackAt (F.misses c gs).1 k = r.acked := by rw [ackAt, h]

theorem qsack_no (b : Nat) (X : QF) (hf : FrOk X.abs) (c rwnd : Int) (gs : List (Int × Int)) (ga : Option Addr) (gcap : Nat) (dv : Value) (H : Seg) (hc : 0 ≤ c ∧ c ≤ 4294967295) (hgs : GapsOk gs) (hs : SliceAt H 2 ga gs.length (gapL gs)) (hgn : gs.length ≤ 1099511627776)
    (hmay : X.abs.may c gs = false) : Cd Try.prog 56 [ptr b, .agg (scells c rwnd (.slice ga gs.length gcap) dv).toArray] [X.seg b, H] (.tuple #[.agg told0.cells.toArray, i64 1]) [X.seg b, H] := by
  have hm := qmay_cd b X hf c rwnd gs ga gcap dv H hc hgs hs hgn
  rw [hmay] at hm
  have htk : (told0.cells.drop 0).take 22 = told0.cells := tk_told told0
  refine Ct_intro Try.func56 rfl (by simp only [Try.ntmps56, List.length_cons, List.length_nil]; omega) ?_
  intro w₀ R
  refine TC_le (L' := X.bk b :: H :: (X.w.C ++ qsegs X.l) :: R) (fun a => by simp only [les, QF.seg]; omega) ?_
  repeat' first
    | refine TC_seq ?_
    | refine TQ_then ?_
    | refine TR_nil ?_
    | refine TQ_noPanic ?_
    | (refine TC_plain (id := 0) (by kernel_rfl) ?_; (refine TR_box0 rfl rfl rfl ?_; intro sb); (refine TR_alloc0 rfl ?_; intro rb); refine TR_pv0 PV_assign rfl ?_; refine TR_nil ?_)
    | (refine TC_plain (id := 1) (by kernel_rfl) ?_; (refine TR_alloc0 rfl ?_; intro tb); refine TR_nil ?_)
    | (refine TC_plain (id := 2) (by kernel_rfl) ?_; refine TR_pv0 PV_move rfl ?_; (first | refine TR_pv0 (PV_peq_nil rfl rfl) rfl ?_ | refine TR_pv0 (PV_peq rfl rfl) rfl ?_); refine TR_nil ?_)
    | refine TC_cond_t rfl rfl ?_
    | refine TC_cond_f rfl rfl ?_
    | refine TC_skip ?_
    | refine TC_ret ?_
    | refine TC_exit ?_
    | refine TC_block ?_
    | refine TQ_then_ret ?_
    | refine TQ_then_exit ?_
    | refine TQ_blk ?_
    | refine TQ_blk_ret ?_
    | refine TQ_blk_here ?_
    | refine TQ_blk_past rfl ?_
    | refine TC_label ?_
    | (refine TC_cond rfl rfl (fun hq => ?_) (fun hq => ?_) <;> (try simp only [qs] at hq) <;> (try simp only [reduceCtorEq] at hq) <;> (try (exfalso; omega)) <;> (try contradiction))
  refine TC_le (L' := X.bk b :: H :: ttbk tb told0.cells :: sbk sb c rwnd (.slice ga gs.length gcap) dv :: ttbk rb told0.cells :: (X.w.C ++ qsegs X.l) :: R) (Le.trans (M := ttbk tb told0.cells :: ttbk rb told0.cells :: sbk sb c rwnd (.slice ga gs.length gcap) dv :: X.bk b :: H :: (X.w.C ++ qsegs X.l) :: R) (Le.refl _) (fun a => by simp only [les]; omega)) ?_
  repeat' first
    | refine TC_seq ?_
    | refine TQ_then ?_
    | refine TR_nil ?_
    | refine TQ_noPanic ?_
    | (refine TC_plain (id := 4) (by kernel_rfl) ?_; refine TR_pv0 PV_move rfl ?_; (first | refine TR_loadAM0 rfl (.head _) 2 rfl htk rfl rfl ?_ | refine TR_loadA0 rfl 0 rfl rfl rfl ?_ | refine TR_loadA0 rfl 1 rfl rfl rfl ?_ | refine TR_loadA0 rfl 2 rfl rfl rfl ?_ | refine TR_loadA0 rfl 3 rfl rfl rfl ?_ | refine TR_loadA0 rfl 4 rfl rfl rfl ?_); refine TR_calld2_0_1 (hm) rfl rfl rfl rfl ?_; refine TR_pv0 (PV_not rfl) rfl ?_; refine TR_nil ?_)
    | (refine TC_plain (id := 5) (by kernel_rfl) ?_; (first | refine TR_loadAM0 rfl (.head _) 2 rfl htk rfl rfl ?_ | refine TR_loadA0 rfl 0 rfl rfl rfl ?_ | refine TR_loadA0 rfl 1 rfl rfl rfl ?_ | refine TR_loadA0 rfl 2 rfl rfl rfl ?_ | refine TR_loadA0 rfl 3 rfl rfl rfl ?_ | refine TR_loadA0 rfl 4 rfl rfl rfl ?_); (first | refine TR_storeA0_0 rfl rfl rfl rfl rfl rfl ?_ | refine TR_storeA0_1 rfl rfl rfl rfl rfl rfl ?_ | refine TR_storeA0_2 rfl rfl rfl rfl rfl rfl ?_ | refine TR_storeA0_3 rfl rfl rfl rfl rfl rfl ?_ | refine TR_storeA0_4 rfl rfl rfl rfl rfl rfl ?_); refine TR_pv0 PV_assign rfl ?_; refine TR_nil ?_)
    | refine TC_cond_t rfl rfl ?_
    | refine TC_cond_f rfl rfl ?_
    | refine TC_skip ?_
    | refine TC_ret ?_
    | refine TC_exit ?_
    | refine TC_block ?_
    | refine TQ_then_ret ?_
    | refine TQ_then_exit ?_
    | refine TQ_blk ?_
    | refine TQ_blk_ret ?_
    | refine TQ_blk_here ?_
    | refine TQ_blk_past rfl ?_
    | refine TC_label ?_
    | (refine TC_cond rfl rfl (fun hq => ?_) (fun hq => ?_) <;> (try simp only [qs] at hq) <;> (try simp only [reduceCtorEq] at hq) <;> (try (exfalso; omega)) <;> (try contradiction))
  refine TQ_le (L' := X.bk b :: H :: ttbk tb told0.cells :: sbk sb c rwnd (.slice ga gs.length gcap) dv :: ttbk rb (setAll (toldCells 0 false (fun _ => tp0)) 0 told0.cells) :: (X.w.C ++ qsegs X.l) :: R) (Le.refl _) ?_
  rw [cp_told]
  exact TQ_retG rfl (.agg inferInstance rfl rfl 4 rfl rfl (.tmp rfl rfl .nil)) rfl ⟨rfl, rfl⟩ (fun a => by simp only [les, QF.seg]; omega)
end Go.Proofs.Ytonfkkdahlboiaa
