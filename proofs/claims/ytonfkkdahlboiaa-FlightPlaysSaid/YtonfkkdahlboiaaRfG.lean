/- The flight of the reference: Sack. -/
import Derived.Test.YtonfkkdahlboiaaRfF
namespace Go.Proofs.Ytonfkkdahlboiaa
open Go.RowKit
set_option maxHeartbeats 8000000
set_option maxRecDepth 10000

theorem qsack_ct (b : Nat) (X : QF) (h : QfOk X) (hf : FrOk X.abs) (c rwnd : Int) (gs : List (Int × Int)) (ga : Option Addr) (gcap : Nat) (dv : Value) (H : Seg) (hc : 0 ≤ c ∧ c ≤ 4294967295) (hgs : GapsOk gs) (hs : SliceAt H 2 ga gs.length (gapL gs)) (hgn : gs.length ≤ 1099511627776)
    (hmay : X.abs.may c gs = true) : Ct Try.prog 56 [ptr b, .agg (scells c rwnd (.slice ga gs.length gcap) dv).toArray] [X.seg b, H]
      (fun v D => v = .tuple #[.agg (X.abs.sackT c gs).cells.toArray, i64 0] ∧ ∃ X', D = [X'.seg b, H] ∧ QfOk X' ∧ X'.abs = X.abs.sack c gs) := by
  have hm := qmay_cd b X hf c rwnd gs ga gcap dv H hc hgs hs hgn
  rw [hmay] at hm
  have hlen := QfOk.len hf
  have hlF : X.abs.l.length = X.l.length := qrecs_length X
  have hq1 := hf.q1
  change X.paths ≤ 4 at hq1
  have hbl : X.abs.base c ≤ X.l.length := by have := (may_facts hmay).1; rwa [hlF] at this
  have hbase : ((X.abs.base c : Nat) : Int) = (c - X.cum) % 4294967296 := by show ((((c - X.cum) % 4294967296).toNat : Nat) : Int) = _; omega
  refine Ct_intro Try.func56 rfl (by simp only [Try.ntmps56, List.length_cons, List.length_nil]; omega) ?_
  intro w₀ R
  refine TC_le (L' := X.bk b :: H :: X.w.C :: qsegs X.l :: R) (fun a => by simp only [les, QF.seg]; omega) ?_
  repeat' first
    | refine TC_seq ?_
    | refine TQ_then ?_
    | (refine TC_plain (id := 0) (by kernel_rfl) ?_; (refine TR_box0 rfl rfl rfl ?_; intro sb); (refine TR_alloc0 rfl ?_; intro rb); refine TR_pv0 PV_assign rfl ?_; refine TR_nil ?_)
    | (refine TC_plain (id := 1) (by kernel_rfl) ?_; (refine TR_alloc0 rfl ?_; intro tb); refine TR_nil ?_)
    | (refine TC_plain (id := 2) (by kernel_rfl) ?_; refine TR_pv0 PV_move rfl ?_; refine TR_pv0 (PV_peq_nil rfl rfl) rfl ?_; refine TR_nil ?_)
    | refine TC_cond_f rfl rfl ?_
    | refine TC_skip ?_
  refine TC_slots [(0, ptr b), (3, ptr sb), (4, ptr rb), (5, i64 0), (6, ptr tb)] ⟨rfl, rfl, rfl, rfl, rfl, trivial⟩ fun σ' => ?_
  refine TC_le (L' := X.bk b :: H :: X.w.C :: qsegs X.l :: ttbk tb (toldCells 0 false (fun _ => tp0)) :: sbk sb c rwnd (.slice ga gs.length gcap) dv :: ttbk rb (toldCells 0 false (fun _ => tp0)) :: R) (Le.trans (M := ttbk tb (toldCells 0 false (fun _ => tp0)) :: ttbk rb (toldCells 0 false (fun _ => tp0)) :: sbk sb c rwnd (.slice ga gs.length gcap) dv :: X.bk b :: H :: X.w.C :: qsegs X.l :: R) (Le.refl _) (fun a => by simp only [les]; omega)) ?_
  repeat' first
    | refine TC_seq ?_
    | refine TQ_then ?_
    | (refine TC_plain (id := 4) (by kernel_rfl) ?_; refine TR_pv0 PV_move rfl ?_; refine TR_loadA0 rfl 5 rfl rfl rfl ?_; refine TR_calld2_0_1 (hm) rfl rfl rfl rfl ?_; refine TR_pv0 (PV_not rfl) rfl ?_; refine TR_nil ?_)
    | (refine TC_plain (id := 6) (by kernel_rfl) ?_; (refine TR_buildSlice (.inl rfl) rfl rfl rfl rfl ?_; intro lb); refine TR_pv0 PV_assign rfl ?_; refine TR_nil ?_)
    | (refine TC_plain (id := 7) (by kernel_rfl) ?_; refine TR_pv0 PV_move rfl ?_; refine TR_pv0 (PV_nil rfl) rfl ?_; refine TR_pv0 (PV_fieldAddr rfl) rfl ?_; refine TR_load0 rfl 1 rfl rfl rfl ?_; refine TR_pv0 (PV_len rfl) rfl ?_; refine TR_pv0 (PV_sub64 rfl rfl (by omega)) rfl ?_; refine TR_pv0 PV_assign rfl ?_; refine TR_nil ?_)
    | refine TC_cond_f rfl rfl ?_
    | refine TC_skip ?_
    | refine TC_block ?_
  -- the lowest of each path
  refine TC_loopP (X := Nat) (fun m => X.bk b :: H :: X.w.C :: qsegs X.l :: blk lb 3 (four fun p => i64 (lowFrom X.recs m p)) :: ttbk tb (toldCells 0 false (fun _ => tp0)) :: sbk sb c rwnd (.slice ga gs.length gcap) dv :: ttbk rb (toldCells 0 false (fun _ => tp0)) :: R)
    (fun m => [(0, ptr b), (3, ptr sb), (4, ptr rb), (5, i64 0), (6, ptr tb), (7, .slice (some ⟨lb, 0, none⟩) 4 4), (8, i64 ((m : Int) - 1))]) (fun m => m ≤ X.l.length) (fun m => m) X.l.length (Nat.le_refl _)
    ⟨rfl, rfl, rfl, rfl, rfl, rfl, rfl, trivial⟩ (fun w hs => ?_) ?_
  · have hs2 : St w₀ w (blk lb 3 [i64 (-1), i64 (-1), i64 (-1), i64 (-1)] :: X.bk b :: H :: X.w.C :: qsegs X.l :: ttbk tb (toldCells 0 false (fun _ => tp0)) :: sbk sb c rwnd (.slice ga gs.length gcap) dv :: ttbk rb (toldCells 0 false (fun _ => tp0)) :: R) := hs
    have e : (four fun p => i64 (lowFrom X.recs X.l.length p)) = [i64 (-1), i64 (-1), i64 (-1), i64 (-1)] := by
      rw [← qrecs_length X]; simp only [four, lowFrom_end]
    rw [e]
    exact hs2.le (fun a => by simp only [les]; omega)
  rintro m σg mm hmm hmle
  by_cases hm0 : 0 < m
  · obtain ⟨i, rfl⟩ : ∃ i, m = i + 1 := ⟨m - 1, by omega⟩
    obtain ⟨x, hx⟩ : ∃ x, X.l[i]? = some x := ⟨_, List.getElem?_eq_getElem (show i < X.l.length by omega)⟩
    obtain ⟨ro, off, cells, ha, hC, hat⟩ := qat_of h.row (by omega)
    have hsl : Value.slice X.w.a X.l.length X.w.cap = .slice (some ⟨ro, off, none⟩) X.l.length X.w.cap := by rw [ha]
    have hi : ((i + 1 : Nat) : Int) - 1 = (i : Int) := by omega
    have c11 : cells[off + (i : Int).toNat * 15 + 11]? = some (.bool x.r.acked) := hat.cell hx (j := 11) (by omega) rfl
    have c13 : cells[off + (i : Int).toNat * 15 + 13]? = some (.bool x.r.gone) := hat.cell hx (j := 13) (by omega) rfl
    have c7 : cells[off + (i : Int).toNat * 15 + 7]? = some (i64 x.r.path) := hat.cell hx (j := 7) (by omega) rfl
    have hr := hf.at_ hx
    have hp0 := hr.p0
    have hp1 := hr.p1
    have hp4 : x.r.path.toNat < 4 := by omega
    rw [hi]
    refine TC_le (L' := X.bk b :: H :: [(ro, .cells cells.toArray 111 (0, 0))] :: qsegs X.l :: blk lb 3 (four fun p => i64 (lowFrom X.recs (i + 1) p)) :: ttbk tb (toldCells 0 false (fun _ => tp0)) :: sbk sb c rwnd (.slice ga gs.length gcap) dv :: ttbk rb (toldCells 0 false (fun _ => tp0)) :: R) (Le.of_eq (by rw [hC])) ?_
    cases hac : x.r.acked with
    | true =>
      have e := low_same (qrecs_at hx) (.inl hac)
      rw [hac] at c11
      repeat' first
        | refine TC_seq ?_
        | refine TQ_then ?_
        | (refine TC_plain (id := 8) (by kernel_rfl) ?_; refine TR_pv0 PV_move rfl ?_; refine TR_pv0 (PV_geq rfl rfl) rfl ?_; refine TR_nil ?_)
        | (refine TC_plain (id := 10) (by kernel_rfl) ?_; all_goals refine TR_pv0 PV_move rfl ?_; all_goals refine TR_pv0 (PV_nil rfl) rfl ?_; all_goals refine TR_pv0 (PV_fieldAddr rfl) rfl ?_; all_goals refine TR_load0 rfl 0 rfl rfl rfl ?_; all_goals refine TR_pv0 PV_move rfl ?_; all_goals refine TR_pv0 (PV_indexAddr hsl rfl (by omega)) rfl ?_; all_goals refine TR_pv0 (PV_fieldAddr rfl) rfl ?_; all_goals refine TR_load0 rfl 2 rfl c11 rfl ?_; all_goals refine TR_pv0 (PV_not rfl) rfl ?_; all_goals refine TR_pv0 PV_move rfl ?_; all_goals refine TR_skip0 rfl ?_; all_goals refine TR_skip0 rfl ?_; all_goals refine TR_skip0 rfl ?_; all_goals refine TR_skip0 rfl ?_; all_goals refine TR_skip0 rfl ?_; all_goals refine TR_skip0 rfl ?_; all_goals refine TR_skip0 rfl ?_; all_goals refine TR_skip0 rfl ?_; all_goals refine TR_skip0 rfl ?_; all_goals refine TR_pv0 (PV_pick_f rfl) rfl ?_; all_goals refine TR_nil ?_)
        | (refine TC_plain (id := 9) (by kernel_rfl) ?_; refine TR_pv0 PV_move rfl ?_; refine TR_pv0 (PV_sub64 rfl rfl (by omega)) rfl ?_; refine TR_pv0 PV_assign rfl ?_; refine TR_nil ?_)
        | refine TC_cond_t rfl rfl ?_
        | refine TC_cond_f rfl rfl ?_
        | refine TC_skip ?_
        | refine TC_block ?_
        | refine TQ_blk ?_
      refine TQ_roundP i (by omega) (by omega) ⟨rfl, rfl, rfl, rfl, rfl, rfl, rfl, trivial⟩ (fun w hs => hs.le (Le.of_eq (by rw [hC, show (four fun p => i64 (lowFrom X.recs i p)) = four fun p => i64 (lowFrom X.recs (i + 1) p) from congrArg (fun g : Nat → Int => four fun p => i64 (g p)) e])))
    | false =>
      rw [hac] at c11
      cases hgo : x.r.gone with
      | true =>
        have e := low_same (qrecs_at hx) (.inr hgo)
        rw [hgo] at c13
        repeat' first
          | refine TC_seq ?_
          | refine TQ_then ?_
          | (refine TC_plain (id := 8) (by kernel_rfl) ?_; refine TR_pv0 PV_move rfl ?_; refine TR_pv0 (PV_geq rfl rfl) rfl ?_; refine TR_nil ?_)
          | (refine TC_plain (id := 10) (by kernel_rfl) ?_; all_goals refine TR_pv0 PV_move rfl ?_; all_goals refine TR_pv0 (PV_nil rfl) rfl ?_; all_goals refine TR_pv0 (PV_fieldAddr rfl) rfl ?_; all_goals refine TR_load0 rfl 0 rfl rfl rfl ?_; all_goals refine TR_pv0 PV_move rfl ?_; all_goals refine TR_pv0 (PV_indexAddr hsl rfl (by omega)) rfl ?_; all_goals refine TR_pv0 (PV_fieldAddr rfl) rfl ?_; all_goals refine TR_load0 rfl 2 rfl c11 rfl ?_; all_goals refine TR_pv0 (PV_not rfl) rfl ?_; all_goals refine TR_pv0 PV_move rfl ?_; all_goals refine TR_pv0 PV_move rfl ?_; all_goals refine TR_pv0 (PV_nil rfl) rfl ?_; all_goals refine TR_pv0 (PV_fieldAddr rfl) rfl ?_; all_goals refine TR_load0 rfl 0 rfl rfl rfl ?_; all_goals refine TR_pv0 PV_move rfl ?_; all_goals refine TR_pv0 (PV_indexAddr hsl rfl (by omega)) rfl ?_; all_goals refine TR_pv0 (PV_fieldAddr rfl) rfl ?_; all_goals refine TR_load0 rfl 2 rfl c13 rfl ?_; all_goals refine TR_pv0 (PV_not rfl) rfl ?_; all_goals refine TR_pv0 (PV_pick_t rfl) rfl ?_; all_goals refine TR_nil ?_)
          | (refine TC_plain (id := 9) (by kernel_rfl) ?_; refine TR_pv0 PV_move rfl ?_; refine TR_pv0 (PV_sub64 rfl rfl (by omega)) rfl ?_; refine TR_pv0 PV_assign rfl ?_; refine TR_nil ?_)
          | refine TC_cond_t rfl rfl ?_
          | refine TC_cond_f rfl rfl ?_
          | refine TC_skip ?_
          | refine TC_block ?_
          | refine TQ_blk ?_
        refine TQ_roundP i (by omega) (by omega) ⟨rfl, rfl, rfl, rfl, rfl, rfl, rfl, trivial⟩ (fun w hs => hs.le (Le.of_eq (by rw [hC, show (four fun p => i64 (lowFrom X.recs i p)) = four fun p => i64 (lowFrom X.recs (i + 1) p) from congrArg (fun g : Nat → Int => four fun p => i64 (g p)) e])))
      | false =>
        have e := low_at4 (qrecs_at hx) hp0 ⟨hac, hgo⟩
        rw [hgo] at c13
        have lb1 := four_blt (fun p => i64 (lowFrom X.recs (i + 1) p)) hp4
        repeat' first
          | refine TC_seq ?_
          | refine TQ_then ?_
          | (refine TC_plain (id := 8) (by kernel_rfl) ?_; refine TR_pv0 PV_move rfl ?_; refine TR_pv0 (PV_geq rfl rfl) rfl ?_; refine TR_nil ?_)
          | (refine TC_plain (id := 10) (by kernel_rfl) ?_; all_goals refine TR_pv0 PV_move rfl ?_; all_goals refine TR_pv0 (PV_nil rfl) rfl ?_; all_goals refine TR_pv0 (PV_fieldAddr rfl) rfl ?_; all_goals refine TR_load0 rfl 0 rfl rfl rfl ?_; all_goals refine TR_pv0 PV_move rfl ?_; all_goals refine TR_pv0 (PV_indexAddr hsl rfl (by omega)) rfl ?_; all_goals refine TR_pv0 (PV_fieldAddr rfl) rfl ?_; all_goals refine TR_load0 rfl 2 rfl c11 rfl ?_; all_goals refine TR_pv0 (PV_not rfl) rfl ?_; all_goals refine TR_pv0 PV_move rfl ?_; all_goals refine TR_pv0 PV_move rfl ?_; all_goals refine TR_pv0 (PV_nil rfl) rfl ?_; all_goals refine TR_pv0 (PV_fieldAddr rfl) rfl ?_; all_goals refine TR_load0 rfl 0 rfl rfl rfl ?_; all_goals refine TR_pv0 PV_move rfl ?_; all_goals refine TR_pv0 (PV_indexAddr hsl rfl (by omega)) rfl ?_; all_goals refine TR_pv0 (PV_fieldAddr rfl) rfl ?_; all_goals refine TR_load0 rfl 2 rfl c13 rfl ?_; all_goals refine TR_pv0 (PV_not rfl) rfl ?_; all_goals refine TR_pv0 (PV_pick_t rfl) rfl ?_; all_goals refine TR_nil ?_)
          | (refine TC_plain (id := 11) (by kernel_rfl) ?_; refine TR_pv0 PV_move rfl ?_; refine TR_pv0 PV_move rfl ?_; refine TR_pv0 (PV_nil rfl) rfl ?_; refine TR_pv0 (PV_fieldAddr rfl) rfl ?_; refine TR_load0 rfl 0 rfl rfl rfl ?_; refine TR_pv0 PV_move rfl ?_; refine TR_pv0 (PV_indexAddr hsl rfl (by omega)) rfl ?_; refine TR_pv0 (PV_fieldAddr rfl) rfl ?_; refine TR_load0 rfl 2 rfl c7 rfl ?_; refine TR_pv0 PV_move rfl ?_; refine TR_pv0 (PV_indexAddr rfl rfl (by omega)) rfl ?_; refine TR_store0_4 rfl rfl rfl rfl lb1 rfl ?_; refine TR_nil ?_)
          | (refine TC_plain (id := 9) (by kernel_rfl) ?_; refine TR_pv0 PV_move rfl ?_; refine TR_pv0 (PV_sub64 rfl rfl (by omega)) rfl ?_; refine TR_pv0 PV_assign rfl ?_; refine TR_nil ?_)
          | refine TC_cond_t rfl rfl ?_
          | refine TC_skip ?_
          | refine TC_block ?_
          | refine TQ_blk ?_
        refine TQ_roundP i (by omega) (by omega) ⟨rfl, rfl, rfl, rfl, rfl, rfl, rfl, trivial⟩ (fun w hs => ?_)
        have hs2 : St w₀ w (X.bk b :: H :: [(ro, .cells cells.toArray 111 (0, 0))] :: qsegs X.l :: blk lb 3 ((four fun p => i64 (lowFrom X.recs (i + 1) p)).set (0 + x.r.path.toNat * 1) (i64 i)) :: ttbk tb (toldCells 0 false (fun _ => tp0)) :: sbk sb c rwnd (.slice ga gs.length gcap) dv :: ttbk rb (toldCells 0 false (fun _ => tp0)) :: R) := hs
        rw [hbk_set 0 _ hp4] at hs2
        exact hs2.le (Le.of_eq (by rw [hC, show (four fun p => i64 (lowFrom X.recs i p)) = _ from congrArg (fun g : Nat → Int => four fun p => i64 (g p)) e]))
  obtain rfl : m = 0 := by omega
  repeat' first
    | refine TC_seq ?_
    | refine TQ_then ?_
    | (refine TC_plain (id := 8) (by kernel_rfl) ?_; refine TR_pv0 PV_move rfl ?_; refine TR_pv0 (PV_geq rfl rfl) rfl ?_; refine TR_nil ?_)
    | (refine TC_plain (id := 12) (by kernel_rfl) ?_; (refine TR_buildSlice (.inl rfl) rfl rfl rfl rfl ?_; intro hb); refine TR_pv0 PV_assign rfl ?_; refine TR_nil ?_)
    | (refine TC_plain (id := 13) (by kernel_rfl) ?_; refine TR_pv0 PV_assign rfl ?_; refine TR_nil ?_)
    | refine TC_cond_f rfl rfl ?_
    | refine TC_exit ?_
    | refine TC_block ?_
    | refine TQ_then_exit ?_
    | refine TQ_blk_here ?_
  refine TC_slots [(0, ptr b), (3, ptr sb), (4, ptr rb), (5, i64 0), (6, ptr tb), (7, .slice (some ⟨lb, 0, none⟩) 4 4), (9, .slice (some ⟨hb, 0, none⟩) 4 4), (10, i64 0)] ⟨rfl, rfl, rfl, rfl, rfl, rfl, rfl, rfl, trivial⟩ fun σ2 => ?_
  -- what is acknowledged
  refine TC_loopP (X := Nat × QF) (fun s => s.2.bk b :: H :: s.2.w.C :: qsegs X.l :: blk lb 3 (four fun p => i64 (lowFrom X.recs 0 p)) :: blk hb 3 (four fun p => i64 ((ackTo X.abs c gs s.1).high p)) :: ttbk tb (toldCells 0 false (ackTo X.abs c gs s.1).t) :: sbk sb c rwnd (.slice ga gs.length gcap) dv :: ttbk rb (toldCells 0 false (fun _ => tp0)) :: R)
    (fun s => [(0, ptr b), (3, ptr sb), (4, ptr rb), (5, i64 0), (6, ptr tb), (7, .slice (some ⟨lb, 0, none⟩) 4 4), (9, .slice (some ⟨hb, 0, none⟩) 4 4), (10, i64 s.1)]) (fun s => s.1 ≤ X.l.length ∧ QS X s.2 (ackTo X.abs c gs s.1).l) (fun s => X.l.length - s.1) (0, X)
    ⟨Nat.zero_le _, h, rfl, rfl, rfl, rfl⟩ ⟨rfl, rfl, rfl, rfl, rfl, rfl, rfl, rfl, trivial⟩ (fun w hs => ?_) ?_
  · have hs2 : St w₀ w (blk hb 3 [i64 (-1), i64 (-1), i64 (-1), i64 (-1)] :: X.bk b :: H :: X.w.C :: qsegs X.l :: blk lb 3 (four fun p => i64 (lowFrom X.recs 0 p)) :: ttbk tb (toldCells 0 false (fun _ => tp0)) :: sbk sb c rwnd (.slice ga gs.length gcap) dv :: ttbk rb (toldCells 0 false (fun _ => tp0)) :: R) := hs
    exact hs2.le (Le.trans (M := X.bk b :: H :: X.w.C :: qsegs X.l :: blk lb 3 (four fun p => i64 (lowFrom X.recs 0 p)) :: blk hb 3 [i64 (-1), i64 (-1), i64 (-1), i64 (-1)] :: ttbk tb (toldCells 0 false (fun _ => tp0)) :: sbk sb c rwnd (.slice ga gs.length gcap) dv :: ttbk rb (toldCells 0 false (fun _ => tp0)) :: R) (fun a => by simp only [les]; omega) (Le.refl _))
  rintro ⟨i, Y⟩ σg mm hmm ⟨hi, hY⟩
  dsimp only at hmm hi hY ⊢
  have hsl2 := ackTo_len X.abs c gs i
  have hyl : Y.l.length = X.l.length := by rw [hY.len, hsl2]; exact hlF
  by_cases hlt : i < X.l.length
  · obtain ⟨x, hy, hxr⟩ := hY.at_ (k := i) (by rw [hsl2, hlF]; exact hlt)
    have hFr : X.abs.l[i]? = some x.r := by rw [← ackTo_get X.abs c gs i i (Nat.le_refl _)]; exact hxr
    have hr := hf.recs x.r (List.mem_of_getElem? hFr)
    have hp0 := hr.p0
    have hp1 := hr.p1
    change x.r.path < X.paths at hp1
    have hb1 := hr.b1
    have hp4 : x.r.path.toNat < 4 := by omega
    obtain ⟨ro, off, cells, ha, hC, hat⟩ := qat_of hY.ok.row (by omega)
    have hsl : Value.slice Y.w.a Y.l.length Y.w.cap = .slice (some ⟨ro, off, none⟩) Y.l.length Y.w.cap := by rw [ha]
    have c11 : cells[off + (i : Int).toNat * 15 + 11]? = some (.bool x.r.acked) := hat.cell hy (j := 11) (by omega) rfl
    have c7 : cells[off + (i : Int).toNat * 15 + 7]? = some (i64 x.r.path) := hat.cell hy (j := 7) (by omega) rfl
    have hnx := ackTo_next X.abs c gs i
    have htd := qtold_cd b Y c rwnd gs ga gcap dv H i (by omega) hgs hs hgn
    rw [show Y.abs.base c = X.abs.base c by simp only [Flt.base, QF.abs, hY.cum]] at htd
    refine TC_le (L' := Y.bk b :: H :: [(ro, .cells cells.toArray 111 (0, 0))] :: qsegs X.l :: blk lb 3 (four fun p => i64 (lowFrom X.recs 0 p)) :: blk hb 3 (four fun p => i64 ((ackTo X.abs c gs i).high p)) :: ttbk tb (toldCells 0 false (ackTo X.abs c gs i).t) :: sbk sb c rwnd (.slice ga gs.length gcap) dv :: ttbk rb (toldCells 0 false (fun _ => tp0)) :: R) (Le.of_eq (by rw [hC])) ?_
    cases hac : x.r.acked with
    | true =>
      rw [hac] at c11
      have e : ackTo X.abs c gs (i + 1) = ackTo X.abs c gs i := by
        rw [hnx]; split
        · exact ackStep_no hxr hac
        · rfl
      repeat' first
        | refine TC_seq ?_
        | refine TQ_then ?_
        | (refine TC_plain (id := 14) (by kernel_rfl) ?_; refine TR_pv0 PV_move rfl ?_; refine TR_pv0 PV_move rfl ?_; refine TR_pv0 (PV_nil rfl) rfl ?_; refine TR_pv0 (PV_fieldAddr rfl) rfl ?_; refine TR_load0 rfl 0 rfl rfl rfl ?_; refine TR_pv0 (PV_len rfl) rfl ?_; refine TR_pv0 (PV_lss rfl rfl) rfl ?_; refine TR_nil ?_)
        | (refine TC_plain (id := 16) (by kernel_rfl) ?_; all_goals refine TR_pv0 PV_move rfl ?_; all_goals refine TR_pv0 (PV_nil rfl) rfl ?_; all_goals refine TR_pv0 (PV_fieldAddr rfl) rfl ?_; all_goals refine TR_load0 rfl 0 rfl rfl rfl ?_; all_goals refine TR_pv0 PV_move rfl ?_; all_goals refine TR_pv0 (PV_indexAddr hsl rfl (by omega)) rfl ?_; all_goals refine TR_pv0 (PV_fieldAddr rfl) rfl ?_; all_goals refine TR_load0 rfl 2 rfl c11 rfl ?_; all_goals refine TR_pv0 PV_move rfl ?_; all_goals refine TR_skip0 rfl ?_; all_goals refine TR_skip0 rfl ?_; all_goals refine TR_skip0 rfl ?_; all_goals refine TR_skip0 rfl ?_; all_goals refine TR_skip0 rfl ?_; all_goals refine TR_pv0 (PV_pick_t rfl) rfl ?_; all_goals refine TR_nil ?_)
        | (refine TC_plain (id := 15) (by kernel_rfl) ?_; refine TR_pv0 PV_move rfl ?_; refine TR_pv0 (PV_add64 rfl rfl (by omega)) rfl ?_; refine TR_pv0 PV_assign rfl ?_; refine TR_nil ?_)
        | refine TC_cond_t rfl rfl ?_
        | refine TC_skip ?_
        | refine TC_exit ?_
        | refine TC_block ?_
        | refine TQ_then_exit ?_
        | refine TQ_blk_here ?_
        | (refine TC_cond rfl rfl (fun hq => ?_) (fun hq => ?_) <;> (try simp only [qs] at hq) <;> (try simp only [reduceCtorEq] at hq) <;> (try (exfalso; omega)) <;> (try contradiction))
      repeat' first
        | refine TC_seq ?_
      exact TQ_roundP (i + 1, Y) ⟨hlt, by rw [e]; exact hY⟩ (by show X.l.length - (i + 1) < mm; omega) ⟨rfl, rfl, rfl, rfl, rfl, rfl, rfl, rfl, trivial⟩ (fun w hs => hs.le (Le.of_eq (by rw [hC, e])))
    | false =>
      rw [hac] at c11
      cases htb : toldB (X.abs.base c) gs i with
      | false =>
        rw [htb] at htd hnx
        rw [if_neg (by simp)] at hnx
        repeat' first
          | refine TC_seq ?_
          | refine TQ_then ?_
          | (refine TC_plain (id := 14) (by kernel_rfl) ?_; refine TR_pv0 PV_move rfl ?_; refine TR_pv0 PV_move rfl ?_; refine TR_pv0 (PV_nil rfl) rfl ?_; refine TR_pv0 (PV_fieldAddr rfl) rfl ?_; refine TR_load0 rfl 0 rfl rfl rfl ?_; refine TR_pv0 (PV_len rfl) rfl ?_; refine TR_pv0 (PV_lss rfl rfl) rfl ?_; refine TR_nil ?_)
          | (refine TC_plain (id := 16) (by kernel_rfl) ?_; all_goals refine TR_pv0 PV_move rfl ?_; all_goals refine TR_pv0 (PV_nil rfl) rfl ?_; all_goals refine TR_pv0 (PV_fieldAddr rfl) rfl ?_; all_goals refine TR_load0 rfl 0 rfl rfl rfl ?_; all_goals refine TR_pv0 PV_move rfl ?_; all_goals refine TR_pv0 (PV_indexAddr hsl rfl (by omega)) rfl ?_; all_goals refine TR_pv0 (PV_fieldAddr rfl) rfl ?_; all_goals refine TR_load0 rfl 2 rfl c11 rfl ?_; all_goals refine TR_pv0 PV_move rfl ?_; all_goals refine TR_pv0 PV_move rfl ?_; all_goals refine TR_loadA0 rfl 7 rfl rfl rfl ?_; all_goals refine TR_pv0 PV_move rfl ?_; all_goals refine TR_calld2_0_1 (htd) rfl rfl rfl rfl ?_; all_goals refine TR_pv0 (PV_not rfl) rfl ?_; all_goals refine TR_pv0 (PV_pick_f rfl) rfl ?_; all_goals refine TR_nil ?_)
          | (refine TC_plain (id := 15) (by kernel_rfl) ?_; refine TR_pv0 PV_move rfl ?_; refine TR_pv0 (PV_add64 rfl rfl (by omega)) rfl ?_; refine TR_pv0 PV_assign rfl ?_; refine TR_nil ?_)
          | refine TC_cond_t rfl rfl ?_
          | refine TC_skip ?_
          | refine TC_exit ?_
          | refine TC_block ?_
          | refine TQ_then_exit ?_
          | refine TQ_blk_here ?_
          | (refine TC_cond rfl rfl (fun hq => ?_) (fun hq => ?_) <;> (try simp only [qs] at hq) <;> (try simp only [reduceCtorEq] at hq) <;> (try (exfalso; omega)) <;> (try contradiction))
        repeat' first
          | refine TC_seq ?_
        exact TQ_roundP (i + 1, Y) ⟨hlt, by rw [hnx]; exact hY⟩ (by show X.l.length - (i + 1) < mm; omega) ⟨rfl, rfl, rfl, rfl, rfl, rfl, rfl, rfl, trivial⟩ (fun w hs => hs.le (Le.of_eq (by rw [hC, hnx])))
      | true =>
        rw [htb] at htd hnx
        rw [if_pos rfl, ackStep_yes hxr hac] at hnx
        have hac0 := ackTo_acked hf c gs i (by omega) x.r.path.toNat
        have l11 : Nat.blt (off + (i : Int).toNat * 15 + 11) cells.length = true := hat.blt (by omega) (by omega)
        have hst := hat.store hy (y := { x with r := ackR x.r }) (j := 11) (v := .bool true) (by omega) rfl
        have hY2 := hY.put (rb := ro) hy ackR rfl hst
        have hx2 : (Y.l.set i { x with r := ackR x.r })[i]? = some { x with r := ackR x.r } := List.getElem?_set_self (by omega)
        have d6 : (cells.set (off + i * 15 + 11) (.bool true))[off + (i : Int).toNat * 15 + 0 + 6]? = some (x.w.val x.r.d.bytes.length) := hst.cell hx2 (j := 6) (by omega) rfl
        have d8 : (cells.set (off + i * 15 + 11) (.bool true))[off + (i : Int).toNat * 15 + 8]? = some (i64 x.r.at_) := hst.cell hx2 (j := 8) (by omega) rfl
        have d13 : (cells.set (off + i * 15 + 11) (.bool true))[off + (i : Int).toNat * 15 + 13]? = some (.bool x.r.gone) := hst.cell hx2 (j := 13) (by omega) rfl
        have d14 : (cells.set (off + i * 15 + 11) (.bool true))[off + (i : Int).toNat * 15 + 14]? = some (.bool x.r.again) := hst.cell hx2 (j := 14) (by omega) rfl
        have lh := four_blt (fun p => i64 ((ackTo X.abs c gs i).high p)) hp4
        have clow := four_at (fun p => lowFrom X.recs 0 p) hp4
        have hlz : decide (lowFrom X.recs 0 x.r.path.toNat = (i : Int)) = decide (lowIdx X.abs.l x.r.path.toNat = some i) := lowFrom_zero _ _ _
        revert hnx hac0
        generalize (ackTo X.abs c gs i).t = t
        generalize (ackTo X.abs c gs i).high = hi2
        intro hnx hac0
        have lt := fun (v : Tp) (j : Nat) (hj : j < 5) => told_blt 0 false (at4 t x.r.path.toNat v) hp4 hj
        have et : toldCells 0 false t = toldCells 0 false (at4 t x.r.path.toNat (t x.r.path.toNat)) := by rw [at4_same]
        repeat' first
          | refine TC_seq ?_
          | refine TQ_then ?_
          | (refine TC_plain (id := 14) (by kernel_rfl) ?_; refine TR_pv0 PV_move rfl ?_; refine TR_pv0 PV_move rfl ?_; refine TR_pv0 (PV_nil rfl) rfl ?_; refine TR_pv0 (PV_fieldAddr rfl) rfl ?_; refine TR_load0 rfl 0 rfl rfl rfl ?_; refine TR_pv0 (PV_len rfl) rfl ?_; refine TR_pv0 (PV_lss rfl rfl) rfl ?_; refine TR_nil ?_)
          | (refine TC_plain (id := 16) (by kernel_rfl) ?_; all_goals refine TR_pv0 PV_move rfl ?_; all_goals refine TR_pv0 (PV_nil rfl) rfl ?_; all_goals refine TR_pv0 (PV_fieldAddr rfl) rfl ?_; all_goals refine TR_load0 rfl 0 rfl rfl rfl ?_; all_goals refine TR_pv0 PV_move rfl ?_; all_goals refine TR_pv0 (PV_indexAddr hsl rfl (by omega)) rfl ?_; all_goals refine TR_pv0 (PV_fieldAddr rfl) rfl ?_; all_goals refine TR_load0 rfl 2 rfl c11 rfl ?_; all_goals refine TR_pv0 PV_move rfl ?_; all_goals refine TR_pv0 PV_move rfl ?_; all_goals refine TR_loadA0 rfl 7 rfl rfl rfl ?_; all_goals refine TR_pv0 PV_move rfl ?_; all_goals refine TR_calld2_0_1 (htd) rfl rfl rfl rfl ?_; all_goals refine TR_pv0 (PV_not rfl) rfl ?_; all_goals refine TR_pv0 (PV_pick_f rfl) rfl ?_; all_goals refine TR_nil ?_)
          | (refine TC_plain (id := 17) (by kernel_rfl) ?_; refine TR_pv0 PV_move rfl ?_; refine TR_pv0 (PV_nil rfl) rfl ?_; refine TR_pv0 (PV_fieldAddr rfl) rfl ?_; refine TR_load0 rfl 0 rfl rfl rfl ?_; refine TR_pv0 PV_move rfl ?_; refine TR_pv0 (PV_indexAddr hsl rfl (by omega)) rfl ?_; refine TR_pv0 (PV_fieldAddr rfl) rfl ?_; refine TR_load0 rfl 2 rfl c7 rfl ?_; refine TR_pv0 PV_assign rfl ?_; refine TR_nil ?_)
          | (refine TC_plain (id := 18) (by kernel_rfl) ?_; refine TR_pv0 PV_move rfl ?_; refine TR_pv0 (PV_nil rfl) rfl ?_; refine TR_pv0 (PV_fieldAddr rfl) rfl ?_; refine TR_load0 rfl 0 rfl rfl rfl ?_; refine TR_pv0 PV_move rfl ?_; refine TR_pv0 (PV_indexAddr hsl rfl (by omega)) rfl ?_; refine TR_pv0 (PV_fieldAddr rfl) rfl ?_; refine TR_store0_2 rfl rfl rfl rfl l11 rfl ?_; refine TR_nil ?_)
          | (refine TC_plain (id := 19) (by kernel_rfl) ?_; refine TR_pv0 PV_move rfl ?_; refine TR_pv0 PV_move rfl ?_; refine TR_pv0 PV_move rfl ?_; refine TR_pv0 (PV_indexAddr rfl rfl (by omega)) rfl ?_; refine TR_store0_5 rfl rfl rfl rfl lh rfl ?_; refine TR_nil ?_)
          | refine TC_cond_f rfl rfl ?_
          | refine TC_skip ?_
          | refine TC_block ?_
          | (refine TC_cond rfl rfl (fun hq => ?_) (fun hq => ?_) <;> (try simp only [qs] at hq) <;> (try simp only [reduceCtorEq] at hq) <;> (try (exfalso; omega)) <;> (try contradiction))
        obtain ⟨v1, hv1⟩ : ∃ v : Tp, v = { t x.r.path.toNat with acked := if x.r.gone then (t x.r.path.toNat).acked else (t x.r.path.toNat).acked + x.r.d.bytes.length } := ⟨_, rfl⟩
        obtain ⟨v2, hv2⟩ : ∃ v : Tp, v = { v1 with at_ := if x.r.again then v1.at_ else x.r.at_, some_ := if x.r.again then v1.some_ else true } := ⟨_, rfl⟩
        refine TC_le (L' := Y.bk b :: H :: [(ro, .cells (cells.set (off + i * 15 + 11) (.bool true)).toArray 111 (0, 0))] :: qsegs X.l :: blk lb 3 (four fun p => i64 (lowFrom X.recs 0 p)) :: blk hb 3 (four fun p => i64 (at4 hi2 x.r.path.toNat (i : Int) p)) :: ttbk tb (toldCells 0 false (at4 t x.r.path.toNat (t x.r.path.toNat))) :: sbk sb c rwnd (.slice ga gs.length gcap) dv :: ttbk rb (toldCells 0 false (fun _ => tp0)) :: R) (Le.trans (M := Y.bk b :: H :: [(ro, .cells (cells.set (off + i * 15 + 11) (.bool true)).toArray 111 (0, 0))] :: qsegs X.l :: blk lb 3 (four fun p => i64 (lowFrom X.recs 0 p)) :: blk hb 3 ((four fun p => i64 (hi2 p)).set (0 + x.r.path.toNat * 1) (i64 i)) :: ttbk tb (toldCells 0 false t) :: sbk sb c rwnd (.slice ga gs.length gcap) dv :: ttbk rb (toldCells 0 false (fun _ => tp0)) :: R) (Le.refl _) (Le.of_eq (by rw [hbk_set 0 _ hp4, ← et]))) ?_
        repeat' first
          | refine TQ_then ?_
          | (refine TC_plain (id := 20) (by kernel_rfl) ?_; refine TR_pv0 PV_move rfl ?_; refine TR_pv0 (PV_nil rfl) rfl ?_; refine TR_pv0 (PV_fieldAddr rfl) rfl ?_; refine TR_load0 rfl 0 rfl rfl rfl ?_; refine TR_pv0 PV_move rfl ?_; refine TR_pv0 (PV_indexAddr hsl rfl (by omega)) rfl ?_; refine TR_pv0 (PV_fieldAddr rfl) rfl ?_; refine TR_load0 rfl 2 rfl d13 rfl ?_; refine TR_pv0 (PV_not rfl) rfl ?_; refine TR_nil ?_)
        refine TC_cutQ (X := Unit) (fun _ => Y.bk b :: H :: [(ro, .cells (cells.set (off + i * 15 + 11) (.bool true)).toArray 111 (0, 0))] :: qsegs X.l :: blk lb 3 (four fun p => i64 (lowFrom X.recs 0 p)) :: blk hb 3 (four fun p => i64 (at4 hi2 x.r.path.toNat (i : Int) p)) :: ttbk tb (toldCells 0 false (at4 t x.r.path.toNat v1)) :: sbk sb c rwnd (.slice ga gs.length gcap) dv :: ttbk rb (toldCells 0 false (fun _ => tp0)) :: R) (fun _ => [(0, ptr b), (3, ptr sb), (4, ptr rb), (5, i64 0), (6, ptr tb), (7, .slice (some ⟨lb, 0, none⟩) 4 4), (9, .slice (some ⟨hb, 0, none⟩) 4 4), (10, i64 i), (11, i64 x.r.path)]) (fun _ => True) ?_ ?_
        · have tc0 := told_c0 0 false t (t x.r.path.toNat) hp4
          have l0 := lt (t x.r.path.toNat) 0 (by omega)
          repeat' first
            | refine TQ_noPanic ?_
            | (refine TC_drawn' (id := 21) [(0, 1), (1, 1), (2, 1), (3, 1), (4, 1), (5, 1), (6, 1), (7, 1), (8, 1), (9, 1), (10, 1), (11, 1), (12, 1), (13, 1), (14, 1), (15, 1), (16, 1), (17, 1), (18, 1), (19, 1), (20, 0)] mixed (by kernel_rfl) ?_; refine TR_pv1 PV_move rfl (fun _ h => h) ?_; refine TR_pv1 PV_move rfl (fun _ h => h) ?_; refine TR_pv1 (PV_fieldAddr rfl) rfl (fun _ h => h) ?_; refine TR_pv1 (PV_indexArr rfl rfl (by omega)) rfl (fun _ h => h) ?_; refine TR_pv1 (PV_fieldAddr rfl) rfl (fun _ h => h) ?_; refine TR_load1 rfl 6 rfl tc0 rfl (fun _ h => h) ?_; refine TR_pv1 PV_move rfl (fun _ h => h) ?_; refine TR_pv1 (PV_nil rfl) rfl (fun _ h => h) ?_; refine TR_pv1 (PV_fieldAddr rfl) rfl (fun _ h => h) ?_; refine TR_load1 rfl 0 rfl rfl rfl (fun _ h => h) ?_; refine TR_pv1 PV_move rfl (fun _ h => h) ?_; refine TR_pv1 (PV_indexAddr hsl rfl (by omega)) rfl (fun _ h => h) ?_; refine TR_pv1 (PV_fieldAddr rfl) rfl (fun _ h => h) ?_; refine TR_pv1 (PV_fieldAddr rfl) rfl (fun _ h => h) ?_; refine TR_load1 rfl 2 rfl d6 rfl (fun _ h => h) ?_; refine TR_pv1 (PV_len rfl) rfl (fun _ h => h) ?_; refine TR_pv1 (PV_add64 rfl rfl (by omega)) rfl (fun _ h => h) ?_; refine TR_pv1 (PV_fieldAddr rfl) rfl (fun _ h => h) ?_; refine TR_pv1 (PV_indexArr rfl rfl (by omega)) rfl (fun _ h => h) ?_; refine TR_pv1 (PV_fieldAddr rfl) rfl (fun _ h => h) ?_; refine TR_store0_6 rfl rfl rfl rfl l0 rfl ?_; refine TR_nil ?_)
            | refine TC_skip ?_
            | (refine TC_cond rfl rfl (fun hq => ?_) (fun hq => ?_) <;> (try simp only [qs] at hq) <;> (try simp only [reduceCtorEq] at hq) <;> (try (exfalso; omega)) <;> (try contradiction))
          · have e : v1 = { t x.r.path.toNat with acked := (t x.r.path.toNat).acked + x.r.d.bytes.length } := by rw [hv1, if_neg (by rw [hq]; simp)]
            exact TQ_cut () trivial ⟨rfl, rfl, rfl, rfl, rfl, rfl, rfl, rfl, rfl, trivial⟩ (fun w hs => hs.le (Le.trans (M := Y.bk b :: H :: [(ro, .cells (cells.set (off + i * 15 + 11) (.bool true)).toArray 111 (0, 0))] :: qsegs X.l :: blk lb 3 (four fun p => i64 (lowFrom X.recs 0 p)) :: blk hb 3 (four fun p => i64 (at4 hi2 x.r.path.toNat (i : Int) p)) :: ttbk tb ((toldCells 0 false (at4 t x.r.path.toNat (t x.r.path.toNat))).set (0 + 2 + x.r.path.toNat * 5 + 0) (i64 ((t x.r.path.toNat).acked + x.r.d.bytes.length))) :: sbk sb c rwnd (.slice ga gs.length gcap) dv :: ttbk rb (toldCells 0 false (fun _ => tp0)) :: R) (Le.refl _) (Le.of_eq (by rw [told_s0 0 false t _ hp4, e]))))
          · have e : v1 = t x.r.path.toNat := by rw [hv1, if_pos hq]
            exact TQ_cut () trivial ⟨rfl, rfl, rfl, rfl, rfl, rfl, rfl, rfl, rfl, trivial⟩ (fun w hs => hs.le (Le.of_eq (by rw [e])))
        rintro - σ3 -
        repeat' first
          | refine TC_seq ?_
          | refine TQ_then ?_
          | (refine TC_plain (id := 22) (by kernel_rfl) ?_; refine TR_pv0 PV_move rfl ?_; refine TR_pv0 (PV_nil rfl) rfl ?_; refine TR_pv0 (PV_fieldAddr rfl) rfl ?_; refine TR_load0 rfl 0 rfl rfl rfl ?_; refine TR_pv0 PV_move rfl ?_; refine TR_pv0 (PV_indexAddr hsl rfl (by omega)) rfl ?_; refine TR_pv0 (PV_fieldAddr rfl) rfl ?_; refine TR_load0 rfl 2 rfl d14 rfl ?_; refine TR_pv0 (PV_not rfl) rfl ?_; refine TR_nil ?_)
        refine TC_cutQ (X := Unit) (fun _ => Y.bk b :: H :: [(ro, .cells (cells.set (off + i * 15 + 11) (.bool true)).toArray 111 (0, 0))] :: qsegs X.l :: blk lb 3 (four fun p => i64 (lowFrom X.recs 0 p)) :: blk hb 3 (four fun p => i64 (at4 hi2 x.r.path.toNat (i : Int) p)) :: ttbk tb (toldCells 0 false (at4 t x.r.path.toNat v2)) :: sbk sb c rwnd (.slice ga gs.length gcap) dv :: ttbk rb (toldCells 0 false (fun _ => tp0)) :: R) (fun _ => [(0, ptr b), (3, ptr sb), (4, ptr rb), (5, i64 0), (6, ptr tb), (7, .slice (some ⟨lb, 0, none⟩) 4 4), (9, .slice (some ⟨hb, 0, none⟩) 4 4), (10, i64 i), (11, i64 x.r.path)]) (fun _ => True) ?_ ?_
        · have l3 := lt v1 3 (by omega)
          have l4 : Nat.blt (0 + 2 + x.r.path.toNat * 5 + 4) ((toldCells 0 false (at4 t x.r.path.toNat v1)).set (0 + 2 + x.r.path.toNat * 5 + 3) (i64 x.r.at_)).length = true := by rw [List.length_set]; exact lt v1 4 (by omega)
          repeat' first
            | refine TC_seq ?_
            | refine TQ_then ?_
            | (refine TC_plain (id := 23) (by kernel_rfl) ?_; refine TR_pv0 PV_move rfl ?_; refine TR_pv0 PV_move rfl ?_; refine TR_pv0 (PV_nil rfl) rfl ?_; refine TR_pv0 (PV_fieldAddr rfl) rfl ?_; refine TR_load0 rfl 0 rfl rfl rfl ?_; refine TR_pv0 PV_move rfl ?_; refine TR_pv0 (PV_indexAddr hsl rfl (by omega)) rfl ?_; refine TR_pv0 (PV_fieldAddr rfl) rfl ?_; refine TR_load0 rfl 2 rfl d8 rfl ?_; refine TR_pv0 (PV_fieldAddr rfl) rfl ?_; refine TR_pv0 (PV_indexArr rfl rfl (by omega)) rfl ?_; refine TR_pv0 (PV_fieldAddr rfl) rfl ?_; refine TR_store0_6 rfl rfl rfl rfl l3 rfl ?_; refine TR_nil ?_)
            | (refine TC_plain (id := 24) (by kernel_rfl) ?_; refine TR_pv0 PV_move rfl ?_; refine TR_pv0 (PV_fieldAddr rfl) rfl ?_; refine TR_pv0 (PV_indexArr rfl rfl (by omega)) rfl ?_; refine TR_pv0 (PV_fieldAddr rfl) rfl ?_; refine TR_store0_6 rfl rfl rfl rfl l4 rfl ?_; refine TR_nil ?_)
            | refine TC_skip ?_
            | (refine TC_cond rfl rfl (fun hq => ?_) (fun hq => ?_) <;> (try simp only [qs] at hq) <;> (try simp only [reduceCtorEq] at hq) <;> (try (exfalso; omega)) <;> (try contradiction))
          · have e : v2 = { v1 with at_ := x.r.at_, some_ := true } := by rw [hv2, if_neg (by rw [hq]; simp), if_neg (by rw [hq]; simp)]
            exact TQ_cut () trivial ⟨rfl, rfl, rfl, rfl, rfl, rfl, rfl, rfl, rfl, trivial⟩ (fun w hs => hs.le (Le.trans (M := Y.bk b :: H :: [(ro, .cells (cells.set (off + i * 15 + 11) (.bool true)).toArray 111 (0, 0))] :: qsegs X.l :: blk lb 3 (four fun p => i64 (lowFrom X.recs 0 p)) :: blk hb 3 (four fun p => i64 (at4 hi2 x.r.path.toNat (i : Int) p)) :: ttbk tb (((toldCells 0 false (at4 t x.r.path.toNat v1)).set (0 + 2 + x.r.path.toNat * 5 + 3) (i64 x.r.at_)).set (0 + 2 + x.r.path.toNat * 5 + 4) (.bool true)) :: sbk sb c rwnd (.slice ga gs.length gcap) dv :: ttbk rb (toldCells 0 false (fun _ => tp0)) :: R) (Le.refl _) (Le.of_eq (by rw [told_s34 0 false t _ hp4, e]))))
          · have e : v2 = v1 := by rw [hv2, if_pos hq, if_pos hq]
            exact TQ_cut () trivial ⟨rfl, rfl, rfl, rfl, rfl, rfl, rfl, rfl, rfl, trivial⟩ (fun w hs => hs.le (Le.of_eq (by rw [e])))
        rintro - σ4 -
        have l1 := lt v2 1 (by omega)
        obtain ⟨Y3, e9, eC, hY3⟩ : ∃ Y3 : QF, Y3.bk b = Y.bk b ∧ Y3.w.C = [(ro, .cells (cells.set (off + i * 15 + 11) (.bool true)).toArray 111 (0, 0))] ∧ QS X Y3 ((ackTo X.abs c gs (i + 1)).l) := ⟨Y.put i { x with r := ackR x.r } (some ⟨ro, off, none⟩) [(ro, .cells (cells.set (off + i * 15 + 11) (.bool true)).toArray 111 (0, 0))], QF.put_bk b ha, rfl, by rw [hnx]; exact hY2⟩
        have eT : (ackTo X.abs c gs (i + 1)).t = at4 t x.r.path.toNat (tkT x.r (decide (lowIdx X.abs.l x.r.path.toNat = some i)) (t x.r.path.toNat)) := by rw [hnx]
        have eH : (ackTo X.abs c gs (i + 1)).high = at4 hi2 x.r.path.toNat i := by rw [hnx]
        clear hnx hY2
        by_cases hlow : lowFrom X.recs 0 x.r.path.toNat = (i : Int)
        · have e : tkT x.r (decide (lowIdx X.abs.l x.r.path.toNat = some i)) (t x.r.path.toNat) = { v2 with pseudo := true } := by
            rw [← hlz, decide_eq_true hlow, hv2, hv1]; unfold tkT; simp
          rw [e] at eT
          repeat' first
            | refine TC_seq ?_
            | refine TQ_then ?_
            | (refine TC_plain (id := 25) (by kernel_rfl) ?_; refine TR_pv0 PV_move rfl ?_; refine TR_pv0 PV_move rfl ?_; refine TR_pv0 (PV_indexAddr rfl rfl (by omega)) rfl ?_; refine TR_load0 rfl 4 rfl clow rfl ?_; refine TR_pv0 PV_move rfl ?_; refine TR_pv0 (PV_eql rfl rfl) rfl ?_; refine TR_nil ?_)
            | (refine TC_plain (id := 26) (by kernel_rfl) ?_; refine TR_pv0 PV_move rfl ?_; refine TR_pv0 (PV_fieldAddr rfl) rfl ?_; refine TR_pv0 (PV_indexArr rfl rfl (by omega)) rfl ?_; refine TR_pv0 (PV_fieldAddr rfl) rfl ?_; refine TR_store0_6 rfl rfl rfl rfl l1 rfl ?_; refine TR_nil ?_)
            | (refine TC_plain (id := 15) (by kernel_rfl) ?_; refine TR_pv0 PV_move rfl ?_; refine TR_pv0 (PV_add64 rfl rfl (by omega)) rfl ?_; refine TR_pv0 PV_assign rfl ?_; refine TR_nil ?_)
            | refine TQ_blk ?_
            | (refine TC_cond rfl rfl (fun hq => ?_) (fun hq => ?_) <;> (try simp only [qs] at hq) <;> (try simp only [reduceCtorEq] at hq) <;> (try (exfalso; omega)) <;> (try contradiction))
          refine TQ_roundP (i + 1, Y3) ⟨hlt, hY3⟩ (by show X.l.length - (i + 1) < mm; omega) ⟨rfl, rfl, rfl, rfl, rfl, rfl, rfl, rfl, trivial⟩ (fun w hs => ?_)
          exact hs.le (Le.trans (M := Y.bk b :: H :: [(ro, .cells (cells.set (off + i * 15 + 11) (.bool true)).toArray 111 (0, 0))] :: qsegs X.l :: blk lb 3 (four fun p => i64 (lowFrom X.recs 0 p)) :: blk hb 3 (four fun p => i64 (at4 hi2 x.r.path.toNat (i : Int) p)) :: ttbk tb ((toldCells 0 false (at4 t x.r.path.toNat v2)).set (0 + 2 + x.r.path.toNat * 5 + 1) (.bool true)) :: sbk sb c rwnd (.slice ga gs.length gcap) dv :: ttbk rb (toldCells 0 false (fun _ => tp0)) :: R) (Le.refl _) (Le.of_eq (by dsimp only; rw [told_s1 0 false t _ hp4, eT, eH, e9, eC])))
        · have e : tkT x.r (decide (lowIdx X.abs.l x.r.path.toNat = some i)) (t x.r.path.toNat) = v2 := by
            rw [← hlz, decide_eq_false hlow, hv2, hv1]; unfold tkT; simp
          rw [e] at eT
          repeat' first
            | refine TC_seq ?_
            | refine TQ_then ?_
            | (refine TC_plain (id := 25) (by kernel_rfl) ?_; refine TR_pv0 PV_move rfl ?_; refine TR_pv0 PV_move rfl ?_; refine TR_pv0 (PV_indexAddr rfl rfl (by omega)) rfl ?_; refine TR_load0 rfl 4 rfl clow rfl ?_; refine TR_pv0 PV_move rfl ?_; refine TR_pv0 (PV_eql rfl rfl) rfl ?_; refine TR_nil ?_)
            | (refine TC_plain (id := 15) (by kernel_rfl) ?_; refine TR_pv0 PV_move rfl ?_; refine TR_pv0 (PV_add64 rfl rfl (by omega)) rfl ?_; refine TR_pv0 PV_assign rfl ?_; refine TR_nil ?_)
            | refine TC_skip ?_
            | refine TQ_blk ?_
            | (refine TC_cond rfl rfl (fun hq => ?_) (fun hq => ?_) <;> (try simp only [qs] at hq) <;> (try simp only [reduceCtorEq] at hq) <;> (try (exfalso; omega)) <;> (try contradiction))
          refine TQ_roundP (i + 1, Y3) ⟨hlt, hY3⟩ (by show X.l.length - (i + 1) < mm; omega) ⟨rfl, rfl, rfl, rfl, rfl, rfl, rfl, rfl, trivial⟩ (fun w hs => ?_)
          exact hs.le (Le.of_eq (by dsimp only; rw [eT, eH, e9, eC]))
  obtain rfl : i = X.l.length := by omega
  have eA : ackTo X.abs c gs X.l.length = X.abs.acks c gs := by rw [acks_told hmay, hlF]
  rw [eA] at hY hsl2 ⊢
  have hAok : ∀ r ∈ (X.abs.acks c gs).l, FRecOk r X.paths := by rw [← eA]; exact ackTo_ok hf c gs _
  repeat' first
    | refine TC_seq ?_
    | refine TQ_then ?_
    | (refine TC_plain (id := 14) (by kernel_rfl) ?_; refine TR_pv0 PV_move rfl ?_; refine TR_pv0 PV_move rfl ?_; refine TR_pv0 (PV_nil rfl) rfl ?_; refine TR_pv0 (PV_fieldAddr rfl) rfl ?_; refine TR_load0 rfl 0 rfl rfl rfl ?_; refine TR_pv0 (PV_len rfl) rfl ?_; refine TR_pv0 (PV_lss rfl rfl) rfl ?_; refine TR_nil ?_)
    | (refine TC_plain (id := 27) (by kernel_rfl) ?_; refine TR_pv0 PV_assign rfl ?_; refine TR_nil ?_)
    | refine TC_exit ?_
    | refine TC_block ?_
    | refine TQ_then_exit ?_
    | refine TQ_blk_here ?_
    | (refine TC_cond rfl rfl (fun hq => ?_) (fun hq => ?_) <;> (try simp only [qs] at hq) <;> (try simp only [reduceCtorEq] at hq) <;> (try (exfalso; omega)) <;> (try contradiction))
  -- what is missed
  refine TC_loopP (X := Nat × QF) (fun s => s.2.bk b :: H :: s.2.w.C :: qsegs X.l :: blk lb 3 (four fun p => i64 (lowFrom X.recs 0 p)) :: blk hb 3 (four fun p => i64 ((X.abs.acks c gs).high p)) :: ttbk tb (toldCells 0 false (missTo X.abs c gs s.1).2) :: sbk sb c rwnd (.slice ga gs.length gcap) dv :: ttbk rb (toldCells 0 false (fun _ => tp0)) :: R)
    (fun s => [(0, ptr b), (3, ptr sb), (4, ptr rb), (5, i64 0), (6, ptr tb), (9, .slice (some ⟨hb, 0, none⟩) 4 4), (12, i64 s.1)]) (fun s => s.1 ≤ X.l.length ∧ QS X s.2 (missTo X.abs c gs s.1).1) (fun s => X.l.length - s.1) (0, Y)
    ⟨Nat.zero_le _, hY⟩ ⟨rfl, rfl, rfl, rfl, rfl, rfl, rfl, trivial⟩ (fun w hs => hs) ?_
  clear hY hyl hmm
  rintro ⟨i, Y⟩ σg mm hmm ⟨hi, hY⟩
  dsimp only at hmm hi hY ⊢
  have hml := missTo_len X.abs c gs i
  have hyl : Y.l.length = X.l.length := by rw [hY.len, hml, hsl2]; exact hlF
  by_cases hlt : i < X.l.length
  · obtain ⟨x, hy, hxr⟩ := hY.at_ (k := i) (by rw [hml, hsl2, hlF]; exact hlt)
    have hr := hAok x.r (List.mem_of_getElem? (by rw [← missTo_get X.abs c gs (Nat.le_refl i)]; exact hxr))
    have hp0 := hr.p0
    have hp1 := hr.p1
    have hm0' := hr.m0
    have hm1' := hr.m1
    have hp4 : x.r.path.toNat < 4 := by omega
    obtain ⟨ro, off, cells, ha, hC, hat⟩ := qat_of hY.ok.row (by omega)
    have hsl : Value.slice Y.w.a Y.l.length Y.w.cap = .slice (some ⟨ro, off, none⟩) Y.l.length Y.w.cap := by rw [ha]
    have cA : (cells.drop (off + (i : Int).toNat * 15)).take 15 = x.cells := hat.get hy
    have c7 : cells[off + (i : Int).toNat * 15 + 7]? = some (i64 x.r.path) := hat.cell hy (j := 7) (by omega) rfl
    have c10 : cells[off + (i : Int).toNat * 15 + 10]? = some (i64 x.r.miss) := hat.cell hy (j := 10) (by omega) rfl
    have c14 : cells[off + (i : Int).toNat * 15 + 14]? = some (.bool x.r.again) := hat.cell hy (j := 14) (by omega) rfl
    have chi := four_at (X.abs.acks c gs).high hp4
    have hnx := missTo_next X.abs c gs i
    have haw := qaway_cd x
    refine TC_le (L' := Y.bk b :: H :: [(ro, .cells cells.toArray 111 (0, 0))] :: qsegs X.l :: blk lb 3 (four fun p => i64 (lowFrom X.recs 0 p)) :: blk hb 3 (four fun p => i64 ((X.abs.acks c gs).high p)) :: ttbk tb (toldCells 0 false (missTo X.abs c gs i).2) :: sbk sb c rwnd (.slice ga gs.length gcap) dv :: ttbk rb (toldCells 0 false (fun _ => tp0)) :: R) (Le.of_eq (by rw [hC])) ?_
    repeat' first
      | refine TC_seq ?_
      | refine TQ_then ?_
      | (refine TC_plain (id := 28) (by kernel_rfl) ?_; refine TR_pv0 PV_move rfl ?_; refine TR_pv0 PV_move rfl ?_; refine TR_pv0 (PV_nil rfl) rfl ?_; refine TR_pv0 (PV_fieldAddr rfl) rfl ?_; refine TR_load0 rfl 0 rfl rfl rfl ?_; refine TR_pv0 (PV_len rfl) rfl ?_; refine TR_pv0 (PV_lss rfl rfl) rfl ?_; refine TR_nil ?_)
      | (refine TC_plain (id := 30) (by kernel_rfl) ?_; refine TR_pv0 PV_move rfl ?_; refine TR_pv0 (PV_nil rfl) rfl ?_; refine TR_pv0 (PV_fieldAddr rfl) rfl ?_; refine TR_load0 rfl 0 rfl rfl rfl ?_; refine TR_pv0 PV_move rfl ?_; refine TR_pv0 (PV_indexAddr hsl rfl (by omega)) rfl ?_; refine TR_pv0 (PV_fieldAddr rfl) rfl ?_; refine TR_load0 rfl 2 rfl c7 rfl ?_; refine TR_pv0 PV_assign rfl ?_; refine TR_nil ?_)
      | refine TC_skip ?_
      | refine TC_block ?_
      | (refine TC_cond rfl rfl (fun hq => ?_) (fun hq => ?_) <;> (try simp only [qs] at hq) <;> (try simp only [reduceCtorEq] at hq) <;> (try (exfalso; omega)) <;> (try contradiction))
    by_cases hcond : x.r.away = false ∨ x.r.again = true ∨ (X.abs.acks c gs).high x.r.path.toNat ≤ i
    · rw [missStep_no hxr hcond] at hnx
      by_cases h1 : x.r.away = false
      · rw [h1] at haw
        repeat' first
          | refine TQ_then ?_
          | (refine TC_plain (id := 31) (by kernel_rfl) ?_; all_goals refine TR_pv0 PV_move rfl ?_; all_goals refine TR_pv0 (PV_nil rfl) rfl ?_; all_goals refine TR_pv0 (PV_fieldAddr rfl) rfl ?_; all_goals refine TR_load0 rfl 0 rfl rfl rfl ?_; all_goals refine TR_pv0 PV_move rfl ?_; all_goals refine TR_pv0 (PV_indexAddr hsl rfl (by omega)) rfl ?_; all_goals refine TR_loadAM0 rfl (.head _) 2 rfl cA rfl rfl ?_; all_goals refine TR_calld0 (haw) rfl rfl rfl rfl ?_; all_goals refine TR_pv0 (PV_not rfl) rfl ?_; all_goals refine TR_pv0 PV_move rfl ?_; all_goals refine TR_skip0 rfl ?_; all_goals refine TR_skip0 rfl ?_; all_goals refine TR_skip0 rfl ?_; all_goals refine TR_skip0 rfl ?_; all_goals refine TR_skip0 rfl ?_; all_goals refine TR_skip0 rfl ?_; all_goals refine TR_skip0 rfl ?_; all_goals refine TR_skip0 rfl ?_; all_goals refine TR_pv0 (PV_pick_t rfl) rfl ?_; all_goals refine TR_pv0 PV_move rfl ?_; all_goals refine TR_skip0 rfl ?_; all_goals refine TR_skip0 rfl ?_; all_goals refine TR_skip0 rfl ?_; all_goals refine TR_skip0 rfl ?_; all_goals refine TR_skip0 rfl ?_; all_goals refine TR_skip0 rfl ?_; all_goals refine TR_pv0 (PV_pick_t rfl) rfl ?_; all_goals refine TR_nil ?_)
          | refine TC_cond_t rfl rfl ?_
          | refine TC_exit ?_
          | refine TQ_then_exit ?_
          | refine TQ_blk_here ?_
        repeat' first
          | (refine TC_plain (id := 29) (by kernel_rfl) ?_; refine TR_pv0 PV_move rfl ?_; refine TR_pv0 (PV_add64 rfl rfl (by omega)) rfl ?_; refine TR_pv0 PV_assign rfl ?_; refine TR_nil ?_)
        exact TQ_roundP (i + 1, Y) ⟨hlt, by rw [hnx]; exact hY⟩ (by show X.l.length - (i + 1) < mm; omega) ⟨rfl, rfl, rfl, rfl, rfl, rfl, rfl, trivial⟩ (fun w hs => hs.le (Le.of_eq (by rw [hC, hnx])))
      · have h1' : x.r.away = true := by simpa using h1
        rw [h1'] at haw
        by_cases h2 : x.r.again = true
        · rw [h2] at c14
          repeat' first
            | refine TQ_then ?_
            | (refine TC_plain (id := 31) (by kernel_rfl) ?_; all_goals refine TR_pv0 PV_move rfl ?_; all_goals refine TR_pv0 (PV_nil rfl) rfl ?_; all_goals refine TR_pv0 (PV_fieldAddr rfl) rfl ?_; all_goals refine TR_load0 rfl 0 rfl rfl rfl ?_; all_goals refine TR_pv0 PV_move rfl ?_; all_goals refine TR_pv0 (PV_indexAddr hsl rfl (by omega)) rfl ?_; all_goals refine TR_loadAM0 rfl (.head _) 2 rfl cA rfl rfl ?_; all_goals refine TR_calld0 (haw) rfl rfl rfl rfl ?_; all_goals refine TR_pv0 (PV_not rfl) rfl ?_; all_goals refine TR_pv0 PV_move rfl ?_; all_goals refine TR_pv0 PV_move rfl ?_; all_goals refine TR_pv0 (PV_nil rfl) rfl ?_; all_goals refine TR_pv0 (PV_fieldAddr rfl) rfl ?_; all_goals refine TR_load0 rfl 0 rfl rfl rfl ?_; all_goals refine TR_pv0 PV_move rfl ?_; all_goals refine TR_pv0 (PV_indexAddr hsl rfl (by omega)) rfl ?_; all_goals refine TR_pv0 (PV_fieldAddr rfl) rfl ?_; all_goals refine TR_load0 rfl 2 rfl c14 rfl ?_; all_goals refine TR_pv0 (PV_pick_f rfl) rfl ?_; all_goals refine TR_pv0 PV_move rfl ?_; all_goals refine TR_skip0 rfl ?_; all_goals refine TR_skip0 rfl ?_; all_goals refine TR_skip0 rfl ?_; all_goals refine TR_skip0 rfl ?_; all_goals refine TR_skip0 rfl ?_; all_goals refine TR_skip0 rfl ?_; all_goals refine TR_pv0 (PV_pick_t rfl) rfl ?_; all_goals refine TR_nil ?_)
            | refine TC_cond_t rfl rfl ?_
            | refine TC_exit ?_
            | refine TQ_then_exit ?_
            | refine TQ_blk_here ?_
          repeat' first
            | (refine TC_plain (id := 29) (by kernel_rfl) ?_; refine TR_pv0 PV_move rfl ?_; refine TR_pv0 (PV_add64 rfl rfl (by omega)) rfl ?_; refine TR_pv0 PV_assign rfl ?_; refine TR_nil ?_)
          exact TQ_roundP (i + 1, Y) ⟨hlt, by rw [hnx]; exact hY⟩ (by show X.l.length - (i + 1) < mm; omega) ⟨rfl, rfl, rfl, rfl, rfl, rfl, rfl, trivial⟩ (fun w hs => hs.le (Le.of_eq (by rw [hC, hnx])))
        · have h2' : x.r.again = false := by simpa using h2
          have h3 : (X.abs.acks c gs).high x.r.path.toNat ≤ i := by
            rcases hcond with h | h | h
            · exact absurd h h1
            · exact absurd h h2
            · exact h
          rw [h2'] at c14
          repeat' first
            | refine TQ_then ?_
            | (refine TC_plain (id := 31) (by kernel_rfl) ?_; all_goals refine TR_pv0 PV_move rfl ?_; all_goals refine TR_pv0 (PV_nil rfl) rfl ?_; all_goals refine TR_pv0 (PV_fieldAddr rfl) rfl ?_; all_goals refine TR_load0 rfl 0 rfl rfl rfl ?_; all_goals refine TR_pv0 PV_move rfl ?_; all_goals refine TR_pv0 (PV_indexAddr hsl rfl (by omega)) rfl ?_; all_goals refine TR_loadAM0 rfl (.head _) 2 rfl cA rfl rfl ?_; all_goals refine TR_calld0 (haw) rfl rfl rfl rfl ?_; all_goals refine TR_pv0 (PV_not rfl) rfl ?_; all_goals refine TR_pv0 PV_move rfl ?_; all_goals refine TR_pv0 PV_move rfl ?_; all_goals refine TR_pv0 (PV_nil rfl) rfl ?_; all_goals refine TR_pv0 (PV_fieldAddr rfl) rfl ?_; all_goals refine TR_load0 rfl 0 rfl rfl rfl ?_; all_goals refine TR_pv0 PV_move rfl ?_; all_goals refine TR_pv0 (PV_indexAddr hsl rfl (by omega)) rfl ?_; all_goals refine TR_pv0 (PV_fieldAddr rfl) rfl ?_; all_goals refine TR_load0 rfl 2 rfl c14 rfl ?_; all_goals refine TR_pv0 (PV_pick_f rfl) rfl ?_; all_goals refine TR_pv0 PV_move rfl ?_; all_goals refine TR_pv0 PV_move rfl ?_; all_goals refine TR_pv0 PV_move rfl ?_; all_goals refine TR_pv0 (PV_indexAddr rfl rfl (by omega)) rfl ?_; all_goals refine TR_load0 rfl 5 rfl chi rfl ?_; all_goals refine TR_pv0 PV_move rfl ?_; all_goals refine TR_pv0 (PV_leq rfl rfl) rfl ?_; all_goals refine TR_pv0 (PV_pick_f rfl) rfl ?_; all_goals refine TR_nil ?_)
            | refine TC_exit ?_
            | refine TQ_then_exit ?_
            | refine TQ_blk_here ?_
            | (refine TC_cond rfl rfl (fun hq => ?_) (fun hq => ?_) <;> (try simp only [qs] at hq) <;> (try simp only [reduceCtorEq] at hq) <;> (try (exfalso; omega)) <;> (try contradiction))
          repeat' first
            | (refine TC_plain (id := 29) (by kernel_rfl) ?_; refine TR_pv0 PV_move rfl ?_; refine TR_pv0 (PV_add64 rfl rfl (by omega)) rfl ?_; refine TR_pv0 PV_assign rfl ?_; refine TR_nil ?_)
          exact TQ_roundP (i + 1, Y) ⟨hlt, by rw [hnx]; exact hY⟩ (by show X.l.length - (i + 1) < mm; omega) ⟨rfl, rfl, rfl, rfl, rfl, rfl, rfl, trivial⟩ (fun w hs => hs.le (Le.of_eq (by rw [hC, hnx])))
    · rw [missStep_yes hxr hcond] at hnx
      have h1 : x.r.away = true := by cases h : x.r.away with | true => rfl | false => exact absurd (.inl h) hcond
      have h2 : x.r.again = false := by cases h : x.r.again with | false => rfl | true => exact absurd (.inr (.inl h)) hcond
      have h3 : ¬ (X.abs.acks c gs).high x.r.path.toNat ≤ i := fun h => hcond (.inr (.inr h))
      rw [h1] at haw
      rw [h2] at c14
      have l10 : Nat.blt (off + (i : Int).toNat * 15 + 10) cells.length = true := hat.blt (by omega) (by omega)
      have hst := hat.store hy (y := { x with r := { x.r with miss := x.r.miss + 1 } }) (j := 10) (v := i64 (x.r.miss + 1)) (by omega) rfl
      have hx2 : (Y.l.set i { x with r := { x.r with miss := x.r.miss + 1 } })[i]? = some { x with r := { x.r with miss := x.r.miss + 1 } } := List.getElem?_set_self (by omega)
      have d10 : (cells.set (off + i * 15 + 10) (i64 (x.r.miss + 1)))[off + (i : Int).toNat * 15 + 10]? = some (i64 (x.r.miss + 1)) := hst.cell hx2 (j := 10) (by omega) rfl
      have l12 : Nat.blt (off + (i : Int).toNat * 15 + 12) (cells.set (off + i * 15 + 10) (i64 (x.r.miss + 1))).length = true := hst.blt (by rw [List.length_set]; omega) (by omega)
      by_cases h3m : 3 ≤ x.r.miss + 1
      · have hst2 := hst.store hx2 (y := { x with r := missR x.r }) (j := 12) (v := .bool true) (by omega) (by rw [missR_hi h3m]; rfl)
        rw [List.set_set] at hst2
        have hY2 := hY.put (rb := ro) hy missR (by rw [missR_hi h3m]) hst2
        rw [if_pos h3m] at hnx
        have lt2 := told_blt 0 false (missTo X.abs c gs i).2 hp4 (j := 2) (by omega)
        obtain ⟨Y3, e9, eC, hY3⟩ : ∃ Y3 : QF, Y3.bk b = Y.bk b ∧ Y3.w.C = [(ro, .cells ((cells.set (off + i * 15 + 10) (i64 (x.r.miss + 1))).set (off + i * 15 + 12) (.bool true)).toArray 111 (0, 0))] ∧ QS X Y3 ((missTo X.abs c gs (i + 1)).1) := ⟨Y.put i { x with r := missR x.r } (some ⟨ro, off, none⟩) [(ro, .cells ((cells.set (off + i * 15 + 10) (i64 (x.r.miss + 1))).set (off + i * 15 + 12) (.bool true)).toArray 111 (0, 0))], QF.put_bk b ha, rfl, by rw [hnx]; exact hY2⟩
        have eT : (missTo X.abs c gs (i + 1)).2 = at4 (missTo X.abs c gs i).2 x.r.path.toNat { (missTo X.abs c gs i).2 x.r.path.toNat with fast := true } := by rw [hnx]
        clear hnx hY2
        repeat' first
          | refine TC_seq ?_
          | refine TQ_then ?_
          | (refine TC_plain (id := 31) (by kernel_rfl) ?_; all_goals refine TR_pv0 PV_move rfl ?_; all_goals refine TR_pv0 (PV_nil rfl) rfl ?_; all_goals refine TR_pv0 (PV_fieldAddr rfl) rfl ?_; all_goals refine TR_load0 rfl 0 rfl rfl rfl ?_; all_goals refine TR_pv0 PV_move rfl ?_; all_goals refine TR_pv0 (PV_indexAddr hsl rfl (by omega)) rfl ?_; all_goals refine TR_loadAM0 rfl (.head _) 2 rfl cA rfl rfl ?_; all_goals refine TR_calld0 (haw) rfl rfl rfl rfl ?_; all_goals refine TR_pv0 (PV_not rfl) rfl ?_; all_goals refine TR_pv0 PV_move rfl ?_; all_goals refine TR_pv0 PV_move rfl ?_; all_goals refine TR_pv0 (PV_nil rfl) rfl ?_; all_goals refine TR_pv0 (PV_fieldAddr rfl) rfl ?_; all_goals refine TR_load0 rfl 0 rfl rfl rfl ?_; all_goals refine TR_pv0 PV_move rfl ?_; all_goals refine TR_pv0 (PV_indexAddr hsl rfl (by omega)) rfl ?_; all_goals refine TR_pv0 (PV_fieldAddr rfl) rfl ?_; all_goals refine TR_load0 rfl 2 rfl c14 rfl ?_; all_goals refine TR_pv0 (PV_pick_f rfl) rfl ?_; all_goals refine TR_pv0 PV_move rfl ?_; all_goals refine TR_pv0 PV_move rfl ?_; all_goals refine TR_pv0 PV_move rfl ?_; all_goals refine TR_pv0 (PV_indexAddr rfl rfl (by omega)) rfl ?_; all_goals refine TR_load0 rfl 5 rfl chi rfl ?_; all_goals refine TR_pv0 PV_move rfl ?_; all_goals refine TR_pv0 (PV_leq rfl rfl) rfl ?_; all_goals refine TR_pv0 (PV_pick_f rfl) rfl ?_; all_goals refine TR_nil ?_)
          | (refine TC_plain (id := 32) (by kernel_rfl) ?_; refine TR_pv0 PV_move rfl ?_; refine TR_pv0 (PV_nil rfl) rfl ?_; refine TR_pv0 (PV_fieldAddr rfl) rfl ?_; refine TR_load0 rfl 0 rfl rfl rfl ?_; refine TR_pv0 PV_move rfl ?_; refine TR_pv0 (PV_indexAddr hsl rfl (by omega)) rfl ?_; refine TR_pv0 (PV_fieldAddr rfl) rfl ?_; refine TR_load0 rfl 2 rfl c10 rfl ?_; refine TR_pv0 (PV_add64 rfl rfl (by omega)) rfl ?_; refine TR_pv0 (PV_indexAddr hsl rfl (by omega)) rfl ?_; refine TR_pv0 (PV_fieldAddr rfl) rfl ?_; refine TR_store0_2 rfl rfl rfl rfl l10 rfl ?_; refine TR_nil ?_)
          | (refine TC_plain (id := 33) (by kernel_rfl) ?_; refine TR_pv0 PV_move rfl ?_; refine TR_pv0 (PV_nil rfl) rfl ?_; refine TR_pv0 (PV_fieldAddr rfl) rfl ?_; refine TR_load0 rfl 0 rfl rfl rfl ?_; refine TR_pv0 PV_move rfl ?_; refine TR_pv0 (PV_indexAddr hsl rfl (by omega)) rfl ?_; refine TR_pv0 (PV_fieldAddr rfl) rfl ?_; refine TR_load0 rfl 2 rfl d10 rfl ?_; refine TR_pv0 (PV_geq rfl rfl) rfl ?_; refine TR_nil ?_)
          | refine TC_skip ?_
          | (refine TC_cond rfl rfl (fun hq => ?_) (fun hq => ?_) <;> (try simp only [qs] at hq) <;> (try simp only [reduceCtorEq] at hq) <;> (try (exfalso; omega)) <;> (try contradiction))
        repeat' first
          | refine TQ_then ?_
          | (refine TC_plain (id := 34) (by kernel_rfl) ?_; refine TR_pv0 PV_move rfl ?_; refine TR_pv0 (PV_nil rfl) rfl ?_; refine TR_pv0 (PV_fieldAddr rfl) rfl ?_; refine TR_load0 rfl 0 rfl rfl rfl ?_; refine TR_pv0 PV_move rfl ?_; refine TR_pv0 (PV_indexAddr hsl rfl (by omega)) rfl ?_; refine TR_pv0 (PV_fieldAddr rfl) rfl ?_; refine TR_store0_2 rfl rfl rfl rfl l12 rfl ?_; refine TR_nil ?_)
        repeat' first
          | refine TQ_then ?_
          | (refine TC_plain (id := 35) (by kernel_rfl) ?_; refine TR_pv0 PV_move rfl ?_; refine TR_pv0 (PV_fieldAddr rfl) rfl ?_; refine TR_pv0 (PV_indexArr rfl rfl (by omega)) rfl ?_; refine TR_pv0 (PV_fieldAddr rfl) rfl ?_; refine TR_store0_6 rfl rfl rfl rfl lt2 rfl ?_; refine TR_nil ?_)
          | (refine TC_plain (id := 29) (by kernel_rfl) ?_; refine TR_pv0 PV_move rfl ?_; refine TR_pv0 (PV_add64 rfl rfl (by omega)) rfl ?_; refine TR_pv0 PV_assign rfl ?_; refine TR_nil ?_)
          | refine TQ_blk ?_
        refine TQ_roundP (i + 1, Y3) ⟨hlt, hY3⟩ (by show X.l.length - (i + 1) < mm; omega) ⟨rfl, rfl, rfl, rfl, rfl, rfl, rfl, trivial⟩ (fun w hs => ?_)
        exact hs.le (Le.trans (M := Y.bk b :: H :: [(ro, .cells ((cells.set (off + i * 15 + 10) (i64 (x.r.miss + 1))).set (off + i * 15 + 12) (.bool true)).toArray 111 (0, 0))] :: qsegs X.l :: blk lb 3 (four fun p => i64 (lowFrom X.recs 0 p)) :: blk hb 3 (four fun p => i64 ((X.abs.acks c gs).high p)) :: ttbk tb ((toldCells 0 false (missTo X.abs c gs i).2).set (0 + 2 + x.r.path.toNat * 5 + 2) (.bool true)) :: sbk sb c rwnd (.slice ga gs.length gcap) dv :: ttbk rb (toldCells 0 false (fun _ => tp0)) :: R) (Le.refl _) (Le.of_eq (by dsimp only; rw [told_fast 0 false _ hp4, eT, e9, eC])))
      · have hY2 := hY.put (rb := ro) hy missR (by rw [missR_lo h3m]) (by rw [missR_lo h3m]; exact hst)
        rw [if_neg h3m] at hnx
        obtain ⟨Y3, e9, eC, hY3⟩ : ∃ Y3 : QF, Y3.bk b = Y.bk b ∧ Y3.w.C = [(ro, .cells (cells.set (off + i * 15 + 10) (i64 (x.r.miss + 1))).toArray 111 (0, 0))] ∧ QS X Y3 ((missTo X.abs c gs (i + 1)).1) := ⟨Y.put i { x with r := missR x.r } (some ⟨ro, off, none⟩) [(ro, .cells (cells.set (off + i * 15 + 10) (i64 (x.r.miss + 1))).toArray 111 (0, 0))], QF.put_bk b ha, rfl, by rw [hnx]; exact hY2⟩
        have eT : (missTo X.abs c gs (i + 1)).2 = (missTo X.abs c gs i).2 := by rw [hnx]
        clear hnx hY2
        repeat' first
          | refine TC_seq ?_
          | refine TQ_then ?_
          | (refine TC_plain (id := 31) (by kernel_rfl) ?_; all_goals refine TR_pv0 PV_move rfl ?_; all_goals refine TR_pv0 (PV_nil rfl) rfl ?_; all_goals refine TR_pv0 (PV_fieldAddr rfl) rfl ?_; all_goals refine TR_load0 rfl 0 rfl rfl rfl ?_; all_goals refine TR_pv0 PV_move rfl ?_; all_goals refine TR_pv0 (PV_indexAddr hsl rfl (by omega)) rfl ?_; all_goals refine TR_loadAM0 rfl (.head _) 2 rfl cA rfl rfl ?_; all_goals refine TR_calld0 (haw) rfl rfl rfl rfl ?_; all_goals refine TR_pv0 (PV_not rfl) rfl ?_; all_goals refine TR_pv0 PV_move rfl ?_; all_goals refine TR_pv0 PV_move rfl ?_; all_goals refine TR_pv0 (PV_nil rfl) rfl ?_; all_goals refine TR_pv0 (PV_fieldAddr rfl) rfl ?_; all_goals refine TR_load0 rfl 0 rfl rfl rfl ?_; all_goals refine TR_pv0 PV_move rfl ?_; all_goals refine TR_pv0 (PV_indexAddr hsl rfl (by omega)) rfl ?_; all_goals refine TR_pv0 (PV_fieldAddr rfl) rfl ?_; all_goals refine TR_load0 rfl 2 rfl c14 rfl ?_; all_goals refine TR_pv0 (PV_pick_f rfl) rfl ?_; all_goals refine TR_pv0 PV_move rfl ?_; all_goals refine TR_pv0 PV_move rfl ?_; all_goals refine TR_pv0 PV_move rfl ?_; all_goals refine TR_pv0 (PV_indexAddr rfl rfl (by omega)) rfl ?_; all_goals refine TR_load0 rfl 5 rfl chi rfl ?_; all_goals refine TR_pv0 PV_move rfl ?_; all_goals refine TR_pv0 (PV_leq rfl rfl) rfl ?_; all_goals refine TR_pv0 (PV_pick_f rfl) rfl ?_; all_goals refine TR_nil ?_)
          | (refine TC_plain (id := 32) (by kernel_rfl) ?_; refine TR_pv0 PV_move rfl ?_; refine TR_pv0 (PV_nil rfl) rfl ?_; refine TR_pv0 (PV_fieldAddr rfl) rfl ?_; refine TR_load0 rfl 0 rfl rfl rfl ?_; refine TR_pv0 PV_move rfl ?_; refine TR_pv0 (PV_indexAddr hsl rfl (by omega)) rfl ?_; refine TR_pv0 (PV_fieldAddr rfl) rfl ?_; refine TR_load0 rfl 2 rfl c10 rfl ?_; refine TR_pv0 (PV_add64 rfl rfl (by omega)) rfl ?_; refine TR_pv0 (PV_indexAddr hsl rfl (by omega)) rfl ?_; refine TR_pv0 (PV_fieldAddr rfl) rfl ?_; refine TR_store0_2 rfl rfl rfl rfl l10 rfl ?_; refine TR_nil ?_)
          | (refine TC_plain (id := 33) (by kernel_rfl) ?_; refine TR_pv0 PV_move rfl ?_; refine TR_pv0 (PV_nil rfl) rfl ?_; refine TR_pv0 (PV_fieldAddr rfl) rfl ?_; refine TR_load0 rfl 0 rfl rfl rfl ?_; refine TR_pv0 PV_move rfl ?_; refine TR_pv0 (PV_indexAddr hsl rfl (by omega)) rfl ?_; refine TR_pv0 (PV_fieldAddr rfl) rfl ?_; refine TR_load0 rfl 2 rfl d10 rfl ?_; refine TR_pv0 (PV_geq rfl rfl) rfl ?_; refine TR_nil ?_)
          | (refine TC_plain (id := 29) (by kernel_rfl) ?_; refine TR_pv0 PV_move rfl ?_; refine TR_pv0 (PV_add64 rfl rfl (by omega)) rfl ?_; refine TR_pv0 PV_assign rfl ?_; refine TR_nil ?_)
          | refine TC_skip ?_
          | refine TQ_blk ?_
          | (refine TC_cond rfl rfl (fun hq => ?_) (fun hq => ?_) <;> (try simp only [qs] at hq) <;> (try simp only [reduceCtorEq] at hq) <;> (try (exfalso; omega)) <;> (try contradiction))
        exact TQ_roundP (i + 1, Y3) ⟨hlt, hY3⟩ (by show X.l.length - (i + 1) < mm; omega) ⟨rfl, rfl, rfl, rfl, rfl, rfl, rfl, trivial⟩ (fun w hs => hs.le (Le.trans (M := Y.bk b :: H :: [(ro, .cells (cells.set (off + i * 15 + 10) (i64 (x.r.miss + 1))).toArray 111 (0, 0))] :: qsegs X.l :: blk lb 3 (four fun p => i64 (lowFrom X.recs 0 p)) :: blk hb 3 (four fun p => i64 ((X.abs.acks c gs).high p)) :: ttbk tb (toldCells 0 false (missTo X.abs c gs i).2) :: sbk sb c rwnd (.slice ga gs.length gcap) dv :: ttbk rb (toldCells 0 false (fun _ => tp0)) :: R) (Le.refl _) (Le.of_eq (by dsimp only; rw [eT, e9, eC]))))
  obtain rfl : i = X.l.length := by omega
  have eM : missTo X.abs c gs X.l.length = X.abs.misses c gs := by rw [missTo, ← hlF]; rfl
  rw [eM] at hY hml ⊢
  have hMl : (X.abs.misses c gs).1.length = X.l.length := by rw [hml, hsl2]; exact hlF
  have hsz := misses_d X.abs c gs hmay
  have hwh := whole_eq (F := X.abs) hmay hc hf.c0 hf.c1
  rw [hlF] at hwh
  have hfreed : ∀ k, sumIf (fun _ => true) ((X.abs.misses c gs).1.take k) = sumIf (fun _ => true) (X.abs.l.take k) := fun k => by rw [sum_szs, sum_szs, hsz]
  have hsF : X.abs.sack c gs = ⟨(X.abs.misses c gs).1.drop (X.abs.base c), c, X.paths⟩ := rfl
  have hsT : (X.abs.sackT c gs).cells = toldCells (sumIf (fun _ => true) ((X.abs.misses c gs).1.take (X.abs.base c))) (X.abs.sackT c gs).whole (X.abs.misses c gs).2 := rfl
  have hb0 : (((c - X.cum) % 4294967296 : Int)) = ((X.abs.base c : Nat) : Int) := hbase.symm
  have hYb : Y.cum = X.cum := hY.cum
  rw [hsF, hsT]
  revert hY hMl hfreed hwh
  generalize (X.abs.misses c gs).1 = M
  generalize (X.abs.misses c gs).2 = T
  generalize (X.abs.sackT c gs).whole = W
  intro hY hMl hwh hfreed
  repeat' first
    | refine TC_seq ?_
    | refine TQ_then ?_
    | refine TQ_noPanic ?_
    | (refine TC_plain (id := 28) (by kernel_rfl) ?_; refine TR_pv0 PV_move rfl ?_; refine TR_pv0 PV_move rfl ?_; refine TR_pv0 (PV_nil rfl) rfl ?_; refine TR_pv0 (PV_fieldAddr rfl) rfl ?_; refine TR_load0 rfl 0 rfl rfl rfl ?_; refine TR_pv0 (PV_len rfl) rfl ?_; refine TR_pv0 (PV_lss rfl rfl) rfl ?_; refine TR_nil ?_)
    | (refine TC_drawn' (id := 36) [(0, 1), (1, 1), (2, 1), (3, 1), (4, 1), (5, 1), (6, 1), (7, 1), (8, 1)] mixed (by kernel_rfl) ?_; refine TR_pv1 (PV_fieldAddr rfl) rfl (fun _ h => h) ?_; refine TR_load1 rfl 7 rfl rfl rfl (fun _ h => h) ?_; refine TR_pv1 PV_move rfl (fun _ h => h) ?_; refine TR_pv1 (PV_nil rfl) rfl (fun _ h => h) ?_; refine TR_pv1 (PV_fieldAddr rfl) rfl (fun _ h => h) ?_; refine TR_load1 rfl 0 rfl rfl rfl (fun _ h => h) ?_; refine TR_pv1 (PV_sub32 rfl rfl) rfl (fun _ h => h) ?_; refine TR_pv1 (PV_conv64 rfl (by omega)) rfl (fun _ h => h) ?_; refine TR_pv1 PV_assign rfl (fun _ h => h) ?_; refine TR_nil ?_)
    | (refine TC_plain (id := 37) (by kernel_rfl) ?_; refine TR_pv0 (PV_fieldAddr rfl) rfl ?_; refine TR_store0_6 rfl rfl rfl rfl rfl rfl ?_; refine TR_nil ?_)
    | (refine TC_plain (id := 38) (by kernel_rfl) ?_; refine TR_pv0 PV_assign rfl ?_; refine TR_nil ?_)
    | refine TC_exit ?_
    | refine TC_block ?_
    | refine TQ_then_exit ?_
    | refine TQ_blk_here ?_
    | (refine TC_cond rfl rfl (fun hq => ?_) (fun hq => ?_) <;> (try simp only [qs] at hq) <;> (try simp only [reduceCtorEq] at hq) <;> (try (exfalso; omega)) <;> (try contradiction))
  refine TC_slots [(0, ptr b), (3, ptr sb), (4, ptr rb), (5, i64 0), (6, ptr tb), (14, i64 (X.abs.base c : Nat)), (15, i64 0)] ⟨rfl, rfl, rfl, rfl, rfl, ?_, rfl, trivial⟩ fun σ5 => ?_
  · show i64 ((c - Y.cum) % 4294967296) = _
    rw [hYb, hb0]
  generalize X.abs.base c = n at hbl hwh hb0 ⊢
  refine TC_loopP (X := Nat) (fun k => Y.bk b :: H :: Y.w.C :: qsegs X.l :: blk lb 3 (four fun p => i64 (lowFrom X.recs 0 p)) :: blk hb 3 (four fun p => i64 ((X.abs.acks c gs).high p)) :: ttbk tb (toldCells 0 (wholeTo n (toldB n gs) M k) T) :: sbk sb c rwnd (.slice ga gs.length gcap) dv :: ttbk rb (toldCells 0 false (fun _ => tp0)) :: R)
    (fun k => [(0, ptr b), (3, ptr sb), (4, ptr rb), (5, i64 0), (6, ptr tb), (14, i64 (n : Nat)), (15, i64 k)]) (fun k => k ≤ X.l.length) (fun k => X.l.length - k) 0 (Nat.zero_le _) ⟨rfl, rfl, rfl, rfl, rfl, rfl, rfl, trivial⟩ (fun w hs => ?_) ?_
  · rw [wholeTo_zero]; exact hs
  rintro k σg mm hmm hk
  by_cases hlt : k < X.l.length
  · obtain ⟨x, hy, hxr⟩ := hY.at_ (k := k) (by rw [hMl]; exact hlt)
    obtain ⟨ro, off, cells, ha, hC, hat⟩ := qat_of hY.ok.row (by omega)
    have hsl : Value.slice Y.w.a Y.l.length Y.w.cap = .slice (some ⟨ro, off, none⟩) Y.l.length Y.w.cap := by rw [ha]
    have c11 : cells[off + (k : Int).toNat * 15 + 11]? = some (.bool x.r.acked) := hat.cell hy (j := 11) (by omega) rfl
    have hnx := wholeTo_next n (toldB n gs) M k
    have hak : ackAt M k = x.r.acked := by rw [ackAt, hxr]
    rw [hak] at hnx
    refine TC_le (L' := Y.bk b :: H :: [(ro, .cells cells.toArray 111 (0, 0))] :: qsegs X.l :: blk lb 3 (four fun p => i64 (lowFrom X.recs 0 p)) :: blk hb 3 (four fun p => i64 ((X.abs.acks c gs).high p)) :: ttbk tb (toldCells 0 (wholeTo n (toldB n gs) M k) T) :: sbk sb c rwnd (.slice ga gs.length gcap) dv :: ttbk rb (toldCells 0 false (fun _ => tp0)) :: R) (Le.of_eq (by rw [hC])) ?_
    by_cases hn0 : n = 0
    · subst hn0
      have htd := qtold_cd b Y c rwnd gs ga gcap dv H k (by omega) hgs hs hgn
      rw [show Y.abs.base c = 0 by simp only [Flt.base, QF.abs, hYb]; omega] at htd
      rw [decide_eq_true rfl, Bool.true_and] at hnx
      cases hac : x.r.acked with
      | false =>
        rw [hac] at c11 hnx
        rw [if_neg (by simp)] at hnx
        repeat' first
          | refine TC_seq ?_
          | refine TQ_then ?_
          | (refine TC_plain (id := 39) (by kernel_rfl) ?_; refine TR_pv0 PV_move rfl ?_; refine TR_pv0 PV_move rfl ?_; refine TR_pv0 (PV_nil rfl) rfl ?_; refine TR_pv0 (PV_fieldAddr rfl) rfl ?_; refine TR_load0 rfl 0 rfl rfl rfl ?_; refine TR_pv0 (PV_len rfl) rfl ?_; refine TR_pv0 (PV_lss rfl rfl) rfl ?_; refine TR_nil ?_)
          | (refine TC_plain (id := 41) (by kernel_rfl) ?_; all_goals refine TR_pv0 PV_move rfl ?_; all_goals refine TR_pv0 (PV_eql rfl rfl) rfl ?_; all_goals refine TR_pv0 PV_move rfl ?_; all_goals refine TR_pv0 PV_move rfl ?_; all_goals refine TR_pv0 (PV_nil rfl) rfl ?_; all_goals refine TR_pv0 (PV_fieldAddr rfl) rfl ?_; all_goals refine TR_load0 rfl 0 rfl rfl rfl ?_; all_goals refine TR_pv0 PV_move rfl ?_; all_goals refine TR_pv0 (PV_indexAddr hsl rfl (by omega)) rfl ?_; all_goals refine TR_pv0 (PV_fieldAddr rfl) rfl ?_; all_goals refine TR_load0 rfl 2 rfl c11 rfl ?_; all_goals refine TR_pv0 (PV_pick_t rfl) rfl ?_; all_goals refine TR_pv0 PV_move rfl ?_; all_goals refine TR_skip0 rfl ?_; all_goals refine TR_skip0 rfl ?_; all_goals refine TR_skip0 rfl ?_; all_goals refine TR_skip0 rfl ?_; all_goals refine TR_skip0 rfl ?_; all_goals refine TR_pv0 (PV_pick_f rfl) rfl ?_; all_goals refine TR_nil ?_)
          | (refine TC_plain (id := 40) (by kernel_rfl) ?_; refine TR_pv0 PV_move rfl ?_; refine TR_pv0 (PV_add64 rfl rfl (by omega)) rfl ?_; refine TR_pv0 PV_assign rfl ?_; refine TR_nil ?_)
          | refine TC_cond_f rfl rfl ?_
          | refine TC_skip ?_
          | refine TC_block ?_
          | refine TQ_blk ?_
          | (refine TC_cond rfl rfl (fun hq => ?_) (fun hq => ?_) <;> (try simp only [qs] at hq) <;> (try simp only [reduceCtorEq] at hq) <;> (try (exfalso; omega)) <;> (try contradiction))
        exact TQ_roundP (k + 1) hlt (by show X.l.length - (k + 1) < mm; omega) ⟨rfl, rfl, rfl, rfl, rfl, rfl, rfl, trivial⟩ (fun w hs => hs.le (Le.of_eq (by rw [hC, hnx])))
      | true =>
        rw [hac] at c11 hnx
        cases htb : toldB 0 gs k with
        | true =>
          rw [htb] at htd hnx
          rw [if_neg (by simp)] at hnx
          repeat' first
            | refine TC_seq ?_
            | refine TQ_then ?_
            | (refine TC_plain (id := 39) (by kernel_rfl) ?_; refine TR_pv0 PV_move rfl ?_; refine TR_pv0 PV_move rfl ?_; refine TR_pv0 (PV_nil rfl) rfl ?_; refine TR_pv0 (PV_fieldAddr rfl) rfl ?_; refine TR_load0 rfl 0 rfl rfl rfl ?_; refine TR_pv0 (PV_len rfl) rfl ?_; refine TR_pv0 (PV_lss rfl rfl) rfl ?_; refine TR_nil ?_)
            | (refine TC_plain (id := 41) (by kernel_rfl) ?_; all_goals refine TR_pv0 PV_move rfl ?_; all_goals refine TR_pv0 (PV_eql rfl rfl) rfl ?_; all_goals refine TR_pv0 PV_move rfl ?_; all_goals refine TR_pv0 PV_move rfl ?_; all_goals refine TR_pv0 (PV_nil rfl) rfl ?_; all_goals refine TR_pv0 (PV_fieldAddr rfl) rfl ?_; all_goals refine TR_load0 rfl 0 rfl rfl rfl ?_; all_goals refine TR_pv0 PV_move rfl ?_; all_goals refine TR_pv0 (PV_indexAddr hsl rfl (by omega)) rfl ?_; all_goals refine TR_pv0 (PV_fieldAddr rfl) rfl ?_; all_goals refine TR_load0 rfl 2 rfl c11 rfl ?_; all_goals refine TR_pv0 (PV_pick_t rfl) rfl ?_; all_goals refine TR_pv0 PV_move rfl ?_; all_goals refine TR_pv0 PV_move rfl ?_; all_goals refine TR_loadA0 rfl 7 rfl rfl rfl ?_; all_goals refine TR_pv0 PV_move rfl ?_; all_goals refine TR_calld2_0_1 (htd) rfl rfl rfl rfl ?_; all_goals refine TR_pv0 (PV_not rfl) rfl ?_; all_goals refine TR_pv0 (PV_pick_t rfl) rfl ?_; all_goals refine TR_nil ?_)
            | (refine TC_plain (id := 40) (by kernel_rfl) ?_; refine TR_pv0 PV_move rfl ?_; refine TR_pv0 (PV_add64 rfl rfl (by omega)) rfl ?_; refine TR_pv0 PV_assign rfl ?_; refine TR_nil ?_)
            | refine TC_cond_f rfl rfl ?_
            | refine TC_skip ?_
            | refine TC_block ?_
            | refine TQ_blk ?_
            | (refine TC_cond rfl rfl (fun hq => ?_) (fun hq => ?_) <;> (try simp only [qs] at hq) <;> (try simp only [reduceCtorEq] at hq) <;> (try (exfalso; omega)) <;> (try contradiction))
          exact TQ_roundP (k + 1) hlt (by show X.l.length - (k + 1) < mm; omega) ⟨rfl, rfl, rfl, rfl, rfl, rfl, rfl, trivial⟩ (fun w hs => hs.le (Le.of_eq (by rw [hC, hnx])))
        | false =>
          rw [htb] at htd hnx
          rw [if_pos (by simp)] at hnx
          repeat' first
            | refine TC_seq ?_
            | refine TQ_then ?_
            | (refine TC_plain (id := 39) (by kernel_rfl) ?_; refine TR_pv0 PV_move rfl ?_; refine TR_pv0 PV_move rfl ?_; refine TR_pv0 (PV_nil rfl) rfl ?_; refine TR_pv0 (PV_fieldAddr rfl) rfl ?_; refine TR_load0 rfl 0 rfl rfl rfl ?_; refine TR_pv0 (PV_len rfl) rfl ?_; refine TR_pv0 (PV_lss rfl rfl) rfl ?_; refine TR_nil ?_)
            | (refine TC_plain (id := 41) (by kernel_rfl) ?_; all_goals refine TR_pv0 PV_move rfl ?_; all_goals refine TR_pv0 (PV_eql rfl rfl) rfl ?_; all_goals refine TR_pv0 PV_move rfl ?_; all_goals refine TR_pv0 PV_move rfl ?_; all_goals refine TR_pv0 (PV_nil rfl) rfl ?_; all_goals refine TR_pv0 (PV_fieldAddr rfl) rfl ?_; all_goals refine TR_load0 rfl 0 rfl rfl rfl ?_; all_goals refine TR_pv0 PV_move rfl ?_; all_goals refine TR_pv0 (PV_indexAddr hsl rfl (by omega)) rfl ?_; all_goals refine TR_pv0 (PV_fieldAddr rfl) rfl ?_; all_goals refine TR_load0 rfl 2 rfl c11 rfl ?_; all_goals refine TR_pv0 (PV_pick_t rfl) rfl ?_; all_goals refine TR_pv0 PV_move rfl ?_; all_goals refine TR_pv0 PV_move rfl ?_; all_goals refine TR_loadA0 rfl 7 rfl rfl rfl ?_; all_goals refine TR_pv0 PV_move rfl ?_; all_goals refine TR_calld2_0_1 (htd) rfl rfl rfl rfl ?_; all_goals refine TR_pv0 (PV_not rfl) rfl ?_; all_goals refine TR_pv0 (PV_pick_t rfl) rfl ?_; all_goals refine TR_nil ?_)
            | (refine TC_plain (id := 42) (by kernel_rfl) ?_; refine TR_pv0 (PV_fieldAddr rfl) rfl ?_; refine TR_store0_6 rfl rfl rfl rfl rfl rfl ?_; refine TR_nil ?_)
            | (refine TC_plain (id := 40) (by kernel_rfl) ?_; refine TR_pv0 PV_move rfl ?_; refine TR_pv0 (PV_add64 rfl rfl (by omega)) rfl ?_; refine TR_pv0 PV_assign rfl ?_; refine TR_nil ?_)
            | refine TC_cond_t rfl rfl ?_
            | refine TC_skip ?_
            | refine TC_block ?_
            | refine TQ_blk ?_
            | (refine TC_cond rfl rfl (fun hq => ?_) (fun hq => ?_) <;> (try simp only [qs] at hq) <;> (try simp only [reduceCtorEq] at hq) <;> (try (exfalso; omega)) <;> (try contradiction))
          exact TQ_roundP (k + 1) hlt (by show X.l.length - (k + 1) < mm; omega) ⟨rfl, rfl, rfl, rfl, rfl, rfl, rfl, trivial⟩ (fun w hs => hs.le (Le.trans (M := Y.bk b :: H :: [(ro, .cells cells.toArray 111 (0, 0))] :: qsegs X.l :: blk lb 3 (four fun p => i64 (lowFrom X.recs 0 p)) :: blk hb 3 (four fun p => i64 ((X.abs.acks c gs).high p)) :: ttbk tb (toldCells 0 false T) :: sbk sb c rwnd (.slice ga gs.length gcap) dv :: ttbk rb (toldCells 0 false (fun _ => tp0)) :: R) (Le.refl _) (Le.of_eq (by rw [hC, hnx]))))
    · rw [decide_eq_false hn0, Bool.false_and, Bool.false_and, if_neg (by simp)] at hnx
      have hn0' : ¬ ((n : Nat) : Int) = 0 := by omega
      repeat' first
        | refine TC_seq ?_
        | refine TQ_then ?_
        | (refine TC_plain (id := 39) (by kernel_rfl) ?_; refine TR_pv0 PV_move rfl ?_; refine TR_pv0 PV_move rfl ?_; refine TR_pv0 (PV_nil rfl) rfl ?_; refine TR_pv0 (PV_fieldAddr rfl) rfl ?_; refine TR_load0 rfl 0 rfl rfl rfl ?_; refine TR_pv0 (PV_len rfl) rfl ?_; refine TR_pv0 (PV_lss rfl rfl) rfl ?_; refine TR_nil ?_)
        | (refine TC_plain (id := 41) (by kernel_rfl) ?_; all_goals refine TR_pv0 PV_move rfl ?_; all_goals refine TR_pv0 (PV_eql rfl rfl) rfl ?_; all_goals refine TR_pv0 PV_move rfl ?_; all_goals (refine TR_gsplit rfl rfl rfl (fun hq => ?_) (fun hq => ?_) <;> (try simp only [qs] at hq) <;> (try simp only [reduceCtorEq] at hq) <;> (try (exfalso; omega)) <;> (try contradiction) <;> refine TR_skip0 rfl ?_); all_goals refine TR_skip0 rfl ?_; all_goals refine TR_skip0 rfl ?_; all_goals refine TR_skip0 rfl ?_; all_goals refine TR_skip0 rfl ?_; all_goals refine TR_skip0 rfl ?_; all_goals refine TR_skip0 rfl ?_; all_goals refine TR_skip0 rfl ?_; all_goals refine TR_pv0 (PV_pick_f rfl) rfl ?_; all_goals refine TR_pv0 PV_move rfl ?_; all_goals refine TR_skip0 rfl ?_; all_goals refine TR_skip0 rfl ?_; all_goals refine TR_skip0 rfl ?_; all_goals refine TR_skip0 rfl ?_; all_goals refine TR_skip0 rfl ?_; all_goals refine TR_pv0 (PV_pick_f rfl) rfl ?_; all_goals refine TR_nil ?_)
        | (refine TC_plain (id := 40) (by kernel_rfl) ?_; refine TR_pv0 PV_move rfl ?_; refine TR_pv0 (PV_add64 rfl rfl (by omega)) rfl ?_; refine TR_pv0 PV_assign rfl ?_; refine TR_nil ?_)
        | refine TC_cond_f rfl rfl ?_
        | refine TC_skip ?_
        | refine TC_block ?_
        | refine TQ_blk ?_
        | (refine TC_cond rfl rfl (fun hq => ?_) (fun hq => ?_) <;> (try simp only [qs] at hq) <;> (try simp only [reduceCtorEq] at hq) <;> (try (exfalso; omega)) <;> (try contradiction))
      exact TQ_roundP (k + 1) hlt (by show X.l.length - (k + 1) < mm; omega) ⟨rfl, rfl, rfl, rfl, rfl, rfl, rfl, trivial⟩ (fun w hs => hs.le (Le.of_eq (by rw [hC, hnx])))
  obtain rfl : k = X.l.length := by omega
  rw [hwh]
  repeat' first
    | refine TC_seq ?_
    | refine TQ_then ?_
    | (refine TC_plain (id := 39) (by kernel_rfl) ?_; refine TR_pv0 PV_move rfl ?_; refine TR_pv0 PV_move rfl ?_; refine TR_pv0 (PV_nil rfl) rfl ?_; refine TR_pv0 (PV_fieldAddr rfl) rfl ?_; refine TR_load0 rfl 0 rfl rfl rfl ?_; refine TR_pv0 (PV_len rfl) rfl ?_; refine TR_pv0 (PV_lss rfl rfl) rfl ?_; refine TR_nil ?_)
    | (refine TC_plain (id := 43) (by kernel_rfl) ?_; refine TR_pv0 PV_assign rfl ?_; refine TR_nil ?_)
    | refine TC_exit ?_
    | refine TC_block ?_
    | refine TQ_then_exit ?_
    | refine TQ_blk_here ?_
    | (refine TC_cond rfl rfl (fun hq => ?_) (fun hq => ?_) <;> (try simp only [qs] at hq) <;> (try simp only [reduceCtorEq] at hq) <;> (try (exfalso; omega)) <;> (try contradiction))
  refine TC_loopP (X := Nat) (fun k => Y.bk b :: H :: Y.w.C :: qsegs X.l :: blk lb 3 (four fun p => i64 (lowFrom X.recs 0 p)) :: blk hb 3 (four fun p => i64 ((X.abs.acks c gs).high p)) :: ttbk tb (toldCells (sumIf (fun _ => true) (M.take k)) W T) :: sbk sb c rwnd (.slice ga gs.length gcap) dv :: ttbk rb (toldCells 0 false (fun _ => tp0)) :: R)
    (fun k => [(0, ptr b), (3, ptr sb), (4, ptr rb), (5, i64 0), (6, ptr tb), (14, i64 (n : Nat)), (16, i64 k)]) (fun k => k ≤ n) (fun k => n - k) 0 (Nat.zero_le _) ⟨rfl, rfl, rfl, rfl, rfl, rfl, rfl, trivial⟩ (fun w hs => hs) ?_
  rintro k σg mm hmm hk
  have hsum := hf.sum (fun _ => true) k
  rw [← hfreed] at hsum
  by_cases hlt : k < n
  · obtain ⟨x, hy, hxr⟩ := hY.at_ (k := k) (by rw [hMl]; omega)
    obtain ⟨ro, off, cells, ha, hC, hat⟩ := qat_of hY.ok.row (by omega)
    have hsl : Value.slice Y.w.a Y.l.length Y.w.cap = .slice (some ⟨ro, off, none⟩) Y.l.length Y.w.cap := by rw [ha]
    have c6 : cells[off + (k : Int).toNat * 15 + 0 + 6]? = some (x.w.val x.r.d.bytes.length) := hat.cell hy (j := 6) (by omega) rfl
    have hnx := sumIf_next (fun _ => true) hxr
    rw [if_pos rfl] at hnx
    have hsum2 := hf.sum (fun _ => true) (k + 1)
    rw [← hfreed, hnx] at hsum2
    refine TC_le (L' := Y.bk b :: H :: [(ro, .cells cells.toArray 111 (0, 0))] :: qsegs X.l :: blk lb 3 (four fun p => i64 (lowFrom X.recs 0 p)) :: blk hb 3 (four fun p => i64 ((X.abs.acks c gs).high p)) :: ttbk tb (toldCells (sumIf (fun _ => true) (M.take k)) W T) :: sbk sb c rwnd (.slice ga gs.length gcap) dv :: ttbk rb (toldCells 0 false (fun _ => tp0)) :: R) (Le.of_eq (by rw [hC])) ?_
    repeat' first
      | refine TC_seq ?_
      | refine TQ_then ?_
      | refine TQ_noPanic ?_
      | (refine TC_plain (id := 44) (by kernel_rfl) ?_; refine TR_pv0 PV_move rfl ?_; refine TR_pv0 PV_move rfl ?_; refine TR_pv0 (PV_lss rfl rfl) rfl ?_; refine TR_nil ?_)
      | (refine TC_drawn' (id := 46) [(0, 1), (1, 1), (2, 1), (3, 1), (4, 1), (5, 1), (6, 1), (7, 1), (8, 1), (9, 1), (10, 1), (11, 1), (12, 1), (13, 1), (14, 0)] mixed (by kernel_rfl) ?_; refine TR_pv1 (PV_fieldAddr rfl) rfl (fun _ h => h) ?_; refine TR_load1 rfl 6 rfl rfl rfl (fun _ h => h) ?_; refine TR_pv1 PV_move rfl (fun _ h => h) ?_; refine TR_pv1 (PV_nil rfl) rfl (fun _ h => h) ?_; refine TR_pv1 (PV_fieldAddr rfl) rfl (fun _ h => h) ?_; refine TR_load1 rfl 0 rfl rfl rfl (fun _ h => h) ?_; refine TR_pv1 PV_move rfl (fun _ h => h) ?_; refine TR_pv1 (PV_indexAddr hsl rfl (by omega)) rfl (fun _ h => h) ?_; refine TR_pv1 (PV_fieldAddr rfl) rfl (fun _ h => h) ?_; refine TR_pv1 (PV_fieldAddr rfl) rfl (fun _ h => h) ?_; refine TR_load1 rfl 2 rfl c6 rfl (fun _ h => h) ?_; refine TR_pv1 (PV_len rfl) rfl (fun _ h => h) ?_; refine TR_pv1 (PV_add64 rfl rfl (by omega)) rfl (fun _ h => h) ?_; refine TR_pv1 (PV_fieldAddr rfl) rfl (fun _ h => h) ?_; refine TR_store0_6 rfl rfl rfl rfl rfl rfl ?_; refine TR_nil ?_)
      | (refine TC_plain (id := 45) (by kernel_rfl) ?_; refine TR_pv0 PV_move rfl ?_; refine TR_pv0 (PV_add64 rfl rfl (by omega)) rfl ?_; refine TR_pv0 PV_assign rfl ?_; refine TR_nil ?_)
      | refine TC_skip ?_
      | refine TC_block ?_
      | refine TQ_blk ?_
      | (refine TC_cond rfl rfl (fun hq => ?_) (fun hq => ?_) <;> (try simp only [qs] at hq) <;> (try simp only [reduceCtorEq] at hq) <;> (try (exfalso; omega)) <;> (try contradiction))
    exact TQ_roundP (k + 1) hlt (by show n - (k + 1) < mm; omega) ⟨rfl, rfl, rfl, rfl, rfl, rfl, rfl, trivial⟩ (fun w hs => hs.le (Le.trans (M := Y.bk b :: H :: [(ro, .cells cells.toArray 111 (0, 0))] :: qsegs X.l :: blk lb 3 (four fun p => i64 (lowFrom X.recs 0 p)) :: blk hb 3 (four fun p => i64 ((X.abs.acks c gs).high p)) :: ttbk tb (toldCells (sumIf (fun _ => true) (M.take k) + x.r.d.bytes.length) W T) :: sbk sb c rwnd (.slice ga gs.length gcap) dv :: ttbk rb (toldCells 0 false (fun _ => tp0)) :: R) (Le.refl _) (Le.of_eq (by rw [hC, hnx]))))
  obtain rfl : k = n := by omega
  obtain ⟨C2, hD, hC2⟩ := hY.ok.row.drop (k := k) (by omega)
  have hqd : (qcells Y.l).drop (k * 15) = qcells (Y.l.drop k) := by
    rw [qcells, flat_drop (sz := 15) _ k (fun z hz => by obtain ⟨q, _, rfl⟩ := List.mem_map.1 hz; rfl), ← List.map_drop]; rfl
  rw [hqd] at hD
  have hdl : (Y.l.drop k).length = Y.l.length - k := List.length_drop
  have hsrc : ∀ (L : List Seg), L[3]? = some Y.w.C → ∀ w, sat w L → SrcAt w (cutAt Y.w.a Y.w.cap k 15) (qcells (Y.l.drop k)) := fun L hL w hw => by
    rcases hC2 with h' | h'
    · exact src_sl (C := C2) hD 3 (by rw [h']; exact hL) w hw
    · exact SrcAt.sl hD (by rw [h']; simp)
  have hone : (qcells (Y.l.drop k)).all one = true := by
    rw [List.all_eq_true]
    intro v hv
    obtain ⟨z, hz, hv⟩ := List.mem_flatten.1 hv
    obtain ⟨q, _, rfl⟩ := List.mem_map.1 hz
    have : q.cells.all one = true := rfl
    exact List.all_eq_true.1 this v hv
  have hMd : (⟨Y.l.drop k, ⟨none, 0, []⟩, c, Y.paths⟩ : QF).abs = ⟨M.drop k, c, X.paths⟩ := by
    simp only [QF.abs, QF.recs, hY.paths]
    rw [← hY.recs, QF.recs, List.map_drop]
  have hoks : ∀ z ∈ Y.l.drop k, z.ok := fun z hz => hY.ok.recs z (List.mem_of_mem_drop hz)
  have hsegs := hY.segs
  have hqs : qsegs Y.l = qsegs (Y.l.take k) ++ qsegs (Y.l.drop k) := by rw [← qsegs_append, List.take_append_drop]
  have htk : ((toldCells (sumIf (fun _ => true) (M.take k)) W T).drop 0).take 22 = toldCells (sumIf (fun _ => true) (M.take k)) W T := tk_told ⟨_, _, _⟩
  repeat' first
    | refine TC_seq ?_
    | refine TQ_then ?_
    | (refine TC_plain (id := 44) (by kernel_rfl) ?_; refine TR_pv0 PV_move rfl ?_; refine TR_pv0 PV_move rfl ?_; refine TR_pv0 (PV_lss rfl rfl) rfl ?_; refine TR_nil ?_)
    | refine TC_exit ?_
    | refine TQ_then_exit ?_
    | refine TQ_blk_here ?_
    | (refine TC_cond rfl rfl (fun hq => ?_) (fun hq => ?_) <;> (try simp only [qs] at hq) <;> (try simp only [reduceCtorEq] at hq) <;> (try (exfalso; omega)) <;> (try contradiction))
  refine TC_slots [(0, ptr b), (3, ptr sb), (4, ptr rb), (5, i64 0), (6, ptr tb), (14, i64 (k : Nat))] ⟨rfl, rfl, rfl, rfl, rfl, rfl, trivial⟩ fun σ6 => ?_
  have hsl2 : Value.slice Y.w.a Y.l.length Y.w.cap = .slice Y.w.a Y.l.length Y.w.cap := rfl
  repeat' first
    | refine TC_seq ?_
    | refine TQ_then ?_
    | (refine TC_plain (id := 47) (by kernel_rfl) ?_; refine TR_pv0 PV_move rfl ?_; (refine TR_buildSlice (.inl rfl) rfl rfl rfl rfl ?_; intro q); refine TR_pv0 PV_move rfl ?_; refine TR_pv0 (PV_nil rfl) rfl ?_; refine TR_pv0 (PV_fieldAddr rfl) rfl ?_; refine TR_load0 rfl 1 rfl rfl rfl ?_; refine TR_pv0 PV_move rfl ?_; refine TR_pv0 (PV_sliceL rfl rfl (by omega)) rfl ?_; (refine TR_append00 (.inl rfl) (empty_ok _ _ _) rfl rfl (.cons .here .nil) (hsrc _ rfl) (by rw [qcells_len, hdl]; rfl) hone (by omega) rfl ?_; intro a' cap' C' hS); refine TR_pv0 (PV_nil rfl) rfl ?_; refine TR_pv0 (PV_fieldAddr rfl) rfl ?_; refine TR_store0_1 rfl rfl rfl rfl rfl rfl ?_; refine TR_nil ?_)
  refine TC_slots [(0, ptr b), (3, ptr sb), (4, ptr rb), (6, ptr tb)] ⟨rfl, rfl, rfl, rfl, trivial⟩ fun σ7 => ?_
  have hS' : Sl 111 15 a' (Y.l.drop k).length cap' C' (qcells (Y.l.drop k)) := by rw [hdl]; exact hS
  have hev : Value.slice a' (Y.l.length - (k : Int).toNat) cap' = Value.slice a' (Y.l.drop k).length cap' := by rw [hdl]; rfl
  refine TC_le (L' := blk b 107 [Value.slice a' (Y.l.drop k).length cap', u32 Y.cum, i64 Y.paths] :: H :: ttbk tb (toldCells (sumIf (fun _ => true) (M.take k)) W T) :: sbk sb c rwnd (.slice ga gs.length gcap) dv :: ttbk rb (toldCells 0 false (fun _ => tp0)) :: C' :: qsegs (Y.l.drop k) :: R) (Le.trans (M := C' :: blk b 107 [Value.slice a' (Y.l.length - (k : Int).toNat) cap', u32 Y.cum, i64 Y.paths] :: H :: Y.w.C :: qsegs X.l :: blk lb 3 (four fun p => i64 (lowFrom X.recs 0 p)) :: blk hb 3 (four fun p => i64 ((X.abs.acks c gs).high p)) :: ttbk tb (toldCells (sumIf (fun _ => true) (M.take k)) W T) :: sbk sb c rwnd (.slice ga gs.length gcap) dv :: ttbk rb (toldCells 0 false (fun _ => tp0)) :: R) (Le.refl _) (fun a => by simp only [les, ← hsegs, hqs, hev]; omega)) ?_
  repeat' first
    | refine TC_seq ?_
    | refine TQ_then ?_
    | (refine TC_plain (id := 48) (by kernel_rfl) ?_; refine TR_pv0 PV_move rfl ?_; refine TR_pv0 (PV_fieldAddr rfl) rfl ?_; refine TR_load0 rfl 3 rfl rfl rfl ?_; refine TR_pv0 (PV_nil rfl) rfl ?_; refine TR_pv0 (PV_fieldAddr rfl) rfl ?_; refine TR_store0_0 rfl rfl rfl rfl rfl rfl ?_; refine TR_nil ?_)
    | (refine TC_plain (id := 49) (by kernel_rfl) ?_; refine TR_loadAM0 rfl (.head _) 2 rfl htk rfl rfl ?_; refine TR_storeA0_4 rfl rfl rfl rfl rfl rfl ?_; refine TR_pv0 PV_assign rfl ?_; refine TR_nil ?_)
    | refine TC_ret ?_
  refine TQ_le (L' := blk b 107 [Value.slice a' (Y.l.drop k).length cap', u32 c, i64 Y.paths] :: H :: ttbk tb (toldCells (sumIf (fun _ => true) (M.take k)) W T) :: sbk sb c rwnd (.slice ga gs.length gcap) dv :: ttbk rb (setAll (toldCells 0 false (fun _ => tp0)) 0 (toldCells (sumIf (fun _ => true) (M.take k)) W T)) :: C' :: qsegs (Y.l.drop k) :: R) (Le.refl _) ?_
  rw [show setAll (toldCells 0 false (fun _ => tp0)) 0 (toldCells (sumIf (fun _ => true) (M.take k)) W T) = toldCells (sumIf (fun _ => true) (M.take k)) W T from cp_told ⟨_, _, _⟩]
  exact TQ_retG rfl (.agg inferInstance rfl rfl 4 rfl rfl (.tmp rfl rfl .nil)) rfl ⟨rfl, ⟨Y.l.drop k, ⟨a', cap', C'⟩, c, Y.paths⟩, rfl, ⟨hS', hoks⟩, hMd⟩ (Le.trans (M := (blk b 107 [Value.slice a' (Y.l.drop k).length cap', u32 c, i64 Y.paths] ++ (C' ++ qsegs (Y.l.drop k))) :: H :: R) (fun a => by simp only [les]; omega) (Le.refl _))
end Go.Proofs.Ytonfkkdahlboiaa
