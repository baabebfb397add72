/- Sack: what is asked of the places that are told. -/
import Derived.Test.YtonfkkdahlboiaaFltE
namespace Go.Proofs.Ytonfkkdahlboiaa
open Go.RowKit
set_option maxHeartbeats 4000000
set_option maxRecDepth 10000

theorem mayG_spans {len base : Nat} : ∀ {gs : List (Int × Int)} {last : Int}, 0 ≤ last → mayG len base last gs = true → base + last ≤ len →
    (∀ g ∈ gs, 2 ≤ g.1 ∧ g.1 ≤ g.2 ∧ base + g.2 ≤ len) ∧ base + last + (gs.map fun g => g.2 - g.1 + 1).sum ≤ len
  | [], last, h0, _, hb => by simp; omega
  | (f, t) :: gs, last, h0, h, hb => by
    simp only [mayG, Bool.and_eq_true, decide_eq_true_eq, not_or, Int.not_lt] at h
    obtain ⟨⟨h1, h2, h3⟩, h4⟩ := h
    obtain ⟨i1, i2⟩ := mayG_spans (gs := gs) (last := t) (by omega) h4 h3
    refine ⟨fun g hg => ?_, ?_⟩
    · rcases List.mem_cons.1 hg with rfl | hg
      · exact ⟨by omega, h2, h3⟩
      · exact i1 g hg
    · simp only [List.map_cons, List.sum_cons]
      omega
theorem idxs_len_aux {base : Nat} : ∀ (gs : List (Int × Int)), (∀ g ∈ gs, 2 ≤ g.1 ∧ g.1 ≤ g.2) → ((idxsOf (gs.map fun g => (base + g.1.toNat - 1, base + g.2.toNat))).length : Int) = (gs.map fun g => g.2 - g.1 + 1).sum
  | [], _ => by simp [idxsOf]
  | g :: gs, h => by
    have ih := idxs_len_aux (base := base) gs fun x hx => h x (.tail _ hx)
    have hg := h g (.head _)
    simp only [idxsOf, List.map_cons, List.flatten_cons, List.length_append, List.length_range', List.sum_cons] at ih ⊢
    rw [Int.natCast_add, ih]
    omega
theorem may_facts {F : Flt} {c : Int} {gs : List (Int × Int)} (h : F.may c gs = true) :
    F.base c ≤ F.l.length ∧ (∀ s ∈ spansOf (F.base c) gs, s.1 ≤ s.2 ∧ s.2 ≤ F.l.length) ∧ (F.idxs c gs).length ≤ F.l.length := by
  simp only [Flt.may, Bool.and_eq_true, decide_eq_true_eq] at h
  obtain ⟨h1, h2⟩ := h
  obtain ⟨i1, i2⟩ := mayG_spans (by omega) h2 (by omega)
  refine ⟨h1, fun s hs => ?_, ?_⟩
  · rcases List.mem_cons.1 hs with rfl | hs
    · exact ⟨Nat.zero_le _, h1⟩
    · obtain ⟨g, hg, rfl⟩ := List.mem_map.1 hs
      have := i1 g hg
      dsimp only
      omega
  · have := idxs_len_aux (base := F.base c) gs fun g hg => ⟨(i1 g hg).1, (i1 g hg).2.1⟩
    rw [Flt.idxs, idxsOf, spansOf, List.map_cons, List.flatten_cons, List.length_append, List.length_range']
    simp only [idxsOf] at this
    omega

theorem acked_bound (low : Nat → Option Nat) : ∀ (is : List Nat) (s : SK) (m : Int), (∀ r ∈ s.l, r.d.bytes.length ≤ 1048576) → (∀ p, 0 ≤ (s.t p).acked ∧ (s.t p).acked ≤ m) →
    ∀ p, 0 ≤ ((is.foldl (ackStep low) s).t p).acked ∧ ((is.foldl (ackStep low) s).t p).acked ≤ m + 1048576 * is.length
  | [], s, m, _, h2, p => by simpa using h2 p
  | i :: is, s, m, h1, h2, p => by
    rw [List.foldl_cons, List.length_cons]
    have step : (∀ r ∈ (ackStep low s i).l, r.d.bytes.length ≤ 1048576) ∧ ∀ p, 0 ≤ ((ackStep low s i).t p).acked ∧ ((ackStep low s i).t p).acked ≤ m + 1048576 := by
      unfold ackStep
      cases hr : s.l[i]? with
      | none => exact ⟨h1, fun p => by have := h2 p; dsimp only; omega⟩
      | some r =>
        dsimp only
        split
        · exact ⟨h1, fun p => by have := h2 p; omega⟩
        · have hrl := h1 r (List.mem_of_getElem? hr)
          refine ⟨fun r' hr' => ?_, fun p => ?_⟩
          · obtain ⟨j, hj⟩ := List.getElem?_of_mem hr'
            simp only [List.getElem?_modify] at hj
            cases hx : s.l[j]? with
            | none => simp [hx] at hj
            | some y =>
              rw [hx] at hj
              have hy := h1 y (List.mem_of_getElem? hx)
              simp only [Option.map_eq_map, Option.map_some, Option.some.injEq] at hj
              subst hj
              split <;> exact hy
          · have hp := h2 p
            simp only [at4]
            split
            · subst_vars
              simp only [tkT]
              split <;> omega
            · omega
    have ih := acked_bound low is (ackStep low s i) (m + 1048576) step.1 step.2 p
    omega

theorem low_eq {X : FL} (hn : X.ptrs.Nodup) {i : Nat} {e : RL} (he : X.ptrs[i]? = some e.p) (p : Nat) : decide (X.low X.l.length p = some e.p) = decide (lowIdx X.recs p = some i) := by
  have e1 : X.recs.take X.l.length = X.recs := by rw [← recs_length, List.take_length]
  rw [FL.low, e1]
  cases hl : lowIdx X.recs p with
  | none => simp
  | some j =>
    simp only [Option.bind_some, Option.some.injEq]
    rw [Bool.eq_iff_iff]
    simp only [decide_eq_true_eq]
    constructor
    · intro h
      obtain ⟨hj, h1⟩ := List.getElem?_eq_some_iff.1 h
      obtain ⟨hi, h2⟩ := List.getElem?_eq_some_iff.1 he
      have hne := List.pairwise_iff_getElem.1 hn
      rcases Nat.lt_trichotomy j i with hji | hji | hji
      · exact absurd (h1.trans h2.symm) (hne j i hj hi hji)
      · exact hji
      · exact absurd (h2.trans h1.symm) (hne i j hi hj hji)
    · intro h; rw [h]; exact he
theorem ptrs_sub : ∀ (l : List RL), (l.map RL.p).Sublist ((rsegs l).map Prod.fst)
  | [] => .slnil
  | x :: l => by
    rw [rsegs_cons, RL.seg, List.map_append, List.map_append, List.map_cons]
    show ([x.p] ++ l.map RL.p).Sublist _
    rw [List.append_assoc]
    exact List.Sublist.append (List.Sublist.refl _) ((ptrs_sub l).trans (List.sublist_append_right _ _))
theorem nodup_ptrs {b : Nat} {X : FL} {L : List Seg} (h : ((X.seg b :: L).flatten.map Prod.fst).Nodup) : X.ptrs.Nodup := by
  refine List.Sublist.nodup ?_ h
  rw [List.flatten_cons, FL.seg, List.map_append, List.map_append, List.map_append]
  exact ((ptrs_sub X.l).trans (List.sublist_append_right _ _)).trans ((List.sublist_append_right _ _).trans (List.sublist_append_left _ _))

abbrev hbk (hb : Nat) (g : Nat → Int) : Seg := blk hb 72 (four fun p => i64 (g p))

/-- What is kept of a flight while its records are turned. -/
structure Kin (X Y : FL) : Prop where
  ok : FlOk Y
  ptrs : Y.ptrs = X.ptrs
  w : Y.w = X.w
  cum : Y.cum = X.cum
  paths : Y.paths = X.paths
theorem Kin.len {X Y : FL} (h : Kin X Y) : Y.l.length = X.l.length := by
  have := congrArg List.length h.ptrs
  simpa [FL.ptrs] using this
theorem Kin.put {X Y : FL} (h : Kin X Y) {k : Nat} {x : RL} (hx : Y.l[k]? = some x) {r : FRec} (hd : r.d = x.r.d) (hr : FRecOk r Y.paths) : Kin X (Y.put k x r) :=
  ⟨put_ok h.ok hx hd hr, (put_ptrs hx r).trans h.ptrs, h.w, h.cum, h.paths⟩
theorem ackR_ok {r : FRec} {paths : Int} (h : FRecOk r paths) : FRecOk (ackR r) paths := ⟨h.p0, h.p1, h.b0, h.b1, h.m0, h.m1, h.m2⟩

theorem takeT_cd (x : RL) (tb : Nat) (freed : Int) (whole : Bool) (t : Nat → Tp) (low : Option Nat) (S : Seg) (hp : 0 ≤ x.r.path ∧ x.r.path < 4) (hl : x.r.d.bytes.length ≤ 1048576)
    (ha : 0 ≤ (t x.r.path.toNat).acked ∧ (t x.r.path.toNat).acked ≤ 1099511627776) (hlow : ∀ q, low = some q → q = x.p ∨ ∃ (cs : List Value) (T : Nat), (q, Obj.cells cs.toArray T (0, 0)) ∈ S) :
    Cd Try.prog 44 [ptr x.p, .pointer (some ⟨tb, 0 + 2 + x.r.path.toNat * 5, none⟩), ptrO low] [x.bk, tblk tb (toldCells freed whole t), S] (.tuple #[])
      [RL.bk { x with r := ackR x.r }, tblk tb (toldCells freed whole (at4 t x.r.path.toNat (tkT x.r (decide (low = some x.p)) (t x.r.path.toNat)))), S] := by
  have hlt : x.r.path.toNat < 4 := by omega
  have h := take_cd x tb (toldPre freed whole t x.r.path.toNat) (toldPost t x.r.path.toNat) (t x.r.path.toNat) low S hl ha hlow
  rw [toldPre_length _ _ _ hlt, ← told_at _ _ _ hlt, ← told_at _ _ _ hlt, at4_same] at h
  exact h
theorem low_in {b : Nat} {X Y : FL} (hk : Kin X Y) {i : Nat} {e : RL} (he : Y.l[i]? = some e) (p : Nat) (S : Seg) :
    ∀ q, X.low X.l.length p = some q → q = e.p ∨ ∃ (cs : List Value) (T : Nat), (q, Obj.cells cs.toArray T (0, 0)) ∈ (Y.bk b ++ (Y.w.C ++ (rsegs (Y.l.take i) ++ (e.w.C ++ rsegs (Y.l.drop (i + 1)))))) ++ S := by
  intro q hq
  unfold FL.low at hq
  obtain ⟨j, hj, hq⟩ := Option.bind_eq_some_iff.1 hq
  rw [← hk.ptrs, FL.ptrs, List.getElem?_map] at hq
  obtain ⟨y, hy, rfl⟩ := Option.map_eq_some_iff.1 hq
  by_cases hji : j = i
  · subst hji
    rw [he] at hy
    obtain rfl := Option.some.inj hy
    exact .inl rfl
  · right
    refine ⟨y.r.cells y.bv, 90, ?_⟩
    have hm : ∀ l : List RL, y ∈ l → (y.p, Obj.cells (y.r.cells y.bv).toArray 90 (0, 0)) ∈ rsegs l := fun l hl => by
      rw [rsegs]
      exact List.mem_flatten.2 ⟨y.seg, List.mem_map.2 ⟨y, hl, rfl⟩, List.mem_append_left _ (.head _)⟩
    refine List.mem_append_left _ (List.mem_append_right _ (List.mem_append_right _ ?_))
    rcases Nat.lt_or_ge j i with h1 | h1
    · exact List.mem_append_left _ (hm _ (List.mem_of_getElem? (i := j) (by rw [List.getElem?_take, if_pos h1]; exact hy)))
    · refine List.mem_append_right _ (List.mem_append_right _ (hm _ (List.mem_of_getElem? (i := j - (i + 1)) ?_)))
      rw [List.getElem?_drop, show i + 1 + (j - (i + 1)) = j by omega]
      exact hy
end Go.Proofs.Ytonfkkdahlboiaa
