/- span. -/
import Derived.Test.YtonfkkdahlboiaaFltD
namespace Go.Proofs.Ytonfkkdahlboiaa
open Go.RowKit
set_option maxHeartbeats 4000000
set_option maxRecDepth 10000

theorem flat_drop {sz : Nat} : ∀ (xs : List (List Value)) (k : Nat), (∀ x ∈ xs, x.length = sz) → xs.flatten.drop (k * sz) = (xs.drop k).flatten
  | xs, 0, _ => by simp
  | [], k + 1, _ => by simp
  | x :: xs, k + 1, h => by
    have hx : x.length = sz := h x (.head _)
    rw [List.flatten_cons, List.drop_succ_cons, ← flat_drop xs k (fun y hy => h y (.tail _ hy)), List.drop_append, List.drop_eq_nil_of_le (by rw [hx, Nat.add_mul]; omega), List.nil_append]
    congr 1
    rw [hx, Nat.add_mul]; omega
/-- An element of a slice that is cut into its elements. -/
theorem flat_at {sz off : Nat} {cells : List Value} {xs : List (List Value)} (hs : ∀ x ∈ xs, x.length = sz) (h : (cells.drop off).take (xs.length * sz) = xs.flatten) {k : Nat} {x : List Value} (hx : xs[k]? = some x) :
    (cells.drop (off + k * sz)).take sz = x := by
  obtain ⟨hk, rfl⟩ := List.getElem?_eq_some_iff.1 hx
  have hle : (k + 1) * sz ≤ xs.length * sz := Nat.mul_le_mul_right _ hk
  have h1 : ((cells.drop off).take (xs.length * sz)).drop (k * sz) = (xs.drop k).flatten := by rw [h, flat_drop xs k hs]
  rw [List.drop_take, List.drop_drop] at h1
  have h2 : (cells.drop (off + k * sz)).take sz = ((cells.drop (off + k * sz)).take (xs.length * sz - k * sz)).take sz := by
    rw [List.take_take]; congr 1; rw [Nat.add_mul] at hle; omega
  rw [h2, h1, List.drop_eq_getElem_cons hk, List.flatten_cons]
  exact List.take_left' (hs _ (List.getElem_mem hk))

def gcells (gs : List (Int × Int)) : List Value := (gs.map fun g => [u16 g.1, u16 g.2]).flatten
def spcells (sp : List (Nat × Nat)) : List Value := (sp.map fun s => [i64 s.1, i64 s.2]).flatten
theorem spcells_snoc (sp : List (Nat × Nat)) (s : Nat × Nat) : spcells (sp ++ [s]) = spcells sp ++ [i64 s.1, i64 s.2] := by simp [spcells]
abbrev GapsOk (gs : List (Int × Int)) : Prop := ∀ g ∈ gs, 0 ≤ g.1 ∧ g.1 ≤ 65535 ∧ 0 ≤ g.2 ∧ g.2 ≤ 65535
abbrev grOk (gr : Row) (gs : List (Int × Int)) : Prop := gr.ok 44 2 gs.length (gcells gs)
abbrev spOk (row : Row) (sp : List (Nat × Nat)) : Prop := row.ok 101 2 sp.length (spcells sp)
abbrev sbox (b : Nat) (c rwnd : Int) (gr : Row) (n : Nat) (dv : Value) : Seg := blk b 48 [u32 c, u32 rwnd, gr.val n, dv]

theorem mayG_drop {len base : Int} : ∀ {gs : List (Int × Int)} {k : Nat} {g : Int × Int} {last : Int}, gs[k]? = some g → mayG len base last (gs.drop k) = (decide (¬ (g.1 < last + 2 ∨ g.2 < g.1 ∨ len < base + g.2)) && mayG len base g.2 (gs.drop (k + 1))) := by
  intro gs k g last h
  obtain ⟨hk, rfl⟩ := List.getElem?_eq_some_iff.1 h
  rw [List.drop_eq_getElem_cons hk]
  rfl

structure SpInv (X : FL) (base : Nat) (gs : List (Int × Int)) (k : Nat) (row : Row) (last : Int) : Prop where
  kn : k ≤ gs.length
  l0 : 0 ≤ last
  l1 : last ≤ 65535
  ok : mayG X.l.length base 0 gs = mayG X.l.length base last (gs.drop k)
  row : spOk row (spansOf base (gs.take k))

theorem span_ct (b : Nat) (X : FL) (h : FlOk X) (c rwnd : Int) (gs : List (Int × Int)) (gr : Row) (dv : Value) (hc : 0 ≤ c ∧ c ≤ 4294967295) (hgs : GapsOk gs) (hgr : grOk gr gs) (hgn : gs.length ≤ 1099511627776) :
    Ct Try.prog 42 [ptr b, .agg [u32 c, u32 rwnd, gr.val gs.length, dv].toArray] [X.seg b, gr.C]
      (fun v D => (X.abs.may c gs = true ∧ ∃ row : Row, v = .tuple #[row.val (gs.length + 1), .bool true] ∧ D = [row.C, X.seg b, gr.C] ∧ spOk row (spansOf (X.abs.base c) gs)) ∨
        (X.abs.may c gs = false ∧ v = .tuple #[.slice none 0 0, .bool false] ∧ D = [X.seg b, gr.C])) := by
  have hlen := h.len
  have hc0 := h.c0
  have hc1 := h.c1
  have hi := in_cd c X.cum X.l.length (by omega)
  have hd := ahead_cd X.cum c
  have hbase : ((X.abs.base c : Nat) : Int) = (c - X.cum) % 4294967296 := by show (((c - X.cum) % 4294967296).toNat : Int) = _; omega
  have hmay : X.abs.may c gs = (decide (X.abs.base c ≤ X.l.length) && mayG X.l.length (X.abs.base c) 0 gs) := by rw [Flt.may]; simp only [FL.abs, recs_length]; rfl
  generalize hB : X.abs.base c = base at hbase hmay ⊢
  rw [← hbase] at hd
  -- a whole walk from where it is known that the cumulative TSN may be
  by_cases hle : base ≤ X.l.length
  · have hS : serialIn c X.cum X.l.length = decide (c ≠ X.cum) := by
      unfold serialIn
      rw [← hbase]
      by_cases he : c = X.cum
      · rw [decide_eq_false (show ¬ (0 < (base : Int)) by subst he; omega), decide_eq_false (show ¬ (c ≠ X.cum) by simp [he])]; rfl
      · rw [decide_eq_true (show 0 < (base : Int) by omega), decide_eq_true (show 0 < (X.l.length : Int) by omega), decide_eq_true (show (base : Int) ≤ X.l.length by omega), decide_eq_true he]; rfl
    rw [hS] at hi
    rw [hmay, decide_eq_true hle, Bool.true_and]
    refine Ct_intro Try.func42 rfl (by simp only [Try.ntmps42, List.length_cons, List.length_nil]; omega) ?_
    intro w₀ R
    refine TC_le (L' := X.bk b :: (X.w.C ++ rsegs X.l) :: gr.C :: R) (fun a => by simp only [les, FL.seg]; omega) ?_
    repeat' first
      | refine TC_seq ?_
      | refine TQ_then ?_
      | refine TQ_noPanic ?_
      | (refine TC_plain (id := 0) (by kernel_rfl) ?_; (refine TR_box0 rfl rfl rfl ?_; intro sb); refine TR_pv0 PV_assign rfl ?_; refine TR_pv0 PV_assign rfl ?_; refine TR_nil ?_)
      | (refine TC_drawn' (id := 1) [(0, 1), (1, 1), (2, 1), (3, 1), (4, 1), (5, 1), (6, 1), (7, 1), (8, 1), (9, 1), (10, 1), (11, 1), (12, 1), (13, 1), (14, 1), (15, 1), (16, 1), (17, 1), (18, 1), (19, 0), (20, 0), (21, 0)] mixed (by kernel_rfl) ?_; all_goals refine TR_pv1 (PV_fieldAddr rfl) rfl (fun _ h => h) ?_; all_goals refine TR_load1 rfl 0 rfl rfl rfl (fun _ h => h) ?_; all_goals refine TR_pv1 PV_move rfl (fun _ h => h) ?_; all_goals refine TR_pv1 (PV_nil rfl) rfl (fun _ h => h) ?_; all_goals refine TR_pv1 (PV_fieldAddr rfl) rfl (fun _ h => h) ?_; all_goals refine TR_load1 rfl 1 rfl rfl rfl (fun _ h => h) ?_; all_goals refine TR_pv1 (PV_neq rfl rfl) rfl (fun _ h => h) ?_; all_goals refine TR_pv1 PV_move rfl (fun _ h => h) ?_; all_goals (refine TR_gsplit rfl rfl rfl (fun hq => ?_) (fun hq => ?_) <;> (try simp only [qs] at hq) <;> (try simp only [reduceCtorEq] at hq) <;> (try (exfalso; omega)) <;> (try contradiction) <;> (first | refine TR_pv1 (PV_fieldAddr rfl) rfl (fun _ h => h) ?_ | refine TR_skip1 rfl (fun _ h => h) ?_)); all_goals (first | refine TR_load1 rfl 0 rfl rfl rfl (fun _ h => h) ?_ | refine TR_skip1 rfl (fun _ h => h) ?_); all_goals (first | refine TR_pv1 PV_move rfl (fun _ h => h) ?_ | refine TR_skip1 rfl (fun _ h => h) ?_); all_goals (first | refine TR_pv1 (PV_nil rfl) rfl (fun _ h => h) ?_ | refine TR_skip1 rfl (fun _ h => h) ?_); all_goals (first | refine TR_pv1 (PV_fieldAddr rfl) rfl (fun _ h => h) ?_ | refine TR_skip1 rfl (fun _ h => h) ?_); all_goals (first | refine TR_load1 rfl 1 rfl rfl rfl (fun _ h => h) ?_ | refine TR_skip1 rfl (fun _ h => h) ?_); all_goals (first | refine TR_pv1 PV_move rfl (fun _ h => h) ?_ | refine TR_skip1 rfl (fun _ h => h) ?_); all_goals (first | refine TR_pv1 (PV_nil rfl) rfl (fun _ h => h) ?_ | refine TR_skip1 rfl (fun _ h => h) ?_); all_goals (first | refine TR_pv1 (PV_fieldAddr rfl) rfl (fun _ h => h) ?_ | refine TR_skip1 rfl (fun _ h => h) ?_); all_goals (first | refine TR_load1 rfl 1 rfl rfl rfl (fun _ h => h) ?_ | refine TR_skip1 rfl (fun _ h => h) ?_); all_goals (first | refine TR_pv1 (PV_len rfl) rfl (fun _ h => h) ?_ | refine TR_skip1 rfl (fun _ h => h) ?_); all_goals (first | refine TR_calld0 (hi) rfl rfl rfl rfl ?_ | refine TR_skip0 rfl ?_); all_goals (first | refine TR_pv0 (PV_not rfl) rfl ?_ | refine TR_skip0 rfl ?_); all_goals (first | refine TR_pv0 (PV_pick_t rfl) rfl ?_ | refine TR_pv0 (PV_pick_f rfl) rfl ?_); all_goals refine TR_nil ?_)
      | (refine TC_drawn' (id := 3) [(0, 1), (1, 1), (2, 1), (3, 1), (4, 1), (5, 1), (6, 0), (7, 0), (8, 0)] mixed (by kernel_rfl) ?_; refine TR_pv1 PV_move rfl (fun _ h => h) ?_; refine TR_pv1 (PV_nil rfl) rfl (fun _ h => h) ?_; refine TR_pv1 (PV_fieldAddr rfl) rfl (fun _ h => h) ?_; refine TR_load1 rfl 1 rfl rfl rfl (fun _ h => h) ?_; refine TR_pv1 (PV_fieldAddr rfl) rfl (fun _ h => h) ?_; refine TR_load1 rfl 0 rfl rfl rfl (fun _ h => h) ?_; refine TR_calld0 (hd) rfl rfl rfl rfl ?_; refine TR_pv0 (PV_conv64 rfl (by omega)) rfl ?_; refine TR_pv0 PV_assign rfl ?_; refine TR_nil ?_)
      | (refine TC_plain (id := 4) (by kernel_rfl) ?_; refine TR_pv0 PV_move rfl ?_; refine TR_pv0 (PV_buildA rfl rfl) rfl ?_; (refine TR_buildSlice (.inl rfl) rfl rfl rfl rfl ?_; intro q); refine TR_pv0 PV_assign rfl ?_; refine TR_nil ?_)
      | (refine TC_plain (id := 5) (by kernel_rfl) ?_; refine TR_pv0 PV_assign rfl ?_; refine TR_nil ?_)
      | (refine TC_plain (id := 6) (by kernel_rfl) ?_; refine TR_pv0 (PV_fieldAddr rfl) rfl ?_; refine TR_load0 rfl 1 rfl rfl rfl ?_; refine TR_pv0 (PV_len rfl) rfl ?_; refine TR_pv0 PV_move rfl ?_; refine TR_nil ?_)
      | refine TC_cond_f rfl rfl ?_
      | refine TC_skip ?_
      | refine TC_block ?_
      | (refine TC_cond rfl rfl (fun hq => ?_) (fun hq => ?_) <;> (try simp only [qs] at hq) <;> (try simp only [reduceCtorEq] at hq) <;> (try (exfalso; omega)) <;> (try contradiction))
    all_goals
      refine TC_le (L' := blk q 101 [i64 0, i64 base] :: sbox sb c rwnd gr gs.length dv :: X.bk b :: (X.w.C ++ rsegs X.l) :: gr.C :: R) (Le.refl _) ?_
      refine TC_loopP (X := Nat × Row × Int) (fun s => s.2.1.C :: sbox sb c rwnd gr gs.length dv :: X.bk b :: (X.w.C ++ rsegs X.l) :: gr.C :: R)
        (fun s => [(0, ptr b), (3, ptr sb), (6, i64 base), (7, s.2.1.val (s.1 + 1)), (8, i64 s.2.2), (47, gr.val gs.length), (48, i64 gs.length), (49, i64 s.1)]) (fun s => SpInv X base gs s.1 s.2.1 s.2.2)
        (fun s => gs.length - s.1) (0, ⟨some ⟨q, 0, none⟩, 1, [(q, .cells [i64 0, i64 base].toArray 101 (0, 0))]⟩, 0)
        ⟨Nat.zero_le _, by show (0 : Int) ≤ 0; omega, by show (0 : Int) ≤ 65535; omega, rfl, show Sl 101 2 (some ⟨q, 0, none⟩) 1 1 [(q, .cells [i64 0, i64 base].toArray 101 (0, 0))] [i64 0, i64 base] from .row rfl (Nat.le_refl _) (by unfold maxLen; omega) (by simp) rfl⟩ ⟨rfl, rfl, rfl, rfl, rfl, rfl, rfl, rfl, trivial⟩ (fun w hs => hs.le (Le.refl _)) ?_
      rintro ⟨k, row, last⟩ σg mm hmm hi2
      dsimp only at hmm hi2 ⊢
      have hkn := hi2.kn
      have hl0 := hi2.l0
      have hl1 := hi2.l1
      by_cases hlt : k < gs.length
      · obtain ⟨g, hg⟩ : ∃ g, gs[k]? = some g := ⟨gs[k], List.getElem?_eq_getElem hlt⟩
        obtain ⟨g1, g2, g3, g4⟩ := hgs g (List.mem_of_getElem? hg)
        obtain ⟨rb, off, cells, ha, hC, hl, ht⟩ := hgr.opened (by omega)
        have hsl : Value.slice gr.a gs.length gr.cap = .slice (some ⟨rb, off, none⟩) gs.length gr.cap := by rw [ha]
        have hgv : (cells.drop (off + (k : Int).toNat * 2)).take 2 = [u16 g.1, u16 g.2] := by
          rw [Int.toNat_natCast]
          refine flat_at (xs := gs.map fun g => [u16 g.1, u16 g.2]) (fun x hx => ?_) (by rw [List.length_map]; exact ht) (by rw [List.getElem?_map, hg]; rfl)
          obtain ⟨g', _, rfl⟩ := List.mem_map.1 hx; rfl
        have hgm : (rb, Obj.cells cells.toArray 44 (0, 0)) ∈ gr.C := by rw [hC]; exact .head _
        have hstep := mayG_drop (len := X.l.length) (base := base) (last := last) hg
        have hrow := hi2.row
        have hrl : (spansOf base (gs.take k)).length = k + 1 := by simp [spansOf, Nat.min_eq_left hkn]
        unfold spOk at hrow
        rw [hrl] at hrow
        by_cases hbad : g.1 < last + 2 ∨ g.2 < g.1 ∨ (X.l.length : Int) < base + g.2
        · have hno : mayG X.l.length base 0 gs = false := by rw [hi2.ok, hstep, decide_eq_false (fun h => h hbad)]; rfl
          rw [hno]
          repeat' first
            | refine TC_seq ?_
            | refine TQ_then ?_
            | refine TQ_noPanic ?_
            | (refine TC_plain (id := 7) (by kernel_rfl) ?_; refine TR_pv0 (PV_lss rfl rfl) rfl ?_; refine TR_nil ?_)
            | (refine TC_plain (id := 8) (by kernel_rfl) ?_; refine TR_pv0 (PV_indexAddr hsl rfl (by omega)) rfl ?_; refine TR_loadAM0 rfl hgm 4 rfl hgv rfl rfl ?_; (refine TR_alloc0 rfl ?_; intro _); refine TR_storeA0_0 rfl rfl rfl rfl rfl rfl ?_; refine TR_nil ?_)
            | (refine TC_drawn' (id := 9) [(0, 1), (1, 1), (2, 1), (3, 1), (4, 1), (5, 1), (6, 1), (7, 1)] mixed (by kernel_rfl) ?_; refine TR_pv1 (PV_fieldAddr rfl) rfl (fun _ h => h) ?_; refine TR_load1 rfl 0 rfl rfl rfl (fun _ h => h) ?_; refine TR_pv1 (PV_conv64 rfl (by omega)) rfl (fun _ h => h) ?_; refine TR_pv1 (PV_fieldAddr rfl) rfl (fun _ h => h) ?_; refine TR_load1 rfl 0 rfl rfl rfl (fun _ h => h) ?_; refine TR_pv1 (PV_conv64 rfl (by omega)) rfl (fun _ h => h) ?_; refine TR_pv1 PV_assign rfl (fun _ h => h) ?_; refine TR_pv1 PV_assign rfl (fun _ h => h) ?_; refine TR_nil ?_)
            | (refine TC_plain (id := 10) (by kernel_rfl) ?_; all_goals refine TR_pv0 PV_move rfl ?_; all_goals refine TR_pv0 PV_move rfl ?_; all_goals refine TR_pv0 (PV_add64 rfl rfl (by omega)) rfl ?_; all_goals refine TR_pv0 (PV_lss rfl rfl) rfl ?_; all_goals refine TR_pv0 PV_move rfl ?_; all_goals (refine TR_gsplit rfl rfl rfl (fun hq => ?_) (fun hq => ?_) <;> (try simp only [qs] at hq) <;> (try simp only [reduceCtorEq] at hq) <;> (try (exfalso; omega)) <;> (try contradiction) <;> (first | refine TR_pv0 PV_move rfl ?_ | refine TR_skip0 rfl ?_)); all_goals (first | refine TR_pv0 PV_move rfl ?_ | refine TR_skip0 rfl ?_); all_goals (first | refine TR_pv0 (PV_gtr rfl rfl) rfl ?_ | refine TR_skip0 rfl ?_); all_goals (first | refine TR_pv0 (PV_pick_t rfl) rfl ?_ | refine TR_pv0 (PV_pick_f rfl) rfl ?_); all_goals refine TR_pv0 PV_move rfl ?_; all_goals (first | refine TR_skip0 rfl ?_ | (refine TR_gsplit rfl rfl rfl (fun hq => ?_) (fun hq => ?_) <;> (try simp only [qs] at hq) <;> (try simp only [reduceCtorEq] at hq) <;> (try (exfalso; omega)) <;> (try contradiction) <;> (first | refine TR_pv0 PV_move rfl ?_ | refine TR_skip0 rfl ?_))); all_goals (first | refine TR_pv0 PV_move rfl ?_ | refine TR_skip0 rfl ?_); all_goals (first | refine TR_pv0 (PV_add64 rfl rfl (by omega)) rfl ?_ | refine TR_skip0 rfl ?_); all_goals (first | refine TR_pv0 PV_move rfl ?_ | refine TR_skip0 rfl ?_); all_goals (first | refine TR_pv0 (PV_nil rfl) rfl ?_ | refine TR_skip0 rfl ?_); all_goals (first | refine TR_pv0 (PV_fieldAddr rfl) rfl ?_ | refine TR_skip0 rfl ?_); all_goals (first | refine TR_load0 rfl 3 rfl rfl rfl ?_ | refine TR_skip0 rfl ?_); all_goals (first | refine TR_pv0 (PV_len rfl) rfl ?_ | refine TR_skip0 rfl ?_); all_goals (first | refine TR_pv0 (PV_gtr rfl rfl) rfl ?_ | refine TR_skip0 rfl ?_); all_goals (first | refine TR_pv0 (PV_pick_t rfl) rfl ?_ | refine TR_pv0 (PV_pick_f rfl) rfl ?_); all_goals refine TR_nil ?_)
            | (refine TC_plain (id := 11) (by kernel_rfl) ?_; refine TR_pv0 PV_assign rfl ?_; refine TR_pv0 PV_assign rfl ?_; refine TR_nil ?_)
            | refine TC_cond_t rfl rfl ?_
            | refine TC_skip ?_
            | refine TC_ret ?_
            | refine TC_block ?_
            | refine TQ_then_ret ?_
            | refine TQ_blk_ret ?_
            | (refine TC_cond rfl rfl (fun hq => ?_) (fun hq => ?_) <;> (try simp only [qs] at hq) <;> (try simp only [reduceCtorEq] at hq) <;> (try (exfalso; omega)) <;> (try contradiction))
          all_goals exact TQ_ret2e (C' := [X.seg b, gr.C]) rfl rfl rfl rfl rfl (.inr ⟨rfl, rfl, rfl⟩) (fun a => by simp only [les, FL.seg]; omega)
        · have hok : mayG X.l.length base 0 gs = mayG X.l.length base g.2 (gs.drop (k + 1)) := by rw [hi2.ok, hstep, decide_eq_true hbad, Bool.true_and]
          repeat' first
            | refine TC_seq ?_
            | refine TQ_then ?_
            | refine TQ_noPanic ?_
            | (refine TC_plain (id := 7) (by kernel_rfl) ?_; refine TR_pv0 (PV_lss rfl rfl) rfl ?_; refine TR_nil ?_)
            | (refine TC_plain (id := 8) (by kernel_rfl) ?_; refine TR_pv0 (PV_indexAddr hsl rfl (by omega)) rfl ?_; refine TR_loadAM0 rfl hgm 4 rfl hgv rfl rfl ?_; (refine TR_alloc0 rfl ?_; intro lg); refine TR_storeA0_0 rfl rfl rfl rfl rfl rfl ?_; refine TR_nil ?_)
            | (refine TC_drawn' (id := 9) [(0, 1), (1, 1), (2, 1), (3, 1), (4, 1), (5, 1), (6, 1), (7, 1)] mixed (by kernel_rfl) ?_; refine TR_pv1 (PV_fieldAddr rfl) rfl (fun _ h => h) ?_; refine TR_load1 rfl 0 rfl rfl rfl (fun _ h => h) ?_; refine TR_pv1 (PV_conv64 rfl (by omega)) rfl (fun _ h => h) ?_; refine TR_pv1 (PV_fieldAddr rfl) rfl (fun _ h => h) ?_; refine TR_load1 rfl 0 rfl rfl rfl (fun _ h => h) ?_; refine TR_pv1 (PV_conv64 rfl (by omega)) rfl (fun _ h => h) ?_; refine TR_pv1 PV_assign rfl (fun _ h => h) ?_; refine TR_pv1 PV_assign rfl (fun _ h => h) ?_; refine TR_nil ?_)
            | (refine TC_plain (id := 10) (by kernel_rfl) ?_; all_goals refine TR_pv0 PV_move rfl ?_; all_goals refine TR_pv0 PV_move rfl ?_; all_goals refine TR_pv0 (PV_add64 rfl rfl (by omega)) rfl ?_; all_goals refine TR_pv0 (PV_lss rfl rfl) rfl ?_; all_goals refine TR_pv0 PV_move rfl ?_; all_goals (refine TR_gsplit rfl rfl rfl (fun hq => ?_) (fun hq => ?_) <;> (try simp only [qs] at hq) <;> (try simp only [reduceCtorEq] at hq) <;> (try (exfalso; omega)) <;> (try contradiction) <;> refine TR_pv0 PV_move rfl ?_); all_goals refine TR_pv0 PV_move rfl ?_; all_goals refine TR_pv0 (PV_gtr rfl rfl) rfl ?_; all_goals refine TR_pv0 (PV_pick_f rfl) rfl ?_; all_goals refine TR_pv0 PV_move rfl ?_; all_goals (refine TR_gsplit rfl rfl rfl (fun hq => ?_) (fun hq => ?_) <;> (try simp only [qs] at hq) <;> (try simp only [reduceCtorEq] at hq) <;> (try (exfalso; omega)) <;> (try contradiction) <;> refine TR_pv0 PV_move rfl ?_); all_goals refine TR_pv0 PV_move rfl ?_; all_goals refine TR_pv0 (PV_add64 rfl rfl (by omega)) rfl ?_; all_goals refine TR_pv0 PV_move rfl ?_; all_goals refine TR_pv0 (PV_nil rfl) rfl ?_; all_goals refine TR_pv0 (PV_fieldAddr rfl) rfl ?_; all_goals refine TR_load0 rfl 3 rfl rfl rfl ?_; all_goals refine TR_pv0 (PV_len rfl) rfl ?_; all_goals refine TR_pv0 (PV_gtr rfl rfl) rfl ?_; all_goals refine TR_pv0 (PV_pick_f rfl) rfl ?_; all_goals refine TR_nil ?_)
            | (refine TC_plain (id := 12) (by kernel_rfl) ?_; refine TR_pv0 PV_move rfl ?_; refine TR_pv0 PV_move rfl ?_; refine TR_pv0 PV_move rfl ?_; refine TR_pv0 (PV_add64 rfl rfl (by omega)) rfl ?_; refine TR_pv0 (PV_sub64 rfl rfl (by omega)) rfl ?_; refine TR_pv0 PV_move rfl ?_; refine TR_pv0 PV_move rfl ?_; refine TR_pv0 (PV_add64 rfl rfl (by omega)) rfl ?_; refine TR_pv0 (PV_buildA rfl rfl) rfl ?_; (refine TR_buildSlice (.inl rfl) rfl rfl rfl rfl ?_; intro q2); (refine TR_appendP (.inl rfl) hrow rfl rfl (.cons (.there (.there .here)) .nil) (src_at (m := 2) 0 rfl rfl) rfl rfl (by omega) rfl ?_; intro a' cap' C' hS); refine TR_pv0 PV_move rfl ?_; refine TR_pv0 PV_assign rfl ?_; refine TR_pv0 PV_assign rfl ?_; refine TR_nil ?_)
            | (refine TC_plain (id := 13) (by kernel_rfl) ?_; refine TR_pv0 (PV_add64 rfl rfl (by omega)) rfl ?_; refine TR_pv0 PV_move rfl ?_; refine TR_nil ?_)
            | refine TC_skip ?_
            | refine TC_block ?_
            | refine TQ_blk ?_
            | (refine TC_cond rfl rfl (fun hq => ?_) (fun hq => ?_) <;> (try simp only [qs] at hq) <;> (try simp only [reduceCtorEq] at hq) <;> (try (exfalso; omega)) <;> (try contradiction))
          have e1 : spansOf base (gs.take (k + 1)) = spansOf base (gs.take k) ++ [(base + g.1.toNat - 1, base + g.2.toNat)] := by
            rw [take_next hg]; simp [spansOf]
          refine TQ_roundP (k + 1, ⟨a', cap', C'⟩, g.2) ⟨hlt, g3, g4, hok, ?_⟩ (by show gs.length - (k + 1) < mm; omega) ⟨rfl, rfl, rfl, rfl, rfl, rfl, rfl, rfl, trivial⟩ (fun w hs => ?_)
          · unfold spOk
            rw [e1, List.length_append, hrl, spcells_snoc]
            have hS2 : Sl 101 2 a' (k + 1 + 1) cap' C' (spcells (spansOf base (gs.take k)) ++ [i64 (base + g.1 - 1), i64 (base + g.2)]) := hS
            rw [show (base : Int) + g.1 - 1 = ((base + g.1.toNat - 1 : Nat) : Int) by omega, show (base : Int) + g.2 = ((base + g.2.toNat : Nat) : Int) by omega] at hS2
            exact hS2
          · have hs2 : St w₀ w (C' :: blk q2 101 [i64 (base + g.1 - 1), i64 (base + g.2)] :: blk lg 44 [u16 g.1, u16 g.2] :: sbox sb c rwnd gr gs.length dv :: X.bk b :: (X.w.C ++ rsegs X.l) :: gr.C :: R) := hs
            exact hs2.le (fun a => by simp only [les]; omega)
      · obtain rfl : k = gs.length := by omega
        have hall : mayG X.l.length base 0 gs = true := by rw [hi2.ok, List.drop_length]; rfl
        rw [hall]
        have hrow := hi2.row
        rw [List.take_length] at hrow
        repeat' first
          | refine TC_seq ?_
          | refine TQ_then ?_
          | (refine TC_plain (id := 7) (by kernel_rfl) ?_; refine TR_pv0 (PV_lss rfl rfl) rfl ?_; refine TR_nil ?_)
          | (refine TC_plain (id := 14) (by kernel_rfl) ?_; refine TR_pv0 PV_move rfl ?_; refine TR_pv0 PV_assign rfl ?_; refine TR_pv0 PV_assign rfl ?_; refine TR_nil ?_)
          | refine TC_ret ?_
          | refine TC_exit ?_
          | refine TQ_then_exit ?_
          | refine TQ_blk_here ?_
          | (refine TC_cond rfl rfl (fun hq => ?_) (fun hq => ?_) <;> (try simp only [qs] at hq) <;> (try simp only [reduceCtorEq] at hq) <;> (try (exfalso; omega)) <;> (try contradiction))
        exact TQ_ret2e (C' := [row.C, X.seg b, gr.C]) (v := row.val (gs.length + 1)) rfl rfl rfl rfl rfl (.inl ⟨rfl, row, rfl, rfl, hrow⟩) (fun a => by simp only [les, FL.seg]; omega)
  · have hS : serialIn c X.cum X.l.length = false := by
      unfold serialIn
      rw [← hbase, decide_eq_false (show ¬ ((base : Int) ≤ X.l.length) by omega), Bool.and_false]
    rw [hS] at hi
    rw [hmay, decide_eq_false hle, Bool.false_and]
    have hne : ¬ c = X.cum := fun he => by subst he; simp at hbase; omega
    refine Ct_intro Try.func42 rfl (by simp only [Try.ntmps42, List.length_cons, List.length_nil]; omega) ?_
    intro w₀ R
    refine TC_le (L' := X.bk b :: (X.w.C ++ rsegs X.l) :: gr.C :: R) (fun a => by simp only [les, FL.seg]; omega) ?_
    repeat' first
      | refine TC_seq ?_
      | refine TQ_then ?_
      | refine TQ_noPanic ?_
      | (refine TC_plain (id := 0) (by kernel_rfl) ?_; (refine TR_box0 rfl rfl rfl ?_; intro _); refine TR_pv0 PV_assign rfl ?_; refine TR_pv0 PV_assign rfl ?_; refine TR_nil ?_)
      | (refine TC_drawn' (id := 1) [(0, 1), (1, 1), (2, 1), (3, 1), (4, 1), (5, 1), (6, 1), (7, 1), (8, 1), (9, 1), (10, 1), (11, 1), (12, 1), (13, 1), (14, 1), (15, 1), (16, 1), (17, 1), (18, 1), (19, 0), (20, 0), (21, 0)] mixed (by kernel_rfl) ?_; all_goals refine TR_pv1 (PV_fieldAddr rfl) rfl (fun _ h => h) ?_; all_goals refine TR_load1 rfl 0 rfl rfl rfl (fun _ h => h) ?_; all_goals refine TR_pv1 PV_move rfl (fun _ h => h) ?_; all_goals refine TR_pv1 (PV_nil rfl) rfl (fun _ h => h) ?_; all_goals refine TR_pv1 (PV_fieldAddr rfl) rfl (fun _ h => h) ?_; all_goals refine TR_load1 rfl 1 rfl rfl rfl (fun _ h => h) ?_; all_goals refine TR_pv1 (PV_neq rfl rfl) rfl (fun _ h => h) ?_; all_goals refine TR_pv1 PV_move rfl (fun _ h => h) ?_; all_goals (refine TR_gsplit rfl rfl rfl (fun hq => ?_) (fun hq => ?_) <;> (try simp only [qs] at hq) <;> (try simp only [reduceCtorEq] at hq) <;> (try (exfalso; omega)) <;> (try contradiction) <;> refine TR_pv1 (PV_fieldAddr rfl) rfl (fun _ h => h) ?_); all_goals refine TR_load1 rfl 0 rfl rfl rfl (fun _ h => h) ?_; all_goals refine TR_pv1 PV_move rfl (fun _ h => h) ?_; all_goals refine TR_pv1 (PV_nil rfl) rfl (fun _ h => h) ?_; all_goals refine TR_pv1 (PV_fieldAddr rfl) rfl (fun _ h => h) ?_; all_goals refine TR_load1 rfl 1 rfl rfl rfl (fun _ h => h) ?_; all_goals refine TR_pv1 PV_move rfl (fun _ h => h) ?_; all_goals refine TR_pv1 (PV_nil rfl) rfl (fun _ h => h) ?_; all_goals refine TR_pv1 (PV_fieldAddr rfl) rfl (fun _ h => h) ?_; all_goals refine TR_load1 rfl 1 rfl rfl rfl (fun _ h => h) ?_; all_goals refine TR_pv1 (PV_len rfl) rfl (fun _ h => h) ?_; all_goals refine TR_calld0 (hi) rfl rfl rfl rfl ?_; all_goals refine TR_pv0 (PV_not rfl) rfl ?_; all_goals refine TR_pv0 (PV_pick_t rfl) rfl ?_; all_goals refine TR_nil ?_)
      | (refine TC_plain (id := 2) (by kernel_rfl) ?_; refine TR_pv0 PV_assign rfl ?_; refine TR_pv0 PV_assign rfl ?_; refine TR_nil ?_)
      | refine TC_cond_t rfl rfl ?_
      | refine TC_ret ?_
      | refine TQ_then_ret ?_
    exact TQ_ret2e (C' := [X.seg b, gr.C]) rfl rfl rfl rfl rfl (.inr ⟨rfl, rfl, rfl⟩) (fun a => by simp only [les, FL.seg]; omega)
theorem span_no (b : Nat) (X : FL) (h : FlOk X) (c rwnd : Int) (gs : List (Int × Int)) (gr : Row) (dv : Value) (hc : 0 ≤ c ∧ c ≤ 4294967295) (hgs : GapsOk gs) (hgr : grOk gr gs) (hgn : gs.length ≤ 1099511627776) (hm : X.abs.may c gs = false) :
    Cd Try.prog 42 [ptr b, .agg [u32 c, u32 rwnd, gr.val gs.length, dv].toArray] [X.seg b, gr.C] (.tuple #[.slice none 0 0, .bool false]) [X.seg b, gr.C] :=
  Ct.post (span_ct b X h c rwnd gs gr dv hc hgs hgr hgn) fun v D hv => by
    rcases hv with ⟨h', _⟩ | ⟨_, h1, h2⟩
    · rw [hm] at h'; cases h'
    · exact ⟨D, ⟨h1, h2⟩, fun _ _ hs => hs⟩
theorem span_yes (b : Nat) (X : FL) (h : FlOk X) (c rwnd : Int) (gs : List (Int × Int)) (gr : Row) (dv : Value) (hc : 0 ≤ c ∧ c ≤ 4294967295) (hgs : GapsOk gs) (hgr : grOk gr gs) (hgn : gs.length ≤ 1099511627776) (hm : X.abs.may c gs = true) :
    Ct Try.prog 42 [ptr b, .agg [u32 c, u32 rwnd, gr.val gs.length, dv].toArray] [X.seg b, gr.C]
      (fun v D => ∃ row : Row, v = .tuple #[row.val (gs.length + 1), .bool true] ∧ D = [row.C, X.seg b, gr.C] ∧ spOk row (spansOf (X.abs.base c) gs)) :=
  Ct.post (span_ct b X h c rwnd gs gr dv hc hgs hgr hgn) fun v D hv => by
    rcases hv with ⟨_, hv⟩ | ⟨h', _, _⟩
    · exact ⟨D, hv, fun _ _ hs => hs⟩
    · rw [hm] at h'; cases h'
end Go.Proofs.Ytonfkkdahlboiaa
