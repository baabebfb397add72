/- The flight of the reference: may an acknowledgement be, what does it tell of. -/
import Derived.Test.YtonfkkdahlboiaaRfD
import Derived.Test.YtonfkkdahlboiaaRfQ
namespace Go.Proofs.Ytonfkkdahlboiaa
open Go.RowKit
set_option maxHeartbeats 4000000
set_option maxRecDepth 10000

abbrev scells (c rwnd : Int) (gv dv : Value) : List Value := [u32 c, u32 rwnd, gv, dv]
abbrev sbk (b : Nat) (c rwnd : Int) (gv dv : Value) : Seg := blk b 48 (scells c rwnd gv dv)
abbrev gapL (gs : List (Int × Int)) : List (List Value) := gs.map fun g => [u16 g.1, u16 g.2]

theorem qmay_cd (b : Nat) (X : QF) (hf : FrOk X.abs) (c rwnd : Int) (gs : List (Int × Int)) (ga : Option Addr) (gcap : Nat) (dv : Value) (H : Seg) (hc : 0 ≤ c ∧ c ≤ 4294967295) (hgs : GapsOk gs) (hs : SliceAt H 2 ga gs.length (gapL gs)) (hgn : gs.length ≤ 1099511627776) :
    Cd Try.prog 64 [ptr b, .agg (scells c rwnd (.slice ga gs.length gcap) dv).toArray] [X.bk b, H] (.bool (X.abs.may c gs)) [X.bk b, H] := by
  have hlen := QfOk.len hf
  have hm : X.abs.may c gs = (decide (X.abs.base c ≤ X.l.length) && mayG X.l.length (X.abs.base c) 0 gs) := by
    rw [Flt.may, show X.abs.l.length = X.l.length from qrecs_length X]
  have hbase : ((X.abs.base c : Nat) : Int) = (c - X.cum) % 4294967296 := by show ((((c - X.cum) % 4294967296).toNat : Nat) : Int) = _; omega
  rw [hm]
  generalize X.abs.base c = base at hbase ⊢
  refine Ct_intro Try.func64 rfl (by simp only [Try.ntmps64, List.length_cons, List.length_nil]; omega) ?_
  intro w₀ R
  refine TC_le (L' := X.bk b :: H :: R) (fun a => by simp only [les]; omega) ?_
  by_cases hb : base ≤ X.l.length
  · rw [decide_eq_true hb, Bool.true_and]
    repeat' first
      | refine TC_seq ?_
      | refine TQ_then ?_
      | refine TQ_noPanic ?_
      | (refine TC_plain (id := 0) (by kernel_rfl) ?_; (refine TR_box0 rfl rfl rfl ?_; intro sb); refine TR_pv0 PV_assign rfl ?_; refine TR_nil ?_)
      | (refine TC_drawn' (id := 1) [(0, 1), (1, 1), (2, 1), (3, 1), (4, 1), (5, 1), (6, 1), (7, 1)] mixed (by kernel_rfl) ?_; refine TR_pv1 (PV_fieldAddr rfl) rfl (fun _ h => h) ?_; refine TR_load1 rfl 0 rfl rfl rfl (fun _ h => h) ?_; refine TR_pv1 PV_move rfl (fun _ h => h) ?_; refine TR_pv1 (PV_nil rfl) rfl (fun _ h => h) ?_; refine TR_pv1 (PV_fieldAddr rfl) rfl (fun _ h => h) ?_; refine TR_load1 rfl 1 rfl rfl rfl (fun _ h => h) ?_; refine TR_pv1 (PV_sub32 rfl rfl) rfl (fun _ h => h) ?_; refine TR_pv1 PV_assign rfl (fun _ h => h) ?_; refine TR_nil ?_)
      | (refine TC_plain (id := 2) (by kernel_rfl) ?_; refine TR_pv0 PV_move rfl ?_; refine TR_pv0 PV_move rfl ?_; refine TR_pv0 (PV_nil rfl) rfl ?_; refine TR_pv0 (PV_fieldAddr rfl) rfl ?_; refine TR_load0 rfl 1 rfl rfl rfl ?_; refine TR_pv0 (PV_len rfl) rfl ?_; refine TR_pv0 (PV_conv32 rfl) rfl ?_; refine TR_pv0 (PV_gtr rfl rfl) rfl ?_; refine TR_nil ?_)
      | (refine TC_plain (id := 4) (by kernel_rfl) ?_; refine TR_pv0 PV_assign rfl ?_; refine TR_nil ?_)
      | (refine TC_plain (id := 5) (by kernel_rfl) ?_; refine TR_pv0 PV_assign rfl ?_; refine TR_nil ?_)
      | refine TC_skip ?_
      | refine TC_block ?_
      | (refine TC_cond rfl rfl (fun hq => ?_) (fun hq => ?_) <;> (try simp only [qs] at hq) <;> (try simp only [reduceCtorEq] at hq) <;> (try (exfalso; omega)) <;> (try contradiction))
    refine TC_slots [(0, ptr b), (3, ptr sb), (5, u32 base), (6, i64 0), (7, i64 0)] ⟨rfl, rfl, by show u32 ((c - X.cum) % 4294967296) = _; rw [hbase], rfl, rfl, trivial⟩ fun σ' => ?_
    refine TC_loopP (X := Nat × Int) (fun _ => sbk sb c rwnd (.slice ga gs.length gcap) dv :: X.bk b :: H :: R) (fun s => [(0, ptr b), (3, ptr sb), (5, u32 base), (6, i64 s.2), (7, i64 s.1)])
      (fun s => s.1 ≤ gs.length ∧ 0 ≤ s.2 ∧ s.2 ≤ 65535 ∧ (s.1 = 0 → s.2 = 0) ∧ mayG X.l.length base s.2 (gs.drop s.1) = mayG X.l.length base 0 gs) (fun s => gs.length - s.1) (0, 0) ⟨Nat.zero_le _, Int.le_refl _, by omega, fun _ => rfl, rfl⟩ ⟨rfl, rfl, rfl, rfl, rfl, trivial⟩ (fun w hs => hs) ?_
    rintro ⟨k, last⟩ σg mm hmm ⟨hk, h0, h1, hz, hm⟩
    dsimp only at hmm hk h0 h1 hz hm ⊢
    by_cases hlt : k < gs.length
    · obtain ⟨g, hg⟩ : ∃ g, gs[k]? = some g := ⟨_, List.getElem?_eq_getElem hlt⟩
      obtain ⟨g0, g1, g2, g3⟩ := hgs g (List.mem_of_getElem? hg)
      obtain ⟨gb, off, T, cs, fz, ha, hmem, htk⟩ := hs.at_ k [u16 g.1, u16 g.2] (by rw [List.getElem?_map, hg]; rfl)
      have hk0 : cs[off + (k : Int).toNat * 2 + 0]? = some (u16 g.1) := take_at htk (j := 0) (by omega)
      have hk1 : cs[off + (k : Int).toNat * 2 + 1]? = some (u16 g.2) := take_at htk (j := 1) (by omega)
      have hsl : Value.slice ga gs.length gcap = .slice (some ⟨gb, off, none⟩) gs.length gcap := by rw [ha]
      rw [mayG_drop hg] at hm
      by_cases hbad : g.1 < last + 2 ∨ g.2 < g.1 ∨ (X.l.length : Int) < base + g.2
      · rw [decide_eq_false (not_not_intro hbad), Bool.false_and] at hm
        rw [← hm]
        have hz' : k = 0 → last = 0 := hz
        repeat' first
          | refine TC_seq ?_
          | refine TQ_then ?_
          | (refine TC_plain (id := 6) (by kernel_rfl) ?_; refine TR_pv0 PV_move rfl ?_; refine TR_pv0 (PV_fieldAddr rfl) rfl ?_; refine TR_load0 rfl 0 rfl rfl rfl ?_; refine TR_pv0 (PV_len rfl) rfl ?_; refine TR_pv0 (PV_lss rfl rfl) rfl ?_; refine TR_nil ?_)
          | (refine TC_plain (id := 8) (by kernel_rfl) ?_; refine TR_pv0 (PV_fieldAddr rfl) rfl ?_; refine TR_load0 rfl 0 rfl rfl rfl ?_; refine TR_pv0 PV_move rfl ?_; refine TR_pv0 (PV_indexAddr hsl rfl (by omega)) rfl ?_; refine TR_pv0 (PV_fieldAddr rfl) rfl ?_; refine TR_loadM0 rfl hmem 2 rfl hk0 rfl ?_; refine TR_pv0 (PV_conv64 rfl (by omega)) rfl ?_; refine TR_pv0 PV_assign rfl ?_; refine TR_nil ?_)
          | (refine TC_plain (id := 9) (by kernel_rfl) ?_; refine TR_pv0 (PV_fieldAddr rfl) rfl ?_; refine TR_load0 rfl 0 rfl rfl rfl ?_; refine TR_pv0 PV_move rfl ?_; refine TR_pv0 (PV_indexAddr hsl rfl (by omega)) rfl ?_; refine TR_pv0 (PV_fieldAddr rfl) rfl ?_; refine TR_loadM0 rfl hmem 2 rfl hk1 rfl ?_; refine TR_pv0 (PV_conv64 rfl (by omega)) rfl ?_; refine TR_pv0 PV_assign rfl ?_; refine TR_nil ?_)
          | (refine TC_plain (id := 10) (by kernel_rfl) ?_; all_goals refine TR_pv0 PV_move rfl ?_; all_goals refine TR_pv0 (PV_lss rfl rfl) rfl ?_; all_goals refine TR_pv0 PV_move rfl ?_; all_goals (refine TR_gsplit rfl rfl rfl (fun hq => ?_) (fun hq => ?_) <;> (try simp only [qs] at hq) <;> (try simp only [reduceCtorEq] at hq) <;> (try (exfalso; omega)) <;> (try contradiction) <;> (first | refine TR_pv0 PV_move rfl ?_ | refine TR_skip0 rfl ?_)); all_goals (first | refine TR_pv0 PV_move rfl ?_ | refine TR_skip0 rfl ?_); all_goals (first | refine TR_pv0 (PV_add64 rfl rfl (by omega)) rfl ?_ | refine TR_skip0 rfl ?_); all_goals (first | refine TR_pv0 (PV_lss rfl rfl) rfl ?_ | refine TR_skip0 rfl ?_); all_goals (first | refine TR_pv0 PV_move rfl ?_ | refine TR_skip0 rfl ?_); all_goals (first | refine TR_skip0 rfl ?_ | (refine TR_gsplit rfl rfl rfl (fun hq => ?_) (fun hq => ?_) <;> (try simp only [qs] at hq) <;> (try simp only [reduceCtorEq] at hq) <;> (try (exfalso; omega)) <;> (try contradiction) <;> (first | refine TR_pv0 PV_move rfl ?_ | refine TR_skip0 rfl ?_))); all_goals (first | refine TR_pv0 (PV_gtr rfl rfl) rfl ?_ | refine TR_skip0 rfl ?_); all_goals (first | refine TR_pv0 (PV_pick_t rfl) rfl ?_ | refine TR_pv0 (PV_pick_f rfl) rfl ?_ | refine TR_skip0 rfl ?_); all_goals (first | refine TR_pv0 (PV_pick_t rfl) rfl ?_ | refine TR_pv0 (PV_pick_f rfl) rfl ?_); all_goals refine TR_pv0 PV_move rfl ?_; all_goals (first | refine TR_pv0 PV_move rfl ?_ | refine TR_skip0 rfl ?_ | (refine TR_gsplit rfl rfl rfl (fun hq => ?_) (fun hq => ?_) <;> (try simp only [qs] at hq) <;> (try simp only [reduceCtorEq] at hq) <;> (try (exfalso; omega)) <;> (try contradiction) <;> refine TR_skip0 rfl ?_)); all_goals (first | refine TR_pv0 PV_move rfl ?_ | refine TR_skip0 rfl ?_); all_goals (first | refine TR_pv0 (PV_gtr rfl rfl) rfl ?_ | refine TR_skip0 rfl ?_); all_goals (first | refine TR_pv0 (PV_pick_t rfl) rfl ?_ | refine TR_pv0 (PV_pick_f rfl) rfl ?_); all_goals refine TR_pv0 PV_move rfl ?_; all_goals (first | refine TR_skip0 rfl ?_ | (refine TR_gsplit rfl rfl rfl (fun hq => ?_) (fun hq => ?_) <;> (try simp only [qs] at hq) <;> (try simp only [reduceCtorEq] at hq) <;> (try (exfalso; omega)) <;> (try contradiction) <;> (first | refine TR_pv0 PV_move rfl ?_ | refine TR_skip0 rfl ?_))); all_goals (first | refine TR_pv0 (PV_conv64 rfl (by omega)) rfl ?_ | refine TR_skip0 rfl ?_); all_goals (first | refine TR_pv0 PV_move rfl ?_ | refine TR_skip0 rfl ?_); all_goals (first | refine TR_pv0 (PV_add64 rfl rfl (by omega)) rfl ?_ | refine TR_skip0 rfl ?_); all_goals (first | refine TR_pv0 PV_move rfl ?_ | refine TR_skip0 rfl ?_); all_goals (first | refine TR_pv0 (PV_nil rfl) rfl ?_ | refine TR_skip0 rfl ?_); all_goals (first | refine TR_pv0 (PV_fieldAddr rfl) rfl ?_ | refine TR_skip0 rfl ?_); all_goals (first | refine TR_load0 rfl 1 rfl rfl rfl ?_ | refine TR_skip0 rfl ?_); all_goals (first | refine TR_pv0 (PV_len rfl) rfl ?_ | refine TR_skip0 rfl ?_); all_goals (first | refine TR_pv0 (PV_gtr rfl rfl) rfl ?_ | refine TR_skip0 rfl ?_); all_goals (first | refine TR_pv0 (PV_pick_t rfl) rfl ?_ | refine TR_pv0 (PV_pick_f rfl) rfl ?_); all_goals refine TR_nil ?_)
          | (refine TC_plain (id := 11) (by kernel_rfl) ?_; refine TR_pv0 PV_assign rfl ?_; refine TR_nil ?_)
          | refine TC_cond_t rfl rfl ?_
          | refine TC_skip ?_
          | refine TC_ret ?_
          | refine TC_block ?_
          | refine TQ_then_ret ?_
          | refine TQ_blk_ret ?_
          | (refine TC_cond rfl rfl (fun hq => ?_) (fun hq => ?_) <;> (try simp only [qs] at hq) <;> (try simp only [reduceCtorEq] at hq) <;> (try (exfalso; omega)) <;> (try contradiction))
        all_goals exact TQ_ret1e (v := .bool false) rfl rfl rfl ⟨rfl, rfl⟩ (fun a => by simp only [les]; omega)
      · rw [decide_eq_true hbad, Bool.true_and] at hm
        repeat' first
          | refine TC_seq ?_
          | refine TQ_then ?_
          | (refine TC_plain (id := 6) (by kernel_rfl) ?_; refine TR_pv0 PV_move rfl ?_; refine TR_pv0 (PV_fieldAddr rfl) rfl ?_; refine TR_load0 rfl 0 rfl rfl rfl ?_; refine TR_pv0 (PV_len rfl) rfl ?_; refine TR_pv0 (PV_lss rfl rfl) rfl ?_; refine TR_nil ?_)
          | (refine TC_plain (id := 8) (by kernel_rfl) ?_; refine TR_pv0 (PV_fieldAddr rfl) rfl ?_; refine TR_load0 rfl 0 rfl rfl rfl ?_; refine TR_pv0 PV_move rfl ?_; refine TR_pv0 (PV_indexAddr hsl rfl (by omega)) rfl ?_; refine TR_pv0 (PV_fieldAddr rfl) rfl ?_; refine TR_loadM0 rfl hmem 2 rfl hk0 rfl ?_; refine TR_pv0 (PV_conv64 rfl (by omega)) rfl ?_; refine TR_pv0 PV_assign rfl ?_; refine TR_nil ?_)
          | (refine TC_plain (id := 9) (by kernel_rfl) ?_; refine TR_pv0 (PV_fieldAddr rfl) rfl ?_; refine TR_load0 rfl 0 rfl rfl rfl ?_; refine TR_pv0 PV_move rfl ?_; refine TR_pv0 (PV_indexAddr hsl rfl (by omega)) rfl ?_; refine TR_pv0 (PV_fieldAddr rfl) rfl ?_; refine TR_loadM0 rfl hmem 2 rfl hk1 rfl ?_; refine TR_pv0 (PV_conv64 rfl (by omega)) rfl ?_; refine TR_pv0 PV_assign rfl ?_; refine TR_nil ?_)
          | (refine TC_plain (id := 10) (by kernel_rfl) ?_; all_goals refine TR_pv0 PV_move rfl ?_; all_goals refine TR_pv0 (PV_lss rfl rfl) rfl ?_; all_goals refine TR_pv0 PV_move rfl ?_; all_goals (refine TR_gsplit rfl rfl rfl (fun hq => ?_) (fun hq => ?_) <;> (try simp only [qs] at hq) <;> (try simp only [reduceCtorEq] at hq) <;> (try (exfalso; omega)) <;> (try contradiction) <;> refine TR_pv0 PV_move rfl ?_); all_goals refine TR_pv0 PV_move rfl ?_; all_goals refine TR_pv0 (PV_add64 rfl rfl (by omega)) rfl ?_; all_goals refine TR_pv0 (PV_lss rfl rfl) rfl ?_; all_goals refine TR_pv0 PV_move rfl ?_; all_goals (refine TR_gsplit rfl rfl rfl (fun hq => ?_) (fun hq => ?_) <;> (try simp only [qs] at hq) <;> (try simp only [reduceCtorEq] at hq) <;> (try (exfalso; omega)) <;> (try contradiction) <;> refine TR_skip0 rfl ?_); all_goals refine TR_skip0 rfl ?_; all_goals refine TR_pv0 (PV_pick_f rfl) rfl ?_; all_goals refine TR_pv0 (PV_pick_f rfl) rfl ?_; all_goals refine TR_pv0 PV_move rfl ?_; all_goals refine TR_pv0 PV_move rfl ?_; all_goals refine TR_pv0 PV_move rfl ?_; all_goals refine TR_pv0 (PV_gtr rfl rfl) rfl ?_; all_goals refine TR_pv0 (PV_pick_f rfl) rfl ?_; all_goals refine TR_pv0 PV_move rfl ?_; all_goals (refine TR_gsplit rfl rfl rfl (fun hq => ?_) (fun hq => ?_) <;> (try simp only [qs] at hq) <;> (try simp only [reduceCtorEq] at hq) <;> (try (exfalso; omega)) <;> (try contradiction) <;> refine TR_pv0 PV_move rfl ?_); all_goals refine TR_pv0 (PV_conv64 rfl (by omega)) rfl ?_; all_goals refine TR_pv0 PV_move rfl ?_; all_goals refine TR_pv0 (PV_add64 rfl rfl (by omega)) rfl ?_; all_goals refine TR_pv0 PV_move rfl ?_; all_goals refine TR_pv0 (PV_nil rfl) rfl ?_; all_goals refine TR_pv0 (PV_fieldAddr rfl) rfl ?_; all_goals refine TR_load0 rfl 1 rfl rfl rfl ?_; all_goals refine TR_pv0 (PV_len rfl) rfl ?_; all_goals refine TR_pv0 (PV_gtr rfl rfl) rfl ?_; all_goals refine TR_pv0 (PV_pick_f rfl) rfl ?_; all_goals refine TR_nil ?_)
          | (refine TC_plain (id := 12) (by kernel_rfl) ?_; refine TR_pv0 PV_move rfl ?_; refine TR_pv0 PV_assign rfl ?_; refine TR_nil ?_)
          | (refine TC_plain (id := 7) (by kernel_rfl) ?_; refine TR_pv0 PV_move rfl ?_; refine TR_pv0 (PV_add64 rfl rfl (by omega)) rfl ?_; refine TR_pv0 PV_assign rfl ?_; refine TR_nil ?_)
          | refine TC_skip ?_
          | refine TC_block ?_
          | refine TQ_blk ?_
          | (refine TC_cond rfl rfl (fun hq => ?_) (fun hq => ?_) <;> (try simp only [qs] at hq) <;> (try simp only [reduceCtorEq] at hq) <;> (try (exfalso; omega)) <;> (try contradiction))
        all_goals exact TQ_roundP (k + 1, g.2) ⟨hlt, g2, g3, fun h => absurd h (Nat.succ_ne_zero k), hm⟩ (by show gs.length - (k + 1) < mm; omega) ⟨rfl, rfl, rfl, rfl, rfl, trivial⟩ (fun w hs => hs)
    · obtain rfl : k = gs.length := by omega
      rw [List.drop_length] at hm
      rw [← hm]
      repeat' first
        | refine TC_seq ?_
        | refine TQ_then ?_
        | (refine TC_plain (id := 6) (by kernel_rfl) ?_; refine TR_pv0 PV_move rfl ?_; refine TR_pv0 (PV_fieldAddr rfl) rfl ?_; refine TR_load0 rfl 0 rfl rfl rfl ?_; refine TR_pv0 (PV_len rfl) rfl ?_; refine TR_pv0 (PV_lss rfl rfl) rfl ?_; refine TR_nil ?_)
        | (refine TC_plain (id := 13) (by kernel_rfl) ?_; refine TR_pv0 PV_assign rfl ?_; refine TR_nil ?_)
        | refine TC_ret ?_
        | refine TC_exit ?_
        | refine TQ_then_exit ?_
        | refine TQ_blk_here ?_
        | (refine TC_cond rfl rfl (fun hq => ?_) (fun hq => ?_) <;> (try simp only [qs] at hq) <;> (try simp only [reduceCtorEq] at hq) <;> (try (exfalso; omega)) <;> (try contradiction))
      exact TQ_ret1e (v := .bool true) rfl rfl rfl ⟨rfl, rfl⟩ (fun a => by simp only [les]; omega)
  · rw [decide_eq_false hb, Bool.false_and]
    repeat' first
      | refine TC_seq ?_
      | refine TQ_then ?_
      | refine TQ_noPanic ?_
      | (refine TC_plain (id := 0) (by kernel_rfl) ?_; (refine TR_box0 rfl rfl rfl ?_; intro _); refine TR_pv0 PV_assign rfl ?_; refine TR_nil ?_)
      | (refine TC_drawn' (id := 1) [(0, 1), (1, 1), (2, 1), (3, 1), (4, 1), (5, 1), (6, 1), (7, 1)] mixed (by kernel_rfl) ?_; refine TR_pv1 (PV_fieldAddr rfl) rfl (fun _ h => h) ?_; refine TR_load1 rfl 0 rfl rfl rfl (fun _ h => h) ?_; refine TR_pv1 PV_move rfl (fun _ h => h) ?_; refine TR_pv1 (PV_nil rfl) rfl (fun _ h => h) ?_; refine TR_pv1 (PV_fieldAddr rfl) rfl (fun _ h => h) ?_; refine TR_load1 rfl 1 rfl rfl rfl (fun _ h => h) ?_; refine TR_pv1 (PV_sub32 rfl rfl) rfl (fun _ h => h) ?_; refine TR_pv1 PV_assign rfl (fun _ h => h) ?_; refine TR_nil ?_)
      | (refine TC_plain (id := 2) (by kernel_rfl) ?_; refine TR_pv0 PV_move rfl ?_; refine TR_pv0 PV_move rfl ?_; refine TR_pv0 (PV_nil rfl) rfl ?_; refine TR_pv0 (PV_fieldAddr rfl) rfl ?_; refine TR_load0 rfl 1 rfl rfl rfl ?_; refine TR_pv0 (PV_len rfl) rfl ?_; refine TR_pv0 (PV_conv32 rfl) rfl ?_; refine TR_pv0 (PV_gtr rfl rfl) rfl ?_; refine TR_nil ?_)
      | (refine TC_plain (id := 3) (by kernel_rfl) ?_; refine TR_pv0 PV_assign rfl ?_; refine TR_nil ?_)
      | refine TC_ret ?_
      | refine TQ_then_ret ?_
      | (refine TC_cond rfl rfl (fun hq => ?_) (fun hq => ?_) <;> (try simp only [qs] at hq) <;> (try simp only [reduceCtorEq] at hq) <;> (try (exfalso; omega)) <;> (try contradiction))
    exact TQ_ret1e (v := .bool false) rfl rfl rfl ⟨rfl, rfl⟩ (fun a => by simp only [les]; omega)

def tgP (base : Nat) (k : Nat) (g : Int × Int) : Bool := decide ((base : Int) + g.1 ≤ k + 1) && decide ((k : Int) + 1 ≤ base + g.2)
theorem qtold_cd (b : Nat) (X : QF) (c rwnd : Int) (gs : List (Int × Int)) (ga : Option Addr) (gcap : Nat) (dv : Value) (H : Seg) (k : Nat) (hk : k ≤ 1048576) (hgs : GapsOk gs) (hs : SliceAt H 2 ga gs.length (gapL gs)) (hgn : gs.length ≤ 1099511627776) :
    Cd Try.prog 65 [ptr b, .agg (scells c rwnd (.slice ga gs.length gcap) dv).toArray, i64 k] [X.bk b, H] (.bool (toldB (X.abs.base c) gs k)) [X.bk b, H] := by
  have hbase : ((X.abs.base c : Nat) : Int) = (c - X.cum) % 4294967296 := by show ((((c - X.cum) % 4294967296).toNat : Nat) : Int) = _; omega
  have ht : toldB (X.abs.base c) gs k = (decide (k < X.abs.base c) || gs.any (tgP (X.abs.base c) k)) := rfl
  rw [ht]
  generalize X.abs.base c = base at hbase ⊢
  refine Ct_intro Try.func65 rfl (by simp only [Try.ntmps65, List.length_cons, List.length_nil]; omega) ?_
  intro w₀ R
  refine TC_le (L' := X.bk b :: H :: R) (fun a => by simp only [les]; omega) ?_
  by_cases hb : k < base
  · rw [decide_eq_true hb, Bool.true_or]
    repeat' first
      | refine TC_seq ?_
      | refine TQ_then ?_
      | refine TQ_noPanic ?_
      | (refine TC_plain (id := 0) (by kernel_rfl) ?_; (refine TR_box0 rfl rfl rfl ?_; intro _); refine TR_pv0 PV_assign rfl ?_; refine TR_nil ?_)
      | (refine TC_drawn' (id := 1) [(0, 1), (1, 1), (2, 1), (3, 1), (4, 1), (5, 1), (6, 1), (7, 1), (8, 1)] mixed (by kernel_rfl) ?_; refine TR_pv1 (PV_fieldAddr rfl) rfl (fun _ h => h) ?_; refine TR_load1 rfl 0 rfl rfl rfl (fun _ h => h) ?_; refine TR_pv1 PV_move rfl (fun _ h => h) ?_; refine TR_pv1 (PV_nil rfl) rfl (fun _ h => h) ?_; refine TR_pv1 (PV_fieldAddr rfl) rfl (fun _ h => h) ?_; refine TR_load1 rfl 1 rfl rfl rfl (fun _ h => h) ?_; refine TR_pv1 (PV_sub32 rfl rfl) rfl (fun _ h => h) ?_; refine TR_pv1 (PV_conv64 rfl (by omega)) rfl (fun _ h => h) ?_; refine TR_pv1 PV_assign rfl (fun _ h => h) ?_; refine TR_nil ?_)
      | (refine TC_plain (id := 2) (by kernel_rfl) ?_; refine TR_pv0 PV_move rfl ?_; refine TR_pv0 PV_move rfl ?_; refine TR_pv0 (PV_lss rfl rfl) rfl ?_; refine TR_nil ?_)
      | (refine TC_plain (id := 3) (by kernel_rfl) ?_; refine TR_pv0 PV_assign rfl ?_; refine TR_nil ?_)
      | refine TC_ret ?_
      | refine TQ_then_ret ?_
      | (refine TC_cond rfl rfl (fun hq => ?_) (fun hq => ?_) <;> (try simp only [qs] at hq) <;> (try simp only [reduceCtorEq] at hq) <;> (try (exfalso; omega)) <;> (try contradiction))
    exact TQ_ret1e (v := .bool true) rfl rfl rfl ⟨rfl, rfl⟩ (fun a => by simp only [les]; omega)
  · rw [decide_eq_false hb, Bool.false_or]
    repeat' first
      | refine TC_seq ?_
      | refine TQ_then ?_
      | refine TQ_noPanic ?_
      | (refine TC_plain (id := 0) (by kernel_rfl) ?_; (refine TR_box0 rfl rfl rfl ?_; intro sb); refine TR_pv0 PV_assign rfl ?_; refine TR_nil ?_)
      | (refine TC_drawn' (id := 1) [(0, 1), (1, 1), (2, 1), (3, 1), (4, 1), (5, 1), (6, 1), (7, 1), (8, 1)] mixed (by kernel_rfl) ?_; refine TR_pv1 (PV_fieldAddr rfl) rfl (fun _ h => h) ?_; refine TR_load1 rfl 0 rfl rfl rfl (fun _ h => h) ?_; refine TR_pv1 PV_move rfl (fun _ h => h) ?_; refine TR_pv1 (PV_nil rfl) rfl (fun _ h => h) ?_; refine TR_pv1 (PV_fieldAddr rfl) rfl (fun _ h => h) ?_; refine TR_load1 rfl 1 rfl rfl rfl (fun _ h => h) ?_; refine TR_pv1 (PV_sub32 rfl rfl) rfl (fun _ h => h) ?_; refine TR_pv1 (PV_conv64 rfl (by omega)) rfl (fun _ h => h) ?_; refine TR_pv1 PV_assign rfl (fun _ h => h) ?_; refine TR_nil ?_)
      | (refine TC_plain (id := 2) (by kernel_rfl) ?_; refine TR_pv0 PV_move rfl ?_; refine TR_pv0 PV_move rfl ?_; refine TR_pv0 (PV_lss rfl rfl) rfl ?_; refine TR_nil ?_)
      | (refine TC_plain (id := 4) (by kernel_rfl) ?_; refine TR_pv0 PV_assign rfl ?_; refine TR_nil ?_)
      | refine TC_skip ?_
      | refine TC_block ?_
      | (refine TC_cond rfl rfl (fun hq => ?_) (fun hq => ?_) <;> (try simp only [qs] at hq) <;> (try simp only [reduceCtorEq] at hq) <;> (try (exfalso; omega)) <;> (try contradiction))
    refine TC_slots [(2, i64 k), (4, ptr sb), (7, i64 base), (8, i64 0)] ⟨rfl, rfl, by show i64 ((c - X.cum) % 4294967296) = _; rw [hbase], rfl, trivial⟩ fun σ' => ?_
    refine TC_loopP (X := Nat) (fun _ => sbk sb c rwnd (.slice ga gs.length gcap) dv :: X.bk b :: H :: R) (fun i => [(2, i64 k), (4, ptr sb), (7, i64 base), (8, i64 i)])
      (fun i => i ≤ gs.length ∧ (gs.drop i).any (tgP base k) = gs.any (tgP base k)) (fun i => gs.length - i) 0 ⟨Nat.zero_le _, rfl⟩ ⟨rfl, rfl, rfl, rfl, trivial⟩ (fun w hs => hs) ?_
    rintro i σg mm hmm ⟨hi, ha⟩
    by_cases hlt : i < gs.length
    · obtain ⟨g, hg⟩ : ∃ g, gs[i]? = some g := ⟨_, List.getElem?_eq_getElem hlt⟩
      obtain ⟨g0, g1, g2, g3⟩ := hgs g (List.mem_of_getElem? hg)
      obtain ⟨gb, off, T, cs, fz, hga, hmem, htk⟩ := hs.at_ i [u16 g.1, u16 g.2] (by rw [List.getElem?_map, hg]; rfl)
      have hk0 : cs[off + (i : Int).toNat * 2 + 0]? = some (u16 g.1) := take_at htk (j := 0) (by omega)
      have hk1 : cs[off + (i : Int).toNat * 2 + 1]? = some (u16 g.2) := take_at htk (j := 1) (by omega)
      have hsl : Value.slice ga gs.length gcap = .slice (some ⟨gb, off, none⟩) gs.length gcap := by rw [hga]
      have hd : gs.drop i = g :: gs.drop (i + 1) := by
        obtain ⟨_, rfl⟩ := List.getElem?_eq_some_iff.1 hg
        exact (List.getElem_cons_drop hlt).symm
      rw [hd, List.any_cons] at ha
      have hb' : (base : Int) ≤ 4294967295 := by omega
      by_cases hin : (base : Int) + g.1 ≤ k + 1 ∧ (k : Int) + 1 ≤ base + g.2
      · have e : tgP base k g = true := by unfold tgP; rw [decide_eq_true hin.1, decide_eq_true hin.2]; rfl
        rw [e, Bool.true_or] at ha
        rw [← ha]
        repeat' first
          | refine TC_seq ?_
          | refine TQ_then ?_
          | (refine TC_plain (id := 5) (by kernel_rfl) ?_; refine TR_pv0 PV_move rfl ?_; refine TR_pv0 (PV_fieldAddr rfl) rfl ?_; refine TR_load0 rfl 0 rfl rfl rfl ?_; refine TR_pv0 (PV_len rfl) rfl ?_; refine TR_pv0 (PV_lss rfl rfl) rfl ?_; refine TR_nil ?_)
          | (refine TC_plain (id := 7) (by kernel_rfl) ?_; all_goals refine TR_pv0 PV_move rfl ?_; all_goals refine TR_pv0 (PV_add64 rfl rfl (by omega)) rfl ?_; all_goals refine TR_pv0 PV_move rfl ?_; all_goals refine TR_pv0 (PV_fieldAddr rfl) rfl ?_; all_goals refine TR_load0 rfl 0 rfl rfl rfl ?_; all_goals refine TR_pv0 PV_move rfl ?_; all_goals refine TR_pv0 (PV_indexAddr hsl rfl (by omega)) rfl ?_; all_goals refine TR_pv0 (PV_fieldAddr rfl) rfl ?_; all_goals refine TR_loadM0 rfl hmem 2 rfl hk0 rfl ?_; all_goals refine TR_pv0 (PV_conv64 rfl (by omega)) rfl ?_; all_goals refine TR_pv0 (PV_add64 rfl rfl (by omega)) rfl ?_; all_goals refine TR_pv0 (PV_geq rfl rfl) rfl ?_; all_goals refine TR_pv0 PV_move rfl ?_; all_goals (refine TR_gsplit rfl rfl rfl (fun hq => ?_) (fun hq => ?_) <;> (try simp only [qs] at hq) <;> (try simp only [reduceCtorEq] at hq) <;> (try (exfalso; omega)) <;> (try contradiction) <;> refine TR_pv0 PV_move rfl ?_); all_goals refine TR_pv0 (PV_add64 rfl rfl (by omega)) rfl ?_; all_goals refine TR_pv0 PV_move rfl ?_; all_goals refine TR_pv0 (PV_fieldAddr rfl) rfl ?_; all_goals refine TR_load0 rfl 0 rfl rfl rfl ?_; all_goals refine TR_pv0 PV_move rfl ?_; all_goals refine TR_pv0 (PV_indexAddr hsl rfl (by omega)) rfl ?_; all_goals refine TR_pv0 (PV_fieldAddr rfl) rfl ?_; all_goals refine TR_loadM0 rfl hmem 2 rfl hk1 rfl ?_; all_goals refine TR_pv0 (PV_conv64 rfl (by omega)) rfl ?_; all_goals refine TR_pv0 (PV_add64 rfl rfl (by omega)) rfl ?_; all_goals refine TR_pv0 (PV_leq rfl rfl) rfl ?_; all_goals refine TR_pv0 (PV_pick_t rfl) rfl ?_; all_goals refine TR_nil ?_)
          | (refine TC_plain (id := 8) (by kernel_rfl) ?_; refine TR_pv0 PV_assign rfl ?_; refine TR_nil ?_)
          | refine TC_skip ?_
          | refine TC_ret ?_
          | refine TC_block ?_
          | refine TQ_then_ret ?_
          | refine TQ_blk_ret ?_
          | (refine TC_cond rfl rfl (fun hq => ?_) (fun hq => ?_) <;> (try simp only [qs] at hq) <;> (try simp only [reduceCtorEq] at hq) <;> (try (exfalso; omega)) <;> (try contradiction))
        exact TQ_ret1e (v := .bool true) rfl rfl rfl ⟨rfl, rfl⟩ (fun a => by simp only [les]; omega)
      · have e : tgP base k g = false := by
          unfold tgP
          by_cases h1 : (base : Int) + g.1 ≤ k + 1
          · rw [decide_eq_false (show ¬ ((k : Int) + 1 ≤ base + g.2) from fun h2 => hin ⟨h1, h2⟩), Bool.and_false]
          · rw [decide_eq_false h1, Bool.false_and]
        rw [e, Bool.false_or] at ha
        repeat' first
          | refine TC_seq ?_
          | refine TQ_then ?_
          | (refine TC_plain (id := 5) (by kernel_rfl) ?_; refine TR_pv0 PV_move rfl ?_; refine TR_pv0 (PV_fieldAddr rfl) rfl ?_; refine TR_load0 rfl 0 rfl rfl rfl ?_; refine TR_pv0 (PV_len rfl) rfl ?_; refine TR_pv0 (PV_lss rfl rfl) rfl ?_; refine TR_nil ?_)
          | (refine TC_plain (id := 7) (by kernel_rfl) ?_; all_goals refine TR_pv0 PV_move rfl ?_; all_goals refine TR_pv0 (PV_add64 rfl rfl (by omega)) rfl ?_; all_goals refine TR_pv0 PV_move rfl ?_; all_goals refine TR_pv0 (PV_fieldAddr rfl) rfl ?_; all_goals refine TR_load0 rfl 0 rfl rfl rfl ?_; all_goals refine TR_pv0 PV_move rfl ?_; all_goals refine TR_pv0 (PV_indexAddr hsl rfl (by omega)) rfl ?_; all_goals refine TR_pv0 (PV_fieldAddr rfl) rfl ?_; all_goals refine TR_loadM0 rfl hmem 2 rfl hk0 rfl ?_; all_goals refine TR_pv0 (PV_conv64 rfl (by omega)) rfl ?_; all_goals refine TR_pv0 (PV_add64 rfl rfl (by omega)) rfl ?_; all_goals refine TR_pv0 (PV_geq rfl rfl) rfl ?_; all_goals refine TR_pv0 PV_move rfl ?_; all_goals (refine TR_gsplit rfl rfl rfl (fun hq => ?_) (fun hq => ?_) <;> (try simp only [qs] at hq) <;> (try simp only [reduceCtorEq] at hq) <;> (try (exfalso; omega)) <;> (try contradiction) <;> (first | refine TR_pv0 PV_move rfl ?_ | refine TR_skip0 rfl ?_)); all_goals (first | refine TR_pv0 (PV_add64 rfl rfl (by omega)) rfl ?_ | refine TR_skip0 rfl ?_); all_goals (first | refine TR_pv0 PV_move rfl ?_ | refine TR_skip0 rfl ?_); all_goals (first | refine TR_pv0 (PV_fieldAddr rfl) rfl ?_ | refine TR_skip0 rfl ?_); all_goals (first | refine TR_load0 rfl 0 rfl rfl rfl ?_ | refine TR_skip0 rfl ?_); all_goals (first | refine TR_pv0 PV_move rfl ?_ | refine TR_skip0 rfl ?_); all_goals (first | refine TR_pv0 (PV_indexAddr hsl rfl (by omega)) rfl ?_ | refine TR_skip0 rfl ?_); all_goals (first | refine TR_pv0 (PV_fieldAddr rfl) rfl ?_ | refine TR_skip0 rfl ?_); all_goals (first | refine TR_loadM0 rfl hmem 2 rfl hk1 rfl ?_ | refine TR_skip0 rfl ?_); all_goals (first | refine TR_pv0 (PV_conv64 rfl (by omega)) rfl ?_ | refine TR_skip0 rfl ?_); all_goals (first | refine TR_pv0 (PV_add64 rfl rfl (by omega)) rfl ?_ | refine TR_skip0 rfl ?_); all_goals (first | refine TR_pv0 (PV_leq rfl rfl) rfl ?_ | refine TR_skip0 rfl ?_); all_goals (first | refine TR_pv0 (PV_pick_t rfl) rfl ?_ | refine TR_pv0 (PV_pick_f rfl) rfl ?_); all_goals refine TR_nil ?_)
          | (refine TC_plain (id := 6) (by kernel_rfl) ?_; refine TR_pv0 PV_move rfl ?_; refine TR_pv0 (PV_add64 rfl rfl (by omega)) rfl ?_; refine TR_pv0 PV_assign rfl ?_; refine TR_nil ?_)
          | refine TC_cond_f rfl rfl ?_
          | refine TC_skip ?_
          | refine TC_block ?_
          | refine TQ_blk ?_
          | (refine TC_cond rfl rfl (fun hq => ?_) (fun hq => ?_) <;> (try simp only [qs] at hq) <;> (try simp only [reduceCtorEq] at hq) <;> (try (exfalso; omega)) <;> (try contradiction))
        all_goals exact TQ_roundP (i + 1) ⟨hlt, ha⟩ (by show gs.length - (i + 1) < mm; omega) ⟨rfl, rfl, rfl, rfl, trivial⟩ (fun w hs => hs)
    · obtain rfl : i = gs.length := by omega
      rw [List.drop_length] at ha
      rw [← ha]
      repeat' first
        | refine TC_seq ?_
        | refine TQ_then ?_
        | (refine TC_plain (id := 5) (by kernel_rfl) ?_; refine TR_pv0 PV_move rfl ?_; refine TR_pv0 (PV_fieldAddr rfl) rfl ?_; refine TR_load0 rfl 0 rfl rfl rfl ?_; refine TR_pv0 (PV_len rfl) rfl ?_; refine TR_pv0 (PV_lss rfl rfl) rfl ?_; refine TR_nil ?_)
        | (refine TC_plain (id := 9) (by kernel_rfl) ?_; refine TR_pv0 PV_assign rfl ?_; refine TR_nil ?_)
        | refine TC_ret ?_
        | refine TC_exit ?_
        | refine TQ_then_exit ?_
        | refine TQ_blk_here ?_
        | (refine TC_cond rfl rfl (fun hq => ?_) (fun hq => ?_) <;> (try simp only [qs] at hq) <;> (try simp only [reduceCtorEq] at hq) <;> (try (exfalso; omega)) <;> (try contradiction))
      exact TQ_ret1e (v := .bool false) rfl rfl rfl ⟨rfl, rfl⟩ (fun a => by simp only [les]; omega)
end Go.Proofs.Ytonfkkdahlboiaa
