/- FlightSplit: the walk. -/
import Derived.Test.YtonfkkdahlboiaaFlR
namespace Go.Proofs.Ytonfkkdahlboiaa
open Go.RowKit
set_option maxHeartbeats 4000000
set_option maxRecDepth 10000

abbrev zrowOk (row : Row) (zs : List Nat) : Prop := row.ok 3 1 zs.length (zs.map fun z : Nat => i64 (z : Int))

structure SpI1 (ons : List Bool) (c : Int) (k : Nat) (X : FL) (row : Row) (zs : List Nat) : Prop where
  kn : k ≤ ons.length
  ok : FlOk X
  so : SplitOk (ons.take k) X.abs
  cum : X.cum = c
  row : zrowOk row zs
  zi : ∀ z ∈ zs, (ons.take k)[z]? = some false
  zl : zs.length ≤ k
theorem SpI1.add {ons : List Bool} {c : Int} {k : Nat} {X X' : FL} {row row' : Row} {zs zs' : List Nat} (h : SpI1 ons c k X row zs) {b : Bool} (hb : ons[k]? = some b) {path : Int} (hp : path = if b then 1 else 0) (hn : ons.length ≤ 60)
    (hX : FlOk X') (hA : X'.abs = X.abs.add (zPc 10) path k k) (hrow : zrowOk row' zs') (hz : ∀ z ∈ zs', z ∈ zs ∨ z = k ∧ b = false) (hl : zs'.length ≤ k + 1) : SpI1 ons c (k + 1) X' row' zs' := by
  have hk := (List.getElem?_eq_some_iff.1 hb).1
  have htl : (ons.take k).length = k := by simp; omega
  have he : X.abs.addE (zPc 10) path = 0 := h.so.addE (by omega) rfl (by subst hp; cases b <;> simp)
  refine ⟨hk, hX, ?_, ?_, hrow, fun z hz' => ?_, hl⟩
  · rw [take_next hb, hA]; exact h.so.add b _ _ rfl hp he
  · have := congrArg Flt.cum hA
    rw [Flt.add, if_pos he] at this
    exact this.trans h.cum
  · rcases hz z hz' with h1 | ⟨rfl, rfl⟩
    · have := h.zi z h1
      rw [take_next hb, List.getElem?_append_left (List.getElem?_eq_some_iff.1 this).1]; exact this
    · rw [take_next hb, List.getElem?_append_right (by omega), htl, Nat.sub_self]; rfl

theorem tenOf_next {ons : List Bool} {k : Nat} {b : Bool} (hb : ons[k]? = some b) : tenOf (ons.take (k + 1)) = tenOf (ons.take k) + (if b then 10 else 0) := by
  rw [take_next hb]; simp [tenOf]
theorem tenOf_le : ∀ (l : List Bool), 0 ≤ tenOf l ∧ tenOf l ≤ 10 * l.length
  | [] => by simp [tenOf]
  | b :: l => by
    have ih := tenOf_le l
    have e : tenOf (b :: l) = (if b then 10 else 0) + tenOf l := by simp [tenOf]
    rw [e, List.length_cons]
    cases b <;> simp <;> omega

theorem flSplit_cd (H : Seg) (c : Int) (a1 : Option Addr) (n1 cap1 : Nat) (ons : List Bool) (a2 : Option Addr) (n2 cap2 : Nat) (acks : List Int) (hc : 0 ≤ c ∧ c ≤ 4294967295) (hn1 : n1 ≤ 9223372036854775807) (hn2 : n2 ≤ 9223372036854775807)
    (hs1 : SliceAt H 1 a1 n1 (ons.map fun x => [.bool x])) (ha : ∀ s ∈ acks, 0 ≤ s ∧ s ≤ 255) (hs2 : SliceAt H 1 a2 n2 (acks.map fun x => [.int .u8 x])) :
    Cd Try.prog 4 [u32 c, .slice a1 n1 cap1, .slice a2 n2 cap2] [H] (.bool true) [H] := by
  have hl1 : ons.length = n1 := by simpa using hs1.len
  have hl2 : acks.length = n2 := by simpa using hs2.len
  refine Ct_intro Try.func4 rfl (by simp only [Try.ntmps4, List.length_cons, List.length_nil]; omega) ?_
  intro w₀ R
  by_cases hbig : (60 : Int) < n1 ∨ (60 : Int) < n2
  · by_cases h1 : (60 : Int) < n1
    · repeat' first
      | refine TC_seq ?_
      | refine TQ_then ?_
      | refine TR_nil ?_
      | refine TQ_noPanic ?_
      | (refine TC_plain (id := 0) (by kernel_rfl) ?_; refine TR_pv0 PV_assign rfl ?_; refine TR_nil ?_)
      | (refine TC_plain (id := 1) (by kernel_rfl) ?_; all_goals refine TR_pv0 PV_move rfl ?_; all_goals refine TR_pv0 (PV_len rfl) rfl ?_; all_goals refine TR_pv0 (PV_gtr rfl rfl) rfl ?_; all_goals refine TR_pv0 PV_move rfl ?_; all_goals (first | refine TR_pv0 PV_move rfl ?_ | refine TR_skip0 rfl ?_ | (refine TR_gsplit rfl rfl rfl (fun hq => ?_) (fun hq => ?_) <;> (try simp only [qs] at hq) <;> (try simp only [reduceCtorEq] at hq) <;> (try (exfalso; omega)) <;> (try contradiction) <;> (first | refine TR_pv0 PV_move rfl ?_ | refine TR_skip0 rfl ?_))); all_goals (first | refine TR_pv0 (PV_len rfl) rfl ?_ | refine TR_skip0 rfl ?_ | (refine TR_gsplit rfl rfl rfl (fun hq => ?_) (fun hq => ?_) <;> (try simp only [qs] at hq) <;> (try simp only [reduceCtorEq] at hq) <;> (try (exfalso; omega)) <;> (try contradiction) <;> (first | refine TR_pv0 (PV_len rfl) rfl ?_ | refine TR_skip0 rfl ?_))); all_goals (first | refine TR_pv0 (PV_gtr rfl rfl) rfl ?_ | refine TR_skip0 rfl ?_ | (refine TR_gsplit rfl rfl rfl (fun hq => ?_) (fun hq => ?_) <;> (try simp only [qs] at hq) <;> (try simp only [reduceCtorEq] at hq) <;> (try (exfalso; omega)) <;> (try contradiction) <;> (first | refine TR_pv0 (PV_gtr rfl rfl) rfl ?_ | refine TR_skip0 rfl ?_))); all_goals (first | refine TR_pv0 (PV_pick_t rfl) rfl ?_ | refine TR_pv0 (PV_pick_f rfl) rfl ?_); all_goals refine TR_nil ?_)
      | (refine TC_plain (id := 2) (by kernel_rfl) ?_; refine TR_calld0 (flWorks) rfl rfl rfl rfl ?_; refine TR_pv0 PV_assign rfl ?_; refine TR_nil ?_)
      | (refine TC_plain (id := 3) (by kernel_rfl) ?_; refine TR_pv0 PV_move rfl ?_)
      | (refine TC_plain (id := 4) (by kernel_rfl) ?_; refine TR_pv0 PV_move rfl ?_; refine TR_pv0 (PV_neq rfl rfl) rfl ?_; refine TR_nil ?_)
      | (refine TC_plain (id := 5) (by kernel_rfl) ?_; refine TR_pv0 PV_assign rfl ?_; refine TR_nil ?_)
      | (refine TC_plain (id := 6) (by kernel_rfl) ?_; refine TR_pv0 PV_assign rfl ?_; refine TR_nil ?_)
      | (refine TC_plain (id := 7) (by kernel_rfl) ?_; refine TR_pv0 PV_assign rfl ?_; refine TR_nil ?_)
      | (refine TC_plain (id := 8) (by kernel_rfl) ?_; refine TR_pv0 PV_assign rfl ?_; refine TR_nil ?_)
      | (refine TC_plain (id := 9) (by kernel_rfl) ?_; refine TR_pv0 PV_move rfl ?_; refine TR_pv0 PV_move rfl ?_; refine TR_pv0 (PV_len rfl) rfl ?_; refine TR_pv0 (PV_lss rfl rfl) rfl ?_; refine TR_nil ?_)
      | (refine TC_plain (id := 11) (by kernel_rfl) ?_; refine TR_pv0 PV_assign rfl ?_; refine TR_nil ?_)
      | (refine TC_plain (id := 12) (by kernel_rfl) ?_; refine TR_pv0 PV_move rfl ?_; refine TR_pv0 PV_move rfl ?_; (first | refine TR_pv0 (PV_indexAddr rfl rfl (by omega)) rfl ?_ | refine TR_pv0 (PV_indexArr rfl rfl (by omega)) rfl ?_); (first | refine TR_load0 rfl 0 rfl rfl rfl ?_ | refine TR_load0 rfl 1 rfl rfl rfl ?_ | refine TR_load0 rfl 2 rfl rfl rfl ?_ | refine TR_load0 rfl 3 rfl rfl rfl ?_); refine TR_nil ?_)
      | (refine TC_plain (id := 13) (by kernel_rfl) ?_; refine TR_pv0 PV_assign rfl ?_; refine TR_nil ?_)
      | (refine TC_plain (id := 14) (by kernel_rfl) ?_; refine TR_pv0 PV_move rfl ?_; (first | refine TR_pv0 (PV_add64 rfl rfl (by omega)) rfl ?_ | refine TR_pv0 (PV_add64w rfl rfl) rfl ?_); refine TR_pv0 PV_assign rfl ?_; refine TR_nil ?_)
      | (refine TC_plain (id := 15) (by kernel_rfl) ?_; refine TR_pv0 PV_move rfl ?_; refine TR_pv0 PV_move rfl ?_; (refine TR_buildSlice (.inl rfl) rfl rfl rfl rfl ?_; intro _))
      | (refine TC_plain (id := 16) (by kernel_rfl) ?_; refine TR_pv0 PV_move rfl ?_; (refine TR_makeSlice (.inl rfl) rfl rfl (by omega) (by omega) rfl ?_; intro _); refine TR_pv0 (PV_build rfl rfl) rfl ?_; refine TR_pv0 PV_move rfl ?_; refine TR_pv0 PV_move rfl ?_; refine TR_pv0 PV_move rfl ?_)
      | (refine TC_plain (id := 17) (by kernel_rfl) ?_; refine TR_pv0 PV_move rfl ?_; refine TR_pv0 (PV_neq rfl rfl) rfl ?_; refine TR_nil ?_)
      | (refine TC_plain (id := 18) (by kernel_rfl) ?_; refine TR_pv0 PV_assign rfl ?_; refine TR_nil ?_)
      | (refine TC_plain (id := 10) (by kernel_rfl) ?_; refine TR_pv0 PV_move rfl ?_; (first | refine TR_pv0 (PV_add64 rfl rfl (by omega)) rfl ?_ | refine TR_pv0 (PV_add64w rfl rfl) rfl ?_); refine TR_pv0 PV_assign rfl ?_; refine TR_nil ?_)
      | (refine TC_plain (id := 19) (by kernel_rfl) ?_; refine TR_pv0 PV_assign rfl ?_; refine TR_nil ?_)
      | (refine TC_plain (id := 20) (by kernel_rfl) ?_; all_goals refine TR_pv0 PV_move rfl ?_; all_goals refine TR_pv0 PV_move rfl ?_; all_goals refine TR_pv0 (PV_len rfl) rfl ?_; all_goals refine TR_pv0 (PV_lss rfl rfl) rfl ?_; all_goals refine TR_pv0 PV_move rfl ?_; all_goals (first | refine TR_pv0 PV_move rfl ?_ | refine TR_skip0 rfl ?_ | (refine TR_gsplit rfl rfl rfl (fun hq => ?_) (fun hq => ?_) <;> (try simp only [qs] at hq) <;> (try simp only [reduceCtorEq] at hq) <;> (try (exfalso; omega)) <;> (try contradiction) <;> (first | refine TR_pv0 PV_move rfl ?_ | refine TR_skip0 rfl ?_))); all_goals (first | refine TR_pv0 (PV_len rfl) rfl ?_ | refine TR_skip0 rfl ?_ | (refine TR_gsplit rfl rfl rfl (fun hq => ?_) (fun hq => ?_) <;> (try simp only [qs] at hq) <;> (try simp only [reduceCtorEq] at hq) <;> (try (exfalso; omega)) <;> (try contradiction) <;> (first | refine TR_pv0 (PV_len rfl) rfl ?_ | refine TR_skip0 rfl ?_))); all_goals (first | refine TR_pv0 (PV_gtr rfl rfl) rfl ?_ | refine TR_skip0 rfl ?_ | (refine TR_gsplit rfl rfl rfl (fun hq => ?_) (fun hq => ?_) <;> (try simp only [qs] at hq) <;> (try simp only [reduceCtorEq] at hq) <;> (try (exfalso; omega)) <;> (try contradiction) <;> (first | refine TR_pv0 (PV_gtr rfl rfl) rfl ?_ | refine TR_skip0 rfl ?_))); all_goals (first | refine TR_pv0 (PV_pick_t rfl) rfl ?_ | refine TR_pv0 (PV_pick_f rfl) rfl ?_); all_goals refine TR_nil ?_)
      | (refine TC_plain (id := 22) (by kernel_rfl) ?_; refine TR_pv0 PV_move rfl ?_; refine TR_pv0 PV_move rfl ?_; refine TR_pv0 PV_move rfl ?_; (first | refine TR_pv0 (PV_indexAddr rfl rfl (by omega)) rfl ?_ | refine TR_pv0 (PV_indexArr rfl rfl (by omega)) rfl ?_); (first | refine TR_load0 rfl 0 rfl rfl rfl ?_ | refine TR_load0 rfl 1 rfl rfl rfl ?_ | refine TR_load0 rfl 2 rfl rfl rfl ?_ | refine TR_load0 rfl 3 rfl rfl rfl ?_); refine TR_pv0 (PV_conv64 rfl (by omega)) rfl ?_; refine TR_pv0 PV_move rfl ?_; refine TR_pv0 (PV_len rfl) rfl ?_; refine TR_pv0 (PV_rem64 rfl rfl (by omega)) rfl ?_; (first | refine TR_pv0 (PV_indexAddr rfl rfl (by omega)) rfl ?_ | refine TR_pv0 (PV_indexArr rfl rfl (by omega)) rfl ?_); (first | refine TR_load0 rfl 0 rfl rfl rfl ?_ | refine TR_load0 rfl 1 rfl rfl rfl ?_ | refine TR_load0 rfl 2 rfl rfl rfl ?_ | refine TR_load0 rfl 3 rfl rfl rfl ?_); refine TR_pv0 PV_assign rfl ?_; refine TR_nil ?_)
      | (refine TC_plain (id := 23) (by kernel_rfl) ?_; refine TR_pv0 PV_move rfl ?_; refine TR_pv0 (PV_eql rfl rfl) rfl ?_; refine TR_nil ?_)
      | (refine TC_plain (id := 24) (by kernel_rfl) ?_; refine TR_pv0 PV_move rfl ?_; refine TR_pv0 PV_move rfl ?_; refine TR_pv0 (PV_sub32 rfl rfl) rfl ?_; refine TR_pv0 PV_move rfl ?_; (first | refine TR_pv0 (PV_add64 rfl rfl (by omega)) rfl ?_ | refine TR_pv0 (PV_add64w rfl rfl) rfl ?_); refine TR_pv0 (PV_conv16 rfl) rfl ?_; refine TR_pv0 PV_move rfl ?_; (first | refine TR_pv0 (PV_add64 rfl rfl (by omega)) rfl ?_ | refine TR_pv0 (PV_add64w rfl rfl) rfl ?_); refine TR_pv0 (PV_conv16 rfl) rfl ?_; refine TR_pv0 (PV_build rfl rfl) rfl ?_; (refine TR_buildSlice (.inl rfl) rfl rfl rfl rfl ?_; intro _); refine TR_pv0 (PV_build rfl rfl) rfl ?_)
      | (refine TC_plain (id := 25) (by kernel_rfl) ?_; all_goals refine TR_pv0 PV_move rfl ?_; all_goals refine TR_pv0 (PV_neq rfl rfl) rfl ?_; all_goals refine TR_pv0 PV_move rfl ?_; all_goals (first | refine TR_pv0 PV_move rfl ?_ | refine TR_skip0 rfl ?_ | (refine TR_gsplit rfl rfl rfl (fun hq => ?_) (fun hq => ?_) <;> (try simp only [qs] at hq) <;> (try simp only [reduceCtorEq] at hq) <;> (try (exfalso; omega)) <;> (try contradiction) <;> (first | refine TR_pv0 PV_move rfl ?_ | refine TR_skip0 rfl ?_))); all_goals refine TR_skip0 rfl ?_; all_goals (first | refine TR_pv0 PV_move rfl ?_ | refine TR_skip0 rfl ?_ | (refine TR_gsplit rfl rfl rfl (fun hq => ?_) (fun hq => ?_) <;> (try simp only [qs] at hq) <;> (try simp only [reduceCtorEq] at hq) <;> (try (exfalso; omega)) <;> (try contradiction) <;> (first | refine TR_pv0 PV_move rfl ?_ | refine TR_skip0 rfl ?_))); all_goals (first | refine TR_pv0 (PV_neq rfl rfl) rfl ?_ | refine TR_skip0 rfl ?_ | (refine TR_gsplit rfl rfl rfl (fun hq => ?_) (fun hq => ?_) <;> (try simp only [qs] at hq) <;> (try simp only [reduceCtorEq] at hq) <;> (try (exfalso; omega)) <;> (try contradiction) <;> (first | refine TR_pv0 (PV_neq rfl rfl) rfl ?_ | refine TR_skip0 rfl ?_))); all_goals (first | refine TR_pv0 (PV_pick_t rfl) rfl ?_ | refine TR_pv0 (PV_pick_f rfl) rfl ?_); all_goals refine TR_nil ?_)
      | (refine TC_plain (id := 26) (by kernel_rfl) ?_; refine TR_pv0 PV_assign rfl ?_; refine TR_nil ?_)
      | (refine TC_plain (id := 27) (by kernel_rfl) ?_; refine TR_pv0 PV_move rfl ?_)
      | (refine TC_plain (id := 28) (by kernel_rfl) ?_; refine TR_pv0 PV_assign rfl ?_; refine TR_nil ?_)
      | (refine TC_plain (id := 29) (by kernel_rfl) ?_; refine TR_pv0 PV_move rfl ?_; refine TR_pv0 PV_move rfl ?_; refine TR_pv0 (PV_len rfl) rfl ?_; refine TR_pv0 (PV_lss rfl rfl) rfl ?_; refine TR_nil ?_)
      | (refine TC_plain (id := 31) (by kernel_rfl) ?_; refine TR_pv0 PV_move rfl ?_; refine TR_pv0 PV_move rfl ?_; refine TR_pv0 PV_move rfl ?_; (first | refine TR_pv0 (PV_indexAddr rfl rfl (by omega)) rfl ?_ | refine TR_pv0 (PV_indexArr rfl rfl (by omega)) rfl ?_); (first | refine TR_load0 rfl 0 rfl rfl rfl ?_ | refine TR_load0 rfl 1 rfl rfl rfl ?_ | refine TR_load0 rfl 2 rfl rfl rfl ?_ | refine TR_load0 rfl 3 rfl rfl rfl ?_))
      | (refine TC_plain (id := 32) (by kernel_rfl) ?_; all_goals refine TR_pv0 PV_move rfl ?_; all_goals refine TR_pv0 (PV_not rfl) rfl ?_; all_goals refine TR_pv0 PV_move rfl ?_; all_goals (first | refine TR_pv0 PV_move rfl ?_ | refine TR_skip0 rfl ?_ | (refine TR_gsplit rfl rfl rfl (fun hq => ?_) (fun hq => ?_) <;> (try simp only [qs] at hq) <;> (try simp only [reduceCtorEq] at hq) <;> (try (exfalso; omega)) <;> (try contradiction) <;> (first | refine TR_pv0 PV_move rfl ?_ | refine TR_skip0 rfl ?_))); all_goals (first | refine TR_pv0 (PV_neq rfl rfl) rfl ?_ | refine TR_skip0 rfl ?_ | (refine TR_gsplit rfl rfl rfl (fun hq => ?_) (fun hq => ?_) <;> (try simp only [qs] at hq) <;> (try simp only [reduceCtorEq] at hq) <;> (try (exfalso; omega)) <;> (try contradiction) <;> (first | refine TR_pv0 (PV_neq rfl rfl) rfl ?_ | refine TR_skip0 rfl ?_))); all_goals (first | refine TR_pv0 (PV_pick_t rfl) rfl ?_ | refine TR_pv0 (PV_pick_f rfl) rfl ?_); all_goals refine TR_nil ?_)
      | (refine TC_plain (id := 33) (by kernel_rfl) ?_; refine TR_pv0 PV_assign rfl ?_; refine TR_nil ?_)
      | (refine TC_plain (id := 30) (by kernel_rfl) ?_; refine TR_pv0 PV_move rfl ?_; (first | refine TR_pv0 (PV_add64 rfl rfl (by omega)) rfl ?_ | refine TR_pv0 (PV_add64w rfl rfl) rfl ?_); refine TR_pv0 PV_assign rfl ?_; refine TR_nil ?_)
      | (refine TC_plain (id := 21) (by kernel_rfl) ?_; refine TR_pv0 PV_move rfl ?_; (first | refine TR_pv0 (PV_add64 rfl rfl (by omega)) rfl ?_ | refine TR_pv0 (PV_add64w rfl rfl) rfl ?_); refine TR_pv0 PV_assign rfl ?_; refine TR_nil ?_)
      | (refine TC_plain (id := 34) (by kernel_rfl) ?_; refine TR_calld0 (flWorks) rfl rfl rfl rfl ?_; refine TR_pv0 PV_assign rfl ?_; refine TR_nil ?_)
      | refine TC_cond_t rfl rfl ?_
      | refine TC_cond_f rfl rfl ?_
      | refine TC_skip ?_
      | refine TC_ret ?_
      | refine TC_exit ?_
      | refine TC_block ?_
      | refine TQ_then_ret ?_
      | refine TQ_then_exit ?_
      | refine TQ_blk ?_
      | refine TQ_blk_ret ?_
      | refine TQ_blk_here ?_
      | refine TQ_blk_past rfl ?_
      | refine TC_label ?_
      | (refine TC_cond rfl rfl (fun hq => ?_) (fun hq => ?_) <;> (try simp only [qs] at hq) <;> (try simp only [reduceCtorEq] at hq) <;> (try (exfalso; omega)) <;> (try contradiction))
      | (refine TR_pv0 PV_move rfl ?_; refine TR_pv0 (PV_extract rfl rfl) rfl ?_; refine TR_pv0 (PV_extract rfl rfl) rfl ?_; refine TR_pv0 PV_assign rfl ?_; refine TR_pv0 PV_assign rfl ?_; refine TR_nil ?_)
      | (refine TR_pv0 PV_assign rfl ?_; refine TR_nil ?_)
      | (refine TR_pv0 PV_move rfl ?_; refine TR_pv0 (PV_extract rfl rfl) rfl ?_; refine TR_pv0 (PV_extract rfl rfl) rfl ?_; (refine TR_alloc0 rfl ?_; intro _); (first | refine TR_storeA0_0 rfl rfl rfl rfl rfl rfl ?_ | refine TR_storeA0_1 rfl rfl rfl rfl rfl rfl ?_ | refine TR_storeA0_2 rfl rfl rfl rfl rfl rfl ?_ | refine TR_storeA0_3 rfl rfl rfl rfl rfl rfl ?_); refine TR_pv0 PV_assign rfl ?_; refine TR_nil ?_)
      | (refine TR_pv0 PV_move rfl ?_; refine TR_pv0 (PV_extract rfl rfl) rfl ?_; refine TR_pv0 (PV_extract rfl rfl) rfl ?_; refine TR_pv0 (PV_extract rfl rfl) rfl ?_; (refine TR_alloc0 rfl ?_; intro _); (first | refine TR_storeA0_0 rfl rfl rfl rfl rfl rfl ?_ | refine TR_storeA0_1 rfl rfl rfl rfl rfl rfl ?_ | refine TR_storeA0_2 rfl rfl rfl rfl rfl rfl ?_ | refine TR_storeA0_3 rfl rfl rfl rfl rfl rfl ?_); refine TR_pv0 PV_assign rfl ?_; refine TR_pv0 PV_assign rfl ?_; refine TR_nil ?_)
      exact TQ_ret1e (v := .bool true) rfl rfl rfl ⟨rfl, rfl⟩ (fun a => by simp only [les]; omega)
    · have h2 : (60 : Int) < n2 := by omega
      repeat' first
        | refine TC_seq ?_
        | refine TQ_then ?_
        | refine TR_nil ?_
        | refine TQ_noPanic ?_
        | (refine TC_plain (id := 0) (by kernel_rfl) ?_; refine TR_pv0 PV_assign rfl ?_; refine TR_nil ?_)
        | (refine TC_plain (id := 1) (by kernel_rfl) ?_; all_goals refine TR_pv0 PV_move rfl ?_; all_goals refine TR_pv0 (PV_len rfl) rfl ?_; all_goals refine TR_pv0 (PV_gtr rfl rfl) rfl ?_; all_goals refine TR_pv0 PV_move rfl ?_; all_goals (first | refine TR_pv0 PV_move rfl ?_ | refine TR_skip0 rfl ?_ | (refine TR_gsplit rfl rfl rfl (fun hq => ?_) (fun hq => ?_) <;> (try simp only [qs] at hq) <;> (try simp only [reduceCtorEq] at hq) <;> (try (exfalso; omega)) <;> (try contradiction) <;> (first | refine TR_pv0 PV_move rfl ?_ | refine TR_skip0 rfl ?_))); all_goals (first | refine TR_pv0 (PV_len rfl) rfl ?_ | refine TR_skip0 rfl ?_ | (refine TR_gsplit rfl rfl rfl (fun hq => ?_) (fun hq => ?_) <;> (try simp only [qs] at hq) <;> (try simp only [reduceCtorEq] at hq) <;> (try (exfalso; omega)) <;> (try contradiction) <;> (first | refine TR_pv0 (PV_len rfl) rfl ?_ | refine TR_skip0 rfl ?_))); all_goals (first | refine TR_pv0 (PV_gtr rfl rfl) rfl ?_ | refine TR_skip0 rfl ?_ | (refine TR_gsplit rfl rfl rfl (fun hq => ?_) (fun hq => ?_) <;> (try simp only [qs] at hq) <;> (try simp only [reduceCtorEq] at hq) <;> (try (exfalso; omega)) <;> (try contradiction) <;> (first | refine TR_pv0 (PV_gtr rfl rfl) rfl ?_ | refine TR_skip0 rfl ?_))); all_goals (first | refine TR_pv0 (PV_pick_t rfl) rfl ?_ | refine TR_pv0 (PV_pick_f rfl) rfl ?_); all_goals refine TR_nil ?_)
        | (refine TC_plain (id := 2) (by kernel_rfl) ?_; refine TR_calld0 (flWorks) rfl rfl rfl rfl ?_; refine TR_pv0 PV_assign rfl ?_; refine TR_nil ?_)
        | (refine TC_plain (id := 3) (by kernel_rfl) ?_; refine TR_pv0 PV_move rfl ?_)
        | (refine TC_plain (id := 4) (by kernel_rfl) ?_; refine TR_pv0 PV_move rfl ?_; refine TR_pv0 (PV_neq rfl rfl) rfl ?_; refine TR_nil ?_)
        | (refine TC_plain (id := 5) (by kernel_rfl) ?_; refine TR_pv0 PV_assign rfl ?_; refine TR_nil ?_)
        | (refine TC_plain (id := 6) (by kernel_rfl) ?_; refine TR_pv0 PV_assign rfl ?_; refine TR_nil ?_)
        | (refine TC_plain (id := 7) (by kernel_rfl) ?_; refine TR_pv0 PV_assign rfl ?_; refine TR_nil ?_)
        | (refine TC_plain (id := 8) (by kernel_rfl) ?_; refine TR_pv0 PV_assign rfl ?_; refine TR_nil ?_)
        | (refine TC_plain (id := 9) (by kernel_rfl) ?_; refine TR_pv0 PV_move rfl ?_; refine TR_pv0 PV_move rfl ?_; refine TR_pv0 (PV_len rfl) rfl ?_; refine TR_pv0 (PV_lss rfl rfl) rfl ?_; refine TR_nil ?_)
        | (refine TC_plain (id := 11) (by kernel_rfl) ?_; refine TR_pv0 PV_assign rfl ?_; refine TR_nil ?_)
        | (refine TC_plain (id := 12) (by kernel_rfl) ?_; refine TR_pv0 PV_move rfl ?_; refine TR_pv0 PV_move rfl ?_; (first | refine TR_pv0 (PV_indexAddr rfl rfl (by omega)) rfl ?_ | refine TR_pv0 (PV_indexArr rfl rfl (by omega)) rfl ?_); (first | refine TR_load0 rfl 0 rfl rfl rfl ?_ | refine TR_load0 rfl 1 rfl rfl rfl ?_ | refine TR_load0 rfl 2 rfl rfl rfl ?_ | refine TR_load0 rfl 3 rfl rfl rfl ?_); refine TR_nil ?_)
        | (refine TC_plain (id := 13) (by kernel_rfl) ?_; refine TR_pv0 PV_assign rfl ?_; refine TR_nil ?_)
        | (refine TC_plain (id := 14) (by kernel_rfl) ?_; refine TR_pv0 PV_move rfl ?_; (first | refine TR_pv0 (PV_add64 rfl rfl (by omega)) rfl ?_ | refine TR_pv0 (PV_add64w rfl rfl) rfl ?_); refine TR_pv0 PV_assign rfl ?_; refine TR_nil ?_)
        | (refine TC_plain (id := 15) (by kernel_rfl) ?_; refine TR_pv0 PV_move rfl ?_; refine TR_pv0 PV_move rfl ?_; (refine TR_buildSlice (.inl rfl) rfl rfl rfl rfl ?_; intro _))
        | (refine TC_plain (id := 16) (by kernel_rfl) ?_; refine TR_pv0 PV_move rfl ?_; (refine TR_makeSlice (.inl rfl) rfl rfl (by omega) (by omega) rfl ?_; intro _); refine TR_pv0 (PV_build rfl rfl) rfl ?_; refine TR_pv0 PV_move rfl ?_; refine TR_pv0 PV_move rfl ?_; refine TR_pv0 PV_move rfl ?_)
        | (refine TC_plain (id := 17) (by kernel_rfl) ?_; refine TR_pv0 PV_move rfl ?_; refine TR_pv0 (PV_neq rfl rfl) rfl ?_; refine TR_nil ?_)
        | (refine TC_plain (id := 18) (by kernel_rfl) ?_; refine TR_pv0 PV_assign rfl ?_; refine TR_nil ?_)
        | (refine TC_plain (id := 10) (by kernel_rfl) ?_; refine TR_pv0 PV_move rfl ?_; (first | refine TR_pv0 (PV_add64 rfl rfl (by omega)) rfl ?_ | refine TR_pv0 (PV_add64w rfl rfl) rfl ?_); refine TR_pv0 PV_assign rfl ?_; refine TR_nil ?_)
        | (refine TC_plain (id := 19) (by kernel_rfl) ?_; refine TR_pv0 PV_assign rfl ?_; refine TR_nil ?_)
        | (refine TC_plain (id := 20) (by kernel_rfl) ?_; all_goals refine TR_pv0 PV_move rfl ?_; all_goals refine TR_pv0 PV_move rfl ?_; all_goals refine TR_pv0 (PV_len rfl) rfl ?_; all_goals refine TR_pv0 (PV_lss rfl rfl) rfl ?_; all_goals refine TR_pv0 PV_move rfl ?_; all_goals (first | refine TR_pv0 PV_move rfl ?_ | refine TR_skip0 rfl ?_ | (refine TR_gsplit rfl rfl rfl (fun hq => ?_) (fun hq => ?_) <;> (try simp only [qs] at hq) <;> (try simp only [reduceCtorEq] at hq) <;> (try (exfalso; omega)) <;> (try contradiction) <;> (first | refine TR_pv0 PV_move rfl ?_ | refine TR_skip0 rfl ?_))); all_goals (first | refine TR_pv0 (PV_len rfl) rfl ?_ | refine TR_skip0 rfl ?_ | (refine TR_gsplit rfl rfl rfl (fun hq => ?_) (fun hq => ?_) <;> (try simp only [qs] at hq) <;> (try simp only [reduceCtorEq] at hq) <;> (try (exfalso; omega)) <;> (try contradiction) <;> (first | refine TR_pv0 (PV_len rfl) rfl ?_ | refine TR_skip0 rfl ?_))); all_goals (first | refine TR_pv0 (PV_gtr rfl rfl) rfl ?_ | refine TR_skip0 rfl ?_ | (refine TR_gsplit rfl rfl rfl (fun hq => ?_) (fun hq => ?_) <;> (try simp only [qs] at hq) <;> (try simp only [reduceCtorEq] at hq) <;> (try (exfalso; omega)) <;> (try contradiction) <;> (first | refine TR_pv0 (PV_gtr rfl rfl) rfl ?_ | refine TR_skip0 rfl ?_))); all_goals (first | refine TR_pv0 (PV_pick_t rfl) rfl ?_ | refine TR_pv0 (PV_pick_f rfl) rfl ?_); all_goals refine TR_nil ?_)
        | (refine TC_plain (id := 22) (by kernel_rfl) ?_; refine TR_pv0 PV_move rfl ?_; refine TR_pv0 PV_move rfl ?_; refine TR_pv0 PV_move rfl ?_; (first | refine TR_pv0 (PV_indexAddr rfl rfl (by omega)) rfl ?_ | refine TR_pv0 (PV_indexArr rfl rfl (by omega)) rfl ?_); (first | refine TR_load0 rfl 0 rfl rfl rfl ?_ | refine TR_load0 rfl 1 rfl rfl rfl ?_ | refine TR_load0 rfl 2 rfl rfl rfl ?_ | refine TR_load0 rfl 3 rfl rfl rfl ?_); refine TR_pv0 (PV_conv64 rfl (by omega)) rfl ?_; refine TR_pv0 PV_move rfl ?_; refine TR_pv0 (PV_len rfl) rfl ?_; refine TR_pv0 (PV_rem64 rfl rfl (by omega)) rfl ?_; (first | refine TR_pv0 (PV_indexAddr rfl rfl (by omega)) rfl ?_ | refine TR_pv0 (PV_indexArr rfl rfl (by omega)) rfl ?_); (first | refine TR_load0 rfl 0 rfl rfl rfl ?_ | refine TR_load0 rfl 1 rfl rfl rfl ?_ | refine TR_load0 rfl 2 rfl rfl rfl ?_ | refine TR_load0 rfl 3 rfl rfl rfl ?_); refine TR_pv0 PV_assign rfl ?_; refine TR_nil ?_)
        | (refine TC_plain (id := 23) (by kernel_rfl) ?_; refine TR_pv0 PV_move rfl ?_; refine TR_pv0 (PV_eql rfl rfl) rfl ?_; refine TR_nil ?_)
        | (refine TC_plain (id := 24) (by kernel_rfl) ?_; refine TR_pv0 PV_move rfl ?_; refine TR_pv0 PV_move rfl ?_; refine TR_pv0 (PV_sub32 rfl rfl) rfl ?_; refine TR_pv0 PV_move rfl ?_; (first | refine TR_pv0 (PV_add64 rfl rfl (by omega)) rfl ?_ | refine TR_pv0 (PV_add64w rfl rfl) rfl ?_); refine TR_pv0 (PV_conv16 rfl) rfl ?_; refine TR_pv0 PV_move rfl ?_; (first | refine TR_pv0 (PV_add64 rfl rfl (by omega)) rfl ?_ | refine TR_pv0 (PV_add64w rfl rfl) rfl ?_); refine TR_pv0 (PV_conv16 rfl) rfl ?_; refine TR_pv0 (PV_build rfl rfl) rfl ?_; (refine TR_buildSlice (.inl rfl) rfl rfl rfl rfl ?_; intro _); refine TR_pv0 (PV_build rfl rfl) rfl ?_)
        | (refine TC_plain (id := 25) (by kernel_rfl) ?_; all_goals refine TR_pv0 PV_move rfl ?_; all_goals refine TR_pv0 (PV_neq rfl rfl) rfl ?_; all_goals refine TR_pv0 PV_move rfl ?_; all_goals (first | refine TR_pv0 PV_move rfl ?_ | refine TR_skip0 rfl ?_ | (refine TR_gsplit rfl rfl rfl (fun hq => ?_) (fun hq => ?_) <;> (try simp only [qs] at hq) <;> (try simp only [reduceCtorEq] at hq) <;> (try (exfalso; omega)) <;> (try contradiction) <;> (first | refine TR_pv0 PV_move rfl ?_ | refine TR_skip0 rfl ?_))); all_goals refine TR_skip0 rfl ?_; all_goals (first | refine TR_pv0 PV_move rfl ?_ | refine TR_skip0 rfl ?_ | (refine TR_gsplit rfl rfl rfl (fun hq => ?_) (fun hq => ?_) <;> (try simp only [qs] at hq) <;> (try simp only [reduceCtorEq] at hq) <;> (try (exfalso; omega)) <;> (try contradiction) <;> (first | refine TR_pv0 PV_move rfl ?_ | refine TR_skip0 rfl ?_))); all_goals (first | refine TR_pv0 (PV_neq rfl rfl) rfl ?_ | refine TR_skip0 rfl ?_ | (refine TR_gsplit rfl rfl rfl (fun hq => ?_) (fun hq => ?_) <;> (try simp only [qs] at hq) <;> (try simp only [reduceCtorEq] at hq) <;> (try (exfalso; omega)) <;> (try contradiction) <;> (first | refine TR_pv0 (PV_neq rfl rfl) rfl ?_ | refine TR_skip0 rfl ?_))); all_goals (first | refine TR_pv0 (PV_pick_t rfl) rfl ?_ | refine TR_pv0 (PV_pick_f rfl) rfl ?_); all_goals refine TR_nil ?_)
        | (refine TC_plain (id := 26) (by kernel_rfl) ?_; refine TR_pv0 PV_assign rfl ?_; refine TR_nil ?_)
        | (refine TC_plain (id := 27) (by kernel_rfl) ?_; refine TR_pv0 PV_move rfl ?_)
        | (refine TC_plain (id := 28) (by kernel_rfl) ?_; refine TR_pv0 PV_assign rfl ?_; refine TR_nil ?_)
        | (refine TC_plain (id := 29) (by kernel_rfl) ?_; refine TR_pv0 PV_move rfl ?_; refine TR_pv0 PV_move rfl ?_; refine TR_pv0 (PV_len rfl) rfl ?_; refine TR_pv0 (PV_lss rfl rfl) rfl ?_; refine TR_nil ?_)
        | (refine TC_plain (id := 31) (by kernel_rfl) ?_; refine TR_pv0 PV_move rfl ?_; refine TR_pv0 PV_move rfl ?_; refine TR_pv0 PV_move rfl ?_; (first | refine TR_pv0 (PV_indexAddr rfl rfl (by omega)) rfl ?_ | refine TR_pv0 (PV_indexArr rfl rfl (by omega)) rfl ?_); (first | refine TR_load0 rfl 0 rfl rfl rfl ?_ | refine TR_load0 rfl 1 rfl rfl rfl ?_ | refine TR_load0 rfl 2 rfl rfl rfl ?_ | refine TR_load0 rfl 3 rfl rfl rfl ?_))
        | (refine TC_plain (id := 32) (by kernel_rfl) ?_; all_goals refine TR_pv0 PV_move rfl ?_; all_goals refine TR_pv0 (PV_not rfl) rfl ?_; all_goals refine TR_pv0 PV_move rfl ?_; all_goals (first | refine TR_pv0 PV_move rfl ?_ | refine TR_skip0 rfl ?_ | (refine TR_gsplit rfl rfl rfl (fun hq => ?_) (fun hq => ?_) <;> (try simp only [qs] at hq) <;> (try simp only [reduceCtorEq] at hq) <;> (try (exfalso; omega)) <;> (try contradiction) <;> (first | refine TR_pv0 PV_move rfl ?_ | refine TR_skip0 rfl ?_))); all_goals (first | refine TR_pv0 (PV_neq rfl rfl) rfl ?_ | refine TR_skip0 rfl ?_ | (refine TR_gsplit rfl rfl rfl (fun hq => ?_) (fun hq => ?_) <;> (try simp only [qs] at hq) <;> (try simp only [reduceCtorEq] at hq) <;> (try (exfalso; omega)) <;> (try contradiction) <;> (first | refine TR_pv0 (PV_neq rfl rfl) rfl ?_ | refine TR_skip0 rfl ?_))); all_goals (first | refine TR_pv0 (PV_pick_t rfl) rfl ?_ | refine TR_pv0 (PV_pick_f rfl) rfl ?_); all_goals refine TR_nil ?_)
        | (refine TC_plain (id := 33) (by kernel_rfl) ?_; refine TR_pv0 PV_assign rfl ?_; refine TR_nil ?_)
        | (refine TC_plain (id := 30) (by kernel_rfl) ?_; refine TR_pv0 PV_move rfl ?_; (first | refine TR_pv0 (PV_add64 rfl rfl (by omega)) rfl ?_ | refine TR_pv0 (PV_add64w rfl rfl) rfl ?_); refine TR_pv0 PV_assign rfl ?_; refine TR_nil ?_)
        | (refine TC_plain (id := 21) (by kernel_rfl) ?_; refine TR_pv0 PV_move rfl ?_; (first | refine TR_pv0 (PV_add64 rfl rfl (by omega)) rfl ?_ | refine TR_pv0 (PV_add64w rfl rfl) rfl ?_); refine TR_pv0 PV_assign rfl ?_; refine TR_nil ?_)
        | (refine TC_plain (id := 34) (by kernel_rfl) ?_; refine TR_calld0 (flWorks) rfl rfl rfl rfl ?_; refine TR_pv0 PV_assign rfl ?_; refine TR_nil ?_)
        | refine TC_cond_t rfl rfl ?_
        | refine TC_cond_f rfl rfl ?_
        | refine TC_skip ?_
        | refine TC_ret ?_
        | refine TC_exit ?_
        | refine TC_block ?_
        | refine TQ_then_ret ?_
        | refine TQ_then_exit ?_
        | refine TQ_blk ?_
        | refine TQ_blk_ret ?_
        | refine TQ_blk_here ?_
        | refine TQ_blk_past rfl ?_
        | refine TC_label ?_
        | (refine TC_cond rfl rfl (fun hq => ?_) (fun hq => ?_) <;> (try simp only [qs] at hq) <;> (try simp only [reduceCtorEq] at hq) <;> (try (exfalso; omega)) <;> (try contradiction))
        | (refine TR_pv0 PV_move rfl ?_; refine TR_pv0 (PV_extract rfl rfl) rfl ?_; refine TR_pv0 (PV_extract rfl rfl) rfl ?_; refine TR_pv0 PV_assign rfl ?_; refine TR_pv0 PV_assign rfl ?_; refine TR_nil ?_)
        | (refine TR_pv0 PV_assign rfl ?_; refine TR_nil ?_)
        | (refine TR_pv0 PV_move rfl ?_; refine TR_pv0 (PV_extract rfl rfl) rfl ?_; refine TR_pv0 (PV_extract rfl rfl) rfl ?_; (refine TR_alloc0 rfl ?_; intro _); (first | refine TR_storeA0_0 rfl rfl rfl rfl rfl rfl ?_ | refine TR_storeA0_1 rfl rfl rfl rfl rfl rfl ?_ | refine TR_storeA0_2 rfl rfl rfl rfl rfl rfl ?_ | refine TR_storeA0_3 rfl rfl rfl rfl rfl rfl ?_); refine TR_pv0 PV_assign rfl ?_; refine TR_nil ?_)
        | (refine TR_pv0 PV_move rfl ?_; refine TR_pv0 (PV_extract rfl rfl) rfl ?_; refine TR_pv0 (PV_extract rfl rfl) rfl ?_; refine TR_pv0 (PV_extract rfl rfl) rfl ?_; (refine TR_alloc0 rfl ?_; intro _); (first | refine TR_storeA0_0 rfl rfl rfl rfl rfl rfl ?_ | refine TR_storeA0_1 rfl rfl rfl rfl rfl rfl ?_ | refine TR_storeA0_2 rfl rfl rfl rfl rfl rfl ?_ | refine TR_storeA0_3 rfl rfl rfl rfl rfl rfl ?_); refine TR_pv0 PV_assign rfl ?_; refine TR_pv0 PV_assign rfl ?_; refine TR_nil ?_)
      exact TQ_ret1e (v := .bool true) rfl rfl rfl ⟨rfl, rfl⟩ (fun a => by simp only [les]; omega)
  have h1 : ¬ (60 : Int) < n1 := by omega
  have h2 : ¬ (60 : Int) < n2 := by omega
  repeat' first
    | refine TC_seq ?_
    | refine TQ_then ?_
    | refine TR_nil ?_
    | refine TQ_noPanic ?_
    | (refine TC_plain (id := 0) (by kernel_rfl) ?_; refine TR_pv0 PV_assign rfl ?_; refine TR_nil ?_)
    | (refine TC_plain (id := 1) (by kernel_rfl) ?_; all_goals refine TR_pv0 PV_move rfl ?_; all_goals refine TR_pv0 (PV_len rfl) rfl ?_; all_goals refine TR_pv0 (PV_gtr rfl rfl) rfl ?_; all_goals refine TR_pv0 PV_move rfl ?_; all_goals (first | refine TR_pv0 PV_move rfl ?_ | refine TR_skip0 rfl ?_ | (refine TR_gsplit rfl rfl rfl (fun hq => ?_) (fun hq => ?_) <;> (try simp only [qs] at hq) <;> (try simp only [reduceCtorEq] at hq) <;> (try (exfalso; omega)) <;> (try contradiction) <;> (first | refine TR_pv0 PV_move rfl ?_ | refine TR_skip0 rfl ?_))); all_goals (first | refine TR_pv0 (PV_len rfl) rfl ?_ | refine TR_skip0 rfl ?_ | (refine TR_gsplit rfl rfl rfl (fun hq => ?_) (fun hq => ?_) <;> (try simp only [qs] at hq) <;> (try simp only [reduceCtorEq] at hq) <;> (try (exfalso; omega)) <;> (try contradiction) <;> (first | refine TR_pv0 (PV_len rfl) rfl ?_ | refine TR_skip0 rfl ?_))); all_goals (first | refine TR_pv0 (PV_gtr rfl rfl) rfl ?_ | refine TR_skip0 rfl ?_ | (refine TR_gsplit rfl rfl rfl (fun hq => ?_) (fun hq => ?_) <;> (try simp only [qs] at hq) <;> (try simp only [reduceCtorEq] at hq) <;> (try (exfalso; omega)) <;> (try contradiction) <;> (first | refine TR_pv0 (PV_gtr rfl rfl) rfl ?_ | refine TR_skip0 rfl ?_))); all_goals (first | refine TR_pv0 (PV_pick_t rfl) rfl ?_ | refine TR_pv0 (PV_pick_f rfl) rfl ?_); all_goals refine TR_nil ?_)
    | (refine TC_plain (id := 2) (by kernel_rfl) ?_; refine TR_calld0 (flWorks) rfl rfl rfl rfl ?_; refine TR_pv0 PV_assign rfl ?_; refine TR_nil ?_)
    | (refine TC_plain (id := 3) (by kernel_rfl) ?_; refine TR_pv0 PV_move rfl ?_; (refine TR_call0 (newF_ct 2 c ⟨by omega, by omega⟩) rfl rfl .nil rfl ?_; rintro _ _ ⟨b, rfl, rfl⟩); refine TR_pv0 PV_move rfl ?_; refine TR_pv0 (PV_extract rfl rfl) rfl ?_; refine TR_pv0 (PV_extract rfl rfl) rfl ?_; refine TR_pv0 PV_assign rfl ?_; refine TR_pv0 PV_assign rfl ?_; refine TR_nil ?_)
    | (refine TC_plain (id := 4) (by kernel_rfl) ?_; refine TR_pv0 PV_move rfl ?_; refine TR_pv0 (PV_neq rfl rfl) rfl ?_; refine TR_nil ?_)
    | (refine TC_plain (id := 5) (by kernel_rfl) ?_; refine TR_pv0 PV_assign rfl ?_; refine TR_nil ?_)
    | (refine TC_plain (id := 6) (by kernel_rfl) ?_; refine TR_pv0 PV_assign rfl ?_; refine TR_nil ?_)
    | (refine TC_plain (id := 7) (by kernel_rfl) ?_; refine TR_pv0 PV_assign rfl ?_; refine TR_nil ?_)
    | (refine TC_plain (id := 8) (by kernel_rfl) ?_; refine TR_pv0 PV_assign rfl ?_; refine TR_nil ?_)
    | refine TC_cond_t rfl rfl ?_
    | refine TC_cond_f rfl rfl ?_
    | refine TC_skip ?_
    | refine TC_ret ?_
    | refine TC_exit ?_
    | refine TC_block ?_
    | refine TQ_then_ret ?_
    | refine TQ_then_exit ?_
    | refine TQ_blk ?_
    | refine TQ_blk_ret ?_
    | refine TQ_blk_here ?_
    | refine TQ_blk_past rfl ?_
    | refine TC_label ?_
    | (refine TC_cond rfl rfl (fun hq => ?_) (fun hq => ?_) <;> (try simp only [qs] at hq) <;> (try simp only [reduceCtorEq] at hq) <;> (try (exfalso; omega)) <;> (try contradiction))
  refine TC_loopP (X := Nat × FL × Row × List Nat) (fun s => s.2.1.seg b :: s.2.2.1.C :: H :: R) (fun s => [(0, u32 c), (1, .slice a1 n1 cap1), (2, .slice a2 n2 cap2), (7, ptr b), (9, i64 (tenOf (ons.take s.1))), (10, s.2.2.1.val s.2.2.2.length), (11, i64 s.1)])
    (fun s => SpI1 ons ((c - 1) % 4294967296) s.1 s.2.1 s.2.2.1 s.2.2.2) (fun s => n1 - s.1) (0, ⟨[], ⟨none, 0, []⟩, (c - 1) % 4294967296, 2⟩, ⟨none, 0, []⟩, [])
    ⟨Nat.zero_le _, newX_ok ⟨by omega, by omega⟩ ⟨by omega, by omega⟩, ⟨rfl, rfl, fun j r b hr _ => by cases hr⟩, rfl, .nil, (fun z hz => by cases hz), Nat.le_refl _⟩ ⟨rfl, rfl, rfl, rfl, rfl, rfl, rfl, trivial⟩ (fun w hs => hs.le (fun a => by simp only [les]; omega)) ?_
  rintro ⟨k, X, row, zs⟩ σg mm hmm hi
  dsimp only at hmm hi ⊢
  have hX := hi.ok
  have hrow := hi.row
  have hkn := hi.kn
  have hzl := hi.zl
  have hten := tenOf_le (ons.take k)
  have htl : (ons.take k).length ≤ k := by simp; omega
  by_cases hk : k < n1
  · obtain ⟨o, ho⟩ : ∃ o, ons[k]? = some o := ⟨ons[k], List.getElem?_eq_getElem (by omega)⟩
    obtain ⟨bb, off, T, cs, fz, ha1, hmem, htk⟩ := hs1.at_ k [.bool o] (by rw [List.getElem?_map, ho]; rfl)
    have h0 : cs[off + k * 1]? = some (.bool o) := take_at (j := 0) htk (by omega)
    subst ha1
    have htn := tenOf_next ho
    cases o with
    | true =>
      have a1 : X.abs.addE (zPc 10) 1 = 0 := hi.so.addE (by omega) rfl (.inr rfl)
      repeat' first
        | refine TC_seq ?_
        | refine TQ_then ?_
        | refine TR_nil ?_
        | refine TQ_noPanic ?_
        | (refine TC_plain (id := 9) (by kernel_rfl) ?_; refine TR_pv0 PV_move rfl ?_; refine TR_pv0 PV_move rfl ?_; refine TR_pv0 (PV_len rfl) rfl ?_; refine TR_pv0 (PV_lss rfl rfl) rfl ?_; refine TR_nil ?_)
        | (refine TC_plain (id := 11) (by kernel_rfl) ?_; refine TR_pv0 PV_assign rfl ?_; refine TR_nil ?_)
        | (refine TC_plain (id := 12) (by kernel_rfl) ?_; refine TR_pv0 PV_move rfl ?_; refine TR_pv0 PV_move rfl ?_; (first | refine TR_pv0 (PV_indexAddr rfl rfl (by omega)) rfl ?_ | refine TR_pv0 (PV_indexArr rfl rfl (by omega)) rfl ?_); (first | refine TR_loadM0 rfl hmem 2 rfl h0 rfl ?_ | refine TR_load0 rfl 0 rfl rfl rfl ?_ | refine TR_load0 rfl 1 rfl rfl rfl ?_ | refine TR_load0 rfl 2 rfl rfl rfl ?_ | refine TR_load0 rfl 3 rfl rfl rfl ?_); refine TR_nil ?_)
        | (refine TC_plain (id := 13) (by kernel_rfl) ?_; refine TR_pv0 PV_assign rfl ?_; refine TR_nil ?_)
        | (refine TC_plain (id := 14) (by kernel_rfl) ?_; refine TR_pv0 PV_move rfl ?_; (first | refine TR_pv0 (PV_add64 rfl rfl (by omega)) rfl ?_ | refine TR_pv0 (PV_add64w rfl rfl) rfl ?_); refine TR_pv0 PV_assign rfl ?_; refine TR_nil ?_)
        | (refine TC_plain (id := 15) (by kernel_rfl) ?_; refine TR_pv0 PV_move rfl ?_; refine TR_pv0 PV_move rfl ?_; (refine TR_buildSlice (.inl rfl) rfl rfl rfl rfl ?_; intro q))
        | (refine TC_plain (id := 16) (by kernel_rfl) ?_; refine TR_pv0 PV_move rfl ?_; (refine TR_makeSlice (.inl rfl) rfl rfl (by omega) (by omega) rfl ?_; intro mb); refine TR_pv0 (PV_build rfl rfl) rfl ?_; refine TR_pv0 PV_move rfl ?_; refine TR_pv0 PV_move rfl ?_; refine TR_pv0 PV_move rfl ?_; (refine TR_call0 (addZ_ct b mb X hX 10 1 k k (by omega) a1) rfl rfl (.cons (.there .here) (.cons .here .nil)) rfl ?_; rintro _ _ ⟨rfl, X', rfl, hX', hA'⟩); refine TR_pv0 PV_move rfl ?_; refine TR_pv0 (PV_extract rfl rfl) rfl ?_; refine TR_pv0 (PV_extract rfl rfl) rfl ?_; refine TR_pv0 PV_assign rfl ?_; refine TR_pv0 PV_assign rfl ?_; refine TR_nil ?_)
        | (refine TC_plain (id := 17) (by kernel_rfl) ?_; refine TR_pv0 PV_move rfl ?_; refine TR_pv0 (PV_neq rfl rfl) rfl ?_; refine TR_nil ?_)
        | (refine TC_plain (id := 18) (by kernel_rfl) ?_; refine TR_pv0 PV_assign rfl ?_; refine TR_nil ?_)
        | (refine TC_plain (id := 10) (by kernel_rfl) ?_; refine TR_pv0 PV_move rfl ?_; (first | refine TR_pv0 (PV_add64 rfl rfl (by omega)) rfl ?_ | refine TR_pv0 (PV_add64w rfl rfl) rfl ?_); refine TR_pv0 PV_assign rfl ?_; refine TR_nil ?_)
        | refine TC_cond_t rfl rfl ?_
        | refine TC_cond_f rfl rfl ?_
        | refine TC_skip ?_
        | refine TC_ret ?_
        | refine TC_exit ?_
        | refine TC_block ?_
        | refine TQ_then_ret ?_
        | refine TQ_then_exit ?_
        | refine TQ_blk ?_
        | refine TQ_blk_ret ?_
        | refine TQ_blk_here ?_
        | refine TQ_blk_past rfl ?_
        | refine TC_label ?_
        | (refine TC_cond rfl rfl (fun hq => ?_) (fun hq => ?_) <;> (try simp only [qs] at hq) <;> (try simp only [reduceCtorEq] at hq) <;> (try (exfalso; omega)) <;> (try contradiction))
        | (refine TR_pv0 PV_assign rfl ?_; refine TR_nil ?_)
      refine TQ_roundP (k + 1, X', row, zs) (hi.add ho rfl (by omega) hX' hA' hrow (fun z hz => .inl hz) (Nat.le_succ_of_le hzl)) (by show n1 - (k + 1) < mm; omega) ⟨rfl, rfl, rfl, rfl, ?_, rfl, rfl, trivial⟩
        (fun w hs => St.le (L := X'.seg b :: blk mb 5 (zrow [Value.int .u8 0] (10 * 1)) :: row.C :: H :: R) hs (fun a => by simp only [les]; omega))
      rw [htn]; rfl
    | false =>
      have a1 : X.abs.addE (zPc 10) 0 = 0 := hi.so.addE (by omega) rfl (.inl rfl)
      repeat' first
        | refine TC_seq ?_
        | refine TQ_then ?_
        | refine TR_nil ?_
        | refine TQ_noPanic ?_
        | (refine TC_plain (id := 9) (by kernel_rfl) ?_; refine TR_pv0 PV_move rfl ?_; refine TR_pv0 PV_move rfl ?_; refine TR_pv0 (PV_len rfl) rfl ?_; refine TR_pv0 (PV_lss rfl rfl) rfl ?_; refine TR_nil ?_)
        | (refine TC_plain (id := 11) (by kernel_rfl) ?_; refine TR_pv0 PV_assign rfl ?_; refine TR_nil ?_)
        | (refine TC_plain (id := 12) (by kernel_rfl) ?_; refine TR_pv0 PV_move rfl ?_; refine TR_pv0 PV_move rfl ?_; (first | refine TR_pv0 (PV_indexAddr rfl rfl (by omega)) rfl ?_ | refine TR_pv0 (PV_indexArr rfl rfl (by omega)) rfl ?_); (first | refine TR_loadM0 rfl hmem 2 rfl h0 rfl ?_ | refine TR_load0 rfl 0 rfl rfl rfl ?_ | refine TR_load0 rfl 1 rfl rfl rfl ?_ | refine TR_load0 rfl 2 rfl rfl rfl ?_ | refine TR_load0 rfl 3 rfl rfl rfl ?_); refine TR_nil ?_)
        | (refine TC_plain (id := 13) (by kernel_rfl) ?_; refine TR_pv0 PV_assign rfl ?_; refine TR_nil ?_)
        | (refine TC_plain (id := 14) (by kernel_rfl) ?_; refine TR_pv0 PV_move rfl ?_; (first | refine TR_pv0 (PV_add64 rfl rfl (by omega)) rfl ?_ | refine TR_pv0 (PV_add64w rfl rfl) rfl ?_); refine TR_pv0 PV_assign rfl ?_; refine TR_nil ?_)
        | (refine TC_plain (id := 15) (by kernel_rfl) ?_; refine TR_pv0 PV_move rfl ?_; refine TR_pv0 PV_move rfl ?_; (refine TR_buildSlice (.inl rfl) rfl rfl rfl rfl ?_; intro q); (refine TR_appendP (.inl rfl) hrow rfl rfl (.cons (.there (.there .here)) .nil) (src_at (m := 1) 0 rfl rfl) rfl rfl (by omega) rfl ?_; intro a' cap' C' hS); refine TR_pv0 PV_assign rfl ?_; refine TR_nil ?_)
        | (refine TC_plain (id := 16) (by kernel_rfl) ?_; refine TR_pv0 PV_move rfl ?_; (refine TR_makeSlice (.inl rfl) rfl rfl (by omega) (by omega) rfl ?_; intro mb); refine TR_pv0 (PV_build rfl rfl) rfl ?_; refine TR_pv0 PV_move rfl ?_; refine TR_pv0 PV_move rfl ?_; refine TR_pv0 PV_move rfl ?_; (refine TR_call0 (addZ_ct b mb X hX 10 0 k k (by omega) a1) rfl rfl (.cons (.there (.there (.there .here))) (.cons .here .nil)) rfl ?_; rintro _ _ ⟨rfl, X', rfl, hX', hA'⟩); refine TR_pv0 PV_move rfl ?_; refine TR_pv0 (PV_extract rfl rfl) rfl ?_; refine TR_pv0 (PV_extract rfl rfl) rfl ?_; refine TR_pv0 PV_assign rfl ?_; refine TR_pv0 PV_assign rfl ?_; refine TR_nil ?_)
        | (refine TC_plain (id := 17) (by kernel_rfl) ?_; refine TR_pv0 PV_move rfl ?_; refine TR_pv0 (PV_neq rfl rfl) rfl ?_; refine TR_nil ?_)
        | (refine TC_plain (id := 18) (by kernel_rfl) ?_; refine TR_pv0 PV_assign rfl ?_; refine TR_nil ?_)
        | (refine TC_plain (id := 10) (by kernel_rfl) ?_; refine TR_pv0 PV_move rfl ?_; (first | refine TR_pv0 (PV_add64 rfl rfl (by omega)) rfl ?_ | refine TR_pv0 (PV_add64w rfl rfl) rfl ?_); refine TR_pv0 PV_assign rfl ?_; refine TR_nil ?_)
        | refine TC_cond_t rfl rfl ?_
        | refine TC_cond_f rfl rfl ?_
        | refine TC_skip ?_
        | refine TC_ret ?_
        | refine TC_exit ?_
        | refine TC_block ?_
        | refine TQ_then_ret ?_
        | refine TQ_then_exit ?_
        | refine TQ_blk ?_
        | refine TQ_blk_ret ?_
        | refine TQ_blk_here ?_
        | refine TQ_blk_past rfl ?_
        | refine TC_label ?_
        | (refine TC_cond rfl rfl (fun hq => ?_) (fun hq => ?_) <;> (try simp only [qs] at hq) <;> (try simp only [reduceCtorEq] at hq) <;> (try (exfalso; omega)) <;> (try contradiction))
      refine TQ_roundP (k + 1, X', ⟨a', cap', C'⟩, zs ++ [k]) (hi.add ho rfl (by omega) hX' hA' ?_ (fun z hz => ?_) ?_) (by show n1 - (k + 1) < mm; omega) ⟨rfl, rfl, rfl, rfl, ?_, ?_, rfl, trivial⟩
        (fun w hs => St.le (L := X'.seg b :: blk mb 5 (zrow [Value.int .u8 0] (10 * 1)) :: C' :: blk q 3 [i64 k] :: H :: R) hs (fun a => by simp only [les]; omega))
      · show Sl _ _ _ _ _ _ _
        rw [List.length_append, List.map_append]; exact hS
      · rcases List.mem_append.1 hz with h | h
        · exact .inl h
        · exact .inr ⟨List.mem_singleton.1 h, rfl⟩
      · rw [List.length_append]; exact Nat.succ_le_succ hzl
      · rw [htn]; simp; rfl
      · rw [List.length_append]; rfl
  · obtain rfl : k = n1 := by omega
    have hso := hi.so
    rw [← hl1, List.take_length] at hso
    have htk : tenOf (ons.take k) = tenOf ons := by rw [← hl1, List.take_length]
    have hzi := hi.zi
    rw [← hl1, List.take_length] at hzi
    repeat' first
      | refine TC_seq ?_
      | refine TQ_then ?_
      | refine TR_nil ?_
      | refine TQ_noPanic ?_
      | (refine TC_plain (id := 9) (by kernel_rfl) ?_; refine TR_pv0 PV_move rfl ?_; refine TR_pv0 PV_move rfl ?_; refine TR_pv0 (PV_len rfl) rfl ?_; refine TR_pv0 (PV_lss rfl rfl) rfl ?_; refine TR_nil ?_)
      | (refine TC_plain (id := 11) (by kernel_rfl) ?_; refine TR_pv0 PV_assign rfl ?_; refine TR_nil ?_)
      | (refine TC_plain (id := 12) (by kernel_rfl) ?_; refine TR_pv0 PV_move rfl ?_; refine TR_pv0 PV_move rfl ?_; (first | refine TR_pv0 (PV_indexAddr rfl rfl (by omega)) rfl ?_ | refine TR_pv0 (PV_indexArr rfl rfl (by omega)) rfl ?_); (first | refine TR_load0 rfl 0 rfl rfl rfl ?_ | refine TR_load0 rfl 1 rfl rfl rfl ?_ | refine TR_load0 rfl 2 rfl rfl rfl ?_ | refine TR_load0 rfl 3 rfl rfl rfl ?_); refine TR_nil ?_)
      | (refine TC_plain (id := 13) (by kernel_rfl) ?_; refine TR_pv0 PV_assign rfl ?_; refine TR_nil ?_)
      | (refine TC_plain (id := 14) (by kernel_rfl) ?_; refine TR_pv0 PV_move rfl ?_; (first | refine TR_pv0 (PV_add64 rfl rfl (by omega)) rfl ?_ | refine TR_pv0 (PV_add64w rfl rfl) rfl ?_); refine TR_pv0 PV_assign rfl ?_; refine TR_nil ?_)
      | (refine TC_plain (id := 15) (by kernel_rfl) ?_; refine TR_pv0 PV_move rfl ?_; refine TR_pv0 PV_move rfl ?_; (refine TR_buildSlice (.inl rfl) rfl rfl rfl rfl ?_; intro _))
      | (refine TC_plain (id := 16) (by kernel_rfl) ?_; refine TR_pv0 PV_move rfl ?_; (refine TR_makeSlice (.inl rfl) rfl rfl (by omega) (by omega) rfl ?_; intro _); refine TR_pv0 (PV_build rfl rfl) rfl ?_; refine TR_pv0 PV_move rfl ?_; refine TR_pv0 PV_move rfl ?_; refine TR_pv0 PV_move rfl ?_)
      | (refine TC_plain (id := 17) (by kernel_rfl) ?_; refine TR_pv0 PV_move rfl ?_; refine TR_pv0 (PV_neq rfl rfl) rfl ?_; refine TR_nil ?_)
      | (refine TC_plain (id := 18) (by kernel_rfl) ?_; refine TR_pv0 PV_assign rfl ?_; refine TR_nil ?_)
      | (refine TC_plain (id := 10) (by kernel_rfl) ?_; refine TR_pv0 PV_move rfl ?_; (first | refine TR_pv0 (PV_add64 rfl rfl (by omega)) rfl ?_ | refine TR_pv0 (PV_add64w rfl rfl) rfl ?_); refine TR_pv0 PV_assign rfl ?_; refine TR_nil ?_)
      | (refine TC_plain (id := 19) (by kernel_rfl) ?_; refine TR_pv0 PV_assign rfl ?_; refine TR_nil ?_)
      | refine TC_cond_t rfl rfl ?_
      | refine TC_cond_f rfl rfl ?_
      | refine TC_skip ?_
      | refine TC_ret ?_
      | refine TC_exit ?_
      | refine TC_block ?_
      | refine TQ_then_ret ?_
      | refine TQ_then_exit ?_
      | refine TQ_blk ?_
      | refine TQ_blk_ret ?_
      | refine TQ_blk_here ?_
      | refine TQ_blk_past rfl ?_
      | refine TC_label ?_
      | (refine TC_cond rfl rfl (fun hq => ?_) (fun hq => ?_) <;> (try simp only [qs] at hq) <;> (try simp only [reduceCtorEq] at hq) <;> (try (exfalso; omega)) <;> (try contradiction))
      | (refine TR_pv0 PV_assign rfl ?_; refine TR_nil ?_)
      | (refine TR_pv0 PV_move rfl ?_; refine TR_pv0 (PV_extract rfl rfl) rfl ?_; refine TR_pv0 (PV_extract rfl rfl) rfl ?_; refine TR_pv0 PV_assign rfl ?_; refine TR_pv0 PV_assign rfl ?_; refine TR_nil ?_)
    refine TC_loopP (X := Nat × FL) (fun s => s.2.seg b :: row.C :: H :: R) (fun s => [(0, u32 c), (2, .slice a2 n2 cap2), (7, ptr b), (9, i64 (tenOf ons)), (10, row.val zs.length), (15, i64 s.1)])
      (fun s => s.1 ≤ n2 ∧ FlOk s.2 ∧ SplitOk ons s.2.abs ∧ s.2.cum = (c - 1) % 4294967296) (fun s => n2 - s.1) (0, X) ⟨Nat.zero_le _, hX, hso, hi.cum⟩ ⟨rfl, rfl, rfl, congrArg _ htk, rfl, rfl, trivial⟩ (fun w hs => hs.le (fun a => by simp only [les]; omega)) ?_
    rintro ⟨j, Y⟩ σh mm2 hmm2 ⟨hj, hY, hYs, hYc⟩
    dsimp only at hmm2 hj hY hYs hYc ⊢
    by_cases hlt : j < n2
    · by_cases hz0 : 0 < zs.length
      · obtain ⟨s, hs⟩ : ∃ s, acks[j]? = some s := ⟨acks[j], List.getElem?_eq_getElem (by omega)⟩
        obtain ⟨bb, off, T, cs, fz, ha2, hmem, htk2⟩ := hs2.at_ j [.int .u8 s] (by rw [List.getElem?_map, hs]; rfl)
        have h0 : cs[off + j * 1]? = some (.int .u8 s) := take_at (j := 0) htk2 (by omega)
        have hsr := ha s (List.mem_of_getElem? hs)
        have hr0 : 0 ≤ s % (zs.length : Int) := Int.emod_nonneg _ (by omega)
        have hr1 : s % (zs.length : Int) < zs.length := Int.emod_lt_of_pos _ (by omega)
        obtain ⟨z, hz⟩ : ∃ z, zs[(s % (zs.length : Int)).toNat]? = some z := ⟨zs[(s % (zs.length : Int)).toNat]'(by omega), List.getElem?_eq_getElem _⟩
        have hzk := hzi z (List.mem_of_getElem? hz)
        have hzlt := (List.getElem?_eq_some_iff.1 hzk).1
        obtain ⟨rb, off2, cells, har, hC, hcl, hct⟩ := hrow.opened hz0
        have hsl : Value.slice row.a zs.length row.cap = .slice (some ⟨rb, off2, none⟩) zs.length row.cap := by rw [har]
        have hc0 : cells[off2 + (s % (zs.length : Int)).toNat * 1]? = some (i64 z) := by
          rw [Nat.mul_one, take_at hct (j := (s % (zs.length : Int)).toNat) (by omega), List.getElem?_map, hz]; rfl
        have hgm : (rb, Obj.cells cells.toArray 3 (0, 0)) ∈ row.C := by rw [hC]; exact .head _
        subst ha2
        by_cases hz1 : (z : Int) = 0
        · repeat' first
          | refine TC_seq ?_
          | refine TQ_then ?_
          | refine TR_nil ?_
          | refine TQ_noPanic ?_
          | (refine TC_plain (id := 20) (by kernel_rfl) ?_; all_goals refine TR_pv0 PV_move rfl ?_; all_goals refine TR_pv0 PV_move rfl ?_; all_goals refine TR_pv0 (PV_len rfl) rfl ?_; all_goals refine TR_pv0 (PV_lss rfl rfl) rfl ?_; all_goals refine TR_pv0 PV_move rfl ?_; all_goals (first | refine TR_pv0 PV_move rfl ?_ | refine TR_skip0 rfl ?_ | (refine TR_gsplit rfl rfl rfl (fun hq => ?_) (fun hq => ?_) <;> (try simp only [qs] at hq) <;> (try simp only [reduceCtorEq] at hq) <;> (try (exfalso; omega)) <;> (try contradiction) <;> (first | refine TR_pv0 PV_move rfl ?_ | refine TR_skip0 rfl ?_))); all_goals (first | refine TR_pv0 (PV_len rfl) rfl ?_ | refine TR_skip0 rfl ?_ | (refine TR_gsplit rfl rfl rfl (fun hq => ?_) (fun hq => ?_) <;> (try simp only [qs] at hq) <;> (try simp only [reduceCtorEq] at hq) <;> (try (exfalso; omega)) <;> (try contradiction) <;> (first | refine TR_pv0 (PV_len rfl) rfl ?_ | refine TR_skip0 rfl ?_))); all_goals (first | refine TR_pv0 (PV_gtr rfl rfl) rfl ?_ | refine TR_skip0 rfl ?_ | (refine TR_gsplit rfl rfl rfl (fun hq => ?_) (fun hq => ?_) <;> (try simp only [qs] at hq) <;> (try simp only [reduceCtorEq] at hq) <;> (try (exfalso; omega)) <;> (try contradiction) <;> (first | refine TR_pv0 (PV_gtr rfl rfl) rfl ?_ | refine TR_skip0 rfl ?_))); all_goals (first | refine TR_pv0 (PV_pick_t rfl) rfl ?_ | refine TR_pv0 (PV_pick_f rfl) rfl ?_); all_goals refine TR_nil ?_)
          | (refine TC_plain (id := 22) (by kernel_rfl) ?_; refine TR_pv0 PV_move rfl ?_; refine TR_pv0 PV_move rfl ?_; refine TR_pv0 PV_move rfl ?_; (first | refine TR_pv0 (PV_indexAddr hsl rfl ⟨hr0, hr1⟩) rfl ?_ | refine TR_pv0 (PV_indexAddr rfl rfl (by omega)) rfl ?_ | refine TR_pv0 (PV_indexArr rfl rfl (by omega)) rfl ?_); (first | refine TR_loadM0 rfl hmem 2 rfl h0 rfl ?_ | refine TR_loadM0 rfl hgm 1 rfl hc0 rfl ?_ | refine TR_load0 rfl 0 rfl rfl rfl ?_ | refine TR_load0 rfl 1 rfl rfl rfl ?_ | refine TR_load0 rfl 2 rfl rfl rfl ?_ | refine TR_load0 rfl 3 rfl rfl rfl ?_); refine TR_pv0 (PV_conv64 rfl (by omega)) rfl ?_; refine TR_pv0 PV_move rfl ?_; refine TR_pv0 (PV_len rfl) rfl ?_; refine TR_pv0 (PV_rem64 rfl rfl (by omega)) rfl ?_; (first | refine TR_pv0 (PV_indexAddr hsl rfl ⟨hr0, hr1⟩) rfl ?_ | refine TR_pv0 (PV_indexAddr rfl rfl (by omega)) rfl ?_ | refine TR_pv0 (PV_indexArr rfl rfl (by omega)) rfl ?_); (first | refine TR_loadM0 rfl hmem 2 rfl h0 rfl ?_ | refine TR_loadM0 rfl hgm 1 rfl hc0 rfl ?_ | refine TR_load0 rfl 0 rfl rfl rfl ?_ | refine TR_load0 rfl 1 rfl rfl rfl ?_ | refine TR_load0 rfl 2 rfl rfl rfl ?_ | refine TR_load0 rfl 3 rfl rfl rfl ?_); refine TR_pv0 PV_assign rfl ?_; refine TR_nil ?_)
          | (refine TC_plain (id := 23) (by kernel_rfl) ?_; refine TR_pv0 PV_move rfl ?_; refine TR_pv0 (PV_eql rfl rfl) rfl ?_; refine TR_nil ?_)
          | (refine TC_plain (id := 21) (by kernel_rfl) ?_; refine TR_pv0 PV_move rfl ?_; (first | refine TR_pv0 (PV_add64 rfl rfl (by omega)) rfl ?_ | refine TR_pv0 (PV_add64w rfl rfl) rfl ?_); refine TR_pv0 PV_assign rfl ?_; refine TR_nil ?_)
          | refine TC_cond_t rfl rfl ?_
          | refine TC_cond_f rfl rfl ?_
          | refine TC_skip ?_
          | refine TC_ret ?_
          | refine TC_exit ?_
          | refine TC_block ?_
          | refine TQ_then_ret ?_
          | refine TQ_then_exit ?_
          | refine TQ_blk ?_
          | refine TQ_blk_ret ?_
          | refine TQ_blk_here ?_
          | refine TQ_blk_past rfl ?_
          | refine TC_label ?_
          | (refine TC_cond rfl rfl (fun hq => ?_) (fun hq => ?_) <;> (try simp only [qs] at hq) <;> (try simp only [reduceCtorEq] at hq) <;> (try (exfalso; omega)) <;> (try contradiction))
          exact TQ_roundP (j + 1, Y) ⟨hlt, hY, hYs, hYc⟩ (by show n2 - (j + 1) < mm2; omega) ⟨rfl, rfl, rfl, rfl, rfl, rfl, trivial⟩ (fun w hs => hs)
        · have hmay : Y.abs.may ((c - 1) % 4294967296) [(((z : Int) + 1) % 65536, ((z : Int) + 1) % 65536)] = true := by
            rw [show ((z : Int) + 1) % 65536 = z + 1 by omega, ← hYc]
            exact may_one Y.abs (by omega) (by rw [hYs.len]; omega)
          have hsk := sack1_ct b Y hY rfl ((c - 1) % 4294967296) (((z : Int) + 1) % 65536) (((z : Int) + 1) % 65536) _ (by omega) (by omega) (by omega) hmay rfl
          have hZs : SplitOk ons (Y.abs.sack ((c - 1) % 4294967296) [(((z : Int) + 1) % 65536, ((z : Int) + 1) % 65536)]) := by
            rw [show ((z : Int) + 1) % 65536 = z + 1 by omega, ← hYc]
            exact hYs.sack hzk
          repeat' first
            | refine TC_seq ?_
            | refine TQ_then ?_
            | refine TR_nil ?_
            | refine TQ_noPanic ?_
            | (refine TC_plain (id := 20) (by kernel_rfl) ?_; all_goals refine TR_pv0 PV_move rfl ?_; all_goals refine TR_pv0 PV_move rfl ?_; all_goals refine TR_pv0 (PV_len rfl) rfl ?_; all_goals refine TR_pv0 (PV_lss rfl rfl) rfl ?_; all_goals refine TR_pv0 PV_move rfl ?_; all_goals (first | refine TR_pv0 PV_move rfl ?_ | refine TR_skip0 rfl ?_ | (refine TR_gsplit rfl rfl rfl (fun hq => ?_) (fun hq => ?_) <;> (try simp only [qs] at hq) <;> (try simp only [reduceCtorEq] at hq) <;> (try (exfalso; omega)) <;> (try contradiction) <;> (first | refine TR_pv0 PV_move rfl ?_ | refine TR_skip0 rfl ?_))); all_goals (first | refine TR_pv0 (PV_len rfl) rfl ?_ | refine TR_skip0 rfl ?_ | (refine TR_gsplit rfl rfl rfl (fun hq => ?_) (fun hq => ?_) <;> (try simp only [qs] at hq) <;> (try simp only [reduceCtorEq] at hq) <;> (try (exfalso; omega)) <;> (try contradiction) <;> (first | refine TR_pv0 (PV_len rfl) rfl ?_ | refine TR_skip0 rfl ?_))); all_goals (first | refine TR_pv0 (PV_gtr rfl rfl) rfl ?_ | refine TR_skip0 rfl ?_ | (refine TR_gsplit rfl rfl rfl (fun hq => ?_) (fun hq => ?_) <;> (try simp only [qs] at hq) <;> (try simp only [reduceCtorEq] at hq) <;> (try (exfalso; omega)) <;> (try contradiction) <;> (first | refine TR_pv0 (PV_gtr rfl rfl) rfl ?_ | refine TR_skip0 rfl ?_))); all_goals (first | refine TR_pv0 (PV_pick_t rfl) rfl ?_ | refine TR_pv0 (PV_pick_f rfl) rfl ?_); all_goals refine TR_nil ?_)
            | (refine TC_plain (id := 22) (by kernel_rfl) ?_; refine TR_pv0 PV_move rfl ?_; refine TR_pv0 PV_move rfl ?_; refine TR_pv0 PV_move rfl ?_; (first | refine TR_pv0 (PV_indexAddr hsl rfl ⟨hr0, hr1⟩) rfl ?_ | refine TR_pv0 (PV_indexAddr rfl rfl (by omega)) rfl ?_ | refine TR_pv0 (PV_indexArr rfl rfl (by omega)) rfl ?_); (first | refine TR_loadM0 rfl hmem 2 rfl h0 rfl ?_ | refine TR_loadM0 rfl hgm 1 rfl hc0 rfl ?_ | refine TR_load0 rfl 0 rfl rfl rfl ?_ | refine TR_load0 rfl 1 rfl rfl rfl ?_ | refine TR_load0 rfl 2 rfl rfl rfl ?_ | refine TR_load0 rfl 3 rfl rfl rfl ?_); refine TR_pv0 (PV_conv64 rfl (by omega)) rfl ?_; refine TR_pv0 PV_move rfl ?_; refine TR_pv0 (PV_len rfl) rfl ?_; refine TR_pv0 (PV_rem64 rfl rfl (by omega)) rfl ?_; (first | refine TR_pv0 (PV_indexAddr hsl rfl ⟨hr0, hr1⟩) rfl ?_ | refine TR_pv0 (PV_indexAddr rfl rfl (by omega)) rfl ?_ | refine TR_pv0 (PV_indexArr rfl rfl (by omega)) rfl ?_); (first | refine TR_loadM0 rfl hmem 2 rfl h0 rfl ?_ | refine TR_loadM0 rfl hgm 1 rfl hc0 rfl ?_ | refine TR_load0 rfl 0 rfl rfl rfl ?_ | refine TR_load0 rfl 1 rfl rfl rfl ?_ | refine TR_load0 rfl 2 rfl rfl rfl ?_ | refine TR_load0 rfl 3 rfl rfl rfl ?_); refine TR_pv0 PV_assign rfl ?_; refine TR_nil ?_)
            | (refine TC_plain (id := 23) (by kernel_rfl) ?_; refine TR_pv0 PV_move rfl ?_; refine TR_pv0 (PV_eql rfl rfl) rfl ?_; refine TR_nil ?_)
            | (refine TC_plain (id := 24) (by kernel_rfl) ?_; refine TR_pv0 PV_move rfl ?_; refine TR_pv0 PV_move rfl ?_; refine TR_pv0 (PV_sub32 rfl rfl) rfl ?_; refine TR_pv0 PV_move rfl ?_; (first | refine TR_pv0 (PV_add64 rfl rfl (by omega)) rfl ?_ | refine TR_pv0 (PV_add64w rfl rfl) rfl ?_); refine TR_pv0 (PV_conv16 rfl) rfl ?_; refine TR_pv0 PV_move rfl ?_; (first | refine TR_pv0 (PV_add64 rfl rfl (by omega)) rfl ?_ | refine TR_pv0 (PV_add64w rfl rfl) rfl ?_); refine TR_pv0 (PV_conv16 rfl) rfl ?_; refine TR_pv0 (PV_build rfl rfl) rfl ?_; (refine TR_buildSlice (.inl rfl) rfl rfl rfl rfl ?_; intro gb); refine TR_pv0 (PV_build rfl rfl) rfl ?_; (refine TR_call0 (hsk gb) rfl rfl (.cons (.there .here) (.cons .here .nil)) rfl ?_; rintro _ _ ⟨rfl, Z, rfl, hZ, hZA⟩); refine TR_pv0 PV_move rfl ?_; refine TR_pv0 (PV_extract rfl rfl) rfl ?_; refine TR_pv0 (PV_extract rfl rfl) rfl ?_; (refine TR_alloc0 rfl ?_; intro tb); (first | refine TR_storeA0_0 rfl rfl rfl rfl rfl rfl ?_ | refine TR_storeA0_1 rfl rfl rfl rfl rfl rfl ?_ | refine TR_storeA0_2 rfl rfl rfl rfl rfl rfl ?_ | refine TR_storeA0_3 rfl rfl rfl rfl rfl rfl ?_); refine TR_pv0 PV_assign rfl ?_; refine TR_nil ?_)
            | (refine TC_plain (id := 21) (by kernel_rfl) ?_; refine TR_pv0 PV_move rfl ?_; (first | refine TR_pv0 (PV_add64 rfl rfl (by omega)) rfl ?_ | refine TR_pv0 (PV_add64w rfl rfl) rfl ?_); refine TR_pv0 PV_assign rfl ?_; refine TR_nil ?_)
            | refine TC_cond_t rfl rfl ?_
            | refine TC_cond_f rfl rfl ?_
            | refine TC_skip ?_
            | refine TC_ret ?_
            | refine TC_exit ?_
            | refine TC_block ?_
            | refine TQ_then_ret ?_
            | refine TQ_then_exit ?_
            | refine TQ_blk ?_
            | refine TQ_blk_ret ?_
            | refine TQ_blk_here ?_
            | refine TQ_blk_past rfl ?_
            | refine TC_label ?_
            | (refine TC_cond rfl rfl (fun hq => ?_) (fun hq => ?_) <;> (try simp only [qs] at hq) <;> (try simp only [reduceCtorEq] at hq) <;> (try (exfalso; omega)) <;> (try contradiction))
          have hZs' : SplitOk ons Z.abs := by rw [hZA]; exact hZs
          have hZc : Z.cum = (c - 1) % 4294967296 := by
            have := congrArg Flt.cum hZA
            rw [Flt.sack] at this
            exact this
          have hou := outF_cd b Z hZ 1
          rw [show sumIf (fun r => decide (r.path = 1) && r.away) Z.recs = tenOf ons from hZs'.out] at hou
          have hlo := lostF_ct b Z hZ
          refine TC_le (L' := Z.seg b :: gblk gb (((z : Int) + 1) % 65536) (((z : Int) + 1) % 65536) :: row.C :: H :: R) (Le.sub (.cons _ (.refl _))) ?_
          repeat' first
            | refine TC_seq ?_
            | refine TQ_then ?_
            | refine TR_nil ?_
            | refine TQ_noPanic ?_
            | (refine TC_plain (id := 25) (by kernel_rfl) ?_; all_goals refine TR_pv0 PV_move rfl ?_; all_goals refine TR_pv0 (PV_neq rfl rfl) rfl ?_; all_goals refine TR_pv0 PV_move rfl ?_; all_goals (first | refine TR_pv0 PV_move rfl ?_ | refine TR_skip0 rfl ?_ | (refine TR_gsplit rfl rfl rfl (fun hq => ?_) (fun hq => ?_) <;> (try simp only [qs] at hq) <;> (try simp only [reduceCtorEq] at hq) <;> (try (exfalso; omega)) <;> (try contradiction) <;> (first | refine TR_pv0 PV_move rfl ?_ | refine TR_skip0 rfl ?_))); all_goals (first | refine TR_calld1_0 (hou) rfl rfl rfl rfl ?_ | refine TR_skip0 rfl ?_ | (refine TR_gsplit rfl rfl rfl (fun hq => ?_) (fun hq => ?_) <;> (try simp only [qs] at hq) <;> (try simp only [reduceCtorEq] at hq) <;> (try (exfalso; omega)) <;> (try contradiction) <;> (first | refine TR_calld1_0 (hou) rfl rfl rfl rfl ?_ | refine TR_skip0 rfl ?_))); all_goals (first | refine TR_pv0 PV_move rfl ?_ | refine TR_skip0 rfl ?_ | (refine TR_gsplit rfl rfl rfl (fun hq => ?_) (fun hq => ?_) <;> (try simp only [qs] at hq) <;> (try simp only [reduceCtorEq] at hq) <;> (try (exfalso; omega)) <;> (try contradiction) <;> (first | refine TR_pv0 PV_move rfl ?_ | refine TR_skip0 rfl ?_))); all_goals (first | refine TR_pv0 (PV_neq rfl rfl) rfl ?_ | refine TR_skip0 rfl ?_ | (refine TR_gsplit rfl rfl rfl (fun hq => ?_) (fun hq => ?_) <;> (try simp only [qs] at hq) <;> (try simp only [reduceCtorEq] at hq) <;> (try (exfalso; omega)) <;> (try contradiction) <;> (first | refine TR_pv0 (PV_neq rfl rfl) rfl ?_ | refine TR_skip0 rfl ?_))); all_goals (first | refine TR_pv0 (PV_pick_t rfl) rfl ?_ | refine TR_pv0 (PV_pick_f rfl) rfl ?_); all_goals refine TR_nil ?_)
            | (refine TC_plain (id := 26) (by kernel_rfl) ?_; refine TR_pv0 PV_assign rfl ?_; refine TR_nil ?_)
            | (refine TC_plain (id := 27) (by kernel_rfl) ?_; refine TR_pv0 PV_move rfl ?_; (refine TR_call0 (hlo) rfl rfl (.cons .here .nil) rfl ?_; rintro _ _ ⟨row2, rfl, rfl, hrow2⟩); refine TR_pv0 PV_assign rfl ?_; refine TR_nil ?_)
            | (refine TC_plain (id := 28) (by kernel_rfl) ?_; refine TR_pv0 PV_assign rfl ?_; refine TR_nil ?_)
            | refine TC_cond_t rfl rfl ?_
            | refine TC_cond_f rfl rfl ?_
            | refine TC_skip ?_
            | refine TC_ret ?_
            | refine TC_exit ?_
            | refine TC_block ?_
            | refine TQ_then_ret ?_
            | refine TQ_then_exit ?_
            | refine TQ_blk ?_
            | refine TQ_blk_ret ?_
            | refine TQ_blk_here ?_
            | refine TQ_blk_past rfl ?_
            | refine TC_label ?_
            | (refine TC_cond rfl rfl (fun hq => ?_) (fun hq => ?_) <;> (try simp only [qs] at hq) <;> (try simp only [reduceCtorEq] at hq) <;> (try (exfalso; omega)) <;> (try contradiction))
          refine TC_loopP (X := Nat) (fun s => Z.seg b :: row2.C :: row.C :: H :: R) (fun s => [(0, u32 c), (2, .slice (some ⟨bb, off, none⟩) n2 cap2), (7, ptr b), (9, i64 (tenOf ons)), (10, row.val zs.length), (15, i64 j), (19, row2.val (lostOf Z.recs).length), (20, i64 s)])
            (fun s => s ≤ (lostOf Z.recs).length) (fun s => (lostOf Z.recs).length - s) 0 (Nat.zero_le _) ⟨rfl, rfl, rfl, rfl, rfl, rfl, rfl, rfl, trivial⟩ (fun w hs => hs.le (fun a => by simp only [les]; omega)) ?_
          rintro q σq mm3 hmm3 hq
          have hlz : (lostOf Z.recs).length ≤ 1125899906842624 := by
            have h1 : (lostOf Z.recs).length ≤ Z.recs.length := by rw [lostOf, List.length_map]; exact List.length_filter_le _ _
            have := hZ.len
            rw [recs_length] at h1
            omega
          by_cases hql : q < (lostOf Z.recs).length
          · obtain ⟨t, ht⟩ : ∃ t, (lostOf Z.recs)[q]? = some t := ⟨(lostOf Z.recs)[q], List.getElem?_eq_getElem hql⟩
            obtain ⟨m, r, hm, ho, rfl⟩ := lost_at ht
            obtain ⟨x, hx, rfl⟩ : ∃ x, Z.l[m]? = some x ∧ x.r = r := by
              rw [FL.recs, List.getElem?_map] at hm
              exact Option.map_eq_some_iff.1 hm
            have hget := getF_ct_some b Z hZ x.r.d.tsn (idx_of_tsn hZ hx) hx
            have hmlt : m < ons.length := by have := (List.getElem?_eq_some_iff.1 hx).1; have h2 := hZs'.len; simp only [FL.abs, recs_length] at h2; omega
            have hat := hZs'.at_ m x.r ons[m] hm (List.getElem?_eq_getElem hmlt)
            have hp0 : x.r.path = 0 := by
              cases hb : ons[m] with
              | false => rw [hb] at hat; exact hat.2.1
              | true =>
                rw [hb] at hat
                have hl := (hat.2.2.2 rfl).2
                simp only [FRec.open_, hl, Bool.and_false, Bool.false_and] at ho
                cases ho
            rw [hp0] at hget
            obtain ⟨rb3, off3, cells3, har3, hC3, hcl3, hct3⟩ := hrow2.opened (by omega)
            have hsl3 : Value.slice row2.a (lostOf Z.recs).length row2.cap = .slice (some ⟨rb3, off3, none⟩) (lostOf Z.recs).length row2.cap := by rw [har3]
            have hc3 : cells3[off3 + (q : Int).toNat * 1]? = some (u32 x.r.d.tsn) := by
              rw [Nat.mul_one, Int.toNat_natCast, take_at hct3 (j := q) (by omega), u32s, List.getElem?_map, ht]; rfl
            have hgm3 : (rb3, Obj.cells cells3.toArray 22 (0, 0)) ∈ row2.C := by rw [hC3]; exact .head _
            repeat' first
              | refine TC_seq ?_
              | refine TQ_then ?_
              | refine TR_nil ?_
              | refine TQ_noPanic ?_
              | (refine TC_plain (id := 29) (by kernel_rfl) ?_; refine TR_pv0 PV_move rfl ?_; refine TR_pv0 PV_move rfl ?_; refine TR_pv0 (PV_len rfl) rfl ?_; refine TR_pv0 (PV_lss rfl rfl) rfl ?_; refine TR_nil ?_)
              | (refine TC_plain (id := 31) (by kernel_rfl) ?_; refine TR_pv0 PV_move rfl ?_; refine TR_pv0 PV_move rfl ?_; refine TR_pv0 PV_move rfl ?_; (first | refine TR_pv0 (PV_indexAddr hsl3 rfl (by omega)) rfl ?_ | refine TR_pv0 (PV_indexAddr rfl rfl (by omega)) rfl ?_ | refine TR_pv0 (PV_indexArr rfl rfl (by omega)) rfl ?_); (first | refine TR_loadM0 rfl hgm3 1 rfl hc3 rfl ?_ | refine TR_load0 rfl 0 rfl rfl rfl ?_ | refine TR_load0 rfl 1 rfl rfl rfl ?_ | refine TR_load0 rfl 2 rfl rfl rfl ?_ | refine TR_load0 rfl 3 rfl rfl rfl ?_); (refine TR_call0 (hget) rfl rfl (.cons .here .nil) rfl ?_; rintro _ _ ⟨gw, rfl, rfl, hgw⟩); refine TR_pv0 PV_move rfl ?_; refine TR_pv0 (PV_extract rfl rfl) rfl ?_; refine TR_pv0 (PV_extract rfl rfl) rfl ?_; refine TR_pv0 (PV_extract rfl rfl) rfl ?_; (refine TR_alloc0 rfl ?_; intro db); (first | refine TR_storeA0_0 rfl rfl rfl rfl rfl rfl ?_ | refine TR_storeA0_1 rfl rfl rfl rfl rfl rfl ?_ | refine TR_storeA0_2 rfl rfl rfl rfl rfl rfl ?_ | refine TR_storeA0_3 rfl rfl rfl rfl rfl rfl ?_); refine TR_pv0 PV_assign rfl ?_; refine TR_pv0 PV_assign rfl ?_; refine TR_nil ?_)
              | (refine TC_plain (id := 32) (by kernel_rfl) ?_; all_goals refine TR_pv0 PV_move rfl ?_; all_goals refine TR_pv0 (PV_not rfl) rfl ?_; all_goals refine TR_pv0 PV_move rfl ?_; all_goals (first | refine TR_pv0 PV_move rfl ?_ | refine TR_skip0 rfl ?_ | (refine TR_gsplit rfl rfl rfl (fun hq => ?_) (fun hq => ?_) <;> (try simp only [qs] at hq) <;> (try simp only [reduceCtorEq] at hq) <;> (try (exfalso; omega)) <;> (try contradiction) <;> (first | refine TR_pv0 PV_move rfl ?_ | refine TR_skip0 rfl ?_))); all_goals (first | refine TR_pv0 (PV_neq rfl rfl) rfl ?_ | refine TR_skip0 rfl ?_ | (refine TR_gsplit rfl rfl rfl (fun hq => ?_) (fun hq => ?_) <;> (try simp only [qs] at hq) <;> (try simp only [reduceCtorEq] at hq) <;> (try (exfalso; omega)) <;> (try contradiction) <;> (first | refine TR_pv0 (PV_neq rfl rfl) rfl ?_ | refine TR_skip0 rfl ?_))); all_goals (first | refine TR_pv0 (PV_pick_t rfl) rfl ?_ | refine TR_pv0 (PV_pick_f rfl) rfl ?_); all_goals refine TR_nil ?_)
              | (refine TC_plain (id := 30) (by kernel_rfl) ?_; refine TR_pv0 PV_move rfl ?_; (first | refine TR_pv0 (PV_add64 rfl rfl (by omega)) rfl ?_ | refine TR_pv0 (PV_add64w rfl rfl) rfl ?_); refine TR_pv0 PV_assign rfl ?_; refine TR_nil ?_)
              | refine TC_cond_t rfl rfl ?_
              | refine TC_cond_f rfl rfl ?_
              | refine TC_skip ?_
              | refine TC_ret ?_
              | refine TC_exit ?_
              | refine TC_block ?_
              | refine TQ_then_ret ?_
              | refine TQ_then_exit ?_
              | refine TQ_blk ?_
              | refine TQ_blk_ret ?_
              | refine TQ_blk_here ?_
              | refine TQ_blk_past rfl ?_
              | refine TC_label ?_
              | (refine TC_cond rfl rfl (fun hq => ?_) (fun hq => ?_) <;> (try simp only [qs] at hq) <;> (try simp only [reduceCtorEq] at hq) <;> (try (exfalso; omega)) <;> (try contradiction))
            exact TQ_roundP (q + 1) hql (by show (lostOf Z.recs).length - (q + 1) < mm3; omega) ⟨rfl, rfl, rfl, rfl, rfl, rfl, rfl, rfl, trivial⟩ (fun w hs => St.sub (L := _ :: gw.C :: Z.seg b :: row2.C :: row.C :: H :: R) hs (.cons _ (.cons _ (.refl _))))
          · repeat' first
            | refine TC_seq ?_
            | refine TQ_then ?_
            | refine TR_nil ?_
            | refine TQ_noPanic ?_
            | (refine TC_plain (id := 22) (by kernel_rfl) ?_; refine TR_pv0 PV_move rfl ?_; refine TR_pv0 PV_move rfl ?_; refine TR_pv0 PV_move rfl ?_; (first | refine TR_pv0 (PV_indexAddr rfl rfl (by omega)) rfl ?_ | refine TR_pv0 (PV_indexArr rfl rfl (by omega)) rfl ?_); (first | refine TR_load0 rfl 0 rfl rfl rfl ?_ | refine TR_load0 rfl 1 rfl rfl rfl ?_ | refine TR_load0 rfl 2 rfl rfl rfl ?_ | refine TR_load0 rfl 3 rfl rfl rfl ?_); refine TR_pv0 (PV_conv64 rfl (by omega)) rfl ?_; refine TR_pv0 PV_move rfl ?_; refine TR_pv0 (PV_len rfl) rfl ?_; refine TR_pv0 (PV_rem64 rfl rfl (by omega)) rfl ?_; (first | refine TR_pv0 (PV_indexAddr rfl rfl (by omega)) rfl ?_ | refine TR_pv0 (PV_indexArr rfl rfl (by omega)) rfl ?_); (first | refine TR_load0 rfl 0 rfl rfl rfl ?_ | refine TR_load0 rfl 1 rfl rfl rfl ?_ | refine TR_load0 rfl 2 rfl rfl rfl ?_ | refine TR_load0 rfl 3 rfl rfl rfl ?_); refine TR_pv0 PV_assign rfl ?_; refine TR_nil ?_)
            | (refine TC_plain (id := 23) (by kernel_rfl) ?_; refine TR_pv0 PV_move rfl ?_; refine TR_pv0 (PV_eql rfl rfl) rfl ?_; refine TR_nil ?_)
            | (refine TC_plain (id := 24) (by kernel_rfl) ?_; refine TR_pv0 PV_move rfl ?_; refine TR_pv0 PV_move rfl ?_; refine TR_pv0 (PV_sub32 rfl rfl) rfl ?_; refine TR_pv0 PV_move rfl ?_; (first | refine TR_pv0 (PV_add64 rfl rfl (by omega)) rfl ?_ | refine TR_pv0 (PV_add64w rfl rfl) rfl ?_); refine TR_pv0 (PV_conv16 rfl) rfl ?_; refine TR_pv0 PV_move rfl ?_; (first | refine TR_pv0 (PV_add64 rfl rfl (by omega)) rfl ?_ | refine TR_pv0 (PV_add64w rfl rfl) rfl ?_); refine TR_pv0 (PV_conv16 rfl) rfl ?_; refine TR_pv0 (PV_build rfl rfl) rfl ?_; (refine TR_buildSlice (.inl rfl) rfl rfl rfl rfl ?_; intro _); refine TR_pv0 (PV_build rfl rfl) rfl ?_)
            | (refine TC_plain (id := 25) (by kernel_rfl) ?_; all_goals refine TR_pv0 PV_move rfl ?_; all_goals refine TR_pv0 (PV_neq rfl rfl) rfl ?_; all_goals refine TR_pv0 PV_move rfl ?_; all_goals (first | refine TR_pv0 PV_move rfl ?_ | refine TR_skip0 rfl ?_ | (refine TR_gsplit rfl rfl rfl (fun hq => ?_) (fun hq => ?_) <;> (try simp only [qs] at hq) <;> (try simp only [reduceCtorEq] at hq) <;> (try (exfalso; omega)) <;> (try contradiction) <;> (first | refine TR_pv0 PV_move rfl ?_ | refine TR_skip0 rfl ?_))); all_goals refine TR_skip0 rfl ?_; all_goals (first | refine TR_pv0 PV_move rfl ?_ | refine TR_skip0 rfl ?_ | (refine TR_gsplit rfl rfl rfl (fun hq => ?_) (fun hq => ?_) <;> (try simp only [qs] at hq) <;> (try simp only [reduceCtorEq] at hq) <;> (try (exfalso; omega)) <;> (try contradiction) <;> (first | refine TR_pv0 PV_move rfl ?_ | refine TR_skip0 rfl ?_))); all_goals (first | refine TR_pv0 (PV_neq rfl rfl) rfl ?_ | refine TR_skip0 rfl ?_ | (refine TR_gsplit rfl rfl rfl (fun hq => ?_) (fun hq => ?_) <;> (try simp only [qs] at hq) <;> (try simp only [reduceCtorEq] at hq) <;> (try (exfalso; omega)) <;> (try contradiction) <;> (first | refine TR_pv0 (PV_neq rfl rfl) rfl ?_ | refine TR_skip0 rfl ?_))); all_goals (first | refine TR_pv0 (PV_pick_t rfl) rfl ?_ | refine TR_pv0 (PV_pick_f rfl) rfl ?_); all_goals refine TR_nil ?_)
            | (refine TC_plain (id := 26) (by kernel_rfl) ?_; refine TR_pv0 PV_assign rfl ?_; refine TR_nil ?_)
            | (refine TC_plain (id := 27) (by kernel_rfl) ?_; refine TR_pv0 PV_move rfl ?_)
            | (refine TC_plain (id := 28) (by kernel_rfl) ?_; refine TR_pv0 PV_assign rfl ?_; refine TR_nil ?_)
            | (refine TC_plain (id := 29) (by kernel_rfl) ?_; refine TR_pv0 PV_move rfl ?_; refine TR_pv0 PV_move rfl ?_; refine TR_pv0 (PV_len rfl) rfl ?_; refine TR_pv0 (PV_lss rfl rfl) rfl ?_; refine TR_nil ?_)
            | (refine TC_plain (id := 31) (by kernel_rfl) ?_; refine TR_pv0 PV_move rfl ?_; refine TR_pv0 PV_move rfl ?_; refine TR_pv0 PV_move rfl ?_; (first | refine TR_pv0 (PV_indexAddr rfl rfl (by omega)) rfl ?_ | refine TR_pv0 (PV_indexArr rfl rfl (by omega)) rfl ?_); (first | refine TR_load0 rfl 0 rfl rfl rfl ?_ | refine TR_load0 rfl 1 rfl rfl rfl ?_ | refine TR_load0 rfl 2 rfl rfl rfl ?_ | refine TR_load0 rfl 3 rfl rfl rfl ?_))
            | (refine TC_plain (id := 32) (by kernel_rfl) ?_; all_goals refine TR_pv0 PV_move rfl ?_; all_goals refine TR_pv0 (PV_not rfl) rfl ?_; all_goals refine TR_pv0 PV_move rfl ?_; all_goals (first | refine TR_pv0 PV_move rfl ?_ | refine TR_skip0 rfl ?_ | (refine TR_gsplit rfl rfl rfl (fun hq => ?_) (fun hq => ?_) <;> (try simp only [qs] at hq) <;> (try simp only [reduceCtorEq] at hq) <;> (try (exfalso; omega)) <;> (try contradiction) <;> (first | refine TR_pv0 PV_move rfl ?_ | refine TR_skip0 rfl ?_))); all_goals (first | refine TR_pv0 (PV_neq rfl rfl) rfl ?_ | refine TR_skip0 rfl ?_ | (refine TR_gsplit rfl rfl rfl (fun hq => ?_) (fun hq => ?_) <;> (try simp only [qs] at hq) <;> (try simp only [reduceCtorEq] at hq) <;> (try (exfalso; omega)) <;> (try contradiction) <;> (first | refine TR_pv0 (PV_neq rfl rfl) rfl ?_ | refine TR_skip0 rfl ?_))); all_goals (first | refine TR_pv0 (PV_pick_t rfl) rfl ?_ | refine TR_pv0 (PV_pick_f rfl) rfl ?_); all_goals refine TR_nil ?_)
            | (refine TC_plain (id := 30) (by kernel_rfl) ?_; refine TR_pv0 PV_move rfl ?_; (first | refine TR_pv0 (PV_add64 rfl rfl (by omega)) rfl ?_ | refine TR_pv0 (PV_add64w rfl rfl) rfl ?_); refine TR_pv0 PV_assign rfl ?_; refine TR_nil ?_)
            | (refine TC_plain (id := 21) (by kernel_rfl) ?_; refine TR_pv0 PV_move rfl ?_; (first | refine TR_pv0 (PV_add64 rfl rfl (by omega)) rfl ?_ | refine TR_pv0 (PV_add64w rfl rfl) rfl ?_); refine TR_pv0 PV_assign rfl ?_; refine TR_nil ?_)
            | refine TC_cond_t rfl rfl ?_
            | refine TC_cond_f rfl rfl ?_
            | refine TC_skip ?_
            | refine TC_ret ?_
            | refine TC_exit ?_
            | refine TC_block ?_
            | refine TQ_then_ret ?_
            | refine TQ_then_exit ?_
            | refine TQ_blk ?_
            | refine TQ_blk_ret ?_
            | refine TQ_blk_here ?_
            | refine TQ_blk_past rfl ?_
            | refine TC_label ?_
            | (refine TC_cond rfl rfl (fun hq => ?_) (fun hq => ?_) <;> (try simp only [qs] at hq) <;> (try simp only [reduceCtorEq] at hq) <;> (try (exfalso; omega)) <;> (try contradiction))
            | (refine TR_pv0 PV_move rfl ?_; refine TR_pv0 (PV_extract rfl rfl) rfl ?_; refine TR_pv0 (PV_extract rfl rfl) rfl ?_; (refine TR_alloc0 rfl ?_; intro _); (first | refine TR_storeA0_0 rfl rfl rfl rfl rfl rfl ?_ | refine TR_storeA0_1 rfl rfl rfl rfl rfl rfl ?_ | refine TR_storeA0_2 rfl rfl rfl rfl rfl rfl ?_ | refine TR_storeA0_3 rfl rfl rfl rfl rfl rfl ?_); refine TR_pv0 PV_assign rfl ?_; refine TR_nil ?_)
            | (refine TR_pv0 PV_assign rfl ?_; refine TR_nil ?_)
            | (refine TR_pv0 PV_move rfl ?_; refine TR_pv0 (PV_extract rfl rfl) rfl ?_; refine TR_pv0 (PV_extract rfl rfl) rfl ?_; refine TR_pv0 (PV_extract rfl rfl) rfl ?_; (refine TR_alloc0 rfl ?_; intro _); (first | refine TR_storeA0_0 rfl rfl rfl rfl rfl rfl ?_ | refine TR_storeA0_1 rfl rfl rfl rfl rfl rfl ?_ | refine TR_storeA0_2 rfl rfl rfl rfl rfl rfl ?_ | refine TR_storeA0_3 rfl rfl rfl rfl rfl rfl ?_); refine TR_pv0 PV_assign rfl ?_; refine TR_pv0 PV_assign rfl ?_; refine TR_nil ?_)
            exact TQ_roundP (j + 1, Z) ⟨hlt, hZ, hZs', hZc⟩ (by show n2 - (j + 1) < mm2; omega) ⟨rfl, rfl, rfl, rfl, rfl, rfl, trivial⟩ (fun w hs => hs.le (fun a => by simp only [les]; omega))
      · repeat' first
        | refine TC_seq ?_
        | refine TQ_then ?_
        | refine TR_nil ?_
        | refine TQ_noPanic ?_
        | (refine TC_plain (id := 20) (by kernel_rfl) ?_; all_goals refine TR_pv0 PV_move rfl ?_; all_goals refine TR_pv0 PV_move rfl ?_; all_goals refine TR_pv0 (PV_len rfl) rfl ?_; all_goals refine TR_pv0 (PV_lss rfl rfl) rfl ?_; all_goals refine TR_pv0 PV_move rfl ?_; all_goals (first | refine TR_pv0 PV_move rfl ?_ | refine TR_skip0 rfl ?_ | (refine TR_gsplit rfl rfl rfl (fun hq => ?_) (fun hq => ?_) <;> (try simp only [qs] at hq) <;> (try simp only [reduceCtorEq] at hq) <;> (try (exfalso; omega)) <;> (try contradiction) <;> (first | refine TR_pv0 PV_move rfl ?_ | refine TR_skip0 rfl ?_))); all_goals (first | refine TR_pv0 (PV_len rfl) rfl ?_ | refine TR_skip0 rfl ?_ | (refine TR_gsplit rfl rfl rfl (fun hq => ?_) (fun hq => ?_) <;> (try simp only [qs] at hq) <;> (try simp only [reduceCtorEq] at hq) <;> (try (exfalso; omega)) <;> (try contradiction) <;> (first | refine TR_pv0 (PV_len rfl) rfl ?_ | refine TR_skip0 rfl ?_))); all_goals (first | refine TR_pv0 (PV_gtr rfl rfl) rfl ?_ | refine TR_skip0 rfl ?_ | (refine TR_gsplit rfl rfl rfl (fun hq => ?_) (fun hq => ?_) <;> (try simp only [qs] at hq) <;> (try simp only [reduceCtorEq] at hq) <;> (try (exfalso; omega)) <;> (try contradiction) <;> (first | refine TR_pv0 (PV_gtr rfl rfl) rfl ?_ | refine TR_skip0 rfl ?_))); all_goals (first | refine TR_pv0 (PV_pick_t rfl) rfl ?_ | refine TR_pv0 (PV_pick_f rfl) rfl ?_); all_goals refine TR_nil ?_)
        | (refine TC_plain (id := 22) (by kernel_rfl) ?_; refine TR_pv0 PV_move rfl ?_; refine TR_pv0 PV_move rfl ?_; refine TR_pv0 PV_move rfl ?_; (first | refine TR_pv0 (PV_indexAddr rfl rfl (by omega)) rfl ?_ | refine TR_pv0 (PV_indexArr rfl rfl (by omega)) rfl ?_); (first | refine TR_load0 rfl 0 rfl rfl rfl ?_ | refine TR_load0 rfl 1 rfl rfl rfl ?_ | refine TR_load0 rfl 2 rfl rfl rfl ?_ | refine TR_load0 rfl 3 rfl rfl rfl ?_); refine TR_pv0 (PV_conv64 rfl (by omega)) rfl ?_; refine TR_pv0 PV_move rfl ?_; refine TR_pv0 (PV_len rfl) rfl ?_; refine TR_pv0 (PV_rem64 rfl rfl (by omega)) rfl ?_; (first | refine TR_pv0 (PV_indexAddr rfl rfl (by omega)) rfl ?_ | refine TR_pv0 (PV_indexArr rfl rfl (by omega)) rfl ?_); (first | refine TR_load0 rfl 0 rfl rfl rfl ?_ | refine TR_load0 rfl 1 rfl rfl rfl ?_ | refine TR_load0 rfl 2 rfl rfl rfl ?_ | refine TR_load0 rfl 3 rfl rfl rfl ?_); refine TR_pv0 PV_assign rfl ?_; refine TR_nil ?_)
        | (refine TC_plain (id := 23) (by kernel_rfl) ?_; refine TR_pv0 PV_move rfl ?_; refine TR_pv0 (PV_eql rfl rfl) rfl ?_; refine TR_nil ?_)
        | (refine TC_plain (id := 24) (by kernel_rfl) ?_; refine TR_pv0 PV_move rfl ?_; refine TR_pv0 PV_move rfl ?_; refine TR_pv0 (PV_sub32 rfl rfl) rfl ?_; refine TR_pv0 PV_move rfl ?_; (first | refine TR_pv0 (PV_add64 rfl rfl (by omega)) rfl ?_ | refine TR_pv0 (PV_add64w rfl rfl) rfl ?_); refine TR_pv0 (PV_conv16 rfl) rfl ?_; refine TR_pv0 PV_move rfl ?_; (first | refine TR_pv0 (PV_add64 rfl rfl (by omega)) rfl ?_ | refine TR_pv0 (PV_add64w rfl rfl) rfl ?_); refine TR_pv0 (PV_conv16 rfl) rfl ?_; refine TR_pv0 (PV_build rfl rfl) rfl ?_; (refine TR_buildSlice (.inl rfl) rfl rfl rfl rfl ?_; intro _); refine TR_pv0 (PV_build rfl rfl) rfl ?_)
        | (refine TC_plain (id := 25) (by kernel_rfl) ?_; all_goals refine TR_pv0 PV_move rfl ?_; all_goals refine TR_pv0 (PV_neq rfl rfl) rfl ?_; all_goals refine TR_pv0 PV_move rfl ?_; all_goals (first | refine TR_pv0 PV_move rfl ?_ | refine TR_skip0 rfl ?_ | (refine TR_gsplit rfl rfl rfl (fun hq => ?_) (fun hq => ?_) <;> (try simp only [qs] at hq) <;> (try simp only [reduceCtorEq] at hq) <;> (try (exfalso; omega)) <;> (try contradiction) <;> (first | refine TR_pv0 PV_move rfl ?_ | refine TR_skip0 rfl ?_))); all_goals refine TR_skip0 rfl ?_; all_goals (first | refine TR_pv0 PV_move rfl ?_ | refine TR_skip0 rfl ?_ | (refine TR_gsplit rfl rfl rfl (fun hq => ?_) (fun hq => ?_) <;> (try simp only [qs] at hq) <;> (try simp only [reduceCtorEq] at hq) <;> (try (exfalso; omega)) <;> (try contradiction) <;> (first | refine TR_pv0 PV_move rfl ?_ | refine TR_skip0 rfl ?_))); all_goals (first | refine TR_pv0 (PV_neq rfl rfl) rfl ?_ | refine TR_skip0 rfl ?_ | (refine TR_gsplit rfl rfl rfl (fun hq => ?_) (fun hq => ?_) <;> (try simp only [qs] at hq) <;> (try simp only [reduceCtorEq] at hq) <;> (try (exfalso; omega)) <;> (try contradiction) <;> (first | refine TR_pv0 (PV_neq rfl rfl) rfl ?_ | refine TR_skip0 rfl ?_))); all_goals (first | refine TR_pv0 (PV_pick_t rfl) rfl ?_ | refine TR_pv0 (PV_pick_f rfl) rfl ?_); all_goals refine TR_nil ?_)
        | (refine TC_plain (id := 26) (by kernel_rfl) ?_; refine TR_pv0 PV_assign rfl ?_; refine TR_nil ?_)
        | (refine TC_plain (id := 27) (by kernel_rfl) ?_; refine TR_pv0 PV_move rfl ?_)
        | (refine TC_plain (id := 28) (by kernel_rfl) ?_; refine TR_pv0 PV_assign rfl ?_; refine TR_nil ?_)
        | (refine TC_plain (id := 29) (by kernel_rfl) ?_; refine TR_pv0 PV_move rfl ?_; refine TR_pv0 PV_move rfl ?_; refine TR_pv0 (PV_len rfl) rfl ?_; refine TR_pv0 (PV_lss rfl rfl) rfl ?_; refine TR_nil ?_)
        | (refine TC_plain (id := 31) (by kernel_rfl) ?_; refine TR_pv0 PV_move rfl ?_; refine TR_pv0 PV_move rfl ?_; refine TR_pv0 PV_move rfl ?_; (first | refine TR_pv0 (PV_indexAddr rfl rfl (by omega)) rfl ?_ | refine TR_pv0 (PV_indexArr rfl rfl (by omega)) rfl ?_); (first | refine TR_load0 rfl 0 rfl rfl rfl ?_ | refine TR_load0 rfl 1 rfl rfl rfl ?_ | refine TR_load0 rfl 2 rfl rfl rfl ?_ | refine TR_load0 rfl 3 rfl rfl rfl ?_))
        | (refine TC_plain (id := 32) (by kernel_rfl) ?_; all_goals refine TR_pv0 PV_move rfl ?_; all_goals refine TR_pv0 (PV_not rfl) rfl ?_; all_goals refine TR_pv0 PV_move rfl ?_; all_goals (first | refine TR_pv0 PV_move rfl ?_ | refine TR_skip0 rfl ?_ | (refine TR_gsplit rfl rfl rfl (fun hq => ?_) (fun hq => ?_) <;> (try simp only [qs] at hq) <;> (try simp only [reduceCtorEq] at hq) <;> (try (exfalso; omega)) <;> (try contradiction) <;> (first | refine TR_pv0 PV_move rfl ?_ | refine TR_skip0 rfl ?_))); all_goals (first | refine TR_pv0 (PV_neq rfl rfl) rfl ?_ | refine TR_skip0 rfl ?_ | (refine TR_gsplit rfl rfl rfl (fun hq => ?_) (fun hq => ?_) <;> (try simp only [qs] at hq) <;> (try simp only [reduceCtorEq] at hq) <;> (try (exfalso; omega)) <;> (try contradiction) <;> (first | refine TR_pv0 (PV_neq rfl rfl) rfl ?_ | refine TR_skip0 rfl ?_))); all_goals (first | refine TR_pv0 (PV_pick_t rfl) rfl ?_ | refine TR_pv0 (PV_pick_f rfl) rfl ?_); all_goals refine TR_nil ?_)
        | (refine TC_plain (id := 33) (by kernel_rfl) ?_; refine TR_pv0 PV_assign rfl ?_; refine TR_nil ?_)
        | (refine TC_plain (id := 30) (by kernel_rfl) ?_; refine TR_pv0 PV_move rfl ?_; (first | refine TR_pv0 (PV_add64 rfl rfl (by omega)) rfl ?_ | refine TR_pv0 (PV_add64w rfl rfl) rfl ?_); refine TR_pv0 PV_assign rfl ?_; refine TR_nil ?_)
        | (refine TC_plain (id := 21) (by kernel_rfl) ?_; refine TR_pv0 PV_move rfl ?_; (first | refine TR_pv0 (PV_add64 rfl rfl (by omega)) rfl ?_ | refine TR_pv0 (PV_add64w rfl rfl) rfl ?_); refine TR_pv0 PV_assign rfl ?_; refine TR_nil ?_)
        | (refine TC_plain (id := 34) (by kernel_rfl) ?_; refine TR_calld0 (flWorks) rfl rfl rfl rfl ?_; refine TR_pv0 PV_assign rfl ?_; refine TR_nil ?_)
        | refine TC_cond_t rfl rfl ?_
        | refine TC_cond_f rfl rfl ?_
        | refine TC_skip ?_
        | refine TC_ret ?_
        | refine TC_exit ?_
        | refine TC_block ?_
        | refine TQ_then_ret ?_
        | refine TQ_then_exit ?_
        | refine TQ_blk ?_
        | refine TQ_blk_ret ?_
        | refine TQ_blk_here ?_
        | refine TQ_blk_past rfl ?_
        | refine TC_label ?_
        | (refine TC_cond rfl rfl (fun hq => ?_) (fun hq => ?_) <;> (try simp only [qs] at hq) <;> (try simp only [reduceCtorEq] at hq) <;> (try (exfalso; omega)) <;> (try contradiction))
        | (refine TR_pv0 PV_move rfl ?_; refine TR_pv0 (PV_extract rfl rfl) rfl ?_; refine TR_pv0 (PV_extract rfl rfl) rfl ?_; (refine TR_alloc0 rfl ?_; intro _); (first | refine TR_storeA0_0 rfl rfl rfl rfl rfl rfl ?_ | refine TR_storeA0_1 rfl rfl rfl rfl rfl rfl ?_ | refine TR_storeA0_2 rfl rfl rfl rfl rfl rfl ?_ | refine TR_storeA0_3 rfl rfl rfl rfl rfl rfl ?_); refine TR_pv0 PV_assign rfl ?_; refine TR_nil ?_)
        | (refine TR_pv0 PV_assign rfl ?_; refine TR_nil ?_)
        | (refine TR_pv0 PV_move rfl ?_; refine TR_pv0 (PV_extract rfl rfl) rfl ?_; refine TR_pv0 (PV_extract rfl rfl) rfl ?_; refine TR_pv0 (PV_extract rfl rfl) rfl ?_; (refine TR_alloc0 rfl ?_; intro _); (first | refine TR_storeA0_0 rfl rfl rfl rfl rfl rfl ?_ | refine TR_storeA0_1 rfl rfl rfl rfl rfl rfl ?_ | refine TR_storeA0_2 rfl rfl rfl rfl rfl rfl ?_ | refine TR_storeA0_3 rfl rfl rfl rfl rfl rfl ?_); refine TR_pv0 PV_assign rfl ?_; refine TR_pv0 PV_assign rfl ?_; refine TR_nil ?_)
        exact TQ_ret1e (v := .bool true) rfl rfl rfl ⟨rfl, rfl⟩ (fun a => by simp only [les]; omega)
    · repeat' first
      | refine TC_seq ?_
      | refine TQ_then ?_
      | refine TR_nil ?_
      | refine TQ_noPanic ?_
      | (refine TC_plain (id := 20) (by kernel_rfl) ?_; all_goals refine TR_pv0 PV_move rfl ?_; all_goals refine TR_pv0 PV_move rfl ?_; all_goals refine TR_pv0 (PV_len rfl) rfl ?_; all_goals refine TR_pv0 (PV_lss rfl rfl) rfl ?_; all_goals refine TR_pv0 PV_move rfl ?_; all_goals (first | refine TR_pv0 PV_move rfl ?_ | refine TR_skip0 rfl ?_ | (refine TR_gsplit rfl rfl rfl (fun hq => ?_) (fun hq => ?_) <;> (try simp only [qs] at hq) <;> (try simp only [reduceCtorEq] at hq) <;> (try (exfalso; omega)) <;> (try contradiction) <;> (first | refine TR_pv0 PV_move rfl ?_ | refine TR_skip0 rfl ?_))); all_goals (first | refine TR_pv0 (PV_len rfl) rfl ?_ | refine TR_skip0 rfl ?_ | (refine TR_gsplit rfl rfl rfl (fun hq => ?_) (fun hq => ?_) <;> (try simp only [qs] at hq) <;> (try simp only [reduceCtorEq] at hq) <;> (try (exfalso; omega)) <;> (try contradiction) <;> (first | refine TR_pv0 (PV_len rfl) rfl ?_ | refine TR_skip0 rfl ?_))); all_goals (first | refine TR_pv0 (PV_gtr rfl rfl) rfl ?_ | refine TR_skip0 rfl ?_ | (refine TR_gsplit rfl rfl rfl (fun hq => ?_) (fun hq => ?_) <;> (try simp only [qs] at hq) <;> (try simp only [reduceCtorEq] at hq) <;> (try (exfalso; omega)) <;> (try contradiction) <;> (first | refine TR_pv0 (PV_gtr rfl rfl) rfl ?_ | refine TR_skip0 rfl ?_))); all_goals (first | refine TR_pv0 (PV_pick_t rfl) rfl ?_ | refine TR_pv0 (PV_pick_f rfl) rfl ?_); all_goals refine TR_nil ?_)
      | (refine TC_plain (id := 22) (by kernel_rfl) ?_; refine TR_pv0 PV_move rfl ?_; refine TR_pv0 PV_move rfl ?_; refine TR_pv0 PV_move rfl ?_; (first | refine TR_pv0 (PV_indexAddr rfl rfl (by omega)) rfl ?_ | refine TR_pv0 (PV_indexArr rfl rfl (by omega)) rfl ?_); (first | refine TR_load0 rfl 0 rfl rfl rfl ?_ | refine TR_load0 rfl 1 rfl rfl rfl ?_ | refine TR_load0 rfl 2 rfl rfl rfl ?_ | refine TR_load0 rfl 3 rfl rfl rfl ?_); refine TR_pv0 (PV_conv64 rfl (by omega)) rfl ?_; refine TR_pv0 PV_move rfl ?_; refine TR_pv0 (PV_len rfl) rfl ?_; refine TR_pv0 (PV_rem64 rfl rfl (by omega)) rfl ?_; (first | refine TR_pv0 (PV_indexAddr rfl rfl (by omega)) rfl ?_ | refine TR_pv0 (PV_indexArr rfl rfl (by omega)) rfl ?_); (first | refine TR_load0 rfl 0 rfl rfl rfl ?_ | refine TR_load0 rfl 1 rfl rfl rfl ?_ | refine TR_load0 rfl 2 rfl rfl rfl ?_ | refine TR_load0 rfl 3 rfl rfl rfl ?_); refine TR_pv0 PV_assign rfl ?_; refine TR_nil ?_)
      | (refine TC_plain (id := 23) (by kernel_rfl) ?_; refine TR_pv0 PV_move rfl ?_; refine TR_pv0 (PV_eql rfl rfl) rfl ?_; refine TR_nil ?_)
      | (refine TC_plain (id := 24) (by kernel_rfl) ?_; refine TR_pv0 PV_move rfl ?_; refine TR_pv0 PV_move rfl ?_; refine TR_pv0 (PV_sub32 rfl rfl) rfl ?_; refine TR_pv0 PV_move rfl ?_; (first | refine TR_pv0 (PV_add64 rfl rfl (by omega)) rfl ?_ | refine TR_pv0 (PV_add64w rfl rfl) rfl ?_); refine TR_pv0 (PV_conv16 rfl) rfl ?_; refine TR_pv0 PV_move rfl ?_; (first | refine TR_pv0 (PV_add64 rfl rfl (by omega)) rfl ?_ | refine TR_pv0 (PV_add64w rfl rfl) rfl ?_); refine TR_pv0 (PV_conv16 rfl) rfl ?_; refine TR_pv0 (PV_build rfl rfl) rfl ?_; (refine TR_buildSlice (.inl rfl) rfl rfl rfl rfl ?_; intro _); refine TR_pv0 (PV_build rfl rfl) rfl ?_)
      | (refine TC_plain (id := 25) (by kernel_rfl) ?_; all_goals refine TR_pv0 PV_move rfl ?_; all_goals refine TR_pv0 (PV_neq rfl rfl) rfl ?_; all_goals refine TR_pv0 PV_move rfl ?_; all_goals (first | refine TR_pv0 PV_move rfl ?_ | refine TR_skip0 rfl ?_ | (refine TR_gsplit rfl rfl rfl (fun hq => ?_) (fun hq => ?_) <;> (try simp only [qs] at hq) <;> (try simp only [reduceCtorEq] at hq) <;> (try (exfalso; omega)) <;> (try contradiction) <;> (first | refine TR_pv0 PV_move rfl ?_ | refine TR_skip0 rfl ?_))); all_goals refine TR_skip0 rfl ?_; all_goals (first | refine TR_pv0 PV_move rfl ?_ | refine TR_skip0 rfl ?_ | (refine TR_gsplit rfl rfl rfl (fun hq => ?_) (fun hq => ?_) <;> (try simp only [qs] at hq) <;> (try simp only [reduceCtorEq] at hq) <;> (try (exfalso; omega)) <;> (try contradiction) <;> (first | refine TR_pv0 PV_move rfl ?_ | refine TR_skip0 rfl ?_))); all_goals (first | refine TR_pv0 (PV_neq rfl rfl) rfl ?_ | refine TR_skip0 rfl ?_ | (refine TR_gsplit rfl rfl rfl (fun hq => ?_) (fun hq => ?_) <;> (try simp only [qs] at hq) <;> (try simp only [reduceCtorEq] at hq) <;> (try (exfalso; omega)) <;> (try contradiction) <;> (first | refine TR_pv0 (PV_neq rfl rfl) rfl ?_ | refine TR_skip0 rfl ?_))); all_goals (first | refine TR_pv0 (PV_pick_t rfl) rfl ?_ | refine TR_pv0 (PV_pick_f rfl) rfl ?_); all_goals refine TR_nil ?_)
      | (refine TC_plain (id := 26) (by kernel_rfl) ?_; refine TR_pv0 PV_assign rfl ?_; refine TR_nil ?_)
      | (refine TC_plain (id := 27) (by kernel_rfl) ?_; refine TR_pv0 PV_move rfl ?_)
      | (refine TC_plain (id := 28) (by kernel_rfl) ?_; refine TR_pv0 PV_assign rfl ?_; refine TR_nil ?_)
      | (refine TC_plain (id := 29) (by kernel_rfl) ?_; refine TR_pv0 PV_move rfl ?_; refine TR_pv0 PV_move rfl ?_; refine TR_pv0 (PV_len rfl) rfl ?_; refine TR_pv0 (PV_lss rfl rfl) rfl ?_; refine TR_nil ?_)
      | (refine TC_plain (id := 31) (by kernel_rfl) ?_; refine TR_pv0 PV_move rfl ?_; refine TR_pv0 PV_move rfl ?_; refine TR_pv0 PV_move rfl ?_; (first | refine TR_pv0 (PV_indexAddr rfl rfl (by omega)) rfl ?_ | refine TR_pv0 (PV_indexArr rfl rfl (by omega)) rfl ?_); (first | refine TR_load0 rfl 0 rfl rfl rfl ?_ | refine TR_load0 rfl 1 rfl rfl rfl ?_ | refine TR_load0 rfl 2 rfl rfl rfl ?_ | refine TR_load0 rfl 3 rfl rfl rfl ?_))
      | (refine TC_plain (id := 32) (by kernel_rfl) ?_; all_goals refine TR_pv0 PV_move rfl ?_; all_goals refine TR_pv0 (PV_not rfl) rfl ?_; all_goals refine TR_pv0 PV_move rfl ?_; all_goals (first | refine TR_pv0 PV_move rfl ?_ | refine TR_skip0 rfl ?_ | (refine TR_gsplit rfl rfl rfl (fun hq => ?_) (fun hq => ?_) <;> (try simp only [qs] at hq) <;> (try simp only [reduceCtorEq] at hq) <;> (try (exfalso; omega)) <;> (try contradiction) <;> (first | refine TR_pv0 PV_move rfl ?_ | refine TR_skip0 rfl ?_))); all_goals (first | refine TR_pv0 (PV_neq rfl rfl) rfl ?_ | refine TR_skip0 rfl ?_ | (refine TR_gsplit rfl rfl rfl (fun hq => ?_) (fun hq => ?_) <;> (try simp only [qs] at hq) <;> (try simp only [reduceCtorEq] at hq) <;> (try (exfalso; omega)) <;> (try contradiction) <;> (first | refine TR_pv0 (PV_neq rfl rfl) rfl ?_ | refine TR_skip0 rfl ?_))); all_goals (first | refine TR_pv0 (PV_pick_t rfl) rfl ?_ | refine TR_pv0 (PV_pick_f rfl) rfl ?_); all_goals refine TR_nil ?_)
      | (refine TC_plain (id := 33) (by kernel_rfl) ?_; refine TR_pv0 PV_assign rfl ?_; refine TR_nil ?_)
      | (refine TC_plain (id := 30) (by kernel_rfl) ?_; refine TR_pv0 PV_move rfl ?_; (first | refine TR_pv0 (PV_add64 rfl rfl (by omega)) rfl ?_ | refine TR_pv0 (PV_add64w rfl rfl) rfl ?_); refine TR_pv0 PV_assign rfl ?_; refine TR_nil ?_)
      | (refine TC_plain (id := 21) (by kernel_rfl) ?_; refine TR_pv0 PV_move rfl ?_; (first | refine TR_pv0 (PV_add64 rfl rfl (by omega)) rfl ?_ | refine TR_pv0 (PV_add64w rfl rfl) rfl ?_); refine TR_pv0 PV_assign rfl ?_; refine TR_nil ?_)
      | (refine TC_plain (id := 34) (by kernel_rfl) ?_; refine TR_calld0 (flWorks) rfl rfl rfl rfl ?_; refine TR_pv0 PV_assign rfl ?_; refine TR_nil ?_)
      | refine TC_cond_t rfl rfl ?_
      | refine TC_cond_f rfl rfl ?_
      | refine TC_skip ?_
      | refine TC_ret ?_
      | refine TC_exit ?_
      | refine TC_block ?_
      | refine TQ_then_ret ?_
      | refine TQ_then_exit ?_
      | refine TQ_blk ?_
      | refine TQ_blk_ret ?_
      | refine TQ_blk_here ?_
      | refine TQ_blk_past rfl ?_
      | refine TC_label ?_
      | (refine TC_cond rfl rfl (fun hq => ?_) (fun hq => ?_) <;> (try simp only [qs] at hq) <;> (try simp only [reduceCtorEq] at hq) <;> (try (exfalso; omega)) <;> (try contradiction))
      | (refine TR_pv0 PV_move rfl ?_; refine TR_pv0 (PV_extract rfl rfl) rfl ?_; refine TR_pv0 (PV_extract rfl rfl) rfl ?_; (refine TR_alloc0 rfl ?_; intro _); (first | refine TR_storeA0_0 rfl rfl rfl rfl rfl rfl ?_ | refine TR_storeA0_1 rfl rfl rfl rfl rfl rfl ?_ | refine TR_storeA0_2 rfl rfl rfl rfl rfl rfl ?_ | refine TR_storeA0_3 rfl rfl rfl rfl rfl rfl ?_); refine TR_pv0 PV_assign rfl ?_; refine TR_nil ?_)
      | (refine TR_pv0 PV_assign rfl ?_; refine TR_nil ?_)
      | (refine TR_pv0 PV_move rfl ?_; refine TR_pv0 (PV_extract rfl rfl) rfl ?_; refine TR_pv0 (PV_extract rfl rfl) rfl ?_; refine TR_pv0 (PV_extract rfl rfl) rfl ?_; (refine TR_alloc0 rfl ?_; intro _); (first | refine TR_storeA0_0 rfl rfl rfl rfl rfl rfl ?_ | refine TR_storeA0_1 rfl rfl rfl rfl rfl rfl ?_ | refine TR_storeA0_2 rfl rfl rfl rfl rfl rfl ?_ | refine TR_storeA0_3 rfl rfl rfl rfl rfl rfl ?_); refine TR_pv0 PV_assign rfl ?_; refine TR_pv0 PV_assign rfl ?_; refine TR_nil ?_)
      exact TQ_ret1e (v := .bool true) rfl rfl rfl ⟨rfl, rfl⟩ (fun a => by simp only [les]; omega)
end Go.Proofs.Ytonfkkdahlboiaa
