/- What is done with a flight: the operations, as they are handed in; Vast; Plain. -/
import Derived.Test.YtonfkkdahlboiaaFlX
namespace Go.Proofs.Ytonfkkdahlboiaa
open Go.RowKit
set_option maxHeartbeats 4000000
set_option maxRecDepth 10000

structure LOp where
  kind : Int
  d : Pc
  ba : Option Addr
  bcap : Nat
  path : Int
  now : Int
  id : Int
  by_ : Int
  gaps : List (Int × Int)
  ga : Option Addr
  gcap : Nat
abbrev LOp.cells (o : LOp) : List Value := [i64 o.kind, u32 o.d.tsn, u16 o.d.stream, u16 o.d.ssn, .bool o.d.unord, .bool o.d.first, .bool o.d.last, .slice o.ba o.d.bytes.length o.bcap, i64 o.path, i64 o.now, i64 o.id, u32 o.by_, .slice o.ga o.gaps.length o.gcap]
structure LOp.ok (H : Seg) (o : LOp) : Prop where
  b : SliceAt H 1 o.ba o.d.bytes.length (o.d.bytes.map fun x => [.int .u8 x])
  g : SliceAt H 2 o.ga o.gaps.length (o.gaps.map fun x => [u16 x.1, u16 x.2])
  gr : GapsOk o.gaps
  by0 : 0 ≤ o.by_
  by1 : o.by_ ≤ 4294967295
  bl : o.d.bytes.length ≤ 9223372036854775807
  gl : o.gaps.length ≤ 9223372036854775807
structure LOp.small (o : LOp) : Prop where
  b : o.d.bytes.length ≤ 65536
  g : o.gaps.length ≤ 50
def weigh (l : List LOp) : Int := (l.map fun o => min (o.d.bytes.length : Int) 131072).sum
theorem weigh_next {l : List LOp} {k : Nat} {o : LOp} (h : l[k]? = some o) : weigh (l.take (k + 1)) = weigh (l.take k) + min (o.d.bytes.length : Int) 131072 := by
  rw [take_next h]; simp [weigh]
theorem weigh_nonneg : ∀ l : List LOp, 0 ≤ weigh l
  | [] => by simp [weigh]
  | o :: l => by
    have ih := weigh_nonneg l
    have e : weigh (o :: l) = min (o.d.bytes.length : Int) 131072 + weigh l := by simp [weigh]
    rw [e]; omega

structure Few (ops : List LOp) : Prop where
  n : ops.length ≤ 100
  s : ∀ o ∈ ops, o.small
  w : (ops.map fun o => (o.d.bytes.length : Int)).sum ≤ 65536

theorem vast_ct (H : Seg) (a : Option Addr) (n cap : Nat) (ops : List LOp) (hn : n ≤ 9223372036854775807) (ho : ∀ o ∈ ops, o.ok H) (hs : SliceAt H 13 a n (ops.map LOp.cells)) :
    Ct Try.prog 21 [.slice a n cap] [H] (fun v D => D = [H] ∧ (v = .bool true ∨ v = .bool false ∧ Few ops)) := by
  have hl : ops.length = n := by simpa using hs.len
  subst hl
  refine Ct_intro Try.func21 rfl (by simp only [Try.ntmps21, List.length_cons, List.length_nil]; omega) ?_
  intro w₀ R
  by_cases hbig : (100 : Int) < ops.length
  · repeat' first
    | refine TC_seq ?_
    | refine TQ_then ?_
    | (refine TC_plain (id := 0) (by kernel_rfl) ?_; refine TR_pv0 PV_assign rfl ?_; refine TR_nil ?_)
    | (refine TC_plain (id := 1) (by kernel_rfl) ?_; refine TR_pv0 PV_move rfl ?_; refine TR_pv0 (PV_len rfl) rfl ?_; refine TR_pv0 (PV_gtr rfl rfl) rfl ?_; refine TR_nil ?_)
    | (refine TC_plain (id := 2) (by kernel_rfl) ?_; refine TR_pv0 PV_assign rfl ?_; refine TR_nil ?_)
    | refine TC_ret ?_
    | refine TQ_then_ret ?_
    | (refine TC_cond rfl rfl (fun hq => ?_) (fun hq => ?_) <;> (try simp only [qs] at hq) <;> (try simp only [reduceCtorEq] at hq) <;> (try (exfalso; omega)) <;> (try contradiction))
    exact TQ_ret1e (v := .bool true) (C' := [H]) rfl rfl rfl ⟨rfl, .inl rfl⟩ (fun a => by simp only [les]; omega)
  repeat' first
    | refine TC_seq ?_
    | refine TQ_then ?_
    | (refine TC_plain (id := 0) (by kernel_rfl) ?_; refine TR_pv0 PV_assign rfl ?_; refine TR_nil ?_)
    | (refine TC_plain (id := 1) (by kernel_rfl) ?_; refine TR_pv0 PV_move rfl ?_; refine TR_pv0 (PV_len rfl) rfl ?_; refine TR_pv0 (PV_gtr rfl rfl) rfl ?_; refine TR_nil ?_)
    | (refine TC_plain (id := 3) (by kernel_rfl) ?_; refine TR_pv0 PV_assign rfl ?_; refine TR_nil ?_)
    | (refine TC_plain (id := 4) (by kernel_rfl) ?_; refine TR_pv0 PV_assign rfl ?_; refine TR_nil ?_)
    | refine TC_skip ?_
    | refine TC_block ?_
    | (refine TC_cond rfl rfl (fun hq => ?_) (fun hq => ?_) <;> (try simp only [qs] at hq) <;> (try simp only [reduceCtorEq] at hq) <;> (try (exfalso; omega)) <;> (try contradiction))
  refine TC_loopP (X := Nat) (fun _ => H :: R) (fun s => [(0, .slice a ops.length cap), (3, i64 (weigh (ops.take s))), (4, i64 s)])
    (fun s => s ≤ ops.length ∧ weigh (ops.take s) ≤ 65536 ∧ weigh (ops.take s) = ((ops.take s).map fun o => (o.d.bytes.length : Int)).sum ∧ ∀ o ∈ ops.take s, o.small) (fun s => ops.length - s) 0
    ⟨Nat.zero_le _, by simp [weigh], by simp [weigh], fun o h => by simp at h⟩ ⟨rfl, rfl, rfl, trivial⟩ (fun w hs => hs) ?_
  rintro k σg mm hmm ⟨hk, hw, he, hsm⟩
  have hw0 := weigh_nonneg (ops.take k)
  by_cases hlt : k < ops.length
  · obtain ⟨o, hok⟩ : ∃ o, ops[k]? = some o := ⟨ops[k], List.getElem?_eq_getElem hlt⟩
    obtain ⟨bb, off, T, cs, fz, ha, hmem, htk⟩ := hs.at_ k o.cells (by rw [List.getElem?_map, hok]; rfl)
    have h7 : cs[off + (k : Int).toNat * 13 + 1 + 6]? = some (.slice o.ba o.d.bytes.length o.bcap) := take_at (j := 7) htk (by omega)
    have h12 : cs[off + (k : Int).toNat * 13 + 12]? = some (.slice o.ga o.gaps.length o.gcap) := take_at (j := 12) htk (by omega)
    have hoo := ho o (List.mem_of_getElem? hok)
    have hwn := weigh_next hok
    have hbl := hoo.bl
    have hgl := hoo.gl
    subst ha
    by_cases c1 : (65536 : Int) < weigh (ops.take k) + min (o.d.bytes.length : Int) 131072
    · repeat' first
      | refine TC_seq ?_
      | refine TQ_then ?_
      | (refine TC_plain (id := 5) (by kernel_rfl) ?_; refine TR_pv0 PV_move rfl ?_; refine TR_pv0 PV_move rfl ?_; refine TR_pv0 (PV_len rfl) rfl ?_; refine TR_pv0 (PV_lss rfl rfl) rfl ?_; refine TR_nil ?_)
      | (refine TC_plain (id := 7) (by kernel_rfl) ?_; refine TR_pv0 PV_move rfl ?_; refine TR_pv0 PV_move rfl ?_; refine TR_pv0 PV_move rfl ?_; refine TR_pv0 (PV_indexAddr rfl rfl (by omega)) rfl ?_; refine TR_pv0 (PV_fieldAddr rfl) rfl ?_; refine TR_pv0 (PV_fieldAddr rfl) rfl ?_; refine TR_loadM0 rfl hmem 0 rfl h7 rfl ?_; refine TR_pv0 (PV_len rfl) rfl ?_; refine TR_pv0 (PV_min rfl rfl) rfl ?_; refine TR_pv0 (PV_add64 rfl rfl (by omega)) rfl ?_; refine TR_pv0 PV_assign rfl ?_; refine TR_nil ?_)
      | (refine TC_plain (id := 8) (by kernel_rfl) ?_; all_goals refine TR_pv0 PV_move rfl ?_; all_goals refine TR_pv0 (PV_gtr rfl rfl) rfl ?_; all_goals refine TR_pv0 PV_move rfl ?_; all_goals (refine TR_gsplit rfl rfl rfl (fun hq => ?_) (fun hq => ?_) <;> (try simp only [qs] at hq) <;> (try simp only [reduceCtorEq] at hq) <;> (try (exfalso; omega)) <;> (try contradiction) <;> refine TR_skip0 rfl ?_); all_goals refine TR_skip0 rfl ?_; all_goals refine TR_skip0 rfl ?_; all_goals refine TR_skip0 rfl ?_; all_goals refine TR_skip0 rfl ?_; all_goals refine TR_skip0 rfl ?_; all_goals refine TR_skip0 rfl ?_; all_goals refine TR_pv0 (PV_pick_t rfl) rfl ?_; all_goals refine TR_nil ?_)
      | (refine TC_plain (id := 9) (by kernel_rfl) ?_; refine TR_pv0 PV_assign rfl ?_; refine TR_nil ?_)
      | refine TC_cond_t rfl rfl ?_
      | refine TC_skip ?_
      | refine TC_ret ?_
      | refine TC_block ?_
      | refine TQ_then_ret ?_
      | refine TQ_blk_ret ?_
      | (refine TC_cond rfl rfl (fun hq => ?_) (fun hq => ?_) <;> (try simp only [qs] at hq) <;> (try simp only [reduceCtorEq] at hq) <;> (try (exfalso; omega)) <;> (try contradiction))
      exact TQ_ret1e (v := .bool true) (C' := [H]) rfl rfl rfl ⟨rfl, .inl rfl⟩ (fun a => by simp only [les]; omega)
    · by_cases c2 : (50 : Int) < o.gaps.length
      · repeat' first
        | refine TC_seq ?_
        | refine TQ_then ?_
        | (refine TC_plain (id := 5) (by kernel_rfl) ?_; refine TR_pv0 PV_move rfl ?_; refine TR_pv0 PV_move rfl ?_; refine TR_pv0 (PV_len rfl) rfl ?_; refine TR_pv0 (PV_lss rfl rfl) rfl ?_; refine TR_nil ?_)
        | (refine TC_plain (id := 7) (by kernel_rfl) ?_; refine TR_pv0 PV_move rfl ?_; refine TR_pv0 PV_move rfl ?_; refine TR_pv0 PV_move rfl ?_; refine TR_pv0 (PV_indexAddr rfl rfl (by omega)) rfl ?_; refine TR_pv0 (PV_fieldAddr rfl) rfl ?_; refine TR_pv0 (PV_fieldAddr rfl) rfl ?_; refine TR_loadM0 rfl hmem 0 rfl h7 rfl ?_; refine TR_pv0 (PV_len rfl) rfl ?_; refine TR_pv0 (PV_min rfl rfl) rfl ?_; refine TR_pv0 (PV_add64 rfl rfl (by omega)) rfl ?_; refine TR_pv0 PV_assign rfl ?_; refine TR_nil ?_)
        | (refine TC_plain (id := 8) (by kernel_rfl) ?_; all_goals refine TR_pv0 PV_move rfl ?_; all_goals refine TR_pv0 (PV_gtr rfl rfl) rfl ?_; all_goals refine TR_pv0 PV_move rfl ?_; all_goals (refine TR_gsplit rfl rfl rfl (fun hq => ?_) (fun hq => ?_) <;> (try simp only [qs] at hq) <;> (try simp only [reduceCtorEq] at hq) <;> (try (exfalso; omega)) <;> (try contradiction) <;> refine TR_pv0 PV_move rfl ?_); all_goals refine TR_pv0 PV_move rfl ?_; all_goals refine TR_pv0 (PV_indexAddr rfl rfl (by omega)) rfl ?_; all_goals refine TR_pv0 (PV_fieldAddr rfl) rfl ?_; all_goals refine TR_loadM0 rfl hmem 0 rfl h12 rfl ?_; all_goals refine TR_pv0 (PV_len rfl) rfl ?_; all_goals refine TR_pv0 (PV_gtr rfl rfl) rfl ?_; all_goals refine TR_pv0 (PV_pick_f rfl) rfl ?_; all_goals refine TR_nil ?_)
        | (refine TC_plain (id := 9) (by kernel_rfl) ?_; refine TR_pv0 PV_assign rfl ?_; refine TR_nil ?_)
        | refine TC_skip ?_
        | refine TC_ret ?_
        | refine TC_block ?_
        | refine TQ_then_ret ?_
        | refine TQ_blk_ret ?_
        | (refine TC_cond rfl rfl (fun hq => ?_) (fun hq => ?_) <;> (try simp only [qs] at hq) <;> (try simp only [reduceCtorEq] at hq) <;> (try (exfalso; omega)) <;> (try contradiction))
        exact TQ_ret1e (v := .bool true) (C' := [H]) rfl rfl rfl ⟨rfl, .inl rfl⟩ (fun a => by simp only [les]; omega)
      · repeat' first
        | refine TC_seq ?_
        | refine TQ_then ?_
        | (refine TC_plain (id := 5) (by kernel_rfl) ?_; refine TR_pv0 PV_move rfl ?_; refine TR_pv0 PV_move rfl ?_; refine TR_pv0 (PV_len rfl) rfl ?_; refine TR_pv0 (PV_lss rfl rfl) rfl ?_; refine TR_nil ?_)
        | (refine TC_plain (id := 7) (by kernel_rfl) ?_; refine TR_pv0 PV_move rfl ?_; refine TR_pv0 PV_move rfl ?_; refine TR_pv0 PV_move rfl ?_; refine TR_pv0 (PV_indexAddr rfl rfl (by omega)) rfl ?_; refine TR_pv0 (PV_fieldAddr rfl) rfl ?_; refine TR_pv0 (PV_fieldAddr rfl) rfl ?_; refine TR_loadM0 rfl hmem 0 rfl h7 rfl ?_; refine TR_pv0 (PV_len rfl) rfl ?_; refine TR_pv0 (PV_min rfl rfl) rfl ?_; refine TR_pv0 (PV_add64 rfl rfl (by omega)) rfl ?_; refine TR_pv0 PV_assign rfl ?_; refine TR_nil ?_)
        | (refine TC_plain (id := 8) (by kernel_rfl) ?_; all_goals refine TR_pv0 PV_move rfl ?_; all_goals refine TR_pv0 (PV_gtr rfl rfl) rfl ?_; all_goals refine TR_pv0 PV_move rfl ?_; all_goals (refine TR_gsplit rfl rfl rfl (fun hq => ?_) (fun hq => ?_) <;> (try simp only [qs] at hq) <;> (try simp only [reduceCtorEq] at hq) <;> (try (exfalso; omega)) <;> (try contradiction) <;> refine TR_pv0 PV_move rfl ?_); all_goals refine TR_pv0 PV_move rfl ?_; all_goals refine TR_pv0 (PV_indexAddr rfl rfl (by omega)) rfl ?_; all_goals refine TR_pv0 (PV_fieldAddr rfl) rfl ?_; all_goals refine TR_loadM0 rfl hmem 0 rfl h12 rfl ?_; all_goals refine TR_pv0 (PV_len rfl) rfl ?_; all_goals refine TR_pv0 (PV_gtr rfl rfl) rfl ?_; all_goals refine TR_pv0 (PV_pick_f rfl) rfl ?_; all_goals refine TR_nil ?_)
        | (refine TC_plain (id := 6) (by kernel_rfl) ?_; refine TR_pv0 PV_move rfl ?_; refine TR_pv0 (PV_add64 rfl rfl (by omega)) rfl ?_; refine TR_pv0 PV_assign rfl ?_; refine TR_nil ?_)
        | refine TC_skip ?_
        | refine TC_block ?_
        | refine TQ_blk ?_
        | (refine TC_cond rfl rfl (fun hq => ?_) (fun hq => ?_) <;> (try simp only [qs] at hq) <;> (try simp only [reduceCtorEq] at hq) <;> (try (exfalso; omega)) <;> (try contradiction))
        refine TQ_roundP (k + 1) ⟨hlt, by rw [hwn]; omega, ?_, ?_⟩ (by show ops.length - (k + 1) < mm; omega) ⟨rfl, ?_, rfl, trivial⟩ (fun w hs => hs)
        · rw [hwn, take_next hok, List.map_append, List.sum_append, he]
          simp only [List.map_cons, List.map_nil, List.sum_cons, List.sum_nil]
          omega
        · intro q hq
          rw [take_next hok] at hq
          rcases List.mem_append.1 hq with h | h
          · exact hsm q h
          · obtain rfl := List.mem_singleton.1 h
            exact ⟨by omega, by omega⟩
        · rw [hwn]; rfl
  · obtain rfl : k = ops.length := by omega
    rw [List.take_length] at hsm he hw
    repeat' first
      | refine TC_seq ?_
      | refine TQ_then ?_
      | (refine TC_plain (id := 5) (by kernel_rfl) ?_; refine TR_pv0 PV_move rfl ?_; refine TR_pv0 PV_move rfl ?_; refine TR_pv0 (PV_len rfl) rfl ?_; refine TR_pv0 (PV_lss rfl rfl) rfl ?_; refine TR_nil ?_)
      | (refine TC_plain (id := 10) (by kernel_rfl) ?_; refine TR_pv0 PV_assign rfl ?_; refine TR_nil ?_)
      | refine TC_ret ?_
      | refine TC_exit ?_
      | refine TQ_then_exit ?_
      | refine TQ_blk_here ?_
      | (refine TC_cond rfl rfl (fun hq => ?_) (fun hq => ?_) <;> (try simp only [qs] at hq) <;> (try simp only [reduceCtorEq] at hq) <;> (try (exfalso; omega)) <;> (try contradiction))
    exact TQ_ret1e (v := .bool false) (C' := [H]) rfl rfl rfl ⟨rfl, .inr ⟨rfl, by omega, hsm, by omega⟩⟩ (fun a => by simp only [les]; omega)

end Go.Proofs.Ytonfkkdahlboiaa
