/- The same pieces, the same lists; what is done with the flight of the reference. -/
import Derived.Test.YtonfkkdahlboiaaRfG
import Derived.Test.YtonfkkdahlboiaaLibN
namespace Go.Proofs.Ytonfkkdahlboiaa
open Go.RowKit
set_option maxHeartbeats 4000000
set_option maxRecDepth 10000

theorem sameD_cd (d : Pc) (w1 w2 : Row) (h1 : w1.ok 5 1 d.bytes.length (u8s d.bytes)) (h2 : w2.ok 5 1 d.bytes.length (u8s d.bytes)) :
    Cd Try.prog 29 [.agg (d.at_ w1).toArray, .agg (d.at_ w2).toArray] [w1.C, w2.C] (.bool true) [w1.C, w2.C] := by
  refine Ct_intro Try.func29 rfl (by simp only [Try.ntmps29, List.length_cons, List.length_nil]; omega) ?_
  intro w₀ R
  refine TC_le (L' := w1.C :: w2.C :: R) (fun a => by simp only [les]; omega) ?_
  repeat' first
    | refine TC_seq ?_
    | refine TQ_then ?_
    | (refine TC_plain (id := 0) (by kernel_rfl) ?_; (refine TR_box0 rfl rfl rfl ?_; intro _); (refine TR_box0 rfl rfl rfl ?_; intro _); refine TR_pv0 PV_assign rfl ?_; refine TR_nil ?_)
    | (refine TC_plain (id := 1) (by kernel_rfl) ?_; all_goals refine TR_pv0 (PV_fieldAddr rfl) rfl ?_; all_goals refine TR_load0 rfl 1 rfl rfl rfl ?_; all_goals refine TR_pv0 (PV_fieldAddr rfl) rfl ?_; all_goals refine TR_load0 rfl 0 rfl rfl rfl ?_; all_goals refine TR_pv0 (PV_eql rfl rfl) rfl ?_; all_goals refine TR_pv0 PV_move rfl ?_; all_goals (refine TR_gsplit rfl rfl rfl (fun hq => ?_) (fun hq => ?_) <;> (try simp only [qs] at hq) <;> (try simp only [reduceCtorEq] at hq) <;> (try (exfalso; omega)) <;> (try contradiction) <;> refine TR_pv0 (PV_fieldAddr rfl) rfl ?_); all_goals refine TR_load0 rfl 1 rfl rfl rfl ?_; all_goals refine TR_pv0 (PV_fieldAddr rfl) rfl ?_; all_goals refine TR_load0 rfl 0 rfl rfl rfl ?_; all_goals refine TR_pv0 (PV_eql rfl rfl) rfl ?_; all_goals refine TR_pv0 (PV_pick_t rfl) rfl ?_; all_goals refine TR_pv0 PV_move rfl ?_; all_goals (refine TR_gsplit rfl rfl rfl (fun hq => ?_) (fun hq => ?_) <;> (try simp only [qs] at hq) <;> (try simp only [reduceCtorEq] at hq) <;> (try (exfalso; omega)) <;> (try contradiction) <;> refine TR_pv0 (PV_fieldAddr rfl) rfl ?_); all_goals refine TR_load0 rfl 1 rfl rfl rfl ?_; all_goals refine TR_pv0 (PV_fieldAddr rfl) rfl ?_; all_goals refine TR_load0 rfl 0 rfl rfl rfl ?_; all_goals refine TR_pv0 (PV_eql rfl rfl) rfl ?_; all_goals refine TR_pv0 (PV_pick_t rfl) rfl ?_; all_goals refine TR_pv0 PV_move rfl ?_; all_goals (refine TR_gsplit rfl rfl rfl (fun hq => ?_) (fun hq => ?_) <;> (try simp only [qs] at hq) <;> (try simp only [reduceCtorEq] at hq) <;> (try (exfalso; omega)) <;> (try contradiction) <;> refine TR_pv0 (PV_fieldAddr rfl) rfl ?_); all_goals refine TR_load0 rfl 1 rfl rfl rfl ?_; all_goals refine TR_pv0 (PV_fieldAddr rfl) rfl ?_; all_goals refine TR_load0 rfl 0 rfl rfl rfl ?_; all_goals refine TR_pv0 (PV_beq rfl rfl) rfl ?_; all_goals refine TR_pv0 (PV_pick_t rfl) rfl ?_; all_goals refine TR_pv0 PV_move rfl ?_; all_goals (refine TR_gsplit rfl rfl rfl (fun hq => ?_) (fun hq => ?_) <;> (try simp only [qs] at hq) <;> (try simp only [reduceCtorEq] at hq) <;> (try (exfalso; omega)) <;> (try contradiction) <;> refine TR_pv0 (PV_fieldAddr rfl) rfl ?_); all_goals refine TR_load0 rfl 1 rfl rfl rfl ?_; all_goals refine TR_pv0 (PV_fieldAddr rfl) rfl ?_; all_goals refine TR_load0 rfl 0 rfl rfl rfl ?_; all_goals refine TR_pv0 (PV_beq rfl rfl) rfl ?_; all_goals refine TR_pv0 (PV_pick_t rfl) rfl ?_; all_goals refine TR_pv0 PV_move rfl ?_; all_goals (refine TR_gsplit rfl rfl rfl (fun hq => ?_) (fun hq => ?_) <;> (try simp only [qs] at hq) <;> (try simp only [reduceCtorEq] at hq) <;> (try (exfalso; omega)) <;> (try contradiction) <;> refine TR_pv0 (PV_fieldAddr rfl) rfl ?_); all_goals refine TR_load0 rfl 1 rfl rfl rfl ?_; all_goals refine TR_pv0 (PV_fieldAddr rfl) rfl ?_; all_goals refine TR_load0 rfl 0 rfl rfl rfl ?_; all_goals refine TR_pv0 (PV_beq rfl rfl) rfl ?_; all_goals refine TR_pv0 (PV_pick_t rfl) rfl ?_; all_goals refine TR_pv0 PV_move rfl ?_; all_goals (refine TR_gsplit rfl rfl rfl (fun hq => ?_) (fun hq => ?_) <;> (try simp only [qs] at hq) <;> (try simp only [reduceCtorEq] at hq) <;> (try (exfalso; omega)) <;> (try contradiction) <;> refine TR_pv0 (PV_fieldAddr rfl) rfl ?_); all_goals refine TR_load0 rfl 1 rfl rfl rfl ?_; all_goals refine TR_str0 (e := 5) rfl h1 2 rfl (by kernel_rfl) (by kernel_rfl) (by kernel_rfl) rfl ?_; all_goals refine TR_pv0 (PV_fieldAddr rfl) rfl ?_; all_goals refine TR_load0 rfl 0 rfl rfl rfl ?_; all_goals refine TR_str0 (e := 5) rfl h2 3 rfl (by kernel_rfl) (by kernel_rfl) (by kernel_rfl) rfl ?_; all_goals refine TR_pv0 (PV_eqStr rfl rfl) rfl ?_; all_goals refine TR_pv0 (PV_pick_t rfl) rfl ?_; all_goals refine TR_pv0 PV_assign rfl ?_; all_goals refine TR_nil ?_)
    | refine TC_ret ?_
  all_goals exact TQ_ret1e (v := .bool true) rfl rfl rfl ⟨rfl, rfl⟩ (fun a => by simp only [les]; omega)

theorem sameL_cd (l : List Int) (r1 r2 : Row) (h1 : r1.ok 22 1 l.length (u32s l)) (h2 : r2.ok 22 1 l.length (u32s l)) (hl : l.length ≤ 1099511627776) :
    Cd Try.prog 32 [r1.val l.length, r2.val l.length] [r1.C, r2.C] (.bool true) [r1.C, r2.C] := by
  refine Ct_intro Try.func32 rfl (by simp only [Try.ntmps32, List.length_cons, List.length_nil]; omega) ?_
  intro w₀ R
  refine TC_le (L' := r1.C :: r2.C :: R) (fun a => by simp only [les]; omega) ?_
  repeat' first
    | refine TC_seq ?_
    | refine TQ_then ?_
    | (refine TC_plain (id := 0) (by kernel_rfl) ?_; refine TR_pv0 PV_assign rfl ?_; refine TR_nil ?_)
    | (refine TC_plain (id := 1) (by kernel_rfl) ?_; refine TR_pv0 PV_move rfl ?_; refine TR_pv0 (PV_len rfl) rfl ?_; refine TR_pv0 PV_move rfl ?_; refine TR_pv0 (PV_len rfl) rfl ?_; refine TR_pv0 (PV_neq rfl rfl) rfl ?_; refine TR_nil ?_)
    | (refine TC_plain (id := 3) (by kernel_rfl) ?_; refine TR_pv0 PV_assign rfl ?_; refine TR_nil ?_)
    | refine TC_skip ?_
    | refine TC_block ?_
    | (refine TC_cond rfl rfl (fun hq => ?_) (fun hq => ?_) <;> (try simp only [qs] at hq) <;> (try simp only [reduceCtorEq] at hq) <;> (try (exfalso; omega)) <;> (try contradiction))
  refine TC_loopP (X := Nat) (fun _ => r1.C :: r2.C :: R) (fun k => [(0, r1.val l.length), (1, r2.val l.length), (5, i64 k)]) (fun k => k ≤ l.length) (fun k => l.length - k) 0 (Nat.zero_le _) ⟨rfl, rfl, rfl, trivial⟩ (fun w hs => hs) ?_
  rintro k σg mm hmm hk
  by_cases hlt : k < l.length
  · obtain ⟨b1, o1, c1, ha1, hC1, hl1, ht1⟩ := h1.opened (by omega)
    obtain ⟨b2, o2, c2, ha2, hC2, hl2, ht2⟩ := h2.opened (by omega)
    have hx : (u32s l)[k]? = some (u32 l[k]) := by rw [u32s, List.getElem?_map, List.getElem?_eq_getElem hlt]; rfl
    have e1 : c1[o1 + (k : Int).toNat * 1]? = some (u32 l[k]) := by rw [Int.toNat_natCast, Nat.mul_one, take_at ht1 (by omega)]; exact hx
    have e2 : c2[o2 + (k : Int).toNat * 1]? = some (u32 l[k]) := by rw [Int.toNat_natCast, Nat.mul_one, take_at ht2 (by omega)]; exact hx
    have s1 : Value.slice r1.a l.length r1.cap = .slice (some ⟨b1, o1, none⟩) l.length r1.cap := by rw [ha1]
    have s2 : Value.slice r2.a l.length r2.cap = .slice (some ⟨b2, o2, none⟩) l.length r2.cap := by rw [ha2]
    refine TC_le (L' := [(b1, .cells c1.toArray 22 (0, 0))] :: [(b2, .cells c2.toArray 22 (0, 0))] :: R) (Le.of_eq (by rw [hC1, hC2])) ?_
    repeat' first
      | refine TC_seq ?_
      | refine TQ_then ?_
      | refine TQ_noPanic ?_
      | (refine TC_plain (id := 4) (by kernel_rfl) ?_; refine TR_pv0 PV_move rfl ?_; refine TR_pv0 PV_move rfl ?_; refine TR_pv0 (PV_len rfl) rfl ?_; refine TR_pv0 (PV_lss rfl rfl) rfl ?_; refine TR_nil ?_)
      | (refine TC_drawn' (id := 6) [(0, 1), (1, 1), (2, 1), (3, 1), (4, 1), (5, 1), (6, 1), (7, 1), (8, 1)] mixed (by kernel_rfl) ?_; refine TR_pv1 PV_move rfl (fun _ h => h) ?_; refine TR_pv1 PV_move rfl (fun _ h => h) ?_; refine TR_pv1 (PV_indexAddr s1 rfl (by omega)) rfl (fun _ h => h) ?_; refine TR_load1 rfl 0 rfl e1 rfl (fun _ h => h) ?_; refine TR_pv1 PV_move rfl (fun _ h => h) ?_; refine TR_pv1 PV_move rfl (fun _ h => h) ?_; refine TR_pv1 (PV_indexAddr s2 rfl (by omega)) rfl (fun _ h => h) ?_; refine TR_load1 rfl 1 rfl e2 rfl (fun _ h => h) ?_; refine TR_pv1 (PV_neq rfl rfl) rfl (fun _ h => h) ?_; refine TR_nil ?_)
      | (refine TC_plain (id := 5) (by kernel_rfl) ?_; refine TR_pv0 PV_move rfl ?_; refine TR_pv0 (PV_add64 rfl rfl (by omega)) rfl ?_; refine TR_pv0 PV_assign rfl ?_; refine TR_nil ?_)
      | refine TC_skip ?_
      | refine TC_block ?_
      | refine TQ_blk ?_
      | (refine TC_cond rfl rfl (fun hq => ?_) (fun hq => ?_) <;> (try simp only [qs] at hq) <;> (try simp only [reduceCtorEq] at hq) <;> (try (exfalso; omega)) <;> (try contradiction))
    exact TQ_roundP (k + 1) hlt (by show l.length - (k + 1) < mm; omega) ⟨rfl, rfl, rfl, trivial⟩ (fun w hs => hs.le (Le.of_eq (by rw [hC1, hC2])))
  · obtain rfl : k = l.length := by omega
    repeat' first
      | refine TC_seq ?_
      | refine TQ_then ?_
      | (refine TC_plain (id := 4) (by kernel_rfl) ?_; refine TR_pv0 PV_move rfl ?_; refine TR_pv0 PV_move rfl ?_; refine TR_pv0 (PV_len rfl) rfl ?_; refine TR_pv0 (PV_lss rfl rfl) rfl ?_; refine TR_nil ?_)
      | (refine TC_plain (id := 8) (by kernel_rfl) ?_; refine TR_pv0 PV_assign rfl ?_; refine TR_nil ?_)
      | refine TC_ret ?_
      | refine TC_exit ?_
      | refine TQ_then_exit ?_
      | refine TQ_blk_here ?_
      | (refine TC_cond rfl rfl (fun hq => ?_) (fun hq => ?_) <;> (try simp only [qs] at hq) <;> (try simp only [reduceCtorEq] at hq) <;> (try (exfalso; omega)) <;> (try contradiction))
    exact TQ_ret1e (v := .bool true) rfl rfl rfl ⟨rfl, rfl⟩ (fun a => by simp only [les]; omega)

theorem psegs_at {l : List PL} {k : Nat} {x : PL} (h : l[k]? = some x) : psegs l = psegs (l.take k) ++ (x.w.C ++ psegs (l.drop (k + 1))) := by
  conv => lhs; rw [split_at h]
  simp [psegs]
theorem samePs_cd (l1 l2 : List PL) (r1 r2 : Row) (h1 : r1.ok 32 7 l1.length (pcells l1)) (h2 : r2.ok 32 7 l2.length (pcells l2)) (o1 : ∀ x ∈ l1, x.ok) (o2 : ∀ x ∈ l2, x.ok)
    (hd : l1.map (·.d) = l2.map (·.d)) (hl : l1.length ≤ 1099511627776) :
    Cd Try.prog 36 [r1.val l1.length, r2.val l2.length] [r1.C ++ psegs l1, r2.C ++ psegs l2] (.bool true) [r1.C ++ psegs l1, r2.C ++ psegs l2] := by
  have hlen : l1.length = l2.length := by have := congrArg List.length hd; simpa using this
  refine Ct_intro Try.func36 rfl (by simp only [Try.ntmps36, List.length_cons, List.length_nil]; omega) ?_
  intro w₀ R
  refine TC_le (L' := r1.C :: r2.C :: (psegs l1 ++ psegs l2) :: R) (fun a => by simp only [les]; omega) ?_
  repeat' first
    | refine TC_seq ?_
    | refine TQ_then ?_
    | (refine TC_plain (id := 0) (by kernel_rfl) ?_; refine TR_pv0 PV_assign rfl ?_; refine TR_nil ?_)
    | (refine TC_plain (id := 1) (by kernel_rfl) ?_; refine TR_pv0 PV_move rfl ?_; refine TR_pv0 (PV_len rfl) rfl ?_; refine TR_pv0 PV_move rfl ?_; refine TR_pv0 (PV_len rfl) rfl ?_; refine TR_pv0 (PV_neq rfl rfl) rfl ?_; refine TR_nil ?_)
    | (refine TC_plain (id := 3) (by kernel_rfl) ?_; refine TR_pv0 PV_assign rfl ?_; refine TR_nil ?_)
    | refine TC_skip ?_
    | refine TC_block ?_
    | (refine TC_cond rfl rfl (fun hq => ?_) (fun hq => ?_) <;> (try simp only [qs] at hq) <;> (try simp only [reduceCtorEq] at hq) <;> (try (exfalso; omega)) <;> (try contradiction))
  refine TC_loopP (X := Nat) (fun _ => r1.C :: r2.C :: (psegs l1 ++ psegs l2) :: R) (fun k => [(0, r1.val l1.length), (1, r2.val l2.length), (5, i64 k)]) (fun k => k ≤ l1.length) (fun k => l1.length - k) 0 (Nat.zero_le _) ⟨rfl, rfl, rfl, trivial⟩ (fun w hs => hs) ?_
  rintro k σg mm hmm hk
  by_cases hlt : k < l1.length
  · obtain ⟨x1, hx1⟩ : ∃ x, l1[k]? = some x := ⟨_, List.getElem?_eq_getElem hlt⟩
    obtain ⟨x2, hx2⟩ : ∃ x, l2[k]? = some x := ⟨_, List.getElem?_eq_getElem (by omega)⟩
    have hxd : x1.d = x2.d := by
      have := congrArg (fun z => z[k]?) hd
      simpa [hx1, hx2] using this
    obtain ⟨b1, p1, c1, ha1, hC1, hl1, ht1⟩ := h1.opened (by omega)
    obtain ⟨b2, p2, c2, ha2, hC2, hl2, ht2⟩ := h2.opened (by omega)
    have e1 : (c1.drop (p1 + (k : Int).toNat * 7)).take 7 = x1.d.at_ x1.w := flat_at (k := k) (xs := l1.map fun x => x.d.at_ x.w) (fun y hy => by obtain ⟨z, _, rfl⟩ := List.mem_map.1 hy; rfl) (by rw [List.length_map]; exact ht1) (by rw [List.getElem?_map, hx1]; rfl)
    have e2 : (c2.drop (p2 + (k : Int).toNat * 7)).take 7 = x2.d.at_ x2.w := flat_at (k := k) (xs := l2.map fun x => x.d.at_ x.w) (fun y hy => by obtain ⟨z, _, rfl⟩ := List.mem_map.1 hy; rfl) (by rw [List.length_map]; exact ht2) (by rw [List.getElem?_map, hx2]; rfl)
    have s1 : Value.slice r1.a l1.length r1.cap = .slice (some ⟨b1, p1, none⟩) l1.length r1.cap := by rw [ha1]
    have s2 : Value.slice r2.a l2.length r2.cap = .slice (some ⟨b2, p2, none⟩) l2.length r2.cap := by rw [ha2]
    have q1 := o1 x1 (List.mem_of_getElem? hx1)
    have q2 := o2 x2 (List.mem_of_getElem? hx2)
    have hsame : Cd Try.prog 29 [.agg (x1.d.at_ x1.w).toArray, .agg (x2.d.at_ x2.w).toArray] [x1.w.C, x2.w.C] (.bool true) [x1.w.C, x2.w.C] := by
      rw [PL.ok, ← hxd] at q2
      rw [← hxd]; exact sameD_cd x1.d x1.w x2.w q1 q2
    refine TC_le (L' := [(b1, .cells c1.toArray 32 (0, 0))] :: [(b2, .cells c2.toArray 32 (0, 0))] :: x1.w.C :: x2.w.C :: (psegs (l1.take k) ++ (psegs (l1.drop (k + 1)) ++ (psegs (l2.take k) ++ psegs (l2.drop (k + 1))))) :: R) (fun a => by simp only [les, hC1, hC2, psegs_at hx1, psegs_at hx2]; omega) ?_
    repeat' first
      | refine TC_seq ?_
      | refine TQ_then ?_
      | refine TQ_noPanic ?_
      | (refine TC_plain (id := 4) (by kernel_rfl) ?_; refine TR_pv0 PV_move rfl ?_; refine TR_pv0 PV_move rfl ?_; refine TR_pv0 (PV_len rfl) rfl ?_; refine TR_pv0 (PV_lss rfl rfl) rfl ?_; refine TR_nil ?_)
      | (refine TC_drawn' (id := 6) [(0, 1), (1, 1), (2, 1), (3, 1), (4, 1), (5, 1), (6, 1), (7, 1), (8, 0), (9, 0)] mixed (by kernel_rfl) ?_; refine TR_pv1 PV_move rfl (fun _ h => h) ?_; refine TR_pv1 PV_move rfl (fun _ h => h) ?_; refine TR_pv1 (PV_indexAddr s1 rfl (by omega)) rfl (fun _ h => h) ?_; refine TR_loadAM1 rfl (.head _) 0 rfl e1 rfl rfl (fun _ h => h) ?_; refine TR_pv1 PV_move rfl (fun _ h => h) ?_; refine TR_pv1 PV_move rfl (fun _ h => h) ?_; refine TR_pv1 (PV_indexAddr s2 rfl (by omega)) rfl (fun _ h => h) ?_; refine TR_loadAM1 rfl (.head _) 1 rfl e2 rfl rfl (fun _ h => h) ?_; refine TR_calld2_2_3 (hsame) rfl rfl rfl rfl ?_; refine TR_pv0 (PV_not rfl) rfl ?_; refine TR_nil ?_)
      | (refine TC_plain (id := 5) (by kernel_rfl) ?_; refine TR_pv0 PV_move rfl ?_; refine TR_pv0 (PV_add64 rfl rfl (by omega)) rfl ?_; refine TR_pv0 PV_assign rfl ?_; refine TR_nil ?_)
      | refine TC_cond_f rfl rfl ?_
      | refine TC_skip ?_
      | refine TC_block ?_
      | refine TQ_blk ?_
      | (refine TC_cond rfl rfl (fun hq => ?_) (fun hq => ?_) <;> (try simp only [qs] at hq) <;> (try simp only [reduceCtorEq] at hq) <;> (try (exfalso; omega)) <;> (try contradiction))
    exact TQ_roundP (k + 1) hlt (by show l1.length - (k + 1) < mm; omega) ⟨rfl, rfl, rfl, trivial⟩ (fun w hs => hs.le (fun a => by simp only [les, hC1, hC2, psegs_at hx1, psegs_at hx2]; omega))
  · obtain rfl : k = l1.length := by omega
    repeat' first
      | refine TC_seq ?_
      | refine TQ_then ?_
      | (refine TC_plain (id := 4) (by kernel_rfl) ?_; refine TR_pv0 PV_move rfl ?_; refine TR_pv0 PV_move rfl ?_; refine TR_pv0 (PV_len rfl) rfl ?_; refine TR_pv0 (PV_lss rfl rfl) rfl ?_; refine TR_nil ?_)
      | (refine TC_plain (id := 8) (by kernel_rfl) ?_; refine TR_pv0 PV_assign rfl ?_; refine TR_nil ?_)
      | refine TC_ret ?_
      | refine TC_exit ?_
      | refine TQ_then_exit ?_
      | refine TQ_blk_here ?_
      | (refine TC_cond rfl rfl (fun hq => ?_) (fun hq => ?_) <;> (try simp only [qs] at hq) <;> (try simp only [reduceCtorEq] at hq) <;> (try (exfalso; omega)) <;> (try contradiction))
    exact TQ_ret1e (v := .bool true) rfl rfl rfl ⟨rfl, rfl⟩ (fun a => by simp only [les]; omega)

/-! ### What is done -/
def MnPost (H : Seg) (b : Nat) (F : Flt) (A : Ans) (v : Value) (D : List Seg) : Prop :=
  ∃ (w : Row) (X' : QF), v = .agg (A.cells w).toArray ∧ D = [w.C, X'.seg b, H] ∧ QfOk X' ∧ X'.abs = F ∧ w.ok 5 1 A.d.bytes.length (u8s A.d.bytes)

theorem meant_add (H : Seg) (b : Nat) (X : QF) (h : QfOk X) (hf : FrOk X.abs) (o : LOp) (ho : o.ok H) (hb : o.d.bytes.length ≤ 65536) (hk : o.kind = 0) (cum : Int) :
    Ct Try.prog 28 [ptr b, .agg o.cells.toArray, u32 cum] [X.seg b, H] (MnPost H b (X.abs.add o.d o.path o.now o.id) { ans0 with n := X.abs.addT o.d o.path, e := X.abs.addE o.d o.path }) := by
  have hsrc : ∀ w, sat w [H] → SrcAt w o.ba (u8s o.d.bytes) := fun w hw => by
    have := src_slice ho.b (by omega) (fun x hx => by obtain ⟨y, _, rfl⟩ := List.mem_map.1 hx; rfl) 0 (L := [H]) rfl w hw
    rwa [flat_u8] at this
  have hadd := qadd_ct b X h hf o.d o.ba o.bcap o.path o.now o.id H hsrc (by omega)
  have hnx : 0 ≤ X.abs.next ∧ X.abs.next < 4294967296 := by unfold Flt.next; omega
  have hT : 0 ≤ X.abs.addT o.d o.path ∧ X.abs.addT o.d o.path < 4294967296 := by unfold Flt.addT; split <;> omega
  refine Ct_intro Try.func28 rfl (by simp only [Try.ntmps28, List.length_cons, List.length_nil]; omega) ?_
  intro w₀ R
  repeat' first
    | refine TC_seq ?_
    | refine TQ_then ?_
    | (refine TC_plain (id := 0) (by kernel_rfl) ?_; (refine TR_box0 rfl rfl rfl ?_; intro xb); (refine TR_alloc0 rfl ?_; intro rb); refine TR_nil ?_)
    | (refine TC_plain (id := 1) (by kernel_rfl) ?_; (refine TR_alloc0 rfl ?_; intro zb); refine TR_nil ?_)
    | (refine TC_plain (id := 2) (by kernel_rfl) ?_; refine TR_pv0 (PV_fieldAddr rfl) rfl ?_; refine TR_load0 rfl 2 rfl rfl rfl ?_; refine TR_nil ?_)
    | (refine TC_plain (id := 3) (by kernel_rfl) ?_; refine TR_pv0 (PV_eql rfl rfl) rfl ?_; refine TR_pv0 PV_assign rfl ?_; refine TR_nil ?_)
    | (refine TC_plain (id := 4) (by kernel_rfl) ?_; refine TR_pv0 PV_move rfl ?_; refine TR_pv0 (PV_fieldAddr rfl) rfl ?_; refine TR_loadA0 rfl 2 rfl rfl rfl ?_; refine TR_pv0 (PV_fieldAddr rfl) rfl ?_; refine TR_load0 rfl 2 rfl rfl rfl ?_; refine TR_pv0 (PV_fieldAddr rfl) rfl ?_; refine TR_load0 rfl 2 rfl rfl rfl ?_; refine TR_pv0 (PV_fieldAddr rfl) rfl ?_; refine TR_load0 rfl 2 rfl rfl rfl ?_; (refine TR_call0 (hadd) rfl rfl (.cons (.there (.there (.there .here))) (.cons (.there (.there (.there .here))) .nil)) rfl ?_; rintro _ _ ⟨rfl, X', rfl, hX', hA'⟩); refine TR_pv0 PV_move rfl ?_; refine TR_pv0 (PV_extract rfl rfl) rfl ?_; refine TR_pv0 (PV_extract rfl rfl) rfl ?_; refine TR_pv0 PV_assign rfl ?_; refine TR_pv0 PV_assign rfl ?_; refine TR_nil ?_)
    | (refine TC_plain (id := 5) (by kernel_rfl) ?_; refine TR_pv0 PV_move rfl ?_; refine TR_pv0 (PV_conv64 rfl (by omega)) rfl ?_; refine TR_pv0 PV_move rfl ?_; refine TR_pv0 (PV_build rfl rfl) rfl ?_; refine TR_storeA0_3 rfl rfl rfl rfl rfl rfl ?_; refine TR_nil ?_)
    | refine TC_ret ?_
    | refine TC_block ?_
    | refine TQ_then_ret ?_
    | refine TQ_blk_ret ?_
    | (refine TC_cond rfl rfl (fun hq => ?_) (fun hq => ?_) <;> (try simp only [qs] at hq) <;> (try simp only [reduceCtorEq] at hq) <;> (try (exfalso; omega)) <;> (try contradiction))
  refine TQ_le (L' := X'.seg b :: H :: asbk zb zAns :: asbk rb (setAll zAns 0 (Ans.cells { ans0 with n := X.abs.addT o.d o.path, e := X.abs.addE o.d o.path } nilRow)) :: opbk xb o :: R) (Le.refl _) ?_
  rw [cp_ans0]
  exact TQ_retCe (cs := Ans.cells { ans0 with n := X.abs.addT o.d o.path, e := X.abs.addE o.d o.path } nilRow) (C' := [nilRow.C, X'.seg b, H]) rfl rfl rfl 3 rfl rfl ⟨nilRow, X', rfl, rfl, hX', hA', .nil⟩ (fun a => by simp only [les, nilRow]; omega)
theorem meant_again (H : Seg) (b : Nat) (X : QF) (h : QfOk X) (hf : FrOk X.abs) (o : LOp) (hk : o.kind = 1) (cum : Int) :
    Ct Try.prog 28 [ptr b, .agg o.cells.toArray, u32 cum] [X.seg b, H] (MnPost H b (X.abs.again (doTsn o cum) o.path o.now) { ans0 with e := X.abs.againE (doTsn o cum) o.path }) := by
  have hag := qagain_ct b X h hf (doTsn o cum) o.path o.now
  refine Ct_intro Try.func28 rfl (by simp only [Try.ntmps28, List.length_cons, List.length_nil]; omega) ?_
  intro w₀ R
  repeat' first
    | refine TC_seq ?_
    | refine TQ_then ?_
    | (refine TC_plain (id := 0) (by kernel_rfl) ?_; (refine TR_box0 rfl rfl rfl ?_; intro xb); (refine TR_alloc0 rfl ?_; intro rb); refine TR_nil ?_)
    | (refine TC_plain (id := 1) (by kernel_rfl) ?_; (refine TR_alloc0 rfl ?_; intro zb); refine TR_nil ?_)
    | (refine TC_plain (id := 2) (by kernel_rfl) ?_; refine TR_pv0 (PV_fieldAddr rfl) rfl ?_; refine TR_load0 rfl 2 rfl rfl rfl ?_; refine TR_nil ?_)
    | (refine TC_plain (id := 3) (by kernel_rfl) ?_; refine TR_pv0 (PV_eql rfl rfl) rfl ?_; refine TR_pv0 PV_assign rfl ?_; refine TR_nil ?_)
    | (refine TC_plain (id := 6) (by kernel_rfl) ?_; refine TR_pv0 (PV_eql rfl rfl) rfl ?_; refine TR_pv0 PV_assign rfl ?_; refine TR_nil ?_)
    | (refine TC_plain (id := 7) (by kernel_rfl) ?_; refine TR_pv0 PV_move rfl ?_; refine TR_pv0 PV_move rfl ?_; refine TR_pv0 (PV_fieldAddr rfl) rfl ?_; refine TR_load0 rfl 2 rfl rfl rfl ?_; refine TR_pv0 (PV_add32 rfl rfl) rfl ?_; refine TR_pv0 (PV_fieldAddr rfl) rfl ?_; refine TR_load0 rfl 2 rfl rfl rfl ?_; refine TR_pv0 (PV_fieldAddr rfl) rfl ?_; refine TR_load0 rfl 2 rfl rfl rfl ?_; (refine TR_call0 (hag) rfl rfl (.cons (.there (.there (.there .here))) .nil) rfl ?_; rintro _ _ ⟨rfl, X', rfl, hX', hA'⟩); refine TR_pv0 (PV_fieldAddr rfl) rfl ?_; refine TR_store0_1 rfl rfl rfl rfl rfl rfl ?_; refine TR_nil ?_)
    | (refine TC_plain (id := 16) (by kernel_rfl) ?_; refine TR_loadA0 rfl 1 rfl rfl rfl ?_; refine TR_storeA0_2 rfl rfl rfl rfl rfl rfl ?_; refine TR_nil ?_)
    | refine TC_ret ?_
    | refine TC_block ?_
    | refine TQ_blk ?_
    | (refine TC_cond rfl rfl (fun hq => ?_) (fun hq => ?_) <;> (try simp only [qs] at hq) <;> (try simp only [reduceCtorEq] at hq) <;> (try (exfalso; omega)) <;> (try contradiction))
  refine TQ_le (L' := X'.seg b :: asbk zb (Ans.cells { ans0 with e := X.abs.againE (doTsn o cum) o.path } nilRow) :: asbk rb (setAll zAns 0 (((Ans.cells { ans0 with e := X.abs.againE (doTsn o cum) o.path } nilRow).drop 0).take 32)) :: opbk xb o :: H :: R) (Le.refl _) ?_
  rw [cp_ans]
  exact TQ_retCe (cs := Ans.cells { ans0 with e := X.abs.againE (doTsn o cum) o.path } nilRow) (C' := [nilRow.C, X'.seg b, H]) rfl rfl rfl 2 rfl rfl ⟨nilRow, X', rfl, rfl, hX', hA', .nil⟩ (fun a => by simp only [les, nilRow]; omega)
theorem meant_mark (H : Seg) (b : Nat) (X : QF) (h : QfOk X) (hf : FrOk X.abs) (o : LOp) (hk : o.kind = 3) (cum : Int) :
    Ct Try.prog 28 [ptr b, .agg o.cells.toArray, u32 cum] [X.seg b, H] (MnPost H b (X.abs.mark o.path) { ans0 with n := countIf (fun r => decide (r.path = o.path) && r.away) X.abs.l }) := by
  have hag := qmark_ct b X h hf o.path
  refine Ct_intro Try.func28 rfl (by simp only [Try.ntmps28, List.length_cons, List.length_nil]; omega) ?_
  intro w₀ R
  repeat' first
    | refine TC_seq ?_
    | refine TQ_then ?_
    | (refine TC_plain (id := 0) (by kernel_rfl) ?_; (refine TR_box0 rfl rfl rfl ?_; intro xb); (refine TR_alloc0 rfl ?_; intro rb); refine TR_nil ?_)
    | (refine TC_plain (id := 1) (by kernel_rfl) ?_; (refine TR_alloc0 rfl ?_; intro zb); refine TR_nil ?_)
    | (refine TC_plain (id := 2) (by kernel_rfl) ?_; refine TR_pv0 (PV_fieldAddr rfl) rfl ?_; refine TR_load0 rfl 2 rfl rfl rfl ?_; refine TR_nil ?_)
    | (refine TC_plain (id := 3) (by kernel_rfl) ?_; refine TR_pv0 (PV_eql rfl rfl) rfl ?_; refine TR_pv0 PV_assign rfl ?_; refine TR_nil ?_)
    | (refine TC_plain (id := 6) (by kernel_rfl) ?_; refine TR_pv0 (PV_eql rfl rfl) rfl ?_; refine TR_pv0 PV_assign rfl ?_; refine TR_nil ?_)
    | (refine TC_plain (id := 8) (by kernel_rfl) ?_; refine TR_pv0 (PV_eql rfl rfl) rfl ?_; refine TR_pv0 PV_assign rfl ?_; refine TR_nil ?_)
    | (refine TC_plain (id := 10) (by kernel_rfl) ?_; refine TR_pv0 (PV_eql rfl rfl) rfl ?_; refine TR_pv0 PV_assign rfl ?_; refine TR_nil ?_)
    | (refine TC_plain (id := 11) (by kernel_rfl) ?_; refine TR_pv0 PV_move rfl ?_; refine TR_pv0 (PV_fieldAddr rfl) rfl ?_; refine TR_load0 rfl 2 rfl rfl rfl ?_; (refine TR_call0 (hag) rfl rfl (.cons (.there (.there (.there .here))) .nil) rfl ?_; rintro _ _ ⟨rfl, X', rfl, hX', hA'⟩); refine TR_pv0 (PV_fieldAddr rfl) rfl ?_; refine TR_store0_1 rfl rfl rfl rfl rfl rfl ?_; refine TR_nil ?_)
    | (refine TC_plain (id := 16) (by kernel_rfl) ?_; refine TR_loadA0 rfl 1 rfl rfl rfl ?_; refine TR_storeA0_2 rfl rfl rfl rfl rfl rfl ?_; refine TR_nil ?_)
    | refine TC_ret ?_
    | refine TC_block ?_
    | refine TQ_blk ?_
    | (refine TC_cond rfl rfl (fun hq => ?_) (fun hq => ?_) <;> (try simp only [qs] at hq) <;> (try simp only [reduceCtorEq] at hq) <;> (try (exfalso; omega)) <;> (try contradiction))
  refine TQ_le (L' := X'.seg b :: asbk zb (Ans.cells { ans0 with n := countIf (fun r => decide (r.path = o.path) && r.away) X.abs.l } nilRow) :: asbk rb (setAll zAns 0 (((Ans.cells { ans0 with n := countIf (fun r => decide (r.path = o.path) && r.away) X.abs.l } nilRow).drop 0).take 32)) :: opbk xb o :: H :: R) (Le.refl _) ?_
  rw [cp_ans]
  exact TQ_retCe (cs := Ans.cells { ans0 with n := countIf (fun r => decide (r.path = o.path) && r.away) X.abs.l } nilRow) (C' := [nilRow.C, X'.seg b, H]) rfl rfl rfl 2 rfl rfl ⟨nilRow, X', rfl, rfl, hX', hA', .nil⟩ (fun a => by simp only [les, nilRow]; omega)
theorem meant_abandon (H : Seg) (b : Nat) (X : QF) (h : QfOk X) (hf : FrOk X.abs) (o : LOp) (hk : o.kind = 4) (cum : Int) :
    Ct Try.prog 28 [ptr b, .agg o.cells.toArray, u32 cum] [X.seg b, H] (MnPost H b (X.abs.abandon o.id) { ans0 with n := livesOf o.id X.abs.l }) := by
  have hag := qabandon_ct b X h hf o.id
  refine Ct_intro Try.func28 rfl (by simp only [Try.ntmps28, List.length_cons, List.length_nil]; omega) ?_
  intro w₀ R
  repeat' first
    | refine TC_seq ?_
    | refine TQ_then ?_
    | (refine TC_plain (id := 0) (by kernel_rfl) ?_; (refine TR_box0 rfl rfl rfl ?_; intro xb); (refine TR_alloc0 rfl ?_; intro rb); refine TR_nil ?_)
    | (refine TC_plain (id := 1) (by kernel_rfl) ?_; (refine TR_alloc0 rfl ?_; intro zb); refine TR_nil ?_)
    | (refine TC_plain (id := 2) (by kernel_rfl) ?_; refine TR_pv0 (PV_fieldAddr rfl) rfl ?_; refine TR_load0 rfl 2 rfl rfl rfl ?_; refine TR_nil ?_)
    | (refine TC_plain (id := 3) (by kernel_rfl) ?_; refine TR_pv0 (PV_eql rfl rfl) rfl ?_; refine TR_pv0 PV_assign rfl ?_; refine TR_nil ?_)
    | (refine TC_plain (id := 6) (by kernel_rfl) ?_; refine TR_pv0 (PV_eql rfl rfl) rfl ?_; refine TR_pv0 PV_assign rfl ?_; refine TR_nil ?_)
    | (refine TC_plain (id := 8) (by kernel_rfl) ?_; refine TR_pv0 (PV_eql rfl rfl) rfl ?_; refine TR_pv0 PV_assign rfl ?_; refine TR_nil ?_)
    | (refine TC_plain (id := 10) (by kernel_rfl) ?_; refine TR_pv0 (PV_eql rfl rfl) rfl ?_; refine TR_pv0 PV_assign rfl ?_; refine TR_nil ?_)
    | (refine TC_plain (id := 12) (by kernel_rfl) ?_; refine TR_pv0 (PV_eql rfl rfl) rfl ?_; refine TR_pv0 PV_assign rfl ?_; refine TR_nil ?_)
    | (refine TC_plain (id := 13) (by kernel_rfl) ?_; refine TR_pv0 PV_move rfl ?_; refine TR_pv0 (PV_fieldAddr rfl) rfl ?_; refine TR_load0 rfl 2 rfl rfl rfl ?_; (refine TR_call0 (hag) rfl rfl (.cons (.there (.there (.there .here))) .nil) rfl ?_; rintro _ _ ⟨rfl, X', rfl, hX', hA'⟩); refine TR_pv0 (PV_fieldAddr rfl) rfl ?_; refine TR_store0_1 rfl rfl rfl rfl rfl rfl ?_; refine TR_nil ?_)
    | (refine TC_plain (id := 16) (by kernel_rfl) ?_; refine TR_loadA0 rfl 1 rfl rfl rfl ?_; refine TR_storeA0_2 rfl rfl rfl rfl rfl rfl ?_; refine TR_nil ?_)
    | refine TC_ret ?_
    | refine TC_block ?_
    | refine TQ_blk ?_
    | (refine TC_cond rfl rfl (fun hq => ?_) (fun hq => ?_) <;> (try simp only [qs] at hq) <;> (try simp only [reduceCtorEq] at hq) <;> (try (exfalso; omega)) <;> (try contradiction))
  refine TQ_le (L' := X'.seg b :: asbk zb (Ans.cells { ans0 with n := livesOf o.id X.abs.l } nilRow) :: asbk rb (setAll zAns 0 (((Ans.cells { ans0 with n := livesOf o.id X.abs.l } nilRow).drop 0).take 32)) :: opbk xb o :: H :: R) (Le.refl _) ?_
  rw [cp_ans]
  exact TQ_retCe (cs := Ans.cells { ans0 with n := livesOf o.id X.abs.l } nilRow) (C' := [nilRow.C, X'.seg b, H]) rfl rfl rfl 2 rfl rfl ⟨nilRow, X', rfl, rfl, hX', hA', .nil⟩ (fun a => by simp only [les, nilRow]; omega)
theorem meant_none (H : Seg) (b : Nat) (X : QF) (h : QfOk X) (o : LOp) (hk0 : ¬ o.kind = 0) (hk1 : ¬ o.kind = 1) (hk2 : ¬ o.kind = 2) (hk3 : ¬ o.kind = 3) (hk4 : ¬ o.kind = 4) (hk5 : ¬ o.kind = 5) (cum : Int) :
    Ct Try.prog 28 [ptr b, .agg o.cells.toArray, u32 cum] [X.seg b, H] (MnPost H b X.abs ans0) := by
  refine Ct_intro Try.func28 rfl (by simp only [Try.ntmps28, List.length_cons, List.length_nil]; omega) ?_
  intro w₀ R
  repeat' first
    | refine TC_seq ?_
    | refine TQ_then ?_
    | (refine TC_plain (id := 0) (by kernel_rfl) ?_; (refine TR_box0 rfl rfl rfl ?_; intro xb); (refine TR_alloc0 rfl ?_; intro rb); refine TR_nil ?_)
    | (refine TC_plain (id := 1) (by kernel_rfl) ?_; (refine TR_alloc0 rfl ?_; intro zb); refine TR_nil ?_)
    | (refine TC_plain (id := 2) (by kernel_rfl) ?_; refine TR_pv0 (PV_fieldAddr rfl) rfl ?_; refine TR_load0 rfl 2 rfl rfl rfl ?_; refine TR_nil ?_)
    | (refine TC_plain (id := 3) (by kernel_rfl) ?_; refine TR_pv0 (PV_eql rfl rfl) rfl ?_; refine TR_pv0 PV_assign rfl ?_; refine TR_nil ?_)
    | (refine TC_plain (id := 6) (by kernel_rfl) ?_; refine TR_pv0 (PV_eql rfl rfl) rfl ?_; refine TR_pv0 PV_assign rfl ?_; refine TR_nil ?_)
    | (refine TC_plain (id := 8) (by kernel_rfl) ?_; refine TR_pv0 (PV_eql rfl rfl) rfl ?_; refine TR_pv0 PV_assign rfl ?_; refine TR_nil ?_)
    | (refine TC_plain (id := 10) (by kernel_rfl) ?_; refine TR_pv0 (PV_eql rfl rfl) rfl ?_; refine TR_pv0 PV_assign rfl ?_; refine TR_nil ?_)
    | (refine TC_plain (id := 12) (by kernel_rfl) ?_; refine TR_pv0 (PV_eql rfl rfl) rfl ?_; refine TR_pv0 PV_assign rfl ?_; refine TR_nil ?_)
    | (refine TC_plain (id := 14) (by kernel_rfl) ?_; refine TR_pv0 (PV_eql rfl rfl) rfl ?_; refine TR_pv0 PV_assign rfl ?_; refine TR_nil ?_)
    | (refine TC_plain (id := 16) (by kernel_rfl) ?_; refine TR_loadA0 rfl 0 rfl rfl rfl ?_; refine TR_storeA0_1 rfl rfl rfl rfl rfl rfl ?_; refine TR_nil ?_)
    | refine TC_skip ?_
    | refine TC_ret ?_
    | refine TC_block ?_
    | refine TQ_blk ?_
    | (refine TC_cond rfl rfl (fun hq => ?_) (fun hq => ?_) <;> (try simp only [qs] at hq) <;> (try simp only [reduceCtorEq] at hq) <;> (try (exfalso; omega)) <;> (try contradiction))
  refine TQ_le (L' := asbk zb (Ans.cells ans0 nilRow) :: asbk rb (setAll zAns 0 (((Ans.cells ans0 nilRow).drop 0).take 32)) :: opbk xb o :: X.seg b :: H :: R) (Le.refl _) ?_
  rw [cp_ans]
  exact TQ_retCe (cs := Ans.cells ans0 nilRow) (C' := [nilRow.C, X.seg b, H]) rfl rfl rfl 1 rfl rfl ⟨nilRow, X, rfl, rfl, h, rfl, .nil⟩ (fun a => by simp only [les, nilRow]; omega)
theorem meant_get (H : Seg) (b : Nat) (X : QF) (h : QfOk X) (hf : FrOk X.abs) (o : LOp) (hk : o.kind = 2) (cum : Int) :
    Ct Try.prog 28 [ptr b, .agg o.cells.toArray, u32 cum] [X.seg b, H] (MnPost H b X.abs (X.abs.getA (doTsn o cum))) := by
  have hget := qget_ct b X h hf (doTsn o cum)
  obtain ⟨d, n, is, e⟩ := getA_form X.abs (doTsn o cum)
  rw [e] at hget ⊢
  refine Ct_intro Try.func28 rfl (by simp only [Try.ntmps28, List.length_cons, List.length_nil]; omega) ?_
  intro w₀ R
  repeat' first
    | refine TC_seq ?_
    | refine TQ_then ?_
    | (refine TC_plain (id := 0) (by kernel_rfl) ?_; (refine TR_box0 rfl rfl rfl ?_; intro xb); (refine TR_alloc0 rfl ?_; intro rb); refine TR_nil ?_)
    | (refine TC_plain (id := 1) (by kernel_rfl) ?_; (refine TR_alloc0 rfl ?_; intro zb); refine TR_nil ?_)
    | (refine TC_plain (id := 2) (by kernel_rfl) ?_; refine TR_pv0 (PV_fieldAddr rfl) rfl ?_; refine TR_load0 rfl 2 rfl rfl rfl ?_; refine TR_nil ?_)
    | (refine TC_plain (id := 3) (by kernel_rfl) ?_; refine TR_pv0 (PV_eql rfl rfl) rfl ?_; refine TR_pv0 PV_assign rfl ?_; refine TR_nil ?_)
    | (refine TC_plain (id := 6) (by kernel_rfl) ?_; refine TR_pv0 (PV_eql rfl rfl) rfl ?_; refine TR_pv0 PV_assign rfl ?_; refine TR_nil ?_)
    | (refine TC_plain (id := 8) (by kernel_rfl) ?_; refine TR_pv0 (PV_eql rfl rfl) rfl ?_; refine TR_pv0 PV_assign rfl ?_; refine TR_nil ?_)
    | (refine TC_plain (id := 9) (by kernel_rfl) ?_; refine TR_pv0 PV_move rfl ?_; refine TR_pv0 PV_move rfl ?_; refine TR_pv0 (PV_fieldAddr rfl) rfl ?_; refine TR_load0 rfl 2 rfl rfl rfl ?_; refine TR_pv0 (PV_add32 rfl rfl) rfl ?_; (refine TR_call0 (hget) rfl rfl (.cons (.there (.there (.there .here))) .nil) rfl ?_; rintro _ _ ⟨w, rfl, rfl, hw⟩); refine TR_pv0 PV_move rfl ?_; refine TR_pv0 (PV_extract rfl rfl) rfl ?_; refine TR_pv0 (PV_extract rfl rfl) rfl ?_; refine TR_pv0 (PV_extract rfl rfl) rfl ?_; refine TR_pv0 (PV_fieldAddr rfl) rfl ?_; refine TR_storeA0_2 rfl rfl rfl rfl rfl rfl ?_; refine TR_pv0 (PV_fieldAddr rfl) rfl ?_; refine TR_store0_2 rfl rfl rfl rfl rfl rfl ?_; refine TR_pv0 (PV_fieldAddr rfl) rfl ?_; refine TR_store0_2 rfl rfl rfl rfl rfl rfl ?_; refine TR_nil ?_)
    | refine TC_block ?_
    | refine TQ_blk ?_
    | (refine TC_cond rfl rfl (fun hq => ?_) (fun hq => ?_) <;> (try simp only [qs] at hq) <;> (try simp only [reduceCtorEq] at hq) <;> (try (exfalso; omega)) <;> (try contradiction))
  replace hw : w.ok 5 1 d.bytes.length (u8s d.bytes) := hw
  refine TC_slots [(6, ptr rb), (7, ptr zb)] ⟨rfl, rfl, trivial⟩ fun σ' => ?_
  refine TC_le (L' := asbk zb (Ans.cells { ans0 with d := d, n := n, is := is } w) :: asbk rb zAns :: w.C :: X.seg b :: opbk xb o :: H :: R) (Le.trans (M := w.C :: X.seg b :: asbk zb (Ans.cells { ans0 with d := d, n := n, is := is } w) :: asbk rb zAns :: opbk xb o :: H :: R) (Le.refl _) (fun a => by simp only [les]; omega)) ?_
  repeat' first
    | refine TQ_then ?_
    | (refine TC_plain (id := 16) (by kernel_rfl) ?_; refine TR_loadA0 rfl 0 rfl rfl rfl ?_; refine TR_storeA0_1 rfl rfl rfl rfl rfl rfl ?_; refine TR_nil ?_)
    | refine TC_ret ?_
  refine TQ_le (L' := asbk zb (Ans.cells { ans0 with d := d, n := n, is := is } w) :: asbk rb (setAll zAns 0 (((Ans.cells { ans0 with d := d, n := n, is := is } w).drop 0).take 32)) :: w.C :: X.seg b :: opbk xb o :: H :: R) (Le.refl _) ?_
  rw [cp_ans]
  exact TQ_retCe (cs := Ans.cells { ans0 with d := d, n := n, is := is } w) (C' := [w.C, X.seg b, H]) rfl rfl rfl 1 rfl rfl ⟨w, X, rfl, rfl, h, rfl, hw⟩ (fun a => by simp only [les]; omega)
theorem ans_set (T : Told) (e : Int) : (setAll zAns (0 + 10) T.cells).set (0 + 9) (i64 e) = Ans.cells { ans0 with e := e, t := T } nilRow := by
  rw [show setAll zAns (0 + 10) T.cells = zAns.take 10 ++ T.cells from setAll_row T.cells (zAns.take 10) (toldCells 0 false (fun _ => tp0)) rfl]; rfl
theorem meant_sackG (H : Seg) (b : Nat) (X : QF) (o : LOp) (hk : o.kind = 5) (cum : Int) (T : Told) (e : Int) (F : Flt)
    (hsk : Ct Try.prog 56 [ptr b, .agg (scells (doTsn o cum) 0 (.slice o.ga o.gaps.length o.gcap) (.slice none 0 0)).toArray] [X.seg b, H]
        (fun v D => v = .tuple #[.agg T.cells.toArray, i64 e] ∧ ∃ X', D = [X'.seg b, H] ∧ QfOk X' ∧ X'.abs = F)) :
    Ct Try.prog 28 [ptr b, .agg o.cells.toArray, u32 cum] [X.seg b, H] (MnPost H b F { ans0 with e := e, t := T }) := by
  have htk : ((Ans.cells { ans0 with e := e, t := T } nilRow).drop 0).take 32 = Ans.cells { ans0 with e := e, t := T } nilRow := by
    have hl : (Ans.cells { ans0 with e := e, t := T } nilRow).length = 32 := rfl
    rw [List.drop_zero, List.take_of_length_le (by rw [hl]; omega)]
  refine Ct_intro Try.func28 rfl (by simp only [Try.ntmps28, List.length_cons, List.length_nil]; omega) ?_
  intro w₀ R
  repeat' first
    | refine TC_seq ?_
    | refine TQ_then ?_
    | (refine TC_plain (id := 0) (by kernel_rfl) ?_; (refine TR_box0 rfl rfl rfl ?_; intro xb); (refine TR_alloc0 rfl ?_; intro rb); refine TR_nil ?_)
    | (refine TC_plain (id := 1) (by kernel_rfl) ?_; (refine TR_alloc0 rfl ?_; intro zb); refine TR_nil ?_)
    | (refine TC_plain (id := 2) (by kernel_rfl) ?_; refine TR_pv0 (PV_fieldAddr rfl) rfl ?_; refine TR_load0 rfl 2 rfl rfl rfl ?_; refine TR_nil ?_)
    | (refine TC_plain (id := 3) (by kernel_rfl) ?_; refine TR_pv0 (PV_eql rfl rfl) rfl ?_; refine TR_pv0 PV_assign rfl ?_; refine TR_nil ?_)
    | (refine TC_plain (id := 6) (by kernel_rfl) ?_; refine TR_pv0 (PV_eql rfl rfl) rfl ?_; refine TR_pv0 PV_assign rfl ?_; refine TR_nil ?_)
    | (refine TC_plain (id := 8) (by kernel_rfl) ?_; refine TR_pv0 (PV_eql rfl rfl) rfl ?_; refine TR_pv0 PV_assign rfl ?_; refine TR_nil ?_)
    | (refine TC_plain (id := 10) (by kernel_rfl) ?_; refine TR_pv0 (PV_eql rfl rfl) rfl ?_; refine TR_pv0 PV_assign rfl ?_; refine TR_nil ?_)
    | (refine TC_plain (id := 12) (by kernel_rfl) ?_; refine TR_pv0 (PV_eql rfl rfl) rfl ?_; refine TR_pv0 PV_assign rfl ?_; refine TR_nil ?_)
    | (refine TC_plain (id := 14) (by kernel_rfl) ?_; refine TR_pv0 (PV_eql rfl rfl) rfl ?_; refine TR_pv0 PV_assign rfl ?_; refine TR_nil ?_)
    | refine TC_block ?_
    | (refine TC_cond rfl rfl (fun hq => ?_) (fun hq => ?_) <;> (try simp only [qs] at hq) <;> (try simp only [reduceCtorEq] at hq) <;> (try (exfalso; omega)) <;> (try contradiction))
  have hbl1 : Nat.ble (0 + 10 + T.cells.length) zAns.length = true := by rw [show T.cells.length = 22 from rfl]; rfl
  have hbl2 : Nat.blt (0 + 9) (setAll zAns (0 + 10) T.cells).length = true := by
    rw [show setAll zAns (0 + 10) T.cells = zAns.take 10 ++ T.cells from setAll_row T.cells (zAns.take 10) (toldCells 0 false (fun _ => tp0)) rfl, List.length_append]
    exact Nat.ble_eq_true_of_le (by have : (zAns.take 10).length = 10 := rfl; omega)
  repeat' first
    | refine TC_seq ?_
    | refine TQ_then ?_
    | (refine TC_plain (id := 15) (by kernel_rfl) ?_; refine TR_pv0 PV_move rfl ?_; refine TR_pv0 PV_move rfl ?_; refine TR_pv0 (PV_fieldAddr rfl) rfl ?_; refine TR_load0 rfl 2 rfl rfl rfl ?_; refine TR_pv0 (PV_add32 rfl rfl) rfl ?_; refine TR_pv0 (PV_fieldAddr rfl) rfl ?_; refine TR_load0 rfl 2 rfl rfl rfl ?_; refine TR_pv0 (PV_build rfl rfl) rfl ?_; (refine TR_call0 (hsk) rfl rfl (.cons (.there (.there (.there .here))) (.cons (.there (.there (.there .here))) .nil)) rfl ?_; rintro _ _ ⟨rfl, X', rfl, hX', hA'⟩); refine TR_pv0 PV_move rfl ?_; refine TR_pv0 (PV_extract rfl rfl) rfl ?_; refine TR_pv0 (PV_extract rfl rfl) rfl ?_; refine TR_pv0 (PV_fieldAddr rfl) rfl ?_; refine TR_storeA0_2 rfl rfl rfl rfl hbl1 rfl ?_; refine TR_pv0 (PV_fieldAddr rfl) rfl ?_; refine TR_store0_2 rfl rfl rfl rfl hbl2 rfl ?_; refine TR_nil ?_)
    | refine TQ_blk ?_
  clear hbl1 hbl2
  refine TC_slots [(6, ptr rb), (7, ptr zb)] ⟨rfl, rfl, trivial⟩ fun σ' => ?_
  refine TC_le (L' := asbk zb (Ans.cells { ans0 with e := e, t := T } nilRow) :: asbk rb zAns :: X'.seg b :: H :: opbk xb o :: R) (Le.trans (M := X'.seg b :: H :: asbk zb ((setAll zAns (0 + 10) T.cells).set (0 + 9) (i64 e)) :: asbk rb zAns :: opbk xb o :: R) (Le.refl _) (fun a => by simp only [les, ans_set]; omega)) ?_
  repeat' first
    | refine TQ_then ?_
    | (refine TC_plain (id := 16) (by kernel_rfl) ?_; refine TR_loadAM0 rfl (.head _) 0 rfl htk rfl rfl ?_; refine TR_storeA0_1 rfl rfl rfl rfl rfl rfl ?_; refine TR_nil ?_)
    | refine TC_ret ?_
  refine TQ_le (L' := asbk zb (Ans.cells { ans0 with e := e, t := T } nilRow) :: asbk rb (setAll zAns 0 (Ans.cells { ans0 with e := e, t := T } nilRow)) :: X'.seg b :: H :: opbk xb o :: R) (Le.refl _) ?_
  rw [cp_ans0]
  exact TQ_retCe (cs := Ans.cells { ans0 with e := e, t := T } nilRow) (C' := [nilRow.C, X'.seg b, H]) rfl rfl rfl 1 rfl rfl ⟨nilRow, X', rfl, rfl, hX', hA', .nil⟩ (fun a => by simp only [les, nilRow]; omega)
theorem meant_sack (H : Seg) (b : Nat) (X : QF) (h : QfOk X) (hf : FrOk X.abs) (o : LOp) (ho : o.ok H) (hb : o.gaps.length ≤ 50) (hk : o.kind = 5) (cum : Int) :
    Ct Try.prog 28 [ptr b, .agg o.cells.toArray, u32 cum] [X.seg b, H] (MnPost H b (if X.abs.may (doTsn o cum) o.gaps then X.abs.sack (doTsn o cum) o.gaps else X.abs)
      (if X.abs.may (doTsn o cum) o.gaps then { ans0 with t := X.abs.sackT (doTsn o cum) o.gaps } else { ans0 with e := 1 })) := by
  have hts : 0 ≤ doTsn o cum ∧ doTsn o cum ≤ 4294967295 := by unfold doTsn; omega
  by_cases hm : X.abs.may (doTsn o cum) o.gaps = true
  · rw [if_pos hm, if_pos hm]
    exact meant_sackG H b X o hk cum (X.abs.sackT (doTsn o cum) o.gaps) 0 _ (qsack_ct b X h hf (doTsn o cum) 0 o.gaps o.ga o.gcap (.slice none 0 0) H hts ho.gr ho.g (by omega) hm)
  · rw [if_neg hm, if_neg hm]
    exact meant_sackG H b X o hk cum told0 1 X.abs (Ct.post (qsack_no b X hf (doTsn o cum) 0 o.gaps o.ga o.gcap (.slice none 0 0) H hts ho.gr ho.g (by omega) (by simpa using hm)) fun v D ⟨h1, h2⟩ => ⟨D, ⟨h1, X, h2, h, rfl⟩, fun _ _ hs => hs⟩)
theorem meant_ct (H : Seg) (b : Nat) (X : QF) (h : QfOk X) (hf : FrOk X.abs) (o : LOp) (ho : o.ok H) (hs : o.small) (cum : Int) :
    Ct Try.prog 28 [ptr b, .agg o.cells.toArray, u32 cum] [X.seg b, H] (MnPost H b (X.abs.doF o cum) (X.abs.doA o cum)) := by
  rw [Flt.doF, Flt.doA]
  by_cases h0 : o.kind = 0
  · rw [if_pos h0, if_pos h0]; exact meant_add H b X h hf o ho hs.b h0 cum
  rw [if_neg h0, if_neg h0]
  by_cases h1 : o.kind = 1
  · rw [if_pos h1, if_pos h1]; exact meant_again H b X h hf o h1 cum
  rw [if_neg h1, if_neg h1]
  by_cases h2 : o.kind = 2
  · rw [if_pos h2, if_pos h2]; exact meant_get H b X h hf o h2 cum
  rw [if_neg h2, if_neg h2]
  by_cases h3 : o.kind = 3
  · rw [if_pos h3, if_pos h3]; exact meant_mark H b X h hf o h3 cum
  rw [if_neg h3, if_neg h3]
  by_cases h4 : o.kind = 4
  · rw [if_pos h4, if_pos h4]; exact meant_abandon H b X h hf o h4 cum
  rw [if_neg h4, if_neg h4]
  by_cases h5 : o.kind = 5
  · rw [if_pos h5, if_pos h5]; exact meant_sack H b X h hf o ho hs.g h5 cum
  rw [if_neg h5, if_neg h5]
  exact meant_none H b X h o h0 h1 h2 h3 h4 h5 cum
end Go.Proofs.Ytonfkkdahlboiaa
