/- A flight works at all: the law's own helper works. -/
import Derived.Test.YtonfkkdahlboiaaFltG
namespace Go.Proofs.Ytonfkkdahlboiaa
open Go.RowKit
set_option maxHeartbeats 4000000
set_option maxRecDepth 10000

theorem zrow_u8 (n : Nat) : zrow [Value.int .u8 0] (n * 1) = u8s (List.replicate n 0) := by
  rw [Nat.mul_one, zrow, u8s, List.map_replicate]
  apply List.ext_getElem?
  intro i
  rw [List.getElem?_map, List.getElem?_replicate]
  by_cases h : i < n
  · rw [List.getElem?_range h, if_pos h]
    simp [Nat.mod_one]
  · rw [if_neg h, List.getElem?_eq_none (by simpa using h)]; rfl

theorem newX_ok {c p : Int} (hc : 0 ≤ c ∧ c ≤ 4294967295) (hp : 1 ≤ p ∧ p ≤ 4) : FlOk ⟨[], ⟨none, 0, []⟩, c, p⟩ :=
  ⟨.nil, (fun x hx => by cases hx), Nat.zero_le _, hc.1, hc.2, hp.1, hp.2, (fun k x hx => by simp at hx)⟩

def lw (k : Nat) : Nat := [100, 50, 30, 20, 20].getD k 0
def zPc (n : Nat) : Pc := ⟨0, 0, 0, false, false, false, List.replicate n 0⟩
def wF : Nat → Flt
  | 0 => ⟨[], 9, 2⟩
  | k + 1 => (wF k).add (zPc (lw k)) (if k = 1 then 1 else 0) k k
def wS : Nat → Flt
  | 0 => wF 5
  | k + 1 => (wS k).sack 9 [(3, k + 3)]
def wA : Flt := (wS 3).again 10 0 9
def wT (a f at_ : Int) (b : Bool) : List Value := [i64 f, .bool true, i64 a, .bool false, .bool b, i64 at_, .bool true, i64 0, .bool false, .bool false, i64 0, .bool false, i64 0, .bool false, .bool false, i64 0, .bool false,
  i64 0, .bool false, .bool false, i64 0, .bool false]
theorem wS0_t : ((wS 0).sackT 9 [(3, 3)]).cells = wT 30 0 2 false := by kernel_rfl
theorem wS1_t : ((wS 1).sackT 9 [(3, 4)]).cells = wT 20 0 3 false := by kernel_rfl
theorem wS2_t : ((wS 2).sackT 9 [(3, 5)]).cells = wT 20 0 4 true := by kernel_rfl
theorem wA_t : (wA.sackT 14 []).cells = [i64 220, .bool true, i64 100, .bool true, .bool false, i64 0, .bool false, i64 50, .bool true, .bool false, i64 1, .bool true, i64 0, .bool false, .bool false, i64 0, .bool false,
  i64 0, .bool false, .bool false, i64 0, .bool false] := by kernel_rfl
theorem wS_may0 : (wS 0).may 9 [(3, 3)] = true := by kernel_rfl
theorem wS_may1 : (wS 1).may 9 [(3, 4)] = true := by kernel_rfl
theorem wS_may2 : (wS 2).may 9 [(3, 5)] = true := by kernel_rfl
theorem wA_may : wA.may 14 [] = true := by kernel_rfl
theorem wS_lost : lostOf (wS 3).l = [10] := by kernel_rfl
theorem wS_again : (wS 3).againE 10 0 = 0 := by kernel_rfl
theorem wA_out : sumIf (fun r => decide (r.path = 0) && r.away) wA.l = 100 := by kernel_rfl
theorem wA_len : (wA.sack 14 []).l.length = 0 := by kernel_rfl
theorem wF_add : ∀ k, k < 5 → (wF k).addE (zPc (lw k)) (if k = 1 then 1 else 0) = 0 ∧ (wF k).next = 10 + k := by
  intro k hk
  match k, hk with
  | 0, _ => exact ⟨by kernel_rfl, by kernel_rfl⟩
  | 1, _ => exact ⟨by kernel_rfl, by kernel_rfl⟩
  | 2, _ => exact ⟨by kernel_rfl, by kernel_rfl⟩
  | 3, _ => exact ⟨by kernel_rfl, by kernel_rfl⟩
  | 4, _ => exact ⟨by kernel_rfl, by kernel_rfl⟩

/-- An add of noughts that were just made. -/
theorem addZ_ct (b mb : Nat) (X : FL) (h : FlOk X) (n : Nat) (path now id : Int) (hn : n ≤ 1048576) (he : X.abs.addE (zPc n) path = 0) :
    Ct Try.prog 11 [ptr b, .agg ((zPc n).cells (.slice (some ⟨mb, 0, none⟩) n n)).toArray, i64 path, i64 now, i64 id] [X.seg b, blk mb 5 (zrow [Value.int .u8 0] (n * 1))]
      (fun v D => v = .tuple #[u32 X.abs.next, i64 0] ∧ ∃ X', D = [X'.seg b, blk mb 5 (zrow [Value.int .u8 0] (n * 1))] ∧ FlOk X' ∧ X'.abs = X.abs.add (zPc n) path now id) := by
  have hl : (zPc n).bytes.length = n := List.length_replicate
  have := addF_yes b X h (zPc n) (some ⟨mb, 0, none⟩) n path now id (blk mb 5 (zrow [Value.int .u8 0] (n * 1)))
    (fun w hw => .of (sat_one hw (.head _)) (m := n) (by rw [zrow_u8, List.drop_zero, List.take_of_length_le (by rw [u8s_length, List.length_replicate]; omega)]; rfl)) (by rw [hl]; exact hn) he
  rw [hl] at this
  exact this

abbrev gblk (gb : Nat) (f t : Int) : Seg := blk gb 44 [u16 f, u16 t]
/-- An acknowledgement with one gap. -/
theorem sack1_ct (b : Nat) (X : FL) (h : FlOk X) {F : Flt} (hF : X.abs = F) (c f t : Int) (cells : List Value) (hc : 0 ≤ c ∧ c ≤ 4294967295) (hf : 0 ≤ f ∧ f ≤ 65535) (ht : 0 ≤ t ∧ t ≤ 65535) (hm : F.may c [(f, t)] = true) (hT : (F.sackT c [(f, t)]).cells = cells)
    (gb : Nat) : Ct Try.prog 14 [ptr b, .agg [u32 c, u32 0, .slice (some ⟨gb, 0, none⟩) 1 1, .slice none 0 0].toArray] [X.seg b, gblk gb f t]
      (fun v D => v = .tuple #[.agg cells.toArray, i64 0] ∧ ∃ X', D = [X'.seg b, gblk gb f t] ∧ FlOk X' ∧ X'.abs = F.sack c [(f, t)]) := by
  subst hF
  rw [← hT]
  exact sackF_ct b X h c 0 [(f, t)] ⟨some ⟨gb, 0, none⟩, 1, gblk gb f t⟩ (.slice none 0 0) hc (fun g hg => by obtain rfl := List.mem_singleton.1 hg; exact ⟨hf.1, hf.2, ht.1, ht.2⟩)
    (show Sl 44 2 (some ⟨gb, 0, none⟩) 1 1 (gblk gb f t) [u16 f, u16 t] from .row rfl (Nat.le_refl _) (by unfold maxLen; omega) (by simp) rfl) (by simp) hm
/-- An acknowledgement without gaps. -/
theorem sack0_ct (b : Nat) (X : FL) (h : FlOk X) {F : Flt} (hF : X.abs = F) (c : Int) (cells : List Value) (hc : 0 ≤ c ∧ c ≤ 4294967295) (hm : F.may c [] = true) (hT : (F.sackT c []).cells = cells) :
    Ct Try.prog 14 [ptr b, .agg [u32 c, u32 0, .slice none 0 0, .slice none 0 0].toArray] [X.seg b]
      (fun v D => v = .tuple #[.agg cells.toArray, i64 0] ∧ ∃ X', D = [X'.seg b] ∧ FlOk X' ∧ X'.abs = F.sack c []) := by
  subst hF
  rw [← hT]
  have h1 := sackF_ct b X h c 0 [] ⟨none, 0, []⟩ (.slice none 0 0) hc (fun g hg => by cases hg) .nil (by simp) hm
  refine Ct.pre (Ct.post h1 fun v D hv => ?_) fun w R hs => sat_le hs (fun a => by simp only [les]; omega)
  obtain ⟨hv, X', rfl, hX', hA'⟩ := hv
  exact ⟨[X'.seg b], ⟨hv, X', rfl, hX', hA'⟩, fun w R hs => sat_le hs (fun a => by simp only [les]; omega)⟩

theorem flWorks : Cd Try.prog 16 [] [] (.bool true) [] := by
  refine Ct_intro Try.func16 rfl (by simp only [Try.ntmps16, List.length_cons, List.length_nil]; omega) ?_
  intro w₀ R
  repeat' first
    | refine TC_seq ?_
    | refine TQ_then ?_
    | (refine TC_plain (id := 0) (by kernel_rfl) ?_; refine TR_pv0 PV_assign rfl ?_; refine TR_nil ?_)
    | (refine TC_plain (id := 1) (by kernel_rfl) ?_; (refine TR_call0 (newF_ct 2 10 ⟨by omega, by omega⟩) rfl rfl .nil rfl ?_; rintro _ _ ⟨b, rfl, rfl⟩); refine TR_pv0 PV_move rfl ?_; refine TR_pv0 (PV_extract rfl rfl) rfl ?_; refine TR_pv0 (PV_extract rfl rfl) rfl ?_; refine TR_pv0 PV_assign rfl ?_; refine TR_pv0 PV_assign rfl ?_; refine TR_nil ?_)
    | (refine TC_plain (id := 2) (by kernel_rfl) ?_; all_goals refine TR_pv0 PV_move rfl ?_; all_goals refine TR_pv0 (PV_neq rfl rfl) rfl ?_; all_goals refine TR_pv0 PV_move rfl ?_; all_goals refine TR_pv0 PV_move rfl ?_; all_goals refine TR_pv0 (PV_peq_nil rfl rfl) rfl ?_; all_goals refine TR_pv0 (PV_pick_f rfl) rfl ?_; all_goals refine TR_nil ?_)
    | (refine TC_plain (id := 4) (by kernel_rfl) ?_; (refine TR_buildSlice (.inl rfl) rfl rfl rfl rfl ?_; intro lb); refine TR_pv0 PV_assign rfl ?_; refine TR_nil ?_)
    | (refine TC_plain (id := 5) (by kernel_rfl) ?_; refine TR_pv0 PV_assign rfl ?_; refine TR_nil ?_)
    | refine TC_cond_f rfl rfl ?_
    | refine TC_skip ?_
    | refine TC_block ?_
  refine TC_loopP (X := Nat × FL) (fun s => s.2.seg b :: blk lb 3 [i64 100, i64 50, i64 30, i64 20, i64 20] :: R) (fun s => [(1, ptr b), (3, .slice (some ⟨lb, 0, none⟩) 5 5), (4, i64 s.1)])
    (fun s => s.1 ≤ 5 ∧ FlOk s.2 ∧ s.2.abs = wF s.1) (fun s => 5 - s.1) (0, ⟨[], ⟨none, 0, []⟩, (10 - 1) % 4294967296, 2⟩) ⟨by omega, newX_ok ⟨by omega, by omega⟩ ⟨by omega, by omega⟩, rfl⟩ ⟨rfl, rfl, rfl, trivial⟩
    (fun w hs => St.le (L := blk lb 3 [i64 100, i64 50, i64 30, i64 20, i64 20] :: FL.seg b ⟨[], ⟨none, 0, []⟩, (10 - 1) % 4294967296, 2⟩ :: R) hs (fun a => by simp only [les]; omega)) ?_
  rintro ⟨k, X⟩ σg mm hmm ⟨hk, hX, hA⟩
  dsimp only at hmm hk hX hA ⊢
  rcases (show k = 0 ∨ k = 1 ∨ k = 2 ∨ k = 3 ∨ k = 4 ∨ k = 5 by omega) with rfl | rfl | rfl | rfl | rfl | rfl
  · obtain ⟨a1, a2⟩ := wF_add 0 (by omega)
    rw [← hA] at a1 a2
    repeat' first
      | refine TC_seq ?_
      | refine TQ_then ?_
      | (refine TC_plain (id := 6) (by kernel_rfl) ?_; refine TR_pv0 PV_move rfl ?_; refine TR_pv0 PV_move rfl ?_; refine TR_pv0 (PV_len rfl) rfl ?_; refine TR_pv0 (PV_lss rfl rfl) rfl ?_; refine TR_nil ?_)
      | (refine TC_plain (id := 8) (by kernel_rfl) ?_; refine TR_pv0 PV_assign rfl ?_; refine TR_nil ?_)
      | (refine TC_plain (id := 9) (by kernel_rfl) ?_; refine TR_pv0 PV_move rfl ?_; refine TR_pv0 (PV_eql rfl rfl) rfl ?_; refine TR_nil ?_)
      | (refine TC_plain (id := 11) (by kernel_rfl) ?_; refine TR_pv0 PV_move rfl ?_; refine TR_pv0 PV_move rfl ?_; refine TR_pv0 PV_move rfl ?_; refine TR_pv0 (PV_indexAddr rfl rfl (by omega)) rfl ?_; refine TR_load0 rfl 1 rfl rfl rfl ?_; (refine TR_makeSlice (.inl rfl) rfl rfl (by omega) (by omega) rfl ?_; intro mb); refine TR_pv0 (PV_build rfl rfl) rfl ?_; refine TR_pv0 PV_move rfl ?_; refine TR_pv0 PV_move rfl ?_; refine TR_pv0 PV_move rfl ?_; (refine TR_call0 (addZ_ct b mb X hX 100 0 0 0 (by omega) a1) rfl rfl (.cons (.there .here) (.cons .here .nil)) rfl ?_; rintro _ _ ⟨rfl, X', rfl, hX', hA'⟩); refine TR_pv0 PV_move rfl ?_; refine TR_pv0 (PV_extract rfl rfl) rfl ?_; refine TR_pv0 (PV_extract rfl rfl) rfl ?_; refine TR_pv0 PV_assign rfl ?_; refine TR_pv0 PV_assign rfl ?_; refine TR_nil ?_)
      | (refine TC_plain (id := 12) (by kernel_rfl) ?_; all_goals refine TR_pv0 PV_move rfl ?_; all_goals refine TR_pv0 (PV_neq rfl rfl) rfl ?_; all_goals refine TR_pv0 PV_move rfl ?_; all_goals refine TR_pv0 PV_move rfl ?_; all_goals refine TR_pv0 PV_move rfl ?_; all_goals refine TR_pv0 (PV_conv32 rfl) rfl ?_; all_goals refine TR_pv0 (PV_add32 rfl rfl) rfl ?_; all_goals refine TR_pv0 (PV_neq rfl rfl) rfl ?_; all_goals refine TR_pv0 (PV_pick_f rfl) rfl ?_; all_goals refine TR_nil ?_)
      | (refine TC_plain (id := 7) (by kernel_rfl) ?_; refine TR_pv0 PV_move rfl ?_; refine TR_pv0 (PV_add64 rfl rfl (by omega)) rfl ?_; refine TR_pv0 PV_assign rfl ?_; refine TR_nil ?_)
      | refine TC_cond_t rfl rfl ?_
      | refine TC_cond_f rfl rfl ?_
      | refine TC_skip ?_
      | refine TC_block ?_
      | refine TQ_blk ?_
      | (refine TC_cond rfl rfl (fun hq => ?_) (fun hq => ?_) <;> (try simp only [qs] at hq) <;> (try simp only [reduceCtorEq] at hq) <;> (try (exfalso; omega)) <;> (try contradiction))
    exact TQ_roundP (1, X') ⟨by omega, hX', by rw [hA', hA]; rfl⟩ (by show 5 - 1 < mm; omega) ⟨rfl, rfl, rfl, trivial⟩
      (fun w hs => St.le (L := X'.seg b :: blk mb 5 (zrow [Value.int .u8 0] (100 * 1)) :: blk lb 3 [i64 100, i64 50, i64 30, i64 20, i64 20] :: R) hs (fun a => by simp only [les]; omega))
  · obtain ⟨a1, a2⟩ := wF_add 1 (by omega)
    rw [← hA] at a1 a2
    repeat' first
      | refine TC_seq ?_
      | refine TQ_then ?_
      | (refine TC_plain (id := 6) (by kernel_rfl) ?_; refine TR_pv0 PV_move rfl ?_; refine TR_pv0 PV_move rfl ?_; refine TR_pv0 (PV_len rfl) rfl ?_; refine TR_pv0 (PV_lss rfl rfl) rfl ?_; refine TR_nil ?_)
      | (refine TC_plain (id := 8) (by kernel_rfl) ?_; refine TR_pv0 PV_assign rfl ?_; refine TR_nil ?_)
      | (refine TC_plain (id := 9) (by kernel_rfl) ?_; refine TR_pv0 PV_move rfl ?_; refine TR_pv0 (PV_eql rfl rfl) rfl ?_; refine TR_nil ?_)
      | (refine TC_plain (id := 10) (by kernel_rfl) ?_; refine TR_pv0 PV_assign rfl ?_; refine TR_nil ?_)
      | (refine TC_plain (id := 11) (by kernel_rfl) ?_; refine TR_pv0 PV_move rfl ?_; refine TR_pv0 PV_move rfl ?_; refine TR_pv0 PV_move rfl ?_; refine TR_pv0 (PV_indexAddr rfl rfl (by omega)) rfl ?_; refine TR_load0 rfl 1 rfl rfl rfl ?_; (refine TR_makeSlice (.inl rfl) rfl rfl (by omega) (by omega) rfl ?_; intro mb); refine TR_pv0 (PV_build rfl rfl) rfl ?_; refine TR_pv0 PV_move rfl ?_; refine TR_pv0 PV_move rfl ?_; refine TR_pv0 PV_move rfl ?_; (refine TR_call0 (addZ_ct b mb X hX 50 1 1 1 (by omega) a1) rfl rfl (.cons (.there .here) (.cons .here .nil)) rfl ?_; rintro _ _ ⟨rfl, X', rfl, hX', hA'⟩); refine TR_pv0 PV_move rfl ?_; refine TR_pv0 (PV_extract rfl rfl) rfl ?_; refine TR_pv0 (PV_extract rfl rfl) rfl ?_; refine TR_pv0 PV_assign rfl ?_; refine TR_pv0 PV_assign rfl ?_; refine TR_nil ?_)
      | (refine TC_plain (id := 12) (by kernel_rfl) ?_; all_goals refine TR_pv0 PV_move rfl ?_; all_goals refine TR_pv0 (PV_neq rfl rfl) rfl ?_; all_goals refine TR_pv0 PV_move rfl ?_; all_goals refine TR_pv0 PV_move rfl ?_; all_goals refine TR_pv0 PV_move rfl ?_; all_goals refine TR_pv0 (PV_conv32 rfl) rfl ?_; all_goals refine TR_pv0 (PV_add32 rfl rfl) rfl ?_; all_goals refine TR_pv0 (PV_neq rfl rfl) rfl ?_; all_goals refine TR_pv0 (PV_pick_f rfl) rfl ?_; all_goals refine TR_nil ?_)
      | (refine TC_plain (id := 7) (by kernel_rfl) ?_; refine TR_pv0 PV_move rfl ?_; refine TR_pv0 (PV_add64 rfl rfl (by omega)) rfl ?_; refine TR_pv0 PV_assign rfl ?_; refine TR_nil ?_)
      | refine TC_cond_t rfl rfl ?_
      | refine TC_skip ?_
      | refine TC_block ?_
      | refine TQ_blk ?_
      | (refine TC_cond rfl rfl (fun hq => ?_) (fun hq => ?_) <;> (try simp only [qs] at hq) <;> (try simp only [reduceCtorEq] at hq) <;> (try (exfalso; omega)) <;> (try contradiction))
    exact TQ_roundP (2, X') ⟨by omega, hX', by rw [hA', hA]; rfl⟩ (by show 5 - 2 < mm; omega) ⟨rfl, rfl, rfl, trivial⟩
      (fun w hs => St.le (L := X'.seg b :: blk mb 5 (zrow [Value.int .u8 0] (50 * 1)) :: blk lb 3 [i64 100, i64 50, i64 30, i64 20, i64 20] :: R) hs (fun a => by simp only [les]; omega))
  · obtain ⟨a1, a2⟩ := wF_add 2 (by omega)
    rw [← hA] at a1 a2
    repeat' first
      | refine TC_seq ?_
      | refine TQ_then ?_
      | (refine TC_plain (id := 6) (by kernel_rfl) ?_; refine TR_pv0 PV_move rfl ?_; refine TR_pv0 PV_move rfl ?_; refine TR_pv0 (PV_len rfl) rfl ?_; refine TR_pv0 (PV_lss rfl rfl) rfl ?_; refine TR_nil ?_)
      | (refine TC_plain (id := 8) (by kernel_rfl) ?_; refine TR_pv0 PV_assign rfl ?_; refine TR_nil ?_)
      | (refine TC_plain (id := 9) (by kernel_rfl) ?_; refine TR_pv0 PV_move rfl ?_; refine TR_pv0 (PV_eql rfl rfl) rfl ?_; refine TR_nil ?_)
      | (refine TC_plain (id := 11) (by kernel_rfl) ?_; refine TR_pv0 PV_move rfl ?_; refine TR_pv0 PV_move rfl ?_; refine TR_pv0 PV_move rfl ?_; refine TR_pv0 (PV_indexAddr rfl rfl (by omega)) rfl ?_; refine TR_load0 rfl 1 rfl rfl rfl ?_; (refine TR_makeSlice (.inl rfl) rfl rfl (by omega) (by omega) rfl ?_; intro mb); refine TR_pv0 (PV_build rfl rfl) rfl ?_; refine TR_pv0 PV_move rfl ?_; refine TR_pv0 PV_move rfl ?_; refine TR_pv0 PV_move rfl ?_; (refine TR_call0 (addZ_ct b mb X hX 30 0 2 2 (by omega) a1) rfl rfl (.cons (.there .here) (.cons .here .nil)) rfl ?_; rintro _ _ ⟨rfl, X', rfl, hX', hA'⟩); refine TR_pv0 PV_move rfl ?_; refine TR_pv0 (PV_extract rfl rfl) rfl ?_; refine TR_pv0 (PV_extract rfl rfl) rfl ?_; refine TR_pv0 PV_assign rfl ?_; refine TR_pv0 PV_assign rfl ?_; refine TR_nil ?_)
      | (refine TC_plain (id := 12) (by kernel_rfl) ?_; all_goals refine TR_pv0 PV_move rfl ?_; all_goals refine TR_pv0 (PV_neq rfl rfl) rfl ?_; all_goals refine TR_pv0 PV_move rfl ?_; all_goals refine TR_pv0 PV_move rfl ?_; all_goals refine TR_pv0 PV_move rfl ?_; all_goals refine TR_pv0 (PV_conv32 rfl) rfl ?_; all_goals refine TR_pv0 (PV_add32 rfl rfl) rfl ?_; all_goals refine TR_pv0 (PV_neq rfl rfl) rfl ?_; all_goals refine TR_pv0 (PV_pick_f rfl) rfl ?_; all_goals refine TR_nil ?_)
      | (refine TC_plain (id := 7) (by kernel_rfl) ?_; refine TR_pv0 PV_move rfl ?_; refine TR_pv0 (PV_add64 rfl rfl (by omega)) rfl ?_; refine TR_pv0 PV_assign rfl ?_; refine TR_nil ?_)
      | refine TC_cond_t rfl rfl ?_
      | refine TC_cond_f rfl rfl ?_
      | refine TC_skip ?_
      | refine TC_block ?_
      | refine TQ_blk ?_
      | (refine TC_cond rfl rfl (fun hq => ?_) (fun hq => ?_) <;> (try simp only [qs] at hq) <;> (try simp only [reduceCtorEq] at hq) <;> (try (exfalso; omega)) <;> (try contradiction))
    exact TQ_roundP (3, X') ⟨by omega, hX', by rw [hA', hA]; rfl⟩ (by show 5 - 3 < mm; omega) ⟨rfl, rfl, rfl, trivial⟩
      (fun w hs => St.le (L := X'.seg b :: blk mb 5 (zrow [Value.int .u8 0] (30 * 1)) :: blk lb 3 [i64 100, i64 50, i64 30, i64 20, i64 20] :: R) hs (fun a => by simp only [les]; omega))
  · obtain ⟨a1, a2⟩ := wF_add 3 (by omega)
    rw [← hA] at a1 a2
    repeat' first
      | refine TC_seq ?_
      | refine TQ_then ?_
      | (refine TC_plain (id := 6) (by kernel_rfl) ?_; refine TR_pv0 PV_move rfl ?_; refine TR_pv0 PV_move rfl ?_; refine TR_pv0 (PV_len rfl) rfl ?_; refine TR_pv0 (PV_lss rfl rfl) rfl ?_; refine TR_nil ?_)
      | (refine TC_plain (id := 8) (by kernel_rfl) ?_; refine TR_pv0 PV_assign rfl ?_; refine TR_nil ?_)
      | (refine TC_plain (id := 9) (by kernel_rfl) ?_; refine TR_pv0 PV_move rfl ?_; refine TR_pv0 (PV_eql rfl rfl) rfl ?_; refine TR_nil ?_)
      | (refine TC_plain (id := 11) (by kernel_rfl) ?_; refine TR_pv0 PV_move rfl ?_; refine TR_pv0 PV_move rfl ?_; refine TR_pv0 PV_move rfl ?_; refine TR_pv0 (PV_indexAddr rfl rfl (by omega)) rfl ?_; refine TR_load0 rfl 1 rfl rfl rfl ?_; (refine TR_makeSlice (.inl rfl) rfl rfl (by omega) (by omega) rfl ?_; intro mb); refine TR_pv0 (PV_build rfl rfl) rfl ?_; refine TR_pv0 PV_move rfl ?_; refine TR_pv0 PV_move rfl ?_; refine TR_pv0 PV_move rfl ?_; (refine TR_call0 (addZ_ct b mb X hX 20 0 3 3 (by omega) a1) rfl rfl (.cons (.there .here) (.cons .here .nil)) rfl ?_; rintro _ _ ⟨rfl, X', rfl, hX', hA'⟩); refine TR_pv0 PV_move rfl ?_; refine TR_pv0 (PV_extract rfl rfl) rfl ?_; refine TR_pv0 (PV_extract rfl rfl) rfl ?_; refine TR_pv0 PV_assign rfl ?_; refine TR_pv0 PV_assign rfl ?_; refine TR_nil ?_)
      | (refine TC_plain (id := 12) (by kernel_rfl) ?_; all_goals refine TR_pv0 PV_move rfl ?_; all_goals refine TR_pv0 (PV_neq rfl rfl) rfl ?_; all_goals refine TR_pv0 PV_move rfl ?_; all_goals refine TR_pv0 PV_move rfl ?_; all_goals refine TR_pv0 PV_move rfl ?_; all_goals refine TR_pv0 (PV_conv32 rfl) rfl ?_; all_goals refine TR_pv0 (PV_add32 rfl rfl) rfl ?_; all_goals refine TR_pv0 (PV_neq rfl rfl) rfl ?_; all_goals refine TR_pv0 (PV_pick_f rfl) rfl ?_; all_goals refine TR_nil ?_)
      | (refine TC_plain (id := 7) (by kernel_rfl) ?_; refine TR_pv0 PV_move rfl ?_; refine TR_pv0 (PV_add64 rfl rfl (by omega)) rfl ?_; refine TR_pv0 PV_assign rfl ?_; refine TR_nil ?_)
      | refine TC_cond_t rfl rfl ?_
      | refine TC_cond_f rfl rfl ?_
      | refine TC_skip ?_
      | refine TC_block ?_
      | refine TQ_blk ?_
      | (refine TC_cond rfl rfl (fun hq => ?_) (fun hq => ?_) <;> (try simp only [qs] at hq) <;> (try simp only [reduceCtorEq] at hq) <;> (try (exfalso; omega)) <;> (try contradiction))
    exact TQ_roundP (4, X') ⟨by omega, hX', by rw [hA', hA]; rfl⟩ (by show 5 - 4 < mm; omega) ⟨rfl, rfl, rfl, trivial⟩
      (fun w hs => St.le (L := X'.seg b :: blk mb 5 (zrow [Value.int .u8 0] (20 * 1)) :: blk lb 3 [i64 100, i64 50, i64 30, i64 20, i64 20] :: R) hs (fun a => by simp only [les]; omega))
  · obtain ⟨a1, a2⟩ := wF_add 4 (by omega)
    rw [← hA] at a1 a2
    repeat' first
      | refine TC_seq ?_
      | refine TQ_then ?_
      | (refine TC_plain (id := 6) (by kernel_rfl) ?_; refine TR_pv0 PV_move rfl ?_; refine TR_pv0 PV_move rfl ?_; refine TR_pv0 (PV_len rfl) rfl ?_; refine TR_pv0 (PV_lss rfl rfl) rfl ?_; refine TR_nil ?_)
      | (refine TC_plain (id := 8) (by kernel_rfl) ?_; refine TR_pv0 PV_assign rfl ?_; refine TR_nil ?_)
      | (refine TC_plain (id := 9) (by kernel_rfl) ?_; refine TR_pv0 PV_move rfl ?_; refine TR_pv0 (PV_eql rfl rfl) rfl ?_; refine TR_nil ?_)
      | (refine TC_plain (id := 11) (by kernel_rfl) ?_; refine TR_pv0 PV_move rfl ?_; refine TR_pv0 PV_move rfl ?_; refine TR_pv0 PV_move rfl ?_; refine TR_pv0 (PV_indexAddr rfl rfl (by omega)) rfl ?_; refine TR_load0 rfl 1 rfl rfl rfl ?_; (refine TR_makeSlice (.inl rfl) rfl rfl (by omega) (by omega) rfl ?_; intro mb); refine TR_pv0 (PV_build rfl rfl) rfl ?_; refine TR_pv0 PV_move rfl ?_; refine TR_pv0 PV_move rfl ?_; refine TR_pv0 PV_move rfl ?_; (refine TR_call0 (addZ_ct b mb X hX 20 0 4 4 (by omega) a1) rfl rfl (.cons (.there .here) (.cons .here .nil)) rfl ?_; rintro _ _ ⟨rfl, X', rfl, hX', hA'⟩); refine TR_pv0 PV_move rfl ?_; refine TR_pv0 (PV_extract rfl rfl) rfl ?_; refine TR_pv0 (PV_extract rfl rfl) rfl ?_; refine TR_pv0 PV_assign rfl ?_; refine TR_pv0 PV_assign rfl ?_; refine TR_nil ?_)
      | (refine TC_plain (id := 12) (by kernel_rfl) ?_; all_goals refine TR_pv0 PV_move rfl ?_; all_goals refine TR_pv0 (PV_neq rfl rfl) rfl ?_; all_goals refine TR_pv0 PV_move rfl ?_; all_goals refine TR_pv0 PV_move rfl ?_; all_goals refine TR_pv0 PV_move rfl ?_; all_goals refine TR_pv0 (PV_conv32 rfl) rfl ?_; all_goals refine TR_pv0 (PV_add32 rfl rfl) rfl ?_; all_goals refine TR_pv0 (PV_neq rfl rfl) rfl ?_; all_goals refine TR_pv0 (PV_pick_f rfl) rfl ?_; all_goals refine TR_nil ?_)
      | (refine TC_plain (id := 7) (by kernel_rfl) ?_; refine TR_pv0 PV_move rfl ?_; refine TR_pv0 (PV_add64 rfl rfl (by omega)) rfl ?_; refine TR_pv0 PV_assign rfl ?_; refine TR_nil ?_)
      | refine TC_cond_t rfl rfl ?_
      | refine TC_cond_f rfl rfl ?_
      | refine TC_skip ?_
      | refine TC_block ?_
      | refine TQ_blk ?_
      | (refine TC_cond rfl rfl (fun hq => ?_) (fun hq => ?_) <;> (try simp only [qs] at hq) <;> (try simp only [reduceCtorEq] at hq) <;> (try (exfalso; omega)) <;> (try contradiction))
    exact TQ_roundP (5, X') ⟨by omega, hX', by rw [hA', hA]; rfl⟩ (by show 5 - 5 < mm; omega) ⟨rfl, rfl, rfl, trivial⟩
      (fun w hs => St.le (L := X'.seg b :: blk mb 5 (zrow [Value.int .u8 0] (20 * 1)) :: blk lb 3 [i64 100, i64 50, i64 30, i64 20, i64 20] :: R) hs (fun a => by simp only [les]; omega))
  · repeat' first
    | refine TC_seq ?_
    | refine TQ_then ?_
    | (refine TC_plain (id := 6) (by kernel_rfl) ?_; refine TR_pv0 PV_move rfl ?_; refine TR_pv0 PV_move rfl ?_; refine TR_pv0 (PV_len rfl) rfl ?_; refine TR_pv0 (PV_lss rfl rfl) rfl ?_; refine TR_nil ?_)
    | (refine TC_plain (id := 14) (by kernel_rfl) ?_; refine TR_pv0 PV_assign rfl ?_; refine TR_nil ?_)
    | refine TC_cond_f rfl rfl ?_
    | refine TC_exit ?_
    | refine TC_block ?_
    | refine TQ_then_exit ?_
    | refine TQ_blk_here ?_
    refine TC_loopP (X := Nat × FL) (fun s => s.2.seg b :: R) (fun s => [(1, ptr b), (8, .int .u16 (s.1 + 3))]) (fun s => s.1 ≤ 3 ∧ FlOk s.2 ∧ s.2.abs = wS s.1) (fun s => 3 - s.1) (0, X) ⟨by omega, hX, hA⟩ ⟨rfl, rfl, trivial⟩ (fun w hs => hs.le (fun a => by simp only [les]; omega)) ?_
    rintro ⟨t, Y⟩ σh mm2 hmm2 ⟨ht, hY, hB⟩
    dsimp only at hmm2 ht hY hB ⊢
    rcases (show t = 0 ∨ t = 1 ∨ t = 2 ∨ t = 3 by omega) with rfl | rfl | rfl | rfl
    · have hs := sack1_ct b Y hY hB 9 3 3 _ (by omega) (by omega) (by omega) wS_may0 wS0_t
      repeat' first
        | refine TC_seq ?_
        | refine TQ_then ?_
        | (refine TC_plain (id := 15) (by kernel_rfl) ?_; refine TR_pv0 PV_move rfl ?_; refine TR_pv0 (PV_leq rfl rfl) rfl ?_; refine TR_nil ?_)
        | (refine TC_plain (id := 17) (by kernel_rfl) ?_; refine TR_pv0 PV_move rfl ?_; refine TR_pv0 PV_move rfl ?_; refine TR_pv0 (PV_build rfl rfl) rfl ?_; (refine TR_buildSlice (.inl rfl) rfl rfl rfl rfl ?_; intro gb); refine TR_pv0 (PV_build rfl rfl) rfl ?_; (refine TR_call0 (hs gb) rfl rfl (.cons (.there .here) (.cons .here .nil)) rfl ?_; rintro _ _ ⟨rfl, Y', rfl, hY', hB'⟩); refine TR_pv0 PV_move rfl ?_; refine TR_pv0 (PV_extract rfl rfl) rfl ?_; refine TR_pv0 (PV_extract rfl rfl) rfl ?_; (refine TR_alloc0 rfl ?_; intro tb); refine TR_storeA0_0 rfl rfl rfl rfl rfl rfl ?_; refine TR_pv0 PV_assign rfl ?_; refine TR_nil ?_)
        | (refine TC_plain (id := 18) (by kernel_rfl) ?_; all_goals refine TR_pv0 PV_move rfl ?_; all_goals refine TR_pv0 (PV_neq rfl rfl) rfl ?_; all_goals refine TR_pv0 PV_move rfl ?_; all_goals refine TR_pv0 (PV_fieldAddr rfl) rfl ?_; all_goals refine TR_pv0 (PV_indexArr rfl rfl (by omega)) rfl ?_; all_goals refine TR_pv0 (PV_fieldAddr rfl) rfl ?_; all_goals refine TR_load0 rfl 0 rfl rfl rfl ?_; all_goals refine TR_pv0 PV_move rfl ?_; all_goals refine TR_pv0 (PV_eql rfl rfl) rfl ?_; all_goals refine TR_pv0 (PV_bne rfl rfl) rfl ?_; all_goals refine TR_pv0 (PV_pick_f rfl) rfl ?_; all_goals refine TR_pv0 PV_move rfl ?_; all_goals refine TR_pv0 (PV_fieldAddr rfl) rfl ?_; all_goals refine TR_pv0 (PV_indexArr rfl rfl (by omega)) rfl ?_; all_goals refine TR_pv0 (PV_fieldAddr rfl) rfl ?_; all_goals refine TR_load0 rfl 0 rfl rfl rfl ?_; all_goals refine TR_pv0 (PV_pick_f rfl) rfl ?_; all_goals refine TR_nil ?_)
        | (refine TC_plain (id := 16) (by kernel_rfl) ?_; refine TR_pv0 PV_move rfl ?_; refine TR_pv0 (PV_add16 rfl rfl) rfl ?_; refine TR_pv0 PV_assign rfl ?_; refine TR_nil ?_)
        | refine TC_cond_t rfl rfl ?_
        | refine TC_cond_f rfl rfl ?_
        | refine TC_skip ?_
        | refine TC_block ?_
        | refine TQ_blk ?_
      exact TQ_roundP (1, Y') ⟨by omega, hY', by rw [hB']; rfl⟩ (by show 3 - 1 < mm2; omega) ⟨rfl, rfl, trivial⟩ (fun w hs => St.sub (L := _ :: Y'.seg b :: gblk gb 3 3 :: R) hs (.cons _ (.cons_cons _ (.cons _ (.refl _)))))
    · have hs := sack1_ct b Y hY hB 9 3 4 _ (by omega) (by omega) (by omega) wS_may1 wS1_t
      repeat' first
        | refine TC_seq ?_
        | refine TQ_then ?_
        | (refine TC_plain (id := 15) (by kernel_rfl) ?_; refine TR_pv0 PV_move rfl ?_; refine TR_pv0 (PV_leq rfl rfl) rfl ?_; refine TR_nil ?_)
        | (refine TC_plain (id := 17) (by kernel_rfl) ?_; refine TR_pv0 PV_move rfl ?_; refine TR_pv0 PV_move rfl ?_; refine TR_pv0 (PV_build rfl rfl) rfl ?_; (refine TR_buildSlice (.inl rfl) rfl rfl rfl rfl ?_; intro gb); refine TR_pv0 (PV_build rfl rfl) rfl ?_; (refine TR_call0 (hs gb) rfl rfl (.cons (.there .here) (.cons .here .nil)) rfl ?_; rintro _ _ ⟨rfl, Y', rfl, hY', hB'⟩); refine TR_pv0 PV_move rfl ?_; refine TR_pv0 (PV_extract rfl rfl) rfl ?_; refine TR_pv0 (PV_extract rfl rfl) rfl ?_; (refine TR_alloc0 rfl ?_; intro tb); refine TR_storeA0_0 rfl rfl rfl rfl rfl rfl ?_; refine TR_pv0 PV_assign rfl ?_; refine TR_nil ?_)
        | (refine TC_plain (id := 18) (by kernel_rfl) ?_; all_goals refine TR_pv0 PV_move rfl ?_; all_goals refine TR_pv0 (PV_neq rfl rfl) rfl ?_; all_goals refine TR_pv0 PV_move rfl ?_; all_goals refine TR_pv0 (PV_fieldAddr rfl) rfl ?_; all_goals refine TR_pv0 (PV_indexArr rfl rfl (by omega)) rfl ?_; all_goals refine TR_pv0 (PV_fieldAddr rfl) rfl ?_; all_goals refine TR_load0 rfl 0 rfl rfl rfl ?_; all_goals refine TR_pv0 PV_move rfl ?_; all_goals refine TR_pv0 (PV_eql rfl rfl) rfl ?_; all_goals refine TR_pv0 (PV_bne rfl rfl) rfl ?_; all_goals refine TR_pv0 (PV_pick_f rfl) rfl ?_; all_goals refine TR_pv0 PV_move rfl ?_; all_goals refine TR_pv0 (PV_fieldAddr rfl) rfl ?_; all_goals refine TR_pv0 (PV_indexArr rfl rfl (by omega)) rfl ?_; all_goals refine TR_pv0 (PV_fieldAddr rfl) rfl ?_; all_goals refine TR_load0 rfl 0 rfl rfl rfl ?_; all_goals refine TR_pv0 (PV_pick_f rfl) rfl ?_; all_goals refine TR_nil ?_)
        | (refine TC_plain (id := 16) (by kernel_rfl) ?_; refine TR_pv0 PV_move rfl ?_; refine TR_pv0 (PV_add16 rfl rfl) rfl ?_; refine TR_pv0 PV_assign rfl ?_; refine TR_nil ?_)
        | refine TC_cond_t rfl rfl ?_
        | refine TC_cond_f rfl rfl ?_
        | refine TC_skip ?_
        | refine TC_block ?_
        | refine TQ_blk ?_
      exact TQ_roundP (2, Y') ⟨by omega, hY', by rw [hB']; rfl⟩ (by show 3 - 2 < mm2; omega) ⟨rfl, rfl, trivial⟩ (fun w hs => St.sub (L := _ :: Y'.seg b :: gblk gb 3 4 :: R) hs (.cons _ (.cons_cons _ (.cons _ (.refl _)))))
    · have hs := sack1_ct b Y hY hB 9 3 5 _ (by omega) (by omega) (by omega) wS_may2 wS2_t
      repeat' first
        | refine TC_seq ?_
        | refine TQ_then ?_
        | (refine TC_plain (id := 15) (by kernel_rfl) ?_; refine TR_pv0 PV_move rfl ?_; refine TR_pv0 (PV_leq rfl rfl) rfl ?_; refine TR_nil ?_)
        | (refine TC_plain (id := 17) (by kernel_rfl) ?_; refine TR_pv0 PV_move rfl ?_; refine TR_pv0 PV_move rfl ?_; refine TR_pv0 (PV_build rfl rfl) rfl ?_; (refine TR_buildSlice (.inl rfl) rfl rfl rfl rfl ?_; intro gb); refine TR_pv0 (PV_build rfl rfl) rfl ?_; (refine TR_call0 (hs gb) rfl rfl (.cons (.there .here) (.cons .here .nil)) rfl ?_; rintro _ _ ⟨rfl, Y', rfl, hY', hB'⟩); refine TR_pv0 PV_move rfl ?_; refine TR_pv0 (PV_extract rfl rfl) rfl ?_; refine TR_pv0 (PV_extract rfl rfl) rfl ?_; (refine TR_alloc0 rfl ?_; intro tb); refine TR_storeA0_0 rfl rfl rfl rfl rfl rfl ?_; refine TR_pv0 PV_assign rfl ?_; refine TR_nil ?_)
        | (refine TC_plain (id := 18) (by kernel_rfl) ?_; all_goals refine TR_pv0 PV_move rfl ?_; all_goals refine TR_pv0 (PV_neq rfl rfl) rfl ?_; all_goals refine TR_pv0 PV_move rfl ?_; all_goals refine TR_pv0 (PV_fieldAddr rfl) rfl ?_; all_goals refine TR_pv0 (PV_indexArr rfl rfl (by omega)) rfl ?_; all_goals refine TR_pv0 (PV_fieldAddr rfl) rfl ?_; all_goals refine TR_load0 rfl 0 rfl rfl rfl ?_; all_goals refine TR_pv0 PV_move rfl ?_; all_goals refine TR_pv0 (PV_eql rfl rfl) rfl ?_; all_goals refine TR_pv0 (PV_bne rfl rfl) rfl ?_; all_goals refine TR_pv0 (PV_pick_f rfl) rfl ?_; all_goals refine TR_pv0 PV_move rfl ?_; all_goals refine TR_pv0 (PV_fieldAddr rfl) rfl ?_; all_goals refine TR_pv0 (PV_indexArr rfl rfl (by omega)) rfl ?_; all_goals refine TR_pv0 (PV_fieldAddr rfl) rfl ?_; all_goals refine TR_load0 rfl 0 rfl rfl rfl ?_; all_goals refine TR_pv0 (PV_pick_f rfl) rfl ?_; all_goals refine TR_nil ?_)
        | (refine TC_plain (id := 16) (by kernel_rfl) ?_; refine TR_pv0 PV_move rfl ?_; refine TR_pv0 (PV_add16 rfl rfl) rfl ?_; refine TR_pv0 PV_assign rfl ?_; refine TR_nil ?_)
        | refine TC_cond_t rfl rfl ?_
        | refine TC_cond_f rfl rfl ?_
        | refine TC_skip ?_
        | refine TC_block ?_
        | refine TQ_blk ?_
      exact TQ_roundP (3, Y') ⟨by omega, hY', by rw [hB']; rfl⟩ (by show 3 - 3 < mm2; omega) ⟨rfl, rfl, trivial⟩ (fun w hs => St.sub (L := _ :: Y'.seg b :: gblk gb 3 5 :: R) hs (.cons _ (.cons_cons _ (.cons _ (.refl _)))))
    · have hlo := lostF_ct b Y hY
      have hYr : Y.recs = (wS 3).l := congrArg Flt.l hB
      rw [hYr, wS_lost] at hlo
      have hag := againF_ct b Y hY 10 0 9
      rw [hB, wS_again] at hag
      repeat' first
        | refine TC_seq ?_
        | refine TQ_then ?_
        | (refine TC_plain (id := 15) (by kernel_rfl) ?_; refine TR_pv0 PV_move rfl ?_; refine TR_pv0 (PV_leq rfl rfl) rfl ?_; refine TR_nil ?_)
        | (refine TC_plain (id := 20) (by kernel_rfl) ?_; refine TR_pv0 PV_move rfl ?_; (refine TR_call0 (hlo) rfl rfl (.cons .here .nil) rfl ?_; rintro _ _ ⟨row, rfl, rfl, hrow⟩); refine TR_pv0 PV_assign rfl ?_; refine TR_nil ?_)
        | refine TC_cond_f rfl rfl ?_
        | refine TC_exit ?_
        | refine TQ_then_exit ?_
        | refine TQ_blk_here ?_
      obtain ⟨qb, off, cells, ha, hC, hl, ht⟩ := hrow.opened (by simp)
      have hsl : Value.slice row.a 1 row.cap = .slice (some ⟨qb, off, none⟩) 1 row.cap := by rw [ha]
      have hc0 : cells[off + (0 : Int).toNat * 1]? = some (u32 10) := take_at ht (j := 0) (by simp)
      have hgm : (qb, Obj.cells cells.toArray 22 (0, 0)) ∈ row.C := by rw [hC]; exact .head _
      refine TC_le (L' := Y.seg b :: row.C :: R) (fun a => by simp only [les]; omega) ?_
      repeat' first
        | refine TC_seq ?_
        | refine TQ_then ?_
        | (refine TC_plain (id := 21) (by kernel_rfl) ?_; refine TR_pv0 PV_move rfl ?_; (refine TR_call0 (hag) rfl rfl (.cons .here .nil) rfl ?_; rintro _ _ ⟨rfl, Z, rfl, hZ, hZA, _⟩); refine TR_pv0 PV_assign rfl ?_; refine TR_nil ?_)
      have hou := outF_cd b Z hZ 0
      have hZr : Z.recs = wA.l := congrArg Flt.l hZA
      rw [hZr, wA_out] at hou
      have hsa := sack0_ct b Z hZ (F := wA) hZA 14 _ (by omega) wA_may wA_t
      repeat' first
        | refine TC_seq ?_
        | refine TQ_then ?_
        | (refine TC_plain (id := 22) (by kernel_rfl) ?_; refine TR_pv0 PV_move rfl ?_; (refine TR_call0 (hou) rfl rfl (.cons .here .nil) rfl ?_; rintro _ _ ⟨rfl, rfl⟩); refine TR_pv0 PV_assign rfl ?_; refine TR_nil ?_)
        | (refine TC_plain (id := 23) (by kernel_rfl) ?_; refine TR_pv0 PV_move rfl ?_; refine TR_pv0 (PV_build rfl rfl) rfl ?_; (refine TR_call0 (hsa) rfl rfl (.cons .here .nil) rfl ?_; rintro _ _ ⟨rfl, V, rfl, hV, hVA⟩); refine TR_pv0 PV_move rfl ?_; refine TR_pv0 (PV_extract rfl rfl) rfl ?_; refine TR_pv0 (PV_extract rfl rfl) rfl ?_; (refine TR_alloc0 rfl ?_; intro tb2); refine TR_storeA0_0 rfl rfl rfl rfl rfl rfl ?_; refine TR_pv0 PV_assign rfl ?_; refine TR_nil ?_)
      have hcn := countF_cd b V
      have hV0 : V.l.length = 0 := by have := congrArg (fun F => F.l.length) hVA; simp only [FL.abs, recs_length] at this; rw [this]; exact wA_len
      rw [hV0] at hcn
      refine TC_slots [(1, ptr b), (11, row.val 1), (12, i64 0), (13, i64 100), (14, ptr tb2), (15, i64 0)] ⟨rfl, rfl, rfl, rfl, rfl, rfl, trivial⟩ fun σ' => ?_
      refine TC_le (L' := blk tb2 40 [i64 220, .bool true, i64 100, .bool true, .bool false, i64 0, .bool false, i64 50, .bool true, .bool false, i64 1, .bool true, i64 0, .bool false, .bool false, i64 0, .bool false,
        i64 0, .bool false, .bool false, i64 0, .bool false] :: V.seg b :: row.C :: R) (Le.refl _) ?_
      repeat' first
        | refine TQ_then ?_
        | (refine TC_plain (id := 24) (by kernel_rfl) ?_; all_goals refine TR_pv0 PV_move rfl ?_; all_goals refine TR_pv0 (PV_len rfl) rfl ?_; all_goals refine TR_pv0 (PV_eql rfl rfl) rfl ?_; all_goals refine TR_pv0 PV_move rfl ?_; all_goals refine TR_pv0 PV_move rfl ?_; all_goals refine TR_pv0 (PV_indexAddr hsl rfl (by omega)) rfl ?_; all_goals refine TR_loadM0 rfl hgm 2 rfl hc0 rfl ?_; all_goals refine TR_pv0 (PV_eql rfl rfl) rfl ?_; all_goals refine TR_pv0 (PV_pick_t rfl) rfl ?_; all_goals refine TR_pv0 PV_move rfl ?_; all_goals refine TR_pv0 PV_move rfl ?_; all_goals refine TR_pv0 (PV_eql rfl rfl) rfl ?_; all_goals refine TR_pv0 (PV_pick_t rfl) rfl ?_; all_goals refine TR_pv0 PV_move rfl ?_; all_goals refine TR_pv0 PV_move rfl ?_; all_goals refine TR_pv0 (PV_eql rfl rfl) rfl ?_; all_goals refine TR_pv0 (PV_pick_t rfl) rfl ?_; all_goals refine TR_pv0 PV_move rfl ?_; all_goals refine TR_pv0 PV_move rfl ?_; all_goals refine TR_pv0 (PV_eql rfl rfl) rfl ?_; all_goals refine TR_pv0 (PV_pick_t rfl) rfl ?_; all_goals refine TR_pv0 PV_move rfl ?_; all_goals refine TR_pv0 (PV_fieldAddr rfl) rfl ?_; all_goals refine TR_load0 rfl 0 rfl rfl rfl ?_; all_goals refine TR_pv0 (PV_eql rfl rfl) rfl ?_; all_goals refine TR_pv0 (PV_pick_t rfl) rfl ?_; all_goals refine TR_pv0 PV_move rfl ?_; all_goals refine TR_pv0 (PV_fieldAddr rfl) rfl ?_; all_goals refine TR_pv0 (PV_indexArr rfl rfl (by omega)) rfl ?_; all_goals refine TR_pv0 (PV_fieldAddr rfl) rfl ?_; all_goals refine TR_load0 rfl 0 rfl rfl rfl ?_; all_goals refine TR_pv0 (PV_eql rfl rfl) rfl ?_; all_goals refine TR_pv0 (PV_pick_t rfl) rfl ?_; all_goals refine TR_pv0 PV_move rfl ?_; all_goals refine TR_pv0 (PV_fieldAddr rfl) rfl ?_; all_goals refine TR_pv0 (PV_indexArr rfl rfl (by omega)) rfl ?_; all_goals refine TR_pv0 (PV_fieldAddr rfl) rfl ?_; all_goals refine TR_load0 rfl 0 rfl rfl rfl ?_; all_goals refine TR_pv0 (PV_pick_t rfl) rfl ?_; all_goals refine TR_pv0 PV_move rfl ?_; all_goals refine TR_pv0 (PV_fieldAddr rfl) rfl ?_; all_goals refine TR_pv0 (PV_indexArr rfl rfl (by omega)) rfl ?_; all_goals refine TR_pv0 (PV_fieldAddr rfl) rfl ?_; all_goals refine TR_load0 rfl 0 rfl rfl rfl ?_; all_goals refine TR_pv0 (PV_not rfl) rfl ?_; all_goals refine TR_pv0 (PV_pick_t rfl) rfl ?_; all_goals refine TR_pv0 PV_move rfl ?_; all_goals refine TR_pv0 (PV_fieldAddr rfl) rfl ?_; all_goals refine TR_pv0 (PV_indexArr rfl rfl (by omega)) rfl ?_; all_goals refine TR_pv0 (PV_fieldAddr rfl) rfl ?_; all_goals refine TR_load0 rfl 0 rfl rfl rfl ?_; all_goals refine TR_pv0 (PV_eql rfl rfl) rfl ?_; all_goals refine TR_pv0 (PV_pick_t rfl) rfl ?_; all_goals refine TR_pv0 PV_move rfl ?_; all_goals refine TR_pv0 PV_move rfl ?_; all_goals refine TR_calld1_1 (hcn) rfl rfl rfl rfl ?_; all_goals refine TR_pv0 (PV_eql rfl rfl) rfl ?_; all_goals refine TR_pv0 (PV_pick_t rfl) rfl ?_; all_goals refine TR_pv0 PV_assign rfl ?_; all_goals refine TR_nil ?_)
        | refine TC_ret ?_
      exact TQ_ret1e (v := .bool true) rfl rfl rfl ⟨rfl, rfl⟩ (fun a => by simp only [les]; omega)
end Go.Proofs.Ytonfkkdahlboiaa
