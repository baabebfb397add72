/- The flight's iterator over the records of a kind, and what goes through them: Out, Open, Mark. -/
import Derived.Test.YtonfkkdahlboiaaFlt
namespace Go.Proofs.Ytonfkkdahlboiaa
open Go.RowKit
set_option maxHeartbeats 4000000

theorem clone_ct (a : Option Addr) (n cap : Nat) (l : List Int) (Cs : List Seg) (hl : l.length = n) (hn : n ≤ 1099511627776) (hs : ∀ w, sat w Cs → SrcAt w a (u8s l)) :
    Ct Try.prog 37 [.slice a n cap] Cs (fun v D => ∃ r : Row, v = r.val n ∧ D = r.C :: Cs ∧ r.ok 5 1 n (u8s l)) := by
  refine Ct_intro Try.func37 rfl (by simp only [Try.ntmps37, List.length_cons, List.length_nil]; omega) ?_
  intro w₀ R
  refine TC_have (q := a = none → n = 0) (fun w hw ha => ?_) fun h0 => ?_
  · rcases hs w (sat_le hw (fun a => by simp only [les]; omega)) with ⟨_, h⟩ | ⟨ad, h, _⟩
    · rw [← hl, ← u8s_length, h]; rfl
    · rw [ha] at h; cases h
  cases a with
  | none =>
    obtain rfl := h0 rfl
    repeat' first
      | refine TC_seq ?_
      | refine TQ_then ?_
      | (refine TC_plain (id := 0) (by kernel_rfl) ?_; refine TR_pv0 PV_assign rfl ?_; refine TR_nil ?_)
      | (refine TC_plain (id := 1) (by kernel_rfl) ?_; refine TR_pv0 PV_move rfl ?_; refine TR_pv0 (PV_eql_slice rfl rfl) rfl ?_; refine TR_nil ?_)
      | (refine TC_plain (id := 2) (by kernel_rfl) ?_; refine TR_pv0 PV_assign rfl ?_; refine TR_nil ?_)
      | refine TC_cond_t rfl rfl ?_
      | refine TC_ret ?_
      | refine TQ_then_ret ?_
    obtain rfl : l = [] := List.eq_nil_of_length_eq_zero hl
    exact TQ_ret1e (v := (Row.mk none 0 []).val 0) rfl rfl rfl ⟨⟨none, 0, []⟩, rfl, rfl, .nil⟩ (fun a => by simp only [les]; omega)
  | some ad =>
    repeat' first
      | refine TC_seq ?_
      | refine TQ_then ?_
      | (refine TC_plain (id := 0) (by kernel_rfl) ?_; refine TR_pv0 PV_assign rfl ?_; refine TR_nil ?_)
      | (refine TC_plain (id := 1) (by kernel_rfl) ?_; refine TR_pv0 PV_move rfl ?_; refine TR_pv0 (PV_eql_slice rfl rfl) rfl ?_; refine TR_nil ?_)
      | (refine TC_plain (id := 3) (by kernel_rfl) ?_; (refine TR_buildSlice (.inl rfl) rfl rfl rfl rfl ?_; intro _); refine TR_pv0 PV_move rfl ?_; (refine TR_appendN (.inl rfl) (.zero _) rfl rfl (fun w h => hs w (sat_le h (fun a => by simp only [les]; omega))) (by rw [u8s_length, hl]; omega) (u8s_one l) (by omega) rfl ?_; intro a' cap' C' hS); refine TR_pv0 PV_assign rfl ?_; refine TR_nil ?_)
      | refine TC_cond_f rfl rfl ?_
      | refine TC_skip ?_
      | refine TC_ret ?_
    rw [Nat.zero_add] at hS
    refine TQ_ret1e (v := (Row.mk a' cap' C').val (0 + n)) rfl rfl rfl ⟨⟨a', cap', C'⟩, by rw [Nat.zero_add], rfl, hS⟩ (fun a => by simp only [les]; omega)

theorem newF_ct (paths first : Int) (hp : 1 ≤ paths ∧ paths ≤ 4) :
    Ct Try.prog 10 [i64 paths, u32 first] [] (fun v D => ∃ b, v = .tuple #[ptr b, i64 0] ∧ D = [FL.seg b ⟨[], ⟨none, 0, []⟩, (first - 1) % 4294967296, paths⟩]) := by
  refine Ct_intro Try.func10 rfl (by simp only [Try.ntmps10, List.length_cons, List.length_nil]; omega) ?_
  intro w₀ R
  repeat' first
    | refine TC_seq ?_
    | refine TQ_then ?_
    | (refine TC_plain (id := 0) (by kernel_rfl) ?_; refine TR_pv0 PV_assign rfl ?_; refine TR_pv0 PV_assign rfl ?_; refine TR_nil ?_)
    | (refine TC_plain (id := 1) (by kernel_rfl) ?_; all_goals refine TR_pv0 PV_move rfl ?_; all_goals refine TR_pv0 (PV_lss rfl rfl) rfl ?_; all_goals refine TR_pv0 PV_move rfl ?_; all_goals (refine TR_gsplit rfl rfl rfl (fun hq => ?_) (fun hq => ?_) <;> (try simp only [qs] at hq) <;> (try simp only [reduceCtorEq] at hq) <;> (try (exfalso; omega)) <;> (try contradiction) <;> refine TR_pv0 PV_move rfl ?_); all_goals refine TR_pv0 (PV_gtr rfl rfl) rfl ?_; all_goals refine TR_pv0 (PV_pick_f rfl) rfl ?_; all_goals refine TR_nil ?_)
    | (refine TC_plain (id := 3) (by kernel_rfl) ?_; refine TR_pv0 PV_move rfl ?_; refine TR_pv0 (PV_sub32 rfl rfl) rfl ?_; refine TR_pv0 PV_move rfl ?_; refine TR_pv0 (PV_build rfl rfl) rfl ?_; (refine TR_box0 rfl rfl rfl ?_; intro _); refine TR_pv0 PV_assign rfl ?_; refine TR_pv0 PV_assign rfl ?_; refine TR_nil ?_)
    | refine TC_skip ?_
    | refine TC_ret ?_
    | (refine TC_cond rfl rfl (fun hq => ?_) (fun hq => ?_) <;> (try simp only [qs] at hq) <;> (try simp only [reduceCtorEq] at hq) <;> (try (exfalso; omega)) <;> (try contradiction))
  exact TQ_ret2e rfl rfl rfl rfl rfl ⟨_, rfl, rfl⟩ (Le.refl _)
theorem newF_no (paths first : Int) (hp : ¬ (1 ≤ paths ∧ paths ≤ 4)) : Cd Try.prog 10 [i64 paths, u32 first] [] (.tuple #[.pointer none, i64 1]) [] := by
  refine Ct_intro Try.func10 rfl (by simp only [Try.ntmps10, List.length_cons, List.length_nil]; omega) ?_
  intro w₀ R
  repeat' first
    | refine TC_seq ?_
    | refine TQ_then ?_
    | (refine TC_plain (id := 0) (by kernel_rfl) ?_; refine TR_pv0 PV_assign rfl ?_; refine TR_pv0 PV_assign rfl ?_; refine TR_nil ?_)
    | (refine TC_plain (id := 1) (by kernel_rfl) ?_; all_goals refine TR_pv0 PV_move rfl ?_; all_goals refine TR_pv0 (PV_lss rfl rfl) rfl ?_; all_goals refine TR_pv0 PV_move rfl ?_; all_goals (refine TR_gsplit rfl rfl rfl (fun hq => ?_) (fun hq => ?_) <;> (try simp only [qs] at hq) <;> (try simp only [reduceCtorEq] at hq) <;> (try (exfalso; omega)) <;> (try contradiction) <;> (first | refine TR_pv0 PV_move rfl ?_ | refine TR_skip0 rfl ?_)); all_goals (first | refine TR_pv0 (PV_gtr rfl rfl) rfl ?_ | refine TR_skip0 rfl ?_); all_goals (first | refine TR_pv0 (PV_pick_t rfl) rfl ?_ | refine TR_pv0 (PV_pick_f rfl) rfl ?_); all_goals refine TR_nil ?_)
    | (refine TC_plain (id := 2) (by kernel_rfl) ?_; refine TR_pv0 PV_assign rfl ?_; refine TR_pv0 PV_assign rfl ?_; refine TR_nil ?_)
    | refine TC_cond_t rfl rfl ?_
    | refine TC_ret ?_
    | refine TQ_then_ret ?_
    | (refine TC_cond rfl rfl (fun hq => ?_) (fun hq => ?_) <;> (try simp only [qs] at hq) <;> (try simp only [reduceCtorEq] at hq) <;> (try (exfalso; omega)) <;> (try contradiction))
  all_goals exact TQ_ret2 rfl rfl rfl rfl rfl ⟨rfl, rfl⟩ .nil

theorem countF_cd (b : Nat) (X : FL) : Cd Try.prog 24 [ptr b] [X.seg b] (i64 X.l.length) [X.seg b] := by
  refine Ct_intro Try.func24 rfl (by simp only [Try.ntmps24, List.length_cons, List.length_nil]; omega) ?_
  intro w₀ R
  refine TC_le (L' := X.bk b :: (X.w.C ++ rsegs X.l) :: R) (fun a => by simp only [les, FL.seg]; omega) ?_
  repeat' first
    | refine TC_seq ?_
    | refine TQ_then ?_
    | (refine TC_plain (id := 0) (by kernel_rfl) ?_; refine TR_pv0 PV_assign rfl ?_; refine TR_nil ?_)
    | (refine TC_plain (id := 1) (by kernel_rfl) ?_; refine TR_pv0 PV_move rfl ?_; refine TR_pv0 (PV_peq_nil rfl rfl) rfl ?_; refine TR_nil ?_)
    | (refine TC_plain (id := 3) (by kernel_rfl) ?_; refine TR_pv0 PV_move rfl ?_; refine TR_pv0 (PV_nil rfl) rfl ?_; refine TR_pv0 (PV_fieldAddr rfl) rfl ?_; refine TR_load0 rfl 0 rfl rfl rfl ?_; refine TR_pv0 (PV_len rfl) rfl ?_; refine TR_pv0 PV_assign rfl ?_; refine TR_nil ?_)
    | refine TC_cond_f rfl rfl ?_
    | refine TC_skip ?_
    | refine TC_ret ?_
  exact TQ_ret1e rfl rfl rfl ⟨rfl, rfl⟩ (fun a => by simp only [les, FL.seg]; omega)
theorem cumF_cd (b : Nat) (X : FL) : Cd Try.prog 23 [ptr b] [X.seg b] (u32 X.cum) [X.seg b] := by
  refine Ct_intro Try.func23 rfl (by simp only [Try.ntmps23, List.length_cons, List.length_nil]; omega) ?_
  intro w₀ R
  refine TC_le (L' := X.bk b :: (X.w.C ++ rsegs X.l) :: R) (fun a => by simp only [les, FL.seg]; omega) ?_
  repeat' first
    | refine TC_seq ?_
    | refine TQ_then ?_
    | (refine TC_plain (id := 0) (by kernel_rfl) ?_; refine TR_pv0 PV_assign rfl ?_; refine TR_nil ?_)
    | (refine TC_plain (id := 1) (by kernel_rfl) ?_; refine TR_pv0 PV_move rfl ?_; refine TR_pv0 (PV_peq_nil rfl rfl) rfl ?_; refine TR_nil ?_)
    | (refine TC_plain (id := 3) (by kernel_rfl) ?_; refine TR_pv0 PV_move rfl ?_; refine TR_pv0 (PV_nil rfl) rfl ?_; refine TR_pv0 (PV_fieldAddr rfl) rfl ?_; refine TR_load0 rfl 0 rfl rfl rfl ?_; refine TR_pv0 PV_assign rfl ?_; refine TR_nil ?_)
    | refine TC_cond_f rfl rfl ?_
    | refine TC_skip ?_
    | refine TC_ret ?_
  exact TQ_ret1e rfl rfl rfl ⟨rfl, rfl⟩ (fun a => by simp only [les, FL.seg]; omega)
theorem countF_nil : Cd Try.prog 24 [.pointer none] [] (i64 0) [] := by
  refine Ct_intro Try.func24 rfl (by simp only [Try.ntmps24, List.length_cons, List.length_nil]; omega) ?_
  intro w₀ R
  repeat' first
    | refine TC_seq ?_
    | refine TQ_then ?_
    | (refine TC_plain (id := 0) (by kernel_rfl) ?_; refine TR_pv0 PV_assign rfl ?_; refine TR_nil ?_)
    | (refine TC_plain (id := 1) (by kernel_rfl) ?_; refine TR_pv0 PV_move rfl ?_; refine TR_pv0 (PV_peq_nil rfl rfl) rfl ?_; refine TR_nil ?_)
    | (refine TC_plain (id := 2) (by kernel_rfl) ?_; refine TR_pv0 PV_assign rfl ?_; refine TR_nil ?_)
    | refine TC_cond_t rfl rfl ?_
    | refine TC_ret ?_
    | refine TQ_then_ret ?_
  exact TQ_ret1 rfl rfl rfl ⟨rfl, rfl⟩ .nil
theorem cumF_nil : Cd Try.prog 23 [.pointer none] [] (u32 0) [] := by
  refine Ct_intro Try.func23 rfl (by simp only [Try.ntmps23, List.length_cons, List.length_nil]; omega) ?_
  intro w₀ R
  repeat' first
    | refine TC_seq ?_
    | refine TQ_then ?_
    | (refine TC_plain (id := 0) (by kernel_rfl) ?_; refine TR_pv0 PV_assign rfl ?_; refine TR_nil ?_)
    | (refine TC_plain (id := 1) (by kernel_rfl) ?_; refine TR_pv0 PV_move rfl ?_; refine TR_pv0 (PV_peq_nil rfl rfl) rfl ?_; refine TR_nil ?_)
    | (refine TC_plain (id := 2) (by kernel_rfl) ?_; refine TR_pv0 PV_assign rfl ?_; refine TR_nil ?_)
    | refine TC_cond_t rfl rfl ?_
    | refine TC_ret ?_
    | refine TQ_then_ret ?_
  exact TQ_ret1 rfl rfl rfl ⟨rfl, rfl⟩ .nil

/-! ### The iterator -/
abbrev fbox (b : Nat) (f : Option Addr) : Seg := blk b 24 [.pointer f]
abbrev isbox (b : Nat) (v : Value) : Seg := blk b 93 [v]
theorem such_ct (f : Option Addr) (isf : Nat) (fs cs : Array Value) : Ct Try.prog 38 [.pointer f, .func (.func isf) fs cs] []
    (fun v D => ∃ b1 b2, v = .func (.func 58) #[] #[ptr b1, ptr b2] ∧ D = [fbox b1 f, isbox b2 (.func (.func isf) fs cs)]) := by
  refine Ct_intro Try.func38 rfl (by simp only [Try.ntmps38, List.length_cons, List.length_nil]; omega) ?_
  intro w₀ R
  repeat' first
    | refine TC_seq ?_
    | refine TQ_then ?_
    | (refine TC_plain (id := 0) (by kernel_rfl) ?_; (refine TR_box0 rfl rfl rfl ?_; intro _); (refine TR_box0 rfl rfl rfl ?_; intro _); refine TR_pv0 PV_assign rfl ?_; refine TR_nil ?_)
    | (refine TC_plain (id := 1) (by kernel_rfl) ?_; refine TR_pv0 PV_makeFunc rfl ?_; refine TR_pv0 PV_assign rfl ?_; refine TR_nil ?_)
    | refine TC_ret ?_
  rename_i b1 b2
  refine TQ_le (L' := isbox b2 (.func (.func isf) fs cs) :: fbox b1 f :: R) (Le.refl _) ?_
  exact TQ_ret1e rfl rfl rfl ⟨b1, b2, rfl, rfl⟩ (fun a => by simp only [les]; omega)
theorem by_ct (path : Int) : Cn Try.prog 39 [i64 path] (fun b => .func (.func 59) #[] #[ptr b]) (fun b => ibox b path) := by
  refine Ct_intro Try.func39 rfl (by simp only [Try.ntmps39, List.length_cons, List.length_nil]; omega) ?_
  intro w₀ R
  repeat' first
    | refine TC_seq ?_
    | refine TQ_then ?_
    | (refine TC_plain (id := 0) (by kernel_rfl) ?_; (refine TR_box0 rfl rfl rfl ?_; intro _); refine TR_pv0 PV_assign rfl ?_; refine TR_nil ?_)
    | (refine TC_plain (id := 1) (by kernel_rfl) ?_; refine TR_pv0 PV_makeFunc rfl ?_; refine TR_pv0 PV_assign rfl ?_; refine TR_nil ?_)
    | refine TC_ret ?_
  exact TQ_ret1 rfl rfl rfl ⟨_, rfl, rfl⟩ (.cons .here .nil)

/-- Through the records: f asks of each whether it is of the kind; those that are go to yield, one behind the other. -/
theorem such_it {α : Type} (l b b1 b2 isf : Nat) [TFn Try.prog isf] (fs cs : List Value) (rows : Option Addr) (cap : Nat) (ps : List Nat) (Lx : α → Seg) (Inv : Nat → α → Prop)
    (hb1 : ∀ k x, Inv k x → (b1, Obj.cells [ptr b].toArray 24 (0, 0)) ∈ Lx x)
    (hb2 : ∀ k x, Inv k x → (b2, Obj.cells [Value.func (.func isf) fs.toArray cs.toArray].toArray 93 (0, 0)) ∈ Lx x)
    (hf : ∀ k x, Inv k x → ∃ l, (b, Obj.cells ((Value.slice rows ps.length cap) :: l).toArray 86 (0, 0)) ∈ Lx x)
    (hp : ∀ k p, ps[k]? = some p → ∃ rb off, rows = some ⟨rb, off, none⟩ ∧ ∀ x, Inv k x → ∃ (cs : List Value) (T : Nat) (fz : Nat × Nat), (rb, Obj.cells cs.toArray T fz) ∈ Lx x ∧ cs[off + k]? = some (ptr p))
    (his : ∀ k x p, Inv k x → ps[k]? = some p → ∃ y : Bool, Cd Try.prog isf (fs ++ [ptr p] ++ cs) [Lx x] (.bool y) [Lx x] ∧ (y = false → Inv (k + 1) x) ∧
      (y = true → YCt Try.prog l [ptr p] [Lx x] (fun v D => v = .bool true ∧ ∃ x', Inv (k + 1) x' ∧ D = [Lx x']))) (hlen : ps.length ≤ 4611686018427387904) (x₀ : α) (h0 : Inv 0 x₀) :
    Ct Try.prog 58 [yieldV l, ptr b1, ptr b2] [Lx x₀] (fun v D => v = .tuple #[] ∧ ∃ x, Inv ps.length x ∧ D = [Lx x]) := by
  have m1 := hb1 0 x₀ h0
  obtain ⟨cl, m2⟩ := hf 0 x₀ h0
  refine Ct_intro Try.func58 rfl (by simp only [Try.ntmps58, List.length_cons, List.length_nil]; omega) ?_
  intro w₀ R
  repeat' first
    | refine TC_seq ?_
    | refine TQ_then ?_
    | (refine TC_plain (id := 0) (by kernel_rfl) ?_; refine TR_loadM0 rfl m1 0 rfl rfl rfl ?_; refine TR_pv0 (PV_peq_nil rfl rfl) rfl ?_; refine TR_nil ?_)
    | (refine TC_plain (id := 1) (by kernel_rfl) ?_; refine TR_loadM0 rfl m1 0 rfl rfl rfl ?_; refine TR_pv0 (PV_nil rfl) rfl ?_; refine TR_pv0 (PV_fieldAddr rfl) rfl ?_; refine TR_loadM0 rfl m2 0 rfl rfl rfl ?_; refine TR_pv0 (PV_len rfl) rfl ?_; refine TR_pv0 PV_move rfl ?_; refine TR_nil ?_)
    | refine TC_cond_f rfl rfl ?_
    | refine TC_skip ?_
    | refine TC_block ?_
  refine TC_loopP (X := Nat × α) (fun s => Lx s.2 :: R) (fun s => [(0, yieldV l), (2, ptr b2), (11, .slice rows ps.length cap), (12, i64 ps.length), (13, i64 s.1)]) (fun s => s.1 ≤ ps.length ∧ Inv s.1 s.2) (fun s => ps.length - s.1) (0, x₀)
    ⟨Nat.zero_le _, h0⟩ ⟨rfl, rfl, rfl, rfl, rfl, trivial⟩ (fun _ h => h) ?_
  rintro ⟨k, x⟩ σg mm hmm ⟨hk, hx⟩
  dsimp only at hk hx hmm ⊢
  by_cases hlt : k < ps.length
  · obtain ⟨p, hpk⟩ : ∃ p, ps[k]? = some p := ⟨ps[k], List.getElem?_eq_getElem hlt⟩
    obtain ⟨rb, off, rfl, hrow⟩ := hp k p hpk
    obtain ⟨rcs, T, fz, m3, v3⟩ := hrow x hx
    have m4 := hb2 k x hx
    obtain ⟨y, hy, hno, hyes⟩ := his k x p hx hpk
    have v3' : rcs[off + (k : Int).toNat * 1]? = some (ptr p) := by rw [Int.toNat_natCast, Nat.mul_one]; exact v3
    cases y with
    | false =>
      repeat' first
        | refine TC_seq ?_
        | refine TQ_then ?_
        | (refine TC_plain (id := 2) (by kernel_rfl) ?_; refine TR_pv0 (PV_lss rfl rfl) rfl ?_; refine TR_nil ?_)
        | (refine TC_plain (id := 3) (by kernel_rfl) ?_; refine TR_pv0 (PV_indexAddr rfl rfl (by omega)) rfl ?_; refine TR_loadM0 rfl m3 0 rfl v3' rfl ?_; refine TR_pv0 PV_assign rfl ?_; refine TR_nil ?_)
        | (refine TC_plain (id := 4) (by kernel_rfl) ?_; all_goals refine TR_loadM0 rfl m4 0 rfl rfl rfl ?_; all_goals refine TR_pv0 PV_move rfl ?_; all_goals (refine TR_call0 (hy) rfl rfl (.cons .here .nil) rfl ?_; rintro _ _ ⟨rfl, rfl⟩); all_goals refine TR_pv0 PV_move rfl ?_; all_goals refine TR_skip0 rfl ?_; all_goals refine TR_skip0 rfl ?_; all_goals refine TR_skip0 rfl ?_; all_goals refine TR_skip0 rfl ?_; all_goals refine TR_pv0 (PV_pick_f rfl) rfl ?_; all_goals refine TR_nil ?_)
        | (refine TC_plain (id := 5) (by kernel_rfl) ?_; refine TR_pv0 (PV_add64 rfl rfl (by omega)) rfl ?_; refine TR_pv0 PV_move rfl ?_; refine TR_nil ?_)
        | refine TC_cond_f rfl rfl ?_
        | refine TC_skip ?_
        | refine TC_block ?_
        | refine TQ_blk ?_
        | (refine TC_cond rfl rfl (fun hq => ?_) (fun hq => ?_) <;> (try simp only [qs] at hq) <;> (try simp only [reduceCtorEq] at hq) <;> (try (exfalso; omega)) <;> (try contradiction))
      refine TQ_roundP (k + 1, x) ⟨hlt, hno rfl⟩ (by show ps.length - (k + 1) < mm; omega) ⟨rfl, rfl, rfl, rfl, rfl, trivial⟩ fun w h => h
    | true =>
      have hyy := hyes rfl
      repeat' first
        | refine TC_seq ?_
        | refine TQ_then ?_
        | (refine TC_plain (id := 2) (by kernel_rfl) ?_; refine TR_pv0 (PV_lss rfl rfl) rfl ?_; refine TR_nil ?_)
        | (refine TC_plain (id := 3) (by kernel_rfl) ?_; refine TR_pv0 (PV_indexAddr rfl rfl (by omega)) rfl ?_; refine TR_loadM0 rfl m3 0 rfl v3' rfl ?_; refine TR_pv0 PV_assign rfl ?_; refine TR_nil ?_)
        | (refine TC_plain (id := 4) (by kernel_rfl) ?_; all_goals refine TR_loadM0 rfl m4 0 rfl rfl rfl ?_; all_goals refine TR_pv0 PV_move rfl ?_; all_goals (refine TR_call0 (hy) rfl rfl (.cons .here .nil) rfl ?_; rintro _ _ ⟨rfl, rfl⟩); all_goals refine TR_pv0 PV_move rfl ?_; all_goals refine TR_pv0 PV_move rfl ?_; all_goals refine TR_pv0 PV_move rfl ?_; all_goals (refine TR_yield hyy rfl rfl (.cons .here .nil) rfl ?_; rintro _ _ ⟨rfl, x', hx', rfl⟩); all_goals refine TR_pv0 (PV_not rfl) rfl ?_; all_goals refine TR_pv0 (PV_pick_t rfl) rfl ?_; all_goals refine TR_nil ?_)
        | (refine TC_plain (id := 5) (by kernel_rfl) ?_; refine TR_pv0 (PV_add64 rfl rfl (by omega)) rfl ?_; refine TR_pv0 PV_move rfl ?_; refine TR_nil ?_)
        | refine TC_cond_f rfl rfl ?_
        | refine TC_skip ?_
        | refine TC_block ?_
        | refine TQ_blk ?_
        | (refine TC_cond rfl rfl (fun hq => ?_) (fun hq => ?_) <;> (try simp only [qs] at hq) <;> (try simp only [reduceCtorEq] at hq) <;> (try (exfalso; omega)) <;> (try contradiction))
      refine TQ_roundP (k + 1, x') ⟨hlt, hx'⟩ (by show ps.length - (k + 1) < mm; omega) ⟨rfl, rfl, rfl, rfl, rfl, trivial⟩ fun w h => h
  · obtain rfl : k = ps.length := by omega
    repeat' first
      | refine TC_seq ?_
      | refine TQ_then ?_
      | (refine TC_plain (id := 2) (by kernel_rfl) ?_; refine TR_pv0 (PV_lss rfl rfl) rfl ?_; refine TR_nil ?_)
      | refine TC_exit ?_
      | refine TQ_then_exit ?_
      | refine TQ_blk_here ?_
      | (refine TC_cond rfl rfl (fun hq => ?_) (fun hq => ?_) <;> (try simp only [qs] at hq) <;> (try simp only [reduceCtorEq] at hq) <;> (try (exfalso; omega)) <;> (try contradiction))
    exact TQ_end0e rfl ⟨rfl, x, hx, rfl⟩ (fun a => by simp only [les]; omega)
end Go.Proofs.Ytonfkkdahlboiaa
