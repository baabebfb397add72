/- does: add, get, acknowledge. -/
import Derived.Test.YtonfkkdahlboiaaFDoes
namespace Go.Proofs.Ytonfkkdahlboiaa
open Go.RowKit
set_option maxHeartbeats 4000000
set_option maxRecDepth 10000

section
variable {P : Program} {ops : Array Oper} {Q : Exit → Act → World → Prop} {n : Nat} {ds : List Deferred} {w₀ : World} {LS L R : List Seg} {σ : Sig} {rest : List (Oper × Nat)}
variable {d ty : Nat} {p : String} {af : Array Edge} {g : Option (Nat × Bool)} {x y : Operand} {t : Nat}
/-- An append to what is empty. -/
theorem TR_append00 {e sz bytes : Nat} {z : List Value} [TApp P t e sz bytes z] {a xa : Option Addr} {cap m xc f : Nat} {C : Seg} {news : List Value} (hf : f = 0 ∨ f = 2 ∧ ∀ w, St w₀ w R → St w₀ w LS)
    (hS : Sl e sz a 0 cap C []) (hx : ev σ x = .slice a 0 cap) (hy : ev σ y = .slice xa m xc) (hp : Pulls [C] L R) (hsrc : ∀ w, sat w L → SrcAt w xa news) (hl : news.length = m * sz) (h1 : news.all one = true)
    (hm : m * (bytes + 1) ≤ 140737488355328) (hw : wantS ops σ ⟨some d, .call ⟨.builtin .append, #[x, y], #[t, t]⟩, ty, p, af, g⟩ = true)
    (kk : ∀ a' cap' C', Sl e sz a' m cap' C' news → TR P ops Q n ds w₀ LS rest (C' :: R) (upd σ d (.slice a' m cap'))) :
    TR P ops Q n ds w₀ LS ((⟨some d, .call ⟨.builtin .append, #[x, y], #[t, t]⟩, ty, p, af, g⟩, f) :: rest) L σ :=
  TR_appendP hf hS hx hy hp hsrc hl h1 (by rw [Nat.zero_add]; exact hm) hw fun a' cap' C' h => by
    rw [Nat.zero_add] at h ⊢
    exact kk a' cap' C' h
end
theorem empty_ok (T sz q : Nat) : Sl T sz (some ⟨q, 0, none⟩) 0 0 (blk q T []) [] := .row (by rw [Nat.zero_mul]; rfl) (Nat.le_refl _) (by unfold maxLen; omega) (by simp) (by simp)
theorem flat_u8 : ∀ l : List Int, (l.map fun x => [Value.int .u8 x]).flatten = u8s l
  | [] => rfl
  | x :: l => by rw [List.map_cons, List.flatten_cons, flat_u8 l]; rfl
theorem u8s_all (l : List Int) : (u8s l).all one = true := by
  rw [List.all_eq_true]; intro v hv; obtain ⟨x, _, rfl⟩ := List.mem_map.1 hv; rfl
theorem gcells_all (l : List (Int × Int)) : (gcells l).all one = true := by
  rw [List.all_eq_true]; intro v hv
  obtain ⟨x, hx, hv⟩ := List.mem_flatten.1 hv
  obtain ⟨g, _, rfl⟩ := List.mem_map.1 hx
  rcases List.mem_cons.1 hv with rfl | hv
  · rfl
  · obtain rfl := List.mem_singleton.1 hv; rfl
theorem gcells_length : ∀ l : List (Int × Int), (gcells l).length = l.length * 2
  | [] => rfl
  | x :: l => by
    have := gcells_length l
    simp only [gcells, List.map_cons, List.flatten_cons, List.length_append, List.length_cons, List.length_nil] at this ⊢
    rw [this]; omega
theorem Sl.touch {T : Nat} {b off n cap : Nat} {cells cs : List Value} (h : Sl T 1 (some ⟨b, off, none⟩) n cap [(b, .cells cells.toArray T (0, 0))] cs) (hl : off + cap * 1 ≤ cells.length) (j : Nat) (v : Value) :
    Sl T 1 (some ⟨b, off, none⟩) n cap [(b, .cells (cells.set j v).toArray T (0, 0))] (((cells.set j v).drop off).take (n * 1)) := by
  obtain ⟨h1, h2⟩ := h.cap
  exact .row (by rw [List.length_take, List.length_drop, List.length_set]; omega) h1 h2 (by rw [List.length_set]; exact hl) rfl

theorem cp_ans0 (A : Ans) (w : Row) : setAll zAns 0 (A.cells w) = A.cells w := setAll_row _ [] _ rfl

theorem addAny_ct (b : Nat) (X : FL) (h : FlOk X) (d : Pc) (a : Option Addr) (cap : Nat) (path now id : Int) (S : Seg) (hS : Sl 5 1 a d.bytes.length cap S (u8s d.bytes)) (hd : d.bytes.length ≤ 1048576) :
    Ct Try.prog 11 [ptr b, .agg (d.cells (.slice a d.bytes.length cap)).toArray, i64 path, i64 now, i64 id] [X.seg b, S]
      (fun v D => v = .tuple #[u32 (X.abs.addT d path), i64 (X.abs.addE d path)] ∧ ∃ X', D = [X'.seg b, S] ∧ FlOk X' ∧ X'.abs = X.abs.add d path now id) := by
  by_cases he : X.abs.addE d path = 0
  · rw [Flt.addT, if_pos he, he]
    exact addF_yes b X h d a cap path now id S (fun w hw => .sl hS fun c hc => sat_mem hw (.head _) hc) hd he
  · rw [Flt.addT, if_neg he]
    refine Ct.post (Cd.within (E := [S]) (D := [X.seg b, S]) (addF_no b X h d a cap path now id (by omega) he) (fun a => by simp only [les]; omega) (fun a => by simp only [les]; omega)) fun v D ⟨h1, h2⟩ => ⟨D, ⟨h1, X, h2, h, ?_⟩, fun _ _ hs => hs⟩
    rw [Flt.add, if_neg he]
theorem does_add (H : Seg) (b : Nat) (X : FL) (h : FlOk X) (o : LOp) (ho : o.ok H) (hb : o.d.bytes.length ≤ 65536) (hk : o.kind = 0) (cum : Int) :
    Ct Try.prog 22 [ptr b, .agg o.cells.toArray, u32 cum] [X.seg b, H] (DoPost H b (X.abs.add o.d o.path o.now o.id) { ans0 with n := X.abs.addT o.d o.path, e := X.abs.addE o.d o.path }) := by
  have hsrc : ∀ (L : List Seg) (i : Nat), L[i]? = some H → ∀ w, sat w L → SrcAt w o.ba (u8s o.d.bytes) := fun L i hm => by
    have := src_slice ho.b (by omega) (fun x hx => by obtain ⟨y, _, rfl⟩ := List.mem_map.1 hx; rfl) i hm
    rwa [flat_u8] at this
  have hnx : 0 ≤ X.abs.next ∧ X.abs.next < 4294967296 := by unfold Flt.next; omega
  refine Ct_intro Try.func22 rfl (by simp only [Try.ntmps22, List.length_cons, List.length_nil]; omega) ?_
  intro w₀ R
  repeat' first
    | refine TC_seq ?_
    | refine TQ_then ?_
    | (refine TC_plain (id := 0) (by kernel_rfl) ?_; (refine TR_box0 rfl rfl rfl ?_; intro xb); (refine TR_alloc0 rfl ?_; intro rb); refine TR_nil ?_)
    | (refine TC_plain (id := 1) (by kernel_rfl) ?_; (refine TR_alloc0 rfl ?_; intro zb); refine TR_nil ?_)
    | (refine TC_plain (id := 2) (by kernel_rfl) ?_; refine TR_pv0 (PV_fieldAddr rfl) rfl ?_; refine TR_load0 rfl 2 rfl rfl rfl ?_; refine TR_nil ?_)
    | (refine TC_plain (id := 3) (by kernel_rfl) ?_; refine TR_pv0 (PV_eql rfl rfl) rfl ?_; refine TR_pv0 PV_assign rfl ?_; refine TR_nil ?_)
    | (refine TC_plain (id := 4) (by kernel_rfl) ?_; refine TR_pv0 (PV_fieldAddr rfl) rfl ?_; refine TR_loadA0 rfl 2 rfl rfl rfl ?_; (refine TR_alloc0 rfl ?_; intro db); refine TR_storeA0_0 rfl rfl rfl rfl rfl rfl ?_; refine TR_nil ?_)
    | (refine TC_plain (id := 5) (by kernel_rfl) ?_; (refine TR_buildSlice (.inl rfl) rfl rfl rfl rfl ?_; intro q); refine TR_pv0 (PV_fieldAddr rfl) rfl ?_; refine TR_pv0 (PV_fieldAddr rfl) rfl ?_; refine TR_load0 rfl 4 rfl rfl rfl ?_; (refine TR_append00 (.inl rfl) (empty_ok _ _ _) rfl rfl (.cons .here .nil) (hsrc _ 6 rfl) (by rw [u8s_length, Nat.mul_one]) (u8s_all _) (by omega) rfl ?_; intro a' cap' C' hS); refine TR_pv0 (PV_fieldAddr rfl) rfl ?_; refine TR_store0_1 rfl rfl rfl rfl rfl rfl ?_; refine TR_nil ?_)
    | refine TC_block ?_
    | (refine TC_cond rfl rfl (fun hq => ?_) (fun hq => ?_) <;> (try simp only [qs] at hq) <;> (try simp only [reduceCtorEq] at hq) <;> (try (exfalso; omega)) <;> (try contradiction))
  refine TC_slots [(0, ptr b), (2, u32 cum), (4, ptr xb), (6, ptr rb), (7, ptr zb), (8, ptr db)] ⟨rfl, rfl, rfl, rfl, rfl, rfl, trivial⟩ fun σ' => ?_
  refine TC_le (L' := C' :: dbk db (o.d.cells (.slice a' o.d.bytes.length cap')) :: asbk rb zAns :: opbk xb o :: X.seg b :: H :: R) (Le.trans (M := C' :: dbk db (o.d.cells (.slice a' o.d.bytes.length cap')) :: asbk zb zAns :: asbk rb zAns :: opbk xb o :: X.seg b :: H :: R) (Le.refl _) (fun a => by simp only [les]; omega)) ?_
  have hadd := addAny_ct b X h o.d a' cap' o.path o.now o.id C' hS (by omega)
  repeat' first
    | refine TC_seq ?_
    | refine TQ_then ?_
    | (refine TC_plain (id := 6) (by kernel_rfl) ?_; refine TR_pv0 PV_move rfl ?_; refine TR_loadA0 rfl 1 rfl rfl rfl ?_; refine TR_pv0 (PV_fieldAddr rfl) rfl ?_; refine TR_load0 rfl 3 rfl rfl rfl ?_; refine TR_pv0 (PV_fieldAddr rfl) rfl ?_; refine TR_load0 rfl 3 rfl rfl rfl ?_; refine TR_pv0 (PV_fieldAddr rfl) rfl ?_; refine TR_load0 rfl 3 rfl rfl rfl ?_; (refine TR_call0 (hadd) rfl rfl (.cons (.there (.there (.there (.there .here)))) (.cons .here .nil)) rfl ?_; rintro _ _ ⟨rfl, X', rfl, hX', hA'⟩); refine TR_pv0 PV_move rfl ?_; refine TR_pv0 (PV_extract rfl rfl) rfl ?_; refine TR_pv0 (PV_extract rfl rfl) rfl ?_; refine TR_pv0 PV_assign rfl ?_; refine TR_pv0 PV_assign rfl ?_; refine TR_nil ?_)
    | (refine TC_plain (id := 7) (by kernel_rfl) ?_; refine TR_pv0 PV_assign rfl ?_; refine TR_nil ?_)
    | refine TC_block ?_
  refine TC_loopP (X := Nat × Seg) (fun s => s.2 :: X'.seg b :: dbk db (o.d.cells (.slice a' o.d.bytes.length cap')) :: asbk rb zAns :: opbk xb o :: H :: R)
    (fun s => [(6, ptr rb), (8, ptr db), (9, u32 (X.abs.addT o.d o.path)), (10, i64 (X.abs.addE o.d o.path)), (11, i64 s.1)]) (fun s => s.1 ≤ o.d.bytes.length ∧ ∃ cs, Sl 5 1 a' o.d.bytes.length cap' s.2 cs) (fun s => o.d.bytes.length - s.1) (0, C')
    ⟨Nat.zero_le _, _, hS⟩ ⟨rfl, rfl, rfl, rfl, rfl, trivial⟩ (fun w hs => hs.le (fun a => by simp only [les]; omega)) ?_
  rintro ⟨i, C2⟩ σg mm hmm ⟨hi, cs2, hS2⟩
  dsimp only at hmm hi hS2 ⊢
  by_cases hlt : i < o.d.bytes.length
  · obtain ⟨qb, off, cells, rfl, rfl, hl, ht⟩ := hS2.opened (by omega)
    obtain ⟨h1, h2⟩ := hS2.cap
    have hble : Nat.blt (off + (i : Int).toNat * 1) cells.length = true := by rw [Int.toNat_natCast]; exact Nat.ble_eq_true_of_le (by omega)
    repeat' first
      | refine TC_seq ?_
      | refine TQ_then ?_
      | (refine TC_plain (id := 8) (by kernel_rfl) ?_; refine TR_pv0 PV_move rfl ?_; refine TR_pv0 (PV_fieldAddr rfl) rfl ?_; refine TR_load0 rfl 2 rfl rfl rfl ?_; refine TR_pv0 (PV_len rfl) rfl ?_; refine TR_pv0 (PV_lss rfl rfl) rfl ?_; refine TR_nil ?_)
      | (refine TC_plain (id := 10) (by kernel_rfl) ?_; refine TR_pv0 (PV_fieldAddr rfl) rfl ?_; refine TR_load0 rfl 2 rfl rfl rfl ?_; refine TR_pv0 PV_move rfl ?_; refine TR_pv0 (PV_indexAddr rfl rfl (by omega)) rfl ?_; refine TR_store0_0 rfl rfl rfl rfl hble rfl ?_; refine TR_nil ?_)
      | (refine TC_plain (id := 9) (by kernel_rfl) ?_; refine TR_pv0 PV_move rfl ?_; refine TR_pv0 (PV_add64 rfl rfl (by omega)) rfl ?_; refine TR_pv0 PV_assign rfl ?_; refine TR_nil ?_)
      | refine TC_skip ?_
      | refine TC_block ?_
      | refine TQ_blk ?_
      | (refine TC_cond rfl rfl (fun hq => ?_) (fun hq => ?_) <;> (try simp only [qs] at hq) <;> (try simp only [reduceCtorEq] at hq) <;> (try (exfalso; omega)) <;> (try contradiction))
    exact TQ_roundP (i + 1, _) ⟨hlt, _, hS2.touch hl _ _⟩ (by show o.d.bytes.length - (i + 1) < mm; omega) ⟨rfl, rfl, rfl, rfl, rfl, trivial⟩ (fun w hs => hs)
  · have hT : 0 ≤ X.abs.addT o.d o.path ∧ X.abs.addT o.d o.path < 4294967296 := by unfold Flt.addT; split <;> omega
    repeat' first
      | refine TC_seq ?_
      | refine TQ_then ?_
      | (refine TC_plain (id := 8) (by kernel_rfl) ?_; refine TR_pv0 PV_move rfl ?_; refine TR_pv0 (PV_fieldAddr rfl) rfl ?_; refine TR_load0 rfl 2 rfl rfl rfl ?_; refine TR_pv0 (PV_len rfl) rfl ?_; refine TR_pv0 (PV_lss rfl rfl) rfl ?_; refine TR_nil ?_)
      | (refine TC_plain (id := 11) (by kernel_rfl) ?_; refine TR_pv0 PV_move rfl ?_; refine TR_pv0 (PV_conv64 rfl (by omega)) rfl ?_; refine TR_pv0 PV_move rfl ?_; refine TR_pv0 (PV_build rfl rfl) rfl ?_; refine TR_storeA0_3 rfl rfl rfl rfl rfl rfl ?_; refine TR_nil ?_)
      | refine TC_ret ?_
      | refine TC_exit ?_
      | refine TQ_then_ret ?_
      | refine TQ_then_exit ?_
      | refine TQ_blk_ret ?_
      | refine TQ_blk_here ?_
      | (refine TC_cond rfl rfl (fun hq => ?_) (fun hq => ?_) <;> (try simp only [qs] at hq) <;> (try simp only [reduceCtorEq] at hq) <;> (try (exfalso; omega)) <;> (try contradiction))
    refine TQ_le (L' := C2 :: X'.seg b :: dbk db (o.d.cells (.slice a' o.d.bytes.length cap')) :: asbk rb (setAll zAns 0 (Ans.cells { ans0 with n := X.abs.addT o.d o.path, e := X.abs.addE o.d o.path } nilRow)) :: opbk xb o :: H :: R) (Le.refl _) ?_
    rw [cp_ans0]
    exact TQ_retCe (cs := Ans.cells { ans0 with n := X.abs.addT o.d o.path, e := X.abs.addE o.d o.path } nilRow) (C' := [nilRow.C, X'.seg b, H]) rfl rfl rfl 3 rfl rfl ⟨nilRow, X', rfl, rfl, hX', hA', .nil⟩ (fun a => by simp only [les, nilRow]; omega)
end Go.Proofs.Ytonfkkdahlboiaa
