/- does: get, acknowledge; all of it. -/
import Derived.Test.YtonfkkdahlboiaaFDoesB
import Derived.Test.YtonfkkdahlboiaaLibM
namespace Go.Proofs.Ytonfkkdahlboiaa
open Go.RowKit
set_option maxHeartbeats 4000000
set_option maxRecDepth 10000

section
variable {P : Program} {ops : Array Oper} {Q : Exit → Act → World → Prop} {n : Nat} {ds : List Deferred} {w₀ : World} {LS L : List Seg} {σ : Sig} {rest : List (Oper × Nat)}
variable {ty : Nat} {p : String} {af : Array Edge} {g : Option (Nat × Bool)} {x y : Operand} {t : Nat}
theorem TR_unit2 {o : Oper} {L' : List Seg} (hw : wantS ops σ o = true) (h : ∀ w, St w₀ w L → ∃ w', (execOp (ev σ) o).run P w = .ok .skip w' ∧ St w₀ w' L') (hK : ∀ w, St w₀ w L' → St w₀ w LS)
    (k : TR P ops Q n ds w₀ LS rest L' (updO σ o.dst undef)) : TR P ops Q n ds w₀ LS ((o, 2) :: rest) L σ := ⟨fun w hs => by
  obtain ⟨w', h1, h2⟩ := h w hs
  simp only [wpSeq, hw, if_true, h1, uponS]
  exact ⟨fun _ => hK w' h2, fun h => by simp at h, k.out w' h2⟩⟩
/-- A store to a block that nothing else looks at. -/
theorem TR_storeA2 {s : Nat} [i : TAgg P t s] {b off T : Nat} {cs vs : List Value} {L' : List Seg} (hx : ev σ x = .pointer (some ⟨b, off, none⟩)) (hy : ev σ y = .agg vs.toArray) (hv1 : (vs.all one && Nat.beq vs.length s) = true)
    (hr : Repl [(b, .cells cs.toArray T (0, 0))] [(b, .cells (setAll cs off vs).toArray T (0, 0))] L L') (hl : Nat.ble (off + vs.length) cs.length = true) (hw : wantS ops σ ⟨none, .store t x y, ty, p, af, g⟩ = true) (hK : ∀ w, St w₀ w L' → St w₀ w LS)
    (k : TR P ops Q n ds w₀ LS rest L' σ) : TR P ops Q n ds w₀ LS ((⟨none, .store t x y, ty, p, af, g⟩, 2) :: rest) L σ := by
  simp only [Bool.and_eq_true, Nat.beq_eq] at hv1
  refine TR_unit2 hw (fun w hs => ?_) hK k
  obtain ⟨R, e1, e2⟩ := hr.rest
  obtain ⟨w', h3, h4⟩ := storeCells_St (P := P) (w₀ := w₀) vs 0 off cs w hv1.1 (by have := Nat.le_of_ble_eq_true hl; omega) (hs.perm e1)
  exact ⟨w', by simp [execOp, hx, hy, Instr.storeAt, Instr.sureAddr, storeVar, sizeOf_run i.s, Value.cells, hv1.2, h3], h4.perm e2.symm⟩
end

section
variable {P : Program} {ro : Option Nat} {n : Nat} {ds : List Deferred} {w₀ : World} {Q : Exit → Act → World → Prop} {L : List Seg} {σ : Sig}
/-- Where the ways through a code meet: what follows it is walked once. -/
theorem TC_cutQ {X : Type} {c y : Code} (Lx : X → List Seg) (sx : X → List (Nat × Value)) (Pre : X → Prop)
    (h : TC P ro n ds w₀ c (Exit.then (fun a w => ∃ x' σ', Pre x' ∧ a = fr n (slots (sx x') σ') ds ∧ St w₀ w (Lx x')) Q) L σ)
    (k : ∀ x' σg, Pre x' → TC P ro n ds w₀ y Q (Lx x') (slots (sx x') σg)) : TC P ro n ds w₀ c (Exit.then (y.wpIn (wide ro) 0 P Q) Q) L σ :=
  ⟨fun w hw => wpIn_mono (h.out w hw) fun e a w' h => by
    cases e with
    | normal =>
      obtain ⟨x', σ', h1, rfl, h3⟩ := h
      exact (k x' σ' h1).out w' h3
    | _ => exact h⟩
end

def Flt.getA (F : Flt) (tsn : Int) : Ans := match F.get tsn with | none => ans0 | some r => { ans0 with d := r.d, n := r.path, is := true }
theorem getAny_ct (b : Nat) (X : FL) (h : FlOk X) (tsn : Int) : Ct Try.prog 18 [ptr b, u32 tsn] [X.seg b]
    (fun v D => ∃ w : Row, v = .tuple #[.agg ((X.abs.getA tsn).d.at_ w).toArray, i64 (X.abs.getA tsn).n, .bool (X.abs.getA tsn).is] ∧ D = [w.C, X.seg b] ∧ w.ok 5 1 (X.abs.getA tsn).d.bytes.length (u8s (X.abs.getA tsn).d.bytes)) := by
  cases hi : X.abs.idx tsn with
  | none =>
    have e : X.abs.getA tsn = ans0 := by rw [Flt.getA, Flt.get, hi]; rfl
    rw [e]
    exact Ct.post (getF_ct_none b X h tsn hi) fun v D ⟨h1, h2⟩ => ⟨[[], X.seg b], ⟨nilRow, h1, rfl, .nil⟩, fun w R hs => sat_le hs (by subst h2; exact (fun a => by simp only [les]; omega))⟩
  | some k =>
    have hk := (idx_some hi).2
    have hk' : k < X.l.length := by simpa [FL.abs, recs_length] using hk
    have hx := List.getElem?_eq_getElem hk'
    have e : X.abs.getA tsn = { ans0 with d := X.l[k].r.d, n := X.l[k].r.path, is := true } := by
      rw [Flt.getA, get_of_idx hi]
      show (match X.recs[k]? with | none => ans0 | some r => _) = _
      rw [FL.recs, List.getElem?_map, hx]; rfl
    rw [e]
    exact getF_ct_some b X h tsn hi hx
theorem getA_len {X : FL} (h : FlOk X) (tsn : Int) : (X.abs.getA tsn).d.bytes.length ≤ 1048576 := by
  cases hg : X.abs.get tsn with
  | none => rw [Flt.getA, hg]; exact Nat.zero_le _
  | some r =>
    rw [Flt.getA, hg]
    cases hi : X.abs.idx tsn with
    | none => rw [Flt.get, hi] at hg; cases hg
    | some k =>
      rw [get_of_idx hi] at hg
      have hr : X.recs[k]? = some r := hg
      rw [FL.recs, List.getElem?_map] at hr
      obtain ⟨x, hx, rfl⟩ := Option.map_eq_some_iff.1 hr
      exact (h.recs x (List.mem_of_getElem? hx)).2.b1

theorem getA_form (F : Flt) (tsn : Int) : ∃ d n is, F.getA tsn = { ans0 with d := d, n := n, is := is } := by
  rw [Flt.getA]
  cases F.get tsn with
  | none => exact ⟨_, _, _, rfl⟩
  | some r => exact ⟨_, _, _, rfl⟩
theorem does_get (H : Seg) (b : Nat) (X : FL) (h : FlOk X) (o : LOp) (hk : o.kind = 2) (cum : Int) :
    Ct Try.prog 22 [ptr b, .agg o.cells.toArray, u32 cum] [X.seg b, H] (DoPost H b X.abs (X.abs.getA (doTsn o cum))) := by
  have hget := getAny_ct b X h (doTsn o cum)
  have hlen := getA_len h (doTsn o cum)
  obtain ⟨d, n, is, e⟩ := getA_form X.abs (doTsn o cum)
  rw [e] at hget hlen ⊢
  replace hlen : d.bytes.length ≤ 1048576 := hlen
  refine Ct_intro Try.func22 rfl (by simp only [Try.ntmps22, List.length_cons, List.length_nil]; omega) ?_
  intro w₀ R
  repeat' first
    | refine TC_seq ?_
    | refine TQ_then ?_
    | (refine TC_plain (id := 0) (by kernel_rfl) ?_; (refine TR_box0 rfl rfl rfl ?_; intro xb); (refine TR_alloc0 rfl ?_; intro rb); refine TR_nil ?_)
    | (refine TC_plain (id := 1) (by kernel_rfl) ?_; (refine TR_alloc0 rfl ?_; intro zb); refine TR_nil ?_)
    | (refine TC_plain (id := 2) (by kernel_rfl) ?_; refine TR_pv0 (PV_fieldAddr rfl) rfl ?_; refine TR_load0 rfl 2 rfl rfl rfl ?_; refine TR_nil ?_)
    | (refine TC_plain (id := 3) (by kernel_rfl) ?_; refine TR_pv0 (PV_eql rfl rfl) rfl ?_; refine TR_pv0 PV_assign rfl ?_; refine TR_nil ?_)
    | (refine TC_plain (id := 12) (by kernel_rfl) ?_; refine TR_pv0 (PV_eql rfl rfl) rfl ?_; refine TR_pv0 PV_assign rfl ?_; refine TR_nil ?_)
    | (refine TC_plain (id := 14) (by kernel_rfl) ?_; refine TR_pv0 (PV_eql rfl rfl) rfl ?_; refine TR_pv0 PV_assign rfl ?_; refine TR_nil ?_)
    | (refine TC_plain (id := 15) (by kernel_rfl) ?_; refine TR_pv0 PV_move rfl ?_; refine TR_pv0 PV_move rfl ?_; refine TR_pv0 (PV_fieldAddr rfl) rfl ?_; refine TR_load0 rfl 2 rfl rfl rfl ?_; refine TR_pv0 (PV_add32 rfl rfl) rfl ?_; (refine TR_call0 (hget) rfl rfl (.cons (.there (.there (.there .here))) .nil) rfl ?_; rintro _ _ ⟨w, rfl, rfl, hw⟩); refine TR_pv0 PV_move rfl ?_; refine TR_pv0 (PV_extract rfl rfl) rfl ?_; refine TR_pv0 (PV_extract rfl rfl) rfl ?_; refine TR_pv0 (PV_extract rfl rfl) rfl ?_; (refine TR_alloc0 rfl ?_; intro db); refine TR_storeA0_0 rfl rfl rfl rfl rfl rfl ?_; refine TR_pv0 PV_assign rfl ?_; refine TR_pv0 PV_assign rfl ?_; refine TR_nil ?_)
    | refine TC_block ?_
    | (refine TC_cond rfl rfl (fun hq => ?_) (fun hq => ?_) <;> (try simp only [qs] at hq) <;> (try simp only [reduceCtorEq] at hq) <;> (try (exfalso; omega)) <;> (try contradiction))
  replace hw : w.ok 5 1 d.bytes.length (u8s d.bytes) := hw
  refine TC_slots [(6, ptr rb), (7, ptr zb), (12, ptr db), (13, i64 n), (14, .bool is)] ⟨rfl, rfl, rfl, rfl, rfl, trivial⟩ fun σ' => ?_
  refine TC_le (L' := dbk db (d.at_ w) :: asbk zb zAns :: w.C :: asbk rb zAns :: opbk xb o :: X.seg b :: H :: R) (Le.trans (M := dbk db (d.at_ w) :: w.C :: X.seg b :: asbk zb zAns :: asbk rb zAns :: opbk xb o :: H :: R) (Le.refl _) (fun a => by simp only [les]; omega)) ?_
  repeat' first
    | refine TC_seq ?_
    | refine TQ_then ?_
    | (refine TC_plain (id := 16) (by kernel_rfl) ?_; refine TR_loadA0 rfl 0 rfl rfl rfl ?_; refine TR_pv0 PV_move rfl ?_; refine TR_pv0 PV_move rfl ?_; refine TR_pv0 (PV_build rfl rfl) rfl ?_; refine TR_storeA0_1 rfl rfl rfl rfl rfl rfl ?_; refine TR_nil ?_)
  refine TC_le (L' := dbk db (d.at_ w) :: asbk zb (setAll zAns 0 (Ans.cells { ans0 with d := d, n := n, is := is } w)) :: w.C :: asbk rb zAns :: opbk xb o :: X.seg b :: H :: R) (Le.refl _) ?_
  rw [cp_ans0]
  repeat' first
    | refine TC_seq ?_
    | refine TQ_then ?_
    | (refine TC_plain (id := 17) (by kernel_rfl) ?_; (refine TR_buildSlice (.inl rfl) rfl rfl rfl rfl ?_; intro q); refine TR_pv0 (PV_fieldAddr rfl) rfl ?_; refine TR_load0 rfl 1 rfl rfl rfl ?_; (refine TR_append00 (.inl rfl) (empty_ok _ _ _) rfl rfl (.cons .here .nil) (src_sl hw 3 rfl) (by rw [u8s_length, Nat.mul_one]) (u8s_all _) (by omega) rfl ?_; intro a' cap' C' hS); refine TR_pv0 (PV_fieldAddr rfl) rfl ?_; refine TR_pv0 (PV_fieldAddr rfl) rfl ?_; refine TR_store0_2 rfl rfl rfl rfl rfl rfl ?_; refine TR_nil ?_)
    | (refine TC_plain (id := 18) (by kernel_rfl) ?_; refine TR_pv0 PV_assign rfl ?_; refine TR_nil ?_)
    | refine TC_block ?_
  refine TC_slots [(6, ptr rb), (7, ptr zb), (12, ptr db), (15, i64 0)] ⟨rfl, rfl, rfl, rfl, trivial⟩ fun σ' => ?_
  refine TC_loopP (X := Nat × Seg) (fun s => s.2 :: dbk db (d.at_ w) :: asbk zb (Ans.cells { ans0 with d := d, n := n, is := is } ⟨a', cap', C'⟩) :: asbk rb zAns :: C' :: opbk xb o :: X.seg b :: H :: R)
    (fun s => [(6, ptr rb), (7, ptr zb), (12, ptr db), (15, i64 s.1)]) (fun s => s.1 ≤ d.bytes.length ∧ ∃ cs, Sl 5 1 w.a d.bytes.length w.cap s.2 cs) (fun s => d.bytes.length - s.1) (0, w.C)
    ⟨Nat.zero_le _, _, hw⟩ ⟨rfl, rfl, rfl, rfl, trivial⟩ (fun w' hs => ?_) ?_
  · have hs2 : St w₀ w' (C' :: dbk db (d.at_ w) :: asbk zb (Ans.cells { ans0 with d := d, n := n, is := is } ⟨a', cap', C'⟩) :: w.C :: asbk rb zAns :: opbk xb o :: X.seg b :: H :: R) := hs
    exact hs2.le (fun a => by simp only [les]; omega)
  rintro ⟨i, C2⟩ σg mm hmm ⟨hi, cs2, hS2⟩
  dsimp only at hmm hi hS2 ⊢
  by_cases hlt : i < d.bytes.length
  · obtain ⟨qb, off, cells, ha2, rfl, hl, ht⟩ := hS2.opened (by omega)
    obtain ⟨h1, h2⟩ := hS2.cap
    have hsl : Value.slice w.a d.bytes.length w.cap = .slice (some ⟨qb, off, none⟩) d.bytes.length w.cap := by rw [ha2]
    rw [ha2] at hS2
    have hble : Nat.blt (off + (i : Int).toNat * 1) cells.length = true := by rw [Int.toNat_natCast]; exact Nat.ble_eq_true_of_le (by omega)
    repeat' first
      | refine TC_seq ?_
      | refine TQ_then ?_
      | (refine TC_plain (id := 19) (by kernel_rfl) ?_; refine TR_pv0 PV_move rfl ?_; refine TR_pv0 (PV_fieldAddr rfl) rfl ?_; refine TR_load0 rfl 1 rfl rfl rfl ?_; refine TR_pv0 (PV_len rfl) rfl ?_; refine TR_pv0 (PV_lss rfl rfl) rfl ?_; refine TR_nil ?_)
      | (refine TC_plain (id := 21) (by kernel_rfl) ?_; refine TR_pv0 (PV_fieldAddr rfl) rfl ?_; refine TR_load0 rfl 1 rfl rfl rfl ?_; refine TR_pv0 PV_move rfl ?_; refine TR_pv0 (PV_indexAddr hsl rfl (by omega)) rfl ?_; refine TR_store0_0 rfl rfl rfl rfl hble rfl ?_; refine TR_nil ?_)
      | (refine TC_plain (id := 20) (by kernel_rfl) ?_; refine TR_pv0 PV_move rfl ?_; refine TR_pv0 (PV_add64 rfl rfl (by omega)) rfl ?_; refine TR_pv0 PV_assign rfl ?_; refine TR_nil ?_)
      | refine TC_skip ?_
      | refine TC_block ?_
      | refine TQ_blk ?_
      | (refine TC_cond rfl rfl (fun hq => ?_) (fun hq => ?_) <;> (try simp only [qs] at hq) <;> (try simp only [reduceCtorEq] at hq) <;> (try (exfalso; omega)) <;> (try contradiction))
    exact TQ_roundP (i + 1, _) ⟨hlt, _, by rw [ha2]; exact hS2.touch hl _ _⟩ (by show d.bytes.length - (i + 1) < mm; omega) ⟨rfl, rfl, rfl, rfl, trivial⟩ (fun w hs => hs)
  · repeat' first
    | refine TC_seq ?_
    | refine TQ_then ?_
    | (refine TC_plain (id := 19) (by kernel_rfl) ?_; refine TR_pv0 PV_move rfl ?_; refine TR_pv0 (PV_fieldAddr rfl) rfl ?_; refine TR_load0 rfl 1 rfl rfl rfl ?_; refine TR_pv0 (PV_len rfl) rfl ?_; refine TR_pv0 (PV_lss rfl rfl) rfl ?_; refine TR_nil ?_)
    | (refine TC_plain (id := 29) (by kernel_rfl) ?_; refine TR_loadA0 rfl 2 rfl rfl rfl ?_; refine TR_storeA0_3 rfl rfl rfl rfl rfl rfl ?_; refine TR_nil ?_)
    | refine TC_ret ?_
    | refine TC_exit ?_
    | refine TQ_then_exit ?_
    | refine TQ_blk ?_
    | refine TQ_blk_here ?_
    | (refine TC_cond rfl rfl (fun hq => ?_) (fun hq => ?_) <;> (try simp only [qs] at hq) <;> (try simp only [reduceCtorEq] at hq) <;> (try (exfalso; omega)) <;> (try contradiction))
    refine TQ_le (L' := C2 :: dbk db (d.at_ w) :: asbk zb (Ans.cells { ans0 with d := d, n := n, is := is } ⟨a', cap', C'⟩) :: asbk rb (setAll zAns 0 (((Ans.cells { ans0 with d := d, n := n, is := is } ⟨a', cap', C'⟩).drop 0).take 32)) :: C' :: opbk xb o :: X.seg b :: H :: R) (Le.refl _) ?_
    rw [cp_ans]
    exact TQ_retCe (cs := Ans.cells { ans0 with d := d, n := n, is := is } ⟨a', cap', C'⟩) (C' := [C', X.seg b, H]) rfl rfl rfl 3 rfl rfl ⟨⟨a', cap', C'⟩, X, rfl, rfl, h, rfl, hS⟩ (fun a => by simp only [les]; omega)
theorem cp_told (T : Told) : setAll (toldCells 0 false (fun _ => tp0)) 0 T.cells = T.cells := setAll_row _ [] _ rfl
theorem tk_told (T : Told) : (T.cells.drop 0).take 22 = T.cells := by
  have hl : T.cells.length = 22 := rfl
  rw [List.drop_zero, List.take_of_length_le (by rw [hl]; omega)]
theorem fill_two {pl : List (Nat × Nat)} {z c1 c2 : List Value} {i j o1 s1 o2 s2 : Nat} {v1 v2 : Value} (h1 : pl[i]? = some (o1, s1)) (h2 : pl[j]? = some (o2, s2)) (g1 : (v1.cells.size ≠ s1 || Nat.blt z.length (o1 + v1.cells.size)) = false)
    (e1 : setAll z o1 v1.cells.toList = c1) (g2 : (v2.cells.size ≠ s2 || Nat.blt c1.length (o2 + v2.cells.size)) = false) (e2 : setAll c1 o2 v2.cells.toList = c2) : fillL pl z [(i, v1), (j, v2)] = some c2 := by
  subst e1; subst e2
  rw [fillL, h1]
  dsimp only
  rw [g1]
  simp only [Bool.false_eq_true, if_false]
  rw [fillL, h2]
  dsimp only
  rw [g2]
  simp only [Bool.false_eq_true, if_false]
  rfl
theorem ans_fill (T : Told) (e : Int) : fillL [(0, 7), (7, 1), (8, 1), (9, 1), (10, 22)] zAns [(4, .agg T.cells.toArray), (3, i64 e)] = some (Ans.cells { ans0 with e := e, t := T } nilRow) :=
  fill_two (c1 := zAns.take 10 ++ T.cells) rfl rfl rfl (setAll_row T.cells (zAns.take 10) (toldCells 0 false (fun _ => tp0)) rfl) rfl rfl
theorem does_sackG (H : Seg) (b : Nat) (X : FL) (o : LOp) (ho : o.ok H) (hb : o.gaps.length ≤ 50) (hk : o.kind = 5) (cum : Int) (T : Told) (e : Int) (F : Flt)
    (hsk : ∀ (a' : Option Addr) (cap' : Nat) (C' : Seg), Sl 44 2 a' o.gaps.length cap' C' (gcells o.gaps) →
      Ct Try.prog 14 [ptr b, .agg [u32 (doTsn o cum), u32 0, .slice a' o.gaps.length cap', .slice none 0 0].toArray] [X.seg b, C']
        (fun v D => v = .tuple #[.agg T.cells.toArray, i64 e] ∧ ∃ X', D = [X'.seg b, C'] ∧ FlOk X' ∧ X'.abs = F)) :
    Ct Try.prog 22 [ptr b, .agg o.cells.toArray, u32 cum] [X.seg b, H] (DoPost H b F { ans0 with e := e, t := T }) := by
  have hsrc : ∀ (L : List Seg) (i : Nat), L[i]? = some H → ∀ w, sat w L → SrcAt w o.ga (gcells o.gaps) := fun L i hm =>
    src_slice ho.g (by omega) (fun x hx => by obtain ⟨y, _, rfl⟩ := List.mem_map.1 hx; rfl) i hm
  refine Ct_intro Try.func22 rfl (by simp only [Try.ntmps22, List.length_cons, List.length_nil]; omega) ?_
  intro w₀ R
  repeat' first
    | refine TC_seq ?_
    | refine TQ_then ?_
    | (refine TC_plain (id := 0) (by kernel_rfl) ?_; (refine TR_box0 rfl rfl rfl ?_; intro xb); (refine TR_alloc0 rfl ?_; intro rb); refine TR_nil ?_)
    | (refine TC_plain (id := 1) (by kernel_rfl) ?_; (refine TR_alloc0 rfl ?_; intro zb); refine TR_nil ?_)
    | (refine TC_plain (id := 2) (by kernel_rfl) ?_; refine TR_pv0 (PV_fieldAddr rfl) rfl ?_; refine TR_load0 rfl 2 rfl rfl rfl ?_; refine TR_nil ?_)
    | (refine TC_plain (id := 3) (by kernel_rfl) ?_; refine TR_pv0 (PV_eql rfl rfl) rfl ?_; refine TR_pv0 PV_assign rfl ?_; refine TR_nil ?_)
    | (refine TC_plain (id := 12) (by kernel_rfl) ?_; refine TR_pv0 (PV_eql rfl rfl) rfl ?_; refine TR_pv0 PV_assign rfl ?_; refine TR_nil ?_)
    | (refine TC_plain (id := 14) (by kernel_rfl) ?_; refine TR_pv0 (PV_eql rfl rfl) rfl ?_; refine TR_pv0 PV_assign rfl ?_; refine TR_nil ?_)
    | (refine TC_plain (id := 22) (by kernel_rfl) ?_; refine TR_pv0 (PV_eql rfl rfl) rfl ?_; refine TR_pv0 PV_assign rfl ?_; refine TR_nil ?_)
    | (refine TC_plain (id := 24) (by kernel_rfl) ?_; refine TR_pv0 (PV_eql rfl rfl) rfl ?_; refine TR_pv0 PV_assign rfl ?_; refine TR_nil ?_)
    | (refine TC_plain (id := 26) (by kernel_rfl) ?_; refine TR_pv0 (PV_eql rfl rfl) rfl ?_; refine TR_pv0 PV_assign rfl ?_; refine TR_nil ?_)
    | refine TC_block ?_
    | (refine TC_cond rfl rfl (fun hq => ?_) (fun hq => ?_) <;> (try simp only [qs] at hq) <;> (try simp only [reduceCtorEq] at hq) <;> (try (exfalso; omega)) <;> (try contradiction))
  refine TC_slots [(0, ptr b), (2, u32 cum), (4, ptr xb), (6, ptr rb)] ⟨rfl, rfl, rfl, rfl, trivial⟩ fun σ' => ?_
  refine TC_le (L' := X.seg b :: opbk xb o :: asbk rb zAns :: H :: R) (Le.trans (M := asbk zb zAns :: asbk rb zAns :: opbk xb o :: X.seg b :: H :: R) (Le.refl _) (fun a => by simp only [les]; omega)) ?_
  refine TC_cutQ (X := Nat × FL) (fun s => tblk s.1 T.cells :: s.2.seg b :: opbk xb o :: asbk rb zAns :: H :: R) (fun s => [(6, ptr rb), (16, ptr s.1), (17, i64 e)]) (fun s => FlOk s.2 ∧ s.2.abs = F) ?_ ?_
  · repeat' first
    | refine TQ_noPanic ?_
    | (refine TC_forked (id := 27) (opbk xb o :: asbk rb zAns :: H :: R) (.alt [(0, 1), (1, 1), (2, 1), (3, 1), (4, 1), (6, 1), (7, 1)] 5 2 (.alt [] 8 2 (.alt [(9, 1)] 10 2 (.fin [(11, 1), (12, 1), (13, 1), (14, 2), (15, 2), (16, 1)]) 14 2 (.fin [(10, 2), (11, 1), (12, 1), (13, 1), (15, 2), (16, 1)])) 14 2 (.fin [(8, 2), (9, 1), (10, 2), (11, 1), (12, 1), (13, 1), (15, 2), (16, 1)])) 14 2 (.fin [(5, 2), (8, 2), (9, 1), (10, 2), (11, 1), (12, 1), (13, 1), (15, 2), (16, 1)])) mixed (by kernel_rfl) ?_; refine TT_alt ?_; refine TR_pv1 PV_move rfl (fun _ h => h.sub (.cons _ (.refl _))) ?_; refine TR_pv1 PV_move rfl (fun _ h => h.sub (.cons _ (.refl _))) ?_; refine TR_pv1 (PV_fieldAddr rfl) rfl (fun _ h => h.sub (.cons _ (.refl _))) ?_; refine TR_load1 rfl 0 rfl rfl rfl (fun _ h => h.sub (.cons _ (.refl _))) ?_; refine TR_pv1 (PV_add32 rfl rfl) rfl (fun _ h => h.sub (.cons _ (.refl _))) ?_; refine TR_pv1 (PV_fieldAddr rfl) rfl (fun _ h => h.sub (.cons _ (.refl _))) ?_; refine TR_load1 rfl 0 rfl rfl rfl (fun _ h => h.sub (.cons _ (.refl _))) ?_; refine TR_nil ?_; (refine TQ_alt ?_ ?_ <;> first | ((refine TR_buildSlice (.inr ⟨rfl, (fun _ h => h.sub (.cons _ (.refl _)))⟩) rfl rfl rfl rfl ?_; intro q); refine TR_nil ?_; refine TQ_tree ?_; refine TT_alt ?_; refine TR_nil ?_; (refine TQ_alt ?_ ?_ <;> first | ((refine TR_append00 (.inr ⟨rfl, (fun _ h => h.sub (.cons _ (.refl _)))⟩) (empty_ok _ _ _) rfl rfl (.cons .here .nil) (hsrc _ 4 rfl) (gcells_length _) (gcells_all _) (by omega) rfl ?_; intro a' cap' C' hS); refine TR_nil ?_; refine TQ_tree ?_; refine TT_alt ?_; refine TR_pv1 (PV_build rfl rfl) rfl (fun _ h => h.sub (.cons _ (.cons _ (.refl _)))) ?_; refine TR_nil ?_; (refine TQ_alt ?_ ?_ <;> first | ((refine TR_call2 (hsk a' cap' C' hS) rfl rfl (.cons (.there .here) (.cons .here .nil)) rfl (fun _ _ _ _ hs => hs.sub (List.Sublist.trans (.refl _) (List.sublist_append_right _ _))) ?_; rintro _ _ ⟨rfl, X', rfl, hX', hA'⟩); refine TR_nil ?_; refine TQ_tree ?_; refine TT_fin ?_; refine TR_pv1 PV_move rfl (fun _ h => h.sub (.cons _ (.cons _ (.refl _)))) ?_; refine TR_pv1 (PV_extract rfl rfl) rfl (fun _ h => h.sub (.cons _ (.cons _ (.refl _)))) ?_; refine TR_pv1 (PV_extract rfl rfl) rfl (fun _ h => h.sub (.cons _ (.cons _ (.refl _)))) ?_; (refine TR_allock (fun _ h => h.sub (.cons _ (.cons _ (.refl _)))) rfl ?_; intro tb); refine TR_storeA2 rfl rfl rfl .here rfl rfl (fun _ h => h.sub (.cons _ (.cons _ (.cons _ (.refl _))))) ?_; refine TR_pv1 PV_assign rfl (fun _ h => h.sub (.cons _ (.cons _ (.cons _ (.refl _))))) ?_; refine TR_nil ?_) | ((refine TR_allock (fun _ h => h.sub (.cons _ (.cons _ (.refl _)))) rfl ?_; intro tb); refine TR_nil ?_; refine TQ_tree ?_; refine TT_fin ?_; (refine TR_call2 (hsk a' cap' C' hS) rfl rfl (.cons (.there (.there .here)) (.cons (.there .here) .nil)) rfl (fun _ _ _ _ hs => hs.sub (List.Sublist.trans (.cons _ (.refl _)) (List.sublist_append_right _ _))) ?_; rintro _ _ ⟨rfl, X', rfl, hX', hA'⟩); refine TR_pv1 PV_move rfl (fun _ h => h.sub (.cons _ (.cons _ (.cons _ (.refl _))))) ?_; refine TR_pv1 (PV_extract rfl rfl) rfl (fun _ h => h.sub (.cons _ (.cons _ (.cons _ (.refl _))))) ?_; refine TR_pv1 (PV_extract rfl rfl) rfl (fun _ h => h.sub (.cons _ (.cons _ (.cons _ (.refl _))))) ?_; refine TR_storeA2 rfl rfl rfl (.there (.there (.here))) rfl rfl (fun _ h => h.sub (.cons _ (.cons _ (.cons _ (.refl _))))) ?_; refine TR_pv1 PV_assign rfl (fun _ h => h.sub (.cons _ (.cons _ (.cons _ (.refl _))))) ?_; refine TR_nil ?_))) | ((refine TR_allock (fun _ h => h.sub (.cons _ (.cons _ (.refl _)))) rfl ?_; intro tb); refine TR_nil ?_; refine TQ_tree ?_; refine TT_fin ?_; (refine TR_append00 (.inr ⟨rfl, (fun _ h => h.sub (.cons _ (.cons _ (.refl _))))⟩) (empty_ok _ _ _) rfl rfl (.cons (.there .here) .nil) (hsrc _ 5 rfl) (gcells_length _) (gcells_all _) (by omega) rfl ?_; intro a' cap' C' hS); refine TR_pv1 (PV_build rfl rfl) rfl (fun _ h => h.sub (.cons _ (.cons _ (.cons _ (.refl _))))) ?_; (refine TR_call2 (hsk a' cap' C' hS) rfl rfl (.cons (.there (.there .here)) (.cons .here .nil)) rfl (fun _ _ _ _ hs => hs.sub (List.Sublist.trans (.cons _ (.refl _)) (List.sublist_append_right _ _))) ?_; rintro _ _ ⟨rfl, X', rfl, hX', hA'⟩); refine TR_pv1 PV_move rfl (fun _ h => h.sub (.cons _ (.cons _ (.cons _ (.refl _))))) ?_; refine TR_pv1 (PV_extract rfl rfl) rfl (fun _ h => h.sub (.cons _ (.cons _ (.cons _ (.refl _))))) ?_; refine TR_pv1 (PV_extract rfl rfl) rfl (fun _ h => h.sub (.cons _ (.cons _ (.cons _ (.refl _))))) ?_; refine TR_storeA2 rfl rfl rfl (.there (.there (.here))) rfl rfl (fun _ h => h.sub (.cons _ (.cons _ (.cons _ (.refl _))))) ?_; refine TR_pv1 PV_assign rfl (fun _ h => h.sub (.cons _ (.cons _ (.cons _ (.refl _))))) ?_; refine TR_nil ?_))) | ((refine TR_allock (fun _ h => h.sub (.cons _ (.refl _))) rfl ?_; intro tb); refine TR_nil ?_; refine TQ_tree ?_; refine TT_fin ?_; (refine TR_buildSlice (.inr ⟨rfl, (fun _ h => h.sub (.cons _ (.cons _ (.refl _))))⟩) rfl rfl rfl rfl ?_; intro q); (refine TR_append00 (.inr ⟨rfl, (fun _ h => h.sub (.cons _ (.cons _ (.refl _))))⟩) (empty_ok _ _ _) rfl rfl (.cons .here .nil) (hsrc _ 5 rfl) (gcells_length _) (gcells_all _) (by omega) rfl ?_; intro a' cap' C' hS); refine TR_pv1 (PV_build rfl rfl) rfl (fun _ h => h.sub (.cons _ (.cons _ (.cons _ (.refl _))))) ?_; (refine TR_call2 (hsk a' cap' C' hS) rfl rfl (.cons (.there (.there .here)) (.cons .here .nil)) rfl (fun _ _ _ _ hs => hs.sub (List.Sublist.trans (.cons _ (.refl _)) (List.sublist_append_right _ _))) ?_; rintro _ _ ⟨rfl, X', rfl, hX', hA'⟩); refine TR_pv1 PV_move rfl (fun _ h => h.sub (.cons _ (.cons _ (.cons _ (.refl _))))) ?_; refine TR_pv1 (PV_extract rfl rfl) rfl (fun _ h => h.sub (.cons _ (.cons _ (.cons _ (.refl _))))) ?_; refine TR_pv1 (PV_extract rfl rfl) rfl (fun _ h => h.sub (.cons _ (.cons _ (.cons _ (.refl _))))) ?_; refine TR_storeA2 rfl rfl rfl (.there (.there (.here))) rfl rfl (fun _ h => h.sub (.cons _ (.cons _ (.cons _ (.refl _))))) ?_; refine TR_pv1 PV_assign rfl (fun _ h => h.sub (.cons _ (.cons _ (.cons _ (.refl _))))) ?_; refine TR_nil ?_)))
    all_goals
      first
        | exact TQ_cut (tb, X') ⟨hX', hA'⟩ ⟨rfl, rfl, rfl, trivial⟩ (fun w hs => by
            have hs2 : St w₀ w (tblk tb (setAll (toldCells 0 false (fun _ => tp0)) 0 T.cells) :: X'.seg b :: C' :: opbk xb o :: asbk rb zAns :: H :: R) := hs
            rw [cp_told] at hs2
            exact hs2.le (fun a => by simp only [les]; omega))
        | exact TQ_cut (tb, X') ⟨hX', hA'⟩ ⟨rfl, rfl, rfl, trivial⟩ (fun w hs => by
            have hs2 : St w₀ w (X'.seg b :: C' :: tblk tb (setAll (toldCells 0 false (fun _ => tp0)) 0 T.cells) :: opbk xb o :: asbk rb zAns :: H :: R) := hs
            rw [cp_told] at hs2
            exact hs2.le (fun a => by simp only [les]; omega))
  · rintro ⟨tb, X'⟩ σg ⟨hX', hA'⟩
    dsimp only at hX' hA' ⊢
    have htk : (T.cells.drop 0).take 22 = T.cells := tk_told T
    repeat' first
      | refine TC_seq ?_
      | refine TQ_then ?_
      | (refine TC_plain (id := 28) (by kernel_rfl) ?_; refine TR_loadAM0 rfl (.head _) 0 rfl htk rfl rfl ?_; refine TR_calld0 (plain21_cd T) rfl rfl rfl rfl ?_; refine TR_pv0 PV_move rfl ?_; refine TR_pv0 (PV_build rfl (ans_fill T e)) rfl ?_; refine TR_storeA0_3 rfl rfl rfl rfl rfl rfl ?_; refine TR_nil ?_)
      | refine TC_ret ?_
      | refine TQ_then_ret ?_
      | refine TQ_blk_ret ?_
    refine TQ_le (L' := tblk tb T.cells :: X'.seg b :: opbk xb o :: asbk rb (setAll zAns 0 (Ans.cells { ans0 with e := e, t := T } nilRow)) :: H :: R) (Le.refl _) ?_
    rw [cp_ans0]
    exact TQ_retCe (cs := Ans.cells { ans0 with e := e, t := T } nilRow) (C' := [nilRow.C, X'.seg b, H]) rfl rfl rfl 3 rfl rfl ⟨nilRow, X', rfl, rfl, hX', hA', .nil⟩ (fun a => by simp only [les, nilRow]; omega)

theorem does_sack (H : Seg) (b : Nat) (X : FL) (h : FlOk X) (o : LOp) (ho : o.ok H) (hb : o.gaps.length ≤ 50) (hk : o.kind = 5) (cum : Int) :
    Ct Try.prog 22 [ptr b, .agg o.cells.toArray, u32 cum] [X.seg b, H] (DoPost H b (if X.abs.may (doTsn o cum) o.gaps then X.abs.sack (doTsn o cum) o.gaps else X.abs)
      (if X.abs.may (doTsn o cum) o.gaps then { ans0 with t := X.abs.sackT (doTsn o cum) o.gaps } else { ans0 with e := 1 })) := by
  have hts : 0 ≤ doTsn o cum ∧ doTsn o cum ≤ 4294967295 := by unfold doTsn; omega
  by_cases hm : X.abs.may (doTsn o cum) o.gaps = true
  · rw [if_pos hm, if_pos hm]
    exact does_sackG H b X o ho hb hk cum (X.abs.sackT (doTsn o cum) o.gaps) 0 (X.abs.sack (doTsn o cum) o.gaps) fun a' cap' C' hS => sackF_ct b X h (doTsn o cum) 0 o.gaps ⟨a', cap', C'⟩ (.slice none 0 0) hts ho.gr hS (by omega) hm
  · rw [if_neg hm, if_neg hm]
    exact does_sackG H b X o ho hb hk cum told0 1 X.abs fun a' cap' C' hS => Ct.post (sackF_no b X h (doTsn o cum) 0 o.gaps ⟨a', cap', C'⟩ (.slice none 0 0) hts ho.gr hS (by omega) (by simpa using hm)) fun v D ⟨h1, h2⟩ => ⟨D, ⟨h1, X, h2, h, rfl⟩, fun _ _ hs => hs⟩

theorem does_ct (H : Seg) (b : Nat) (X : FL) (h : FlOk X) (o : LOp) (ho : o.ok H) (hs : o.small) (cum : Int) :
    Ct Try.prog 22 [ptr b, .agg o.cells.toArray, u32 cum] [X.seg b, H] (DoPost H b (X.abs.doF o cum) (X.abs.doA o cum)) := by
  rw [Flt.doF, Flt.doA]
  by_cases h0 : o.kind = 0
  · rw [if_pos h0, if_pos h0]; exact does_add H b X h o ho hs.b h0 cum
  rw [if_neg h0, if_neg h0]
  by_cases h1 : o.kind = 1
  · rw [if_pos h1, if_pos h1]; exact does_again H b X h o h1 cum
  rw [if_neg h1, if_neg h1]
  by_cases h2 : o.kind = 2
  · rw [if_pos h2, if_pos h2]; exact does_get H b X h o h2 cum
  rw [if_neg h2, if_neg h2]
  by_cases h3 : o.kind = 3
  · rw [if_pos h3, if_pos h3]; exact does_mark H b X h o h3 cum
  rw [if_neg h3, if_neg h3]
  by_cases h4 : o.kind = 4
  · rw [if_pos h4, if_pos h4]; exact does_abandon H b X h o h4 cum
  rw [if_neg h4, if_neg h4]
  by_cases h5 : o.kind = 5
  · rw [if_pos h5, if_pos h5]; exact does_sack H b X h o ho hs.g h5 cum
  rw [if_neg h5, if_neg h5]
  exact does_none H b X h o h0 h1 h2 h3 h4 h5 cum
end Go.Proofs.Ytonfkkdahlboiaa
