/- Values that equal themselves (structs, arrays); bytes as strings. -/
import Derived.Test.YtonfkkdahlboiaaLibM
import Derived.DeepKeys
import Derived.Laws.BytesString
import Derived.Lib.BufferRead
namespace Go.Proofs.Ytonfkkdahlboiaa
open Go.RowKit

/-- A part of a value that equals itself. -/
def SelfAt (P : Program) (d : Nat) (cs : List Value) (t off : Nat) : Prop := ∃ a, (∀ w, (part t cs.toArray off).run P w = .ok a w) ∧ ∀ w, (Op.equalIn d t a a).run P w = .ok true w
theorem run_eqSelf {P : Program} (d : Nat) (cs : List Value) : ∀ (fs : List Field) (l : List (String × Nat × Nat)), fs.map (fun f => (f.name, f.type, f.offset)) = l → (l.all fun x => x.1 != "_") = true →
    (∀ x ∈ l, SelfAt P d cs x.2.1 x.2.2) → ∀ w, (Op.eqFields d cs.toArray cs.toArray fs).run P w = .ok true w
  | [], _, _, _, _, w => rfl
  | f :: fs, l, he, hn, h, w => by
    subst he
    simp only [List.map_cons, List.all_cons, Bool.and_eq_true] at hn
    obtain ⟨a, h1, h2⟩ := h _ (.head _)
    have ih := run_eqSelf d cs fs _ rfl hn.2 (fun x hx => h x (.tail _ hx)) w
    have hn' : f.name ≠ "_" := by simpa using hn.1
    simp only [Op.eqFields, hn', ne_eq, not_false_eq_true, if_true, Sem.run_bind, h1 w, h2 w, Result.andThen_ok]
    simpa using ih
theorem self_int {P : Program} {d t off : Nat} {k : IntKind} {cs : List Value} {n : Int} [TScal P t] (hu : P.underlying t = some (.int k)) (h : cs[off]? = some (.int k n)) : SelfAt P (d + 1) cs t off :=
  ⟨.int k n, fun w => by simp [part, isAgg_no, h], fun w => by rw [run_equalIn_int w d t k k n n hu]; simp⟩
theorem self_bool {P : Program} {d t off : Nat} {cs : List Value} {b : Bool} [TScal P t] (hu : P.underlying t = some .bool) (h : cs[off]? = some (.bool b)) : SelfAt P (d + 1) cs t off :=
  ⟨.bool b, fun w => by simp [part, isAgg_no, h], fun w => by rw [run_equalIn_bool w d t b b hu]; simp⟩
theorem self_agg {P : Program} {d t off s : Nat} {cs vs : List Value} [i : TAgg P t s] (h : (cs.drop off).take s = vs) (he : ∀ w, (Op.equalIn d t (.agg vs.toArray) (.agg vs.toArray)).run P w = .ok true w) : SelfAt P d cs t off :=
  ⟨.agg vs.toArray, fun w => by simp [part, isAgg_yes, sizeOf_run i.s, ← h], he⟩
theorem eq_struct {P : Program} {d t : Nat} {cs : List Value} (l : List (String × Nat × Nat)) (ht : P.underlying t = some (.struct (P.fieldsOf t))) (hp : P.stoodInHeld t = false) (hl : (P.fieldsOf t).toList.map (fun f => (f.name, f.type, f.offset)) = l)
    (hn : (l.all fun x => x.1 != "_") = true) (h : ∀ x ∈ l, SelfAt P d cs x.2.1 x.2.2) (w : World) : (Op.equalIn (d + 1) t (.agg cs.toArray) (.agg cs.toArray)).run P w = .ok true w := by
  rw [run_equalIn_struct w d t _ _ ht hp]
  exact run_eqSelf d cs _ l hl hn h w
theorem run_eqItemsSelf {P : Program} (d e c : Nat) (cs : List Value) : ∀ (is : List Nat), (∀ i ∈ is, SelfAt P d cs e (i * c)) → ∀ w, (Op.eqItems d e c cs.toArray cs.toArray is).run P w = .ok true w
  | [], _, w => rfl
  | i :: is, h, w => by
    obtain ⟨a, h1, h2⟩ := h _ (.head _)
    have ih := run_eqItemsSelf d e c cs is (fun x hx => h x (.tail _ hx)) w
    simp only [Op.eqItems, Sem.run_bind, h1 w, h2 w, Result.andThen_ok]
    simpa using ih
theorem PV_neSelf {P : Program} {σ : Sig} {d : Option Nat} {ty t : Nat} {p : String} {af : Array Edge} {g : Option (Nat × Bool)} {x y : Operand} {t' : Nat} {cs : List Value} (hx : ev σ x = .agg cs.toArray) (hy : ev σ y = .agg cs.toArray)
    (hg : P.eqGuardType P.depth t = false) (he : ∀ w, (Op.equalIn 10000 t (.agg cs.toArray) (.agg cs.toArray)).run P w = .ok true w) : PV P σ ⟨d, .binOp .neq t x y t', ty, p, af, g⟩ (.bool false) := ⟨fun w => by
  have hg' : (eqGuard .neq t x y (.agg cs.toArray) (.agg cs.toArray)).run P w = .ok () w := run_eqGuard_agg w .neq _ x y _ _ hg
  simp only [execOp, hx, hy, Sem.run_bind, hg', Result.andThen_ok, run_neq_struct, he w]
  simp⟩

/-! ### Strings -/
def strOf (l : List Int) : ByteArray := l.foldl (fun r n => r.push (UInt8.ofNat n.toNat)) ByteArray.empty
theorem loadCells_nil {P : Program} (a : Addr) (w : World) : (loadCells a 0).run P w = .ok #[] w := by simp [loadCells, loadCellsFrom]
theorem str_run {P : Program} {src dst e T n cap : Nat} {a : Option Addr} {C : Seg} {l : List Int} (hs : P.underlying src = some (.slice e)) (he : P.underlying e = some (.int .u8)) (hd : P.underlying dst = some .string)
    (h : Sl T 1 a n cap C (l.map (Value.int .u8))) {w : World} (hw : ∀ c ∈ C, w.heap[c.1]? = some c.2) : (convert src dst (.slice a n cap)).run P w = .ok (.string (strOf l)) w := by
  generalize hcs : l.map (Value.int .u8) = cs at h
  cases h with
  | nil =>
    obtain rfl : l = [] := by simpa using hcs
    rw [Go.Lib.run_convert_nil_bytes w src dst e 0 hs he hd]; rfl
  | zero ad =>
    obtain rfl : l = [] := by simpa using hcs
    rw [run_convert_bytes_string w src dst e _ _ _ hs he hd]
    exact run_bytesToString w ad 0 0 [] (loadCells_nil ad w)
  | @row b off _ _ cells _ hn hc hm hl ht =>
    rw [run_convert_bytes_string w src dst e _ _ _ hs he hd]
    refine run_bytesToString w _ n cap l ?_
    have hb := hw _ (.head _)
    rw [hcs]
    have hnl : cs.length = n := by rw [hn]; omega
    have := run_loadCells_list (P := P) w ⟨b, off, none⟩ cs (fun j v hj => by
      rw [addr_add]
      refine cell_of hb ?_
      have hj' := (List.getElem?_eq_some_iff.1 hj).1
      rw [take_at ht (by omega)]; exact hj)
    rw [hnl] at this
    exact this

section
variable {P : Program} {ops : Array Oper} {Q : Exit → Act → World → Prop} {n : Nat} {ds : List Deferred} {w₀ : World} {LS L : List Seg} {σ : Sig} {rest : List (Oper × Nat)}
variable {d ty : Nat} {p : String} {af : Array Edge} {g : Option (Nat × Bool)} {x y : Operand} {t t' : Nat}
theorem TR_str0 {e T k cap : Nat} {a : Option Addr} {C : Seg} {l : List Int} (hx : ev σ x = .slice a k cap) (h : Sl T 1 a k cap C (l.map (Value.int .u8))) (i : Nat) (hm : L[i]? = some C)
    (hs : P.underlying t = some (.slice e)) (he : P.underlying e = some (.int .u8)) (hd : P.underlying t' = some .string) (hw : wantS ops σ ⟨some d, .convert t t' x, ty, p, af, g⟩ = true)
    (k : TR P ops Q n ds w₀ LS rest L (upd σ d (.string (strOf l)))) : TR P ops Q n ds w₀ LS ((⟨some d, .convert t t' x, ty, p, af, g⟩, 0) :: rest) L σ :=
  TR_ld0 (fun w hs' => by simp [execOp, hx, str_run hs he hd h fun c hc => sat_mem hs'.sat (List.mem_of_getElem? hm) hc]) hw k
theorem PV_eqStr {o : Option Nat} {s : ByteArray} (hx : ev σ x = .string s) (hy : ev σ y = .string s) : PV P σ ⟨o, .binOp .eql t x y t', ty, p, af, g⟩ (.bool true) := ⟨fun w => by
  have hg : (eqGuard .eql t x y (.string s) (.string s)) = pure () := by rfl
  simp [execOp, hx, hy, hg, binOp_string_eql]⟩
end
end Go.Proofs.Ytonfkkdahlboiaa
