/- What each operation yields, over frames as functions. -/
import Derived.Test.YtonfkkdahlboiaaLibD
import Derived.IntWalk
namespace Go.Proofs.Ytonfkkdahlboiaa
open Go.RowKit

/-! ### What is asked of the program's types and functions -/
class TInt (P : Program) (t : Nat) (k : outParam IntKind) : Prop where
  h : P.underlying t = some (.int k)
class TBool (P : Program) (t : Nat) : Prop where
  h : P.underlying t = some .bool
class TScal (P : Program) (t : Nat) : Prop where
  u : (match P.underlying t with | some (.struct _) | some (.array _ _) | none => false | some _ => true) = true
  s : (P.info? t).map (·.size) = some 1
class TAgg (P : Program) (t : Nat) (s : outParam Nat) : Prop where
  u : (match P.underlying t with | some (.struct _) | some (.array _ _) => true | _ => false) = true
  s : (P.info? t).map (·.size) = some s
class TField (P : Program) (s f : Nat) (off ft : outParam Nat) : Prop where
  h : (match P.underlying s with | some (.struct fields) => (fields[f]?).map (fun fd => (fd.offset, fd.type)) | _ => none) = some (off, ft)
  z : ((P.info? ft).map (fun i => Nat.blt 0 i.size)) = some true
class TSlice (P : Program) (t : Nat) (e sz : outParam Nat) : Prop where
  h : P.underlying t = some (.slice e)
  s : (P.info? e).map (·.size) = some sz
class TArr (P : Program) (t : Nat) (len e sz : outParam Nat) : Prop where
  h : P.underlying t = some (.array len e)
  s : (P.info? e).map (·.size) = some sz
class TPtr (P : Program) (t : Nat) (e : outParam Nat) : Prop where
  h : P.underlying t = some (.pointer e)
  s : ((P.info? e).map (fun i => Nat.blt 0 i.size)) = some true
class TZero (P : Program) (t : Nat) (z : outParam (List Value)) : Prop where
  h : (P.info? t).bind (fun i => i.zero.map (fun v => v.cells.toList)) = some z
class TFn (P : Program) (f : Nat) : Prop where
  h : ((P.funcs[f]?).map fun fn => (fn.name == "runtime.NumGoroutine") || fn.body.isNone) = some false

section
variable {P : Program}

theorem sizeOf_run {t s : Nat} (h : (P.info? t).map (·.size) = some s) (w : World) : (sizeOf t).run P w = .ok s w := by
  cases hi : P.info? t with
  | none => simp [hi] at h
  | some i =>
    simp [hi] at h
    simp [sizeOf, typeInfo, hi, h]

theorem isAgg_no (t : Nat) [i : TScal P t] (w : World) : (isAgg t).run P w = .ok false w := by
  have h := i.u
  cases hu : P.underlying t with
  | none => simp [hu] at h
  | some d =>
    cases d <;> simp [hu] at h <;> simp [isAgg, underlying, hu]

theorem isAgg_yes (t : Nat) {s : Nat} [i : TAgg P t s] (w : World) : (isAgg t).run P w = .ok true w := by
  have h := i.u
  cases hu : P.underlying t with
  | none => simp [hu] at h
  | some d =>
    cases d <;> simp [hu] at h <;> simp [isAgg, underlying, hu]

theorem addr_add (b off k : Nat) : Addr.add ⟨b, off, none⟩ k = ⟨b, off + k, none⟩ := Addr.add_lit b off k

theorem field_run {s f off ft : Nat} [i : TField P s f off ft] (b o : Nat) (w : World) : (Instr.fieldAt s (.pointer (some ⟨b, o, none⟩)) f).run P w = .ok (.pointer (some ⟨b, o + off, none⟩)) w := by
  have h := i.h
  have z := i.z
  cases hu : P.underlying s with
  | none => simp [hu] at h
  | some d =>
    cases d <;> simp [hu] at h
    case struct fields =>
      obtain ⟨fd, h1, h2, h3⟩ := h
      cases hi : P.info? ft with
      | none => simp [hi] at z
      | some inf =>
        have hz : inf.size ≠ 0 := by simp [hi] at z; omega
        simp [Instr.fieldAt, underlying, hu, h1, Instr.sureAddr, fieldPlace, sizeOf, typeInfo, h3, hi, hz, addr_add, h2]

variable {σ : Sig} {d : Option Nat} {ty : Nat} {p : String} {af : Array Edge} {g : Option (Nat × Bool)} {x y : Operand} {t t' : Nat}

theorem PV_move : PV P σ ⟨d, .move x, ty, p, af, g⟩ (ev σ x) := ⟨fun w => by simp [execOp]⟩
theorem PV_assign : PV P σ ⟨d, .assign x, ty, p, af, g⟩ (ev σ x) := ⟨fun w => by simp [execOp]⟩
theorem PV_pick_t {c : Operand} (h : ev σ c = .bool true) : PV P σ ⟨d, .pick c x y, ty, p, af, g⟩ (ev σ x) := ⟨fun w => by simp [execOp, h, asBool]⟩
theorem PV_pick_f {c : Operand} (h : ev σ c = .bool false) : PV P σ ⟨d, .pick c x y, ty, p, af, g⟩ (ev σ y) := ⟨fun w => by simp [execOp, h, asBool]⟩
theorem PV_nil {a : Addr} (h : ev σ x = .pointer (some a)) : PV P σ ⟨d, .nilCheck x, ty, p, af, g⟩ (.pointer (some a)) := ⟨fun w => by simp [execOp, h]⟩
theorem PV_nilF {f : FuncId} {fs cs : Array Value} (h : ev σ x = .func (.func f) fs cs) : PV P σ ⟨d, .nilCheck x, ty, p, af, g⟩ (.func (.func f) fs cs) := ⟨fun w => by simp [execOp, h]⟩
theorem PV_nilY {l : Nat} {fs cs : Array Value} (h : ev σ x = .func (.yield l) fs cs) : PV P σ ⟨d, .nilCheck x, ty, p, af, g⟩ (.func (.yield l) fs cs) := ⟨fun w => by simp [execOp, h]⟩
theorem PV_fieldAddr {s f off ft b o : Nat} [TField P s f off ft] (h : ev σ x = .pointer (some ⟨b, o, none⟩)) : PV P σ ⟨d, .fieldAddr s x f, ty, p, af, g⟩ (.pointer (some ⟨b, o + off, none⟩)) :=
  ⟨fun w => by simp [execOp, h, field_run]⟩

/-! ### Integers -/
theorem i64_wrap {n : Int} (h : -9223372036854775808 ≤ n ∧ n ≤ 9223372036854775807) : IntKind.i64.wrap n = n := IntWalk.i64_in n (by omega)
theorem u32_wrap (n : Int) : IntKind.u32.wrap n = n % 4294967296 := by
  simp [IntKind.wrap, IntKind.bits, IntKind.signed]
theorem u16_wrap (n : Int) : IntKind.u16.wrap n = n % 65536 := by
  simp [IntKind.wrap, IntKind.bits, IntKind.signed]
theorem u8_wrap (n : Int) : IntKind.u8.wrap n = n % 256 := by
  simp [IntKind.wrap, IntKind.bits, IntKind.signed]
theorem u64_wrap (n : Int) : IntKind.u64.wrap n = n % 18446744073709551616 := by
  simp [IntKind.wrap, IntKind.bits, IntKind.signed]

section ints
variable {k : IntKind} {a b : Int}
theorem bin_run {op : BinOp} {r : Value} (hx : ev σ x = .int k a) (hy : ev σ y = .int k b) (hr : ∀ w, (binOp op t (.int k a) (.int k b)).run P w = .ok r w) :
    PV P σ ⟨d, .binOp op t x y t', ty, p, af, g⟩ r := ⟨fun w => by
  simp [execOp, hx, hy, eqGuard_at_int, hr]⟩

theorem PV_add64 (hx : ev σ x = .int .i64 a) (hy : ev σ y = .int .i64 b) (h : -9223372036854775808 ≤ a + b ∧ a + b ≤ 9223372036854775807) : PV P σ ⟨d, .binOp .add t x y t', ty, p, af, g⟩ (.int .i64 (a + b)) :=
  bin_run hx hy fun w => by simp [binOp_add, Op.intArith, i64_wrap h]
theorem PV_sub64 (hx : ev σ x = .int .i64 a) (hy : ev σ y = .int .i64 b) (h : -9223372036854775808 ≤ a - b ∧ a - b ≤ 9223372036854775807) : PV P σ ⟨d, .binOp .sub t x y t', ty, p, af, g⟩ (.int .i64 (a - b)) :=
  bin_run hx hy fun w => by simp [binOp_sub, Op.intArith, i64_wrap h]
theorem PV_mul64 (hx : ev σ x = .int .i64 a) (hy : ev σ y = .int .i64 b) (h : -9223372036854775808 ≤ a * b ∧ a * b ≤ 9223372036854775807) : PV P σ ⟨d, .binOp .mul t x y t', ty, p, af, g⟩ (.int .i64 (a * b)) :=
  bin_run hx hy fun w => by simp [binOp_mul, Op.intArith, i64_wrap h]
theorem PV_add32 (hx : ev σ x = .int .u32 a) (hy : ev σ y = .int .u32 b) : PV P σ ⟨d, .binOp .add t x y t', ty, p, af, g⟩ (.int .u32 ((a + b) % 4294967296)) :=
  bin_run hx hy fun w => by simp [binOp_add, Op.intArith, u32_wrap]
theorem PV_sub32 (hx : ev σ x = .int .u32 a) (hy : ev σ y = .int .u32 b) : PV P σ ⟨d, .binOp .sub t x y t', ty, p, af, g⟩ (.int .u32 ((a - b) % 4294967296)) :=
  bin_run hx hy fun w => by simp [binOp_sub, Op.intArith, u32_wrap]
theorem PV_add16 (hx : ev σ x = .int .u16 a) (hy : ev σ y = .int .u16 b) : PV P σ ⟨d, .binOp .add t x y t', ty, p, af, g⟩ (.int .u16 ((a + b) % 65536)) :=
  bin_run hx hy fun w => by simp [binOp_add, Op.intArith, u16_wrap]
theorem PV_quo64 (hx : ev σ x = .int .i64 a) (hy : ev σ y = .int .i64 b) (h : 0 ≤ a ∧ a ≤ 9223372036854775807 ∧ 1 ≤ b) : PV P σ ⟨d, .binOp .quo t x y t', ty, p, af, g⟩ (.int .i64 (a / b)) :=
  bin_run hx hy fun w => by
    have hb : ¬ b = 0 := by omega
    have e : a.tdiv b = a / b := Int.tdiv_eq_ediv_of_nonneg h.1
    have h1 : 0 ≤ a / b := Int.ediv_nonneg h.1 (by omega)
    have h2 : a / b ≤ a := Int.ediv_le_self _ h.1
    simp [binOp_quo, Op.intDiv, hb, e, i64_wrap (n := a / b) (by omega)]
theorem PV_rem64 (hx : ev σ x = .int .i64 a) (hy : ev σ y = .int .i64 b) (h : 0 ≤ a ∧ 1 ≤ b) : PV P σ ⟨d, .binOp .rem t x y t', ty, p, af, g⟩ (.int .i64 (a % b)) :=
  bin_run hx hy fun w => by
    have hb : ¬ b = 0 := by omega
    simp [binOp_rem, Op.intDiv, hb, Int.tmod_eq_emod_of_nonneg h.1]
theorem PV_lss (hx : ev σ x = .int k a) (hy : ev σ y = .int k b) : PV P σ ⟨d, .binOp .lss t x y t', ty, p, af, g⟩ (.bool (decide (a < b))) := bin_run hx hy fun w => by simp [binOp_lss]
theorem PV_leq (hx : ev σ x = .int k a) (hy : ev σ y = .int k b) : PV P σ ⟨d, .binOp .leq t x y t', ty, p, af, g⟩ (.bool (decide (a ≤ b))) := bin_run hx hy fun w => by simp [binOp_leq]
theorem PV_gtr (hx : ev σ x = .int k a) (hy : ev σ y = .int k b) : PV P σ ⟨d, .binOp .gtr t x y t', ty, p, af, g⟩ (.bool (decide (b < a))) := bin_run hx hy fun w => by simp [binOp_gtr]
theorem PV_geq (hx : ev σ x = .int k a) (hy : ev σ y = .int k b) : PV P σ ⟨d, .binOp .geq t x y t', ty, p, af, g⟩ (.bool (decide (b ≤ a))) := bin_run hx hy fun w => by simp [binOp_geq]
theorem PV_eql (hx : ev σ x = .int k a) (hy : ev σ y = .int k b) : PV P σ ⟨d, .binOp .eql t x y t', ty, p, af, g⟩ (.bool (decide (a = b))) := bin_run hx hy fun w => by
  simp [binOp_eql]; rfl
theorem PV_neq (hx : ev σ x = .int k a) (hy : ev σ y = .int k b) : PV P σ ⟨d, .binOp .neq t x y t', ty, p, af, g⟩ (.bool (!decide (a = b))) := bin_run hx hy fun w => by
  simp [binOp_neq, bne]; rfl
theorem PV_neg64 (hx : ev σ x = .int .i64 a) (h : -9223372036854775807 ≤ a ∧ a ≤ 9223372036854775807) : PV P σ ⟨d, .unOp .neg t x, ty, p, af, g⟩ (.int .i64 (-a)) := ⟨fun w => by
  simp [execOp, hx, Op.unary, Op.intArith, i64_wrap (n := -a) (by omega)]⟩

theorem conv_run {k' : IntKind} (t t' : Nat) [i : TInt P t k'] [j : TInt P t' k] (n : Int) (w : World) : (convert t t' (.int k' n)).run P w = .ok (.int k (k.wrap n)) w := by
  simp [convert, run_underlying i.h, run_underlying j.h, Conv.intToInt]
theorem PV_conv64 {k' : IntKind} [TInt P t k'] [TInt P t' .i64] (hx : ev σ x = .int k' a) (h : -9223372036854775808 ≤ a ∧ a ≤ 9223372036854775807) : PV P σ ⟨d, .convert t t' x, ty, p, af, g⟩ (.int .i64 a) :=
  ⟨fun w => by simp [execOp, hx, conv_run (k := .i64) t t', i64_wrap h]⟩
theorem PV_conv32 {k' : IntKind} [TInt P t k'] [TInt P t' .u32] (hx : ev σ x = .int k' a) : PV P σ ⟨d, .convert t t' x, ty, p, af, g⟩ (.int .u32 (a % 4294967296)) :=
  ⟨fun w => by simp [execOp, hx, conv_run (k := .u32) t t', u32_wrap]⟩
theorem PV_conv16 {k' : IntKind} [TInt P t k'] [TInt P t' .u16] (hx : ev σ x = .int k' a) : PV P σ ⟨d, .convert t t' x, ty, p, af, g⟩ (.int .u16 (a % 65536)) :=
  ⟨fun w => by simp [execOp, hx, conv_run (k := .u16) t t', u16_wrap]⟩
theorem PV_conv8 {k' : IntKind} [TInt P t k'] [TInt P t' .u8] (hx : ev σ x = .int k' a) : PV P σ ⟨d, .convert t t' x, ty, p, af, g⟩ (.int .u8 (a % 256)) :=
  ⟨fun w => by simp [execOp, hx, conv_run (k := .u8) t t', u8_wrap]⟩
end ints

/-! ### Bools, pointers -/
theorem PV_not {b : Bool} (hx : ev σ x = .bool b) : PV P σ ⟨d, .unOp .not t x, ty, p, af, g⟩ (.bool (!b)) := ⟨fun w => by simp [execOp, hx, Op.unary]⟩

theorem PV_beq {b c : Bool} [i : TBool P t] (hx : ev σ x = .bool b) (hy : ev σ y = .bool c) : PV P σ ⟨d, .binOp .eql t x y t', ty, p, af, g⟩ (.bool (b == c)) := ⟨fun w => by
  simp [execOp, hx, hy, eqGuard_at_bool, run_eql_bool _ _ _ _ i.h]⟩
theorem PV_bne {b c : Bool} [i : TBool P t] (hx : ev σ x = .bool b) (hy : ev σ y = .bool c) : PV P σ ⟨d, .binOp .neq t x y t', ty, p, af, g⟩ (.bool (!(b == c))) := ⟨fun w => by
  simp [execOp, hx, hy, eqGuard_at_bool, run_neq_bool _ _ _ _ i.h]⟩
theorem pointee_of {t e : Nat} (h : P.underlying t = some (.pointer e)) : P.underlying t = some (.pointer (P.pointee t)) := by simp [Program.pointee, h]
theorem PV_peq_nil {q : Option Addr} {e : Nat} [i : TPtr P t e] (hx : ev σ x = .pointer q) (hy : ev σ y = .pointer none) : PV P σ ⟨d, .binOp .eql t x y t', ty, p, af, g⟩ (.bool q.isNone) := ⟨fun w => by
  simp [execOp, hx, hy, eqGuard_at_pointer, run_eql_pointer_nil _ _ _ (pointee_of i.h)]⟩
theorem PV_pne_nil {q : Option Addr} {e : Nat} [i : TPtr P t e] (hx : ev σ x = .pointer q) (hy : ev σ y = .pointer none) : PV P σ ⟨d, .binOp .neq t x y t', ty, p, af, g⟩ (.bool (!q.isNone)) := ⟨fun w => by
  simp [execOp, hx, hy, eqGuard_at_pointer, run_neq_pointer_nil _ _ _ (pointee_of i.h)]⟩

/-! ### Others -/
theorem PV_extract {vs : List Value} {ix : Nat} {v : Value} (hx : ev σ x = .tuple vs.toArray) (hv : vs[ix]? = some v) : PV P σ ⟨d, .extract x ix, ty, p, af, g⟩ v := ⟨fun w => by
  simp [execOp, hx, Instr.extract, hv]⟩
def evs (σ : Sig) : List Operand → List Value
  | [] => []
  | x :: l => ev σ x :: evs σ l
theorem evs_eq (σ : Sig) (l : List Operand) : l.map (ev σ) = evs σ l := by induction l with | nil => rfl | cons x l ih => simp [evs, ih]
theorem PV_makeFunc {fn : Fn} {fs cs : List Operand} : PV P σ ⟨d, .makeFunc fn fs.toArray cs.toArray, ty, p, af, g⟩ (.func fn (evs σ fs).toArray (evs σ cs).toArray) := ⟨fun w => by
  simp [execOp, Instr.makeFunc, evs_eq]⟩
theorem PV_min {a b : Int} {k : IntKind} {tys : Array Nat} (hx : ev σ x = .int k a) (hy : ev σ y = .int k b) : PV P σ ⟨d, .call ⟨.builtin .min, #[x, y], tys⟩, ty, p, af, g⟩ (.int k (min a b)) := ⟨fun w => by
  simp [execOp, resolve, hx, hy, invoke, builtin, Builtin.min_, Builtin.min2, Int.min_def]; split <;> split <;> omega⟩
theorem PV_max {a b : Int} {k : IntKind} {tys : Array Nat} (hx : ev σ x = .int k a) (hy : ev σ y = .int k b) : PV P σ ⟨d, .call ⟨.builtin .max, #[x, y], tys⟩, ty, p, af, g⟩ (.int k (max a b)) := ⟨fun w => by
  simp [execOp, resolve, hx, hy, invoke, builtin, Builtin.max_, Builtin.max2, Int.max_def]; split <;> split <;> omega⟩
theorem PV_len {a : Option Addr} {n c : Nat} {e sz : Nat} [i : TSlice P t e sz] (hx : ev σ x = .slice a n c) : PV P σ ⟨d, .call ⟨.builtin .len, #[x], #[t]⟩, ty, p, af, g⟩ (.int .i64 n) := ⟨fun w => by
  simp [execOp, resolve, hx, invoke, builtin, Builtin.len_, run_underlying i.h, goInt]⟩

theorem indexAddr_run {e sz b off len cap : Nat} [i : TSlice P t e sz] {k : IntKind} {j : Int} (h : 0 ≤ j ∧ j < len) (w : World) :
    (Instr.indexAt t (.slice (some ⟨b, off, none⟩) len cap) (.int k j)).run P w = .ok (.pointer (some ⟨b, off + j.toNat * sz, none⟩)) w := by
  simp [Instr.indexAt, run_underlying i.h, asIntOf, h, sizeOf_run i.s, addr_add]
theorem PV_indexAddr {e sz b off len cap : Nat} [TSlice P t e sz] {k : IntKind} {j : Int} (hx : ev σ x = .slice (some ⟨b, off, none⟩) len cap) (hy : ev σ y = .int k j) (h : 0 ≤ j ∧ j < len) :
    PV P σ ⟨d, .indexAddr t x y, ty, p, af, g⟩ (.pointer (some ⟨b, off + j.toNat * sz, none⟩)) := ⟨fun w => by
  simp [execOp, hx, hy, indexAddr_run h]⟩
theorem PV_indexArr {len e sz b off : Nat} [i : TArr P t len e sz] {k : IntKind} {j : Int} (hx : ev σ x = .pointer (some ⟨b, off, none⟩)) (hy : ev σ y = .int k j) (h : 0 ≤ j ∧ j < len) :
    PV P σ ⟨d, .indexAddr t x y, ty, p, af, g⟩ (.pointer (some ⟨b, off + j.toNat * sz, none⟩)) := ⟨fun w => by
  simp [execOp, hx, hy, Instr.indexAt, run_underlying i.h, asIntOf, h, sizeOf_run i.s, addr_add, Instr.sureAddr]⟩

end

/-! ### The heap -/
section
variable {P : Program} {ops : Array Oper} {Q : Exit → Act → World → Prop} {n : Nat} {ds : List Deferred} {w₀ : World} {LS L L' : List Seg} {σ : Sig} {rest : List (Oper × Nat)} {v : Value}
variable {d : Nat} {ty : Nat} {p : String} {af : Array Edge} {g : Option (Nat × Bool)} {x y : Operand} {t : Nat}

theorem load_run [TScal P t] {w : World} {b off : Nat} (h : w.cell? ⟨b, off, none⟩ = some v) : (Instr.loadAt t (.pointer (some ⟨b, off, none⟩))).run P w = .ok v w := by
  simp [Instr.loadAt, Instr.sureAddr, loadVar, isAgg_no, h]

theorem TR_load0 [TScal P t] {b off T : Nat} {cs : List Value} {fz : Nat × Nat} (hx : ev σ x = .pointer (some ⟨b, off, none⟩)) (i : Nat) (hm : L[i]? = some [(b, .cells cs.toArray T fz)]) (hv : cs[off]? = some v)
    (hw : wantS ops σ ⟨some d, .load t x, ty, p, af, g⟩ = true) (k : TR P ops Q n ds w₀ LS rest L (upd σ d v)) : TR P ops Q n ds w₀ LS ((⟨some d, .load t x, ty, p, af, g⟩, 0) :: rest) L σ :=
  TR_ld0 (fun w hs => by simp [execOp, hx, load_run (cell_of (sat_one hs.sat (List.mem_of_getElem? hm)) hv)]) hw k
theorem TR_load1 [TScal P t] {b off T : Nat} {cs : List Value} {fz : Nat × Nat} (hx : ev σ x = .pointer (some ⟨b, off, none⟩)) (i : Nat) (hm : LS[i]? = some [(b, .cells cs.toArray T fz)]) (hv : cs[off]? = some v)
    (hw : wantS ops σ ⟨some d, .load t x, ty, p, af, g⟩ = true) (hL : ∀ w, St w₀ w L → St w₀ w LS) (k : TR P ops Q n ds w₀ LS rest L (upd σ d v)) :
    TR P ops Q n ds w₀ LS ((⟨some d, .load t x, ty, p, af, g⟩, 1) :: rest) L σ :=
  TR_ld1 (fun w hs => by simp [execOp, hx, load_run (cell_of (sat_one hs.sat (List.mem_of_getElem? hm)) hv)]) hw hL k

theorem loadCells_run {w : World} {b : Nat} {cs : List Value} {T : Nat} {fz : Nat × Nat} (h : w.heap[b]? = some (.cells cs.toArray T fz)) : ∀ (s i off : Nat) (acc : Array Value), off + i + s ≤ cs.length →
    (loadCellsFrom ⟨b, off, none⟩ i s acc).run P w = .ok (acc ++ ((cs.drop (off + i)).take s).toArray) w
  | 0, i, off, acc, _ => by simp [loadCellsFrom]
  | s + 1, i, off, acc, hl => by
    have hlt : off + i < cs.length := by omega
    have hc : w.cell? ⟨b, off + i, none⟩ = some cs[off + i] := cell_of h (by simp [hlt])
    have ih := loadCells_run h s (i + 1) off (acc.push cs[off + i]) (by omega)
    simp only [loadCellsFrom, addr_add, Sem.run_bind, run_load, hc, Result.andThen_ok, ih]
    congr 1
    rw [List.drop_eq_getElem_cons hlt]
    simp [Nat.add_assoc]

theorem loadAgg_run {s : Nat} [i : TAgg P t s] {w : World} {b off T : Nat} {cs : List Value} {fz : Nat × Nat} (h : w.heap[b]? = some (.cells cs.toArray T fz)) (hl : off + s ≤ cs.length) :
    (Instr.loadAt t (.pointer (some ⟨b, off, none⟩))).run P w = .ok (.agg ((cs.drop off).take s).toArray) w := by
  have := loadCells_run (P := P) h s 0 off #[] (by omega)
  simp only [Nat.add_zero] at this
  simp [Instr.loadAt, Instr.sureAddr, loadVar, isAgg_yes, sizeOf_run i.s, loadCells, this]

theorem TR_loadA0 {s : Nat} [TAgg P t s] {b off T : Nat} {cs : List Value} {fz : Nat × Nat} (hx : ev σ x = .pointer (some ⟨b, off, none⟩)) (i : Nat) (hm : L[i]? = some [(b, .cells cs.toArray T fz)]) (hl : Nat.ble (off + s) cs.length = true)
    (hw : wantS ops σ ⟨some d, .load t x, ty, p, af, g⟩ = true) (k : TR P ops Q n ds w₀ LS rest L (upd σ d (.agg ((cs.drop off).take s).toArray))) : TR P ops Q n ds w₀ LS ((⟨some d, .load t x, ty, p, af, g⟩, 0) :: rest) L σ :=
  TR_ld0 (fun w hs => by simp only [execOp, hx]; simp [loadAgg_run (sat_one hs.sat (List.mem_of_getElem? hm)) (Nat.le_of_ble_eq_true hl)]) hw k
theorem TR_loadA1 {s : Nat} [TAgg P t s] {b off T : Nat} {cs : List Value} {fz : Nat × Nat} (hx : ev σ x = .pointer (some ⟨b, off, none⟩)) (i : Nat) (hm : LS[i]? = some [(b, .cells cs.toArray T fz)]) (hl : Nat.ble (off + s) cs.length = true)
    (hw : wantS ops σ ⟨some d, .load t x, ty, p, af, g⟩ = true) (hL : ∀ w, St w₀ w L → St w₀ w LS) (k : TR P ops Q n ds w₀ LS rest L (upd σ d (.agg ((cs.drop off).take s).toArray))) :
    TR P ops Q n ds w₀ LS ((⟨some d, .load t x, ty, p, af, g⟩, 1) :: rest) L σ :=
  TR_ld1 (fun w hs => by simp only [execOp, hx]; simp [loadAgg_run (sat_one hs.sat (List.mem_of_getElem? hm)) (Nat.le_of_ble_eq_true hl)]) hw hL k

def one (v : Value) : Bool := match v with | .agg _ | .tuple _ => false | _ => true

theorem store_run {w : World} {b off T : Nat} {cs : List Value} (hv1 : one v = true) (h : w.heap[b]? = some (.cells cs.toArray T (0, 0))) (hl : off < cs.length) :
    (store ⟨b, off, none⟩ v).run P w = .ok () (w.setCell ⟨b, off, none⟩ v) := by
  have hc : w.cell? ⟨b, off, none⟩ = some cs[off] := cell_of h (by simp [hl])
  rw [run_store _ _ _ _ _ (by cases v <;> simp_all [one, Value.oneCell']), hc]
  simp [frozen_of h]

theorem cells_one (hv1 : one v = true) : v.cells = #[v] := by cases v <;> simp_all [one, Value.cells]

theorem storeAt_run [i : TScal P t] {w : World} {b off T : Nat} {cs : List Value} (hv1 : one v = true) (h : w.heap[b]? = some (.cells cs.toArray T (0, 0))) (hl : off < cs.length) :
    (Instr.storeAt t (.pointer (some ⟨b, off, none⟩)) v).run P w = .ok () (w.setCell ⟨b, off, none⟩ v) := by
  simp [Instr.storeAt, Instr.sureAddr, storeVar, cells_one hv1, sizeOf_run i.s, storeCells, addr_add, store_run hv1 h hl]

theorem Repl_mem {C C' : Seg} {L L' : List Seg} (h : Repl C C' L L') : C ∈ L := by induction h with | here => exact .head _ | there _ ih => exact .tail _ ih

theorem TR_store [TScal P t] {b off T : Nat} {cs : List Value} (hx : ev σ x = .pointer (some ⟨b, off, none⟩)) (hy : ev σ y = v) (hv1 : one v = true)
    (hr : Repl [(b, .cells cs.toArray T (0, 0))] [(b, .cells (cs.set off v).toArray T (0, 0))] L L') (hl : Nat.blt off cs.length = true)
    (hw : wantS ops σ ⟨none, .store t x y, ty, p, af, g⟩ = true) (k : TR P ops Q n ds w₀ LS rest L' σ) : TR P ops Q n ds w₀ LS ((⟨none, .store t x y, ty, p, af, g⟩, 0) :: rest) L σ :=
  TR_unit0 hw (fun w hs => ⟨w.setCell ⟨b, off, none⟩ v, by simp [execOp, hx, hy, storeAt_run hv1 (sat_one hs.sat (Repl_mem hr)) (by simpa [Nat.blt_eq] using hl)],
    sat_store hs.sat hr, hs.env.trans (Env.setCell _ _ _)⟩) k

theorem TR_store5_0 [TScal P t] {b off T : Nat} {cs : List Value} {M : List Seg} (hx : ev σ x = .pointer (some ⟨b, off, none⟩)) (hL : L = [(b, .cells cs.toArray T (0, 0))] :: M) (hy : ev σ y = v) (hv1 : one v = true) (hl : Nat.blt off cs.length = true)
    (hw : wantS ops σ ⟨none, .store t x y, ty, p, af, g⟩ = true) (hK : ∀ w, St w₀ w M → St w₀ w LS.tail) (k : TR P ops Q n ds w₀ LS rest ([(b, .cells (cs.set off v).toArray T (0, 0))] :: M) σ) :
    TR P ops Q n ds w₀ LS ((⟨none, .store t x y, ty, p, af, g⟩, 5) :: rest) L σ := by
  subst hL
  exact TR_unit5 hw (fun w hs => ⟨w.setCell ⟨b, off, none⟩ v, by simp [execOp, hx, hy, storeAt_run hv1 (sat_one hs.sat (List.mem_cons_self)) (by simpa [Nat.blt_eq] using hl)],
    sat_store hs.sat .here, hs.env.trans (Env.setCell _ _ _)⟩) (fun w h => hK w h.tail) k

theorem TR_store0_0 [TScal P t] {b off T : Nat} {cs : List Value} {M : List Seg} (hx : ev σ x = .pointer (some ⟨b, off, none⟩)) (hL : L = [(b, .cells cs.toArray T (0, 0))] :: M) (hy : ev σ y = v) (hv1 : one v = true) (hl : Nat.blt off cs.length = true)
    (hw : wantS ops σ ⟨none, .store t x y, ty, p, af, g⟩ = true) (k : TR P ops Q n ds w₀ LS rest ([(b, .cells (cs.set off v).toArray T (0, 0))] :: M) σ) : TR P ops Q n ds w₀ LS ((⟨none, .store t x y, ty, p, af, g⟩, 0) :: rest) L σ := by
  subst hL; exact TR_store hx hy hv1 .here hl hw k
theorem TR_store0_1 [TScal P t] {b off T : Nat} {cs : List Value} {X0 : Seg} {M : List Seg} (hx : ev σ x = .pointer (some ⟨b, off, none⟩)) (hL : L = X0 :: [(b, .cells cs.toArray T (0, 0))] :: M) (hy : ev σ y = v) (hv1 : one v = true) (hl : Nat.blt off cs.length = true)
    (hw : wantS ops σ ⟨none, .store t x y, ty, p, af, g⟩ = true) (k : TR P ops Q n ds w₀ LS rest (X0 :: [(b, .cells (cs.set off v).toArray T (0, 0))] :: M) σ) : TR P ops Q n ds w₀ LS ((⟨none, .store t x y, ty, p, af, g⟩, 0) :: rest) L σ := by
  subst hL; exact TR_store hx hy hv1 (.there .here) hl hw k
theorem TR_store0_2 [TScal P t] {b off T : Nat} {cs : List Value} {X0 X1 : Seg} {M : List Seg} (hx : ev σ x = .pointer (some ⟨b, off, none⟩)) (hL : L = X0 :: X1 :: [(b, .cells cs.toArray T (0, 0))] :: M) (hy : ev σ y = v) (hv1 : one v = true) (hl : Nat.blt off cs.length = true)
    (hw : wantS ops σ ⟨none, .store t x y, ty, p, af, g⟩ = true) (k : TR P ops Q n ds w₀ LS rest (X0 :: X1 :: [(b, .cells (cs.set off v).toArray T (0, 0))] :: M) σ) : TR P ops Q n ds w₀ LS ((⟨none, .store t x y, ty, p, af, g⟩, 0) :: rest) L σ := by
  subst hL; exact TR_store hx hy hv1 (.there (.there .here)) hl hw k
theorem TR_store0_3 [TScal P t] {b off T : Nat} {cs : List Value} {X0 X1 X2 : Seg} {M : List Seg} (hx : ev σ x = .pointer (some ⟨b, off, none⟩)) (hL : L = X0 :: X1 :: X2 :: [(b, .cells cs.toArray T (0, 0))] :: M) (hy : ev σ y = v) (hv1 : one v = true) (hl : Nat.blt off cs.length = true)
    (hw : wantS ops σ ⟨none, .store t x y, ty, p, af, g⟩ = true) (k : TR P ops Q n ds w₀ LS rest (X0 :: X1 :: X2 :: [(b, .cells (cs.set off v).toArray T (0, 0))] :: M) σ) : TR P ops Q n ds w₀ LS ((⟨none, .store t x y, ty, p, af, g⟩, 0) :: rest) L σ := by
  subst hL; exact TR_store hx hy hv1 (.there (.there (.there .here))) hl hw k
theorem TR_store0_4 [TScal P t] {b off T : Nat} {cs : List Value} {X0 X1 X2 X3 : Seg} {M : List Seg} (hx : ev σ x = .pointer (some ⟨b, off, none⟩)) (hL : L = X0 :: X1 :: X2 :: X3 :: [(b, .cells cs.toArray T (0, 0))] :: M) (hy : ev σ y = v) (hv1 : one v = true) (hl : Nat.blt off cs.length = true)
    (hw : wantS ops σ ⟨none, .store t x y, ty, p, af, g⟩ = true) (k : TR P ops Q n ds w₀ LS rest (X0 :: X1 :: X2 :: X3 :: [(b, .cells (cs.set off v).toArray T (0, 0))] :: M) σ) : TR P ops Q n ds w₀ LS ((⟨none, .store t x y, ty, p, af, g⟩, 0) :: rest) L σ := by
  subst hL; exact TR_store hx hy hv1 (.there (.there (.there (.there .here)))) hl hw k
theorem TR_store0_5 [TScal P t] {b off T : Nat} {cs : List Value} {X0 X1 X2 X3 X4 : Seg} {M : List Seg} (hx : ev σ x = .pointer (some ⟨b, off, none⟩)) (hL : L = X0 :: X1 :: X2 :: X3 :: X4 :: [(b, .cells cs.toArray T (0, 0))] :: M) (hy : ev σ y = v) (hv1 : one v = true) (hl : Nat.blt off cs.length = true)
    (hw : wantS ops σ ⟨none, .store t x y, ty, p, af, g⟩ = true) (k : TR P ops Q n ds w₀ LS rest (X0 :: X1 :: X2 :: X3 :: X4 :: [(b, .cells (cs.set off v).toArray T (0, 0))] :: M) σ) : TR P ops Q n ds w₀ LS ((⟨none, .store t x y, ty, p, af, g⟩, 0) :: rest) L σ := by
  subst hL; exact TR_store hx hy hv1 (.there (.there (.there (.there (.there .here))))) hl hw k
theorem TR_store0_6 [TScal P t] {b off T : Nat} {cs : List Value} {X0 X1 X2 X3 X4 X5 : Seg} {M : List Seg} (hx : ev σ x = .pointer (some ⟨b, off, none⟩)) (hL : L = X0 :: X1 :: X2 :: X3 :: X4 :: X5 :: [(b, .cells cs.toArray T (0, 0))] :: M) (hy : ev σ y = v) (hv1 : one v = true) (hl : Nat.blt off cs.length = true)
    (hw : wantS ops σ ⟨none, .store t x y, ty, p, af, g⟩ = true) (k : TR P ops Q n ds w₀ LS rest (X0 :: X1 :: X2 :: X3 :: X4 :: X5 :: [(b, .cells (cs.set off v).toArray T (0, 0))] :: M) σ) : TR P ops Q n ds w₀ LS ((⟨none, .store t x y, ty, p, af, g⟩, 0) :: rest) L σ := by
  subst hL; exact TR_store hx hy hv1 (.there (.there (.there (.there (.there (.there .here)))))) hl hw k
theorem TR_store0_7 [TScal P t] {b off T : Nat} {cs : List Value} {X0 X1 X2 X3 X4 X5 X6 : Seg} {M : List Seg} (hx : ev σ x = .pointer (some ⟨b, off, none⟩)) (hL : L = X0 :: X1 :: X2 :: X3 :: X4 :: X5 :: X6 :: [(b, .cells cs.toArray T (0, 0))] :: M) (hy : ev σ y = v) (hv1 : one v = true) (hl : Nat.blt off cs.length = true)
    (hw : wantS ops σ ⟨none, .store t x y, ty, p, af, g⟩ = true) (k : TR P ops Q n ds w₀ LS rest (X0 :: X1 :: X2 :: X3 :: X4 :: X5 :: X6 :: [(b, .cells (cs.set off v).toArray T (0, 0))] :: M) σ) : TR P ops Q n ds w₀ LS ((⟨none, .store t x y, ty, p, af, g⟩, 0) :: rest) L σ := by
  subst hL; exact TR_store hx hy hv1 (.there (.there (.there (.there (.there (.there (.there .here))))))) hl hw k
theorem TR_store0_8 [TScal P t] {b off T : Nat} {cs : List Value} {X0 X1 X2 X3 X4 X5 X6 X7 : Seg} {M : List Seg} (hx : ev σ x = .pointer (some ⟨b, off, none⟩)) (hL : L = X0 :: X1 :: X2 :: X3 :: X4 :: X5 :: X6 :: X7 :: [(b, .cells cs.toArray T (0, 0))] :: M) (hy : ev σ y = v) (hv1 : one v = true) (hl : Nat.blt off cs.length = true)
    (hw : wantS ops σ ⟨none, .store t x y, ty, p, af, g⟩ = true) (k : TR P ops Q n ds w₀ LS rest (X0 :: X1 :: X2 :: X3 :: X4 :: X5 :: X6 :: X7 :: [(b, .cells (cs.set off v).toArray T (0, 0))] :: M) σ) : TR P ops Q n ds w₀ LS ((⟨none, .store t x y, ty, p, af, g⟩, 0) :: rest) L σ := by
  subst hL; exact TR_store hx hy hv1 (.there (.there (.there (.there (.there (.there (.there (.there .here)))))))) hl hw k
theorem TR_store0_9 [TScal P t] {b off T : Nat} {cs : List Value} {X0 X1 X2 X3 X4 X5 X6 X7 X8 : Seg} {M : List Seg} (hx : ev σ x = .pointer (some ⟨b, off, none⟩)) (hL : L = X0 :: X1 :: X2 :: X3 :: X4 :: X5 :: X6 :: X7 :: X8 :: [(b, .cells cs.toArray T (0, 0))] :: M) (hy : ev σ y = v) (hv1 : one v = true) (hl : Nat.blt off cs.length = true)
    (hw : wantS ops σ ⟨none, .store t x y, ty, p, af, g⟩ = true) (k : TR P ops Q n ds w₀ LS rest (X0 :: X1 :: X2 :: X3 :: X4 :: X5 :: X6 :: X7 :: X8 :: [(b, .cells (cs.set off v).toArray T (0, 0))] :: M) σ) : TR P ops Q n ds w₀ LS ((⟨none, .store t x y, ty, p, af, g⟩, 0) :: rest) L σ := by
  subst hL; exact TR_store hx hy hv1 (.there (.there (.there (.there (.there (.there (.there (.there (.there .here))))))))) hl hw k

/-- A new block. -/
theorem newRow_St {w : World} {o : Obj} (hs : St w₀ w L) : St w₀ { w with heap := w.heap.push o } ([(w.heap.size, o)] :: L) :=
  ⟨sat_push hs.sat rfl, hs.env.trans ⟨rfl, rfl, rfl, by simp⟩⟩

theorem zero_run {z : List Value} [i : TZero P t z] (w : World) : ∃ zv, (zeroValue t).run P w = .ok zv w ∧ zv.cells = z.toArray := by
  have h := i.h
  cases hi : P.info? t with
  | none => simp [hi] at h
  | some inf =>
    simp [hi] at h
    obtain ⟨zv, h1, h2⟩ := h
    exact ⟨zv, by simp [zeroValue, typeInfo, hi, h1], by rw [← h2]⟩

theorem TR_alloc0 {z : List Value} [TZero P t z] (hw : wantS ops σ ⟨some d, .alloc t, ty, p, af, g⟩ = true)
    (k : ∀ b, TR P ops Q n ds w₀ LS rest ([(b, .cells z.toArray t (0, 0))] :: L) (upd σ d (.pointer (some ⟨b, 0, none⟩)))) : TR P ops Q n ds w₀ LS ((⟨some d, .alloc t, ty, p, af, g⟩, 0) :: rest) L σ :=
  TR_new0 hw fun w hs => by
    obtain ⟨zv, h1, h2⟩ := zero_run (P := P) (t := t) w
    exact ⟨_, _, _, by simp [execOp, Instr.alloc, h1, newVar, newRow, h2], newRow_St hs, k _⟩

theorem TR_box0 {v : Value} {cs : List Value} (hx : ev σ x = v) (hc : v.cells = cs.toArray) (hw : wantS ops σ ⟨some d, .box t x, ty, p, af, g⟩ = true)
    (k : ∀ b, TR P ops Q n ds w₀ LS rest ([(b, .cells cs.toArray t (0, 0))] :: L) (upd σ d (.pointer (some ⟨b, 0, none⟩)))) : TR P ops Q n ds w₀ LS ((⟨some d, .box t x, ty, p, af, g⟩, 0) :: rest) L σ :=
  TR_new0 hw fun w hs => ⟨_, _, _, by simp [execOp, Instr.box, hx, newVar, newRow, hc], newRow_St hs, k _⟩

theorem TR_alloc2 {z : List Value} [TZero P t z] (hw : wantS ops σ ⟨some d, .alloc t, ty, p, af, g⟩ = true)
    (k : ∀ b, TR P ops Q n ds w₀ LS rest ([(b, .cells z.toArray t (0, 0))] :: LS) (upd σ d (.pointer (some ⟨b, 0, none⟩)))) : TR P ops Q n ds w₀ LS ((⟨some d, .alloc t, ty, p, af, g⟩, 2) :: rest) LS σ :=
  TR_new2 hw fun w hs => by
    obtain ⟨zv, h1, h2⟩ := zero_run (P := P) (t := t) w
    exact ⟨_, _, _, by simp [execOp, Instr.alloc, h1, newVar, newRow, h2], newRow_St hs, fun w h => h.tail, k _⟩
theorem TR_box2 {v : Value} {cs : List Value} (hx : ev σ x = v) (hc : v.cells = cs.toArray) (hw : wantS ops σ ⟨some d, .box t x, ty, p, af, g⟩ = true)
    (k : ∀ b, TR P ops Q n ds w₀ LS rest ([(b, .cells cs.toArray t (0, 0))] :: LS) (upd σ d (.pointer (some ⟨b, 0, none⟩)))) : TR P ops Q n ds w₀ LS ((⟨some d, .box t x, ty, p, af, g⟩, 2) :: rest) LS σ :=
  TR_new2 hw fun w hs => ⟨_, _, _, by simp [execOp, Instr.box, hx, newVar, newRow, hc], newRow_St hs, fun w h => h.tail, k _⟩
theorem TR_load3 [TScal P t] {b off T : Nat} {cs : List Value} {fz : Nat × Nat} (hx : ev σ x = .pointer (some ⟨b, off, none⟩)) (i : Nat) (hm : LS.tail[i]? = some [(b, .cells cs.toArray T fz)]) (hv : cs[off]? = some v)
    (hw : wantS ops σ ⟨some d, .load t x, ty, p, af, g⟩ = true) (hL : ∀ w, St w₀ w L → St w₀ w LS.tail) (k : TR P ops Q n ds w₀ LS rest L (upd σ d v)) :
    TR P ops Q n ds w₀ LS ((⟨some d, .load t x, ty, p, af, g⟩, 3) :: rest) L σ :=
  TR_ld3 (fun w hs => by simp [execOp, hx, load_run (cell_of (sat_one hs.sat (List.mem_of_getElem? hm)) hv)]) hw hL k

/-! ### A call of a function -/
theorem callFunc_run {f : Nat} [i : TFn P f] (args : Array Value) (w : World) : (callFunc f args).run P w = .ok (.enter f args) w := by
  have h := i.h
  cases hf : P.funcs[f]? with
  | none => simp [hf] at h
  | some fn =>
    simp only [hf, Option.map_some, Option.some.injEq, Bool.or_eq_false_iff] at h
    simp only [callFunc, Sem.run_bind, run_program, Result.andThen_ok, hf, h.1, h.2]
    simp

theorem enter_run {f : Nat} [TFn P f] {fo : Operand} {l : List Operand} {tys : Array Nat} {fs cs avs : List Value} (hf : ev σ fo = .func (.func f) fs.toArray cs.toArray) (ha : fs ++ evs σ l ++ cs = avs) (w : World) :
    (execOp (ev σ) ⟨some d, .call ⟨.value fo, l.toArray, tys⟩, ty, p, af, g⟩).run P w = .ok (.enter f avs.toArray) w := by
  subst ha
  simp [execOp, resolve, hf, Deferred.ofValue, invoke, callFunc_run, evs_eq]

theorem TR_call0 {f : Nat} [TFn P f] {fo : Operand} {l : List Operand} {tys : Array Nat} {fs cs avs : List Value} {C R : List Seg} {Post : Value → List Seg → Prop} (hc : Ct P f avs C Post)
    (hf : ev σ fo = .func (.func f) fs.toArray cs.toArray) (ha : fs ++ evs σ l ++ cs = avs) (hp : Pulls C L R)
    (hw : wantS ops σ ⟨some d, .call ⟨.value fo, l.toArray, tys⟩, ty, p, af, g⟩ = true)
    (k : ∀ v C', Post v C' → TR P ops Q n ds w₀ LS rest (C' ++ R) (upd σ d v)) : TR P ops Q n ds w₀ LS ((⟨some d, .call ⟨.value fo, l.toArray, tys⟩, ty, p, af, g⟩, 0) :: rest) L σ :=
  TR_enter (.inl rfl) hw (enter_run hf ha) hc hp k
theorem TR_call2 {f : Nat} [TFn P f] {fo : Operand} {l : List Operand} {tys : Array Nat} {fs cs avs : List Value} {C R : List Seg} {Post : Value → List Seg → Prop} (hc : Ct P f avs C Post)
    (hf : ev σ fo = .func (.func f) fs.toArray cs.toArray) (ha : fs ++ evs σ l ++ cs = avs) (hp : Pulls C L R)
    (hw : wantS ops σ ⟨some d, .call ⟨.value fo, l.toArray, tys⟩, ty, p, af, g⟩ = true) (hS : ∀ v C' w, Post v C' → St w₀ w (C' ++ R) → St w₀ w LS)
    (k : ∀ v C', Post v C' → TR P ops Q n ds w₀ LS rest (C' ++ R) (upd σ d v)) : TR P ops Q n ds w₀ LS ((⟨some d, .call ⟨.value fo, l.toArray, tys⟩, ty, p, af, g⟩, 2) :: rest) L σ :=
  TR_enter (.inr ⟨rfl, hS⟩) hw (enter_run hf ha) hc hp k

end

/-- A block of cells. -/
abbrev blk (b T : Nat) (l : List Value) : Seg := [(b, .cells l.toArray T (0, 0))]
abbrev ptr (b : Nat) : Value := .pointer (some ⟨b, 0, none⟩)
abbrev i64 (n : Int) : Value := .int .i64 n

section
variable {P : Program} {ops : Array Oper} {Q : Exit → Act → World → Prop} {n : Nat} {ds : List Deferred} {w₀ : World} {LS L L' : List Seg} {σ : Sig} {rest : List (Oper × Nat)} {v : Value} {ro : Option Nat}
theorem TC_drawn' {id : Nat} {ops : Array Oper} (π : List (Nat × Nat)) (hm : P.follows .mixedOrders = true) (hB : drawB n ops π = true)
    (h : TR P ops (NoPanic Q) n ds w₀ L (schedL ops.toList π) L σ) : TC P ro n ds w₀ (.region id ops true) Q L σ := TC_drawn L π hm hB h
theorem TR_gsplit {o : Oper} {k j d : Nat} {wt b : Bool} (hg : o.guard = some (j, wt)) (hd : (ops[j]?).bind (·.dst) = some d) (hb : σ d = .bool b)
    (ht : b = true → TR P ops Q n ds w₀ LS ((o, k) :: rest) L (upd σ d (.bool true))) (hf : b = false → TR P ops Q n ds w₀ LS ((o, k) :: rest) L (upd σ d (.bool false))) :
    TR P ops Q n ds w₀ LS ((o, k) :: rest) L σ := TR_split d hb ht hf
end

/-! ### Calls whose answer is determined -/
/-- From the segments C to the segments C', the answer being X. -/
abbrev Cd (P : Program) (f : FuncId) (args : List Value) (C : List Seg) (X : Value) (C' : List Seg) : Prop := Ct P f args C (fun v D => v = X ∧ D = C')

section
variable {P : Program} {ops : Array Oper} {Q : Exit → Act → World → Prop} {n : Nat} {ds : List Deferred} {w₀ : World} {LS L L' : List Seg} {σ : Sig} {rest : List (Oper × Nat)} {v : Value}
variable {d : Nat} {ty : Nat} {p : String} {af : Array Edge} {g : Option (Nat × Bool)} {x y : Operand} {t : Nat}

theorem TR_wrap_perm {l : List (Oper × Nat)} (h : L.Perm L') (k : TR P ops Q n ds w₀ LS l L' σ) : TR P ops Q n ds w₀ LS l L σ := ⟨fun w hs => k.out w (hs.perm h)⟩

theorem TR_calldP {f : Nat} [TFn P f] {fo : Operand} {l : List Operand} {tys : Array Nat} {fs cs avs : List Value} {C R C' : List Seg} {X : Value} (hc : Cd P f avs C X C')
    (hf : ev σ fo = .func (.func f) fs.toArray cs.toArray) (ha : fs ++ evs σ l ++ cs = avs) (hp : Pulls C L R) (hp' : Pulls C' L' R)
    (hw : wantS ops σ ⟨some d, .call ⟨.value fo, l.toArray, tys⟩, ty, p, af, g⟩ = true)
    (k : TR P ops Q n ds w₀ LS rest L' (upd σ d X)) : TR P ops Q n ds w₀ LS ((⟨some d, .call ⟨.value fo, l.toArray, tys⟩, ty, p, af, g⟩, 0) :: rest) L σ :=
  TR_call0 hc hf ha hp hw fun v D ⟨hv, hD⟩ => by subst hv; subst hD; exact TR_wrap_perm hp'.perm.symm k
theorem TR_calld0 {f : Nat} [TFn P f] {fo : Operand} {l : List Operand} {tys : Array Nat} {fs cs avs : List Value} {M : List Seg} {X : Value} (hc : Cd P f avs [] X [])
    (hf : ev σ fo = .func (.func f) fs.toArray cs.toArray) (ha : fs ++ evs σ l ++ cs = avs) (hL : L = M)
    (hw : wantS ops σ ⟨some d, .call ⟨.value fo, l.toArray, tys⟩, ty, p, af, g⟩ = true)
    (k : TR P ops Q n ds w₀ LS rest (M) (upd σ d X)) : TR P ops Q n ds w₀ LS ((⟨some d, .call ⟨.value fo, l.toArray, tys⟩, ty, p, af, g⟩, 0) :: rest) L σ := by
  subst hL; exact TR_calldP hc hf ha .nil .nil hw k
theorem TR_calld1_0 {f : Nat} [TFn P f] {fo : Operand} {l : List Operand} {tys : Array Nat} {fs cs avs : List Value} {c c'  : Seg} {M : List Seg} {X : Value} (hc : Cd P f avs [c] X [c'])
    (hf : ev σ fo = .func (.func f) fs.toArray cs.toArray) (ha : fs ++ evs σ l ++ cs = avs) (hL : L = c :: M)
    (hw : wantS ops σ ⟨some d, .call ⟨.value fo, l.toArray, tys⟩, ty, p, af, g⟩ = true)
    (k : TR P ops Q n ds w₀ LS rest (c' :: M) (upd σ d X)) : TR P ops Q n ds w₀ LS ((⟨some d, .call ⟨.value fo, l.toArray, tys⟩, ty, p, af, g⟩, 0) :: rest) L σ := by
  subst hL; exact TR_calldP hc hf ha (.cons .here .nil) (.cons .here .nil) hw k
theorem TR_calld1_1 {f : Nat} [TFn P f] {fo : Operand} {l : List Operand} {tys : Array Nat} {fs cs avs : List Value} {c c' X0 : Seg} {M : List Seg} {X : Value} (hc : Cd P f avs [c] X [c'])
    (hf : ev σ fo = .func (.func f) fs.toArray cs.toArray) (ha : fs ++ evs σ l ++ cs = avs) (hL : L = X0 :: c :: M)
    (hw : wantS ops σ ⟨some d, .call ⟨.value fo, l.toArray, tys⟩, ty, p, af, g⟩ = true)
    (k : TR P ops Q n ds w₀ LS rest (X0 :: c' :: M) (upd σ d X)) : TR P ops Q n ds w₀ LS ((⟨some d, .call ⟨.value fo, l.toArray, tys⟩, ty, p, af, g⟩, 0) :: rest) L σ := by
  subst hL; exact TR_calldP hc hf ha (.cons (.there .here) .nil) (.cons (.there .here) .nil) hw k
theorem TR_calld1_2 {f : Nat} [TFn P f] {fo : Operand} {l : List Operand} {tys : Array Nat} {fs cs avs : List Value} {c c' X0 X1 : Seg} {M : List Seg} {X : Value} (hc : Cd P f avs [c] X [c'])
    (hf : ev σ fo = .func (.func f) fs.toArray cs.toArray) (ha : fs ++ evs σ l ++ cs = avs) (hL : L = X0 :: X1 :: c :: M)
    (hw : wantS ops σ ⟨some d, .call ⟨.value fo, l.toArray, tys⟩, ty, p, af, g⟩ = true)
    (k : TR P ops Q n ds w₀ LS rest (X0 :: X1 :: c' :: M) (upd σ d X)) : TR P ops Q n ds w₀ LS ((⟨some d, .call ⟨.value fo, l.toArray, tys⟩, ty, p, af, g⟩, 0) :: rest) L σ := by
  subst hL; exact TR_calldP hc hf ha (.cons (.there (.there .here)) .nil) (.cons (.there (.there .here)) .nil) hw k
theorem TR_calld1_3 {f : Nat} [TFn P f] {fo : Operand} {l : List Operand} {tys : Array Nat} {fs cs avs : List Value} {c c' X0 X1 X2 : Seg} {M : List Seg} {X : Value} (hc : Cd P f avs [c] X [c'])
    (hf : ev σ fo = .func (.func f) fs.toArray cs.toArray) (ha : fs ++ evs σ l ++ cs = avs) (hL : L = X0 :: X1 :: X2 :: c :: M)
    (hw : wantS ops σ ⟨some d, .call ⟨.value fo, l.toArray, tys⟩, ty, p, af, g⟩ = true)
    (k : TR P ops Q n ds w₀ LS rest (X0 :: X1 :: X2 :: c' :: M) (upd σ d X)) : TR P ops Q n ds w₀ LS ((⟨some d, .call ⟨.value fo, l.toArray, tys⟩, ty, p, af, g⟩, 0) :: rest) L σ := by
  subst hL; exact TR_calldP hc hf ha (.cons (.there (.there (.there .here))) .nil) (.cons (.there (.there (.there .here))) .nil) hw k
theorem TR_calld1_4 {f : Nat} [TFn P f] {fo : Operand} {l : List Operand} {tys : Array Nat} {fs cs avs : List Value} {c c' X0 X1 X2 X3 : Seg} {M : List Seg} {X : Value} (hc : Cd P f avs [c] X [c'])
    (hf : ev σ fo = .func (.func f) fs.toArray cs.toArray) (ha : fs ++ evs σ l ++ cs = avs) (hL : L = X0 :: X1 :: X2 :: X3 :: c :: M)
    (hw : wantS ops σ ⟨some d, .call ⟨.value fo, l.toArray, tys⟩, ty, p, af, g⟩ = true)
    (k : TR P ops Q n ds w₀ LS rest (X0 :: X1 :: X2 :: X3 :: c' :: M) (upd σ d X)) : TR P ops Q n ds w₀ LS ((⟨some d, .call ⟨.value fo, l.toArray, tys⟩, ty, p, af, g⟩, 0) :: rest) L σ := by
  subst hL; exact TR_calldP hc hf ha (.cons (.there (.there (.there (.there .here)))) .nil) (.cons (.there (.there (.there (.there .here)))) .nil) hw k
theorem TR_calld1_5 {f : Nat} [TFn P f] {fo : Operand} {l : List Operand} {tys : Array Nat} {fs cs avs : List Value} {c c' X0 X1 X2 X3 X4 : Seg} {M : List Seg} {X : Value} (hc : Cd P f avs [c] X [c'])
    (hf : ev σ fo = .func (.func f) fs.toArray cs.toArray) (ha : fs ++ evs σ l ++ cs = avs) (hL : L = X0 :: X1 :: X2 :: X3 :: X4 :: c :: M)
    (hw : wantS ops σ ⟨some d, .call ⟨.value fo, l.toArray, tys⟩, ty, p, af, g⟩ = true)
    (k : TR P ops Q n ds w₀ LS rest (X0 :: X1 :: X2 :: X3 :: X4 :: c' :: M) (upd σ d X)) : TR P ops Q n ds w₀ LS ((⟨some d, .call ⟨.value fo, l.toArray, tys⟩, ty, p, af, g⟩, 0) :: rest) L σ := by
  subst hL; exact TR_calldP hc hf ha (.cons (.there (.there (.there (.there (.there .here))))) .nil) (.cons (.there (.there (.there (.there (.there .here))))) .nil) hw k
theorem TR_calld1_6 {f : Nat} [TFn P f] {fo : Operand} {l : List Operand} {tys : Array Nat} {fs cs avs : List Value} {c c' X0 X1 X2 X3 X4 X5 : Seg} {M : List Seg} {X : Value} (hc : Cd P f avs [c] X [c'])
    (hf : ev σ fo = .func (.func f) fs.toArray cs.toArray) (ha : fs ++ evs σ l ++ cs = avs) (hL : L = X0 :: X1 :: X2 :: X3 :: X4 :: X5 :: c :: M)
    (hw : wantS ops σ ⟨some d, .call ⟨.value fo, l.toArray, tys⟩, ty, p, af, g⟩ = true)
    (k : TR P ops Q n ds w₀ LS rest (X0 :: X1 :: X2 :: X3 :: X4 :: X5 :: c' :: M) (upd σ d X)) : TR P ops Q n ds w₀ LS ((⟨some d, .call ⟨.value fo, l.toArray, tys⟩, ty, p, af, g⟩, 0) :: rest) L σ := by
  subst hL; exact TR_calldP hc hf ha (.cons (.there (.there (.there (.there (.there (.there .here)))))) .nil) (.cons (.there (.there (.there (.there (.there (.there .here)))))) .nil) hw k
theorem TR_calld1_7 {f : Nat} [TFn P f] {fo : Operand} {l : List Operand} {tys : Array Nat} {fs cs avs : List Value} {c c' X0 X1 X2 X3 X4 X5 X6 : Seg} {M : List Seg} {X : Value} (hc : Cd P f avs [c] X [c'])
    (hf : ev σ fo = .func (.func f) fs.toArray cs.toArray) (ha : fs ++ evs σ l ++ cs = avs) (hL : L = X0 :: X1 :: X2 :: X3 :: X4 :: X5 :: X6 :: c :: M)
    (hw : wantS ops σ ⟨some d, .call ⟨.value fo, l.toArray, tys⟩, ty, p, af, g⟩ = true)
    (k : TR P ops Q n ds w₀ LS rest (X0 :: X1 :: X2 :: X3 :: X4 :: X5 :: X6 :: c' :: M) (upd σ d X)) : TR P ops Q n ds w₀ LS ((⟨some d, .call ⟨.value fo, l.toArray, tys⟩, ty, p, af, g⟩, 0) :: rest) L σ := by
  subst hL; exact TR_calldP hc hf ha (.cons (.there (.there (.there (.there (.there (.there (.there .here))))))) .nil) (.cons (.there (.there (.there (.there (.there (.there (.there .here))))))) .nil) hw k
theorem TR_calld2_0_1 {f : Nat} [TFn P f] {fo : Operand} {l : List Operand} {tys : Array Nat} {fs cs avs : List Value} {a a' b b'  : Seg} {M : List Seg} {X : Value} (hc : Cd P f avs [a, b] X [a', b'])
    (hf : ev σ fo = .func (.func f) fs.toArray cs.toArray) (ha : fs ++ evs σ l ++ cs = avs) (hL : L = a :: b :: M)
    (hw : wantS ops σ ⟨some d, .call ⟨.value fo, l.toArray, tys⟩, ty, p, af, g⟩ = true)
    (k : TR P ops Q n ds w₀ LS rest (a' :: b' :: M) (upd σ d X)) : TR P ops Q n ds w₀ LS ((⟨some d, .call ⟨.value fo, l.toArray, tys⟩, ty, p, af, g⟩, 0) :: rest) L σ := by
  subst hL; exact TR_calldP hc hf ha (.cons .here (.cons .here .nil)) (.cons .here (.cons .here .nil)) hw k
theorem TR_calld2_0_2 {f : Nat} [TFn P f] {fo : Operand} {l : List Operand} {tys : Array Nat} {fs cs avs : List Value} {a a' b b' X1 : Seg} {M : List Seg} {X : Value} (hc : Cd P f avs [a, b] X [a', b'])
    (hf : ev σ fo = .func (.func f) fs.toArray cs.toArray) (ha : fs ++ evs σ l ++ cs = avs) (hL : L = a :: X1 :: b :: M)
    (hw : wantS ops σ ⟨some d, .call ⟨.value fo, l.toArray, tys⟩, ty, p, af, g⟩ = true)
    (k : TR P ops Q n ds w₀ LS rest (a' :: X1 :: b' :: M) (upd σ d X)) : TR P ops Q n ds w₀ LS ((⟨some d, .call ⟨.value fo, l.toArray, tys⟩, ty, p, af, g⟩, 0) :: rest) L σ := by
  subst hL; exact TR_calldP hc hf ha (.cons .here (.cons (.there .here) .nil)) (.cons .here (.cons (.there .here) .nil)) hw k
theorem TR_calld2_0_3 {f : Nat} [TFn P f] {fo : Operand} {l : List Operand} {tys : Array Nat} {fs cs avs : List Value} {a a' b b' X1 X2 : Seg} {M : List Seg} {X : Value} (hc : Cd P f avs [a, b] X [a', b'])
    (hf : ev σ fo = .func (.func f) fs.toArray cs.toArray) (ha : fs ++ evs σ l ++ cs = avs) (hL : L = a :: X1 :: X2 :: b :: M)
    (hw : wantS ops σ ⟨some d, .call ⟨.value fo, l.toArray, tys⟩, ty, p, af, g⟩ = true)
    (k : TR P ops Q n ds w₀ LS rest (a' :: X1 :: X2 :: b' :: M) (upd σ d X)) : TR P ops Q n ds w₀ LS ((⟨some d, .call ⟨.value fo, l.toArray, tys⟩, ty, p, af, g⟩, 0) :: rest) L σ := by
  subst hL; exact TR_calldP hc hf ha (.cons .here (.cons (.there (.there .here)) .nil)) (.cons .here (.cons (.there (.there .here)) .nil)) hw k
theorem TR_calld2_0_4 {f : Nat} [TFn P f] {fo : Operand} {l : List Operand} {tys : Array Nat} {fs cs avs : List Value} {a a' b b' X1 X2 X3 : Seg} {M : List Seg} {X : Value} (hc : Cd P f avs [a, b] X [a', b'])
    (hf : ev σ fo = .func (.func f) fs.toArray cs.toArray) (ha : fs ++ evs σ l ++ cs = avs) (hL : L = a :: X1 :: X2 :: X3 :: b :: M)
    (hw : wantS ops σ ⟨some d, .call ⟨.value fo, l.toArray, tys⟩, ty, p, af, g⟩ = true)
    (k : TR P ops Q n ds w₀ LS rest (a' :: X1 :: X2 :: X3 :: b' :: M) (upd σ d X)) : TR P ops Q n ds w₀ LS ((⟨some d, .call ⟨.value fo, l.toArray, tys⟩, ty, p, af, g⟩, 0) :: rest) L σ := by
  subst hL; exact TR_calldP hc hf ha (.cons .here (.cons (.there (.there (.there .here))) .nil)) (.cons .here (.cons (.there (.there (.there .here))) .nil)) hw k
theorem TR_calld2_0_5 {f : Nat} [TFn P f] {fo : Operand} {l : List Operand} {tys : Array Nat} {fs cs avs : List Value} {a a' b b' X1 X2 X3 X4 : Seg} {M : List Seg} {X : Value} (hc : Cd P f avs [a, b] X [a', b'])
    (hf : ev σ fo = .func (.func f) fs.toArray cs.toArray) (ha : fs ++ evs σ l ++ cs = avs) (hL : L = a :: X1 :: X2 :: X3 :: X4 :: b :: M)
    (hw : wantS ops σ ⟨some d, .call ⟨.value fo, l.toArray, tys⟩, ty, p, af, g⟩ = true)
    (k : TR P ops Q n ds w₀ LS rest (a' :: X1 :: X2 :: X3 :: X4 :: b' :: M) (upd σ d X)) : TR P ops Q n ds w₀ LS ((⟨some d, .call ⟨.value fo, l.toArray, tys⟩, ty, p, af, g⟩, 0) :: rest) L σ := by
  subst hL; exact TR_calldP hc hf ha (.cons .here (.cons (.there (.there (.there (.there .here)))) .nil)) (.cons .here (.cons (.there (.there (.there (.there .here)))) .nil)) hw k
theorem TR_calld2_0_6 {f : Nat} [TFn P f] {fo : Operand} {l : List Operand} {tys : Array Nat} {fs cs avs : List Value} {a a' b b' X1 X2 X3 X4 X5 : Seg} {M : List Seg} {X : Value} (hc : Cd P f avs [a, b] X [a', b'])
    (hf : ev σ fo = .func (.func f) fs.toArray cs.toArray) (ha : fs ++ evs σ l ++ cs = avs) (hL : L = a :: X1 :: X2 :: X3 :: X4 :: X5 :: b :: M)
    (hw : wantS ops σ ⟨some d, .call ⟨.value fo, l.toArray, tys⟩, ty, p, af, g⟩ = true)
    (k : TR P ops Q n ds w₀ LS rest (a' :: X1 :: X2 :: X3 :: X4 :: X5 :: b' :: M) (upd σ d X)) : TR P ops Q n ds w₀ LS ((⟨some d, .call ⟨.value fo, l.toArray, tys⟩, ty, p, af, g⟩, 0) :: rest) L σ := by
  subst hL; exact TR_calldP hc hf ha (.cons .here (.cons (.there (.there (.there (.there (.there .here))))) .nil)) (.cons .here (.cons (.there (.there (.there (.there (.there .here))))) .nil)) hw k
theorem TR_calld2_1_0 {f : Nat} [TFn P f] {fo : Operand} {l : List Operand} {tys : Array Nat} {fs cs avs : List Value} {a a' b b'  : Seg} {M : List Seg} {X : Value} (hc : Cd P f avs [a, b] X [a', b'])
    (hf : ev σ fo = .func (.func f) fs.toArray cs.toArray) (ha : fs ++ evs σ l ++ cs = avs) (hL : L = b :: a :: M)
    (hw : wantS ops σ ⟨some d, .call ⟨.value fo, l.toArray, tys⟩, ty, p, af, g⟩ = true)
    (k : TR P ops Q n ds w₀ LS rest (b' :: a' :: M) (upd σ d X)) : TR P ops Q n ds w₀ LS ((⟨some d, .call ⟨.value fo, l.toArray, tys⟩, ty, p, af, g⟩, 0) :: rest) L σ := by
  subst hL; exact TR_calldP hc hf ha (.cons (.there .here) (.cons .here .nil)) (.cons (.there .here) (.cons .here .nil)) hw k
theorem TR_calld2_1_2 {f : Nat} [TFn P f] {fo : Operand} {l : List Operand} {tys : Array Nat} {fs cs avs : List Value} {a a' b b' X0 : Seg} {M : List Seg} {X : Value} (hc : Cd P f avs [a, b] X [a', b'])
    (hf : ev σ fo = .func (.func f) fs.toArray cs.toArray) (ha : fs ++ evs σ l ++ cs = avs) (hL : L = X0 :: a :: b :: M)
    (hw : wantS ops σ ⟨some d, .call ⟨.value fo, l.toArray, tys⟩, ty, p, af, g⟩ = true)
    (k : TR P ops Q n ds w₀ LS rest (X0 :: a' :: b' :: M) (upd σ d X)) : TR P ops Q n ds w₀ LS ((⟨some d, .call ⟨.value fo, l.toArray, tys⟩, ty, p, af, g⟩, 0) :: rest) L σ := by
  subst hL; exact TR_calldP hc hf ha (.cons (.there .here) (.cons (.there .here) .nil)) (.cons (.there .here) (.cons (.there .here) .nil)) hw k
theorem TR_calld2_1_3 {f : Nat} [TFn P f] {fo : Operand} {l : List Operand} {tys : Array Nat} {fs cs avs : List Value} {a a' b b' X0 X2 : Seg} {M : List Seg} {X : Value} (hc : Cd P f avs [a, b] X [a', b'])
    (hf : ev σ fo = .func (.func f) fs.toArray cs.toArray) (ha : fs ++ evs σ l ++ cs = avs) (hL : L = X0 :: a :: X2 :: b :: M)
    (hw : wantS ops σ ⟨some d, .call ⟨.value fo, l.toArray, tys⟩, ty, p, af, g⟩ = true)
    (k : TR P ops Q n ds w₀ LS rest (X0 :: a' :: X2 :: b' :: M) (upd σ d X)) : TR P ops Q n ds w₀ LS ((⟨some d, .call ⟨.value fo, l.toArray, tys⟩, ty, p, af, g⟩, 0) :: rest) L σ := by
  subst hL; exact TR_calldP hc hf ha (.cons (.there .here) (.cons (.there (.there .here)) .nil)) (.cons (.there .here) (.cons (.there (.there .here)) .nil)) hw k
theorem TR_calld2_1_4 {f : Nat} [TFn P f] {fo : Operand} {l : List Operand} {tys : Array Nat} {fs cs avs : List Value} {a a' b b' X0 X2 X3 : Seg} {M : List Seg} {X : Value} (hc : Cd P f avs [a, b] X [a', b'])
    (hf : ev σ fo = .func (.func f) fs.toArray cs.toArray) (ha : fs ++ evs σ l ++ cs = avs) (hL : L = X0 :: a :: X2 :: X3 :: b :: M)
    (hw : wantS ops σ ⟨some d, .call ⟨.value fo, l.toArray, tys⟩, ty, p, af, g⟩ = true)
    (k : TR P ops Q n ds w₀ LS rest (X0 :: a' :: X2 :: X3 :: b' :: M) (upd σ d X)) : TR P ops Q n ds w₀ LS ((⟨some d, .call ⟨.value fo, l.toArray, tys⟩, ty, p, af, g⟩, 0) :: rest) L σ := by
  subst hL; exact TR_calldP hc hf ha (.cons (.there .here) (.cons (.there (.there (.there .here))) .nil)) (.cons (.there .here) (.cons (.there (.there (.there .here))) .nil)) hw k
theorem TR_calld2_1_5 {f : Nat} [TFn P f] {fo : Operand} {l : List Operand} {tys : Array Nat} {fs cs avs : List Value} {a a' b b' X0 X2 X3 X4 : Seg} {M : List Seg} {X : Value} (hc : Cd P f avs [a, b] X [a', b'])
    (hf : ev σ fo = .func (.func f) fs.toArray cs.toArray) (ha : fs ++ evs σ l ++ cs = avs) (hL : L = X0 :: a :: X2 :: X3 :: X4 :: b :: M)
    (hw : wantS ops σ ⟨some d, .call ⟨.value fo, l.toArray, tys⟩, ty, p, af, g⟩ = true)
    (k : TR P ops Q n ds w₀ LS rest (X0 :: a' :: X2 :: X3 :: X4 :: b' :: M) (upd σ d X)) : TR P ops Q n ds w₀ LS ((⟨some d, .call ⟨.value fo, l.toArray, tys⟩, ty, p, af, g⟩, 0) :: rest) L σ := by
  subst hL; exact TR_calldP hc hf ha (.cons (.there .here) (.cons (.there (.there (.there (.there .here)))) .nil)) (.cons (.there .here) (.cons (.there (.there (.there (.there .here)))) .nil)) hw k
theorem TR_calld2_1_6 {f : Nat} [TFn P f] {fo : Operand} {l : List Operand} {tys : Array Nat} {fs cs avs : List Value} {a a' b b' X0 X2 X3 X4 X5 : Seg} {M : List Seg} {X : Value} (hc : Cd P f avs [a, b] X [a', b'])
    (hf : ev σ fo = .func (.func f) fs.toArray cs.toArray) (ha : fs ++ evs σ l ++ cs = avs) (hL : L = X0 :: a :: X2 :: X3 :: X4 :: X5 :: b :: M)
    (hw : wantS ops σ ⟨some d, .call ⟨.value fo, l.toArray, tys⟩, ty, p, af, g⟩ = true)
    (k : TR P ops Q n ds w₀ LS rest (X0 :: a' :: X2 :: X3 :: X4 :: X5 :: b' :: M) (upd σ d X)) : TR P ops Q n ds w₀ LS ((⟨some d, .call ⟨.value fo, l.toArray, tys⟩, ty, p, af, g⟩, 0) :: rest) L σ := by
  subst hL; exact TR_calldP hc hf ha (.cons (.there .here) (.cons (.there (.there (.there (.there (.there .here))))) .nil)) (.cons (.there .here) (.cons (.there (.there (.there (.there (.there .here))))) .nil)) hw k
theorem TR_calld2_2_0 {f : Nat} [TFn P f] {fo : Operand} {l : List Operand} {tys : Array Nat} {fs cs avs : List Value} {a a' b b' X1 : Seg} {M : List Seg} {X : Value} (hc : Cd P f avs [a, b] X [a', b'])
    (hf : ev σ fo = .func (.func f) fs.toArray cs.toArray) (ha : fs ++ evs σ l ++ cs = avs) (hL : L = b :: X1 :: a :: M)
    (hw : wantS ops σ ⟨some d, .call ⟨.value fo, l.toArray, tys⟩, ty, p, af, g⟩ = true)
    (k : TR P ops Q n ds w₀ LS rest (b' :: X1 :: a' :: M) (upd σ d X)) : TR P ops Q n ds w₀ LS ((⟨some d, .call ⟨.value fo, l.toArray, tys⟩, ty, p, af, g⟩, 0) :: rest) L σ := by
  subst hL; exact TR_calldP hc hf ha (.cons (.there (.there .here)) (.cons .here .nil)) (.cons (.there (.there .here)) (.cons .here .nil)) hw k
theorem TR_calld2_2_1 {f : Nat} [TFn P f] {fo : Operand} {l : List Operand} {tys : Array Nat} {fs cs avs : List Value} {a a' b b' X0 : Seg} {M : List Seg} {X : Value} (hc : Cd P f avs [a, b] X [a', b'])
    (hf : ev σ fo = .func (.func f) fs.toArray cs.toArray) (ha : fs ++ evs σ l ++ cs = avs) (hL : L = X0 :: b :: a :: M)
    (hw : wantS ops σ ⟨some d, .call ⟨.value fo, l.toArray, tys⟩, ty, p, af, g⟩ = true)
    (k : TR P ops Q n ds w₀ LS rest (X0 :: b' :: a' :: M) (upd σ d X)) : TR P ops Q n ds w₀ LS ((⟨some d, .call ⟨.value fo, l.toArray, tys⟩, ty, p, af, g⟩, 0) :: rest) L σ := by
  subst hL; exact TR_calldP hc hf ha (.cons (.there (.there .here)) (.cons (.there .here) .nil)) (.cons (.there (.there .here)) (.cons (.there .here) .nil)) hw k
theorem TR_calld2_2_3 {f : Nat} [TFn P f] {fo : Operand} {l : List Operand} {tys : Array Nat} {fs cs avs : List Value} {a a' b b' X0 X1 : Seg} {M : List Seg} {X : Value} (hc : Cd P f avs [a, b] X [a', b'])
    (hf : ev σ fo = .func (.func f) fs.toArray cs.toArray) (ha : fs ++ evs σ l ++ cs = avs) (hL : L = X0 :: X1 :: a :: b :: M)
    (hw : wantS ops σ ⟨some d, .call ⟨.value fo, l.toArray, tys⟩, ty, p, af, g⟩ = true)
    (k : TR P ops Q n ds w₀ LS rest (X0 :: X1 :: a' :: b' :: M) (upd σ d X)) : TR P ops Q n ds w₀ LS ((⟨some d, .call ⟨.value fo, l.toArray, tys⟩, ty, p, af, g⟩, 0) :: rest) L σ := by
  subst hL; exact TR_calldP hc hf ha (.cons (.there (.there .here)) (.cons (.there (.there .here)) .nil)) (.cons (.there (.there .here)) (.cons (.there (.there .here)) .nil)) hw k
theorem TR_calld2_2_4 {f : Nat} [TFn P f] {fo : Operand} {l : List Operand} {tys : Array Nat} {fs cs avs : List Value} {a a' b b' X0 X1 X3 : Seg} {M : List Seg} {X : Value} (hc : Cd P f avs [a, b] X [a', b'])
    (hf : ev σ fo = .func (.func f) fs.toArray cs.toArray) (ha : fs ++ evs σ l ++ cs = avs) (hL : L = X0 :: X1 :: a :: X3 :: b :: M)
    (hw : wantS ops σ ⟨some d, .call ⟨.value fo, l.toArray, tys⟩, ty, p, af, g⟩ = true)
    (k : TR P ops Q n ds w₀ LS rest (X0 :: X1 :: a' :: X3 :: b' :: M) (upd σ d X)) : TR P ops Q n ds w₀ LS ((⟨some d, .call ⟨.value fo, l.toArray, tys⟩, ty, p, af, g⟩, 0) :: rest) L σ := by
  subst hL; exact TR_calldP hc hf ha (.cons (.there (.there .here)) (.cons (.there (.there (.there .here))) .nil)) (.cons (.there (.there .here)) (.cons (.there (.there (.there .here))) .nil)) hw k
theorem TR_calld2_2_5 {f : Nat} [TFn P f] {fo : Operand} {l : List Operand} {tys : Array Nat} {fs cs avs : List Value} {a a' b b' X0 X1 X3 X4 : Seg} {M : List Seg} {X : Value} (hc : Cd P f avs [a, b] X [a', b'])
    (hf : ev σ fo = .func (.func f) fs.toArray cs.toArray) (ha : fs ++ evs σ l ++ cs = avs) (hL : L = X0 :: X1 :: a :: X3 :: X4 :: b :: M)
    (hw : wantS ops σ ⟨some d, .call ⟨.value fo, l.toArray, tys⟩, ty, p, af, g⟩ = true)
    (k : TR P ops Q n ds w₀ LS rest (X0 :: X1 :: a' :: X3 :: X4 :: b' :: M) (upd σ d X)) : TR P ops Q n ds w₀ LS ((⟨some d, .call ⟨.value fo, l.toArray, tys⟩, ty, p, af, g⟩, 0) :: rest) L σ := by
  subst hL; exact TR_calldP hc hf ha (.cons (.there (.there .here)) (.cons (.there (.there (.there (.there .here)))) .nil)) (.cons (.there (.there .here)) (.cons (.there (.there (.there (.there .here)))) .nil)) hw k
theorem TR_calld2_2_6 {f : Nat} [TFn P f] {fo : Operand} {l : List Operand} {tys : Array Nat} {fs cs avs : List Value} {a a' b b' X0 X1 X3 X4 X5 : Seg} {M : List Seg} {X : Value} (hc : Cd P f avs [a, b] X [a', b'])
    (hf : ev σ fo = .func (.func f) fs.toArray cs.toArray) (ha : fs ++ evs σ l ++ cs = avs) (hL : L = X0 :: X1 :: a :: X3 :: X4 :: X5 :: b :: M)
    (hw : wantS ops σ ⟨some d, .call ⟨.value fo, l.toArray, tys⟩, ty, p, af, g⟩ = true)
    (k : TR P ops Q n ds w₀ LS rest (X0 :: X1 :: a' :: X3 :: X4 :: X5 :: b' :: M) (upd σ d X)) : TR P ops Q n ds w₀ LS ((⟨some d, .call ⟨.value fo, l.toArray, tys⟩, ty, p, af, g⟩, 0) :: rest) L σ := by
  subst hL; exact TR_calldP hc hf ha (.cons (.there (.there .here)) (.cons (.there (.there (.there (.there (.there .here))))) .nil)) (.cons (.there (.there .here)) (.cons (.there (.there (.there (.there (.there .here))))) .nil)) hw k
theorem TR_calld2_3_0 {f : Nat} [TFn P f] {fo : Operand} {l : List Operand} {tys : Array Nat} {fs cs avs : List Value} {a a' b b' X1 X2 : Seg} {M : List Seg} {X : Value} (hc : Cd P f avs [a, b] X [a', b'])
    (hf : ev σ fo = .func (.func f) fs.toArray cs.toArray) (ha : fs ++ evs σ l ++ cs = avs) (hL : L = b :: X1 :: X2 :: a :: M)
    (hw : wantS ops σ ⟨some d, .call ⟨.value fo, l.toArray, tys⟩, ty, p, af, g⟩ = true)
    (k : TR P ops Q n ds w₀ LS rest (b' :: X1 :: X2 :: a' :: M) (upd σ d X)) : TR P ops Q n ds w₀ LS ((⟨some d, .call ⟨.value fo, l.toArray, tys⟩, ty, p, af, g⟩, 0) :: rest) L σ := by
  subst hL; exact TR_calldP hc hf ha (.cons (.there (.there (.there .here))) (.cons .here .nil)) (.cons (.there (.there (.there .here))) (.cons .here .nil)) hw k
theorem TR_calld2_3_1 {f : Nat} [TFn P f] {fo : Operand} {l : List Operand} {tys : Array Nat} {fs cs avs : List Value} {a a' b b' X0 X2 : Seg} {M : List Seg} {X : Value} (hc : Cd P f avs [a, b] X [a', b'])
    (hf : ev σ fo = .func (.func f) fs.toArray cs.toArray) (ha : fs ++ evs σ l ++ cs = avs) (hL : L = X0 :: b :: X2 :: a :: M)
    (hw : wantS ops σ ⟨some d, .call ⟨.value fo, l.toArray, tys⟩, ty, p, af, g⟩ = true)
    (k : TR P ops Q n ds w₀ LS rest (X0 :: b' :: X2 :: a' :: M) (upd σ d X)) : TR P ops Q n ds w₀ LS ((⟨some d, .call ⟨.value fo, l.toArray, tys⟩, ty, p, af, g⟩, 0) :: rest) L σ := by
  subst hL; exact TR_calldP hc hf ha (.cons (.there (.there (.there .here))) (.cons (.there .here) .nil)) (.cons (.there (.there (.there .here))) (.cons (.there .here) .nil)) hw k
theorem TR_calld2_3_2 {f : Nat} [TFn P f] {fo : Operand} {l : List Operand} {tys : Array Nat} {fs cs avs : List Value} {a a' b b' X0 X1 : Seg} {M : List Seg} {X : Value} (hc : Cd P f avs [a, b] X [a', b'])
    (hf : ev σ fo = .func (.func f) fs.toArray cs.toArray) (ha : fs ++ evs σ l ++ cs = avs) (hL : L = X0 :: X1 :: b :: a :: M)
    (hw : wantS ops σ ⟨some d, .call ⟨.value fo, l.toArray, tys⟩, ty, p, af, g⟩ = true)
    (k : TR P ops Q n ds w₀ LS rest (X0 :: X1 :: b' :: a' :: M) (upd σ d X)) : TR P ops Q n ds w₀ LS ((⟨some d, .call ⟨.value fo, l.toArray, tys⟩, ty, p, af, g⟩, 0) :: rest) L σ := by
  subst hL; exact TR_calldP hc hf ha (.cons (.there (.there (.there .here))) (.cons (.there (.there .here)) .nil)) (.cons (.there (.there (.there .here))) (.cons (.there (.there .here)) .nil)) hw k
theorem TR_calld2_3_4 {f : Nat} [TFn P f] {fo : Operand} {l : List Operand} {tys : Array Nat} {fs cs avs : List Value} {a a' b b' X0 X1 X2 : Seg} {M : List Seg} {X : Value} (hc : Cd P f avs [a, b] X [a', b'])
    (hf : ev σ fo = .func (.func f) fs.toArray cs.toArray) (ha : fs ++ evs σ l ++ cs = avs) (hL : L = X0 :: X1 :: X2 :: a :: b :: M)
    (hw : wantS ops σ ⟨some d, .call ⟨.value fo, l.toArray, tys⟩, ty, p, af, g⟩ = true)
    (k : TR P ops Q n ds w₀ LS rest (X0 :: X1 :: X2 :: a' :: b' :: M) (upd σ d X)) : TR P ops Q n ds w₀ LS ((⟨some d, .call ⟨.value fo, l.toArray, tys⟩, ty, p, af, g⟩, 0) :: rest) L σ := by
  subst hL; exact TR_calldP hc hf ha (.cons (.there (.there (.there .here))) (.cons (.there (.there (.there .here))) .nil)) (.cons (.there (.there (.there .here))) (.cons (.there (.there (.there .here))) .nil)) hw k
theorem TR_calld2_3_5 {f : Nat} [TFn P f] {fo : Operand} {l : List Operand} {tys : Array Nat} {fs cs avs : List Value} {a a' b b' X0 X1 X2 X4 : Seg} {M : List Seg} {X : Value} (hc : Cd P f avs [a, b] X [a', b'])
    (hf : ev σ fo = .func (.func f) fs.toArray cs.toArray) (ha : fs ++ evs σ l ++ cs = avs) (hL : L = X0 :: X1 :: X2 :: a :: X4 :: b :: M)
    (hw : wantS ops σ ⟨some d, .call ⟨.value fo, l.toArray, tys⟩, ty, p, af, g⟩ = true)
    (k : TR P ops Q n ds w₀ LS rest (X0 :: X1 :: X2 :: a' :: X4 :: b' :: M) (upd σ d X)) : TR P ops Q n ds w₀ LS ((⟨some d, .call ⟨.value fo, l.toArray, tys⟩, ty, p, af, g⟩, 0) :: rest) L σ := by
  subst hL; exact TR_calldP hc hf ha (.cons (.there (.there (.there .here))) (.cons (.there (.there (.there (.there .here)))) .nil)) (.cons (.there (.there (.there .here))) (.cons (.there (.there (.there (.there .here)))) .nil)) hw k
theorem TR_calld2_3_6 {f : Nat} [TFn P f] {fo : Operand} {l : List Operand} {tys : Array Nat} {fs cs avs : List Value} {a a' b b' X0 X1 X2 X4 X5 : Seg} {M : List Seg} {X : Value} (hc : Cd P f avs [a, b] X [a', b'])
    (hf : ev σ fo = .func (.func f) fs.toArray cs.toArray) (ha : fs ++ evs σ l ++ cs = avs) (hL : L = X0 :: X1 :: X2 :: a :: X4 :: X5 :: b :: M)
    (hw : wantS ops σ ⟨some d, .call ⟨.value fo, l.toArray, tys⟩, ty, p, af, g⟩ = true)
    (k : TR P ops Q n ds w₀ LS rest (X0 :: X1 :: X2 :: a' :: X4 :: X5 :: b' :: M) (upd σ d X)) : TR P ops Q n ds w₀ LS ((⟨some d, .call ⟨.value fo, l.toArray, tys⟩, ty, p, af, g⟩, 0) :: rest) L σ := by
  subst hL; exact TR_calldP hc hf ha (.cons (.there (.there (.there .here))) (.cons (.there (.there (.there (.there (.there .here))))) .nil)) (.cons (.there (.there (.there .here))) (.cons (.there (.there (.there (.there (.there .here))))) .nil)) hw k
theorem TR_calld2_4_0 {f : Nat} [TFn P f] {fo : Operand} {l : List Operand} {tys : Array Nat} {fs cs avs : List Value} {a a' b b' X1 X2 X3 : Seg} {M : List Seg} {X : Value} (hc : Cd P f avs [a, b] X [a', b'])
    (hf : ev σ fo = .func (.func f) fs.toArray cs.toArray) (ha : fs ++ evs σ l ++ cs = avs) (hL : L = b :: X1 :: X2 :: X3 :: a :: M)
    (hw : wantS ops σ ⟨some d, .call ⟨.value fo, l.toArray, tys⟩, ty, p, af, g⟩ = true)
    (k : TR P ops Q n ds w₀ LS rest (b' :: X1 :: X2 :: X3 :: a' :: M) (upd σ d X)) : TR P ops Q n ds w₀ LS ((⟨some d, .call ⟨.value fo, l.toArray, tys⟩, ty, p, af, g⟩, 0) :: rest) L σ := by
  subst hL; exact TR_calldP hc hf ha (.cons (.there (.there (.there (.there .here)))) (.cons .here .nil)) (.cons (.there (.there (.there (.there .here)))) (.cons .here .nil)) hw k
theorem TR_calld2_4_1 {f : Nat} [TFn P f] {fo : Operand} {l : List Operand} {tys : Array Nat} {fs cs avs : List Value} {a a' b b' X0 X2 X3 : Seg} {M : List Seg} {X : Value} (hc : Cd P f avs [a, b] X [a', b'])
    (hf : ev σ fo = .func (.func f) fs.toArray cs.toArray) (ha : fs ++ evs σ l ++ cs = avs) (hL : L = X0 :: b :: X2 :: X3 :: a :: M)
    (hw : wantS ops σ ⟨some d, .call ⟨.value fo, l.toArray, tys⟩, ty, p, af, g⟩ = true)
    (k : TR P ops Q n ds w₀ LS rest (X0 :: b' :: X2 :: X3 :: a' :: M) (upd σ d X)) : TR P ops Q n ds w₀ LS ((⟨some d, .call ⟨.value fo, l.toArray, tys⟩, ty, p, af, g⟩, 0) :: rest) L σ := by
  subst hL; exact TR_calldP hc hf ha (.cons (.there (.there (.there (.there .here)))) (.cons (.there .here) .nil)) (.cons (.there (.there (.there (.there .here)))) (.cons (.there .here) .nil)) hw k
theorem TR_calld2_4_2 {f : Nat} [TFn P f] {fo : Operand} {l : List Operand} {tys : Array Nat} {fs cs avs : List Value} {a a' b b' X0 X1 X3 : Seg} {M : List Seg} {X : Value} (hc : Cd P f avs [a, b] X [a', b'])
    (hf : ev σ fo = .func (.func f) fs.toArray cs.toArray) (ha : fs ++ evs σ l ++ cs = avs) (hL : L = X0 :: X1 :: b :: X3 :: a :: M)
    (hw : wantS ops σ ⟨some d, .call ⟨.value fo, l.toArray, tys⟩, ty, p, af, g⟩ = true)
    (k : TR P ops Q n ds w₀ LS rest (X0 :: X1 :: b' :: X3 :: a' :: M) (upd σ d X)) : TR P ops Q n ds w₀ LS ((⟨some d, .call ⟨.value fo, l.toArray, tys⟩, ty, p, af, g⟩, 0) :: rest) L σ := by
  subst hL; exact TR_calldP hc hf ha (.cons (.there (.there (.there (.there .here)))) (.cons (.there (.there .here)) .nil)) (.cons (.there (.there (.there (.there .here)))) (.cons (.there (.there .here)) .nil)) hw k
theorem TR_calld2_4_3 {f : Nat} [TFn P f] {fo : Operand} {l : List Operand} {tys : Array Nat} {fs cs avs : List Value} {a a' b b' X0 X1 X2 : Seg} {M : List Seg} {X : Value} (hc : Cd P f avs [a, b] X [a', b'])
    (hf : ev σ fo = .func (.func f) fs.toArray cs.toArray) (ha : fs ++ evs σ l ++ cs = avs) (hL : L = X0 :: X1 :: X2 :: b :: a :: M)
    (hw : wantS ops σ ⟨some d, .call ⟨.value fo, l.toArray, tys⟩, ty, p, af, g⟩ = true)
    (k : TR P ops Q n ds w₀ LS rest (X0 :: X1 :: X2 :: b' :: a' :: M) (upd σ d X)) : TR P ops Q n ds w₀ LS ((⟨some d, .call ⟨.value fo, l.toArray, tys⟩, ty, p, af, g⟩, 0) :: rest) L σ := by
  subst hL; exact TR_calldP hc hf ha (.cons (.there (.there (.there (.there .here)))) (.cons (.there (.there (.there .here))) .nil)) (.cons (.there (.there (.there (.there .here)))) (.cons (.there (.there (.there .here))) .nil)) hw k
theorem TR_calld2_4_5 {f : Nat} [TFn P f] {fo : Operand} {l : List Operand} {tys : Array Nat} {fs cs avs : List Value} {a a' b b' X0 X1 X2 X3 : Seg} {M : List Seg} {X : Value} (hc : Cd P f avs [a, b] X [a', b'])
    (hf : ev σ fo = .func (.func f) fs.toArray cs.toArray) (ha : fs ++ evs σ l ++ cs = avs) (hL : L = X0 :: X1 :: X2 :: X3 :: a :: b :: M)
    (hw : wantS ops σ ⟨some d, .call ⟨.value fo, l.toArray, tys⟩, ty, p, af, g⟩ = true)
    (k : TR P ops Q n ds w₀ LS rest (X0 :: X1 :: X2 :: X3 :: a' :: b' :: M) (upd σ d X)) : TR P ops Q n ds w₀ LS ((⟨some d, .call ⟨.value fo, l.toArray, tys⟩, ty, p, af, g⟩, 0) :: rest) L σ := by
  subst hL; exact TR_calldP hc hf ha (.cons (.there (.there (.there (.there .here)))) (.cons (.there (.there (.there (.there .here)))) .nil)) (.cons (.there (.there (.there (.there .here)))) (.cons (.there (.there (.there (.there .here)))) .nil)) hw k
theorem TR_calld2_4_6 {f : Nat} [TFn P f] {fo : Operand} {l : List Operand} {tys : Array Nat} {fs cs avs : List Value} {a a' b b' X0 X1 X2 X3 X5 : Seg} {M : List Seg} {X : Value} (hc : Cd P f avs [a, b] X [a', b'])
    (hf : ev σ fo = .func (.func f) fs.toArray cs.toArray) (ha : fs ++ evs σ l ++ cs = avs) (hL : L = X0 :: X1 :: X2 :: X3 :: a :: X5 :: b :: M)
    (hw : wantS ops σ ⟨some d, .call ⟨.value fo, l.toArray, tys⟩, ty, p, af, g⟩ = true)
    (k : TR P ops Q n ds w₀ LS rest (X0 :: X1 :: X2 :: X3 :: a' :: X5 :: b' :: M) (upd σ d X)) : TR P ops Q n ds w₀ LS ((⟨some d, .call ⟨.value fo, l.toArray, tys⟩, ty, p, af, g⟩, 0) :: rest) L σ := by
  subst hL; exact TR_calldP hc hf ha (.cons (.there (.there (.there (.there .here)))) (.cons (.there (.there (.there (.there (.there .here))))) .nil)) (.cons (.there (.there (.there (.there .here)))) (.cons (.there (.there (.there (.there (.there .here))))) .nil)) hw k
theorem TR_calld2_5_0 {f : Nat} [TFn P f] {fo : Operand} {l : List Operand} {tys : Array Nat} {fs cs avs : List Value} {a a' b b' X1 X2 X3 X4 : Seg} {M : List Seg} {X : Value} (hc : Cd P f avs [a, b] X [a', b'])
    (hf : ev σ fo = .func (.func f) fs.toArray cs.toArray) (ha : fs ++ evs σ l ++ cs = avs) (hL : L = b :: X1 :: X2 :: X3 :: X4 :: a :: M)
    (hw : wantS ops σ ⟨some d, .call ⟨.value fo, l.toArray, tys⟩, ty, p, af, g⟩ = true)
    (k : TR P ops Q n ds w₀ LS rest (b' :: X1 :: X2 :: X3 :: X4 :: a' :: M) (upd σ d X)) : TR P ops Q n ds w₀ LS ((⟨some d, .call ⟨.value fo, l.toArray, tys⟩, ty, p, af, g⟩, 0) :: rest) L σ := by
  subst hL; exact TR_calldP hc hf ha (.cons (.there (.there (.there (.there (.there .here))))) (.cons .here .nil)) (.cons (.there (.there (.there (.there (.there .here))))) (.cons .here .nil)) hw k
theorem TR_calld2_5_1 {f : Nat} [TFn P f] {fo : Operand} {l : List Operand} {tys : Array Nat} {fs cs avs : List Value} {a a' b b' X0 X2 X3 X4 : Seg} {M : List Seg} {X : Value} (hc : Cd P f avs [a, b] X [a', b'])
    (hf : ev σ fo = .func (.func f) fs.toArray cs.toArray) (ha : fs ++ evs σ l ++ cs = avs) (hL : L = X0 :: b :: X2 :: X3 :: X4 :: a :: M)
    (hw : wantS ops σ ⟨some d, .call ⟨.value fo, l.toArray, tys⟩, ty, p, af, g⟩ = true)
    (k : TR P ops Q n ds w₀ LS rest (X0 :: b' :: X2 :: X3 :: X4 :: a' :: M) (upd σ d X)) : TR P ops Q n ds w₀ LS ((⟨some d, .call ⟨.value fo, l.toArray, tys⟩, ty, p, af, g⟩, 0) :: rest) L σ := by
  subst hL; exact TR_calldP hc hf ha (.cons (.there (.there (.there (.there (.there .here))))) (.cons (.there .here) .nil)) (.cons (.there (.there (.there (.there (.there .here))))) (.cons (.there .here) .nil)) hw k
theorem TR_calld2_5_2 {f : Nat} [TFn P f] {fo : Operand} {l : List Operand} {tys : Array Nat} {fs cs avs : List Value} {a a' b b' X0 X1 X3 X4 : Seg} {M : List Seg} {X : Value} (hc : Cd P f avs [a, b] X [a', b'])
    (hf : ev σ fo = .func (.func f) fs.toArray cs.toArray) (ha : fs ++ evs σ l ++ cs = avs) (hL : L = X0 :: X1 :: b :: X3 :: X4 :: a :: M)
    (hw : wantS ops σ ⟨some d, .call ⟨.value fo, l.toArray, tys⟩, ty, p, af, g⟩ = true)
    (k : TR P ops Q n ds w₀ LS rest (X0 :: X1 :: b' :: X3 :: X4 :: a' :: M) (upd σ d X)) : TR P ops Q n ds w₀ LS ((⟨some d, .call ⟨.value fo, l.toArray, tys⟩, ty, p, af, g⟩, 0) :: rest) L σ := by
  subst hL; exact TR_calldP hc hf ha (.cons (.there (.there (.there (.there (.there .here))))) (.cons (.there (.there .here)) .nil)) (.cons (.there (.there (.there (.there (.there .here))))) (.cons (.there (.there .here)) .nil)) hw k
theorem TR_calld2_5_3 {f : Nat} [TFn P f] {fo : Operand} {l : List Operand} {tys : Array Nat} {fs cs avs : List Value} {a a' b b' X0 X1 X2 X4 : Seg} {M : List Seg} {X : Value} (hc : Cd P f avs [a, b] X [a', b'])
    (hf : ev σ fo = .func (.func f) fs.toArray cs.toArray) (ha : fs ++ evs σ l ++ cs = avs) (hL : L = X0 :: X1 :: X2 :: b :: X4 :: a :: M)
    (hw : wantS ops σ ⟨some d, .call ⟨.value fo, l.toArray, tys⟩, ty, p, af, g⟩ = true)
    (k : TR P ops Q n ds w₀ LS rest (X0 :: X1 :: X2 :: b' :: X4 :: a' :: M) (upd σ d X)) : TR P ops Q n ds w₀ LS ((⟨some d, .call ⟨.value fo, l.toArray, tys⟩, ty, p, af, g⟩, 0) :: rest) L σ := by
  subst hL; exact TR_calldP hc hf ha (.cons (.there (.there (.there (.there (.there .here))))) (.cons (.there (.there (.there .here))) .nil)) (.cons (.there (.there (.there (.there (.there .here))))) (.cons (.there (.there (.there .here))) .nil)) hw k
theorem TR_calld2_5_4 {f : Nat} [TFn P f] {fo : Operand} {l : List Operand} {tys : Array Nat} {fs cs avs : List Value} {a a' b b' X0 X1 X2 X3 : Seg} {M : List Seg} {X : Value} (hc : Cd P f avs [a, b] X [a', b'])
    (hf : ev σ fo = .func (.func f) fs.toArray cs.toArray) (ha : fs ++ evs σ l ++ cs = avs) (hL : L = X0 :: X1 :: X2 :: X3 :: b :: a :: M)
    (hw : wantS ops σ ⟨some d, .call ⟨.value fo, l.toArray, tys⟩, ty, p, af, g⟩ = true)
    (k : TR P ops Q n ds w₀ LS rest (X0 :: X1 :: X2 :: X3 :: b' :: a' :: M) (upd σ d X)) : TR P ops Q n ds w₀ LS ((⟨some d, .call ⟨.value fo, l.toArray, tys⟩, ty, p, af, g⟩, 0) :: rest) L σ := by
  subst hL; exact TR_calldP hc hf ha (.cons (.there (.there (.there (.there (.there .here))))) (.cons (.there (.there (.there (.there .here)))) .nil)) (.cons (.there (.there (.there (.there (.there .here))))) (.cons (.there (.there (.there (.there .here)))) .nil)) hw k
theorem TR_calld2_5_6 {f : Nat} [TFn P f] {fo : Operand} {l : List Operand} {tys : Array Nat} {fs cs avs : List Value} {a a' b b' X0 X1 X2 X3 X4 : Seg} {M : List Seg} {X : Value} (hc : Cd P f avs [a, b] X [a', b'])
    (hf : ev σ fo = .func (.func f) fs.toArray cs.toArray) (ha : fs ++ evs σ l ++ cs = avs) (hL : L = X0 :: X1 :: X2 :: X3 :: X4 :: a :: b :: M)
    (hw : wantS ops σ ⟨some d, .call ⟨.value fo, l.toArray, tys⟩, ty, p, af, g⟩ = true)
    (k : TR P ops Q n ds w₀ LS rest (X0 :: X1 :: X2 :: X3 :: X4 :: a' :: b' :: M) (upd σ d X)) : TR P ops Q n ds w₀ LS ((⟨some d, .call ⟨.value fo, l.toArray, tys⟩, ty, p, af, g⟩, 0) :: rest) L σ := by
  subst hL; exact TR_calldP hc hf ha (.cons (.there (.there (.there (.there (.there .here))))) (.cons (.there (.there (.there (.there (.there .here))))) .nil)) (.cons (.there (.there (.there (.there (.there .here))))) (.cons (.there (.there (.there (.there (.there .here))))) .nil)) hw k
theorem TR_calld2_6_0 {f : Nat} [TFn P f] {fo : Operand} {l : List Operand} {tys : Array Nat} {fs cs avs : List Value} {a a' b b' X1 X2 X3 X4 X5 : Seg} {M : List Seg} {X : Value} (hc : Cd P f avs [a, b] X [a', b'])
    (hf : ev σ fo = .func (.func f) fs.toArray cs.toArray) (ha : fs ++ evs σ l ++ cs = avs) (hL : L = b :: X1 :: X2 :: X3 :: X4 :: X5 :: a :: M)
    (hw : wantS ops σ ⟨some d, .call ⟨.value fo, l.toArray, tys⟩, ty, p, af, g⟩ = true)
    (k : TR P ops Q n ds w₀ LS rest (b' :: X1 :: X2 :: X3 :: X4 :: X5 :: a' :: M) (upd σ d X)) : TR P ops Q n ds w₀ LS ((⟨some d, .call ⟨.value fo, l.toArray, tys⟩, ty, p, af, g⟩, 0) :: rest) L σ := by
  subst hL; exact TR_calldP hc hf ha (.cons (.there (.there (.there (.there (.there (.there .here)))))) (.cons .here .nil)) (.cons (.there (.there (.there (.there (.there (.there .here)))))) (.cons .here .nil)) hw k
theorem TR_calld2_6_1 {f : Nat} [TFn P f] {fo : Operand} {l : List Operand} {tys : Array Nat} {fs cs avs : List Value} {a a' b b' X0 X2 X3 X4 X5 : Seg} {M : List Seg} {X : Value} (hc : Cd P f avs [a, b] X [a', b'])
    (hf : ev σ fo = .func (.func f) fs.toArray cs.toArray) (ha : fs ++ evs σ l ++ cs = avs) (hL : L = X0 :: b :: X2 :: X3 :: X4 :: X5 :: a :: M)
    (hw : wantS ops σ ⟨some d, .call ⟨.value fo, l.toArray, tys⟩, ty, p, af, g⟩ = true)
    (k : TR P ops Q n ds w₀ LS rest (X0 :: b' :: X2 :: X3 :: X4 :: X5 :: a' :: M) (upd σ d X)) : TR P ops Q n ds w₀ LS ((⟨some d, .call ⟨.value fo, l.toArray, tys⟩, ty, p, af, g⟩, 0) :: rest) L σ := by
  subst hL; exact TR_calldP hc hf ha (.cons (.there (.there (.there (.there (.there (.there .here)))))) (.cons (.there .here) .nil)) (.cons (.there (.there (.there (.there (.there (.there .here)))))) (.cons (.there .here) .nil)) hw k
theorem TR_calld2_6_2 {f : Nat} [TFn P f] {fo : Operand} {l : List Operand} {tys : Array Nat} {fs cs avs : List Value} {a a' b b' X0 X1 X3 X4 X5 : Seg} {M : List Seg} {X : Value} (hc : Cd P f avs [a, b] X [a', b'])
    (hf : ev σ fo = .func (.func f) fs.toArray cs.toArray) (ha : fs ++ evs σ l ++ cs = avs) (hL : L = X0 :: X1 :: b :: X3 :: X4 :: X5 :: a :: M)
    (hw : wantS ops σ ⟨some d, .call ⟨.value fo, l.toArray, tys⟩, ty, p, af, g⟩ = true)
    (k : TR P ops Q n ds w₀ LS rest (X0 :: X1 :: b' :: X3 :: X4 :: X5 :: a' :: M) (upd σ d X)) : TR P ops Q n ds w₀ LS ((⟨some d, .call ⟨.value fo, l.toArray, tys⟩, ty, p, af, g⟩, 0) :: rest) L σ := by
  subst hL; exact TR_calldP hc hf ha (.cons (.there (.there (.there (.there (.there (.there .here)))))) (.cons (.there (.there .here)) .nil)) (.cons (.there (.there (.there (.there (.there (.there .here)))))) (.cons (.there (.there .here)) .nil)) hw k
theorem TR_calld2_6_3 {f : Nat} [TFn P f] {fo : Operand} {l : List Operand} {tys : Array Nat} {fs cs avs : List Value} {a a' b b' X0 X1 X2 X4 X5 : Seg} {M : List Seg} {X : Value} (hc : Cd P f avs [a, b] X [a', b'])
    (hf : ev σ fo = .func (.func f) fs.toArray cs.toArray) (ha : fs ++ evs σ l ++ cs = avs) (hL : L = X0 :: X1 :: X2 :: b :: X4 :: X5 :: a :: M)
    (hw : wantS ops σ ⟨some d, .call ⟨.value fo, l.toArray, tys⟩, ty, p, af, g⟩ = true)
    (k : TR P ops Q n ds w₀ LS rest (X0 :: X1 :: X2 :: b' :: X4 :: X5 :: a' :: M) (upd σ d X)) : TR P ops Q n ds w₀ LS ((⟨some d, .call ⟨.value fo, l.toArray, tys⟩, ty, p, af, g⟩, 0) :: rest) L σ := by
  subst hL; exact TR_calldP hc hf ha (.cons (.there (.there (.there (.there (.there (.there .here)))))) (.cons (.there (.there (.there .here))) .nil)) (.cons (.there (.there (.there (.there (.there (.there .here)))))) (.cons (.there (.there (.there .here))) .nil)) hw k
theorem TR_calld2_6_4 {f : Nat} [TFn P f] {fo : Operand} {l : List Operand} {tys : Array Nat} {fs cs avs : List Value} {a a' b b' X0 X1 X2 X3 X5 : Seg} {M : List Seg} {X : Value} (hc : Cd P f avs [a, b] X [a', b'])
    (hf : ev σ fo = .func (.func f) fs.toArray cs.toArray) (ha : fs ++ evs σ l ++ cs = avs) (hL : L = X0 :: X1 :: X2 :: X3 :: b :: X5 :: a :: M)
    (hw : wantS ops σ ⟨some d, .call ⟨.value fo, l.toArray, tys⟩, ty, p, af, g⟩ = true)
    (k : TR P ops Q n ds w₀ LS rest (X0 :: X1 :: X2 :: X3 :: b' :: X5 :: a' :: M) (upd σ d X)) : TR P ops Q n ds w₀ LS ((⟨some d, .call ⟨.value fo, l.toArray, tys⟩, ty, p, af, g⟩, 0) :: rest) L σ := by
  subst hL; exact TR_calldP hc hf ha (.cons (.there (.there (.there (.there (.there (.there .here)))))) (.cons (.there (.there (.there (.there .here)))) .nil)) (.cons (.there (.there (.there (.there (.there (.there .here)))))) (.cons (.there (.there (.there (.there .here)))) .nil)) hw k
theorem TR_calld2_6_5 {f : Nat} [TFn P f] {fo : Operand} {l : List Operand} {tys : Array Nat} {fs cs avs : List Value} {a a' b b' X0 X1 X2 X3 X4 : Seg} {M : List Seg} {X : Value} (hc : Cd P f avs [a, b] X [a', b'])
    (hf : ev σ fo = .func (.func f) fs.toArray cs.toArray) (ha : fs ++ evs σ l ++ cs = avs) (hL : L = X0 :: X1 :: X2 :: X3 :: X4 :: b :: a :: M)
    (hw : wantS ops σ ⟨some d, .call ⟨.value fo, l.toArray, tys⟩, ty, p, af, g⟩ = true)
    (k : TR P ops Q n ds w₀ LS rest (X0 :: X1 :: X2 :: X3 :: X4 :: b' :: a' :: M) (upd σ d X)) : TR P ops Q n ds w₀ LS ((⟨some d, .call ⟨.value fo, l.toArray, tys⟩, ty, p, af, g⟩, 0) :: rest) L σ := by
  subst hL; exact TR_calldP hc hf ha (.cons (.there (.there (.there (.there (.there (.there .here)))))) (.cons (.there (.there (.there (.there (.there .here))))) .nil)) (.cons (.there (.there (.there (.there (.there (.there .here)))))) (.cons (.there (.there (.there (.there (.there .here))))) .nil)) hw k
end

section
variable {P : Program} {σ : Sig} {d : Option Nat} {ty : Nat} {p : String} {af : Array Edge} {g : Option (Nat × Bool)} {x y : Operand} {t t' : Nat} {a b : Int}
theorem PV_add64w (hx : ev σ x = .int .i64 a) (hy : ev σ y = .int .i64 b) : PV P σ ⟨d, .binOp .add t x y t', ty, p, af, g⟩ (.int .i64 (wrap64 (a + b))) :=
  bin_run hx hy fun w => by simp [binOp_add, Op.intArith, IntWalk.i64_left]
theorem PV_sub64w (hx : ev σ x = .int .i64 a) (hy : ev σ y = .int .i64 b) : PV P σ ⟨d, .binOp .sub t x y t', ty, p, af, g⟩ (.int .i64 (wrap64 (a - b))) :=
  bin_run hx hy fun w => by simp [binOp_sub, Op.intArith, IntWalk.i64_left]
theorem PV_mul64w (hx : ev σ x = .int .i64 a) (hy : ev σ y = .int .i64 b) : PV P σ ⟨d, .binOp .mul t x y t', ty, p, af, g⟩ (.int .i64 (wrap64 (a * b))) :=
  bin_run hx hy fun w => by simp [binOp_mul, Op.intArith, IntWalk.i64_left]
end

/-! ### Calls that make something new; reading out of a segment that is known by a member -/
/-- From nothing to the segment c b, b being a new block; the answer being X b. -/
abbrev Cn (P : Program) (f : FuncId) (args : List Value) (X : Nat → Value) (c : Nat → Seg) : Prop := Ct P f args [] (fun v D => ∃ b, v = X b ∧ D = [c b])

section
variable {P : Program} {ops : Array Oper} {Q : Exit → Act → World → Prop} {n : Nat} {ds : List Deferred} {w₀ : World} {LS L L' : List Seg} {σ : Sig} {rest : List (Oper × Nat)} {v : Value}
variable {d : Nat} {ty : Nat} {p : String} {af : Array Edge} {g : Option (Nat × Bool)} {x y : Operand} {t : Nat}
theorem TR_calln {f : Nat} [TFn P f] {fo : Operand} {l : List Operand} {tys : Array Nat} {fs cs avs : List Value} {X : Nat → Value} {c : Nat → Seg} (hc : Cn P f avs X c)
    (hf : ev σ fo = .func (.func f) fs.toArray cs.toArray) (ha : fs ++ evs σ l ++ cs = avs)
    (hw : wantS ops σ ⟨some d, .call ⟨.value fo, l.toArray, tys⟩, ty, p, af, g⟩ = true)
    (k : ∀ b, TR P ops Q n ds w₀ LS rest (c b :: L) (upd σ d (X b))) : TR P ops Q n ds w₀ LS ((⟨some d, .call ⟨.value fo, l.toArray, tys⟩, ty, p, af, g⟩, 0) :: rest) L σ :=
  TR_call0 hc hf ha .nil hw fun v D ⟨b, hv, hD⟩ => by subst hv; subst hD; exact k b

theorem TR_loadM0 [TScal P t] {b off T : Nat} {cs : List Value} {fz : Nat × Nat} {C : Seg} (hx : ev σ x = .pointer (some ⟨b, off, none⟩)) (hc : (b, Obj.cells cs.toArray T fz) ∈ C) (i : Nat) (hm : L[i]? = some C)
    (hv : cs[off]? = some v) (hw : wantS ops σ ⟨some d, .load t x, ty, p, af, g⟩ = true) (k : TR P ops Q n ds w₀ LS rest L (upd σ d v)) : TR P ops Q n ds w₀ LS ((⟨some d, .load t x, ty, p, af, g⟩, 0) :: rest) L σ :=
  TR_ld0 (fun w hs => by simp [execOp, hx, load_run (cell_of (sat_mem hs.sat (List.mem_of_getElem? hm) hc) hv)]) hw k
theorem TR_loadAM0 {s : Nat} [TAgg P t s] {b off T : Nat} {cs l : List Value} {fz : Nat × Nat} {C : Seg} (hx : ev σ x = .pointer (some ⟨b, off, none⟩)) (hc : (b, Obj.cells cs.toArray T fz) ∈ C) (i : Nat) (hm : L[i]? = some C)
    (hv : (cs.drop off).take s = l) (hl : l.length = s) (hw : wantS ops σ ⟨some d, .load t x, ty, p, af, g⟩ = true) (k : TR P ops Q n ds w₀ LS rest L (upd σ d (.agg l.toArray))) :
    TR P ops Q n ds w₀ LS ((⟨some d, .load t x, ty, p, af, g⟩, 0) :: rest) L σ :=
  TR_ld0 (fun w hs => by
    have hle : off + s ≤ cs.length ∨ s = 0 := by
      by_cases h0 : s = 0
      · exact .inr h0
      · left
        have := congrArg List.length hv
        simp only [List.length_take, List.length_drop, hl] at this
        omega
    simp only [execOp, hx]
    rcases hle with hle | h0
    · simp [loadAgg_run (sat_mem hs.sat (List.mem_of_getElem? hm) hc) hle, hv]
    · subst h0
      have : l = [] := List.length_eq_zero_iff.1 hl
      subst this
      rename_i i
      simp [Instr.loadAt, Instr.sureAddr, loadVar, isAgg_yes, sizeOf_run i.s, loadCells, loadCellsFrom]) hw k
end
end Go.Proofs.Ytonfkkdahlboiaa
