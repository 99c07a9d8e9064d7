/- What each operation that leaves memory alone hands back. -/
import Derived.Test.YtiedecncmihbeaaGreatAt
import Derived.Test.YtiedecncmihbeaaGreatAtP
set_option linter.unusedSimpArgs false
set_option linter.unusedVariables false
namespace AT
open Go Go.RowKit

theorem i64w (n : Int) : IntKind.i64.wrap n = w64 n := IntKind.wrap_i64 n
theorem u8w (n : Int) : IntKind.u8.wrap n = wu8 n := IntKind.wrap_u8 n
theorem u64w (n : Int) : IntKind.u64.wrap n = wu64 n := by
  unfold IntKind.wrap wu64; simp [IntKind.signed, IntKind.bits]

section
variable {P : Program} {a : Act} {w : World} {n : Nat} {L : List (Nat × Value)} {dst : Option Tmp} {ty : TypeId} {pos : String} {af : Array Edge} {g : Option (Nat × Bool)}

theorem rq_move (hf : Fr a n L) {x : Operand} {v : Value} (hx : ev L x = some v) : (execOp a.eval ⟨dst, .move x, ty, pos, af, g⟩).run P w = .ok (.value v) w := by
  simp [execOp, hf.eval hx]
theorem rq_assign (hf : Fr a n L) {x : Operand} {v : Value} (hx : ev L x = some v) : (execOp a.eval ⟨dst, .assign x, ty, pos, af, g⟩).run P w = .ok (.value v) w := by
  simp [execOp, hf.eval hx]
theorem rq_pick_t (hf : Fr a n L) {c x y : Operand} {v : Value} (hc : ev L c = some (.bool true)) (hx : ev L x = some v) : (execOp a.eval ⟨dst, .pick c x y, ty, pos, af, g⟩).run P w = .ok (.value v) w := by
  simp [execOp, hf.eval hc, hf.eval hx, asBool]
theorem rq_pick_f (hf : Fr a n L) {c x y : Operand} {v : Value} (hc : ev L c = some (.bool false)) (hx : ev L y = some v) : (execOp a.eval ⟨dst, .pick c x y, ty, pos, af, g⟩).run P w = .ok (.value v) w := by
  simp [execOp, hf.eval hc, hf.eval hx, asBool]
theorem rq_not (hf : Fr a n L) {T : TypeId} {x : Operand} {b : Bool} (hx : ev L x = some (.bool b)) : (execOp a.eval ⟨dst, .unOp .not T x, ty, pos, af, g⟩).run P w = .ok (.value (.bool (!b))) w := by
  simp [execOp, hf.eval hx, Op.unary]
theorem rq_neg (hf : Fr a n L) {T : TypeId} {x : Operand} {i : Int} (hx : ev L x = some (.int .i64 i)) : (execOp a.eval ⟨dst, .unOp .neg T x, ty, pos, af, g⟩).run P w = .ok (.value (.int .i64 (w64 (0 - i)))) w := by
  simp [execOp, hf.eval hx, Op.unary, Op.intArith, i64w]
theorem rq_extract (hf : Fr a n L) {x : Operand} {i : Nat} {vs : List Value} {v : Value} (hx : ev L x = some (.tuple vs.toArray)) (hv : vs[i]? = some v) : (execOp a.eval ⟨dst, .extract x i, ty, pos, af, g⟩).run P w = .ok (.value v) w := by
  simp [execOp, hf.eval hx, Instr.extract, hv]

section ints
variable {T U : TypeId} {x y : Operand} {i j : Int} (hf : Fr a n L)
include hf
theorem rq_add (hx : ev L x = some (.int .i64 i)) (hy : ev L y = some (.int .i64 j)) : (execOp a.eval ⟨dst, .binOp .add T x y U, ty, pos, af, g⟩).run P w = .ok (.value (.int .i64 (w64 (i + j)))) w := by
  simp [execOp, hf.eval hx, hf.eval hy, eqGuard, binOp, Op.intArith, i64w]
theorem rq_sub (hx : ev L x = some (.int .i64 i)) (hy : ev L y = some (.int .i64 j)) : (execOp a.eval ⟨dst, .binOp .sub T x y U, ty, pos, af, g⟩).run P w = .ok (.value (.int .i64 (w64 (i - j)))) w := by
  simp [execOp, hf.eval hx, hf.eval hy, eqGuard, binOp, Op.intArith, i64w]
theorem rq_mul (hx : ev L x = some (.int .i64 i)) (hy : ev L y = some (.int .i64 j)) : (execOp a.eval ⟨dst, .binOp .mul T x y U, ty, pos, af, g⟩).run P w = .ok (.value (.int .i64 (w64 (i * j)))) w := by
  simp [execOp, hf.eval hx, hf.eval hy, eqGuard, binOp, Op.intArith, i64w]
theorem rq_quo {k : Int} (hx : ev L x = some (.int .i64 i)) (hy : ev L y = some (.int .i64 j)) (h : quo i j = some k) : (execOp a.eval ⟨dst, .binOp .quo T x y U, ty, pos, af, g⟩).run P w = .ok (.value (.int .i64 k)) w := by
  unfold quo at h
  split at h
  · cases h
  · rename_i h0
    injection h with h; subst h
    simp [execOp, hf.eval hx, hf.eval hy, eqGuard, binOp, Op.intDiv, i64w, h0]
theorem rq_rem {k : Int} (hx : ev L x = some (.int .i64 i)) (hy : ev L y = some (.int .i64 j)) (h : rem i j = some k) : (execOp a.eval ⟨dst, .binOp .rem T x y U, ty, pos, af, g⟩).run P w = .ok (.value (.int .i64 k)) w := by
  unfold rem at h
  split at h
  · cases h
  · rename_i h0
    injection h with h; subst h
    simp [execOp, hf.eval hx, hf.eval hy, eqGuard, binOp, Op.intDiv, h0]
theorem rq_and (hx : ev L x = some (.int .i64 i)) (hy : ev L y = some (.int .i64 j)) : (execOp a.eval ⟨dst, .binOp .and T x y U, ty, pos, af, g⟩).run P w = .ok (.value (.int .i64 (band i j))) w := by
  simp [execOp, hf.eval hx, hf.eval hy, eqGuard, binOp, Op.intBits, i64w, band]
  try rfl
theorem rq_or (hx : ev L x = some (.int .i64 i)) (hy : ev L y = some (.int .i64 j)) : (execOp a.eval ⟨dst, .binOp .or T x y U, ty, pos, af, g⟩).run P w = .ok (.value (.int .i64 (bor i j))) w := by
  simp [execOp, hf.eval hx, hf.eval hy, eqGuard, binOp, Op.intBits, i64w, bor]
  try rfl
theorem rq_xor (hx : ev L x = some (.int .i64 i)) (hy : ev L y = some (.int .i64 j)) : (execOp a.eval ⟨dst, .binOp .xor T x y U, ty, pos, af, g⟩).run P w = .ok (.value (.int .i64 (bxor i j))) w := by
  simp [execOp, hf.eval hx, hf.eval hy, eqGuard, binOp, Op.intBits, i64w, bxor]
  try rfl
theorem rq_andNot (hx : ev L x = some (.int .i64 i)) (hy : ev L y = some (.int .i64 j)) : (execOp a.eval ⟨dst, .binOp .andNot T x y U, ty, pos, af, g⟩).run P w = .ok (.value (.int .i64 (bandn i j))) w := by
  simp [execOp, hf.eval hx, hf.eval hy, eqGuard, binOp, Op.intBits, i64w, bandn]
  try rfl
theorem rq_shl {k : Int} {yk : IntKind} (hx : ev L x = some (.int .i64 i)) (hy : ev L y = some (.int yk j)) (h : shl i j = some k) : (execOp a.eval ⟨dst, .binOp .shl T x y U, ty, pos, af, g⟩).run P w = .ok (.value (.int .i64 k)) w := by
  unfold shl at h
  split at h
  · cases h
  · rename_i h0
    injection h with h; subst h
    simp [execOp, hf.eval hx, hf.eval hy, eqGuard, binOp, Op.shift, i64w, h0, IntKind.bits]
variable {k : IntKind}
theorem rq_eql (hx : ev L x = some (.int k i)) (hy : ev L y = some (.int k j)) : (execOp a.eval ⟨dst, .binOp .eql T x y U, ty, pos, af, g⟩).run P w = .ok (.value (.bool (i == j))) w := by
  simp [execOp, hf.eval hx, hf.eval hy, eqGuard, binOp, Op.intCmp]
theorem rq_neq (hx : ev L x = some (.int k i)) (hy : ev L y = some (.int k j)) : (execOp a.eval ⟨dst, .binOp .neq T x y U, ty, pos, af, g⟩).run P w = .ok (.value (.bool (i != j))) w := by
  simp [execOp, hf.eval hx, hf.eval hy, eqGuard, binOp, Op.intCmp]
theorem rq_lss (hx : ev L x = some (.int k i)) (hy : ev L y = some (.int k j)) : (execOp a.eval ⟨dst, .binOp .lss T x y U, ty, pos, af, g⟩).run P w = .ok (.value (.bool (decide (i < j)))) w := by
  simp [execOp, hf.eval hx, hf.eval hy, eqGuard, binOp, Op.intCmp]
theorem rq_leq (hx : ev L x = some (.int k i)) (hy : ev L y = some (.int k j)) : (execOp a.eval ⟨dst, .binOp .leq T x y U, ty, pos, af, g⟩).run P w = .ok (.value (.bool (decide (i ≤ j)))) w := by
  simp [execOp, hf.eval hx, hf.eval hy, eqGuard, binOp, Op.intCmp]
theorem rq_gtr (hx : ev L x = some (.int k i)) (hy : ev L y = some (.int k j)) : (execOp a.eval ⟨dst, .binOp .gtr T x y U, ty, pos, af, g⟩).run P w = .ok (.value (.bool (decide (i > j)))) w := by
  simp [execOp, hf.eval hx, hf.eval hy, eqGuard, binOp, Op.intCmp]
theorem rq_geq (hx : ev L x = some (.int k i)) (hy : ev L y = some (.int k j)) : (execOp a.eval ⟨dst, .binOp .geq T x y U, ty, pos, af, g⟩).run P w = .ok (.value (.bool (decide (i ≥ j)))) w := by
  simp [execOp, hf.eval hx, hf.eval hy, eqGuard, binOp, Op.intCmp]
end ints

theorem run_equal_bool {T : TypeId} (hT : P.underlying T = some .bool) (b c : Bool) : (Op.equal T (.bool b) (.bool c)).run P w = .ok (b == c) w := by
  have key : ∀ d, (Op.equalIn (d + 1) T (.bool b) (.bool c)).run P w = .ok (b == c) w := fun d => by simp [Op.equalIn, run_underlying hT]
  exact key 9999
theorem run_beql {T : TypeId} (hT : P.underlying T = some .bool) (b c : Bool) : (binOp .eql T (.bool b) (.bool c)).run P w = .ok (.bool (b == c)) w := by
  simp only [binOp, Sem.run_bind, run_equal_bool hT, Result.andThen_ok, Sem.run_pure]
theorem run_bneq {T : TypeId} (hT : P.underlying T = some .bool) (b c : Bool) : (binOp .neq T (.bool b) (.bool c)).run P w = .ok (.bool (b != c)) w := by
  simp only [binOp, Sem.run_bind, run_equal_bool hT, Result.andThen_ok, Sem.run_pure]
  cases b <;> cases c <;> rfl
theorem rq_beql (hf : Fr a n L) {T U : TypeId} (hT : P.underlying T = some .bool) {x y : Operand} {b c : Bool} (hx : ev L x = some (.bool b)) (hy : ev L y = some (.bool c)) :
    (execOp a.eval ⟨dst, .binOp .eql T x y U, ty, pos, af, g⟩).run P w = .ok (.value (.bool (b == c))) w := by
  simp only [execOp, hf.eval hx, hf.eval hy, eqGuard, Sem.run_bind, Sem.run_pure, Result.andThen_ok, Bool.or_true, Bool.true_or, Bool.not_true, Bool.false_eq_true, if_false, run_beql hT]
theorem rq_bneq (hf : Fr a n L) {T U : TypeId} (hT : P.underlying T = some .bool) {x y : Operand} {b c : Bool} (hx : ev L x = some (.bool b)) (hy : ev L y = some (.bool c)) :
    (execOp a.eval ⟨dst, .binOp .neq T x y U, ty, pos, af, g⟩).run P w = .ok (.value (.bool (b != c))) w := by
  simp only [execOp, hf.eval hx, hf.eval hy, eqGuard, Sem.run_bind, Sem.run_pure, Result.andThen_ok, Bool.or_true, Bool.true_or, Bool.not_true, Bool.false_eq_true, if_false, run_bneq hT]
theorem rq_seql (hf : Fr a n L) {T U : TypeId} {x y : Operand} {b c : ByteArray} (hx : ev L x = some (.string b)) (hy : ev L y = some (.string c)) :
    (execOp a.eval ⟨dst, .binOp .eql T x y U, ty, pos, af, g⟩).run P w = .ok (.value (.bool (b.toList == c.toList))) w := by
  simp [execOp, hf.eval hx, hf.eval hy, eqGuard, binOp, Op.stringOp]
theorem rq_sneq (hf : Fr a n L) {T U : TypeId} {x y : Operand} {b c : ByteArray} (hx : ev L x = some (.string b)) (hy : ev L y = some (.string c)) :
    (execOp a.eval ⟨dst, .binOp .neq T x y U, ty, pos, af, g⟩).run P w = .ok (.value (.bool (!(b.toList == c.toList)))) w := by
  simp [execOp, hf.eval hx, hf.eval hy, eqGuard, binOp, Op.stringOp]
theorem rq_len (hf : Fr a n L) {T E : TypeId} (hT : P.underlying T = some (.slice E)) {x : Operand} {A : Option Addr} {m c : Nat} (hx : ev L x = some (.slice A m c)) :
    (execOp a.eval ⟨dst, .call ⟨.builtin .len, #[x], #[T]⟩, ty, pos, af, g⟩).run P w = .ok (.value (.int .i64 m)) w := by
  simp [execOp, resolve, invoke, builtin, Builtin.len_, hf.eval hx, run_underlying hT, goInt]
theorem rq_slen (hf : Fr a n L) {T : TypeId} (hT : P.underlying T = some .string) {x : Operand} {s : ByteArray} (hx : ev L x = some (.string s)) :
    (execOp a.eval ⟨dst, .call ⟨.builtin .len, #[x], #[T]⟩, ty, pos, af, g⟩).run P w = .ok (.value (.int .i64 s.size)) w := by
  simp [execOp, resolve, invoke, builtin, Builtin.len_, hf.eval hx, run_underlying hT, goInt]
theorem rq_min (hf : Fr a n L) {T U : TypeId} {x y : Operand} {i j : Int} (hx : ev L x = some (.int .i64 i)) (hy : ev L y = some (.int .i64 j)) :
    (execOp a.eval ⟨dst, .call ⟨.builtin .min, #[x, y], #[T, U]⟩, ty, pos, af, g⟩).run P w = .ok (.value (.int .i64 (gmin i j))) w := by
  simp [execOp, resolve, invoke, builtin, Builtin.min_, Builtin.min2, hf.eval hx, hf.eval hy, gmin]
theorem rq_max (hf : Fr a n L) {T U : TypeId} {x y : Operand} {i j : Int} (hx : ev L x = some (.int .i64 i)) (hy : ev L y = some (.int .i64 j)) :
    (execOp a.eval ⟨dst, .call ⟨.builtin .max, #[x, y], #[T, U]⟩, ty, pos, af, g⟩).run P w = .ok (.value (.int .i64 (gmax i j))) w := by
  simp [execOp, resolve, invoke, builtin, Builtin.max_, Builtin.max2, hf.eval hx, hf.eval hy, gmax]
end
end AT

