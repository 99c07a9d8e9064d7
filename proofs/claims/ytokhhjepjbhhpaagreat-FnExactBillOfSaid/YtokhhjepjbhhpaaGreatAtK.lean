/- Flat structs compared. -/
import Derived.Test.YtokhhjepjbhhpaaGreatAtG
set_option linter.unusedSimpArgs false
set_option linter.unusedVariables false
namespace AT
open Go Go.RowKit
section
variable {P : Program} {a : Act} {w : World} {n : Nat} {L : List (Nat × Value)} {dst : Option Tmp} {ty : TypeId} {pos : String} {af : Array Edge} {g : Option (Nat × Bool)}
/-- Two ints of a struct's fields are the same. -/
def sameF (fs : List Field) (xs ys : List Int) : Bool := fs.all fun f => (xs[f.offset]?).getD 0 == (ys[f.offset]?).getD 0
/-- A struct of ints: what its comparison asks of the program. -/
structure QS (P : Program) (T : TypeId) (fs : List Field) (m : Nat) : Prop where
  u : P.underlying T = some (.struct fs.toArray)
  s : P.stoodInHeld T = false
  f : ∀ f ∈ fs, (f.name == "_") = false ∧ f.offset < m ∧ PT P f.type ∧ ∃ k, P.underlying f.type = some (.int k)
theorem part_int {E : TypeId} {xs : List Int} {j : Nat} (hE : PT P E) (hj : j < xs.length) (w : World) : (part E (xs.map (Value.int .i64)).toArray j).run P w = .ok (.int .i64 ((xs[j]?).getD 0)) w := by
  have hE1 : ∀ w, (isAgg E).run P w = .ok false w := fun w => (hE w).1
  have e : xs[j]? = some xs[j] := List.getElem?_eq_getElem hj
  simp [part, hE1, e, hj]
theorem eqIn_int {E : TypeId} {k : IntKind} {d : Nat} {i j : Int} (hE : P.underlying E = some (.int k)) (w : World) : (Op.equalIn (d + 1) E (.int .i64 i) (.int .i64 j)).run P w = .ok (i == j) w := by
  simp [Op.equalIn, run_underlying hE]
theorem eqS {T : TypeId} {fs : List Field} {m : Nat} (hq : QS P T fs m) (xs ys : List Int) (hx : xs.length = m) (hy : ys.length = m) (w : World) : (Op.equal T (.agg (xs.map (Value.int .i64)).toArray) (.agg (ys.map (Value.int .i64)).toArray)).run P w = .ok (sameF fs xs ys) w := by
  obtain ⟨hu, hs, hf⟩ := hq
  unfold Op.equal Op.maxDepth
  rw [show (10000 : Nat) = 9999 + 1 from rfl, Op.equalIn]
  simp [run_underlying hu, hs]
  clear hu hs
  induction fs with
  | nil => simp [sameF]
  | cons f fs ih =>
    obtain ⟨h1, h2, h3, k, h4⟩ := hf f (by simp)
    have h1' : ¬ f.name = "_" := by simpa using h1
    have ih' := ih fun g hg => hf g (List.mem_cons_of_mem _ hg)
    have hpx := part_int (xs := xs) (j := f.offset) h3 (by omega) w
    have hpy := part_int (xs := ys) (j := f.offset) h3 (by omega) w
    have heq : (Op.equalIn 9999 f.type (.int .i64 ((xs[f.offset]?).getD 0)) (.int .i64 ((ys[f.offset]?).getD 0))).run P w = .ok ((xs[f.offset]?).getD 0 == (ys[f.offset]?).getD 0) w := eqIn_int (d := 9998) h4 w
    have hs : sameF (f :: fs) xs ys = ((xs[f.offset]?).getD 0 == (ys[f.offset]?).getD 0 && sameF fs xs ys) := rfl
    rw [hs]
    clear hs ih
    rw [List.forIn_cons]
    simp only [h1', if_false, Sem.run_bind, hpx, hpy, Result.andThen_ok, heq]
    cases hc : ((xs[f.offset]?).getD 0 == (ys[f.offset]?).getD 0)
    · simp
    · simpa using ih'
theorem rq_eqS (hf : Fr a n L) {T U : TypeId} {fs : List Field} {m : Nat} (hq : QS P T fs m) (hg : P.eqGuardType P.depth T = false) {x y : Operand} {cs ds : List Value} {xs ys : List Int} (hx : ev L x = some (.agg cs.toArray)) (hy : ev L y = some (.agg ds.toArray))
    (hc : cs = xs.map (Value.int .i64)) (hd : ds = ys.map (Value.int .i64)) (h1 : xs.length = m) (h2 : ys.length = m) :
    (execOp a.eval ⟨dst, .binOp .eql T x y U, ty, pos, af, g⟩).run P w = .ok (.value (.bool (sameF fs xs ys))) w := by
  subst hc hd
  have := eqS hq xs ys h1 h2 w
  simp [execOp, hf.eval hx, hf.eval hy, eqGuard, binOp, this, hg]
theorem rq_neS (hf : Fr a n L) {T U : TypeId} {fs : List Field} {m : Nat} (hq : QS P T fs m) (hg : P.eqGuardType P.depth T = false) {x y : Operand} {cs ds : List Value} {xs ys : List Int} (hx : ev L x = some (.agg cs.toArray)) (hy : ev L y = some (.agg ds.toArray))
    (hc : cs = xs.map (Value.int .i64)) (hd : ds = ys.map (Value.int .i64)) (h1 : xs.length = m) (h2 : ys.length = m) :
    (execOp a.eval ⟨dst, .binOp .neq T x y U, ty, pos, af, g⟩).run P w = .ok (.value (.bool (!sameF fs xs ys))) w := by
  subst hc hd
  have := eqS hq xs ys h1 h2 w
  simp [execOp, hf.eval hx, hf.eval hy, eqGuard, binOp, this, hg]
/-- A struct of ints, its fields in order: what its comparison asks of the program. -/
def flds (P : Program) (T : TypeId) : List Field := match P.underlying T with
  | some (.struct fs) => fs.toList
  | _ => []
structure EQT (P : Program) (T : TypeId) (m : Nat) (E : TypeId) : Prop where
  u : P.underlying T = some (.struct (flds P T).toArray)
  s : P.stoodInHeld T = false
  g : P.eqGuardType P.depth T = false
  o : (flds P T).map (·.offset) = List.range m
  f : ((flds P T).all fun f => !(f.name == "_") && f.type == E) = true
  p : PT P E
  i : ∃ k, P.underlying E = some (.int k)
theorem EQT.qs {T : TypeId} {m : Nat} {E : TypeId} (h : EQT P T m E) : QS P T (flds P T) m := by
  refine ⟨h.u, h.s, fun f hf => ?_⟩
  have h1 := List.all_eq_true.1 h.f f hf
  simp only [Bool.and_eq_true, Bool.not_eq_true', beq_iff_eq] at h1
  have h2 : f.offset ∈ List.range m := by rw [← h.o]; exact List.mem_map_of_mem hf
  exact ⟨h1.1, List.mem_range.1 h2, h1.2 ▸ h.p, h1.2 ▸ h.i⟩
theorem same_all {fs : List Field} {m : Nat} (ho : fs.map (·.offset) = List.range m) (xs ys : List Int) (h1 : xs.length = m) (h2 : ys.length = m) : sameF fs xs ys = (xs == ys) := by
  have e : sameF fs xs ys = (List.range m).all fun j => (xs[j]?).getD 0 == (ys[j]?).getD 0 := by
    rw [← ho, List.all_map]; rfl
  rw [e, Bool.eq_iff_iff, beq_iff_eq, List.all_eq_true]
  constructor
  · intro h
    apply List.ext_getElem (by omega)
    intro j a b
    have := h j (List.mem_range.2 (by omega))
    rw [List.getElem?_eq_getElem a, List.getElem?_eq_getElem b, beq_iff_eq] at this
    exact this
  · rintro rfl j _
    simp
theorem rq_eqT (hf : Fr a n L) {T U : TypeId} {m : Nat} {E : TypeId} (hq : EQT P T m E) (xs ys : List Int) {x y : Operand} {cs ds : List Value} (hx : ev L x = some (.agg cs.toArray)) (hy : ev L y = some (.agg ds.toArray))
    (hc : cs = xs.map (Value.int .i64)) (hd : ds = ys.map (Value.int .i64)) (h1 : xs.length = m) (h2 : ys.length = m) :
    (execOp a.eval ⟨dst, .binOp .eql T x y U, ty, pos, af, g⟩).run P w = .ok (.value (.bool (xs == ys))) w := by
  rw [← same_all hq.o xs ys h1 h2]; exact rq_eqS hf hq.qs hq.g hx hy hc hd h1 h2
theorem rq_neT (hf : Fr a n L) {T U : TypeId} {m : Nat} {E : TypeId} (hq : EQT P T m E) (xs ys : List Int) {x y : Operand} {cs ds : List Value} (hx : ev L x = some (.agg cs.toArray)) (hy : ev L y = some (.agg ds.toArray))
    (hc : cs = xs.map (Value.int .i64)) (hd : ds = ys.map (Value.int .i64)) (h1 : xs.length = m) (h2 : ys.length = m) :
    (execOp a.eval ⟨dst, .binOp .neq T x y U, ty, pos, af, g⟩).run P w = .ok (.value (.bool (!(xs == ys)))) w := by
  rw [← same_all hq.o xs ys h1 h2]; exact rq_neS hf hq.qs hq.g hx hy hc hd h1 h2
end
end AT
