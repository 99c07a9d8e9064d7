/- Strings. -/
import Derived.Test.YtokhhjepjbhhpaaGreatAtA
import Derived.Test.YtokhhjepjbhhpaaGreatAtP4
import Derived.Laws.BytesString
set_option linter.unusedSimpArgs false
set_option linter.unusedVariables false
namespace AT
open Go Go.RowKit
theorem bless_eq : ∀ (x y : List UInt8), Op.bytesLess x y = bless x y
  | _, [] => by cases ‹List UInt8› <;> rfl
  | [], _ :: _ => rfl
  | a :: x, b :: y => by
    unfold Op.bytesLess bless
    rw [bless_eq x y]
section
variable {P : Program} {Q : Exit → Act → World → Prop} {a : Act} {w : World} {n : Nat} {L : List (Nat × Value)} {dst : Option Tmp} {ty : TypeId} {pos : String} {af : Array Edge} {g : Option (Nat × Bool)} {K : Act → World → Prop} {d : Nat}
variable {T U : TypeId} {x y : Operand} {s t : ByteArray}
theorem rq_indexS (hf : Fr a n L) (hT : P.underlying T = some .string) {k : IntKind} {i : Int} {e : By} (hx : ev L x = some (.string s)) (hy : ev L y = some (.int k i)) (h : sidx s i = some e) : (execOp a.eval ⟨dst, .index T x y, ty, pos, af, g⟩).run P w = .ok (.value (.int .u8 e.n)) w := by
  unfold sidx at h
  split at h
  case isFalse => cases h
  rename_i h0
  obtain ⟨b, hb, rfl⟩ := Option.map_eq_some_iff.1 h
  have h1 : (Instr.index T (.string s) (.int k i)).run P w = .ok (.int .u8 b.toNat) w := by
    simp [Instr.index, asIntOf, run_underlying hT, h0, hb]
  simp [execOp, hf.eval hx, hf.eval hy, h1]
theorem rq_scat (hf : Fr a n L) {u : ByteArray} (hx : ev L x = some (.string s)) (hy : ev L y = some (.string t)) (h : scat s t = some u) : (execOp a.eval ⟨dst, .binOp .add T x y U, ty, pos, af, g⟩).run P w = .ok (.value (.string u)) w := by
  unfold scat at h
  split at h
  case isFalse => cases h
  rename_i h0
  injection h with h; subst h
  have h1 : (Op.stringOp .add s t).run P w = .ok (.string (s ++ t)) w := by
    have : ¬ (((s.size + t.size : Nat) : Int) > IntKind.i64.max) := by
      simp only [IntKind.max, IntKind.signed, IntKind.bits]
      simp
      omega
    simp only [Op.stringOp, this, if_false]
    rfl
  simp [execOp, hf.eval hx, hf.eval hy, eqGuard, binOp, h1]
theorem rq_slt (hf : Fr a n L) (hx : ev L x = some (.string s)) (hy : ev L y = some (.string t)) : (execOp a.eval ⟨dst, .binOp .lss T x y U, ty, pos, af, g⟩).run P w = .ok (.value (.bool (slt s t))) w := by
  simp [execOp, hf.eval hx, hf.eval hy, eqGuard, binOp, Op.stringOp, bless_eq, slt]
theorem rq_sle (hf : Fr a n L) (hx : ev L x = some (.string s)) (hy : ev L y = some (.string t)) : (execOp a.eval ⟨dst, .binOp .leq T x y U, ty, pos, af, g⟩).run P w = .ok (.value (.bool (slt s t || seq s t))) w := by
  simp [execOp, hf.eval hx, hf.eval hy, eqGuard, binOp, Op.stringOp, bless_eq, slt, seq]
theorem rq_sgt (hf : Fr a n L) (hx : ev L x = some (.string s)) (hy : ev L y = some (.string t)) : (execOp a.eval ⟨dst, .binOp .gtr T x y U, ty, pos, af, g⟩).run P w = .ok (.value (.bool (!(slt s t || seq s t)))) w := by
  simp [execOp, hf.eval hx, hf.eval hy, eqGuard, binOp, Op.stringOp, bless_eq, slt, seq]
theorem rq_sge (hf : Fr a n L) (hx : ev L x = some (.string s)) (hy : ev L y = some (.string t)) : (execOp a.eval ⟨dst, .binOp .geq T x y U, ty, pos, af, g⟩).run P w = .ok (.value (.bool (!slt s t))) w := by
  simp [execOp, hf.eval hx, hf.eval hy, eqGuard, binOp, Op.stringOp, bless_eq, slt]
theorem rq_ssub (hf : Fr a n L) (hT : P.underlying T = some .string) {lo hi : Option Operand} {lov hiv : Option Value} {i j : Int} {u : ByteArray} (hx : ev L x = some (.string s)) (hlo : evo L lo = some lov) (hhi : evo L hi = some hiv) (hlo' : lov = none ∧ i = 0 ∨ lov = some (.int .i64 i)) (hhi' : hiv = none ∧ j = s.size ∨ hiv = some (.int .i64 j)) (h : ssub s i j = some u) :
    (execOp a.eval ⟨dst, .slice T x lo hi none, ty, pos, af, g⟩).run P w = .ok (.value (.string u)) w := by
  unfold ssub at h
  split at h
  case isFalse => cases h
  rename_i hb
  obtain ⟨h0, h1, h2⟩ := hb
  injection h with h; subst h
  have hj : (j.toNat : Int) = j := Int.toNat_of_nonneg (by omega)
  have hsb : (Instr.sliceBounds false s.size s.size lov hiv none).run P w = .ok (i.toNat, j.toNat, s.size) w := by
    rcases hlo' with ⟨e1, rfl⟩ | e1 <;> rcases hhi' with ⟨e2, e3⟩ | e2 <;> rw [e1, e2]
    · subst e3; simp [Instr.sliceBounds]
    · simp [Instr.sliceBounds, Instr.sliceBound, asIntOf, show 0 ≤ j by omega, h2]
    · subst e3; simp [Instr.sliceBounds, Instr.sliceBound, asIntOf, h0, h1]
    · simp [Instr.sliceBounds, Instr.sliceBound, asIntOf, h0, show 0 ≤ j by omega, h2, hj, h1]
  have hsl : (Instr.sliceAt T (.string s) lov hiv none).run P w = .ok (.string (s.extract i.toNat j.toNat)) w := by
    simp [Instr.sliceAt, Instr.slice, run_underlying hT, hsb]
  simp [execOp, hf.eval hx, evo_map hf hlo, evo_map hf hhi, hsl]
theorem run_bstr {S : Nat → Prop} {A : Option Addr} {len cap : Nat} {xs : List By} (h : lrep w S [.slice A len cap] xs) : (Conv.bytesToString (.slice A len cap)).run P w = .ok (.string (bstr xs)) w := by
  obtain ⟨A', cap', hcs, hlc, hcm, hel⟩ := h
  simp only [List.cons.injEq, Value.slice.injEq, and_true] at hcs
  obtain ⟨rfl, rfl, rfl⟩ := hcs
  cases A with
  | none =>
    cases xs with
    | nil => rfl
    | cons x xs => obtain ⟨p, hp, _⟩ := hel 0 x rfl; cases hp
  | some p =>
    have hl : (loadCells p xs.length).run P w = .ok ((xs.map By.n).map (Value.int .u8)).toArray w := by
      have := run_loadCells_list (P := P) (w := w) p ((xs.map By.n).map (Value.int .u8)) fun j v hj => by
        simp only [List.getElem?_map, Option.map_eq_some_iff] at hj
        obtain ⟨m, ⟨x, hx, rfl⟩, rfl⟩ := hj
        obtain ⟨p', hp', hS, cs, hc, hr⟩ := hel j x hx
        injection hp' with hp'; subst hp'
        have hr' : cs = [.int .u8 x.n] := hr
        subst hr'
        have := hc 0 _ rfl
        rw [Nat.add_zero] at this
        have e : j * GoTy.n By = j := Nat.mul_one j
        rw [e] at this
        exact this
      simpa using this
    rw [run_bytesToString w p xs.length cap (xs.map By.n) hl]
    unfold bstr
    rw [List.foldl_map]
theorem rq_convBS {S : Nat → Prop} {A : Option Addr} {len cap : Nat} {xs : List By} {e : TypeId} (hs : P.underlying T = some (.slice e)) (he : P.underlying e = some (.int .u8)) (hd : P.underlying U = some .string) (hf : Fr a n L) (hx : ev L x = some (.slice A len cap)) (h : lrep w S [.slice A len cap] xs) :
    (execOp a.eval ⟨dst, .convert T U x, ty, pos, af, g⟩).run P w = .ok (.value (.string (bstr xs))) w := by
  have h1 : (convert T U (.slice A len cap)).run P w = .ok (.string (bstr xs)) w := by
    rw [run_convert_bytes_string w T U e A len cap hs he hd]; exact run_bstr h
  simp [execOp, hf.eval hx, h1]
end
end AT
