/- More on drawn regions and on slices: slicing whatever the world, nil slices, two operations in either order. -/
import Derived.Test.YtiedecncmihbeaaGreatAtZ
import Derived.Test.YtiedecncmihbeaaGreatAtP
set_option linter.unusedSimpArgs false
set_option linter.unusedVariables false
namespace AT
open Go Go.RowKit

section
variable {P : Program} {Q : Exit → Act → World → Prop} {a : Act} {w w' w1 : World} {n : Nat} {L : List (Nat × Value)} {dst : Option Tmp} {ty : TypeId} {pos : String} {af : Array Edge} {g : Option (Nat × Bool)} {K : Act → World → Prop} {d : Nat}
variable {w0 : Base} {S : Nat → Prop} {M : List Blk} {R : List Row} {D : List DI} {I : List (Bool × MP)}

/-! ### Slicing, whatever the world -/
def evo (L : List (Nat × Value)) : Option Operand → Option (Option Value)
  | none => some none
  | some o => (ev L o).map some
theorem evo_map (hf : Fr a n L) {o : Option Operand} {v : Option Value} (h : evo L o = some v) : o.map a.eval = v := by
  cases o with
  | none => simpa [evo] using h
  | some o =>
    simp only [evo, Option.map_eq_some_iff] at h
    obtain ⟨u, hu, rfl⟩ := h
    simp [hf.eval hu]
theorem rq_sliceE (hf : Fr a n L) {T : TypeId} {x : Operand} {u r : Value} (hx : ev L x = some u) {lo hi : Option Operand} {lov hiv : Option Value} (hlo : evo L lo = some lov) (hhi : evo L hi = some hiv) (h : ∀ w', (Instr.sliceAt T u lov hiv none).run P w' = .ok r w') :
    ∀ w, (execOp a.eval ⟨dst, .slice T x lo hi none, ty, pos, af, g⟩).run P w = .ok (.value r) w := by
  intro w
  simp [execOp, hf.eval hx, evo_map hf hlo, evo_map hf hhi, h]
theorem pre_slice (H : Mem w0 S M R D I w) {α : Type} [GoTy α] {T E : TypeId} (hT : P.underlying T = some (.slice E)) (hE : SZ P E (GoTy.n α)) {A : Option Addr} {len cap : Nat} {i j : Int} {xs ys : List α} {f : Bool} (q : Nat) {lov hiv : Option Value}
    (hlo : lov = none ∧ i = 0 ∨ lov = some (.int .i64 i)) (hhi : hiv = none ∧ j = xs.length ∨ hiv = some (.int .i64 j)) (hq : I[q]? = some (f, MP.val [.slice A len cap] xs)) (hs : sub xs i j = some ys) :
    ∃ A' c', (∀ w', (Instr.sliceAt T (.slice A len cap) lov hiv none).run P w' = .ok (.slice A' ys.length c') w') ∧ Mem w0 S M R D ((f, MP.val [.slice A' ys.length c'] ys) :: I) w := by
  obtain ⟨A', cap', hcs, hlc, hcm, hel⟩ : lrep w (St w0 S M R D f) [.slice A len cap] xs := H.get q hq
  simp only [List.cons.injEq, Value.slice.injEq, and_true] at hcs
  obtain ⟨rfl, rfl, rfl⟩ := hcs
  unfold sub at hs
  split at hs
  case isFalse => cases hs
  rename_i hb
  obtain ⟨h0, h1, h2⟩ := hb
  injection hs with hs
  have hyl : ys.length = j.toNat - i.toNat := by rw [← hs]; simp; omega
  have hE' : ∀ w, (Go.sizeOf E).run P w = .ok (GoTy.n α) w := hE
  refine ⟨if cap = i.toNat then A else A.map (·.add (i.toNat * GoTy.n α)), cap - i.toNat, fun w' => ?_, H.push _ ?_⟩
  · have hj : (j.toNat : Int) = j := Int.toNat_of_nonneg (by omega)
    rw [hyl]
    have hsb : (Instr.sliceBounds true xs.length cap lov hiv none).run P w' = .ok (i.toNat, j.toNat, cap) w' := by
      rcases hlo with ⟨e1, rfl⟩ | e1 <;> rcases hhi with ⟨e2, e3⟩ | e2 <;> rw [e1, e2]
      · subst e3; simp [Instr.sliceBounds]
      · simp [Instr.sliceBounds, Instr.sliceBound, asIntOf, show 0 ≤ j by omega, show j ≤ cap by omega]
      · subst e3; simp [Instr.sliceBounds, Instr.sliceBound, asIntOf, h0, h1]
      · simp [Instr.sliceBounds, Instr.sliceBound, asIntOf, h0, show 0 ≤ j by omega, show j ≤ cap by omega, hj, h1]
    simp [Instr.sliceAt, Instr.slice, run_underlying hT, hsb, hE']
  refine ⟨_, _, rfl, by omega, by omega, fun t z hz => ?_⟩
  have hz' : xs[i.toNat + t]? = some z := by
    rw [← hs, List.getElem?_drop] at hz
    rw [List.getElem?_take] at hz
    split at hz
    · exact hz
    · cases hz
  obtain ⟨p, hp, hSp, cs, hc, hr⟩ := hel _ _ hz'
  have hlt := (List.getElem?_eq_some_iff.1 hz').1
  rw [if_neg (by omega), hp]
  refine ⟨p.add (i.toNat * GoTy.n α), rfl, by rw [block_add]; exact hSp, cs, fun u c hu => ?_, hr⟩
  rw [add_add, ← Nat.add_assoc, ← Nat.add_mul]
  exact hc u c hu

end

section
variable {P : Program} {l : List Oper} {Mid S : World → Prop} {a : Act} {w : World} {B : List Nat} {fuel : Nat} {bs : List Bool} {n : Nat} {L : List (Nat × Value)}
theorem on2 {Mid : Act → World → Prop} {i j : Nat} {oi oj : Oper} {bi bj : List Bool} (hr : Region.ready .any l.toArray bs.toArray = [i, j]) (hi : l[i]? = some oi) (hgi : oi.guard = none) (hbi : bs.set i true = bi) (hj : l[j]? = some oj) (hgj : oj.guard = none) (hbj : bs.set j true = bj)
    (h : oi.wp P a w (fun a' w' => (nb B bi.toArray = true → S w') ∧ DL P l Mid S B fuel bi a' w') (only Mid)) (h' : oj.wp P a w (fun a' w' => (nb B bj.toArray = true → S w') ∧ DL P l Mid S B fuel bj a' w') (only Mid)) : DL P l Mid S B (fuel + 1) bs a w := by
  refine ⟨fun h0 => (by rw [hr] at h0; cases h0), fun q hq => ?_⟩
  rw [hr] at hq
  simp only [List.mem_cons, List.not_mem_nil, or_false] at hq
  rcases hq with rfl | rfl
  · unfold wpOp
    have hi' : l.toArray[q]? = some oi := by simpa using hi
    simp only [hi', Region.wanted, hgi]
    rw [set_bs hbi]
    exact .inl h
  · unfold wpOp
    have hi' : l.toArray[q]? = some oj := by simpa using hj
    simp only [hi', Region.wanted, hgj]
    rw [set_bs hbj]
    exact .inl h'
end

/-! ### Numbers of other kinds -/
instance : GoTy By where
  n := 1
  agg := false
  flat := true
  rep _ _ cs x := cs = [.int .u8 x.n]
  own _ F cs x := F = [] ∧ cs = [.int .u8 x.n]
  pos := by decide
  len := by rintro _ _ _ _ rfl; rfl
  one := by rintro _ _ _ _ rfl; simp [Value.oneCell']
  mono := fun h _ => h
  own_rep := fun h => h.2
  own_mono := fun h _ => h
  own_lt := by rintro _ _ _ _ ⟨rfl, _⟩ _ h; cases h
  own_flat := fun _ h => ⟨rfl, h⟩
instance : GoTy U64 where
  n := 1
  agg := false
  flat := true
  rep _ _ cs x := cs = [.int .u64 x.n]
  own _ F cs x := F = [] ∧ cs = [.int .u64 x.n]
  pos := by decide
  len := by rintro _ _ _ _ rfl; rfl
  one := by rintro _ _ _ _ rfl; simp [Value.oneCell']
  mono := fun h _ => h
  own_rep := fun h => h.2
  own_mono := fun h _ => h
  own_lt := by rintro _ _ _ _ ⟨rfl, _⟩ _ h; cases h
  own_flat := fun _ h => ⟨rfl, h⟩
theorem VR_by {w : World} {S : Nat → Prop} {v : Value} {x : By} (h : VR w S v x) : v = .int .u8 x.n := by obtain ⟨cs, rfl, rfl⟩ := h; rfl
theorem VR_u64 {w : World} {S : Nat → Prop} {v : Value} {x : U64} (h : VR w S v x) : v = .int .u64 x.n := by obtain ⟨cs, rfl, rfl⟩ := h; rfl
theorem mk_by {w : World} {S : Nat → Prop} {x : By} : VR w S (.int .u8 x.n) x := ⟨_, rfl, rfl⟩
theorem mk_u64 {w : World} {S : Nat → Prop} {x : U64} : VR w S (.int .u64 x.n) x := ⟨_, rfl, rfl⟩

section
variable {P : Program} {a : Act} {w : World} {n : Nat} {L : List (Nat × Value)} {dst : Option Tmp} {ty : TypeId} {pos : String} {af : Array Edge} {g : Option (Nat × Bool)}
variable {T U : TypeId} {x y : Operand} {k : IntKind} {i j : Int} {f : Int → Int}
theorem rq_ltK (hf : Fr a n L) (hx : ev L x = some (.int k i)) (hy : ev L y = some (.int k j)) : (execOp a.eval ⟨dst, .binOp .lss T x y U, ty, pos, af, g⟩).run P w = .ok (.value (.bool (decide (i < j)))) w := by
  simp [execOp, hf.eval hx, hf.eval hy, eqGuard, binOp, Op.intCmp]
theorem rq_leK (hf : Fr a n L) (hx : ev L x = some (.int k i)) (hy : ev L y = some (.int k j)) : (execOp a.eval ⟨dst, .binOp .leq T x y U, ty, pos, af, g⟩).run P w = .ok (.value (.bool (decide (i ≤ j)))) w := by
  simp [execOp, hf.eval hx, hf.eval hy, eqGuard, binOp, Op.intCmp]
theorem rq_gtK (hf : Fr a n L) (hx : ev L x = some (.int k i)) (hy : ev L y = some (.int k j)) : (execOp a.eval ⟨dst, .binOp .gtr T x y U, ty, pos, af, g⟩).run P w = .ok (.value (.bool (decide (i > j)))) w := by
  simp [execOp, hf.eval hx, hf.eval hy, eqGuard, binOp, Op.intCmp]
theorem rq_geK (hf : Fr a n L) (hx : ev L x = some (.int k i)) (hy : ev L y = some (.int k j)) : (execOp a.eval ⟨dst, .binOp .geq T x y U, ty, pos, af, g⟩).run P w = .ok (.value (.bool (decide (i ≥ j)))) w := by
  simp [execOp, hf.eval hx, hf.eval hy, eqGuard, binOp, Op.intCmp]
theorem rq_conv {k' : IntKind} {us : TypeDesc} (hk : ∀ n, k.wrap n = f n) (hs : P.underlying T = some us) (hd : P.underlying U = some (.int k)) (hf : Fr a n L) (hx : ev L x = some (.int k' i)) : (execOp a.eval ⟨dst, .convert T U x, ty, pos, af, g⟩).run P w = .ok (.value (.int k (f i))) w := by
  simp [execOp, hf.eval hx, convert, run_underlying hs, run_underlying hd, Conv.intToInt, hk]
end

/-! ### A callee that writes a variable of ours -/
section
variable {w w' w1 : World} {w0 : Base} {S : Nat → Prop} {M : List Blk} {R : List Row} {D : List DI} {I : List (Bool × MP)}
end

/-! ### A row, cut behind -/
section
variable {P : Program} {Q : Exit → Act → World → Prop} {a : Act} {w : World} {n : Nat} {L : List (Nat × Value)} {ty : TypeId} {pos : String} {af : Array Edge} {g : Option (Nat × Bool)} {K : Act → World → Prop} {d : Nat}
variable {w0 : Base} {S : Nat → Prop} {M : List Blk} {R : List Row} {D : List DI} {I : List (Bool × MP)}
end
end AT

