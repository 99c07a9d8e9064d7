/- More on drawn regions and on slices: slicing whatever the world, nil slices, two operations in either order. -/
import Derived.Test.YtokhhjepjbhhpaaGreatAtZ
import Derived.Test.YtokhhjepjbhhpaaGreatAtP
set_option linter.unusedSimpArgs false
set_option linter.unusedVariables false
namespace AT
open Go Go.RowKit

section
variable {P : Program} {Q : Exit → Act → World → Prop} {a : Act} {w w' w1 : World} {n : Nat} {L : List (Nat × Value)} {dst : Option Tmp} {ty : TypeId} {pos : String} {af : Array Edge} {g : Option (Nat × Bool)} {K : Act → World → Prop} {d : Nat}
variable {w0 : Base} {S : Nat → Prop} {M : List Blk} {R : List Row} {D : List DI} {I : List (Bool × MP)}

/-! ### Slicing, whatever the world -/
def evo (L : List (Nat × Value)) : Option Operand → Option (Option Value)
  | none => some none
  | some o => (ev L o).map some
theorem evo_map (hf : Fr a n L) {o : Option Operand} {v : Option Value} (h : evo L o = some v) : o.map a.eval = v := by
  cases o with
  | none => simpa [evo] using h
  | some o =>
    simp only [evo, Option.map_eq_some_iff] at h
    obtain ⟨u, hu, rfl⟩ := h
    simp [hf.eval hu]
theorem rq_sliceE (hf : Fr a n L) {T : TypeId} {x : Operand} {u r : Value} (hx : ev L x = some u) {lo hi : Option Operand} {lov hiv : Option Value} (hlo : evo L lo = some lov) (hhi : evo L hi = some hiv) (h : ∀ w', (Instr.sliceAt T u lov hiv none).run P w' = .ok r w') :
    ∀ w, (execOp a.eval ⟨dst, .slice T x lo hi none, ty, pos, af, g⟩).run P w = .ok (.value r) w := by
  intro w
  simp [execOp, hf.eval hx, evo_map hf hlo, evo_map hf hhi, h]
theorem pre_slice (H : Mem w0 S M R D I w) {α : Type} [GoTy α] {T E : TypeId} (hT : P.underlying T = some (.slice E)) (hE : SZ P E (GoTy.n α)) {A : Option Addr} {len cap : Nat} {i j : Int} {xs ys : List α} {f : Bool} (q : Nat) {lov hiv : Option Value}
    (hlo : lov = none ∧ i = 0 ∨ lov = some (.int .i64 i)) (hhi : hiv = none ∧ j = xs.length ∨ hiv = some (.int .i64 j)) (hq : I[q]? = some (f, MP.val [.slice A len cap] xs)) (hs : sub xs i j = some ys) :
    ∃ A' c', (∀ w', (Instr.sliceAt T (.slice A len cap) lov hiv none).run P w' = .ok (.slice A' ys.length c') w') ∧ Mem w0 S M R D ((f, MP.val [.slice A' ys.length c'] ys) :: I) w := by
  obtain ⟨A', cap', hcs, hlc, hcm, hel⟩ : lrep w (St w0 S M R D f) [.slice A len cap] xs := H.get q hq
  simp only [List.cons.injEq, Value.slice.injEq, and_true] at hcs
  obtain ⟨rfl, rfl, rfl⟩ := hcs
  unfold sub at hs
  split at hs
  case isFalse => cases hs
  rename_i hb
  obtain ⟨h0, h1, h2⟩ := hb
  injection hs with hs
  have hyl : ys.length = j.toNat - i.toNat := by rw [← hs]; simp; omega
  have hE' : ∀ w, (Go.sizeOf E).run P w = .ok (GoTy.n α) w := hE
  refine ⟨if cap = i.toNat then A else A.map (·.add (i.toNat * GoTy.n α)), cap - i.toNat, fun w' => ?_, H.push _ ?_⟩
  · have hj : (j.toNat : Int) = j := Int.toNat_of_nonneg (by omega)
    rw [hyl]
    have hsb : (Instr.sliceBounds true xs.length cap lov hiv none).run P w' = .ok (i.toNat, j.toNat, cap) w' := by
      rcases hlo with ⟨e1, rfl⟩ | e1 <;> rcases hhi with ⟨e2, e3⟩ | e2 <;> rw [e1, e2]
      · subst e3; simp [Instr.sliceBounds]
      · simp [Instr.sliceBounds, Instr.sliceBound, asIntOf, show 0 ≤ j by omega, show j ≤ cap by omega]
      · subst e3; simp [Instr.sliceBounds, Instr.sliceBound, asIntOf, h0, h1]
      · simp [Instr.sliceBounds, Instr.sliceBound, asIntOf, h0, show 0 ≤ j by omega, show j ≤ cap by omega, hj, h1]
    simp [Instr.sliceAt, Instr.slice, run_underlying hT, hsb, hE']
  refine ⟨_, _, rfl, by omega, by omega, fun t z hz => ?_⟩
  have hz' : xs[i.toNat + t]? = some z := by
    rw [← hs, List.getElem?_drop] at hz
    rw [List.getElem?_take] at hz
    split at hz
    · exact hz
    · cases hz
  obtain ⟨p, hp, hSp, cs, hc, hr⟩ := hel _ _ hz'
  have hlt := (List.getElem?_eq_some_iff.1 hz').1
  rw [if_neg (by omega), hp]
  refine ⟨p.add (i.toNat * GoTy.n α), rfl, by rw [block_add]; exact hSp, cs, fun u c hu => ?_, hr⟩
  rw [add_add, ← Nat.add_assoc, ← Nat.add_mul]
  exact hc u c hu

/-! ### Is a slice nil? -/
theorem run_eqS {T E : TypeId} (hT : P.underlying T = some (.slice E)) {A : Option Addr} {n1 c1 : Nat} : (Op.equal T (.slice A n1 c1) (.slice none 0 0)).run P w = .ok A.isNone w := by
  have h : ∀ d, (Op.equalIn (d + 1) T (.slice A n1 c1) (.slice none 0 0)).run P w = .ok A.isNone w := fun d => by
    cases A <;> simp [Op.equalIn, run_underlying hT]
  obtain ⟨d, hd⟩ : ∃ d, Op.maxDepth = d + 1 := ⟨_, rfl⟩
  unfold Op.equal
  rw [hd]; exact h d
theorem rq_nilA (hf : Fr a n L) {T U E : TypeId} (hT : P.underlying T = some (.slice E)) {x y : Operand} {A : Option Addr} {n1 c1 : Nat} (hx : ev L x = some (.slice A n1 c1)) (hy : ev L y = some (.slice none 0 0)) :
    (execOp a.eval ⟨dst, .binOp .eql T x y U, ty, pos, af, g⟩).run P w = .ok (.value (.bool A.isNone)) w := by
  have hb : (binOp .eql T (.slice A n1 c1) (.slice none 0 0)).run P w = .ok (.bool A.isNone) w := by
    show (do pure (.bool (← Op.equal T (.slice A n1 c1) (.slice none 0 0))) : Sem Value).run P w = _
    simp [run_eqS (P := P) (w := w) hT]
  have hg : (eqGuard .eql T x y (.slice A n1 c1) (.slice none 0 0)).run P w = .ok () w := by simp [eqGuard]
  show (do pure (.value (← (do eqGuard .eql T x y (a.eval x) (a.eval y); binOp .eql T (a.eval x) (a.eval y)))) : Sem Next).run P w = _
  rw [hf.eval hx, hf.eval hy]
  simp [hg, hb]
theorem rq_nilN (hf : Fr a n L) {T U E : TypeId} (hT : P.underlying T = some (.slice E)) {x y : Operand} {n1 c1 : Nat} (hx : ev L x = some (.slice none n1 c1)) (hy : ev L y = some (.slice none 0 0)) :
    (execOp a.eval ⟨dst, .binOp .eql T x y U, ty, pos, af, g⟩).run P w = .ok (.value (.bool true)) w := rq_nilA hf hT hx hy
theorem rq_nilS (hf : Fr a n L) {T U E : TypeId} (hT : P.underlying T = some (.slice E)) {x y : Operand} {p : Addr} {n1 c1 : Nat} (hx : ev L x = some (.slice (some p) n1 c1)) (hy : ev L y = some (.slice none 0 0)) :
    (execOp a.eval ⟨dst, .binOp .eql T x y U, ty, pos, af, g⟩).run P w = .ok (.value (.bool false)) w := rq_nilA hf hT hx hy
theorem nil_data {α : Type} [GoTy α] {T : Nat → Prop} {m c : Nat} {xs : List α} (h : GoTy.rep w T [.slice none m c] xs) : xs = [] := by
  obtain ⟨A, c', hcs, -, -, hel⟩ : lrep w T [.slice none m c] xs := h
  simp only [List.cons.injEq, Value.slice.injEq, and_true] at hcs
  obtain ⟨rfl, rfl, rfl⟩ := hcs
  cases xs with
  | nil => rfl
  | cons x xs => obtain ⟨p, hp, _⟩ := hel 0 x rfl; cases hp
end

section
variable {P : Program} {l : List Oper} {Mid S : World → Prop} {a : Act} {w : World} {B : List Nat} {fuel : Nat} {bs : List Bool} {n : Nat} {L : List (Nat × Value)}
/-- Two operations may come up: in either order. -/
theorem on2 {Mid : Act → World → Prop} {i j : Nat} {oi oj : Oper} {bi bj : List Bool} (hr : Region.ready .any l.toArray bs.toArray = [i, j]) (hi : l[i]? = some oi) (hgi : oi.guard = none) (hbi : bs.set i true = bi) (hj : l[j]? = some oj) (hgj : oj.guard = none) (hbj : bs.set j true = bj)
    (h : oi.wp P a w (fun a' w' => (nb B bi.toArray = true → S w') ∧ DL P l Mid S B fuel bi a' w') (only Mid)) (h' : oj.wp P a w (fun a' w' => (nb B bj.toArray = true → S w') ∧ DL P l Mid S B fuel bj a' w') (only Mid)) : DL P l Mid S B (fuel + 1) bs a w := by
  refine ⟨fun h0 => (by rw [hr] at h0; cases h0), fun q hq => ?_⟩
  rw [hr] at hq
  simp only [List.mem_cons, List.not_mem_nil, or_false] at hq
  rcases hq with rfl | rfl
  · unfold wpOp
    have hi' : l.toArray[q]? = some oi := by simpa using hi
    simp only [hi', Region.wanted, hgi]
    rw [set_bs hbi]
    exact .inl h
  · unfold wpOp
    have hi' : l.toArray[q]? = some oj := by simpa using hj
    simp only [hi', Region.wanted, hgj]
    rw [set_bs hbj]
    exact .inl h'
end

/-! ### Numbers of other kinds -/
instance : GoTy By where
  n := 1
  agg := false
  flat := true
  rep _ _ cs x := cs = [.int .u8 x.n]
  own _ F cs x := F = [] ∧ cs = [.int .u8 x.n]
  pos := by decide
  len := by rintro _ _ _ _ rfl; rfl
  one := by rintro _ _ _ _ rfl; simp [Value.oneCell']
  mono := fun h _ => h
  own_rep := fun h => h.2
  own_mono := fun h _ => h
  own_lt := by rintro _ _ _ _ ⟨rfl, _⟩ _ h; cases h
  own_flat := fun _ h => ⟨rfl, h⟩
instance : GoTy U64 where
  n := 1
  agg := false
  flat := true
  rep _ _ cs x := cs = [.int .u64 x.n]
  own _ F cs x := F = [] ∧ cs = [.int .u64 x.n]
  pos := by decide
  len := by rintro _ _ _ _ rfl; rfl
  one := by rintro _ _ _ _ rfl; simp [Value.oneCell']
  mono := fun h _ => h
  own_rep := fun h => h.2
  own_mono := fun h _ => h
  own_lt := by rintro _ _ _ _ ⟨rfl, _⟩ _ h; cases h
  own_flat := fun _ h => ⟨rfl, h⟩
theorem VR_by {w : World} {S : Nat → Prop} {v : Value} {x : By} (h : VR w S v x) : v = .int .u8 x.n := by obtain ⟨cs, rfl, rfl⟩ := h; rfl
theorem VR_u64 {w : World} {S : Nat → Prop} {v : Value} {x : U64} (h : VR w S v x) : v = .int .u64 x.n := by obtain ⟨cs, rfl, rfl⟩ := h; rfl
theorem mk_by {w : World} {S : Nat → Prop} {x : By} : VR w S (.int .u8 x.n) x := ⟨_, rfl, rfl⟩
theorem mk_u64 {w : World} {S : Nat → Prop} {x : U64} : VR w S (.int .u64 x.n) x := ⟨_, rfl, rfl⟩

section
variable {P : Program} {a : Act} {w : World} {n : Nat} {L : List (Nat × Value)} {dst : Option Tmp} {ty : TypeId} {pos : String} {af : Array Edge} {g : Option (Nat × Bool)}
variable {T U : TypeId} {x y : Operand} {k : IntKind} {i j : Int} {f : Int → Int}
theorem rq_addK (hk : ∀ n, k.wrap n = f n) (hf : Fr a n L) (hx : ev L x = some (.int k i)) (hy : ev L y = some (.int k j)) : (execOp a.eval ⟨dst, .binOp .add T x y U, ty, pos, af, g⟩).run P w = .ok (.value (.int k (f (i + j)))) w := by
  simp [execOp, hf.eval hx, hf.eval hy, eqGuard, binOp, Op.intArith, hk]
theorem rq_subK (hk : ∀ n, k.wrap n = f n) (hf : Fr a n L) (hx : ev L x = some (.int k i)) (hy : ev L y = some (.int k j)) : (execOp a.eval ⟨dst, .binOp .sub T x y U, ty, pos, af, g⟩).run P w = .ok (.value (.int k (f (i - j)))) w := by
  simp [execOp, hf.eval hx, hf.eval hy, eqGuard, binOp, Op.intArith, hk]
theorem rq_mulK (hk : ∀ n, k.wrap n = f n) (hf : Fr a n L) (hx : ev L x = some (.int k i)) (hy : ev L y = some (.int k j)) : (execOp a.eval ⟨dst, .binOp .mul T x y U, ty, pos, af, g⟩).run P w = .ok (.value (.int k (f (i * j)))) w := by
  simp [execOp, hf.eval hx, hf.eval hy, eqGuard, binOp, Op.intArith, hk]
theorem rq_andu8 (hf : Fr a n L) (hx : ev L x = some (.int .u8 i)) (hy : ev L y = some (.int .u8 j)) : (execOp a.eval ⟨dst, .binOp .and T x y U, ty, pos, af, g⟩).run P w = .ok (.value (.int .u8 (andu8 i j))) w := by
  simp [execOp, hf.eval hx, hf.eval hy, eqGuard, binOp, Op.intBits, u8w, andu8]
  try rfl
theorem rq_andu64 (hf : Fr a n L) (hx : ev L x = some (.int .u64 i)) (hy : ev L y = some (.int .u64 j)) : (execOp a.eval ⟨dst, .binOp .and T x y U, ty, pos, af, g⟩).run P w = .ok (.value (.int .u64 (andu64 i j))) w := by
  simp [execOp, hf.eval hx, hf.eval hy, eqGuard, binOp, Op.intBits, u64w, andu64]
  try rfl
theorem rq_shrK {k' : IntKind} {b : Nat} {q : Int} (hb : k.bits = b) (hf : Fr a n L) (hx : ev L x = some (.int k i)) (hy : ev L y = some (.int k' j)) (h : shrk b i j = some q) : (execOp a.eval ⟨dst, .binOp .shr T x y U, ty, pos, af, g⟩).run P w = .ok (.value (.int k q)) w := by
  unfold shrk at h
  split at h
  · cases h
  · rename_i h0
    injection h with h; subst h
    subst hb
    simp [execOp, hf.eval hx, hf.eval hy, eqGuard, binOp, Op.shift, h0]
theorem rq_eqK (hf : Fr a n L) (hx : ev L x = some (.int k i)) (hy : ev L y = some (.int k j)) : (execOp a.eval ⟨dst, .binOp .eql T x y U, ty, pos, af, g⟩).run P w = .ok (.value (.bool (i == j))) w := by
  simp [execOp, hf.eval hx, hf.eval hy, eqGuard, binOp, Op.intCmp]
theorem rq_neK (hf : Fr a n L) (hx : ev L x = some (.int k i)) (hy : ev L y = some (.int k j)) : (execOp a.eval ⟨dst, .binOp .neq T x y U, ty, pos, af, g⟩).run P w = .ok (.value (.bool (i != j))) w := by
  simp [execOp, hf.eval hx, hf.eval hy, eqGuard, binOp, Op.intCmp]
theorem rq_ltK (hf : Fr a n L) (hx : ev L x = some (.int k i)) (hy : ev L y = some (.int k j)) : (execOp a.eval ⟨dst, .binOp .lss T x y U, ty, pos, af, g⟩).run P w = .ok (.value (.bool (decide (i < j)))) w := by
  simp [execOp, hf.eval hx, hf.eval hy, eqGuard, binOp, Op.intCmp]
theorem rq_leK (hf : Fr a n L) (hx : ev L x = some (.int k i)) (hy : ev L y = some (.int k j)) : (execOp a.eval ⟨dst, .binOp .leq T x y U, ty, pos, af, g⟩).run P w = .ok (.value (.bool (decide (i ≤ j)))) w := by
  simp [execOp, hf.eval hx, hf.eval hy, eqGuard, binOp, Op.intCmp]
theorem rq_gtK (hf : Fr a n L) (hx : ev L x = some (.int k i)) (hy : ev L y = some (.int k j)) : (execOp a.eval ⟨dst, .binOp .gtr T x y U, ty, pos, af, g⟩).run P w = .ok (.value (.bool (decide (i > j)))) w := by
  simp [execOp, hf.eval hx, hf.eval hy, eqGuard, binOp, Op.intCmp]
theorem rq_geK (hf : Fr a n L) (hx : ev L x = some (.int k i)) (hy : ev L y = some (.int k j)) : (execOp a.eval ⟨dst, .binOp .geq T x y U, ty, pos, af, g⟩).run P w = .ok (.value (.bool (decide (i ≥ j)))) w := by
  simp [execOp, hf.eval hx, hf.eval hy, eqGuard, binOp, Op.intCmp]
theorem rq_conv {k' : IntKind} {us : TypeDesc} (hk : ∀ n, k.wrap n = f n) (hs : P.underlying T = some us) (hd : P.underlying U = some (.int k)) (hf : Fr a n L) (hx : ev L x = some (.int k' i)) : (execOp a.eval ⟨dst, .convert T U x, ty, pos, af, g⟩).run P w = .ok (.value (.int k (f i))) w := by
  simp [execOp, hf.eval hx, convert, run_underlying hs, run_underlying hd, Conv.intToInt, hk]
end

/-! ### A callee that writes a variable of ours -/
section
variable {w w' w1 : World} {w0 : Base} {S : Nat → Prop} {M : List Blk} {R : List Row} {D : List DI} {I : List (Bool × MP)}
theorem Mem.boxAt (H : Mem w0 S M R D I w) (i : Nat) {b : Nat} {T : TypeId} {cs : List Value} (hi : M[i]? = some ⟨b, T, cs⟩) : w.heap[b]? = some (.cells cs.toArray T (0, 0)) :=
  MemZ.ok H (Blk.res ⟨b, T, cs⟩) (List.mem_append.2 (.inl (List.mem_map.2 ⟨_, List.mem_of_getElem? hi, rfl⟩)))
theorem box_fm {i b : Nat} {T : TypeId} {cs : List Value} (hi : M[i]? = some ⟨b, T, cs⟩) : b ∈ fmZ (zs M R D) :=
  List.mem_flatMap.2 ⟨Blk.res ⟨b, T, cs⟩, List.mem_append.2 (.inl (List.mem_map.2 ⟨_, List.mem_of_getElem? hi, rfl⟩)), by simp [Blk.res]⟩
theorem Mem.notSt (H : Mem w0 S M R D I w) (i : Nat) {b : Nat} {T : TypeId} {cs : List Value} (hi : M[i]? = some ⟨b, T, cs⟩) (f : Bool) : ¬ St w0 S M R D f b := by
  have h1 := box_fm (R := R) (D := D) hi
  rintro (⟨-, h, -⟩ | ⟨-, h⟩)
  · exact h (MemZ.lt H b (fm_all h1)).1
  · exact h h1
theorem Mem.startB (S : Nat → Prop) {b : Nat} {T : TypeId} {cs : List Value} (h : w1.heap[b]? = some (.cells cs.toArray T (0, 0))) : Mem ⟨w1, [b]⟩ S [⟨b, T, cs⟩] [] [] [] w1 := by
  have hlt : b < w1.heap.size := by
    rcases Nat.lt_or_ge b w1.heap.size with h' | h'
    · exact h'
    · rw [Array.getElem?_eq_none h'] at h; cases h
  refine ⟨⟨rfl, rfl, rfl, Nat.le_refl _, fun _ _ => rfl⟩, fun c hc => ?_, ?_, fun r hr => ?_, fun f hf => (by cases hf)⟩
  · have hc' : c = b := by simpa [allZ, zs, Res.all, Blk.res] using hc
    subst hc'
    exact ⟨.inr (by simp), hlt⟩
  · simp [allZ, zs, Res.all, Blk.res]
  · have : r = Blk.res ⟨b, T, cs⟩ := by simpa [zs] using hr
    subst this
    exact h
theorem Mem.argB {G : List Nat} (H : Mem ⟨w1, G⟩ S M R D I w) (hS : ∀ b ∈ G, ¬ S b) {p : MP} (h : p.pred w1 S) : Mem ⟨w1, G⟩ S M R D ((false, p) :: I) w := by
  refine H.push _ (p.mono h fun b hb hlt => ?_)
  have hn : ¬ (⟨w1, G⟩ : Base).nw b := by
    rintro (h1 | h1)
    · simp only at h1; omega
    · exact hS b h1 hb
  exact ⟨.inl ⟨rfl, hn, hb⟩, (MemZ.below H).block b hn⟩
theorem St_set {i b : Nat} {T T' : TypeId} {cs cs' : List Value} (hi : M[i]? = some ⟨b, T, cs⟩) (f : Bool) : St w0 S (M.set i ⟨b, T', cs'⟩) R D f = St w0 S M R D f := by
  unfold St
  rw [StZ_perm (zsM_out (R := R) (D := D) hi), StZ_perm (zsM_set (R := R) (D := D) ⟨b, T', cs'⟩ hi)]
  funext c
  unfold StZ
  simp only [fmZ_app, fmZ_one]
  rfl
theorem Mem.wroteBox (H : Mem w0 S M R D I w) (i : Nat) {b : Nat} {T : TypeId} {cs cs' : List Value} (hi : M[i]? = some ⟨b, T, cs⟩) (hc : Chg w w' [b]) (hb : w'.heap[b]? = some (.cells cs'.toArray T (0, 0))) : Mem w0 S (M.set i ⟨b, T, cs'⟩) R D I w' := by
  refine MemZ.perm (MemZ.step (rs := [Blk.res ⟨b, T, cs⟩]) (rs' := [Blk.res ⟨b, T, cs'⟩]) (MemZ.perm H (zsM_out hi)) (hc.sub fun x hx => ?_) (fun x hx => .inl hx) (fun x hx => .inl hx) (by simp [allZ, Res.all, Blk.res]) fun _ q hq => ?_) (zsM_set _ hi).symm
  · rw [fmZ_one]; simpa [Blk.res] using hx
  · rw [List.mem_singleton] at hq; subst hq
    exact hb
/-- What the callee says of its results. -/
theorem Mem.movesB (H : Mem w0 S M R D I w) (i : Nat) {b : Nat} {T T' : TypeId} {cs cs' : List Value} (hi : M[i]? = some ⟨b, T, cs⟩) (tag : Bool) : Moves w' w' (St ⟨w, [b]⟩ (St w0 S M R D false) [⟨b, T', cs'⟩] [] [] tag) (St w0 S (M.set i ⟨b, T', cs'⟩) R D tag) := by
  intro c hc _
  refine ⟨?_, rfl⟩
  rw [St_set hi]
  rcases hc with ⟨rfl, -, h⟩ | ⟨h1, h2⟩
  · exact h
  · rcases h1 with h1 | h1
    · exact H.new h1 _
    · have e := List.mem_singleton.1 h1
      rw [e] at h2
      exact absurd (box_fm (M := [⟨b, T', cs'⟩]) (R := []) (D := []) (i := 0) rfl) h2
theorem rep_endB {b : Nat} {T : TypeId} {bs : List Value} {i : Nat} {f : Bool} {α : Type} [GoTy α] {cs : List Value} {x : α} (hi : M[i]? = some ⟨b, T, bs⟩) (h : GoTy.rep w (St w0 S M R D f) cs x) : GoTy.rep w (St w0 S [⟨b, T, bs⟩] [] [] f) cs x :=
  GoTy.mono h fun c hc _ => by
    refine ⟨?_, rfl⟩
    rcases hc with hc | ⟨h1, h2⟩
    · exact .inl hc
    · refine .inr ⟨h1, fun h3 => h2 ?_⟩
      have : c = b := by simpa [fmZ, zs, Blk.res] using h3
      subst this; exact box_fm hi
theorem rep_endBw {b : Nat} {T : TypeId} {bs : List Value} {i : Nat} {f : Bool} {α : Type} [GoTy α] {cs : List Value} {x : α} (hi : M[i]? = some ⟨b, T, bs⟩) (h : GoTy.rep w (St w0 S M R D f) cs x) : GoTy.rep w (St w0 S [⟨b, T, bs⟩] [] [] false) cs x :=
  rep_endB hi (rep_weak h)
end

/-! ### A row, cut behind -/
section
variable {P : Program} {Q : Exit → Act → World → Prop} {a : Act} {w : World} {n : Nat} {L : List (Nat × Value)} {ty : TypeId} {pos : String} {af : Array Edge} {g : Option (Nat × Bool)} {K : Act → World → Prop} {d : Nat}
variable {w0 : Base} {S : Nat → Prop} {M : List Blk} {R : List Row} {D : List DI} {I : List (Bool × MP)}
theorem ownsRow_take {B : Nat} {E : TypeId} {s : Nat} {A : Option Addr} {m cap k : Nat} {cells : List Value} (h : w.ownsRow B E s (.slice A m cap) m cells) (hk : k ≤ m) : w.ownsRow B E s (.slice A k cap) k (cells.take (k * s)) := by
  obtain ⟨h1, h2⟩ := h
  have hks : k * s ≤ m * s := Nat.mul_le_mul_right s hk
  refine ⟨by rw [List.length_take, h1]; exact Nat.min_eq_left hks, ?_⟩
  rcases h2 with ⟨hv, hn⟩ | ⟨b, cap', cur, hv, hb, hg, hl, hm, hsz, ht⟩
  · simp only [Value.slice.injEq] at hv
    obtain ⟨rfl, rfl, rfl⟩ := hv
    obtain rfl : k = 0 := by omega
    exact .inl ⟨rfl, rfl⟩
  · simp only [Value.slice.injEq] at hv
    obtain ⟨rfl, -, rfl⟩ := hv
    exact .inr ⟨b, cap, cur, rfl, hb, hg, by omega, hm, hsz, by rw [← ht, List.take_take, Nat.min_eq_left hks]⟩
theorem op_sliceR (hf : Fr a n L) (H : Mem w0 S M R D I w) {α : Type} [GoTy α] {T E E' : TypeId} (hT : P.underlying T = some (.slice E)) (hE : SZ P E (GoTy.n α)) {x : Operand} {lo hi : Option Operand} {A : Option Addr} {cap : Nat} {j : Int} {xs ys : List α} {fr : Bool} (q : Nat) {lov hiv : Option Value}
    (hx : ev L x = some (.slice A xs.length cap)) (hlo : evo L lo = some lov) (hhi : evo L hi = some hiv) (hlo' : lov = none ∨ lov = some (.int .i64 0)) (hhi' : hiv = none ∧ j = xs.length ∨ hiv = some (.int .i64 j)) (hq : R[q]? = some ⟨.sh fr, E', A, cap, xs⟩) (hs : sub xs 0 j = some ys) (hdn : d < n)
    (k : ∀ a', Fr a' n ((d, .slice A ys.length cap) :: L) → Mem w0 S M (R.set q ⟨.sh fr, E', A, cap, ys⟩) D I w → K a' w) : Oper.wp P ⟨some d, .slice T x lo hi none, ty, pos, af, g⟩ a w K Q := by
  obtain ⟨cells, ho, hfit, hel⟩ := H.rowAt (List.mem_of_getElem? hq)
  unfold sub at hs
  split at hs
  case isFalse => cases hs
  rename_i hb
  obtain ⟨h0, h1, h2⟩ := hb
  injection hs with hs
  have hyl : ys.length = j.toNat := by rw [← hs]; simp; omega
  have hcap : xs.length ≤ cap := by
    rcases ho.2 with ⟨hv, hn⟩ | ⟨b, cap', cur, hv, hb, hg, hl, hm, hsz, ht⟩
    · have : xs.length = 0 := hn
      omega
    · simp only [Row.v, Value.slice.injEq] at hv
      obtain ⟨-, -, rfl⟩ := hv
      exact hl
  have hE' : ∀ w, (Go.sizeOf E).run P w = .ok (GoTy.n α) w := hE
  have hA : (A.map fun p => p.add 0) = A := by cases A <;> simp [Addr.add]
  have hval : (execOp a.eval ⟨some d, .slice T x lo hi none, ty, pos, af, g⟩).run P w = .ok (.value (.slice A ys.length cap)) w := by
    have hsl : (Instr.sliceAt T (.slice A xs.length cap) lov hiv none).run P w = .ok (.slice A ys.length cap) w := by
      rw [hyl]
      have hsb : (Instr.sliceBounds true xs.length cap lov hiv none).run P w = .ok (0, j.toNat, cap) w := by
        rcases hlo' with e1 | e1 <;> rcases hhi' with ⟨e2, e3⟩ | e2 <;> rw [e1, e2]
        · subst e3; simp [Instr.sliceBounds]
        · simp [Instr.sliceBounds, Instr.sliceBound, asIntOf, show 0 ≤ j by omega, show j ≤ cap by omega]
        · subst e3; simp [Instr.sliceBounds, Instr.sliceBound, asIntOf]
        · simp [Instr.sliceBounds, Instr.sliceBound, asIntOf, show 0 ≤ j by omega, show j ≤ cap by omega]
      simp [Instr.sliceAt, Instr.slice, run_underlying hT, hsb, hE', hA]
    simp [execOp, hf.eval hx, evo_map hf hlo, evo_map hf hhi, hsl]
  refine op_q hf hval rfl hdn fun a' hf' => k a' hf' (H.reRow hq ⟨rfl, rfl, rfl, Nat.le_refl _, fun _ _ _ => rfl⟩ (.inl (by cases A <;> rfl)) (List.Perm.refl _) fun hm => ?_)
  have hyx : ys.length ≤ xs.length := by omega
  refine ⟨cells.take (ys.length * GoTy.n α), ownsRow_take ho hyx, trivial, fun i y hy => ?_⟩
  have hi : i < ys.length := (List.getElem?_eq_some_iff.1 hy).1
  have hx' : xs[i]? = some y := by
    rw [← hs] at hy
    simp only [Int.toNat_zero, List.drop_zero] at hy
    rw [List.getElem?_take] at hy
    split at hy
    · exact hy
    · cases hy
  have e : part' α (cells.take (ys.length * GoTy.n α)) i = part' α cells i := by
    unfold part'
    have h3 : i * GoTy.n α + GoTy.n α ≤ ys.length * GoTy.n α := by
      have := Nat.mul_le_mul_right (GoTy.n α) (show i + 1 ≤ ys.length from hi)
      rwa [Nat.succ_mul] at this
    rw [List.drop_take, List.take_take, Nat.min_eq_left (by omega)]
  show GoTy.rep _ _ (part' α _ i) y
  rw [e]
  exact GoTy.mono (hel i y hx') (hm _)
end
end AT
