/- More on drawn regions and on slices: slicing whatever the world, nil slices, two operations in either order. -/
import Derived.Test.YtfkdikbnajeelaaAtZ
import Derived.Test.YtfkdikbnajeelaaAtR
import Derived.Laws.BytesString
import Derived.Lib.AppendZerosOnto
import Derived.Lib.Overlaps
set_option linter.unusedSimpArgs false
set_option linter.unusedVariables false
namespace AT
open Go Go.RowKit
section
variable {P : Program} {Q : Exit → Act → World → Prop} {a : Act} {w w' w1 : World} {n : Nat} {L : List (Nat × Value)} {dst : Option Tmp} {ty : TypeId} {pos : String} {af : Array Edge} {g : Option (Nat × Bool)} {K : Act → World → Prop} {d : Nat}
variable {w0 : Base} {S : Nat → Prop} {M : List Blk} {R : List Row} {D : List DI} {I : List (Bool × MP)}
def evo (L : List (Nat × Value)) : Option Operand → Option (Option Value)
  | none => some none
  | some o => (ev L o).map some
theorem evo_map (hf : Fr a n L) {o : Option Operand} {v : Option Value} (h : evo L o = some v) : o.map a.eval = v := by
  cases o with
  | none => simpa [evo] using h
  | some o =>
    simp only [evo, Option.map_eq_some_iff] at h
    obtain ⟨u, hu, rfl⟩ := h
    simp [hf.eval hu]
theorem rq_sliceE (hf : Fr a n L) {T : TypeId} {x : Operand} {u r : Value} (hx : ev L x = some u) {lo hi : Option Operand} {lov hiv : Option Value} (hlo : evo L lo = some lov) (hhi : evo L hi = some hiv) (h : ∀ w', (Instr.sliceAt T u lov hiv none).run P w' = .ok r w') :
    ∀ w, (execOp a.eval ⟨dst, .slice T x lo hi none, ty, pos, af, g⟩).run P w = .ok (.value r) w := by
  intro w
  simp [execOp, hf.eval hx, evo_map hf hlo, evo_map hf hhi, h]
theorem pre_slice (H : Mem w0 S M R D I w) {α : Type} [GoTy α] {T E : TypeId} (hT : P.underlying T = some (.slice E)) (hE : SZ P E (GoTy.n α)) {A : Option Addr} {len cap : Nat} {i j : Int} {xs ys : List α} {f : Bool} (q : Nat) {lov hiv : Option Value}
    (hlo : lov = none ∧ i = 0 ∨ lov = some (.int .i64 i)) (hhi : hiv = none ∧ j = xs.length ∨ hiv = some (.int .i64 j)) (hq : I[q]? = some (f, MP.val [.slice A len cap] xs)) (hs : sub xs i j = some ys) :
    ∃ A' c', (∀ w', (Instr.sliceAt T (.slice A len cap) lov hiv none).run P w' = .ok (.slice A' ys.length c') w') ∧ Mem w0 S M R D ((f, MP.val [.slice A' ys.length c'] ys) :: I) w := by
  obtain ⟨A', cap', hcs, hlc, hcm, hel⟩ : lrep w (St w0 S M R D f) [.slice A len cap] xs := H.get q hq
  simp only [List.cons.injEq, Value.slice.injEq, and_true] at hcs
  obtain ⟨rfl, rfl, rfl⟩ := hcs
  unfold sub at hs
  split at hs
  case isFalse => cases hs
  rename_i hb
  obtain ⟨h0, h1, h2⟩ := hb
  injection hs with hs
  have hyl : ys.length = j.toNat - i.toNat := by rw [← hs]; simp; omega
  have hE' : ∀ w, (Go.sizeOf E).run P w = .ok (GoTy.n α) w := hE
  refine ⟨if cap = i.toNat then A else A.map (·.add (i.toNat * GoTy.n α)), cap - i.toNat, fun w' => ?_, H.push _ ?_⟩
  · have hj : (j.toNat : Int) = j := Int.toNat_of_nonneg (by omega)
    rw [hyl]
    have hsb : (Instr.sliceBounds true xs.length cap lov hiv none).run P w' = .ok (i.toNat, j.toNat, cap) w' := by
      rcases hlo with ⟨e1, rfl⟩ | e1 <;> rcases hhi with ⟨e2, e3⟩ | e2 <;> rw [e1, e2]
      · subst e3; simp [Instr.sliceBounds]
      · simp [Instr.sliceBounds, Instr.sliceBound, asIntOf, show 0 ≤ j by omega, show j ≤ cap by omega]
      · subst e3; simp [Instr.sliceBounds, Instr.sliceBound, asIntOf, h0, h1]
      · simp [Instr.sliceBounds, Instr.sliceBound, asIntOf, h0, show 0 ≤ j by omega, show j ≤ cap by omega, hj, h1]
    simp [Instr.sliceAt, Instr.slice, run_underlying hT, hsb, hE']
  refine ⟨_, _, rfl, by omega, by omega, fun t z hz => ?_⟩
  have hz' : xs[i.toNat + t]? = some z := by
    rw [← hs, List.getElem?_drop] at hz
    rw [List.getElem?_take] at hz
    split at hz
    · exact hz
    · cases hz
  obtain ⟨p, hp, hSp, cs, hc, hr⟩ := hel _ _ hz'
  have hlt := (List.getElem?_eq_some_iff.1 hz').1
  rw [if_neg (by omega), hp]
  refine ⟨p.add (i.toNat * GoTy.n α), rfl, by rw [block_add]; exact hSp, cs, fun u c hu => ?_, hr⟩
  rw [add_add, ← Nat.add_assoc, ← Nat.add_mul]
  exact hc u c hu
theorem run_eqS {T E : TypeId} (hT : P.underlying T = some (.slice E)) {A : Option Addr} {n1 c1 : Nat} : (Op.equal T (.slice A n1 c1) (.slice none 0 0)).run P w = .ok A.isNone w := by
  have h : ∀ d, (Op.equalIn (d + 1) T (.slice A n1 c1) (.slice none 0 0)).run P w = .ok A.isNone w := fun d => by
    cases A <;> simp [Op.equalIn, run_underlying hT]
  obtain ⟨d, hd⟩ : ∃ d, Op.maxDepth = d + 1 := ⟨_, rfl⟩
  unfold Op.equal
  rw [hd]; exact h d
theorem rq_nilA (hf : Fr a n L) {T U E : TypeId} (hT : P.underlying T = some (.slice E)) {x y : Operand} {A : Option Addr} {n1 c1 : Nat} (hx : ev L x = some (.slice A n1 c1)) (hy : ev L y = some (.slice none 0 0)) :
    (execOp a.eval ⟨dst, .binOp .eql T x y U, ty, pos, af, g⟩).run P w = .ok (.value (.bool A.isNone)) w := by
  have hb : (binOp .eql T (.slice A n1 c1) (.slice none 0 0)).run P w = .ok (.bool A.isNone) w := by
    show (do pure (.bool (← Op.equal T (.slice A n1 c1) (.slice none 0 0))) : Sem Value).run P w = _
    simp [run_eqS (P := P) (w := w) hT]
  have hg : (eqGuard .eql T x y (.slice A n1 c1) (.slice none 0 0)).run P w = .ok () w := by simp [eqGuard]
  show (do pure (.value (← (do eqGuard .eql T x y (a.eval x) (a.eval y); binOp .eql T (a.eval x) (a.eval y)))) : Sem Next).run P w = _
  rw [hf.eval hx, hf.eval hy]
  simp [hg, hb]
theorem rq_nilN (hf : Fr a n L) {T U E : TypeId} (hT : P.underlying T = some (.slice E)) {x y : Operand} {n1 c1 : Nat} (hx : ev L x = some (.slice none n1 c1)) (hy : ev L y = some (.slice none 0 0)) :
    (execOp a.eval ⟨dst, .binOp .eql T x y U, ty, pos, af, g⟩).run P w = .ok (.value (.bool true)) w := rq_nilA hf hT hx hy
theorem rq_nilS (hf : Fr a n L) {T U E : TypeId} (hT : P.underlying T = some (.slice E)) {x y : Operand} {p : Addr} {n1 c1 : Nat} (hx : ev L x = some (.slice (some p) n1 c1)) (hy : ev L y = some (.slice none 0 0)) :
    (execOp a.eval ⟨dst, .binOp .eql T x y U, ty, pos, af, g⟩).run P w = .ok (.value (.bool false)) w := rq_nilA hf hT hx hy
theorem nil_data {α : Type} [GoTy α] {T : Nat → Prop} {m c : Nat} {xs : List α} (h : GoTy.rep w T [.slice none m c] xs) : xs = [] := by
  obtain ⟨A, c', hcs, -, -, hel⟩ : lrep w T [.slice none m c] xs := h
  simp only [List.cons.injEq, Value.slice.injEq, and_true] at hcs
  obtain ⟨rfl, rfl, rfl⟩ := hcs
  cases xs with
  | nil => rfl
  | cons x xs => obtain ⟨p, hp, _⟩ := hel 0 x rfl; cases hp
end
section
variable {P : Program} {l : List Oper} {Mid S : World → Prop} {a : Act} {w : World} {B : List Nat} {fuel : Nat} {bs : List Bool} {n : Nat} {L : List (Nat × Value)}
theorem on2 {Mid : Act → World → Prop} {i j : Nat} {oi oj : Oper} {bi bj : List Bool} (hr : Region.ready .any l.toArray bs.toArray = [i, j]) (hi : l[i]? = some oi) (hgi : oi.guard = none) (hbi : bs.set i true = bi) (hj : l[j]? = some oj) (hgj : oj.guard = none) (hbj : bs.set j true = bj)
    (h : oi.wp P a w (fun a' w' => (nb B bi.toArray = true → S w') ∧ DL P l Mid S B fuel bi a' w') (only Mid)) (h' : oj.wp P a w (fun a' w' => (nb B bj.toArray = true → S w') ∧ DL P l Mid S B fuel bj a' w') (only Mid)) : DL P l Mid S B (fuel + 1) bs a w := by
  refine ⟨fun h0 => (by rw [hr] at h0; cases h0), fun q hq => ?_⟩
  rw [hr] at hq
  simp only [List.mem_cons, List.not_mem_nil, or_false] at hq
  rcases hq with rfl | rfl
  · unfold wpOp
    have hi' : l.toArray[q]? = some oi := by simpa using hi
    simp only [hi', Region.wanted, hgi]
    rw [set_bs hbi]
    exact .inl h
  · unfold wpOp
    have hi' : l.toArray[q]? = some oj := by simpa using hj
    simp only [hi', Region.wanted, hgj]
    rw [set_bs hbj]
    exact .inl h'
end
instance : GoTy By where
  n := 1
  agg := false
  flat := true
  rep _ _ cs x := cs = [.int .u8 x.n]
  own _ F cs x := F = [] ∧ cs = [.int .u8 x.n]
  pos := by decide
  len := by rintro _ _ _ _ rfl; rfl
  one := by rintro _ _ _ _ rfl; simp [Value.oneCell']
  mono := fun h _ => h
  own_rep := fun h => h.2
  own_mono := fun h _ => h
  own_lt := by rintro _ _ _ _ ⟨rfl, _⟩ _ h; cases h
  own_flat := fun _ h => ⟨rfl, h⟩
instance : GoTy U64 where
  n := 1
  agg := false
  flat := true
  rep _ _ cs x := cs = [.int .u64 x.n]
  own _ F cs x := F = [] ∧ cs = [.int .u64 x.n]
  pos := by decide
  len := by rintro _ _ _ _ rfl; rfl
  one := by rintro _ _ _ _ rfl; simp [Value.oneCell']
  mono := fun h _ => h
  own_rep := fun h => h.2
  own_mono := fun h _ => h
  own_lt := by rintro _ _ _ _ ⟨rfl, _⟩ _ h; cases h
  own_flat := fun _ h => ⟨rfl, h⟩
theorem VR_u64 {w : World} {S : Nat → Prop} {v : Value} {x : U64} (h : VR w S v x) : v = .int .u64 x.n := by obtain ⟨cs, rfl, rfl⟩ := h; rfl
theorem mk_u64 {w : World} {S : Nat → Prop} {x : U64} : VR w S (.int .u64 x.n) x := ⟨_, rfl, rfl⟩
section
variable {P : Program} {a : Act} {w : World} {n : Nat} {L : List (Nat × Value)} {dst : Option Tmp} {ty : TypeId} {pos : String} {af : Array Edge} {g : Option (Nat × Bool)}
variable {T U : TypeId} {x y : Operand} {k : IntKind} {i j : Int} {f : Int → Int}
theorem rq_addK (hk : ∀ n, k.wrap n = f n) (hf : Fr a n L) (hx : ev L x = some (.int k i)) (hy : ev L y = some (.int k j)) : (execOp a.eval ⟨dst, .binOp .add T x y U, ty, pos, af, g⟩).run P w = .ok (.value (.int k (f (i + j)))) w := by
  simp [execOp, hf.eval hx, hf.eval hy, eqGuard, binOp, Op.intArith, hk]
theorem rq_mulK (hk : ∀ n, k.wrap n = f n) (hf : Fr a n L) (hx : ev L x = some (.int k i)) (hy : ev L y = some (.int k j)) : (execOp a.eval ⟨dst, .binOp .mul T x y U, ty, pos, af, g⟩).run P w = .ok (.value (.int k (f (i * j)))) w := by
  simp [execOp, hf.eval hx, hf.eval hy, eqGuard, binOp, Op.intArith, hk]
theorem rq_andu64 (hf : Fr a n L) (hx : ev L x = some (.int .u64 i)) (hy : ev L y = some (.int .u64 j)) : (execOp a.eval ⟨dst, .binOp .and T x y U, ty, pos, af, g⟩).run P w = .ok (.value (.int .u64 (andu64 i j))) w := by
  simp [execOp, hf.eval hx, hf.eval hy, eqGuard, binOp, Op.intBits, u64w, andu64]
  try rfl
theorem rq_shrK {k' : IntKind} {b : Nat} {q : Int} (hb : k.bits = b) (hf : Fr a n L) (hx : ev L x = some (.int k i)) (hy : ev L y = some (.int k' j)) (h : shrk b i j = some q) : (execOp a.eval ⟨dst, .binOp .shr T x y U, ty, pos, af, g⟩).run P w = .ok (.value (.int k q)) w := by
  unfold shrk at h
  split at h
  · cases h
  · rename_i h0
    injection h with h; subst h
    subst hb
    simp [execOp, hf.eval hx, hf.eval hy, eqGuard, binOp, Op.shift, h0]
theorem rq_gtK (hf : Fr a n L) (hx : ev L x = some (.int k i)) (hy : ev L y = some (.int k j)) : (execOp a.eval ⟨dst, .binOp .gtr T x y U, ty, pos, af, g⟩).run P w = .ok (.value (.bool (decide (i > j)))) w := by
  simp [execOp, hf.eval hx, hf.eval hy, eqGuard, binOp, Op.intCmp]
theorem rq_geK (hf : Fr a n L) (hx : ev L x = some (.int k i)) (hy : ev L y = some (.int k j)) : (execOp a.eval ⟨dst, .binOp .geq T x y U, ty, pos, af, g⟩).run P w = .ok (.value (.bool (decide (i ≥ j)))) w := by
  simp [execOp, hf.eval hx, hf.eval hy, eqGuard, binOp, Op.intCmp]
theorem rq_conv {k' : IntKind} {us : TypeDesc} (hk : ∀ n, k.wrap n = f n) (hs : P.underlying T = some us) (hd : P.underlying U = some (.int k)) (hf : Fr a n L) (hx : ev L x = some (.int k' i)) : (execOp a.eval ⟨dst, .convert T U x, ty, pos, af, g⟩).run P w = .ok (.value (.int k (f i))) w := by
  simp [execOp, hf.eval hx, convert, run_underlying hs, run_underlying hd, Conv.intToInt, hk]
end
section
variable {w w' w1 : World} {w0 : Base} {S : Nat → Prop} {M : List Blk} {R : List Row} {D : List DI} {I : List (Bool × MP)}
theorem Mem.boxAt (H : Mem w0 S M R D I w) (i : Nat) {b : Nat} {T : TypeId} {cs : List Value} (hi : M[i]? = some ⟨b, T, cs⟩) : w.heap[b]? = some (.cells cs.toArray T (0, 0)) :=
  MemZ.ok H (Blk.res ⟨b, T, cs⟩) (List.mem_append.2 (.inl (List.mem_map.2 ⟨_, List.mem_of_getElem? hi, rfl⟩)))
theorem box_fm {i b : Nat} {T : TypeId} {cs : List Value} (hi : M[i]? = some ⟨b, T, cs⟩) : b ∈ fmZ (zs M R D) :=
  List.mem_flatMap.2 ⟨Blk.res ⟨b, T, cs⟩, List.mem_append.2 (.inl (List.mem_map.2 ⟨_, List.mem_of_getElem? hi, rfl⟩)), by simp [Blk.res]⟩
theorem Mem.notSt (H : Mem w0 S M R D I w) (i : Nat) {b : Nat} {T : TypeId} {cs : List Value} (hi : M[i]? = some ⟨b, T, cs⟩) (f : Bool) : ¬ St w0 S M R D f b := by
  have h1 := box_fm (R := R) (D := D) hi
  rintro (⟨-, h, -⟩ | ⟨-, h⟩)
  · exact h (MemZ.lt H b (fm_all h1)).1
  · exact h h1
theorem Mem.startB (S : Nat → Prop) {b : Nat} {T : TypeId} {cs : List Value} (h : w1.heap[b]? = some (.cells cs.toArray T (0, 0))) : Mem ⟨w1, [b]⟩ S [⟨b, T, cs⟩] [] [] [] w1 := by
  have hlt : b < w1.heap.size := by
    rcases Nat.lt_or_ge b w1.heap.size with h' | h'
    · exact h'
    · rw [Array.getElem?_eq_none h'] at h; cases h
  refine ⟨⟨rfl, rfl, rfl, Nat.le_refl _, fun _ _ => rfl⟩, fun c hc => ?_, ?_, fun r hr => ?_, fun f hf => (by cases hf)⟩
  · have hc' : c = b := by simpa [allZ, zs, Res.all, Blk.res] using hc
    subst hc'
    exact ⟨.inr (by simp), hlt⟩
  · simp [allZ, zs, Res.all, Blk.res]
  · have : r = Blk.res ⟨b, T, cs⟩ := by simpa [zs] using hr
    subst this
    exact h
theorem Mem.argB {G : List Nat} (H : Mem ⟨w1, G⟩ S M R D I w) (hS : ∀ b ∈ G, ¬ S b) {p : MP} (h : p.pred w1 S) : Mem ⟨w1, G⟩ S M R D ((false, p) :: I) w := by
  refine H.push _ (p.mono h fun b hb hlt => ?_)
  have hn : ¬ (⟨w1, G⟩ : Base).nw b := by
    rintro (h1 | h1)
    · simp only at h1; omega
    · exact hS b h1 hb
  exact ⟨.inl ⟨rfl, hn, hb⟩, (MemZ.below H).block b hn⟩
theorem Mem.wroteBox (H : Mem w0 S M R D I w) (i : Nat) {b : Nat} {T : TypeId} {cs cs' : List Value} (hi : M[i]? = some ⟨b, T, cs⟩) (hc : Chg w w' [b]) (hb : w'.heap[b]? = some (.cells cs'.toArray T (0, 0))) : Mem w0 S (M.set i ⟨b, T, cs'⟩) R D I w' := by
  refine MemZ.perm (MemZ.step (rs := [Blk.res ⟨b, T, cs⟩]) (rs' := [Blk.res ⟨b, T, cs'⟩]) (MemZ.perm H (zsM_out hi)) (hc.sub fun x hx => ?_) (fun x hx => .inl hx) (fun x hx => .inl hx) (by simp [allZ, Res.all, Blk.res]) fun _ q hq => ?_) (zsM_set _ hi).symm
  · rw [fmZ_one]; simpa [Blk.res] using hx
  · rw [List.mem_singleton] at hq; subst hq
    exact hb
theorem rep_endB {b : Nat} {T : TypeId} {bs : List Value} {i : Nat} {f : Bool} {α : Type} [GoTy α] {cs : List Value} {x : α} (hi : M[i]? = some ⟨b, T, bs⟩) (h : GoTy.rep w (St w0 S M R D f) cs x) : GoTy.rep w (St w0 S [⟨b, T, bs⟩] [] [] f) cs x :=
  GoTy.mono h fun c hc _ => by
    refine ⟨?_, rfl⟩
    rcases hc with hc | ⟨h1, h2⟩
    · exact .inl hc
    · refine .inr ⟨h1, fun h3 => h2 ?_⟩
      have : c = b := by simpa [fmZ, zs, Blk.res] using h3
      subst this; exact box_fm hi
end
section
variable {P : Program} {Q : Exit → Act → World → Prop} {a : Act} {w : World} {n : Nat} {L : List (Nat × Value)} {ty : TypeId} {pos : String} {af : Array Edge} {g : Option (Nat × Bool)} {K : Act → World → Prop} {d : Nat}
variable {w0 : Base} {S : Nat → Prop} {M : List Blk} {R : List Row} {D : List DI} {I : List (Bool × MP)}
theorem ownsRow_take {B : Nat} {E : TypeId} {s : Nat} {A : Option Addr} {m cap k : Nat} {cells : List Value} (h : w.ownsRow B E s (.slice A m cap) m cells) (hk : k ≤ m) : w.ownsRow B E s (.slice A k cap) k (cells.take (k * s)) := by
  obtain ⟨h1, h2⟩ := h
  have hks : k * s ≤ m * s := Nat.mul_le_mul_right s hk
  refine ⟨by rw [List.length_take, h1]; exact Nat.min_eq_left hks, ?_⟩
  rcases h2 with ⟨hv, hn⟩ | ⟨b, cap', cur, hv, hb, hg, hl, hm, hsz, ht⟩
  · simp only [Value.slice.injEq] at hv
    obtain ⟨rfl, rfl, rfl⟩ := hv
    obtain rfl : k = 0 := by omega
    exact .inl ⟨rfl, rfl⟩
  · simp only [Value.slice.injEq] at hv
    obtain ⟨rfl, -, rfl⟩ := hv
    exact .inr ⟨b, cap, cur, rfl, hb, hg, by omega, hm, hsz, by rw [← ht, List.take_take, Nat.min_eq_left hks]⟩
theorem op_sliceR (hf : Fr a n L) (H : Mem w0 S M R D I w) {α : Type} [GoTy α] {T E E' : TypeId} (hT : P.underlying T = some (.slice E)) (hE : SZ P E (GoTy.n α)) {x : Operand} {lo hi : Option Operand} {A : Option Addr} {cap : Nat} {j : Int} {xs ys : List α} {fr : Bool} (q : Nat) {lov hiv : Option Value}
    (hx : ev L x = some (.slice A xs.length cap)) (hlo : evo L lo = some lov) (hhi : evo L hi = some hiv) (hlo' : lov = none ∨ lov = some (.int .i64 0)) (hhi' : hiv = none ∧ j = xs.length ∨ hiv = some (.int .i64 j)) (hq : R[q]? = some ⟨.sh fr, E', A, cap, xs⟩) (hs : sub xs 0 j = some ys) (hdn : d < n)
    (k : ∀ a', Fr a' n ((d, .slice A ys.length cap) :: L) → Mem w0 S M (R.set q ⟨.sh fr, E', A, cap, ys⟩) D I w → K a' w) : Oper.wp P ⟨some d, .slice T x lo hi none, ty, pos, af, g⟩ a w K Q := by
  obtain ⟨cells, ho, hfit, hel⟩ := H.rowAt (List.mem_of_getElem? hq)
  unfold sub at hs
  split at hs
  case isFalse => cases hs
  rename_i hb
  obtain ⟨h0, h1, h2⟩ := hb
  injection hs with hs
  have hyl : ys.length = j.toNat := by rw [← hs]; simp; omega
  have hcap : xs.length ≤ cap := by
    rcases ho.2 with ⟨hv, hn⟩ | ⟨b, cap', cur, hv, hb, hg, hl, hm, hsz, ht⟩
    · have : xs.length = 0 := hn
      omega
    · simp only [Row.v, Value.slice.injEq] at hv
      obtain ⟨-, -, rfl⟩ := hv
      exact hl
  have hE' : ∀ w, (Go.sizeOf E).run P w = .ok (GoTy.n α) w := hE
  have hA : (A.map fun p => p.add 0) = A := by cases A <;> simp [Addr.add]
  have hval : (execOp a.eval ⟨some d, .slice T x lo hi none, ty, pos, af, g⟩).run P w = .ok (.value (.slice A ys.length cap)) w := by
    have hsl : (Instr.sliceAt T (.slice A xs.length cap) lov hiv none).run P w = .ok (.slice A ys.length cap) w := by
      rw [hyl]
      have hsb : (Instr.sliceBounds true xs.length cap lov hiv none).run P w = .ok (0, j.toNat, cap) w := by
        rcases hlo' with e1 | e1 <;> rcases hhi' with ⟨e2, e3⟩ | e2 <;> rw [e1, e2]
        · subst e3; simp [Instr.sliceBounds]
        · simp [Instr.sliceBounds, Instr.sliceBound, asIntOf, show 0 ≤ j by omega, show j ≤ cap by omega]
        · subst e3; simp [Instr.sliceBounds, Instr.sliceBound, asIntOf]
        · simp [Instr.sliceBounds, Instr.sliceBound, asIntOf, show 0 ≤ j by omega, show j ≤ cap by omega]
      simp [Instr.sliceAt, Instr.slice, run_underlying hT, hsb, hE', hA]
    simp [execOp, hf.eval hx, evo_map hf hlo, evo_map hf hhi, hsl]
  refine op_q hf hval rfl hdn fun a' hf' => k a' hf' (H.reRow hq ⟨rfl, rfl, rfl, Nat.le_refl _, fun _ _ _ => rfl⟩ (.inl (by cases A <;> rfl)) (List.Perm.refl _) fun hm => ?_)
  have hyx : ys.length ≤ xs.length := by omega
  refine ⟨cells.take (ys.length * GoTy.n α), ownsRow_take ho hyx, trivial, fun i y hy => ?_⟩
  have hi : i < ys.length := (List.getElem?_eq_some_iff.1 hy).1
  have hx' : xs[i]? = some y := by
    rw [← hs] at hy
    simp only [Int.toNat_zero, List.drop_zero] at hy
    rw [List.getElem?_take] at hy
    split at hy
    · exact hy
    · cases hy
  have e : part' α (cells.take (ys.length * GoTy.n α)) i = part' α cells i := by
    unfold part'
    have h3 : i * GoTy.n α + GoTy.n α ≤ ys.length * GoTy.n α := by
      have := Nat.mul_le_mul_right (GoTy.n α) (show i + 1 ≤ ys.length from hi)
      rwa [Nat.succ_mul] at this
    rw [List.drop_take, List.take_take, Nat.min_eq_left (by omega)]
  show GoTy.rep _ _ (part' α _ i) y
  rw [e]
  exact GoTy.mono (hel i y hx') (hm _)
end
end AT

namespace AT
open Go Go.RowKit
theorem rd_by {P : Program} {t : TypeId} (ht : P.underlying t = some (.int .u8)) : Rd P t By (fun x => 0 ≤ x.n ∧ x.n ≤ 255) := by
  intro H enc w base spare held fuel cs x h
  obtain ⟨n, rfl, -, hw⟩ := DataW.trod_int ht h
  refine ⟨⟨n⟩, rfl, ?_⟩
  simp [Lit.wf, IntKind.min, IntKind.max, IntKind.signed, IntKind.bits] at hw
  simp only
  omega
end AT

namespace AT
open Go Go.RowKit
def IA.cells {n : Nat} (x : IA n) : List Value := x.l.map (Value.int .i64)
theorem IA.cells_len {n : Nat} (x : IA n) : x.cells.length = n := by unfold IA.cells; rw [List.length_map]; exact x.h
@[reducible] def iaTy (n : Nat) (hn : 0 < n) : GoTy (IA n) where
  n := n
  agg := true
  flat := true
  rep _ _ cs x := cs = x.cells
  own _ F cs x := F = [] ∧ cs = x.cells
  pos := hn
  len := by rintro _ _ _ _ rfl; exact IA.cells_len _
  one := by
    rintro _ _ _ x rfl c hc
    obtain ⟨i, -, rfl⟩ := List.mem_map.1 hc
    simp [Value.oneCell']
  mono := fun h _ => h
  own_rep := fun h => h.2
  own_mono := fun h _ => h
  own_lt := by rintro _ _ _ _ ⟨rfl, _⟩ _ h; cases h
  own_flat := fun _ h => ⟨rfl, h⟩
section
variable {P : Program} {Q : Exit → Act → World → Prop} {a : Act} {w : World} {n : Nat} {L : List (Nat × Value)} {dst : Option Tmp} {ty : TypeId} {pos : String} {af : Array Edge} {g : Option (Nat × Bool)} {K : Act → World → Prop} {d : Nat}
variable {w0 : Base} {S : Nat → Prop} {M : List Blk} {R : List Row} {D : List DI} {I : List (Bool × MP)}
end
end AT
namespace AT
open Go Go.RowKit
end AT
namespace AT
open Go Go.RowKit
end AT
namespace AT
open Go Go.RowKit
section
variable {P : Program} {Q : Exit → Act → World → Prop} {a : Act} {w : World} {n : Nat} {L : List (Nat × Value)} {dst : Option Tmp} {ty : TypeId} {pos : String} {af : Array Edge} {g : Option (Nat × Bool)} {K : Act → World → Prop} {d : Nat}
variable {T U : TypeId} {x y : Operand} {s t : ByteArray}
theorem rq_indexS (hf : Fr a n L) (hT : P.underlying T = some .string) {k : IntKind} {i : Int} {e : By} (hx : ev L x = some (.string s)) (hy : ev L y = some (.int k i)) (h : sidx s i = some e) : (execOp a.eval ⟨dst, .index T x y, ty, pos, af, g⟩).run P w = .ok (.value (.int .u8 e.n)) w := by
  unfold sidx at h
  split at h
  case isFalse => cases h
  rename_i h0
  obtain ⟨b, hb, rfl⟩ := Option.map_eq_some_iff.1 h
  have h1 : (Instr.index T (.string s) (.int k i)).run P w = .ok (.int .u8 b.toNat) w := by
    simp [Instr.index, asIntOf, run_underlying hT, h0, hb]
  simp [execOp, hf.eval hx, hf.eval hy, h1]
end
end AT
namespace AT
open Go Go.RowKit
end AT
namespace AT
open Go Go.RowKit
section
variable {P : Program} {Q : Exit → Act → World → Prop} {a : Act} {w : World} {n : Nat} {L : List (Nat × Value)} {dst : Option Tmp} {ty : TypeId} {pos : String} {af : Array Edge} {g : Option (Nat × Bool)} {K : Act → World → Prop} {d : Nat}
variable {w0 : Base} {S : Nat → Prop} {M : List Blk} {R : List Row} {D : List DI} {I : List (Bool × MP)}
theorem pre_iaddrR (H : Mem w0 S M R D I w) {α : Type} [GoTy α] {T E E' : TypeId} (hT : P.underlying T = some (.slice E)) (hE : SZ P E (GoTy.n α)) (j : Nat) {kd : Kd} {A : Option Addr} {cap : Nat} {xs : List α} {i : Int} {e : α}
    (hj : R[j]? = some ⟨kd, E', A, cap, xs⟩) (he : idx xs i = some e) :
    ∃ b o, RA A b o (i.toNat * GoTy.n α) ∧ ∀ w' k, (Instr.indexAt T (.slice A xs.length cap) (.int k i)).run P w' = .ok (.pointer (some ⟨b, o, none⟩)) w' := by
  obtain ⟨h0, h1, h2⟩ := idx_lt he
  obtain ⟨b, q, rfl, cs, hr, hc⟩ := row_cells H hj he
  refine ⟨b, _, ⟨q, rfl, rfl⟩, fun w' k => ?_⟩
  have hi := run_indexAt (P := P) (w := w') (cap := cap) hT hE h0 h1 (p := ⟨b, q, none⟩) (k := k)
  rw [add_lit] at hi
  exact hi
theorem rq_loadRow (hf : Fr a n L) (H : Mem w0 S M R D I w) {α : Type} [GoTy α] {T : TypeId} (hT : LS P T) (j : Nat) {x : Operand} {b o off : Nat} {kd : Kd} {E : TypeId} {A : Option Addr} {cap : Nat} {xs : List α} {i : Int} {e : α} {v : Value}
    (hx : ev L x = some (.pointer (some ⟨b, o + off, none⟩))) (hj : R[j]? = some ⟨kd, E, A, cap, xs⟩) (hA : RA A b o (i.toNat * GoTy.n α)) (he : idx xs i = some e) (hv : ∀ (w : World) (T : Nat → Prop) (cs : List Value), GoTy.rep w T cs e → cs[off]? = some v) :
    (execOp a.eval ⟨dst, .load T x, ty, pos, af, g⟩).run P w = .ok (.value v) w := by
  obtain ⟨b', q', hA', cs, hr, hc⟩ := row_cells H hj he
  obtain ⟨q0, rfl, rfl⟩ := hA
  injection hA' with hA'
  injection hA' with hA' hA2
  subst hA'
  subst hA2
  have := hc off v (hv _ _ _ hr)
  rw [add_lit] at this
  exact rq_load1 hf hT hx this
end
end AT
namespace AT
open Go Go.RowKit
theorem iteB {R : Type} {b : Bool} {x y r : R} {G : Prop} (h : (if b = true then x else y) = r) (h1 : b = true → x = r → G) (h2 : b = false → y = r → G) : G := by
  cases b
  · exact h2 rfl (by simpa using h)
  · exact h1 rfl (by simpa using h)
section
variable {P : Program} {Q : Exit → Act → World → Prop} {a : Act} {w : World} {n : Nat} {L : List (Nat × Value)}
variable {w0 : Base} {S : Nat → Prop} {M : List Blk} {R : List Row} {D : List DI} {I : List (Bool × MP)}
theorem midF {c : Code} (t : Nat) (v : Value) (hf : Fr a n L) (H : Mem w0 S M R D I w) (h : c.wp P (Exit.then (fun a w => Fr a n ((t, v) :: L) ∧ Mem w0 S M R D I w) Q) a w)
    (h2 : ∀ a w, Fr a n ((t, v) :: L) → Mem w0 S M R D I w → Q .normal a w) : c.wp P Q a w := mid _ h fun a w q => h2 a w q.1 q.2
theorem loopC {σ : Type} {id : Nat} {c : Code} (Inv : σ → Act → World → Prop) (G : Nat → σ → Prop) (E : σ → Prop) (s0 : σ) (k0 : Nat) (hL : G k0 s0) (hI : Inv s0 a w) (h0 : ∀ s, ¬ G 0 s)
    (round : ∀ k s a w, G (k + 1) s → Inv s a w → c.wp P (Exit.then (fun a' w' => ∃ s', G k s' ∧ Inv s' a' w') (Exit.inBlock id (Exit.then (fun a w => ∃ s, E s ∧ Inv s a w) Q))) a w)
    (after : ∀ a w, (∃ s, E s ∧ Inv s a w) → Q .normal a w) : (Code.block id (.loop c)).wp P Q a w :=
  mid _ (wp_block (loop_rule G Inv h0 round k0 s0 a w hL hI)) after
end
section
variable {P : Program} {S0 : World → Prop} {B : List Nat} {l : List Oper} {bs bs' : List Bool} {a : Act} {w : World} {n fuel d i : Nat} {L : List (Nat × Value)} {Mid : Act → World → Prop} {o : Oper} {v : Value}
variable {w0 : Base} {S : Nat → Prop} {M : List Blk} {R : List Row} {D : List DI} {I : List (Bool × MP)}
theorem strT (H : Mem w0 S M R D I w) (hs : ∀ w, Mem w0 S M R D I w → S0 w) (h : Mem w0 S M R D I w → DL P l Mid (fun w => Mem w0 S M R D I w) B fuel bs a w) : DL P l Mid S0 B fuel bs a w := str _ hs (h H)
theorem tP (i : Nat) (hi : l[i]? = some o) (hd : o.dst = some d) (hg : o.guard = none) (hdn : Nat.ble (d + 1) n = true) (hf : Fr a n L) (hc : takeB l bs i [] B = true) (hS : nb B bs.toArray = true → S0 w) (hy : ∀ w, (execOp a.eval o).run P w = .ok (.value v) w)
    (h : ∀ a', Fr a' n ((d, v) :: L) → DL P l Mid S0 B fuel (bs.set i true) a' w) : DL P l Mid S0 B (fuel + 1) bs a w := tkP hi hd hg (nle hdn) hf hc hS hy rfl h
theorem tPg (i : Nat) {j e : Nat} {b : Bool} (hi : l[i]? = some o) (hd : o.dst = some d) (hg : o.guard = some (j, b)) (hj : (l[j]?).bind (·.dst) = some e) (hv : lk L e = some (.bool b)) (hdn : Nat.ble (d + 1) n = true) (hf : Fr a n L) (hc : takeB l bs i [] B = true) (hS : nb B bs.toArray = true → S0 w) (hy : ∀ w, (execOp a.eval o).run P w = .ok (.value v) w)
    (h : ∀ a', Fr a' n ((d, v) :: L) → DL P l Mid S0 B fuel (bs.set i true) a' w) : DL P l Mid S0 B (fuel + 1) bs a w := tkPg hi hd hg hj hv (nle hdn) hf hc hS hy rfl h
theorem tS (i : Nat) (X : List Nat) (hi : l[i]? = some o) (hd : o.dst = some d) (hg : o.guard = none) (hdn : Nat.ble (d + 1) n = true) (hf : Fr a n L) (hc : takeB l bs i X B = true) (hBX : (B.all (X.contains ·)) = true) (hS : S0 w) (hy : ∀ w, S0 w → (execOp a.eval o).run P w = .ok (.value v) w)
    (h : ∀ a', Fr a' n ((d, v) :: L) → DL P l Mid S0 B fuel (bs.set i true) a' w) : DL P l Mid S0 B (fuel + 1) bs a w := tkS X hi hd hg (nle hdn) hf hc hBX hS hy rfl h
theorem tSg (i : Nat) (X : List Nat) {j e : Nat} {b : Bool} (hi : l[i]? = some o) (hd : o.dst = some d) (hg : o.guard = some (j, b)) (hj : (l[j]?).bind (·.dst) = some e) (hv : lk L e = some (.bool b)) (hdn : Nat.ble (d + 1) n = true) (hf : Fr a n L) (hc : takeB l bs i X B = true) (hBX : (B.all (X.contains ·)) = true) (hS : S0 w) (hy : ∀ w, S0 w → (execOp a.eval o).run P w = .ok (.value v) w)
    (h : ∀ a', Fr a' n ((d, v) :: L) → DL P l Mid S0 B fuel (bs.set i true) a' w) : DL P l Mid S0 B (fuel + 1) bs a w := tkSg X hi hd hg hj hv (nle hdn) hf hc hBX hS hy rfl h
theorem tUU (i : Nat) {j e : Nat} {b : Bool} (hi : l[i]? = some o) (hd : o.dst = some d) (hg : o.guard = some (j, b)) (hj : (l[j]?).bind (·.dst) = some e) (hv : lk L e = some undef) (hdn : Nat.ble (d + 1) n = true) (hf : Fr a n L) (hc : takeB l bs i [] B = true) (hS : nb B bs.toArray = true → S0 w)
    (h : ∀ a', Fr a' n ((d, undef) :: L) → DL P l Mid S0 B fuel (bs.set i true) a' w) : DL P l Mid S0 B (fuel + 1) bs a w := tkUU hi hd hg hj hv (nle hdn) hf hc hS rfl h
theorem tU (i : Nat) {j e : Nat} {b c : Bool} (hi : l[i]? = some o) (hd : o.dst = some d) (hg : o.guard = some (j, b)) (hj : (l[j]?).bind (·.dst) = some e) (hv : lk L e = some (.bool c)) (hne : (c == b) = false) (hdn : Nat.ble (d + 1) n = true) (hf : Fr a n L) (hc : takeB l bs i [] B = true) (hS : nb B bs.toArray = true → S0 w)
    (h : ∀ a', Fr a' n ((d, undef) :: L) → DL P l Mid S0 B fuel (bs.set i true) a' w) : DL P l Mid S0 B (fuel + 1) bs a w := tkU hi hd hg hj hv hne (nle hdn) hf hc hS rfl h
theorem n1 (i : Nat) (hr : Region.ready .any l.toArray bs.toArray = [i]) (hi : l[i]? = some o) (hg : o.guard = none)
    (h : o.wp P a w (fun a' w' => (nb B (bs.set i true).toArray = true → S0 w') ∧ DL P l Mid S0 B fuel (bs.set i true) a' w') (only Mid)) : DL P l Mid S0 B (fuel + 1) bs a w := on1 hr hi hg rfl h
theorem n1g (i : Nat) {j e : Nat} {b : Bool} (hr : Region.ready .any l.toArray bs.toArray = [i]) (hi : l[i]? = some o) (hg : o.guard = some (j, b)) (hj : (l[j]?).bind (·.dst) = some e) (hv : lk L e = some (.bool b)) (hf : Fr a n L)
    (h : o.wp P a w (fun a' w' => (nb B (bs.set i true).toArray = true → S0 w') ∧ DL P l Mid S0 B fuel (bs.set i true) a' w') (only Mid)) : DL P l Mid S0 B (fuel + 1) bs a w := on1g hr hi hg hj hv hf rfl h
end
end AT
namespace AT
open Go Go.RowKit
theorem ret_0r {P : Program} {w : World} {a : Act} {n : Nat} {L : List (Nat × Value)} {fn : Func} {Rr : Ending → World → Prop} (hf : Fr a n L) (hres : fn.results = #[]) (hR : Rr (.returned (.tuple #[])) w) : bodyPost P fn Rr .ret a w :=
  ⟨hf.defs, _, run_results (rs := []) hres .nil, by simpa using hR⟩
end AT
namespace AT
open Go Go.RowKit
theorem Mem.ownLen {w : World} {w0 : Base} {S : Nat → Prop} {M : List Blk} {R : List Row} {D : List DI} {I : List (Bool × MP)} (H : Mem w0 S M R D I w) {α : Type} [GoTy α] {F : List Nat} {A : Option Addr} {len cap : Nat} {xs : List α} (h : D[0]? = some ⟨F, MP.own F [.slice A len cap] xs⟩) : xs.length = len := by
  obtain ⟨⟨A', cap', E, cells, Fs, hcs, _⟩, -⟩ := H.diAt (List.mem_of_getElem? h)
  simp only [List.cons.injEq, Value.slice.injEq, and_true] at hcs
  exact hcs.2.1.symm
end AT
namespace AT
open Go Go.RowKit
def MP.and (p q : MP) : MP := ⟨fun w S => p.pred w S ∧ q.pred w S, fun h hm => ⟨p.mono h.1 hm, q.mono h.2 hm⟩⟩
end AT

namespace AT
open Go Go.RowKit
section
variable {P : Program} {a : Act} {w : World} {n : Nat} {L : List (Nat × Value)} {dst : Option Tmp} {ty : TypeId} {pos : String} {af : Array Edge} {g : Option (Nat × Bool)}
structure QS (P : Program) (T : TypeId) (fs : List Field) (m : Nat) : Prop where
  u : P.underlying T = some (.struct fs.toArray)
  s : P.stoodInHeld T = false
  f : ∀ f ∈ fs, (f.name == "_") = false ∧ f.offset < m ∧ PT P f.type ∧ ∃ k, P.underlying f.type = some (.int k)
def flds (P : Program) (T : TypeId) : List Field := match P.underlying T with
  | some (.struct fs) => fs.toList
  | _ => []
structure EQT (P : Program) (T : TypeId) (m : Nat) (E : TypeId) : Prop where
  u : P.underlying T = some (.struct (flds P T).toArray)
  s : P.stoodInHeld T = false
  g : P.eqGuardType P.depth T = false
  o : (flds P T).map (·.offset) = List.range m
  f : ((flds P T).all fun f => !(f.name == "_") && f.type == E) = true
  p : PT P E
  i : ∃ k, P.underlying E = some (.int k)
theorem EQT.qs {T : TypeId} {m : Nat} {E : TypeId} (h : EQT P T m E) : QS P T (flds P T) m := by
  refine ⟨h.u, h.s, fun f hf => ?_⟩
  have h1 := List.all_eq_true.1 h.f f hf
  simp only [Bool.and_eq_true, Bool.not_eq_true', beq_iff_eq] at h1
  have h2 : f.offset ∈ List.range m := by rw [← h.o]; exact List.mem_map_of_mem hf
  exact ⟨h1.1, List.mem_range.1 h2, h1.2 ▸ h.p, h1.2 ▸ h.i⟩
end
end AT
namespace AT
open Go Go.RowKit
section
variable {P : Program} {Q : Exit → Act → World → Prop} {a : Act} {w : World} {w0 : Base} {n : Nat} {L : List (Nat × Value)} {K : Act → World → Prop} {S : Nat → Prop} {M : List Blk} {D : List DI} {I : List (Bool × MP)} {d : Tmp} {ty : TypeId} {pos : String} {af : Array Edge} {g : Option (Nat × Bool)}
theorem part_drop {α : Type} [GoTy α] (cells : List Value) (j q : Nat) : part' α (cells.drop (j * GoTy.n α)) q = part' α cells (q + j) := by
  unfold part'
  rw [List.drop_drop, Nat.add_mul, Nat.add_comm]
theorem part_take {α : Type} [GoTy α] (cells : List Value) {i q : Nat} (h : q < i) : part' α (cells.take (i * GoTy.n α)) q = part' α cells q := by
  unfold part'
  have h1 : (q + 1) * GoTy.n α ≤ i * GoTy.n α := Nat.mul_le_mul_right _ h
  rw [Nat.add_mul, Nat.one_mul] at h1
  rw [List.drop_take, List.take_take]
  congr 1
  omega
end
end AT
namespace AT
open Go Go.RowKit
section
variable {P : Program} {Q : Exit → Act → World → Prop} {a : Act} {w : World} {n : Nat} {L : List (Nat × Value)} {K : Act → World → Prop} {d : Nat} {dst : Option Tmp} {ty : TypeId} {pos : String} {af : Array Edge} {g : Option (Nat × Bool)}
theorem b_lo {len cap i : Nat} (h : i ≤ len) : (Instr.sliceBounds true len cap (some (.int .i64 (i : Int))) none none).run P w = .ok (i, len, cap) w := by
  simp [Instr.sliceBounds, Instr.sliceBound, asIntOf, h]
theorem b_hi {len cap j : Nat} (h : j ≤ cap) : (Instr.sliceBounds true len cap none (some (.int .i64 (j : Int))) none).run P w = .ok (0, j, cap) w := by
  simp [Instr.sliceBounds, Instr.sliceBound, asIntOf, h]
def cutA (A : Option Addr) (s i m : Nat) : Option Addr := if m = i then A else A.map (·.add (i * s))
theorem run_cut {T E : TypeId} {s : Nat} (hT : P.underlying T = some (.slice E)) (hE : SZ P E s) {A : Option Addr} {len cap : Nat} {lov hiv mxv : Option Value} {i j m : Nat} (hb : ∀ w, (Instr.sliceBounds true len cap lov hiv mxv).run P w = .ok (i, j, m) w) :
    ∀ w, (Instr.sliceAt T (.slice A len cap) lov hiv mxv).run P w = .ok (.slice (cutA A s i m) (j - i) (m - i)) w := by
  intro w
  have hE' : ∀ w, (Go.sizeOf E).run P w = .ok s w := hE
  simp [Instr.sliceAt, Instr.slice, run_underlying hT, hb, hE', cutA]
theorem rq_cut (hf : Fr a n L) {T : TypeId} {x : Operand} {u r : Value} (hx : ev L x = some u) {lo hi mx : Option Operand} {lov hiv mxv : Option Value} (hlo : evo L lo = some lov) (hhi : evo L hi = some hiv) (hmx : evo L mx = some mxv) (h : ∀ w', (Instr.sliceAt T u lov hiv mxv).run P w' = .ok r w') :
    ∀ w, (execOp a.eval ⟨dst, .slice T x lo hi mx, ty, pos, af, g⟩).run P w = .ok (.value r) w := by
  intro w
  simp [execOp, hf.eval hx, evo_map hf hlo, evo_map hf hhi, evo_map hf hmx, h]
theorem cut_some {g o s i m : Nat} (h : m ≠ i) : cutA (some ⟨g, o, none⟩) s i m = some ⟨g, o + i * s, none⟩ := by
  unfold cutA
  rw [if_neg h, Option.map_some, add_lit]
structure GS (w0 w : World) (g : Nat) (E : TypeId) (cur : List Value) : Prop where
  os : w.os = w0.os
  tape : w.tape = w0.tape
  output : w.output = w0.output
  size : w0.heap.size ≤ w.heap.size
  old : ∀ k, k < w0.heap.size → k ≠ g → w.heap[k]? = w0.heap[k]?
  at_ : w.heap[g]? = some (.cells cur.toArray E (0, 0))
theorem GS.below {w0 w w1 : World} {g : Nat} {E : TypeId} {cur : List Value} (h : GS w0 w g E cur) (hg : g < w0.heap.size) (hb : Below w.heap.size w w1) : GS w0 w1 g E cur :=
  ⟨hb.os.trans h.os, hb.tape.trans h.tape, hb.output.trans h.output, Nat.le_trans h.size hb.size, fun k hk hne => (hb.block k (by have := h.size; omega)).trans (h.old k hk hne), (hb.block g (by have := h.size; omega)).trans h.at_⟩
theorem GS.lt {w0 w : World} {g : Nat} {E : TypeId} {cur : List Value} (h : GS w0 w g E cur) : g < w.heap.size := (Array.getElem?_eq_some_iff.1 h.at_).1
theorem GS.set {w0 w : World} {g : Nat} {E : TypeId} {cur : List Value} (h : GS w0 w g E cur) (new : Array Value) : GS w0 (w.setRow g new) g E new.toList :=
  ⟨h.os, h.tape, h.output, by simpa using h.size, fun k hk hne => (setRow_other w g k new hne).trans (h.old k hk hne), by rw [Array.toArray_toList]; exact setRow_heap w g _ new E _ h.at_⟩
theorem GS.cell {w0 w : World} {g : Nat} {E : TypeId} {cur : List Value} (h : GS w0 w g E cur) (j : Nat) : w.cell? ⟨g, j, none⟩ = cur[j]? := by
  simp [World.cell?, h.at_]
theorem GS.start {w : World} {g : Nat} {E : TypeId} {cur : Array Value} (h : w.heap[g]? = some (.cells cur E (0, 0))) : GS w w g E cur.toList :=
  ⟨rfl, rfl, rfl, Nat.le_refl _, fun _ _ _ => rfl, by rw [Array.toArray_toList]; exact h⟩
theorem GS.grown {w0 w : World} {g : Nat} {E : TypeId} {cur : List Value} (h : GS w0 w g E cur) (o : Option Nat) (ho : g < w0.heap.size → o = some g) : w0.grownBy w o :=
  ⟨h.os, h.tape, h.output, h.size, fun k hk hne => h.old k hk fun e => by subst e; exact hne (ho hk).symm⟩
theorem GS.alloc (w : World) (cs : Array Value) (E : TypeId) : GS w (w.drew.alloc (.cells cs E)) w.heap.size E cs.toList :=
  ⟨rfl, rfl, rfl, by simp, fun k hk _ => heap_alloc_old w.drew _ hk, by rw [Array.toArray_toList]; exact heap_alloc_new w.drew _⟩
def lay (cur : List Value) (o : Nat) (cs : List Value) : List Value := cur.take o ++ cs ++ cur.drop (o + cs.length)
theorem lay_len {cur : List Value} {o : Nat} {cs : List Value} (h : o + cs.length ≤ cur.length) : (lay cur o cs).length = cur.length := by
  unfold lay
  simp only [List.length_append, List.length_take, List.length_drop]
  omega
theorem run_copyN {T U E E0 : TypeId} {s gb o dLen dCap : Nat} {p : Addr} {sLen sCap k : Nat} {cur cs : List Value} {w0 : World} (hT : P.underlying T = some (.slice E)) (hE : SZ P E s) (h : GS w0 w gb E0 cur) (hk : Nat.min sLen dLen = k) (hl : cs.length = k * s)
    (hsrc : ∀ j v, cs[j]? = some v → w.cell? (p.add j) = some v) (hfit : o + cs.length ≤ cur.length) (h1 : ∀ v ∈ cs, v.oneCell' = true) :
    (Builtin.copy_ #[T, U] ty #[.slice (some ⟨gb, o, none⟩) dLen dCap, .slice (some p) sLen sCap]).run P w = .ok (goInt k) (w.setRow gb (lay cur o cs).toArray) := by
  have hE' : ∀ w, (Go.sizeOf E).run P w = .ok s w := hE
  have hfc := run_firstCells_some (P := P) w s k p sLen sCap cs hl hsrc
  have hst := run_storeCells_at P gb o E0 cs 0 cur.toArray w h.at_ (by simpa using hfit) h1
  simp only [Nat.add_zero] at hst
  simp [Builtin.copy_, run_underlying hT, Builtin.lenOf, hE', hk, hfc, hst, lay]
theorem op_copy_of (hf : Fr a n L) {T U : TypeId} {x y : Operand} {v u : Value} (hx : ev L x = some v) (hy : ev L y = some u) {r : Value} {w' : World} (hr : (Builtin.copy_ #[T, U] ty #[v, u]).run P w = .ok r w') (hdn : d < n)
    (k : ∀ a', Fr a' n ((d, r) :: L) → K a' w') : Oper.wp P ⟨some d, .call ⟨.builtin .copy, #[x, y], #[T, U]⟩, ty, pos, af, g⟩ a w K Q := by
  have h1 : (execOp a.eval ⟨some d, .call ⟨.builtin .copy, #[x, y], #[T, U]⟩, ty, pos, af, g⟩).run P w = .ok (.value r) w' := by
    simp [execOp, resolve, invoke, builtin, hf.eval hx, hf.eval hy, hr]
  unfold Oper.wp
  rw [h1, Oper.upon_value]
  exact k _ (hf.put hdn r)
variable {w0 : Base} {S : Nat → Prop} {M : List Blk} {R : List Row} {D : List DI} {I : List (Bool × MP)}
end
end AT

namespace AT
open Go Go.RowKit
section
variable {w w1 w2 : World} {S : Nat → Prop} {M : List Blk} {R : List Row} {D : List DI} {I : List (Bool × MP)}
end
end AT
namespace AT
open Go Go.RowKit
section
variable {w w' w1 : World} {w0 : Base} {S : Nat → Prop} {M : List Blk} {R : List Row} {D : List DI} {I : List (Bool × MP)}
theorem Mem.wroteBoxO (H : Mem w0 S M R D I w) (i : Nat) {b : Nat} {T : TypeId} {cs cs' : List Value} (hi : M[i]? = some ⟨b, T, cs⟩) (hc : Chg w w' [b]) (hb : w'.heap[b]? = some (.cells cs'.toArray T (0, 0)))
    {X : List DI} (hn : (X.flatMap DI.F).Nodup) (hX : ∀ d ∈ X, d.p.pred w' (· ∈ d.F)) (hl : ∀ b ∈ X.flatMap DI.F, w.heap.size ≤ b ∧ b < w'.heap.size) : Mem w0 S (M.set i ⟨b, T, cs'⟩) R (X ++ D) I w' := by
  have hblt : b < w.heap.size := by
    have h := H.boxAt i hi
    rcases Nat.lt_or_ge b w.heap.size with h' | h'
    · exact h'
    · rw [Array.getElem?_eq_none h'] at h; cases h
  have hp1 : (zs (M.set i ⟨b, T, cs'⟩) R (X ++ D)).Perm (([Blk.res ⟨b, T, cs'⟩] ++ X.map DI.res) ++ zs (M.eraseIdx i) R D) := by
    refine (zsM_set (R := R) (D := X ++ D) ⟨b, T, cs'⟩ hi).trans ?_
    rw [List.append_assoc]
    exact (zsD_app X).append_left _
  have ha : allZ ([Blk.res ⟨b, T, cs'⟩] ++ X.map DI.res) = b :: X.flatMap DI.F := by
    rw [allZ_app, allZ_one, allZ_di]; rfl
  have hf : fmZ ([Blk.res ⟨b, T, cs'⟩] ++ X.map DI.res) = [b] := by
    rw [fmZ_app, fmZ_one, fmZ_di]; rfl
  refine MemZ.perm (MemZ.step (rs := [Blk.res ⟨b, T, cs⟩]) (rs' := [Blk.res ⟨b, T, cs'⟩] ++ X.map DI.res) (MemZ.perm H (zsM_out hi)) (hc.sub fun x hx => ?_) (fun x hx => ?_) (fun x hx => ?_) ?_ (fun _ q hq => ?_)) hp1.symm
  · rw [fmZ_one]; simpa [Blk.res] using hx
  · rw [ha] at hx
    rcases List.mem_cons.1 hx with rfl | hx
    · left; rw [allZ_one]; simp [Res.all, Blk.res]
    · exact .inr (hl x hx)
  · rw [hf] at hx
    left; rw [fmZ_one]; simpa [Blk.res] using hx
  · rw [ha]
    exact List.nodup_cons.2 ⟨fun h => by have := (hl b h).1; omega, hn⟩
  · rcases List.mem_append.1 hq with h | h
    · rw [List.mem_singleton] at h; subst h; exact hb
    · obtain ⟨d, hd, rfl⟩ := List.mem_map.1 h
      exact ⟨hX d hd, fun c hc => (hl c (List.mem_flatMap.2 ⟨d, hd, hc⟩)).2⟩
theorem Mem.endsB {X : List DI} {b : Nat} {T : TypeId} {cs : List Value} (H : Mem ⟨w1, [b]⟩ S M R (X ++ D) I w) (i : Nat) (hi : M[i]? = some ⟨b, T, cs⟩) : New w1 w (X.flatMap DI.F) := by
  have H1 := MemZ.perm H (zsD_app X)
  have h1 := MemZ.nd H1
  rw [allZ_app, allZ_di] at h1
  refine ⟨(List.nodup_append.1 h1).1, fun c hc => ?_⟩
  obtain ⟨h2, h3⟩ := MemZ.lt H1 c (by rw [allZ_app, allZ_di]; exact List.mem_append.2 (.inl hc))
  rcases h2 with h2 | h2
  · exact ⟨h2, h3⟩
  · have e := List.mem_singleton.1 h2
    subst e
    exact absurd rfl ((List.nodup_append.1 h1).2.2 c hc c (fm_all (box_fm hi)))
end
theorem fx_slice {l l' : List Value} {q : Nat} {A A' : Option Addr} {m m' c c' : Nat} (h : l'[q]? = l[q]?) (h1 : l'[q]? = some (.slice A' m' c')) (h2 : l[q]? = some (.slice A m c)) : A = A' ∧ c = c' := by
  rw [h1, h2] at h
  simp only [Option.some.injEq, Value.slice.injEq] at h
  exact ⟨h.1.symm, h.2.2.symm⟩
section
variable {w w' : World} {w0 : Base} {S S1 : Nat → Prop} {I I' : List (Bool × MP)}
end
section
variable {w w' : World} {w0 : Base} {S S1 : Nat → Prop} {M : List Blk} {R R' : List Row} {D D' : List DI} {I I' : List (Bool × MP)}
end
def NB (b : Nat) : Nat → Prop := fun c => c ≠ b
theorem Mem.nb {w : World} {w0 : Base} {S : Nat → Prop} {M : List Blk} {R : List Row} {D : List DI} {I : List (Bool × MP)} (H : Mem w0 S M R D I w) (i : Nat) {b : Nat} {T : TypeId} {cs0 : List Value} (hi : M[i]? = some ⟨b, T, cs0⟩) {α : Type} [GoTy α] {f : Bool} {cs : List Value} {x : List α} (h : lrep w (St w0 S M R D f) cs x) : lrep w (NB b) cs x :=
  GoTy.mono (α := List α) h fun c hc _ => ⟨fun e => H.notSt i hi f (e ▸ hc), rfl⟩
section
variable {P : Program} {Q : Exit → Act → World → Prop} {a : Act} {w : World} {n : Nat} {L : List (Nat × Value)} {ty : TypeId} {pos : String} {af : Array Edge} {g : Option (Nat × Bool)} {K : Act → World → Prop} {d : Nat}
variable {w0 : Base} {S : Nat → Prop} {M : List Blk} {R : List Row} {D : List DI} {I : List (Bool × MP)}
theorem Mem.layRow (H : Mem w0 S M R D I w) (j : Nat) {α : Type} [GoTy α] {fr : Bool} {E : TypeId} {b cap : Nat} {xs : List α} (hj : R[j]? = some ⟨.sh fr, E, some ⟨b, 0, none⟩, cap, xs⟩) (q : Nat) (zs : List α) (cs : List Value) (hq : q + zs.length ≤ xs.length) (hcl : cs.length = zs.length * GoTy.n α)
    (hel : ∀ i z, zs[i]? = some z → GoTy.rep w (St w0 S M R D fr) (part' α cs i) z) :
    ∃ cur : List Value, w.heap[b]? = some (.cells cur.toArray E (0, 0)) ∧ q * GoTy.n α + cs.length ≤ cur.length ∧ Mem w0 S M (R.set j ⟨.sh fr, E, some ⟨b, 0, none⟩, cap, xs.take q ++ (zs ++ xs.drop (q + zs.length))⟩) D I (w.setRow b (lay cur (q * GoTy.n α) cs).toArray) := by
  obtain ⟨cells, ho, hfit, he⟩ := H.rowAt (List.mem_of_getElem? hj)
  have hlen : cells.length = xs.length * GoTy.n α := ho.1
  rcases ho.2 with ⟨hv, hn⟩ | ⟨b', cap', cur, hv, hb, hh, hnc, hcm, hsz, htk⟩
  · simp only [Row.v, Value.slice.injEq] at hv
    cases hv.1
  simp only [Row.v, Value.slice.injEq] at hv
  obtain ⟨h1, -, rfl⟩ := hv
  have hbb : b = b' := congrArg Addr.block (Option.some.inj h1)
  subst hbb
  have hnc' : xs.length ≤ cap := hnc
  have htk' : cur.toList.take (xs.length * GoTy.n α) = cells := htk
  have hsz' : cur.size = cap * GoTy.n α := hsz
  have m1 : (q + zs.length) * GoTy.n α ≤ xs.length * GoTy.n α := Nat.mul_le_mul_right _ hq
  have m2 : xs.length * GoTy.n α ≤ cap * GoTy.n α := Nat.mul_le_mul_right _ hnc'
  have m3 : (q + zs.length) * GoTy.n α = q * GoTy.n α + zs.length * GoTy.n α := Nat.add_mul _ _ _
  have hcl' : cur.toList.length = cap * GoTy.n α := by rw [Array.length_toList, hsz']
  have hql : q * GoTy.n α + cs.length ≤ cur.toList.length := by rw [hcl, hcl']; omega
  refine ⟨cur.toList, by rw [Array.toArray_toList]; exact hh, hql, ?_⟩
  have G := (GS.start hh).set (lay cur.toList (q * GoTy.n α) cs).toArray
  have hxl : (xs.take q ++ (zs ++ xs.drop (q + zs.length))).length = xs.length := by
    simp only [List.length_append, List.length_take, List.length_drop]; omega
  have hll : (lay cur.toList (q * GoTy.n α) cs).length = cap * GoTy.n α := by rw [lay_len hql, hcl']
  refine H.reRow hj (G.grown (some b) fun _ => rfl) (.inl rfl) (List.Perm.refl _) fun hm => ?_
  refine ⟨cells.take (q * GoTy.n α) ++ (cs ++ cells.drop ((q + zs.length) * GoTy.n α)), ⟨?_, .inr ⟨b, cap, (lay cur.toList (q * GoTy.n α) cs).toArray, rfl, Nat.zero_le _, ?_, ?_, hcm, ?_, ?_⟩⟩, trivial, fun i x hx => ?_⟩
  · show _ = (xs.take q ++ (zs ++ xs.drop (q + zs.length))).length * GoTy.n α
    rw [hxl, List.length_append, List.length_append, List.length_take, List.length_drop, hlen, hcl]
    omega
  · have := G.at_
    simpa using this
  · show (xs.take q ++ (zs ++ xs.drop (q + zs.length))).length ≤ cap
    rw [hxl]; exact hnc'
  · rw [List.size_toArray, hll]
  · show ((lay cur.toList (q * GoTy.n α) cs).toArray).toList.take ((xs.take q ++ (zs ++ xs.drop (q + zs.length))).length * GoTy.n α) = _
    rw [hxl, List.toList_toArray, ← htk']
    unfold lay
    rw [List.append_assoc, List.take_append, List.take_append, List.length_take, hcl', Nat.min_eq_left (by omega), List.take_of_length_le (by rw [List.length_take]; omega), List.take_take, Nat.min_eq_left (by omega), List.take_of_length_le (l := cs) (by omega), List.drop_take, hcl, ← m3]
    congr 3
    omega
  · have hx' : (xs.take q ++ (zs ++ xs.drop (q + zs.length)))[i]? = some x := hx
    have hil : i < xs.length := by have := (List.getElem?_eq_some_iff.1 hx').1; rw [hxl] at this; exact this
    have lA : (cells.take (q * GoTy.n α)).length = q * GoTy.n α := by rw [List.length_take, hlen]; omega
    show GoTy.rep _ _ (part' α _ i) x
    by_cases h1 : i < q
    · rw [part_app1 lA h1, part_take _ h1]
      rw [List.getElem?_append_left (by rw [List.length_take]; omega), List.getElem?_take_of_lt h1] at hx'
      exact GoTy.mono (he i x hx') (hm _)
    · rw [part_app2 lA (by omega)]
      rw [List.getElem?_append_right (by rw [List.length_take]; omega), List.length_take, Nat.min_eq_left (by omega)] at hx'
      by_cases h2 : i - q < zs.length
      · rw [part_app1 hcl h2]
        rw [List.getElem?_append_left h2] at hx'
        exact GoTy.mono (hel _ x hx') (hm _)
      · rw [part_app2 hcl (by omega), part_drop]
        rw [List.getElem?_append_right (by omega), List.getElem?_drop] at hx'
        exact GoTy.mono (he _ x (by rw [Nat.add_comm]; exact hx')) (hm _)
theorem Mem.rowCap (H : Mem w0 S M R D I w) (j : Nat) {r : Row} (hj : R[j]? = some r) : r.xs.length ≤ r.cap := by
  obtain ⟨cells, ho, -, -⟩ := H.rowAtK (List.mem_of_getElem? hj)
  rcases (ownsK_tail ho).2 with ⟨hv, hn⟩ | ⟨b', o', cap', cur, hv, hh, hnc, hcm, hsz, htk⟩
  · have : r.xs.length = 0 := hn
    omega
  · simp only [Row.v, Value.slice.injEq] at hv
    obtain ⟨-, -, e⟩ := hv
    omega
theorem Mem.rowMax (H : Mem w0 S M R D I w) (j : Nat) {r : Row} (hj : R[j]? = some r) : r.xs.length ≤ maxLen := by
  have h := H.rowCap j hj
  obtain ⟨cells, ho, -, -⟩ := H.rowAtK (List.mem_of_getElem? hj)
  rcases (ownsK_tail ho).2 with ⟨hv, hn⟩ | ⟨b', o', cap', cur, hv, hh, hnc, hcm, hsz, htk⟩
  · have : r.xs.length = 0 := hn
    omega
  · simp only [Row.v, Value.slice.injEq] at hv
    obtain ⟨-, -, e⟩ := hv
    omega
theorem run_copy0 {T U E : TypeId} {s : Nat} {A A2 : Option Addr} {dLen dCap sLen sCap : Nat} (hT : P.underlying T = some (.slice E)) (hE : SZ P E s) (hm : min sLen dLen = 0) :
    (Builtin.copy_ #[T, U] ty #[.slice A dLen dCap, .slice A2 sLen sCap]).run P w = .ok (goInt 0) w := by
  have hE' : ∀ w, (Go.sizeOf E).run P w = .ok s w := hE
  have hm' : Nat.min sLen dLen = 0 := hm
  have hl : ∀ (x : Addr), (loadCells x 0).run P w = .ok #[] w := fun x => by simpa using run_loadCells_list (P := P) w x [] (by simp)
  cases A <;> cases A2 <;> simp [Builtin.copy_, run_underlying hT, Builtin.lenOf, Builtin.firstCells, hE', hm', storeCells, hl]
theorem op_copyRI (hf : Fr a n L) (H : Mem w0 S M R D I w) {α : Type} [GoTy α] {T U E : TypeId} (hT : P.underlying T = some (.slice E)) (hE : SZ P E (GoTy.n α)) {x y : Operand} (j i : Nat) {fr f : Bool} {E' : TypeId} {A A2 : Option Addr} {cap m c2 : Nat} {xs ys : List α}
    (hx : ev L x = some (.slice A xs.length cap)) (hy : ev L y = some (.slice A2 m c2)) (hj : R[j]? = some ⟨.sh fr, E', A, cap, xs⟩) (hi : I[i]? = some (f, MP.val [.slice A2 m c2] ys)) (hff : fr = false ∨ f = true) {r : List α × Int} (h : cpy xs ys = some r) (hdn : d < n)
    (k : ∀ a' w', Fr a' n ((d, .int .i64 r.2) :: L) → Mem w0 S M (R.set j ⟨.sh fr, E', A, cap, r.1⟩) D I w' → K a' w') : Oper.wp P ⟨some d, .call ⟨.builtin .copy, #[x, y], #[T, U]⟩, ty, pos, af, g⟩ a w K Q := by
  unfold cpy at h
  injection h with h
  subst h
  by_cases hc : 1 ≤ xs.length ∧ 1 ≤ ys.length
  case neg =>
    have hm : min ys.length xs.length = 0 := by omega
    obtain ⟨A', cap', hcs, -, -, -⟩ : lrep w (St w0 S M R D f) [.slice A2 m c2] ys := H.get i hi
    simp only [List.cons.injEq, Value.slice.injEq, and_true] at hcs
    obtain ⟨rfl, rfl, rfl⟩ := hcs
    have hj' : R.set j ⟨.sh fr, E', A, cap, xs⟩ = R := by
      obtain ⟨hl, he⟩ := List.getElem?_eq_some_iff.1 hj
      rw [← he, List.set_getElem_self]
    refine op_copy_of hf hx hy (run_copy0 (P := P) hT hE hm) hdn fun a' hf' => ?_
    have hk := k a' w
    rw [hm, List.take_zero, List.nil_append, List.drop_zero, hj'] at hk
    exact hk hf' H
  obtain ⟨kk, hkk⟩ : ∃ kk, kk = min ys.length xs.length := ⟨_, rfl⟩
  simp only [← hkk] at k
  obtain ⟨A', cap', hcs, hlc, hcm, hel⟩ : lrep w (St w0 S M R D f) [.slice A2 m c2] ys := H.get i hi
  simp only [List.cons.injEq, Value.slice.injEq, and_true] at hcs
  obtain ⟨rfl, rfl, rfl⟩ := hcs
  obtain ⟨p, rfl, hp0, -⟩ := hel 0 (ys[0]'(by omega)) (List.getElem?_eq_getElem _)
  obtain ⟨cells, ho, hfit, he⟩ := H.rowAt (List.mem_of_getElem? hj)
  obtain ⟨b, rfl⟩ : ∃ b, A = some ⟨b, 0, none⟩ := by
    rcases ho.2 with ⟨hv, hn⟩ | ⟨b', cap'', cur, hv, -⟩
    · have : xs.length = 0 := hn
      omega
    · simp only [Row.v, Value.slice.injEq] at hv
      exact ⟨b', hv.1⟩
  have htl : (ys.take kk).length = kk := by rw [List.length_take]; omega
  obtain ⟨news, n1, n2, n3, n4⟩ := gather (ys.take kk) 0 (p := p) (T := St w0 S M R D f) (w := w) (fun t z hz => by
    have hz' : ys[t]? = some z := by
      rw [List.getElem?_take] at hz
      split at hz
      · exact hz
      · cases hz
    obtain ⟨p', hp', -, he'⟩ := hel t z hz'
    obtain rfl := Option.some.inj hp'
    rw [Nat.zero_add]; exact he')
  have hmv : Moves w w (St w0 S M R D f) (St w0 S M R D fr) := fun c hc _ => by
    refine ⟨?_, rfl⟩
    rcases hff with rfl | rfl
    · rcases hc with ⟨-, h1, h2⟩ | h1
      · exact .inl ⟨rfl, h1, h2⟩
      · exact .inr h1
    · rcases hc with ⟨h0, -, -⟩ | h1
      · cases h0
      · exact .inr h1
  obtain ⟨cur, hh, hql, HM⟩ := H.layRow j hj 0 (ys.take kk) news (by omega) (by rw [n1]) (fun t z hz => GoTy.mono (n4 t z hz) hmv)
  have G := GS.start hh
  have hr := run_copyN (P := P) (ty := ty) (T := T) (U := U) (w := w) (s := GoTy.n α) (o := 0) (dLen := xs.length) (dCap := cap) (p := p) (sLen := ys.length) (sCap := c2) (k := kk) (cs := news) hT hE G (by rw [hkk]) (by rw [n1, htl]) (fun t v hv => by have := n2 t v hv; simpa using this) (by rw [Nat.zero_mul] at hql; simpa using hql) n3
  refine op_copy_of hf hx hy hr hdn fun a' hf' => k a' _ hf' ?_
  rw [Nat.zero_mul] at HM
  simp only [List.take_zero, List.nil_append, htl, Nat.zero_add] at HM
  simpa using HM
theorem op_selfcp (hf : Fr a n L) (H : Mem w0 S M R D I w) {α : Type} [GoTy α] {T U E : TypeId} (hT : P.underlying T = some (.slice E)) (hE : SZ P E (GoTy.n α)) {x y : Operand} (j : Nat) {fr : Bool} {E' : TypeId} {A : Option Addr} {cap q : Nat} {xs : List α}
    (hx : ev L x = some (.slice (cutA A (GoTy.n α) q cap) (xs.length - q) (cap - q))) (hy : ev L y = some (.slice (cutA A (GoTy.n α) 0 cap) (q - 0) (cap - 0))) (hj : R[j]? = some ⟨.sh fr, E', A, cap, xs⟩) (h0 : 0 < q) (h1 : q < xs.length) (hdn : d < n)
    (k : ∀ a' w', Fr a' n ((d, .int .i64 ((min q (xs.length - q) : Nat) : Int)) :: L) → Mem w0 S M (R.set j ⟨.sh fr, E', A, cap, xs.take q ++ (xs.take (min q (xs.length - q)) ++ xs.drop (q + min q (xs.length - q)))⟩) D I w' → K a' w') : Oper.wp P ⟨some d, .call ⟨.builtin .copy, #[x, y], #[T, U]⟩, ty, pos, af, g⟩ a w K Q := by
  obtain ⟨kk, hkk⟩ : ∃ kk, kk = min q (xs.length - q) := ⟨_, rfl⟩
  rw [← hkk] at k
  obtain ⟨cells, ho, hfit, he⟩ := H.rowAt (List.mem_of_getElem? hj)
  have hlen : cells.length = xs.length * GoTy.n α := ho.1
  have hpos := GoTy.pos (α := α)
  obtain ⟨b, rfl, hnc, hone⟩ : ∃ b, A = some ⟨b, 0, none⟩ ∧ xs.length ≤ cap ∧ True := by
    rcases ho.2 with ⟨hv, hn⟩ | ⟨b', cap'', cur, hv, -, -, hnc, -⟩
    · have : xs.length = 0 := hn
      omega
    · simp only [Row.v, Value.slice.injEq] at hv
      obtain ⟨h1, -, rfl⟩ := hv
      exact ⟨b', h1, hnc, trivial⟩
  rw [cut_some (by omega)] at hx
  rw [cut_some (by omega)] at hy
  have htl : (xs.take kk).length = kk := by rw [List.length_take]; omega
  have hkm : kk * GoTy.n α ≤ xs.length * GoTy.n α := Nat.mul_le_mul_right _ (by omega)
  have hcl : (cells.take (kk * GoTy.n α)).length = kk * GoTy.n α := by rw [List.length_take, hlen]; omega
  obtain ⟨cur, hh, hql, HM⟩ := H.layRow j hj q (xs.take kk) (cells.take (kk * GoTy.n α)) (by omega) (by rw [htl, hcl]) (fun t z hz => by
    have ht : t < kk := by have := (List.getElem?_eq_some_iff.1 hz).1; omega
    rw [List.getElem?_take_of_lt ht] at hz
    rw [part_take _ ht]
    exact he t z hz)
  have G := GS.start hh
  have honeall : ∀ v ∈ cells.take (kk * GoTy.n α), v.oneCell' = true := fun v hv => by
    obtain ⟨t, ht, rfl⟩ := List.mem_iff_getElem.1 (List.mem_of_mem_take hv)
    have hq1 : t / GoTy.n α < xs.length := by rw [hlen] at ht; exact (Nat.div_lt_iff_lt_mul hpos).2 ht
    have hr := he (t / GoTy.n α) _ (List.getElem?_eq_getElem hq1)
    refine GoTy.one (α := α) hr _ ?_
    unfold part'
    rw [List.mem_iff_getElem?]
    refine ⟨t % GoTy.n α, ?_⟩
    rw [List.getElem?_take_of_lt (Nat.mod_lt _ hpos), List.getElem?_drop, Nat.mul_comm, Nat.div_add_mod, List.getElem?_eq_getElem]
  have hr := run_copyN (P := P) (ty := ty) (T := T) (U := U) (w := w) (s := GoTy.n α) (o := 0 + q * GoTy.n α) (dLen := xs.length - q) (dCap := cap - q) (p := ⟨b, 0 + 0 * GoTy.n α, none⟩) (sLen := q - 0) (sCap := cap - 0) (k := kk) (cs := cells.take (kk * GoTy.n α)) hT hE G (by rw [hkk, Nat.sub_zero]) hcl (fun t v hv => by
    have hv' : cells[t]? = some v := by
      rw [List.getElem?_take] at hv
      split at hv
      · exact hv
      · cases hv
    have := ho.cells (g := b) rfl t v hv'
    simpa [Addr.add] using this) (by simpa using hql) honeall
  refine op_copy_of hf hx hy hr hdn fun a' hf' => k a' _ hf' ?_
  rw [htl] at HM
  simpa using HM
end
section
variable {P : Program} {Q : Exit → Act → World → Prop} {a : Act} {w : World} {n : Nat} {L : List (Nat × Value)} {dst : Option Tmp} {ty : TypeId} {pos : String} {af : Array Edge} {g : Option (Nat × Bool)} {K : Act → World → Prop} {d : Nat}
variable {w0 : Base} {S : Nat → Prop} {M : List Blk} {R : List Row} {D : List DI} {I : List (Bool × MP)}
end
end AT

namespace AT
open Go Go.RowKit
section
variable {w w' w1 : World} {w0 : Base} {S : Nat → Prop} {M : List Blk} {R : List Row} {D : List DI} {I : List (Bool × MP)}
end
section
variable {P : Program} {l : List Oper} {S : World → Prop} {a : Act} {w : World} {B : List Nat} {fuel : Nat} {bs : List Bool}
end
section
variable {P : Program} {a : Act} {w : World} {n : Nat} {L : List (Nat × Value)} {dst : Option Tmp} {ty : TypeId} {pos : String} {af : Array Edge} {g : Option (Nat × Bool)}
end
end AT

namespace AT
open Go Go.RowKit
section
variable {w w' w1 : World} {w0 : Base} {S : Nat → Prop} {M : List Blk} {R : List Row} {D : List DI} {I : List (Bool × MP)}
end
section
variable {P : Program} {Q : Exit → Act → World → Prop} {a : Act} {w : World} {n : Nat} {L : List (Nat × Value)} {ty : TypeId} {pos : String} {af : Array Edge} {g : Option (Nat × Bool)} {K : Act → World → Prop} {d : Nat}
variable {w0 : Base} {S : Nat → Prop} {M : List Blk} {R : List Row} {D : List DI} {I : List (Bool × MP)}
end
section
variable {w : World} {w0 : Base} {S : Nat → Prop} {M : List Blk} {R : List Row} {D : List DI} {I : List (Bool × MP)}
end
section
variable {w w1 : World} {w0 : Base} {S : Nat → Prop} {M : List Blk} {R : List Row} {D : List DI} {I : List (Bool × MP)}
def NO (F : List Nat) : Nat → Prop := fun c => c ∉ F
theorem Mem.argO {G : List Nat} {d : DI} (H : Mem ⟨w1, G⟩ S M R (d :: D) I w) (hS : ∀ c ∈ G, ¬ S c) {α : Type} [GoTy α] {cv : List Value} {x : α} (h : GoTy.rep w1 S cv x) : GoTy.rep w (NO d.F) cv x := by
  refine GoTy.mono h fun c hc hlt => ?_
  have hn : ¬ (⟨w1, G⟩ : Base).nw c := by
    rintro (h1 | h1)
    · simp only at h1; omega
    · exact hS c h1 hc
  exact ⟨fun hx => hn (H.diNd.2 c hx).1, (MemZ.below H).block c hn⟩
theorem Mem.argOc {G : List Nat} {d : DI} (H : Mem ⟨w1, G⟩ S M R (d :: D) I w) (hS : ∀ c ∈ G, ¬ S c) {p : MP} (h : p.pred w1 S) : p.pred w (NO d.F) := by
  refine p.mono h fun c hc hlt => ?_
  have hn : ¬ (⟨w1, G⟩ : Base).nw c := by
    rintro (h1 | h1)
    · simp only at h1; omega
    · exact hS c h1 hc
  exact ⟨fun hx => hn (H.diNd.2 c hx).1, (MemZ.below H).block c hn⟩
theorem Mem.boxO {d : DI} (H : Mem w0 S M R (d :: D) I w) (j : Nat) {b2 : Nat} {T2 : TypeId} {cs2 : List Value} (hj : M[j]? = some ⟨b2, T2, cs2⟩) : (MP.cells ⟨b2, 0, none⟩ cs2).pred w (NO d.F) := by
  have ht := H.boxTrue j hj
  have hnd := MemZ.nd (MemZ.perm H (zsD_cons d))
  rw [allZ_app, allZ_one] at hnd
  refine ⟨fun h => (List.nodup_append.1 hnd).2.2 b2 ?_ b2 (List.mem_flatMap.2 ⟨Blk.res ⟨b2, T2, cs2⟩, List.mem_append.2 (.inl (List.mem_map.2 ⟨_, List.mem_of_getElem? hj, rfl⟩)), by simp [Res.all, Blk.res]⟩) rfl, ht.2.1, ht.2.2⟩
  simpa [Res.all, DI.res] using h
theorem Mem.ownO {d : DI} (H : Mem w0 S M R (d :: D) I w) (j : Nat) {α : Type} [GoTy α] {F2 : List Nat} {cv : List Value} {x : α} (hj : D[j]? = some ⟨F2, MP.own F2 cv x⟩) : GoTy.rep w (NO d.F) cv x := by
  have ho : GoTy.own w F2 cv x := (H.diAt (List.mem_cons_of_mem _ (List.mem_of_getElem? hj))).1
  have hnd := MemZ.nd (MemZ.perm H (zsD_cons d))
  rw [allZ_app, allZ_one] at hnd
  refine GoTy.mono (GoTy.own_rep ho) fun c hc _ => ⟨fun h => (List.nodup_append.1 hnd).2.2 c ?_ c (List.mem_flatMap.2 ⟨DI.res ⟨F2, MP.own F2 cv x⟩, List.mem_append.2 (.inr (List.mem_append.2 (.inr (List.mem_map.2 ⟨_, List.mem_of_getElem? hj, rfl⟩)))), ?_⟩) rfl, rfl⟩
  · simpa [Res.all, DI.res] using h
  · simpa [Res.all, DI.res] using hc
end
section
variable {w w' : World} {w0 : Base} {S : Nat → Prop} {M : List Blk} {R : List Row} {D : List DI} {I : List (Bool × MP)}
end
section
variable {P : Program} {Q : Exit → Act → World → Prop} {a : Act} {w : World} {n : Nat} {L : List (Nat × Value)} {ty : TypeId} {pos : String} {af : Array Edge} {g : Option (Nat × Bool)} {K : Act → World → Prop} {d : Nat}
variable {w0 : Base} {S : Nat → Prop} {M : List Blk} {R : List Row} {D : List DI} {I : List (Bool × MP)}
theorem op_sliceV (hf : Fr a n L) (H : Mem w0 S M R D I w) {α : Type} [GoTy α] {T E : TypeId} (hT : P.underlying T = some (.slice E)) (hE : SZ P E (GoTy.n α)) {x : Operand} {lo hi : Option Operand} {A : Option Addr} {len cap : Nat} {E' : TypeId} {kd : Kd} {i j : Int} {xs ys : List α} (q : Nat)
    (hx : ev L x = some (.slice A len cap)) (hlo : match lo with | some o => ev L o = some (.int .i64 i) | none => i = 0) (hhi : match hi with | some o => ev L o = some (.int .i64 j) | none => j = len)
    (hq : R[q]? = some ⟨kd, E', A, cap, xs⟩) (hs : sub xs i j = some ys) (hdn : d < n)
    (k : ∀ A' c' a', Fr a' n ((d, .slice A' ys.length c') :: L) → lrep w (fun _ => True) [.slice A' ys.length c'] ys → K a' w) (hlen : len = xs.length := by rfl) : Oper.wp P ⟨some d, .slice T x lo hi none, ty, pos, af, g⟩ a w K Q := by
  subst hlen
  exact op_sliceI hf (H.freeze q hq) hT hE 0 hx hlo hhi rfl hs hdn fun A' c' a' hf' H' => k A' c' a' hf' (rep_true (α := List α) (H'.get 0 rfl))
theorem op_sliceA (hf : Fr a n L) (H : Mem w0 S M R D I w) {α : Type} [GoTy α] {T E : TypeId} (hT : P.underlying T = some (.slice E)) (hE : SZ P E (GoTy.n α)) {x : Operand} {lo hi : Option Operand} {A : Option Addr} {len cap : Nat} {i j : Int} {xs ys : List α} {f : Bool} (q : Nat)
    (hx : ev L x = some (.slice A len cap)) (hlo : match lo with | some o => ev L o = some (.int .i64 i) | none => i = 0) (hhi : match hi with | some o => ev L o = some (.int .i64 j) | none => j = len)
    (hq : I[q]? = some (f, MP.val [.slice A len cap] xs)) (hs : sub xs i j = some ys) (hdn : d < n)
    (k : ∀ A' c' a', Fr a' n ((d, .slice A' ys.length c') :: L) → (∀ w1 S1, lrep w1 S1 [.slice A len cap] xs → lrep w1 S1 [.slice A' ys.length c'] ys) → Mem w0 S M R D ((f, MP.val [.slice A' ys.length c'] ys) :: I) w → K a' w) : Oper.wp P ⟨some d, .slice T x lo hi none, ty, pos, af, g⟩ a w K Q := by
  obtain ⟨A', cap', hcs, hlc, hcm, hel0⟩ : lrep w (St w0 S M R D f) [.slice A len cap] xs := H.get q hq
  have h0' : lrep w (St w0 S M R D f) [.slice A len cap] xs := H.get q hq
  simp only [List.cons.injEq, Value.slice.injEq, and_true] at hcs
  obtain ⟨rfl, rfl, rfl⟩ := hcs
  unfold sub at hs
  split at hs
  case isFalse => cases hs
  rename_i hb
  obtain ⟨h0, h1, h2⟩ := hb
  injection hs with hs
  have hyl : ys.length = j.toNat - i.toNat := by rw [← hs]; simp; omega
  have hE' : ∀ w, (Go.sizeOf E).run P w = .ok (GoTy.n α) w := hE
  have hval : (execOp a.eval ⟨some d, .slice T x lo hi none, ty, pos, af, g⟩).run P w = .ok (.value (.slice (if cap = i.toNat then A else A.map (·.add (i.toNat * GoTy.n α))) ys.length (cap - i.toNat))) w := by
    have hj : (j.toNat : Int) = j := Int.toNat_of_nonneg (by omega)
    have hlo' : (lo.map a.eval) = none ∧ i = 0 ∨ (lo.map a.eval) = some (.int .i64 i) := by
      cases lo with
      | none => exact .inl ⟨rfl, hlo⟩
      | some o => exact .inr (by simp [hf.eval hlo])
    have hhi' : (hi.map a.eval) = none ∧ j = xs.length ∨ (hi.map a.eval) = some (.int .i64 j) := by
      cases hi with
      | none => exact .inl ⟨rfl, hhi⟩
      | some o => exact .inr (by simp [hf.eval hhi])
    have hsl : (Instr.sliceAt T (.slice A xs.length cap) (lo.map a.eval) (hi.map a.eval) none).run P w = .ok (.slice (if cap = i.toNat then A else A.map (·.add (i.toNat * GoTy.n α))) ys.length (cap - i.toNat)) w := by
      rw [hyl]
      have hsb : (Instr.sliceBounds true xs.length cap (lo.map a.eval) (hi.map a.eval) none).run P w = .ok (i.toNat, j.toNat, cap) w := by
        rcases hlo' with ⟨e1, rfl⟩ | e1 <;> rcases hhi' with ⟨e2, e3⟩ | e2 <;> rw [e1, e2]
        · subst e3; simp [Instr.sliceBounds]
        · simp [Instr.sliceBounds, Instr.sliceBound, asIntOf, show 0 ≤ j by omega, show j ≤ cap by omega]
        · subst e3; simp [Instr.sliceBounds, Instr.sliceBound, asIntOf, h0, h1]
        · simp [Instr.sliceBounds, Instr.sliceBound, asIntOf, h0, show 0 ≤ j by omega, show j ≤ cap by omega, hj, h1]
      simp [Instr.sliceAt, Instr.slice, run_underlying hT, hsb, hE']
    simp [execOp, hf.eval hx, hsl]
  have hall : ∀ w1 S1, lrep w1 S1 [.slice A xs.length cap] xs → lrep w1 S1 [.slice (if cap = i.toNat then A else A.map (·.add (i.toNat * GoTy.n α))) ys.length (cap - i.toNat)] ys := by
    rintro w1 S1 ⟨A1, cap1, hcs1, -, -, hel⟩
    simp only [List.cons.injEq, Value.slice.injEq, and_true] at hcs1
    obtain ⟨rfl, -, rfl⟩ := hcs1
    refine ⟨_, _, rfl, by omega, by omega, fun t z hz => ?_⟩
    have hz' : xs[i.toNat + t]? = some z := by
      rw [← hs, List.getElem?_drop] at hz
      rw [List.getElem?_take] at hz
      split at hz
      · exact hz
      · cases hz
    obtain ⟨p, hp, hSp, cs, hc, hr⟩ := hel _ _ hz'
    have hlt := (List.getElem?_eq_some_iff.1 hz').1
    rw [if_neg (by omega), hp]
    refine ⟨p.add (i.toNat * GoTy.n α), rfl, by rw [block_add]; exact hSp, cs, fun u c hu => ?_, hr⟩
    rw [add_add, ← Nat.add_assoc, ← Nat.add_mul]
    exact hc u c hu
  exact op_q hf hval rfl hdn fun a' hf' => k _ _ a' hf' hall (H.push _ (hall _ _ h0'))
end
end AT
