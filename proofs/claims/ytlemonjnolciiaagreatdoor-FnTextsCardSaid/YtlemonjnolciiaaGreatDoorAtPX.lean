/- More on drawn regions and on slices: slicing whatever the world, nil slices, two operations in either order. -/
import Derived.Test.YtlemonjnolciiaaGreatDoorAtZ
import Derived.Test.YtlemonjnolciiaaGreatDoorAtR
import Derived.Laws.BytesString
import Derived.Lib.AppendZerosOnto
import Derived.Lib.Overlaps
import Derived.Maps.OwnOps
import Derived.Maps.Views
import Derived.Lib.Split
import Derived.Lib.IndexMore
import Derived.Lib.Join
import Derived.Lib.ItoaNum
import Derived.Lib.Atoi
set_option linter.unusedSimpArgs false
set_option linter.unusedVariables false
namespace AT
open Go Go.RowKit
section
variable {P : Program} {Q : Exit → Act → World → Prop} {a : Act} {w w' w1 : World} {n : Nat} {L : List (Nat × Value)} {dst : Option Tmp} {ty : TypeId} {pos : String} {af : Array Edge} {g : Option (Nat × Bool)} {K : Act → World → Prop} {d : Nat}
variable {w0 : Base} {S : Nat → Prop} {M : List Blk} {R : List Row} {D : List DI} {I : List (Bool × MP)}
def evo (L : List (Nat × Value)) : Option Operand → Option (Option Value)
  | none => some none
  | some o => (ev L o).map some
theorem evo_map (hf : Fr a n L) {o : Option Operand} {v : Option Value} (h : evo L o = some v) : o.map a.eval = v := by
  cases o with
  | none => simpa [evo] using h
  | some o =>
    simp only [evo, Option.map_eq_some_iff] at h
    obtain ⟨u, hu, rfl⟩ := h
    simp [hf.eval hu]
theorem rq_sliceE (hf : Fr a n L) {T : TypeId} {x : Operand} {u r : Value} (hx : ev L x = some u) {lo hi : Option Operand} {lov hiv : Option Value} (hlo : evo L lo = some lov) (hhi : evo L hi = some hiv) (h : ∀ w', (Instr.sliceAt T u lov hiv none).run P w' = .ok r w') :
    ∀ w, (execOp a.eval ⟨dst, .slice T x lo hi none, ty, pos, af, g⟩).run P w = .ok (.value r) w := by
  intro w
  simp [execOp, hf.eval hx, evo_map hf hlo, evo_map hf hhi, h]
theorem pre_slice (H : Mem w0 S M R D I w) {α : Type} [GoTy α] {T E : TypeId} (hT : P.underlying T = some (.slice E)) (hE : SZ P E (GoTy.n α)) {A : Option Addr} {len cap : Nat} {i j : Int} {xs ys : List α} {f : Bool} (q : Nat) {lov hiv : Option Value}
    (hlo : lov = none ∧ i = 0 ∨ lov = some (.int .i64 i)) (hhi : hiv = none ∧ j = xs.length ∨ hiv = some (.int .i64 j)) (hq : I[q]? = some (f, MP.val [.slice A len cap] xs)) (hs : sub xs i j = some ys) :
    ∃ A' c', (∀ w', (Instr.sliceAt T (.slice A len cap) lov hiv none).run P w' = .ok (.slice A' ys.length c') w') ∧ Mem w0 S M R D ((f, MP.val [.slice A' ys.length c'] ys) :: I) w := by
  obtain ⟨A', cap', hcs, hlc, hcm, hel⟩ : lrep w (St w0 S M R D f) [.slice A len cap] xs := H.get q hq
  simp only [List.cons.injEq, Value.slice.injEq, and_true] at hcs
  obtain ⟨rfl, rfl, rfl⟩ := hcs
  unfold sub at hs
  split at hs
  case isFalse => cases hs
  rename_i hb
  obtain ⟨h0, h1, h2⟩ := hb
  injection hs with hs
  have hyl : ys.length = j.toNat - i.toNat := by rw [← hs]; simp; omega
  have hE' : ∀ w, (Go.sizeOf E).run P w = .ok (GoTy.n α) w := hE
  refine ⟨if cap = i.toNat then A else A.map (·.add (i.toNat * GoTy.n α)), cap - i.toNat, fun w' => ?_, H.push _ ?_⟩
  · have hj : (j.toNat : Int) = j := Int.toNat_of_nonneg (by omega)
    rw [hyl]
    have hsb : (Instr.sliceBounds true xs.length cap lov hiv none).run P w' = .ok (i.toNat, j.toNat, cap) w' := by
      rcases hlo with ⟨e1, rfl⟩ | e1 <;> rcases hhi with ⟨e2, e3⟩ | e2 <;> rw [e1, e2]
      · subst e3; simp [Instr.sliceBounds]
      · simp [Instr.sliceBounds, Instr.sliceBound, asIntOf, show 0 ≤ j by omega, show j ≤ cap by omega]
      · subst e3; simp [Instr.sliceBounds, Instr.sliceBound, asIntOf, h0, h1]
      · simp [Instr.sliceBounds, Instr.sliceBound, asIntOf, h0, show 0 ≤ j by omega, show j ≤ cap by omega, hj, h1]
    simp [Instr.sliceAt, Instr.slice, run_underlying hT, hsb, hE']
  refine ⟨_, _, rfl, by omega, by omega, fun t z hz => ?_⟩
  have hz' : xs[i.toNat + t]? = some z := by
    rw [← hs, List.getElem?_drop] at hz
    rw [List.getElem?_take] at hz
    split at hz
    · exact hz
    · cases hz
  obtain ⟨p, hp, hSp, cs, hc, hr⟩ := hel _ _ hz'
  have hlt := (List.getElem?_eq_some_iff.1 hz').1
  rw [if_neg (by omega), hp]
  refine ⟨p.add (i.toNat * GoTy.n α), rfl, by rw [block_add]; exact hSp, cs, fun u c hu => ?_, hr⟩
  rw [add_add, ← Nat.add_assoc, ← Nat.add_mul]
  exact hc u c hu
end
section
variable {P : Program} {l : List Oper} {Mid S : World → Prop} {a : Act} {w : World} {B : List Nat} {fuel : Nat} {bs : List Bool} {n : Nat} {L : List (Nat × Value)}
theorem on2 {Mid : Act → World → Prop} {i j : Nat} {oi oj : Oper} {bi bj : List Bool} (hr : Region.ready .any l.toArray bs.toArray = [i, j]) (hi : l[i]? = some oi) (hgi : oi.guard = none) (hbi : bs.set i true = bi) (hj : l[j]? = some oj) (hgj : oj.guard = none) (hbj : bs.set j true = bj)
    (h : oi.wp P a w (fun a' w' => (nb B bi.toArray = true → S w') ∧ DL P l Mid S B fuel bi a' w') (only Mid)) (h' : oj.wp P a w (fun a' w' => (nb B bj.toArray = true → S w') ∧ DL P l Mid S B fuel bj a' w') (only Mid)) : DL P l Mid S B (fuel + 1) bs a w := by
  refine ⟨fun h0 => (by rw [hr] at h0; cases h0), fun q hq => ?_⟩
  rw [hr] at hq
  simp only [List.mem_cons, List.not_mem_nil, or_false] at hq
  rcases hq with rfl | rfl
  · unfold wpOp
    have hi' : l.toArray[q]? = some oi := by simpa using hi
    simp only [hi', Region.wanted, hgi]
    rw [set_bs hbi]
    exact .inl h
  · unfold wpOp
    have hi' : l.toArray[q]? = some oj := by simpa using hj
    simp only [hi', Region.wanted, hgj]
    rw [set_bs hbj]
    exact .inl h'
end
instance : GoTy By where
  n := 1
  agg := false
  flat := true
  rep _ _ cs x := cs = [.int .u8 x.n]
  own _ F cs x := F = [] ∧ cs = [.int .u8 x.n]
  pos := by decide
  len := by rintro _ _ _ _ rfl; rfl
  one := by rintro _ _ _ _ rfl; simp [Value.oneCell']
  mono := fun h _ => h
  own_rep := fun h => h.2
  own_mono := fun h _ => h
  own_lt := by rintro _ _ _ _ ⟨rfl, _⟩ _ h; cases h
  own_flat := fun _ h => ⟨rfl, h⟩
instance : GoTy U64 where
  n := 1
  agg := false
  flat := true
  rep _ _ cs x := cs = [.int .u64 x.n]
  own _ F cs x := F = [] ∧ cs = [.int .u64 x.n]
  pos := by decide
  len := by rintro _ _ _ _ rfl; rfl
  one := by rintro _ _ _ _ rfl; simp [Value.oneCell']
  mono := fun h _ => h
  own_rep := fun h => h.2
  own_mono := fun h _ => h
  own_lt := by rintro _ _ _ _ ⟨rfl, _⟩ _ h; cases h
  own_flat := fun _ h => ⟨rfl, h⟩
theorem VR_by {w : World} {S : Nat → Prop} {v : Value} {x : By} (h : VR w S v x) : v = .int .u8 x.n := by obtain ⟨cs, rfl, rfl⟩ := h; rfl
theorem mk_by {w : World} {S : Nat → Prop} {x : By} : VR w S (.int .u8 x.n) x := ⟨_, rfl, rfl⟩
section
variable {P : Program} {a : Act} {w : World} {n : Nat} {L : List (Nat × Value)} {dst : Option Tmp} {ty : TypeId} {pos : String} {af : Array Edge} {g : Option (Nat × Bool)}
variable {T U : TypeId} {x y : Operand} {k : IntKind} {i j : Int} {f : Int → Int}
theorem rq_addK (hk : ∀ n, k.wrap n = f n) (hf : Fr a n L) (hx : ev L x = some (.int k i)) (hy : ev L y = some (.int k j)) : (execOp a.eval ⟨dst, .binOp .add T x y U, ty, pos, af, g⟩).run P w = .ok (.value (.int k (f (i + j)))) w := by
  simp [execOp, hf.eval hx, hf.eval hy, eqGuard, binOp, Op.intArith, hk]
theorem rq_mulK (hk : ∀ n, k.wrap n = f n) (hf : Fr a n L) (hx : ev L x = some (.int k i)) (hy : ev L y = some (.int k j)) : (execOp a.eval ⟨dst, .binOp .mul T x y U, ty, pos, af, g⟩).run P w = .ok (.value (.int k (f (i * j)))) w := by
  simp [execOp, hf.eval hx, hf.eval hy, eqGuard, binOp, Op.intArith, hk]
theorem rq_andu64 (hf : Fr a n L) (hx : ev L x = some (.int .u64 i)) (hy : ev L y = some (.int .u64 j)) : (execOp a.eval ⟨dst, .binOp .and T x y U, ty, pos, af, g⟩).run P w = .ok (.value (.int .u64 (andu64 i j))) w := by
  simp [execOp, hf.eval hx, hf.eval hy, eqGuard, binOp, Op.intBits, u64w, andu64]
  try rfl
theorem rq_shrK {k' : IntKind} {b : Nat} {q : Int} (hb : k.bits = b) (hf : Fr a n L) (hx : ev L x = some (.int k i)) (hy : ev L y = some (.int k' j)) (h : shrk b i j = some q) : (execOp a.eval ⟨dst, .binOp .shr T x y U, ty, pos, af, g⟩).run P w = .ok (.value (.int k q)) w := by
  unfold shrk at h
  split at h
  · cases h
  · rename_i h0
    injection h with h; subst h
    subst hb
    simp [execOp, hf.eval hx, hf.eval hy, eqGuard, binOp, Op.shift, h0]
theorem rq_ltK (hf : Fr a n L) (hx : ev L x = some (.int k i)) (hy : ev L y = some (.int k j)) : (execOp a.eval ⟨dst, .binOp .lss T x y U, ty, pos, af, g⟩).run P w = .ok (.value (.bool (decide (i < j)))) w := by
  simp [execOp, hf.eval hx, hf.eval hy, eqGuard, binOp, Op.intCmp]
theorem rq_leK (hf : Fr a n L) (hx : ev L x = some (.int k i)) (hy : ev L y = some (.int k j)) : (execOp a.eval ⟨dst, .binOp .leq T x y U, ty, pos, af, g⟩).run P w = .ok (.value (.bool (decide (i ≤ j)))) w := by
  simp [execOp, hf.eval hx, hf.eval hy, eqGuard, binOp, Op.intCmp]
theorem rq_gtK (hf : Fr a n L) (hx : ev L x = some (.int k i)) (hy : ev L y = some (.int k j)) : (execOp a.eval ⟨dst, .binOp .gtr T x y U, ty, pos, af, g⟩).run P w = .ok (.value (.bool (decide (i > j)))) w := by
  simp [execOp, hf.eval hx, hf.eval hy, eqGuard, binOp, Op.intCmp]
theorem rq_geK (hf : Fr a n L) (hx : ev L x = some (.int k i)) (hy : ev L y = some (.int k j)) : (execOp a.eval ⟨dst, .binOp .geq T x y U, ty, pos, af, g⟩).run P w = .ok (.value (.bool (decide (i ≥ j)))) w := by
  simp [execOp, hf.eval hx, hf.eval hy, eqGuard, binOp, Op.intCmp]
theorem rq_conv {k' : IntKind} {us : TypeDesc} (hk : ∀ n, k.wrap n = f n) (hs : P.underlying T = some us) (hd : P.underlying U = some (.int k)) (hf : Fr a n L) (hx : ev L x = some (.int k' i)) : (execOp a.eval ⟨dst, .convert T U x, ty, pos, af, g⟩).run P w = .ok (.value (.int k (f i))) w := by
  simp [execOp, hf.eval hx, convert, run_underlying hs, run_underlying hd, Conv.intToInt, hk]
end
section
variable {w w' w1 : World} {w0 : Base} {S : Nat → Prop} {M : List Blk} {R : List Row} {D : List DI} {I : List (Bool × MP)}
theorem Mem.boxAt (H : Mem w0 S M R D I w) (i : Nat) {b : Nat} {T : TypeId} {cs : List Value} (hi : M[i]? = some ⟨b, T, cs⟩) : w.heap[b]? = some (.cells cs.toArray T (0, 0)) :=
  MemZ.ok H (Blk.res ⟨b, T, cs⟩) (List.mem_append.2 (.inl (List.mem_map.2 ⟨_, List.mem_of_getElem? hi, rfl⟩)))
theorem box_fm {i b : Nat} {T : TypeId} {cs : List Value} (hi : M[i]? = some ⟨b, T, cs⟩) : b ∈ fmZ (zs M R D) :=
  List.mem_flatMap.2 ⟨Blk.res ⟨b, T, cs⟩, List.mem_append.2 (.inl (List.mem_map.2 ⟨_, List.mem_of_getElem? hi, rfl⟩)), by simp [Blk.res]⟩
theorem Mem.notSt (H : Mem w0 S M R D I w) (i : Nat) {b : Nat} {T : TypeId} {cs : List Value} (hi : M[i]? = some ⟨b, T, cs⟩) (f : Bool) : ¬ St w0 S M R D f b := by
  have h1 := box_fm (R := R) (D := D) hi
  rintro (⟨-, h, -⟩ | ⟨-, h⟩)
  · exact h (MemZ.lt H b (fm_all h1)).1
  · exact h h1
theorem Mem.startB (S : Nat → Prop) {b : Nat} {T : TypeId} {cs : List Value} (h : w1.heap[b]? = some (.cells cs.toArray T (0, 0))) : Mem ⟨w1, [b]⟩ S [⟨b, T, cs⟩] [] [] [] w1 := by
  have hlt : b < w1.heap.size := by
    rcases Nat.lt_or_ge b w1.heap.size with h' | h'
    · exact h'
    · rw [Array.getElem?_eq_none h'] at h; cases h
  refine ⟨⟨rfl, rfl, rfl, Nat.le_refl _, fun _ _ => rfl, Nat.le_refl _⟩, fun c hc => ?_, ?_, fun r hr => ?_, fun f hf => (by cases hf)⟩
  · have hc' : c = b := by simpa [allZ, zs, Res.all, Blk.res] using hc
    subst hc'
    exact ⟨.inr (by simp), hlt⟩
  · simp [allZ, zs, Res.all, Blk.res]
  · have : r = Blk.res ⟨b, T, cs⟩ := by simpa [zs] using hr
    subst this
    exact h
theorem Mem.argB {G : List Nat} (H : Mem ⟨w1, G⟩ S M R D I w) (hS : ∀ b ∈ G, ¬ S b) {p : MP} (h : p.pred w1 S) : Mem ⟨w1, G⟩ S M R D ((false, p) :: I) w := by
  refine H.push _ (p.mono h fun b hb hlt => ?_)
  have hn : ¬ (⟨w1, G⟩ : Base).nw b := by
    rintro (h1 | h1)
    · simp only at h1; omega
    · exact hS b h1 hb
  exact ⟨.inl ⟨rfl, hn, hb⟩, (MemZ.below H).block b hn⟩
theorem Mem.wroteBox (H : Mem w0 S M R D I w) (i : Nat) {b : Nat} {T : TypeId} {cs cs' : List Value} (hi : M[i]? = some ⟨b, T, cs⟩) (hc : Chg w w' [b]) (hb : w'.heap[b]? = some (.cells cs'.toArray T (0, 0))) : Mem w0 S (M.set i ⟨b, T, cs'⟩) R D I w' := by
  refine MemZ.perm (MemZ.step (rs := [Blk.res ⟨b, T, cs⟩]) (rs' := [Blk.res ⟨b, T, cs'⟩]) (MemZ.perm H (zsM_out hi)) (hc.sub fun x hx => ?_) (fun x hx => .inl hx) (fun x hx => .inl hx) (by simp [allZ, Res.all, Blk.res]) fun _ q hq => ?_) (zsM_set _ hi).symm
  · rw [fmZ_one]; simpa [Blk.res] using hx
  · rw [List.mem_singleton] at hq; subst hq
    exact hb
theorem rep_endB {b : Nat} {T : TypeId} {bs : List Value} {i : Nat} {f : Bool} {α : Type} [GoTy α] {cs : List Value} {x : α} (hi : M[i]? = some ⟨b, T, bs⟩) (h : GoTy.rep w (St w0 S M R D f) cs x) : GoTy.rep w (St w0 S [⟨b, T, bs⟩] [] [] f) cs x :=
  GoTy.mono h fun c hc _ => by
    refine ⟨?_, rfl⟩
    rcases hc with hc | ⟨h1, h2⟩
    · exact .inl hc
    · refine .inr ⟨h1, fun h3 => h2 ?_⟩
      have : c = b := by simpa [fmZ, zs, Blk.res] using h3
      subst this; exact box_fm hi
end
section
variable {P : Program} {Q : Exit → Act → World → Prop} {a : Act} {w : World} {n : Nat} {L : List (Nat × Value)} {ty : TypeId} {pos : String} {af : Array Edge} {g : Option (Nat × Bool)} {K : Act → World → Prop} {d : Nat}
variable {w0 : Base} {S : Nat → Prop} {M : List Blk} {R : List Row} {D : List DI} {I : List (Bool × MP)}
theorem ownsRow_take {B : Nat} {E : TypeId} {s : Nat} {A : Option Addr} {m cap k : Nat} {cells : List Value} (h : w.ownsRow B E s (.slice A m cap) m cells) (hk : k ≤ m) : w.ownsRow B E s (.slice A k cap) k (cells.take (k * s)) := by
  obtain ⟨h1, h2⟩ := h
  have hks : k * s ≤ m * s := Nat.mul_le_mul_right s hk
  refine ⟨by rw [List.length_take, h1]; exact Nat.min_eq_left hks, ?_⟩
  rcases h2 with ⟨hv, hn⟩ | ⟨b, cap', cur, hv, hb, hg, hl, hm, hsz, ht⟩
  · simp only [Value.slice.injEq] at hv
    obtain ⟨rfl, rfl, rfl⟩ := hv
    obtain rfl : k = 0 := by omega
    exact .inl ⟨rfl, rfl⟩
  · simp only [Value.slice.injEq] at hv
    obtain ⟨rfl, -, rfl⟩ := hv
    exact .inr ⟨b, cap, cur, rfl, hb, hg, by omega, hm, hsz, by rw [← ht, List.take_take, Nat.min_eq_left hks]⟩
theorem op_sliceR (hf : Fr a n L) (H : Mem w0 S M R D I w) {α : Type} [GoTy α] {T E E' : TypeId} (hT : P.underlying T = some (.slice E)) (hE : SZ P E (GoTy.n α)) {x : Operand} {lo hi : Option Operand} {A : Option Addr} {cap : Nat} {j : Int} {xs ys : List α} {fr : Bool} (q : Nat) {lov hiv : Option Value}
    (hx : ev L x = some (.slice A xs.length cap)) (hlo : evo L lo = some lov) (hhi : evo L hi = some hiv) (hlo' : lov = none ∨ lov = some (.int .i64 0)) (hhi' : hiv = none ∧ j = xs.length ∨ hiv = some (.int .i64 j)) (hq : R[q]? = some ⟨.sh fr, E', A, cap, xs⟩) (hs : sub xs 0 j = some ys) (hdn : d < n)
    (k : ∀ a', Fr a' n ((d, .slice A ys.length cap) :: L) → Mem w0 S M (R.set q ⟨.sh fr, E', A, cap, ys⟩) D I w → K a' w) : Oper.wp P ⟨some d, .slice T x lo hi none, ty, pos, af, g⟩ a w K Q := by
  obtain ⟨cells, ho, hfit, hel⟩ := H.rowAt (List.mem_of_getElem? hq)
  unfold sub at hs
  split at hs
  case isFalse => cases hs
  rename_i hb
  obtain ⟨h0, h1, h2⟩ := hb
  injection hs with hs
  have hyl : ys.length = j.toNat := by rw [← hs]; simp; omega
  have hcap : xs.length ≤ cap := by
    rcases ho.2 with ⟨hv, hn⟩ | ⟨b, cap', cur, hv, hb, hg, hl, hm, hsz, ht⟩
    · have : xs.length = 0 := hn
      omega
    · simp only [Row.v, Value.slice.injEq] at hv
      obtain ⟨-, -, rfl⟩ := hv
      exact hl
  have hE' : ∀ w, (Go.sizeOf E).run P w = .ok (GoTy.n α) w := hE
  have hA : (A.map fun p => p.add 0) = A := by cases A <;> simp [Addr.add]
  have hval : (execOp a.eval ⟨some d, .slice T x lo hi none, ty, pos, af, g⟩).run P w = .ok (.value (.slice A ys.length cap)) w := by
    have hsl : (Instr.sliceAt T (.slice A xs.length cap) lov hiv none).run P w = .ok (.slice A ys.length cap) w := by
      rw [hyl]
      have hsb : (Instr.sliceBounds true xs.length cap lov hiv none).run P w = .ok (0, j.toNat, cap) w := by
        rcases hlo' with e1 | e1 <;> rcases hhi' with ⟨e2, e3⟩ | e2 <;> rw [e1, e2]
        · subst e3; simp [Instr.sliceBounds]
        · simp [Instr.sliceBounds, Instr.sliceBound, asIntOf, show 0 ≤ j by omega, show j ≤ cap by omega]
        · subst e3; simp [Instr.sliceBounds, Instr.sliceBound, asIntOf]
        · simp [Instr.sliceBounds, Instr.sliceBound, asIntOf, show 0 ≤ j by omega, show j ≤ cap by omega]
      simp [Instr.sliceAt, Instr.slice, run_underlying hT, hsb, hE', hA]
    simp [execOp, hf.eval hx, evo_map hf hlo, evo_map hf hhi, hsl]
  refine op_q hf hval rfl hdn fun a' hf' => k a' hf' (H.reRow hq ⟨⟨rfl, rfl, rfl, Nat.le_refl _, fun _ _ _ => rfl⟩, Nat.le_refl _⟩ (.inl (by cases A <;> rfl)) (List.Perm.refl _) fun hm => ?_)
  have hyx : ys.length ≤ xs.length := by omega
  refine ⟨cells.take (ys.length * GoTy.n α), ownsRow_take ho hyx, trivial, fun i y hy => ?_⟩
  have hi : i < ys.length := (List.getElem?_eq_some_iff.1 hy).1
  have hx' : xs[i]? = some y := by
    rw [← hs] at hy
    simp only [Int.toNat_zero, List.drop_zero] at hy
    rw [List.getElem?_take] at hy
    split at hy
    · exact hy
    · cases hy
  have e : part' α (cells.take (ys.length * GoTy.n α)) i = part' α cells i := by
    unfold part'
    have h3 : i * GoTy.n α + GoTy.n α ≤ ys.length * GoTy.n α := by
      have := Nat.mul_le_mul_right (GoTy.n α) (show i + 1 ≤ ys.length from hi)
      rwa [Nat.succ_mul] at this
    rw [List.drop_take, List.take_take, Nat.min_eq_left (by omega)]
  show GoTy.rep _ _ (part' α _ i) y
  rw [e]
  exact GoTy.mono (hel i y hx') (hm _)
end
end AT

namespace AT
open Go Go.RowKit
theorem rd_by {P : Program} {t : TypeId} (ht : P.underlying t = some (.int .u8)) : Rd P t By (fun x => 0 ≤ x.n ∧ x.n ≤ 255) := by
  intro H enc w base spare held fuel cs x h
  obtain ⟨n, rfl, -, hw⟩ := DataW.trod_int ht h
  refine ⟨⟨n⟩, rfl, ?_⟩
  simp [Lit.wf, IntKind.min, IntKind.max, IntKind.signed, IntKind.bits] at hw
  simp only
  omega
end AT

namespace AT
open Go Go.RowKit
def IA.cells {n : Nat} (x : IA n) : List Value := x.l.map (Value.int .i64)
theorem IA.cells_len {n : Nat} (x : IA n) : x.cells.length = n := by unfold IA.cells; rw [List.length_map]; exact x.h
@[reducible] def iaTy (n : Nat) (hn : 0 < n) : GoTy (IA n) where
  n := n
  agg := true
  flat := true
  rep _ _ cs x := cs = x.cells
  own _ F cs x := F = [] ∧ cs = x.cells
  pos := hn
  len := by rintro _ _ _ _ rfl; exact IA.cells_len _
  one := by
    rintro _ _ _ x rfl c hc
    obtain ⟨i, -, rfl⟩ := List.mem_map.1 hc
    simp [Value.oneCell']
  mono := fun h _ => h
  own_rep := fun h => h.2
  own_mono := fun h _ => h
  own_lt := by rintro _ _ _ _ ⟨rfl, _⟩ _ h; cases h
  own_flat := fun _ h => ⟨rfl, h⟩
section
variable {P : Program} {Q : Exit → Act → World → Prop} {a : Act} {w : World} {n : Nat} {L : List (Nat × Value)} {dst : Option Tmp} {ty : TypeId} {pos : String} {af : Array Edge} {g : Option (Nat × Bool)} {K : Act → World → Prop} {d : Nat}
variable {w0 : Base} {S : Nat → Prop} {M : List Blk} {R : List Row} {D : List DI} {I : List (Bool × MP)}
end
end AT
namespace AT
open Go Go.RowKit
end AT
namespace AT
open Go Go.RowKit
end AT
namespace AT
open Go Go.RowKit
section
variable {P : Program} {Q : Exit → Act → World → Prop} {a : Act} {w : World} {n : Nat} {L : List (Nat × Value)} {dst : Option Tmp} {ty : TypeId} {pos : String} {af : Array Edge} {g : Option (Nat × Bool)} {K : Act → World → Prop} {d : Nat}
variable {T U : TypeId} {x y : Operand} {s t : ByteArray}
theorem rq_indexS (hf : Fr a n L) (hT : P.underlying T = some .string) {k : IntKind} {i : Int} {e : By} (hx : ev L x = some (.string s)) (hy : ev L y = some (.int k i)) (h : sidx s i = some e) : (execOp a.eval ⟨dst, .index T x y, ty, pos, af, g⟩).run P w = .ok (.value (.int .u8 e.n)) w := by
  unfold sidx at h
  split at h
  case isFalse => cases h
  rename_i h0
  obtain ⟨b, hb, rfl⟩ := Option.map_eq_some_iff.1 h
  have h1 : (Instr.index T (.string s) (.int k i)).run P w = .ok (.int .u8 b.toNat) w := by
    simp [Instr.index, asIntOf, run_underlying hT, h0, hb]
  simp [execOp, hf.eval hx, hf.eval hy, h1]
theorem rq_scat (hf : Fr a n L) {u : ByteArray} (hx : ev L x = some (.string s)) (hy : ev L y = some (.string t)) (h : scat s t = some u) : (execOp a.eval ⟨dst, .binOp .add T x y U, ty, pos, af, g⟩).run P w = .ok (.value (.string u)) w := by
  unfold scat at h
  split at h
  case isFalse => cases h
  rename_i h0
  injection h with h; subst h
  have h1 : (Op.stringOp .add s t).run P w = .ok (.string (s ++ t)) w := by
    have : ¬ (((s.size + t.size : Nat) : Int) > IntKind.i64.max) := by
      simp only [IntKind.max, IntKind.signed, IntKind.bits]
      simp
      omega
    simp only [Op.stringOp, this, if_false]
    rfl
  simp [execOp, hf.eval hx, hf.eval hy, eqGuard, binOp, h1]
theorem rq_ssub (hf : Fr a n L) (hT : P.underlying T = some .string) {lo hi : Option Operand} {lov hiv : Option Value} {i j : Int} {u : ByteArray} (hx : ev L x = some (.string s)) (hlo : evo L lo = some lov) (hhi : evo L hi = some hiv) (hlo' : lov = none ∧ i = 0 ∨ lov = some (.int .i64 i)) (hhi' : hiv = none ∧ j = s.size ∨ hiv = some (.int .i64 j)) (h : ssub s i j = some u) :
    (execOp a.eval ⟨dst, .slice T x lo hi none, ty, pos, af, g⟩).run P w = .ok (.value (.string u)) w := by
  unfold ssub at h
  split at h
  case isFalse => cases h
  rename_i hb
  obtain ⟨h0, h1, h2⟩ := hb
  injection h with h; subst h
  have hj : (j.toNat : Int) = j := Int.toNat_of_nonneg (by omega)
  have hsb : (Instr.sliceBounds false s.size s.size lov hiv none).run P w = .ok (i.toNat, j.toNat, s.size) w := by
    rcases hlo' with ⟨e1, rfl⟩ | e1 <;> rcases hhi' with ⟨e2, e3⟩ | e2 <;> rw [e1, e2]
    · subst e3; simp [Instr.sliceBounds]
    · simp [Instr.sliceBounds, Instr.sliceBound, asIntOf, show 0 ≤ j by omega, h2]
    · subst e3; simp [Instr.sliceBounds, Instr.sliceBound, asIntOf, h0, h1]
    · simp [Instr.sliceBounds, Instr.sliceBound, asIntOf, h0, show 0 ≤ j by omega, h2, hj, h1]
  have hsl : (Instr.sliceAt T (.string s) lov hiv none).run P w = .ok (.string (s.extract i.toNat j.toNat)) w := by
    simp [Instr.sliceAt, Instr.slice, run_underlying hT, hsb]
  simp [execOp, hf.eval hx, evo_map hf hlo, evo_map hf hhi, hsl]
end
end AT
namespace AT
open Go Go.RowKit
theorem elL {w : World} {T : Nat → Prop} {α : Type} [GoTy α] : ∀ (l : List (List Value × α)), (∀ p ∈ l, GoTy.rep w T p.1 p.2) → ∀ i x, (l.map Prod.snd)[i]? = some x → GoTy.rep w T (part' α ((l.map Prod.fst).flatten) i) x
  | [], _, i, x, h => by simp at h
  | p :: l, hp, i, x, h => by
    have h0 := hp p (by simp)
    have hl : p.1.length = GoTy.n α := GoTy.len h0
    cases i with
    | zero =>
      simp only [List.map_cons, List.getElem?_cons_zero, Option.some.injEq] at h
      subst h
      unfold part'
      rw [Nat.zero_mul, List.drop_zero, List.map_cons, List.flatten_cons, List.take_append_of_le_length (by omega), List.take_of_length_le (by omega)]
      exact h0
    | succ i =>
      simp only [List.map_cons, List.getElem?_cons_succ] at h
      have := elL l (fun q hq => hp q (by simp [hq])) i x h
      unfold part' at this ⊢
      rw [List.map_cons, List.flatten_cons, Nat.succ_mul, Nat.add_comm, ← List.drop_drop, ← hl, List.drop_left, hl]
      exact this
theorem al0 {w : World} {T : Nat → Prop} {α : Type} [GoTy α] : ∀ p ∈ ([] : List (List Value × α)), GoTy.rep w T p.1 p.2 := fun _ h => by cases h
theorem al1 {w : World} {T : Nat → Prop} {α : Type} [GoTy α] {cs : List Value} {x : α} {l : List (List Value × α)} (h : GoTy.rep w T cs x) (t : ∀ p ∈ l, GoTy.rep w T p.1 p.2) : ∀ p ∈ ((cs, x) :: l), GoTy.rep w T p.1 p.2 := by
  intro p hp
  rcases List.mem_cons.1 hp with rfl | hp
  · exact h
  · exact t p hp
end AT
namespace AT
open Go Go.RowKit
section
variable {P : Program} {Q : Exit → Act → World → Prop} {a : Act} {w : World} {n : Nat} {L : List (Nat × Value)} {dst : Option Tmp} {ty : TypeId} {pos : String} {af : Array Edge} {g : Option (Nat × Bool)} {K : Act → World → Prop} {d : Nat}
variable {w0 : Base} {S : Nat → Prop} {M : List Blk} {R : List Row} {D : List DI} {I : List (Bool × MP)}
theorem pre_iaddrR (H : Mem w0 S M R D I w) {α : Type} [GoTy α] {T E E' : TypeId} (hT : P.underlying T = some (.slice E)) (hE : SZ P E (GoTy.n α)) (j : Nat) {kd : Kd} {A : Option Addr} {cap : Nat} {xs : List α} {i : Int} {e : α}
    (hj : R[j]? = some ⟨kd, E', A, cap, xs⟩) (he : idx xs i = some e) :
    ∃ b o, RA A b o (i.toNat * GoTy.n α) ∧ ∀ w' k, (Instr.indexAt T (.slice A xs.length cap) (.int k i)).run P w' = .ok (.pointer (some ⟨b, o, none⟩)) w' := by
  obtain ⟨h0, h1, h2⟩ := idx_lt he
  obtain ⟨b, q, rfl, cs, hr, hc⟩ := row_cells H hj he
  refine ⟨b, _, ⟨q, rfl, rfl⟩, fun w' k => ?_⟩
  have hi := run_indexAt (P := P) (w := w') (cap := cap) hT hE h0 h1 (p := ⟨b, q, none⟩) (k := k)
  rw [add_lit] at hi
  exact hi
theorem rq_loadRow (hf : Fr a n L) (H : Mem w0 S M R D I w) {α : Type} [GoTy α] {T : TypeId} (hT : LS P T) (j : Nat) {x : Operand} {b o off : Nat} {kd : Kd} {E : TypeId} {A : Option Addr} {cap : Nat} {xs : List α} {i : Int} {e : α} {v : Value}
    (hx : ev L x = some (.pointer (some ⟨b, o + off, none⟩))) (hj : R[j]? = some ⟨kd, E, A, cap, xs⟩) (hA : RA A b o (i.toNat * GoTy.n α)) (he : idx xs i = some e) (hv : ∀ (w : World) (T : Nat → Prop) (cs : List Value), GoTy.rep w T cs e → cs[off]? = some v) :
    (execOp a.eval ⟨dst, .load T x, ty, pos, af, g⟩).run P w = .ok (.value v) w := by
  obtain ⟨b', q', hA', cs, hr, hc⟩ := row_cells H hj he
  obtain ⟨q0, rfl, rfl⟩ := hA
  injection hA' with hA'
  injection hA' with hA' hA2
  subst hA'
  subst hA2
  have := hc off v (hv _ _ _ hr)
  rw [add_lit] at this
  exact rq_load1 hf hT hx this
theorem rq_loadRowN (hf : Fr a n L) (H : Mem w0 S M R D I w) {α : Type} [GoTy α] {T : TypeId} {m : Nat} (hT : LA P T m) (j : Nat) {x : Operand} {b o off : Nat} {kd : Kd} {E : TypeId} {A : Option Addr} {cap : Nat} {xs : List α} {i : Int} {e : α} {vs : List Value}
    (hx : ev L x = some (.pointer (some ⟨b, o + off, none⟩))) (hj : R[j]? = some ⟨kd, E, A, cap, xs⟩) (hA : RA A b o (i.toNat * GoTy.n α)) (he : idx xs i = some e) (hl : vs.length = m) (hv : ∀ (w : World) (T : Nat → Prop) (cs : List Value), GoTy.rep w T cs e → (cs.drop off).take m = vs) :
    (execOp a.eval ⟨dst, .load T x, ty, pos, af, g⟩).run P w = .ok (.value (.agg vs.toArray)) w := by
  obtain ⟨b', q', hA', cs, hr, hc⟩ := row_cells H hj he
  obtain ⟨q0, rfl, rfl⟩ := hA
  injection hA' with hA'
  injection hA' with hA' hA2
  subst hA'
  subst hA2
  refine rq_loadN hf hT hx hl fun q c hq => ?_
  rw [← hv _ _ _ hr] at hq
  have hqm : q < m := by
    have := (List.getElem?_eq_some_iff.1 hq).1
    simp only [List.length_take, List.length_drop] at this; omega
  rw [List.getElem?_take_of_lt hqm, List.getElem?_drop] at hq
  have := hc _ _ hq
  rw [add_lit] at this ⊢
  rw [Nat.add_assoc]
  exact this
end
end AT
namespace AT
open Go Go.RowKit
theorem iteB {R : Type} {b : Bool} {x y r : R} {G : Prop} (h : (if b = true then x else y) = r) (h1 : b = true → x = r → G) (h2 : b = false → y = r → G) : G := by
  cases b
  · exact h2 rfl (by simpa using h)
  · exact h1 rfl (by simpa using h)
section
variable {P : Program} {Q : Exit → Act → World → Prop} {a : Act} {w : World} {n : Nat} {L : List (Nat × Value)}
variable {w0 : Base} {S : Nat → Prop} {M : List Blk} {R : List Row} {D : List DI} {I : List (Bool × MP)}
theorem midF {c : Code} (t : Nat) (v : Value) (hf : Fr a n L) (H : Mem w0 S M R D I w) (h : c.wp P (Exit.then (fun a w => Fr a n ((t, v) :: L) ∧ Mem w0 S M R D I w) Q) a w)
    (h2 : ∀ a w, Fr a n ((t, v) :: L) → Mem w0 S M R D I w → Q .normal a w) : c.wp P Q a w := mid _ h fun a w q => h2 a w q.1 q.2
theorem loopC {σ : Type} {id : Nat} {c : Code} (Inv : σ → Act → World → Prop) (G : Nat → σ → Prop) (E : σ → Prop) (s0 : σ) (k0 : Nat) (hL : G k0 s0) (hI : Inv s0 a w) (h0 : ∀ s, ¬ G 0 s)
    (round : ∀ k s a w, G (k + 1) s → Inv s a w → c.wp P (Exit.then (fun a' w' => ∃ s', G k s' ∧ Inv s' a' w') (Exit.inBlock id (Exit.then (fun a w => ∃ s, E s ∧ Inv s a w) Q))) a w)
    (after : ∀ a w, (∃ s, E s ∧ Inv s a w) → Q .normal a w) : (Code.block id (.loop c)).wp P Q a w :=
  mid _ (wp_block (loop_rule G Inv h0 round k0 s0 a w hL hI)) after
end
section
variable {P : Program} {S0 : World → Prop} {B : List Nat} {l : List Oper} {bs bs' : List Bool} {a : Act} {w : World} {n fuel d i : Nat} {L : List (Nat × Value)} {Mid : Act → World → Prop} {o : Oper} {v : Value}
variable {w0 : Base} {S : Nat → Prop} {M : List Blk} {R : List Row} {D : List DI} {I : List (Bool × MP)}
theorem strT (H : Mem w0 S M R D I w) (hs : ∀ w, Mem w0 S M R D I w → S0 w) (h : Mem w0 S M R D I w → DL P l Mid (fun w => Mem w0 S M R D I w) B fuel bs a w) : DL P l Mid S0 B fuel bs a w := str _ hs (h H)
theorem tP (i : Nat) (hi : l[i]? = some o) (hd : o.dst = some d) (hg : o.guard = none) (hdn : Nat.ble (d + 1) n = true) (hf : Fr a n L) (hc : takeB l bs i [] B = true) (hS : nb B bs.toArray = true → S0 w) (hy : ∀ w, (execOp a.eval o).run P w = .ok (.value v) w)
    (h : ∀ a', Fr a' n ((d, v) :: L) → DL P l Mid S0 B fuel (bs.set i true) a' w) : DL P l Mid S0 B (fuel + 1) bs a w := tkP hi hd hg (nle hdn) hf hc hS hy rfl h
theorem tPg (i : Nat) {j e : Nat} {b : Bool} (hi : l[i]? = some o) (hd : o.dst = some d) (hg : o.guard = some (j, b)) (hj : (l[j]?).bind (·.dst) = some e) (hv : lk L e = some (.bool b)) (hdn : Nat.ble (d + 1) n = true) (hf : Fr a n L) (hc : takeB l bs i [] B = true) (hS : nb B bs.toArray = true → S0 w) (hy : ∀ w, (execOp a.eval o).run P w = .ok (.value v) w)
    (h : ∀ a', Fr a' n ((d, v) :: L) → DL P l Mid S0 B fuel (bs.set i true) a' w) : DL P l Mid S0 B (fuel + 1) bs a w := tkPg hi hd hg hj hv (nle hdn) hf hc hS hy rfl h
theorem tS (i : Nat) (X : List Nat) (hi : l[i]? = some o) (hd : o.dst = some d) (hg : o.guard = none) (hdn : Nat.ble (d + 1) n = true) (hf : Fr a n L) (hc : takeB l bs i X B = true) (hBX : (B.all (X.contains ·)) = true) (hS : S0 w) (hy : ∀ w, S0 w → (execOp a.eval o).run P w = .ok (.value v) w)
    (h : ∀ a', Fr a' n ((d, v) :: L) → DL P l Mid S0 B fuel (bs.set i true) a' w) : DL P l Mid S0 B (fuel + 1) bs a w := tkS X hi hd hg (nle hdn) hf hc hBX hS hy rfl h
theorem tSg (i : Nat) (X : List Nat) {j e : Nat} {b : Bool} (hi : l[i]? = some o) (hd : o.dst = some d) (hg : o.guard = some (j, b)) (hj : (l[j]?).bind (·.dst) = some e) (hv : lk L e = some (.bool b)) (hdn : Nat.ble (d + 1) n = true) (hf : Fr a n L) (hc : takeB l bs i X B = true) (hBX : (B.all (X.contains ·)) = true) (hS : S0 w) (hy : ∀ w, S0 w → (execOp a.eval o).run P w = .ok (.value v) w)
    (h : ∀ a', Fr a' n ((d, v) :: L) → DL P l Mid S0 B fuel (bs.set i true) a' w) : DL P l Mid S0 B (fuel + 1) bs a w := tkSg X hi hd hg hj hv (nle hdn) hf hc hBX hS hy rfl h
theorem tUU (i : Nat) {j e : Nat} {b : Bool} (hi : l[i]? = some o) (hd : o.dst = some d) (hg : o.guard = some (j, b)) (hj : (l[j]?).bind (·.dst) = some e) (hv : lk L e = some undef) (hdn : Nat.ble (d + 1) n = true) (hf : Fr a n L) (hc : takeB l bs i [] B = true) (hS : nb B bs.toArray = true → S0 w)
    (h : ∀ a', Fr a' n ((d, undef) :: L) → DL P l Mid S0 B fuel (bs.set i true) a' w) : DL P l Mid S0 B (fuel + 1) bs a w := tkUU hi hd hg hj hv (nle hdn) hf hc hS rfl h
theorem tU (i : Nat) {j e : Nat} {b c : Bool} (hi : l[i]? = some o) (hd : o.dst = some d) (hg : o.guard = some (j, b)) (hj : (l[j]?).bind (·.dst) = some e) (hv : lk L e = some (.bool c)) (hne : (c == b) = false) (hdn : Nat.ble (d + 1) n = true) (hf : Fr a n L) (hc : takeB l bs i [] B = true) (hS : nb B bs.toArray = true → S0 w)
    (h : ∀ a', Fr a' n ((d, undef) :: L) → DL P l Mid S0 B fuel (bs.set i true) a' w) : DL P l Mid S0 B (fuel + 1) bs a w := tkU hi hd hg hj hv hne (nle hdn) hf hc hS rfl h
theorem n1 (i : Nat) (hr : Region.ready .any l.toArray bs.toArray = [i]) (hi : l[i]? = some o) (hg : o.guard = none)
    (h : o.wp P a w (fun a' w' => (nb B (bs.set i true).toArray = true → S0 w') ∧ DL P l Mid S0 B fuel (bs.set i true) a' w') (only Mid)) : DL P l Mid S0 B (fuel + 1) bs a w := on1 hr hi hg rfl h
theorem n1g (i : Nat) {j e : Nat} {b : Bool} (hr : Region.ready .any l.toArray bs.toArray = [i]) (hi : l[i]? = some o) (hg : o.guard = some (j, b)) (hj : (l[j]?).bind (·.dst) = some e) (hv : lk L e = some (.bool b)) (hf : Fr a n L)
    (h : o.wp P a w (fun a' w' => (nb B (bs.set i true).toArray = true → S0 w') ∧ DL P l Mid S0 B fuel (bs.set i true) a' w') (only Mid)) : DL P l Mid S0 B (fuel + 1) bs a w := on1g hr hi hg hj hv hf rfl h
end
end AT
namespace AT
open Go Go.RowKit
end AT
namespace AT
open Go Go.RowKit
theorem Mem.ownLen {w : World} {w0 : Base} {S : Nat → Prop} {M : List Blk} {R : List Row} {D : List DI} {I : List (Bool × MP)} (H : Mem w0 S M R D I w) {α : Type} [GoTy α] {F : List Nat} {A : Option Addr} {len cap : Nat} {xs : List α} (h : D[0]? = some ⟨F, MP.own F [.slice A len cap] xs⟩) : xs.length = len := by
  obtain ⟨⟨A', cap', E, cells, Fs, hcs, _⟩, -⟩ := H.diAt (List.mem_of_getElem? h)
  simp only [List.cons.injEq, Value.slice.injEq, and_true] at hcs
  exact hcs.2.1.symm
end AT
namespace AT
open Go Go.RowKit
def MP.and (p q : MP) : MP := ⟨fun w S => p.pred w S ∧ q.pred w S, fun h hm => ⟨p.mono h.1 hm, q.mono h.2 hm⟩⟩
end AT

namespace AT
open Go Go.RowKit
section
variable {P : Program} {a : Act} {w : World} {n : Nat} {L : List (Nat × Value)} {dst : Option Tmp} {ty : TypeId} {pos : String} {af : Array Edge} {g : Option (Nat × Bool)}
def sameF (fs : List Field) (xs ys : List Int) : Bool := fs.all fun f => (xs[f.offset]?).getD 0 == (ys[f.offset]?).getD 0
structure QS (P : Program) (T : TypeId) (fs : List Field) (m : Nat) : Prop where
  u : P.underlying T = some (.struct fs.toArray)
  s : P.stoodInHeld T = false
  f : ∀ f ∈ fs, (f.name == "_") = false ∧ f.offset < m ∧ PT P f.type ∧ ∃ k, P.underlying f.type = some (.int k)
theorem part_int {E : TypeId} {xs : List Int} {j : Nat} (hE : PT P E) (hj : j < xs.length) (w : World) : (part E (xs.map (Value.int .i64)).toArray j).run P w = .ok (.int .i64 ((xs[j]?).getD 0)) w := by
  have hE1 : ∀ w, (isAgg E).run P w = .ok false w := fun w => (hE w).1
  have e : xs[j]? = some xs[j] := List.getElem?_eq_getElem hj
  simp [part, hE1, e, hj]
theorem eqIn_int {E : TypeId} {k : IntKind} {d : Nat} {i j : Int} (hE : P.underlying E = some (.int k)) (w : World) : (Op.equalIn (d + 1) E (.int .i64 i) (.int .i64 j)).run P w = .ok (i == j) w := by
  simp [Op.equalIn, run_underlying hE]
theorem eqS {T : TypeId} {fs : List Field} {m : Nat} (hq : QS P T fs m) (xs ys : List Int) (hx : xs.length = m) (hy : ys.length = m) (w : World) : (Op.equal T (.agg (xs.map (Value.int .i64)).toArray) (.agg (ys.map (Value.int .i64)).toArray)).run P w = .ok (sameF fs xs ys) w := by
  obtain ⟨hu, hs, hf⟩ := hq
  unfold Op.equal Op.maxDepth
  rw [show (10000 : Nat) = 9999 + 1 from rfl, Op.equalIn]
  simp [run_underlying hu, hs]
  clear hu hs
  induction fs with
  | nil => simp [sameF]
  | cons f fs ih =>
    obtain ⟨h1, h2, h3, k, h4⟩ := hf f (by simp)
    have h1' : ¬ f.name = "_" := by simpa using h1
    have ih' := ih fun g hg => hf g (List.mem_cons_of_mem _ hg)
    have hpx := part_int (xs := xs) (j := f.offset) h3 (by omega) w
    have hpy := part_int (xs := ys) (j := f.offset) h3 (by omega) w
    have heq : (Op.equalIn 9999 f.type (.int .i64 ((xs[f.offset]?).getD 0)) (.int .i64 ((ys[f.offset]?).getD 0))).run P w = .ok ((xs[f.offset]?).getD 0 == (ys[f.offset]?).getD 0) w := eqIn_int (d := 9998) h4 w
    have hs : sameF (f :: fs) xs ys = ((xs[f.offset]?).getD 0 == (ys[f.offset]?).getD 0 && sameF fs xs ys) := rfl
    rw [hs]
    clear hs ih
    rw [List.forIn_cons]
    simp only [h1', if_false, Sem.run_bind, hpx, hpy, Result.andThen_ok, heq]
    cases hc : ((xs[f.offset]?).getD 0 == (ys[f.offset]?).getD 0)
    · simp
    · simpa using ih'
theorem rq_eqS (hf : Fr a n L) {T U : TypeId} {fs : List Field} {m : Nat} (hq : QS P T fs m) (hg : P.eqGuardType P.depth T = false) {x y : Operand} {cs ds : List Value} {xs ys : List Int} (hx : ev L x = some (.agg cs.toArray)) (hy : ev L y = some (.agg ds.toArray))
    (hc : cs = xs.map (Value.int .i64)) (hd : ds = ys.map (Value.int .i64)) (h1 : xs.length = m) (h2 : ys.length = m) :
    (execOp a.eval ⟨dst, .binOp .eql T x y U, ty, pos, af, g⟩).run P w = .ok (.value (.bool (sameF fs xs ys))) w := by
  subst hc hd
  have := eqS hq xs ys h1 h2 w
  simp [execOp, hf.eval hx, hf.eval hy, eqGuard, binOp, this, hg]
theorem rq_neS (hf : Fr a n L) {T U : TypeId} {fs : List Field} {m : Nat} (hq : QS P T fs m) (hg : P.eqGuardType P.depth T = false) {x y : Operand} {cs ds : List Value} {xs ys : List Int} (hx : ev L x = some (.agg cs.toArray)) (hy : ev L y = some (.agg ds.toArray))
    (hc : cs = xs.map (Value.int .i64)) (hd : ds = ys.map (Value.int .i64)) (h1 : xs.length = m) (h2 : ys.length = m) :
    (execOp a.eval ⟨dst, .binOp .neq T x y U, ty, pos, af, g⟩).run P w = .ok (.value (.bool (!sameF fs xs ys))) w := by
  subst hc hd
  have := eqS hq xs ys h1 h2 w
  simp [execOp, hf.eval hx, hf.eval hy, eqGuard, binOp, this, hg]
def flds (P : Program) (T : TypeId) : List Field := match P.underlying T with
  | some (.struct fs) => fs.toList
  | _ => []
structure EQT (P : Program) (T : TypeId) (m : Nat) (E : TypeId) : Prop where
  u : P.underlying T = some (.struct (flds P T).toArray)
  s : P.stoodInHeld T = false
  g : P.eqGuardType P.depth T = false
  o : (flds P T).map (·.offset) = List.range m
  f : ((flds P T).all fun f => !(f.name == "_") && f.type == E) = true
  p : PT P E
  i : ∃ k, P.underlying E = some (.int k)
theorem EQT.qs {T : TypeId} {m : Nat} {E : TypeId} (h : EQT P T m E) : QS P T (flds P T) m := by
  refine ⟨h.u, h.s, fun f hf => ?_⟩
  have h1 := List.all_eq_true.1 h.f f hf
  simp only [Bool.and_eq_true, Bool.not_eq_true', beq_iff_eq] at h1
  have h2 : f.offset ∈ List.range m := by rw [← h.o]; exact List.mem_map_of_mem hf
  exact ⟨h1.1, List.mem_range.1 h2, h1.2 ▸ h.p, h1.2 ▸ h.i⟩
theorem same_all {fs : List Field} {m : Nat} (ho : fs.map (·.offset) = List.range m) (xs ys : List Int) (h1 : xs.length = m) (h2 : ys.length = m) : sameF fs xs ys = (xs == ys) := by
  have e : sameF fs xs ys = (List.range m).all fun j => (xs[j]?).getD 0 == (ys[j]?).getD 0 := by
    rw [← ho, List.all_map]; rfl
  rw [e, Bool.eq_iff_iff, beq_iff_eq, List.all_eq_true]
  constructor
  · intro h
    apply List.ext_getElem (by omega)
    intro j a b
    have := h j (List.mem_range.2 (by omega))
    rw [List.getElem?_eq_getElem a, List.getElem?_eq_getElem b, beq_iff_eq] at this
    exact this
  · rintro rfl j _
    simp
theorem rq_eqT (hf : Fr a n L) {T U : TypeId} {m : Nat} {E : TypeId} (hq : EQT P T m E) (xs ys : List Int) {x y : Operand} {cs ds : List Value} (hx : ev L x = some (.agg cs.toArray)) (hy : ev L y = some (.agg ds.toArray))
    (hc : cs = xs.map (Value.int .i64)) (hd : ds = ys.map (Value.int .i64)) (h1 : xs.length = m) (h2 : ys.length = m) :
    (execOp a.eval ⟨dst, .binOp .eql T x y U, ty, pos, af, g⟩).run P w = .ok (.value (.bool (xs == ys))) w := by
  rw [← same_all hq.o xs ys h1 h2]; exact rq_eqS hf hq.qs hq.g hx hy hc hd h1 h2
theorem rq_neT (hf : Fr a n L) {T U : TypeId} {m : Nat} {E : TypeId} (hq : EQT P T m E) (xs ys : List Int) {x y : Operand} {cs ds : List Value} (hx : ev L x = some (.agg cs.toArray)) (hy : ev L y = some (.agg ds.toArray))
    (hc : cs = xs.map (Value.int .i64)) (hd : ds = ys.map (Value.int .i64)) (h1 : xs.length = m) (h2 : ys.length = m) :
    (execOp a.eval ⟨dst, .binOp .neq T x y U, ty, pos, af, g⟩).run P w = .ok (.value (.bool (!(xs == ys)))) w := by
  rw [← same_all hq.o xs ys h1 h2]; exact rq_neS hf hq.qs hq.g hx hy hc hd h1 h2
end
end AT
namespace AT
open Go Go.RowKit
section
variable {P : Program} {Q : Exit → Act → World → Prop} {a : Act} {w : World} {w0 : Base} {n : Nat} {L : List (Nat × Value)} {K : Act → World → Prop} {S : Nat → Prop} {M : List Blk} {D : List DI} {I : List (Bool × MP)} {d : Tmp} {ty : TypeId} {pos : String} {af : Array Edge} {g : Option (Nat × Bool)}
end
end AT
namespace AT
open Go Go.RowKit
section
variable {P : Program} {Q : Exit → Act → World → Prop} {a : Act} {w : World} {n : Nat} {L : List (Nat × Value)} {K : Act → World → Prop} {d : Nat} {dst : Option Tmp} {ty : TypeId} {pos : String} {af : Array Edge} {g : Option (Nat × Bool)}
structure GS (w0 w : World) (g : Nat) (E : TypeId) (cur : List Value) : Prop where
  os : w.os = w0.os
  tape : w.tape = w0.tape
  output : w.output = w0.output
  size : w0.heap.size ≤ w.heap.size
  old : ∀ k, k < w0.heap.size → k ≠ g → w.heap[k]? = w0.heap[k]?
  at_ : w.heap[g]? = some (.cells cur.toArray E (0, 0))
  drawn : (0 : Nat) ≤ 0
theorem GS.below {w0 w w1 : World} {g : Nat} {E : TypeId} {cur : List Value} (h : GS w0 w g E cur) (hg : g < w0.heap.size) (hb : Below w.heap.size w w1) : GS w0 w1 g E cur :=
  ⟨hb.os.trans h.os, hb.tape.trans h.tape, hb.output.trans h.output, Nat.le_trans h.size hb.size, fun k hk hne => (hb.block k (by have := h.size; omega)).trans (h.old k hk hne), (hb.block g (by have := h.size; omega)).trans h.at_, Nat.le_trans h.drawn hb.drawn⟩
theorem GS.lt {w0 w : World} {g : Nat} {E : TypeId} {cur : List Value} (h : GS w0 w g E cur) : g < w.heap.size := (Array.getElem?_eq_some_iff.1 h.at_).1
theorem GS.set {w0 w : World} {g : Nat} {E : TypeId} {cur : List Value} (h : GS w0 w g E cur) (new : Array Value) : GS w0 (w.setRow g new) g E new.toList :=
  ⟨h.os, h.tape, h.output, by simpa using h.size, fun k hk hne => (setRow_other w g k new hne).trans (h.old k hk hne), by rw [Array.toArray_toList]; exact setRow_heap w g _ new E _ h.at_, h.drawn⟩
theorem GS.cell {w0 w : World} {g : Nat} {E : TypeId} {cur : List Value} (h : GS w0 w g E cur) (j : Nat) : w.cell? ⟨g, j, none⟩ = cur[j]? := by
  simp [World.cell?, h.at_]
theorem GS.start {w : World} {g : Nat} {E : TypeId} {cur : Array Value} (h : w.heap[g]? = some (.cells cur E (0, 0))) : GS w w g E cur.toList :=
  ⟨rfl, rfl, rfl, Nat.le_refl _, fun _ _ _ => rfl, by rw [Array.toArray_toList]; exact h, Nat.le_refl _⟩
theorem GS.alloc (w : World) (cs : Array Value) (E : TypeId) : GS w (w.drew.alloc (.cells cs E)) w.heap.size E cs.toList :=
  ⟨rfl, rfl, rfl, by simp, fun k hk _ => heap_alloc_old w.drew _ hk, by rw [Array.toArray_toList]; exact heap_alloc_new w.drew _, Nat.le_refl _⟩
variable {w0 : Base} {S : Nat → Prop} {M : List Blk} {R : List Row} {D : List DI} {I : List (Bool × MP)}
end
end AT

namespace AT
open Go Go.RowKit
section
variable {w w1 w2 : World} {S : Nat → Prop} {M : List Blk} {R : List Row} {D : List DI} {I : List (Bool × MP)}
end
end AT
namespace AT
open Go Go.RowKit
section
variable {w w' w1 : World} {w0 : Base} {S : Nat → Prop} {M : List Blk} {R : List Row} {D : List DI} {I : List (Bool × MP)}
theorem Mem.wroteBoxO (H : Mem w0 S M R D I w) (i : Nat) {b : Nat} {T : TypeId} {cs cs' : List Value} (hi : M[i]? = some ⟨b, T, cs⟩) (hc : Chg w w' [b]) (hb : w'.heap[b]? = some (.cells cs'.toArray T (0, 0)))
    {X : List DI} (hn : (X.flatMap DI.F).Nodup) (hX : ∀ d ∈ X, d.p.pred w' (· ∈ d.F)) (hl : ∀ b ∈ X.flatMap DI.F, w.heap.size ≤ b ∧ b < w'.heap.size) : Mem w0 S (M.set i ⟨b, T, cs'⟩) R (X ++ D) I w' := by
  have hblt : b < w.heap.size := by
    have h := H.boxAt i hi
    rcases Nat.lt_or_ge b w.heap.size with h' | h'
    · exact h'
    · rw [Array.getElem?_eq_none h'] at h; cases h
  have hp1 : (zs (M.set i ⟨b, T, cs'⟩) R (X ++ D)).Perm (([Blk.res ⟨b, T, cs'⟩] ++ X.map DI.res) ++ zs (M.eraseIdx i) R D) := by
    refine (zsM_set (R := R) (D := X ++ D) ⟨b, T, cs'⟩ hi).trans ?_
    rw [List.append_assoc]
    exact (zsD_app X).append_left _
  have ha : allZ ([Blk.res ⟨b, T, cs'⟩] ++ X.map DI.res) = b :: X.flatMap DI.F := by
    rw [allZ_app, allZ_one, allZ_di]; rfl
  have hf : fmZ ([Blk.res ⟨b, T, cs'⟩] ++ X.map DI.res) = [b] := by
    rw [fmZ_app, fmZ_one, fmZ_di]; rfl
  refine MemZ.perm (MemZ.step (rs := [Blk.res ⟨b, T, cs⟩]) (rs' := [Blk.res ⟨b, T, cs'⟩] ++ X.map DI.res) (MemZ.perm H (zsM_out hi)) (hc.sub fun x hx => ?_) (fun x hx => ?_) (fun x hx => ?_) ?_ (fun _ q hq => ?_)) hp1.symm
  · rw [fmZ_one]; simpa [Blk.res] using hx
  · rw [ha] at hx
    rcases List.mem_cons.1 hx with rfl | hx
    · left; rw [allZ_one]; simp [Res.all, Blk.res]
    · exact .inr (hl x hx)
  · rw [hf] at hx
    left; rw [fmZ_one]; simpa [Blk.res] using hx
  · rw [ha]
    exact List.nodup_cons.2 ⟨fun h => by have := (hl b h).1; omega, hn⟩
  · rcases List.mem_append.1 hq with h | h
    · rw [List.mem_singleton] at h; subst h; exact hb
    · obtain ⟨d, hd, rfl⟩ := List.mem_map.1 h
      exact ⟨hX d hd, fun c hc => (hl c (List.mem_flatMap.2 ⟨d, hd, hc⟩)).2⟩
theorem Mem.endsB {X : List DI} {b : Nat} {T : TypeId} {cs : List Value} (H : Mem ⟨w1, [b]⟩ S M R (X ++ D) I w) (i : Nat) (hi : M[i]? = some ⟨b, T, cs⟩) : New w1 w (X.flatMap DI.F) := by
  have H1 := MemZ.perm H (zsD_app X)
  have h1 := MemZ.nd H1
  rw [allZ_app, allZ_di] at h1
  refine ⟨(List.nodup_append.1 h1).1, fun c hc => ?_⟩
  obtain ⟨h2, h3⟩ := MemZ.lt H1 c (by rw [allZ_app, allZ_di]; exact List.mem_append.2 (.inl hc))
  rcases h2 with h2 | h2
  · exact ⟨h2, h3⟩
  · have e := List.mem_singleton.1 h2
    subst e
    exact absurd rfl ((List.nodup_append.1 h1).2.2 c hc c (fm_all (box_fm hi)))
end
theorem fx_slice {l l' : List Value} {q : Nat} {A A' : Option Addr} {m m' c c' : Nat} (h : l'[q]? = l[q]?) (h1 : l'[q]? = some (.slice A' m' c')) (h2 : l[q]? = some (.slice A m c)) : A = A' ∧ c = c' := by
  rw [h1, h2] at h
  simp only [Option.some.injEq, Value.slice.injEq] at h
  exact ⟨h.1.symm, h.2.2.symm⟩
section
variable {w w' : World} {w0 : Base} {S S1 : Nat → Prop} {I I' : List (Bool × MP)}
theorem MemZ.comp {rs rs' Z : List Res} {G : List Nat} (H : MemZ w0 S (rs ++ Z) I w) (hG : ∀ b ∈ G, b ∈ fmZ rs) (H' : MemZ ⟨w, G⟩ S1 rs' I' w')
    (hS : ((∀ r ∈ rs', r.fresh = true) ∧ ∀ f ∈ I', f.1 = true) ∨ S1 = StZ w0 S (rs ++ Z) false) : MemZ w0 S (rs' ++ Z) (I' ++ I) w' := by
  have hlt : ∀ b ∈ fmZ Z, b < w.heap.size ∧ b ∉ fmZ rs := fun b hb => by
    have h1 := H.nd
    rw [allZ_app] at h1
    exact ⟨(H.lt b (by rw [allZ_app]; exact List.mem_append.2 (.inr (fm_all hb)))).2, fun h => (List.nodup_append.1 h1).2.2 b (fm_all h) b (fm_all hb) rfl⟩
  have hmv : ∀ f, (f = true ∨ S1 = StZ w0 S (rs ++ Z) false) → Moves w' w' (StZ ⟨w, G⟩ S1 rs' f) (StZ w0 S (rs' ++ Z) f) := fun f hf b hb _ => by
    refine ⟨?_, rfl⟩
    rcases hb with ⟨rfl, h1, h2⟩ | ⟨h1, h2⟩
    · rcases hf with hf | hf
      · cases hf
      · rw [hf] at h2
        have hn : b ∉ fmZ rs' := fun h => h1 (H'.lt b (fm_all h)).1
        rcases h2 with ⟨-, h3, h4⟩ | ⟨h3, h4⟩
        · exact .inl ⟨rfl, h3, h4⟩
        · refine .inr ⟨h3, ?_⟩
          rw [fmZ_app] at h4 ⊢
          exact fun h => (List.mem_append.1 h).elim hn fun h => h4 (List.mem_append.2 (.inr h))
    · refine .inr ⟨?_, ?_⟩
      · rcases h1 with h1 | h1
        · exact H.nw_new h1
        · exact (H.lt b (by rw [allZ_app]; exact List.mem_append.2 (.inl (fm_all (hG b h1))))).1
      · rw [fmZ_app]
        refine fun h => (List.mem_append.1 h).elim h2 fun h => ?_
        rcases h1 with h1 | h1
        · have := (hlt b h).1; simp only at h1; omega
        · exact (hlt b h).2 (hG b h1)
  have hb := H'.below
  have H2 : MemZ w0 S (rs' ++ Z) I w' := by
    refine MemZ.step (rs := rs) (rs' := rs') H ⟨hb.os, hb.tape, hb.output, hb.size, fun k hk hn => hb.block k ?_, hb.drawn⟩ (fun b h => ?_) (fun b h => ?_) H'.nd (fun _ r hr => ?_)
    · rintro (h | h)
      · simp only at h; omega
      · exact hn (hG k h)
    · obtain ⟨h1, h2⟩ := H'.lt b h
      rcases h1 with h1 | h1
      · exact .inr ⟨h1, h2⟩
      · exact .inl (fm_all (hG b h1))
    · obtain ⟨h1, h2⟩ := H'.lt b (fm_all h)
      rcases h1 with h1 | h1
      · exact .inr h1
      · exact .inl (hG b h1)
    · exact r.mono (H'.ok r hr) (fun _ _ => rfl) (hmv _ (hS.imp (fun h => h.1 r hr) id))
  refine ⟨H2.below, H2.lt, H2.nd, H2.ok, fun f hf => ?_⟩
  rcases List.mem_append.1 hf with h | h
  · exact f.2.mono (H'.imm f h) (hmv _ (hS.imp (fun hh => hh.2 f h) id))
  · exact H2.imm f h
end
section
variable {w w' : World} {w0 : Base} {S S1 : Nat → Prop} {M : List Blk} {R R' : List Row} {D D' : List DI} {I I' : List (Bool × MP)}
theorem zsR_app (X : List Row) : (zs M (X ++ R) D).Perm (X.map Row.res ++ zs M R D) := by
  unfold zs
  rw [List.map_append, List.append_assoc]
  have h : ∀ (A B C : List Res), (A ++ (B ++ C)).Perm (B ++ (A ++ C)) := fun A B C => by
    rw [← List.append_assoc, ← List.append_assoc]; exact List.perm_append_comm.append_right _
  exact h _ _ _
theorem zsRD_app (X : List Row) (Y : List DI) : (zs M (X ++ R) (Y ++ D)).Perm ((X.map Row.res ++ Y.map DI.res) ++ zs M R D) := by
  refine (zsR_app X).trans ?_
  rw [List.append_assoc]
  exact (zsD_app Y).append_left _
theorem fresh_all {bs : List Blk} (h : (R'.all (fun r => r.k.fresh) && I'.all (fun f => f.1)) = true) : (∀ r ∈ zs bs R' D', r.fresh = true) ∧ ∀ f ∈ I', f.1 = true := by
  rw [Bool.and_eq_true, List.all_eq_true, List.all_eq_true] at h
  refine ⟨fun r hr => ?_, fun f hf => h.2 f hf⟩
  rcases List.mem_append.1 hr with hr | hr
  · obtain ⟨m, -, rfl⟩ := List.mem_map.1 hr; rfl
  · rcases List.mem_append.1 hr with hr | hr
    · obtain ⟨m, hm, rfl⟩ := List.mem_map.1 hr; exact h.1 m hm
    · obtain ⟨m, -, rfl⟩ := List.mem_map.1 hr; rfl
theorem Mem.comp (H : Mem w0 S M R D I w) (H' : Mem ⟨w, []⟩ S1 [] R' D' I' w') (hS : (R'.all (fun r => r.k.fresh) && I'.all (fun f => f.1)) = true ∨ S1 = St w0 S M R D false) : Mem w0 S M (R' ++ R) (D' ++ D) (I' ++ I) w' := by
  have h := MemZ.comp (rs := []) (Z := zs M R D) H (fun b h => by cases h) H' (hS.imp fresh_all id)
  exact MemZ.perm h (zsRD_app R' D').symm
theorem Mem.compB (H : Mem w0 S M R D I w) (i : Nat) {b : Nat} {T T' : TypeId} {cs cs' : List Value} (hi : M[i]? = some ⟨b, T, cs⟩) (H' : Mem ⟨w, [b]⟩ S1 [⟨b, T', cs'⟩] R' D' I' w')
    (hS : (R'.all (fun r => r.k.fresh) && I'.all (fun f => f.1)) = true ∨ S1 = St w0 S M R D false) : Mem w0 S (M.set i ⟨b, T', cs'⟩) (R' ++ R) (D' ++ D) (I' ++ I) w' := by
  have hp := zsM_out (R := R) (D := D) hi
  have h := MemZ.comp (rs := [Blk.res ⟨b, T, cs⟩]) (MemZ.perm H hp) (fun c h => by rw [fmZ_one]; simpa [Blk.res] using h) H' (hS.imp fresh_all fun e => e.trans (StZ_perm hp _))
  refine MemZ.perm h ?_
  refine List.Perm.symm ?_
  refine (zsM_set (R := R' ++ R) (D := D' ++ D) ⟨b, T', cs'⟩ hi).trans ?_
  exact (zsRD_app (M := M.eraseIdx i) R' D').append_left [Blk.res ⟨b, T', cs'⟩]
end
def NB (b : Nat) : Nat → Prop := fun c => c ≠ b
theorem Mem.nb {w : World} {w0 : Base} {S : Nat → Prop} {M : List Blk} {R : List Row} {D : List DI} {I : List (Bool × MP)} (H : Mem w0 S M R D I w) (i : Nat) {b : Nat} {T : TypeId} {cs0 : List Value} (hi : M[i]? = some ⟨b, T, cs0⟩) {α : Type} [GoTy α] {f : Bool} {cs : List Value} {x : List α} (h : lrep w (St w0 S M R D f) cs x) : lrep w (NB b) cs x :=
  GoTy.mono (α := List α) h fun c hc _ => ⟨fun e => H.notSt i hi f (e ▸ hc), rfl⟩
section
variable {P : Program} {Q : Exit → Act → World → Prop} {a : Act} {w : World} {n : Nat} {L : List (Nat × Value)} {ty : TypeId} {pos : String} {af : Array Edge} {g : Option (Nat × Bool)} {K : Act → World → Prop} {d : Nat}
variable {w0 : Base} {S : Nat → Prop} {M : List Blk} {R : List Row} {D : List DI} {I : List (Bool × MP)}
end
section
variable {P : Program} {Q : Exit → Act → World → Prop} {a : Act} {w : World} {n : Nat} {L : List (Nat × Value)} {dst : Option Tmp} {ty : TypeId} {pos : String} {af : Array Edge} {g : Option (Nat × Bool)} {K : Act → World → Prop} {d : Nat}
variable {w0 : Base} {S : Nat → Prop} {M : List Blk} {R : List Row} {D : List DI} {I : List (Bool × MP)}
end
end AT

namespace AT
open Go Go.RowKit
section
variable {w w' w1 : World} {w0 : Base} {S : Nat → Prop} {M : List Blk} {R : List Row} {D : List DI} {I : List (Bool × MP)}
end
section
variable {P : Program} {l : List Oper} {S : World → Prop} {a : Act} {w : World} {B : List Nat} {fuel : Nat} {bs : List Bool}
end
section
variable {P : Program} {a : Act} {w : World} {n : Nat} {L : List (Nat × Value)} {dst : Option Tmp} {ty : TypeId} {pos : String} {af : Array Edge} {g : Option (Nat × Bool)}
end
end AT

namespace AT
open Go Go.RowKit
section
variable {w w' w1 : World} {w0 : Base} {S : Nat → Prop} {M : List Blk} {R : List Row} {D : List DI} {I : List (Bool × MP)}
end
section
variable {P : Program} {Q : Exit → Act → World → Prop} {a : Act} {w : World} {n : Nat} {L : List (Nat × Value)} {ty : TypeId} {pos : String} {af : Array Edge} {g : Option (Nat × Bool)} {K : Act → World → Prop} {d : Nat}
variable {w0 : Base} {S : Nat → Prop} {M : List Blk} {R : List Row} {D : List DI} {I : List (Bool × MP)}
end
section
variable {w : World} {w0 : Base} {S : Nat → Prop} {M : List Blk} {R : List Row} {D : List DI} {I : List (Bool × MP)}
end
section
variable {w w1 : World} {w0 : Base} {S : Nat → Prop} {M : List Blk} {R : List Row} {D : List DI} {I : List (Bool × MP)}
def NO (F : List Nat) : Nat → Prop := fun c => c ∉ F
end
section
variable {w w' : World} {w0 : Base} {S : Nat → Prop} {M : List Blk} {R : List Row} {D : List DI} {I : List (Bool × MP)}
end
section
variable {P : Program} {Q : Exit → Act → World → Prop} {a : Act} {w : World} {n : Nat} {L : List (Nat × Value)} {ty : TypeId} {pos : String} {af : Array Edge} {g : Option (Nat × Bool)} {K : Act → World → Prop} {d : Nat}
variable {w0 : Base} {S : Nat → Prop} {M : List Blk} {R : List Row} {D : List DI} {I : List (Bool × MP)}
end
section
variable {w w' : World} {w0 : Base} {S : Nat → Prop} {M : List Blk} {R : List Row} {D : List DI} {I : List (Bool × MP)}
end
end AT

namespace AT
def mget (m : List (Int × Bool)) (k : Int) : Bool := ((m.find? fun e => e.1 == k).map (·.2)).getD false
end AT

namespace AT
open Go Go.RowKit Go.WideShapes Go.Maps
section
variable {w w' w1 : World} {w0 : Base} {S : Nat → Prop} {M : List Blk} {R : List Row} {D : List DI} {I : List (Bool × MP)}
theorem Mem.wroteP {F F' : List Nat} {p p' : MP} (H : Mem w0 S M R (⟨F, p⟩ :: D) I w) (hR : R.all Row.tightB = true) (hc : Chg w w' F) (ho : p'.pred w' (· ∈ F')) (hb : Back w w' F F') : Mem w0 S M R (⟨F', p'⟩ :: D) [] w' := by
  have H1 := MemZ.perm H (zsD_cons _)
  have hall : ∀ e : DI, allZ [e.res] = e.F := fun e => by rw [allZ_one]; rfl
  refine MemZ.perm (MemZ.turn (rs := [DI.res ⟨F, p⟩]) (rs' := [DI.res ⟨F', p'⟩]) H1 (by rw [hall]; exact hc) (fun b h => ?_) (by rw [hall]; exact hb.1) (zs_tight hR) (fun q hq => ?_)) (zsD_cons _).symm
  · rw [hall] at h ⊢
    obtain ⟨h1, h2⟩ := hb.2 b h
    exact h1.elim (fun h => .inr ⟨h, h2⟩) .inl
  · rw [List.mem_singleton] at hq; subst hq
    exact ⟨ho, fun b h => (hb.2 b h).2⟩
end
def MapAt (P : Program) (tk te : TypeId) (w : World) (b : Nat) (m : List (Int × Bool)) : Prop :=
  ∃ D : DataW Unit, w.ownsMap P tk (plainElem P te) b m.length D ∧ ∀ k, D.atKey (.int .i64 k) (.lit (.bool false)) = .lit (.bool (mget m k))
theorem ownsMap_same {P : Program} {tk : TypeId} {Rr : Value → Option (DataW Unit × List MemPlace)} {w w' : World} {b n : Nat} {D : DataW Unit} (h : w.ownsMap P tk Rr b n D) (e : w'.heap[b]? = w.heap[b]?) : w'.ownsMap P tk Rr b n D := by
  obtain ⟨es, clock, hb, F, hs, hD⟩ := h
  exact ⟨es, clock, e.trans hb, F, hs, hD⟩
def MP.map (P : Program) (tk te : TypeId) (b : Nat) (m : List (Int × Bool)) : MP := ⟨fun w S => MapAt P tk te w b m ∧ S b, by
  rintro w w' S S' ⟨⟨D, h1, h2⟩, h3⟩ hm
  obtain ⟨a1, a2⟩ := hm b h3 h1.lt
  exact ⟨⟨D, ownsMap_same h1 a2, h2⟩, a1⟩⟩
section
variable {w w' w1 : World} {w0 : Base} {S : Nat → Prop} {M : List Blk} {R : List Row} {D : List DI} {I : List (Bool × MP)}
end
section
variable {P : Program} {Q : Exit → Act → World → Prop} {a : Act} {w : World} {n : Nat} {L : List (Nat × Value)} {ty : TypeId} {pos : String} {af : Array Edge} {g : Option (Nat × Bool)} {K : Act → World → Prop} {d : Nat} {dst : Option Tmp}
variable {w0 : Base} {S : Nat → Prop} {M : List Blk} {R : List Row} {D : List DI} {I : List (Bool × MP)}
end
section
variable {P : Program} {S : World → Prop} {B : List Nat} {l : List Oper} {bs : List Bool} {a : Act} {w : World} {fuel : Nat} {Mid : Act → World → Prop}
end
end AT

namespace AT
def ltO {α : Type} (cmp : α → α → Option Int) (a b : α) : Bool := match cmp a b with
  | some c => decide (c < 0)
  | none => false
structure SoF {α : Type} (cmp : α → α → Option Int) (l : List α) : Prop where
  irr : ∀ a ∈ l, ltO cmp a a = false
  tot : ∀ a ∈ l, ∀ b ∈ l, ltO cmp a b = false → ltO cmp b a = false → a = b
  trans : ∀ a ∈ l, ∀ b ∈ l, ∀ c ∈ l, ltO cmp a b = true → ltO cmp b c = true → ltO cmp a c = true
  some_ : ∀ a ∈ l, ∀ b ∈ l, (cmp a b).isSome = true
  len : l.length < 4611686018427387904
end AT

namespace AT
def sortI (l : List Int) : Option (List Int) := if l.length < 4611686018427387904 then some (l.mergeSort fun x y => decide (x ≤ y)) else none
def compT (p : Int) : List Int → List Int
  | [] => []
  | b :: l => if b = p then compT b l else b :: compT b l
def compI : List Int → List Int
  | [] => []
  | a :: l => a :: compT a l
def delO {α σ : Type} (del : α → σ → Option (Bool × σ)) : List α → σ → Option (List α × σ)
  | [], s => some ([], s)
  | a :: l, s => (del a s).bind fun r => (delO del l r.2).bind fun q => some (if r.1 then q.1 else a :: q.1, q.2)
theorem delO_cons {α σ : Type} {del : α → σ → Option (Bool × σ)} {a : α} {l : List α} {s : σ} {q : List α × σ} (h : delO del (a :: l) s = some q) : ∃ b s' q', del a s = some (b, s') ∧ delO del l s' = some (q', q.2) ∧ q.1 = if b then q' else a :: q' := by
  unfold delO at h
  cases h1 : del a s with
  | none => rw [h1] at h; cases h
  | some r =>
    rw [h1, Option.bind_some] at h
    cases h2 : delO del l r.2 with
    | none => rw [h2] at h; cases h
    | some q2 =>
      rw [h2, Option.bind_some] at h
      injection h with h
      subst h
      exact ⟨r.1, r.2, q2.1, rfl, h2, rfl⟩
theorem compT_snoc (b : Int) : ∀ (l : List Int) (p : Int), compT p (l ++ [b]) = compT p l ++ if b = (l.getLast?).getD p then [] else [b]
  | [], p => by
    show (if b = p then compT b [] else b :: compT b []) = _
    by_cases h : b = p <;> simp [compT, h]
  | a :: l, p => by
    have ih := compT_snoc b l a
    have e : ((a :: l).getLast?).getD p = (l.getLast?).getD a := by
      cases l with
      | nil => rfl
      | cons c l => simp [List.getLast?_cons_cons, List.getLast?_cons]
    show (if a = p then compT a (l ++ [b]) else a :: compT a (l ++ [b])) = (if a = p then compT a l else a :: compT a l) ++ _
    rw [ih, e]
    split <;> simp
theorem compI_snoc (b : Int) (l : List Int) : compI (l ++ [b]) = compI l ++ if l ≠ [] ∧ b = (l.getLast?).getD 0 then [] else [b] := by
  cases l with
  | nil => simp [compI, compT]
  | cons a l =>
    show a :: compT a (l ++ [b]) = a :: compT a l ++ _
    rw [compT_snoc]
    have e : ((a :: l).getLast?).getD 0 = (l.getLast?).getD a := by
      cases l with
      | nil => rfl
      | cons c l => simp [List.getLast?_cons_cons, List.getLast?_cons]
    rw [e]
    simp
end AT

namespace AT
def mkB (l : List UInt8) : ByteArray := ⟨l.toArray⟩
def btl (s : ByteArray) : List UInt8 := s.data.toList
def cutO (s sep : ByteArray) : Option (ByteArray × ByteArray × Bool) := if s.size < 4294967281 then some (mkB (Go.Lib.cut (btl s) (btl sep)).1, mkB (Go.Lib.cut (btl s) (btl sep)).2.1, (Go.Lib.cut (btl s) (btl sep)).2.2) else none
def splitO (s sep : ByteArray) : Option (List ByteArray) := if s.size < 4294967281 ∧ 1 ≤ sep.size then some (Go.Lib.splitB sep 0 (Go.Lib.countB s sep) s) else none
def joinO (xs : List ByteArray) (sep : ByteArray) : Option ByteArray := if xs.length ≤ 140737488355328 ∧ (Go.Lib.join (xs.map btl) (btl sep)).length ≤ 140737488355328 then some (mkB (Go.Lib.join (xs.map btl) (btl sep))) else none
def itoaO (n : Int) : Option ByteArray := if -9223372036854775808 ≤ n ∧ n ≤ 9223372036854775807 then some (mkB (Go.Lib.itoa n)) else none
def parseI (s : ByteArray) : Int × Bool := if 7 < s.size then (0, false) else match Go.Lib.atoi (btl s) with
  | none => (0, false)
  | some n => if (-999999 ≤ n ∧ n ≤ 999999) ∧ (mkB (Go.Lib.itoa n)).toList = s.toList then (n, true) else (0, false)
def parseO (s : ByteArray) : Option (Int × Bool) := some (parseI s)
end AT
