/- slices.Insert and slices.Delete: the pieces of their walks at elements of several cells. -/
import Derived.Test.YtokhhjepjbhhpaaGreatAtI
import Derived.Test.YtokhhjepjbhhpaaGreatAtG
import Derived.Lib.AppendZerosOnto
import Derived.Lib.Overlaps
set_option linter.unusedSimpArgs false
set_option linter.unusedVariables false
namespace AT
open Go Go.RowKit
section
variable {P : Program} {Q : Exit → Act → World → Prop} {a : Act} {w : World} {n : Nat} {L : List (Nat × Value)} {K : Act → World → Prop} {d : Nat} {dst : Option Tmp} {ty : TypeId} {pos : String} {af : Array Edge} {g : Option (Nat × Bool)}
theorem w64_addn {i j : Nat} (h : i + j ≤ 1099511627776) : w64 ((i : Int) + (j : Int)) = ((i + j : Nat) : Int) := by rw [w64_in (by omega) (by omega)]; omega
theorem w64_subn {i j : Nat} (h0 : i ≤ j) (h : j ≤ 1099511627776) : w64 ((j : Int) - (i : Int)) = ((j - i : Nat) : Int) := by rw [w64_in (by omega) (by omega)]; omega
/-! ### Cutting a slice -/
theorem b_lo {len cap i : Nat} (h : i ≤ len) : (Instr.sliceBounds true len cap (some (.int .i64 (i : Int))) none none).run P w = .ok (i, len, cap) w := by
  simp [Instr.sliceBounds, Instr.sliceBound, asIntOf, h]

theorem b_hi {len cap j : Nat} (h : j ≤ cap) : (Instr.sliceBounds true len cap none (some (.int .i64 (j : Int))) none).run P w = .ok (0, j, cap) w := by
  simp [Instr.sliceBounds, Instr.sliceBound, asIntOf, h]

theorem b_lh {len cap i j : Nat} (h0 : i ≤ j) (h : j ≤ cap) : (Instr.sliceBounds true len cap (some (.int .i64 (i : Int))) (some (.int .i64 (j : Int))) none).run P w = .ok (i, j, cap) w := by
  simp [Instr.sliceBounds, Instr.sliceBound, asIntOf, h, h0]
theorem b_lhm {len cap i j m : Nat} (h0 : i ≤ j) (h : j ≤ m) (h2 : m ≤ cap) : (Instr.sliceBounds true len cap (some (.int .i64 (i : Int))) (some (.int .i64 (j : Int))) (some (.int .i64 (m : Int)))).run P w = .ok (i, j, m) w := by
  simp [Instr.sliceBounds, Instr.sliceBound, asIntOf, h, h0, h2]
def cutA (A : Option Addr) (s i m : Nat) : Option Addr := if m = i then A else A.map (·.add (i * s))
theorem run_cut {T E : TypeId} {s : Nat} (hT : P.underlying T = some (.slice E)) (hE : SZ P E s) {A : Option Addr} {len cap : Nat} {lov hiv mxv : Option Value} {i j m : Nat} (hb : ∀ w, (Instr.sliceBounds true len cap lov hiv mxv).run P w = .ok (i, j, m) w) :
    ∀ w, (Instr.sliceAt T (.slice A len cap) lov hiv mxv).run P w = .ok (.slice (cutA A s i m) (j - i) (m - i)) w := by
  intro w
  have hE' : ∀ w, (Go.sizeOf E).run P w = .ok s w := hE
  simp [Instr.sliceAt, Instr.slice, run_underlying hT, hb, hE', cutA]
theorem rq_cut (hf : Fr a n L) {T : TypeId} {x : Operand} {u r : Value} (hx : ev L x = some u) {lo hi mx : Option Operand} {lov hiv mxv : Option Value} (hlo : evo L lo = some lov) (hhi : evo L hi = some hiv) (hmx : evo L mx = some mxv) (h : ∀ w', (Instr.sliceAt T u lov hiv mxv).run P w' = .ok r w') :
    ∀ w, (execOp a.eval ⟨dst, .slice T x lo hi mx, ty, pos, af, g⟩).run P w = .ok (.value r) w := by
  intro w
  simp [execOp, hf.eval hx, evo_map hf hlo, evo_map hf hhi, evo_map hf hmx, h]
theorem cut_some {g o s i m : Nat} (h : m ≠ i) : cutA (some ⟨g, o, none⟩) s i m = some ⟨g, o + i * s, none⟩ := by
  unfold cutA
  rw [if_neg h, Option.map_some, add_lit]
theorem cut_zero {A : Option Addr} {s m : Nat} (hA : ∀ p, A = some p → p.spot = none) : cutA A s 0 m = A := by
  unfold cutA
  split
  · rfl
  · cases A with
    | none => rfl
    | some p =>
      have := hA p rfl
      cases p; simp only at this; subst this
      simp [Addr.add]
/-! ### A block of cells -/
structure GS (w0 w : World) (g : Nat) (E : TypeId) (cur : List Value) : Prop where
  os : w.os = w0.os
  tape : w.tape = w0.tape
  output : w.output = w0.output
  size : w0.heap.size ≤ w.heap.size
  old : ∀ k, k < w0.heap.size → k ≠ g → w.heap[k]? = w0.heap[k]?
  at_ : w.heap[g]? = some (.cells cur.toArray E (0, 0))
theorem GS.below {w0 w w1 : World} {g : Nat} {E : TypeId} {cur : List Value} (h : GS w0 w g E cur) (hg : g < w0.heap.size) (hb : Below w.heap.size w w1) : GS w0 w1 g E cur :=
  ⟨hb.os.trans h.os, hb.tape.trans h.tape, hb.output.trans h.output, Nat.le_trans h.size hb.size, fun k hk hne => (hb.block k (by have := h.size; omega)).trans (h.old k hk hne), (hb.block g (by have := h.size; omega)).trans h.at_⟩
theorem GS.below' {w0 w w1 : World} {g : Nat} {E : TypeId} {cur : List Value} (h : GS w0 w g E cur) (hg : g < w.heap.size) (hb : Below w.heap.size w w1) : GS w0 w1 g E cur :=
  ⟨hb.os.trans h.os, hb.tape.trans h.tape, hb.output.trans h.output, Nat.le_trans h.size hb.size, fun k hk hne => (hb.block k (by have := h.size; omega)).trans (h.old k hk hne), (hb.block g hg).trans h.at_⟩
theorem GS.lt {w0 w : World} {g : Nat} {E : TypeId} {cur : List Value} (h : GS w0 w g E cur) : g < w.heap.size := (Array.getElem?_eq_some_iff.1 h.at_).1
theorem GS.set {w0 w : World} {g : Nat} {E : TypeId} {cur : List Value} (h : GS w0 w g E cur) (new : Array Value) : GS w0 (w.setRow g new) g E new.toList :=
  ⟨h.os, h.tape, h.output, by simpa using h.size, fun k hk hne => (setRow_other w g k new hne).trans (h.old k hk hne), by rw [Array.toArray_toList]; exact setRow_heap w g _ new E _ h.at_⟩
theorem GS.cell {w0 w : World} {g : Nat} {E : TypeId} {cur : List Value} (h : GS w0 w g E cur) (j : Nat) : w.cell? ⟨g, j, none⟩ = cur[j]? := by
  simp [World.cell?, h.at_]
theorem GS.start {w : World} {g : Nat} {E : TypeId} {cur : Array Value} (h : w.heap[g]? = some (.cells cur E (0, 0))) : GS w w g E cur.toList :=
  ⟨rfl, rfl, rfl, Nat.le_refl _, fun _ _ _ => rfl, by rw [Array.toArray_toList]; exact h⟩
theorem GS.grown {w0 w : World} {g : Nat} {E : TypeId} {cur : List Value} (h : GS w0 w g E cur) (o : Option Nat) (ho : g < w0.heap.size → o = some g) : w0.grownBy w o :=
  ⟨h.os, h.tape, h.output, h.size, fun k hk hne => h.old k hk fun e => by subst e; exact hne (ho hk).symm⟩
theorem GS.other {w0 w : World} {g b : Nat} {E : TypeId} {cur : List Value} (h : GS w0 w g E cur) (hb : b < w0.heap.size) (hne : b ≠ g) (j : Nat) : w.cell? ⟨b, j, none⟩ = w0.cell? ⟨b, j, none⟩ := by
  simp [World.cell?, h.old b hb hne]
theorem GS.alloc (w : World) (cs : Array Value) (E : TypeId) : GS w (w.drew.alloc (.cells cs E)) w.heap.size E cs.toList :=
  ⟨rfl, rfl, rfl, by simp, fun k hk _ => heap_alloc_old w.drew _ hk, by rw [Array.toArray_toList]; exact heap_alloc_new w.drew _⟩
/-! ### What is written -/
def lay (cur : List Value) (o : Nat) (cs : List Value) : List Value := cur.take o ++ cs ++ cur.drop (o + cs.length)
theorem lay_len {cur : List Value} {o : Nat} {cs : List Value} (h : o + cs.length ≤ cur.length) : (lay cur o cs).length = cur.length := by
  unfold lay
  simp only [List.length_append, List.length_take, List.length_drop]
  omega
theorem lay_take {cur : List Value} {o : Nat} {cs : List Value} (h : o ≤ cur.length) : (lay cur o cs).take (o + cs.length) = cur.take o ++ cs := by
  unfold lay
  rw [List.take_append_of_le_length (by simp only [List.length_append, List.length_take]; omega)]
  exact List.take_of_length_le (by simp only [List.length_append, List.length_take]; omega)
theorem lay_take_le {cur : List Value} {o k : Nat} {cs : List Value} (h : o ≤ cur.length) (hk : k ≤ o) : (lay cur o cs).take k = cur.take k := by
  unfold lay
  rw [List.append_assoc, List.take_append_of_le_length (by rw [List.length_take]; omega), List.take_take, Nat.min_eq_left hk]
theorem lay_drop {cur : List Value} {o : Nat} {cs : List Value} (h : o ≤ cur.length) : (lay cur o cs).drop o = cs ++ cur.drop (o + cs.length) := by
  unfold lay
  rw [List.append_assoc, List.drop_append_of_le_length (by rw [List.length_take]; omega), List.drop_eq_nil_of_le (by rw [List.length_take]; omega), List.nil_append]
theorem lay_two {cur : List Value} {o : Nat} {vs cs : List Value} (h : o + vs.length + cs.length ≤ cur.length) : (lay (lay cur (o + vs.length) cs) o vs).take (o + vs.length + cs.length) = cur.take o ++ (vs ++ cs) := by
  have hl : (lay cur (o + vs.length) cs).length = cur.length := lay_len h
  have hd := lay_drop (cur := cur) (o := o + vs.length) (cs := cs) (by omega)
  have ht := lay_take_le (cur := cur) (o := o + vs.length) (k := o) (cs := cs) (by omega) (by omega)
  have e : lay (lay cur (o + vs.length) cs) o vs = (lay cur (o + vs.length) cs).take o ++ vs ++ (lay cur (o + vs.length) cs).drop (o + vs.length) := rfl
  rw [e, hd, ht, ← List.append_assoc, List.take_append_of_le_length (by simp only [List.length_append, List.length_take]; omega), List.take_of_length_le (by simp only [List.length_append, List.length_take]; omega), List.append_assoc]
theorem run_clearN {T E E0 : TypeId} {z : Value} {s gb o k c : Nat} {cur : List Value} {w0 : World} (hT : P.underlying T = some (.slice E)) (hZ : ZV P E z) (hz : z.cells.size = s) (h1 : ∀ u ∈ z.cells.toList, u.oneCell' = true) (hs : 0 < s) (hk : 0 < k) (h : GS w0 w gb E0 cur) (hfit : o + k * s ≤ cur.length) :
    ∃ zs : List Value, zs.length = k * s ∧ (Builtin.clear_ #[T] ty #[.slice (some ⟨gb, o, none⟩) k c]).run P w = .ok (.tuple #[]) (w.setRow gb (lay cur o zs).toArray) := by
  have hlen : (Builtin.zeroCells z.cells k).toList.length = k * s := by rw [Array.length_toList, size_zeroCells, hz]
  have hone : ∀ v ∈ (Builtin.zeroCells z.cells k).toList, v.oneCell' = true := by
    intro v hv
    unfold Builtin.zeroCells at hv
    simp only [Array.toList_map, List.mem_map] at hv
    obtain ⟨i, hi, rfl⟩ := hv
    have : i % z.cells.size < z.cells.size := Nat.mod_lt _ (by omega)
    rw [getElem!_pos z.cells _ this]
    exact h1 _ (by simp)
  have hst := run_storeCells_at P gb o E0 (Builtin.zeroCells z.cells k).toList 0 cur.toArray w h.at_ (by simp only [List.size_toArray]; omega) hone
  have hZ' : ∀ w, (zeroValue E).run P w = .ok z w := hZ
  obtain ⟨m, rfl⟩ : ∃ m, k = m + 1 := ⟨k - 1, by omega⟩
  refine ⟨(Builtin.zeroCells z.cells (m + 1)).toList, hlen, ?_⟩
  simp only [Nat.add_zero] at hst
  simp [Builtin.clear_, run_underlying hT, hZ', hst, lay]
theorem run_copyN {T U E E0 : TypeId} {s gb o dLen dCap : Nat} {p : Addr} {sLen sCap k : Nat} {cur cs : List Value} {w0 : World} (hT : P.underlying T = some (.slice E)) (hE : SZ P E s) (h : GS w0 w gb E0 cur) (hk : Nat.min sLen dLen = k) (hl : cs.length = k * s)
    (hsrc : ∀ j v, cs[j]? = some v → w.cell? (p.add j) = some v) (hfit : o + cs.length ≤ cur.length) (h1 : ∀ v ∈ cs, v.oneCell' = true) :
    (Builtin.copy_ #[T, U] ty #[.slice (some ⟨gb, o, none⟩) dLen dCap, .slice (some p) sLen sCap]).run P w = .ok (goInt k) (w.setRow gb (lay cur o cs).toArray) := by
  have hE' : ∀ w, (Go.sizeOf E).run P w = .ok s w := hE
  have hfc := run_firstCells_some (P := P) w s k p sLen sCap cs hl hsrc
  have hst := run_storeCells_at P gb o E0 cs 0 cur.toArray w h.at_ (by simpa using hfit) h1
  simp only [Nat.add_zero] at hst
  simp [Builtin.copy_, run_underlying hT, Builtin.lenOf, hE', hk, hfc, hst, lay]
theorem op_copy_of (hf : Fr a n L) {T U : TypeId} {x y : Operand} {v u : Value} (hx : ev L x = some v) (hy : ev L y = some u) {r : Value} {w' : World} (hr : (Builtin.copy_ #[T, U] ty #[v, u]).run P w = .ok r w') (hdn : d < n)
    (k : ∀ a', Fr a' n ((d, r) :: L) → K a' w') : Oper.wp P ⟨some d, .call ⟨.builtin .copy, #[x, y], #[T, U]⟩, ty, pos, af, g⟩ a w K Q := by
  have h1 : (execOp a.eval ⟨some d, .call ⟨.builtin .copy, #[x, y], #[T, U]⟩, ty, pos, af, g⟩).run P w = .ok (.value r) w' := by
    simp [execOp, resolve, invoke, builtin, hf.eval hx, hf.eval hy, hr]
  unfold Oper.wp
  rw [h1, Oper.upon_value]
  exact k _ (hf.put hdn r)
theorem op_clear_of (hf : Fr a n L) {T : TypeId} {x : Operand} {v : Value} (hx : ev L x = some v) {r : Value} {w' : World} (hr : (Builtin.clear_ #[T] ty #[v]).run P w = .ok r w')
    (k : ∀ a', Fr a' n L → K a' w') : Oper.wp P ⟨none, .call ⟨.builtin .clear, #[x], #[T]⟩, ty, pos, af, g⟩ a w K Q := by
  have h1 : (execOp a.eval ⟨none, .call ⟨.builtin .clear, #[x], #[T]⟩, ty, pos, af, g⟩).run P w = .ok (.value r) w' := by
    simp [execOp, resolve, invoke, builtin, hf.eval hx, hr]
  unfold Oper.wp
  rw [h1, Oper.upon_value]
  exact k _ hf
theorem op_app_of (hf : Fr a n L) {T U : TypeId} {x y : Operand} {v u : Value} (hx : ev L x = some v) (hy : ev L y = some u) {r : Value} {w' : World} (hr : (Builtin.append_ #[T, U] ty #[v, u]).run P w = .ok r w') (hdn : d < n)
    (k : ∀ a', Fr a' n ((d, r) :: L) → K a' w') : Oper.wp P ⟨some d, .call ⟨.builtin .append, #[x, y], #[T, U]⟩, ty, pos, af, g⟩ a w K Q := by
  have h1 : (execOp a.eval ⟨some d, .call ⟨.builtin .append, #[x, y], #[T, U]⟩, ty, pos, af, g⟩).run P w = .ok (.value r) w' := by
    simp [execOp, resolve, invoke, builtin, hf.eval hx, hf.eval hy, hr]
  unfold Oper.wp
  rw [h1, Oper.upon_value]
  exact k _ (hf.put hdn r)
theorem rq_cap (hf : Fr a n L) {T E : TypeId} (hT : P.underlying T = some (.slice E)) {x : Operand} {A : Option Addr} {m c : Nat} (hx : ev L x = some (.slice A m c)) : ∀ w, (execOp a.eval ⟨dst, .call ⟨.builtin .cap, #[x], #[T]⟩, ty, pos, af, g⟩).run P w = .ok (.value (.int .i64 (c : Int))) w := by
  intro w
  simp [execOp, resolve, invoke, builtin, hf.eval hx, Builtin.cap_, run_underlying hT, goInt]
theorem rq_ext (hf : Fr a n L) {f : FuncId} {xs : List Operand} {ats : Array TypeId} {vs : List Value} (hxs : evs L xs = some vs) {r : Value} (h : (callFunc f vs.toArray).run P w = .ok (.value r) w) :
    (execOp a.eval ⟨dst, .call ⟨.value (.func f), xs.toArray, ats⟩, ty, pos, af, g⟩).run P w = .ok (.value r) w := by
  rw [execOp_call_go]
  simp only [Array.empty_append, Array.append_empty, List.map_toArray, hf.evals hxs, h]
theorem apart_run {f : FuncId} {fn : Func} {T TR E : TypeId} {s : Nat} (hf : P.funcs[f]? = some fn) (hname : (fn.name == "runtime.NumGoroutine") = false) (hb : fn.body.isNone = true) (hn : Extern.findNext fn = none) (he : Extern.find fn = some (Extern.SlicesOverlaps.overlaps #[T, T] #[TR])) (hT : P.underlying T = some (.slice E)) (hE : SZ P E s)
    {b gb o la ca lb cb : Nat} (hne : b ≠ gb) {Eb Eg : TypeId} {curb curg : Array Value} (hvb : w.heap[b]? = some (.cells curb Eb (0, 0))) (hvg : w.heap[gb]? = some (.cells curg Eg (0, 0))) (hpos : curg.size ≠ 0) :
    (callFunc f #[.slice (some ⟨b, 0, none⟩) la ca, .slice (some ⟨gb, o, none⟩) lb cb]).run P w = .ok (.value (.bool false)) w := by
  rw [run_callFunc_extern hf hname hb hn he]
  have := Lib.run_overlaps_apart (P := P) w T TR E hT s hE ⟨b, 0, none⟩ ⟨gb, o, none⟩ la ca lb cb hne Eb Eg curb.size curg.size (by simp [World.shape?, hvb]) (by simp [World.shape?, hvg]) hpos (by simp [World.frozen?, hvb]) (by simp [World.frozen?, hvb])
  rw [this]
  rfl
end
end AT
