/- Function values: made, checked, called; what a function's captured variables hold. -/
import Derived.Test.YtiedecncmihbeaaGreatAtX
set_option linter.unusedSimpArgs false
set_option linter.unusedVariables false
namespace AT
open Go Go.RowKit

section
variable {P : Program} {Q : Exit → Act → World → Prop} {a : Act} {w : World} {n : Nat} {L : List (Nat × Value)} {dst : Option Tmp} {ty : TypeId} {pos : String} {af : Array Edge} {g : Option (Nat × Bool)} {K : Act → World → Prop} {d : Nat}
variable {w0 : Base} {S : Nat → Prop} {M : List Blk} {R : List Row} {D : List DI} {I : List (Bool × MP)}

theorem rq_makeFunc (hf : Fr a n L) {fn : Fn} {xs : List Operand} {vs : List Value} (hx : evs L xs = some vs) :
    (execOp a.eval ⟨dst, .makeFunc fn #[] xs.toArray, ty, pos, af, g⟩).run P w = .ok (.value (.func fn #[] vs.toArray)) w := by
  simp [execOp, Instr.makeFunc, hf.evals hx]
theorem op_callV (hf : Fr a n L) {f : FuncId} (hk : CL P f) {x : Operand} {ca : List Value} (hx : ev L x = some (.func (.func f) #[] ca.toArray)) {xs : List Operand} {ats : Array TypeId} {vs : List Value} (hxs : evs L xs = some vs) (hdn : d < n) {Post : Value → World → Prop}
    (hc : Calls P f (vs ++ ca).toArray w fun e w' => ∃ v, e = .returned v ∧ Post v w') (k : ∀ v w' a', Post v w' → Fr a' n ((d, v) :: L) → K a' w') :
    Oper.wp P ⟨some d, .call ⟨.value x, xs.toArray, ats⟩, ty, pos, af, g⟩ a w K Q := by
  have hk' : ∀ args w, (callFunc f args).run P w = .ok (.enter f args) w := hk
  have h1 : execOp a.eval ⟨some d, .call ⟨.value x, xs.toArray, ats⟩, ty, pos, af, g⟩ = callFunc f (vs ++ ca).toArray := by
    simp [execOp, resolve, Deferred.ofValue, hf.eval hx, hf.evals hxs, invoke]
  unfold Oper.wp
  rw [h1, hk', Oper.upon_enter]
  refine hc.mono fun e w' ⟨v, he, hp⟩ => ?_
  subst he
  exact k v w' _ hp (hf.put hdn v)

theorem Mem.boxTrue (H : Mem w0 S M R D I w) (i : Nat) {b : Nat} {T : TypeId} {cs : List Value} (hi : M[i]? = some ⟨b, T, cs⟩) : (MP.cells ⟨b, 0, none⟩ cs).pred w (fun _ => True) := by
  have h : w.heap[b]? = some (.cells cs.toArray T (0, 0)) := MemZ.ok H (Blk.res ⟨b, T, cs⟩) (List.mem_append.2 (.inl (List.mem_map.2 ⟨_, List.mem_of_getElem? hi, rfl⟩)))
  refine ⟨trivial, ?_, fun j c hc => ?_⟩
  · rcases Nat.lt_or_ge b w.heap.size with h' | h'
    · exact h'
    · rw [Array.getElem?_eq_none h'] at h; cases h
  · rw [add_lit, Nat.zero_add, H.cell hi]; exact hc
theorem mp_true {p : MP} {T : Nat → Prop} (h : p.pred w T) : p.pred w (fun _ => True) := p.mono h fun _ _ _ => ⟨trivial, rfl⟩
end
end AT

