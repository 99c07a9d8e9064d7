/- Rows of flat elements in regions that draw their order. -/
import Derived.Test.YtokhhjepjbhhpaaGreatAtC
set_option linter.unusedSimpArgs false
set_option linter.unusedVariables false
namespace AT
open Go Go.RowKit
section
variable {P : Program} {Q : Exit → Act → World → Prop} {a : Act} {w : World} {n : Nat} {L : List (Nat × Value)} {dst : Option Tmp} {ty : TypeId} {pos : String} {af : Array Edge} {g : Option (Nat × Bool)} {K : Act → World → Prop} {d : Nat}
variable {w0 : Base} {S : Nat → Prop} {M : List Blk} {R : List Row} {D : List DI} {I : List (Bool × MP)}
/-- &row[i]: the address does not hang on the world. -/
theorem pre_iaddrR (H : Mem w0 S M R D I w) {α : Type} [GoTy α] {T E E' : TypeId} (hT : P.underlying T = some (.slice E)) (hE : SZ P E (GoTy.n α)) (j : Nat) {kd : Kd} {A : Option Addr} {cap : Nat} {xs : List α} {i : Int} {e : α}
    (hj : R[j]? = some ⟨kd, E', A, cap, xs⟩) (he : idx xs i = some e) :
    ∃ b o, (A = some ⟨b, 0, none⟩ ∧ o = i.toNat * GoTy.n α) ∧ ∀ w' k, (Instr.indexAt T (.slice A xs.length cap) (.int k i)).run P w' = .ok (.pointer (some ⟨b, o, none⟩)) w' := by
  obtain ⟨h0, h1, h2⟩ := idx_lt he
  obtain ⟨b, rfl, cs, hr, hc⟩ := row_cells H hj he
  refine ⟨b, _, ⟨rfl, rfl⟩, fun w' k => ?_⟩
  have hi := run_indexAt (P := P) (w := w') (cap := cap) hT hE h0 h1 (p := ⟨b, 0, none⟩) (k := k)
  rw [add_lit, Nat.zero_add] at hi
  exact hi
/-- A load from an element of a row, whose cells the element tells. -/
theorem rq_loadRow (hf : Fr a n L) (H : Mem w0 S M R D I w) {α : Type} [GoTy α] {T : TypeId} (hT : LS P T) (j : Nat) {x : Operand} {b o off : Nat} {kd : Kd} {E : TypeId} {A : Option Addr} {cap : Nat} {xs : List α} {i : Int} {e : α} {v : Value}
    (hx : ev L x = some (.pointer (some ⟨b, o + off, none⟩))) (hj : R[j]? = some ⟨kd, E, A, cap, xs⟩) (hA : A = some ⟨b, 0, none⟩ ∧ o = i.toNat * GoTy.n α) (he : idx xs i = some e) (hv : ∀ (w : World) (T : Nat → Prop) (cs : List Value), GoTy.rep w T cs e → cs[off]? = some v) :
    (execOp a.eval ⟨dst, .load T x, ty, pos, af, g⟩).run P w = .ok (.value v) w := by
  obtain ⟨b', hA', cs, hr, hc⟩ := row_cells H hj he
  obtain ⟨rfl, rfl⟩ := hA
  injection hA' with hA'
  injection hA' with hA'
  subst hA'
  have := hc off v (hv _ _ _ hr)
  rw [add_lit] at this
  exact rq_load1 hf hT hx this
theorem rq_loadRowN (hf : Fr a n L) (H : Mem w0 S M R D I w) {α : Type} [GoTy α] {T : TypeId} {m : Nat} (hT : LA P T m) (j : Nat) {x : Operand} {b o off : Nat} {kd : Kd} {E : TypeId} {A : Option Addr} {cap : Nat} {xs : List α} {i : Int} {e : α} {vs : List Value}
    (hx : ev L x = some (.pointer (some ⟨b, o + off, none⟩))) (hj : R[j]? = some ⟨kd, E, A, cap, xs⟩) (hA : A = some ⟨b, 0, none⟩ ∧ o = i.toNat * GoTy.n α) (he : idx xs i = some e) (hl : vs.length = m) (hv : ∀ (w : World) (T : Nat → Prop) (cs : List Value), GoTy.rep w T cs e → (cs.drop off).take m = vs) :
    (execOp a.eval ⟨dst, .load T x, ty, pos, af, g⟩).run P w = .ok (.value (.agg vs.toArray)) w := by
  obtain ⟨b', hA', cs, hr, hc⟩ := row_cells H hj he
  obtain ⟨rfl, rfl⟩ := hA
  injection hA' with hA'
  injection hA' with hA'
  subst hA'
  refine rq_loadN hf hT hx hl fun q c hq => ?_
  rw [← hv _ _ _ hr] at hq
  have hqm : q < m := by
    have := (List.getElem?_eq_some_iff.1 hq).1
    simp only [List.length_take, List.length_drop] at this; omega
  rw [List.getElem?_take_of_lt hqm, List.getElem?_drop] at hq
  have := hc _ _ hq
  rw [add_lit] at this ⊢
  rw [Nat.add_assoc]
  exact this
theorem idx_set_ex {α : Type} {l : List α} {i : Int} {e : α} (h : idx l i = some e) (k : Nat) (v : α) : ∃ e', idx (l.set k v) i = some e' := by
  obtain ⟨h0, h1, h2⟩ := idx_lt h
  unfold idx
  rw [if_pos h0, List.getElem?_eq_getElem (by rw [List.length_set]; omega)]
  exact ⟨_, rfl⟩
end
end AT
namespace AT
open Go Go.RowKit
/-! ### Shorter words for the generated walks -/
theorem iteB {R : Type} {b : Bool} {x y r : R} {G : Prop} (h : (if b = true then x else y) = r) (h1 : b = true → x = r → G) (h2 : b = false → y = r → G) : G := by
  cases b
  · exact h2 rfl (by simpa using h)
  · exact h1 rfl (by simpa using h)
section
variable {P : Program} {Q : Exit → Act → World → Prop} {a : Act} {w : World} {n : Nat} {L : List (Nat × Value)}
variable {w0 : Base} {S : Nat → Prop} {M : List Blk} {R : List Row} {D : List DI} {I : List (Bool × MP)}
/-- Ways that meet: one slot has turned. -/
theorem midF {c : Code} (t : Nat) (v : Value) (hf : Fr a n L) (H : Mem w0 S M R D I w) (h : c.wp P (Exit.then (fun a w => Fr a n ((t, v) :: L) ∧ Mem w0 S M R D I w) Q) a w)
    (h2 : ∀ a w, Fr a n ((t, v) :: L) → Mem w0 S M R D I w → Q .normal a w) : c.wp P Q a w := mid _ h fun a w q => h2 a w q.1 q.2
/-- A loop, by what stays true of its state. -/
theorem loopC {σ : Type} {id : Nat} {c : Code} (Inv : σ → Act → World → Prop) (G : Nat → σ → Prop) (E : σ → Prop) (s0 : σ) (k0 : Nat) (hL : G k0 s0) (hI : Inv s0 a w) (h0 : ∀ s, ¬ G 0 s)
    (round : ∀ k s a w, G (k + 1) s → Inv s a w → c.wp P (Exit.then (fun a' w' => ∃ s', G k s' ∧ Inv s' a' w') (Exit.inBlock id (Exit.then (fun a w => ∃ s, E s ∧ Inv s a w) Q))) a w)
    (after : ∀ a w, (∃ s, E s ∧ Inv s a w) → Q .normal a w) : (Code.block id (.loop c)).wp P Q a w :=
  mid _ (wp_block (loop_rule G Inv h0 round k0 s0 a w hL hI)) after
end
section
variable {P : Program} {S0 : World → Prop} {B : List Nat} {l : List Oper} {bs bs' : List Bool} {a : Act} {w : World} {n fuel d i : Nat} {L : List (Nat × Value)} {Mid : Act → World → Prop} {o : Oper} {v : Value}
variable {w0 : Base} {S : Nat → Prop} {M : List Blk} {R : List Row} {D : List DI} {I : List (Bool × MP)}
theorem strT (H : Mem w0 S M R D I w) (hs : ∀ w, Mem w0 S M R D I w → S0 w) (h : Mem w0 S M R D I w → DL P l Mid (fun w => Mem w0 S M R D I w) B fuel bs a w) : DL P l Mid S0 B fuel bs a w := str _ hs (h H)
theorem tP (i : Nat) (hi : l[i]? = some o) (hd : o.dst = some d) (hg : o.guard = none) (hdn : Nat.ble (d + 1) n = true) (hf : Fr a n L) (hc : takeB l bs i [] B = true) (hS : nb B bs.toArray = true → S0 w) (hy : ∀ w, (execOp a.eval o).run P w = .ok (.value v) w)
    (h : ∀ a', Fr a' n ((d, v) :: L) → DL P l Mid S0 B fuel (bs.set i true) a' w) : DL P l Mid S0 B (fuel + 1) bs a w := tkP hi hd hg (nle hdn) hf hc hS hy rfl h
theorem tPg (i : Nat) {j e : Nat} {b : Bool} (hi : l[i]? = some o) (hd : o.dst = some d) (hg : o.guard = some (j, b)) (hj : (l[j]?).bind (·.dst) = some e) (hv : lk L e = some (.bool b)) (hdn : Nat.ble (d + 1) n = true) (hf : Fr a n L) (hc : takeB l bs i [] B = true) (hS : nb B bs.toArray = true → S0 w) (hy : ∀ w, (execOp a.eval o).run P w = .ok (.value v) w)
    (h : ∀ a', Fr a' n ((d, v) :: L) → DL P l Mid S0 B fuel (bs.set i true) a' w) : DL P l Mid S0 B (fuel + 1) bs a w := tkPg hi hd hg hj hv (nle hdn) hf hc hS hy rfl h
theorem tS (i : Nat) (X : List Nat) (hi : l[i]? = some o) (hd : o.dst = some d) (hg : o.guard = none) (hdn : Nat.ble (d + 1) n = true) (hf : Fr a n L) (hc : takeB l bs i X B = true) (hBX : (B.all (X.contains ·)) = true) (hS : S0 w) (hy : ∀ w, S0 w → (execOp a.eval o).run P w = .ok (.value v) w)
    (h : ∀ a', Fr a' n ((d, v) :: L) → DL P l Mid S0 B fuel (bs.set i true) a' w) : DL P l Mid S0 B (fuel + 1) bs a w := tkS X hi hd hg (nle hdn) hf hc hBX hS hy rfl h
theorem tSg (i : Nat) (X : List Nat) {j e : Nat} {b : Bool} (hi : l[i]? = some o) (hd : o.dst = some d) (hg : o.guard = some (j, b)) (hj : (l[j]?).bind (·.dst) = some e) (hv : lk L e = some (.bool b)) (hdn : Nat.ble (d + 1) n = true) (hf : Fr a n L) (hc : takeB l bs i X B = true) (hBX : (B.all (X.contains ·)) = true) (hS : S0 w) (hy : ∀ w, S0 w → (execOp a.eval o).run P w = .ok (.value v) w)
    (h : ∀ a', Fr a' n ((d, v) :: L) → DL P l Mid S0 B fuel (bs.set i true) a' w) : DL P l Mid S0 B (fuel + 1) bs a w := tkSg X hi hd hg hj hv (nle hdn) hf hc hBX hS hy rfl h
theorem tUU (i : Nat) {j e : Nat} {b : Bool} (hi : l[i]? = some o) (hd : o.dst = some d) (hg : o.guard = some (j, b)) (hj : (l[j]?).bind (·.dst) = some e) (hv : lk L e = some undef) (hdn : Nat.ble (d + 1) n = true) (hf : Fr a n L) (hc : takeB l bs i [] B = true) (hS : nb B bs.toArray = true → S0 w)
    (h : ∀ a', Fr a' n ((d, undef) :: L) → DL P l Mid S0 B fuel (bs.set i true) a' w) : DL P l Mid S0 B (fuel + 1) bs a w := tkUU hi hd hg hj hv (nle hdn) hf hc hS rfl h
theorem tU (i : Nat) {j e : Nat} {b c : Bool} (hi : l[i]? = some o) (hd : o.dst = some d) (hg : o.guard = some (j, b)) (hj : (l[j]?).bind (·.dst) = some e) (hv : lk L e = some (.bool c)) (hne : (c == b) = false) (hdn : Nat.ble (d + 1) n = true) (hf : Fr a n L) (hc : takeB l bs i [] B = true) (hS : nb B bs.toArray = true → S0 w)
    (h : ∀ a', Fr a' n ((d, undef) :: L) → DL P l Mid S0 B fuel (bs.set i true) a' w) : DL P l Mid S0 B (fuel + 1) bs a w := tkU hi hd hg hj hv hne (nle hdn) hf hc hS rfl h
theorem n1 (i : Nat) (hr : Region.ready .any l.toArray bs.toArray = [i]) (hi : l[i]? = some o) (hg : o.guard = none)
    (h : o.wp P a w (fun a' w' => (nb B (bs.set i true).toArray = true → S0 w') ∧ DL P l Mid S0 B fuel (bs.set i true) a' w') (only Mid)) : DL P l Mid S0 B (fuel + 1) bs a w := on1 hr hi hg rfl h
theorem n1g (i : Nat) {j e : Nat} {b : Bool} (hr : Region.ready .any l.toArray bs.toArray = [i]) (hi : l[i]? = some o) (hg : o.guard = some (j, b)) (hj : (l[j]?).bind (·.dst) = some e) (hv : lk L e = some (.bool b)) (hf : Fr a n L)
    (h : o.wp P a w (fun a' w' => (nb B (bs.set i true).toArray = true → S0 w') ∧ DL P l Mid S0 B fuel (bs.set i true) a' w') (only Mid)) : DL P l Mid S0 B (fuel + 1) bs a w := on1g hr hi hg hj hv hf rfl h
end
end AT
namespace AT
open Go Go.RowKit
theorem ret_0r {P : Program} {w : World} {a : Act} {n : Nat} {L : List (Nat × Value)} {fn : Func} {Rr : Ending → World → Prop} (hf : Fr a n L) (hres : fn.results = #[]) (hR : Rr (.returned (.tuple #[])) w) : bodyPost P fn Rr .ret a w :=
  ⟨hf.defs, _, run_results (rs := []) hres .nil, by simpa using hR⟩
end AT
namespace AT
open Go Go.RowKit
theorem Mem.ownLen {w : World} {w0 : Base} {S : Nat → Prop} {M : List Blk} {R : List Row} {D : List DI} {I : List (Bool × MP)} (H : Mem w0 S M R D I w) {α : Type} [GoTy α] {F : List Nat} {A : Option Addr} {len cap : Nat} {xs : List α} (h : D[0]? = some ⟨F, MP.own F [.slice A len cap] xs⟩) : xs.length = len := by
  obtain ⟨⟨A', cap', E, cells, Fs, hcs, _⟩, -⟩ := H.diAt (List.mem_of_getElem? h)
  simp only [List.cons.injEq, Value.slice.injEq, and_true] at hcs
  exact hcs.2.1.symm
end AT
namespace AT
open Go Go.RowKit
def MP.and (p q : MP) : MP := ⟨fun w S => p.pred w S ∧ q.pred w S, fun h hm => ⟨p.mono h.1 hm, q.mono h.2 hm⟩⟩
theorem Mem.lendQ {w : World} {w0 : Base} {S : Nat → Prop} {M : List Blk} {R : List Row} {D : List DI} {I : List (Bool × MP)} (H : Mem w0 S M R D I w) (j : Nat) {F : List Nat} {p q : MP} (hj : D[j]? = some ⟨F, p⟩) (hq : ∀ w S, p.pred w S → q.pred w S) : Mem w0 S M R D ((true, q) :: I) w :=
  H.push _ (hq _ _ (p.mono (H.diAt (List.mem_of_getElem? hj)) fun b hb _ => ⟨MemZ.fd_st H (di_mem (List.mem_of_getElem? hj)) hb _, rfl⟩))
end AT
