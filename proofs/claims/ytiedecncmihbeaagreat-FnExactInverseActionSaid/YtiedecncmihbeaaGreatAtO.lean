/- Operations on memory, calls, and the forms of code. -/
import Derived.Test.YtiedecncmihbeaaGreatAtN
set_option linter.unusedSimpArgs false
set_option linter.unusedVariables false
namespace AT
open Go Go.RowKit

/-! ### Facts on a program's types (each closed, by 'kernel_rfl') -/
def LS (P : Program) (T : TypeId) : Prop := ∀ w ad, (loadVar T ad).run P w = (load ad).run P w
def LA (P : Program) (T : TypeId) (n : Nat) : Prop := ∀ w ad, (loadVar T ad).run P w = (loadCells ad n >>= fun c => pure (Value.agg c) : Sem Value).run P w
def SZ (P : Program) (T : TypeId) (n : Nat) : Prop := ∀ w, (Go.sizeOf T).run P w = .ok n w
def FA (P : Program) (T : TypeId) (f off : Nat) : Prop := ∀ w ad, (Instr.fieldAt T (.pointer (some ad)) f).run P w = .ok (.pointer (some (ad.add off))) w
def ZV (P : Program) (T : TypeId) (z : Value) : Prop := ∀ w, (zeroValue T).run P w = .ok z w
def CL (P : Program) (k : FuncId) : Prop := ∀ args w, (callFunc k args).run P w = .ok (.enter k args) w

section
variable {P : Program} {Q : Exit → Act → World → Prop} {a : Act} {w : World} {w0 : Base} {n : Nat} {L : List (Nat × Value)} {K : Act → World → Prop}
variable {S : Nat → Prop} {M : List Blk} {R : List Row} {D : List DI} {I : List (Bool × MP)} {dst : Option Tmp} {d : Nat} {ty : TypeId} {pos : String} {af : Array Edge} {g : Option (Nat × Bool)}

/-! ### Reading -/
theorem rq_load1 (hf : Fr a n L) {T : TypeId} (hT : LS P T) {x : Operand} {p : Addr} {v : Value} (hx : ev L x = some (.pointer (some p))) (hc : w.cell? p = some v) :
    (execOp a.eval ⟨dst, .load T x, ty, pos, af, g⟩).run P w = .ok (.value v) w := by
  have h1 : (Instr.loadAt T (.pointer (some p))).run P w = .ok v w := by
    show (loadVar T p).run P w = _
    rw [hT]; simp [hc]
  simp [execOp, hf.eval hx, h1]
theorem rq_loadN (hf : Fr a n L) {T : TypeId} {m : Nat} (hT : LA P T m) {x : Operand} {p : Addr} {cs : List Value} (hx : ev L x = some (.pointer (some p))) (hl : cs.length = m)
    (hc : ∀ j c, cs[j]? = some c → w.cell? (p.add j) = some c) : (execOp a.eval ⟨dst, .load T x, ty, pos, af, g⟩).run P w = .ok (.value (.agg cs.toArray)) w := by
  have h1 : (Instr.loadAt T (.pointer (some p))).run P w = .ok (.agg cs.toArray) w := by
    show (loadVar T p).run P w = _
    rw [hT, ← hl, Sem.run_bind, run_loadCells_list (P := P) w p cs hc]
    rfl
  simp [execOp, hf.eval hx, h1]
theorem rq_loadB (hf : Fr a n L) (H : Mem w0 S M R D I w) {T : TypeId} (hT : LS P T) {x : Operand} {b j : Nat} {T' : TypeId} {cs : List Value} {v : Value} (i : Nat) (hx : ev L x = some (.pointer (some ⟨b, j, none⟩)))
    (hi : M[i]? = some ⟨b, T', cs⟩) (hv : cs[j]? = some v) : (execOp a.eval ⟨dst, .load T x, ty, pos, af, g⟩).run P w = .ok (.value v) w :=
  rq_load1 hf hT hx ((H.cell hi j).trans hv)
theorem rq_loadBN (hf : Fr a n L) (H : Mem w0 S M R D I w) {T : TypeId} {m : Nat} (hT : LA P T m) {x : Operand} {b j : Nat} {T' : TypeId} {cs ds : List Value} (i : Nat) (hx : ev L x = some (.pointer (some ⟨b, j, none⟩)))
    (hi : M[i]? = some ⟨b, T', cs⟩) (hd : (cs.drop j).take m = ds) (hl : ds.length = m) : (execOp a.eval ⟨dst, .load T x, ty, pos, af, g⟩).run P w = .ok (.value (.agg ds.toArray)) w :=
  rq_loadN hf hT hx hl fun k c hk => by
    rw [add_lit, H.cell hi, ← hk, ← hd]
    have hlt : k < m := by have := (List.getElem?_eq_some_iff.1 hk).1; omega
    simp [List.getElem?_take, hlt]
theorem rq_loadI (hf : Fr a n L) (H : Mem w0 S M R D I w) {T : TypeId} (hT : LS P T) {x : Operand} {b o : Nat} {f : Bool} {cs : List Value} {v : Value} (i j : Nat) (hx : ev L x = some (.pointer (some ⟨b, o + j, none⟩)))
    (hi : I[i]? = some (f, MP.cells ⟨b, o, none⟩ cs)) (hv : cs[j]? = some v) : (execOp a.eval ⟨dst, .load T x, ty, pos, af, g⟩).run P w = .ok (.value v) w :=
  rq_load1 hf hT hx (by rw [← add_lit]; exact (H.get i hi).2.2 j v hv)
theorem rq_loadIN (hf : Fr a n L) (H : Mem w0 S M R D I w) {T : TypeId} {m : Nat} (hT : LA P T m) {x : Operand} {b o : Nat} {f : Bool} {cs ds : List Value} (i j : Nat) (hx : ev L x = some (.pointer (some ⟨b, o + j, none⟩)))
    (hi : I[i]? = some (f, MP.cells ⟨b, o, none⟩ cs)) (hd : (cs.drop j).take m = ds) (hl : ds.length = m) : (execOp a.eval ⟨dst, .load T x, ty, pos, af, g⟩).run P w = .ok (.value (.agg ds.toArray)) w :=
  rq_loadN hf hT hx hl fun k c hk => by
    rw [add_lit, Nat.add_assoc, ← add_lit]
    refine (H.get i hi).2.2 _ c ?_
    rw [← hk, ← hd]
    have hlt : k < m := by have := (List.getElem?_eq_some_iff.1 hk).1; omega
    simp [hlt]

theorem rq_faddrB (hf : Fr a n L) {T : TypeId} {f off : Nat} (hT : FA P T f off) {x : Operand} {b j : Nat} (hx : ev L x = some (.pointer (some ⟨b, j, none⟩))) :
    (execOp a.eval ⟨dst, .fieldAddr T x f, ty, pos, af, g⟩).run P w = .ok (.value (.pointer (some ⟨b, j + off, none⟩))) w := by
  have h1 := hT w ⟨b, j, none⟩
  rw [add_lit] at h1
  simp [execOp, hf.eval hx, h1]
theorem rq_nilck (hf : Fr a n L) {x : Operand} {p : Addr} (hx : ev L x = some (.pointer (some p))) :
    (execOp a.eval ⟨dst, .nilCheck x, ty, pos, af, g⟩).run P w = .ok (.value (.pointer (some p))) w := by
  simp [execOp, hf.eval hx]

theorem run_indexAt {T E : TypeId} {m : Nat} (hT : P.underlying T = some (.slice E)) (hE : SZ P E m) {p : Addr} {len cap : Nat} {k : IntKind} {i : Int} (h0 : 0 ≤ i) (h1 : i < len) :
    (Instr.indexAt T (.slice (some p) len cap) (.int k i)).run P w = .ok (.pointer (some (p.add (i.toNat * m)))) w := by
  have hE' : ∀ w, (Go.sizeOf E).run P w = .ok m w := hE
  simp [Instr.indexAt, asIntOf, run_underlying hT, h0, h1, hE']

theorem rq_iaddr (hf : Fr a n L) (H : Mem w0 S M R D I w) {α : Type} [GoTy α] {T E : TypeId} (hT : P.underlying T = some (.slice E)) (hE : SZ P E (GoTy.n α)) {x y : Operand} {A : Option Addr} {len cap : Nat} {k : IntKind} {i : Int} {xs : List α} {e : α} {f : Bool}
    (j : Nat) (hx : ev L x = some (.slice A len cap)) (hy : ev L y = some (.int k i)) (hi : I[j]? = some (f, MP.val [.slice A len cap] xs)) (he : idx xs i = some e) :
    ∃ b o cs, (execOp a.eval ⟨dst, .indexAddr T x y, ty, pos, af, g⟩).run P w = .ok (.value (.pointer (some ⟨b, o, none⟩))) w ∧ GoTy.rep w (St w0 S M R D f) cs e ∧ Mem w0 S M R D ((f, MP.cells ⟨b, o, none⟩ cs) :: I) w := by
  obtain ⟨A', cap', hcs, hlc, hcm, hel⟩ : lrep w (St w0 S M R D f) [.slice A len cap] xs := H.get j hi
  obtain ⟨h0, hl, hg⟩ := idx_lt he
  simp only [List.cons.injEq, Value.slice.injEq, and_true] at hcs
  obtain ⟨rfl, rfl, rfl⟩ := hcs
  obtain ⟨p, rfl, hp, cs, hc, hr⟩ := hel _ _ hg
  have hlt : p.block < w.heap.size := ElemAt.lt (S := St w0 S M R D f) (i := i.toNat) (x := e) ⟨cs, hc, hr⟩
  have hlen := GoTy.len hr
  have hpos := GoTy.pos (α := α)
  have hq : p.add (i.toNat * GoTy.n α) = ⟨p.block, (p.add (i.toNat * GoTy.n α)).off, none⟩ := by
    have h0 := hc 0 _ (List.getElem?_eq_getElem (by omega))
    rw [Nat.add_zero] at h0
    have hs : (p.add (i.toNat * GoTy.n α)).spot = none := by
      unfold World.cell? at h0
      cases hsp : (p.add (i.toNat * GoTy.n α)).spot with
      | none => rfl
      | some s =>
        rw [hsp] at h0
        split at h0 <;> simp at h0
    rw [← block_add p (i.toNat * GoTy.n α)]
    generalize p.add (i.toNat * GoTy.n α) = q at hs
    cases q; simp only at hs; subst hs; rfl
  refine ⟨p.block, (p.add (i.toNat * GoTy.n α)).off, cs, ?_, hr, H.push _ ⟨hp, hlt, fun q c hq' => by rw [← hq, add_add]; exact hc q c hq'⟩⟩
  have h1 := run_indexAt (P := P) (w := w) (cap := cap) hT hE h0 hl (p := p) (k := k)
  rw [← hq]
  simp [execOp, hf.eval hx, hf.eval hy, h1]

/-! ### Operations that make or write memory -/
theorem op_box (hf : Fr a n L) (H : Mem w0 S M R D I w) {T : TypeId} {x : Operand} {v : Value} {cs : List Value} (hx : ev L x = some v) (hcs : v.cells = cs.toArray) (hdn : d < n)
    (k : ∀ b a' w', Fr a' n ((d, .pointer (some ⟨b, 0, none⟩)) :: L) → Mem w0 S (⟨b, T, cs⟩ :: M) R D I w' → K a' w') : Oper.wp P ⟨some d, .box T x, ty, pos, af, g⟩ a w K Q := by
  have h1 : (execOp a.eval ⟨some d, .box T x, ty, pos, af, g⟩).run P w = .ok (.value (.pointer (some ⟨w.heap.size, 0, none⟩))) (w.alloc (.cells cs.toArray T)) := by
    simp [execOp, Instr.box, newVar, newRow, hf.eval hx, hcs]
  unfold Oper.wp
  rw [h1, Oper.upon_value]
  exact k _ _ _ (hf.put hdn _) (H.alloc T cs)

theorem op_alloc (hf : Fr a n L) (H : Mem w0 S M R D I w) {T : TypeId} {z : Value} {cs : List Value} (hz : ZV P T z) (hcs : z.cells = cs.toArray) (hdn : d < n)
    (k : ∀ b a' w', Fr a' n ((d, .pointer (some ⟨b, 0, none⟩)) :: L) → Mem w0 S (⟨b, T, cs⟩ :: M) R D I w' → K a' w') : Oper.wp P ⟨some d, .alloc T, ty, pos, af, g⟩ a w K Q := by
  have hz' : ∀ w, (zeroValue T).run P w = .ok z w := hz
  have h1 : (execOp a.eval ⟨some d, .alloc T, ty, pos, af, g⟩).run P w = .ok (.value (.pointer (some ⟨w.heap.size, 0, none⟩))) (w.alloc (.cells cs.toArray T)) := by
    simp [execOp, Instr.alloc, newVar, newRow, hz', hcs]
  unfold Oper.wp
  rw [h1, Oper.upon_value]
  exact k _ _ _ (hf.put hdn _) (H.alloc T cs)

theorem run_storeCells (H : Mem w0 S M R D I w) : ∀ {i b : Nat} {T : TypeId} {cs : List Value} (vs : List Value) (j q : Nat), M[i]? = some ⟨b, T, cs⟩ → (∀ v ∈ vs, v.oneCell' = true) → j + q + vs.length ≤ cs.length →
    ∃ w', (storeCells ⟨b, j, none⟩ vs q).run P w = .ok () w' ∧ Mem w0 S (M.set i ⟨b, T, cs.take (j + q) ++ vs ++ cs.drop (j + q + vs.length)⟩) R D I w' := by
  intro i b T cs vs
  induction vs generalizing w M cs with
  | nil =>
    intro j q hi _ _
    refine ⟨w, by simp [storeCells], ?_⟩
    obtain ⟨h1, h2⟩ := List.getElem?_eq_some_iff.1 hi
    rw [show cs.take (j + q) ++ [] ++ cs.drop (j + q + ([] : List Value).length) = cs by simp, ← h2, List.set_getElem_self h1]
    exact H
  | cons v vs ih =>
    intro j q hi h1 hlen
    simp only [List.length_cons] at hlen
    have hil := (List.getElem?_eq_some_iff.1 hi).1
    have hcell : w.cell? ⟨b, j + q, none⟩ = some (cs[j + q]'(by omega)) := by rw [H.cell hi]; exact List.getElem?_eq_getElem (by omega)
    have hst : (store ((⟨b, j, none⟩ : Addr).add q) v).run P w = .ok () (w.setCell ⟨b, j + q, none⟩ v) := by
      rw [add_lit, run_store P w _ v .plain (h1 v (by simp)), hcell]
      simp [H.unfrozen hi]
    have H1 := H.set i hi (j + q) v
    obtain ⟨w', hr, H2⟩ := ih (M := M.set i ⟨b, T, cs.set (j + q) v⟩) (cs := cs.set (j + q) v) H1 j (q + 1) (by simp [hil]) (fun u hu => h1 u (by simp [hu])) (by simp; omega)
    refine ⟨w', ?_, ?_⟩
    · simp [storeCells, hst, hr]
    · have e : (cs.set (j + q) v).take (j + (q + 1)) ++ vs ++ (cs.set (j + q) v).drop (j + (q + 1) + vs.length) = cs.take (j + q) ++ (v :: vs) ++ cs.drop (j + q + (v :: vs).length) := by
        have e1 : (cs.set (j + q) v).take (j + (q + 1)) = cs.take (j + q) ++ [v] := by
          rw [show j + (q + 1) = (j + q) + 1 by omega, List.take_add_one, List.take_set_of_le (by omega)]
          simp [List.getElem?_set, show j + q < cs.length by omega]
        rw [e1, List.drop_set_of_lt (by omega), List.length_cons, show j + (q + 1) + vs.length = j + q + (vs.length + 1) by omega]
        simp
      rw [List.set_set, e] at H2
      exact H2

theorem op_storeB (hf : Fr a n L) (H : Mem w0 S M R D I w) {T : TypeId} {x y : Operand} {b j : Nat} {T' : TypeId} {cs vs : List Value} {m : Nat} {v : Value} (i : Nat) (hT : SZ P T m) (hx : ev L x = some (.pointer (some ⟨b, j, none⟩))) (hy : ev L y = some v)
    (hv : v.cells = vs.toArray) (hi : M[i]? = some ⟨b, T', cs⟩) (h1 : (vs.all Value.oneCell') = true) (hm : vs.length = m) (hlen : j + vs.length ≤ cs.length)
    (k : ∀ w', Mem w0 S (M.set i ⟨b, T', cs.take j ++ vs ++ cs.drop (j + vs.length)⟩) R D I w' → K a w') : Oper.wp P ⟨none, .store T x y, ty, pos, af, g⟩ a w K Q := by
  have hT' : ∀ w, (Go.sizeOf T).run P w = .ok m w := hT
  obtain ⟨w', hr, H2⟩ := run_storeCells (P := P) H vs j 0 hi (by simpa using h1) (by simpa using hlen)
  have h2 : (execOp a.eval ⟨none, .store T x y, ty, pos, af, g⟩).run P w = .ok .skip w' := by
    simp [execOp, Instr.storeAt, Instr.sureAddr, storeVar, hf.eval hx, hf.eval hy, hv, hT', hm, hr]
  unfold Oper.wp
  rw [h2, Oper.upon_skip]
  exact k w' (by simpa using H2)

/-! ### Calls -/
theorem op_call (hf : Fr a n L) {f : FuncId} (hk : CL P f) {xs : List Operand} {ats : Array TypeId} {vs : List Value} (hxs : evs L xs = some vs) (hdn : d < n) {Post : Value → World → Prop}
    (hc : Calls P f vs.toArray w fun e w' => ∃ v, e = .returned v ∧ Post v w') (k : ∀ v w' a', Post v w' → Fr a' n ((d, v) :: L) → K a' w') :
    Oper.wp P ⟨some d, .call ⟨.value (.func f), xs.toArray, ats⟩, ty, pos, af, g⟩ a w K Q := by
  have hk' : ∀ args w, (callFunc f args).run P w = .ok (.enter f args) w := hk
  unfold Oper.wp
  rw [execOp_call_go, hk']
  simp only [Array.empty_append, Array.append_empty, List.map_toArray, hf.evals hxs, Oper.upon_enter]
  refine hc.mono fun e w' ⟨v, he, hp⟩ => ?_
  subst he
  exact k v w' _ hp (hf.put hdn v)
theorem Mem.new (H : Mem w0 S M R D I w) {b : Nat} (h : w.heap.size ≤ b) (f : Bool) : St w0 S M R D f b :=
  .inr ⟨MemZ.nw_new H h, fun h2 => by have := (MemZ.lt H b (fm_all h2)).2; omega⟩
theorem Mem.res (H : Mem w0 S M R D I w) {w' : World} {f : MP} {fa tag : Bool} (h : f.pred w' (St ⟨w, []⟩ (St w0 S M R D fa) [] [] [] tag)) : f.pred w' (St w0 S M R D (if tag then true else fa)) :=
  f.mono h fun b hb _ => by
    refine ⟨?_, rfl⟩
    rcases hb with ⟨rfl, hlt, h1⟩ | ⟨h1 | h1, _⟩
    · simpa using h1
    · exact H.new h1 _
    · cases h1

/-! ### Forms of code -/
theorem enter {f : FuncId} {fn : Func} {c : Code} {args : List Value} {Rr : Ending → World → Prop} (hF : P.funcs[f]? = some fn) (hb : fn.body = some c) (hn : fn.ntmps = n) (hl : args.length ≤ n) (hL : (args.zipIdx.map fun p => (p.2, p.1)) = L)
    (h : ∀ a, Fr a n L → c.wp P (bodyPost P fn Rr) a w) : Calls P f args.toArray w Rr :=
  calls_of_wp hF hb (h _ (by subst hn; rw [← hL]; exact Fr.entry args _ hl))

theorem sq {x y : Code} (h : x.wp P (Exit.then (y.wp P Q) Q) a w) : (Code.seq x y).wp P Q a w := wp_seq h
theorem cd_t (hf : Fr a n L) {c : Operand} {x y : Code} {b : Bool} (hc : ev L c = some (.bool b)) (hb : b = true) (h : x.wp P Q a w) : (Code.cond c x y).wp P Q a w :=
  wp_cond_true (by rw [hf.eval hc, hb]) h
theorem cd_f (hf : Fr a n L) {c : Operand} {x y : Code} {b : Bool} (hc : ev L c = some (.bool b)) (hb : b = false) (h : y.wp P Q a w) : (Code.cond c x y).wp P Q a w :=
  wp_cond_false (by rw [hf.eval hc, hb]) h
theorem loop_rule {σ : Type} {c : Code} (G : Nat → σ → Prop) (Inv : σ → Act → World → Prop) (h0 : ∀ s, ¬ G 0 s)
    (round : ∀ k s a w, G (k + 1) s → Inv s a w → c.wp P (Exit.then (fun a' w' => ∃ s', G k s' ∧ Inv s' a' w') Q) a w) :
    ∀ k s a w, G k s → Inv s a w → (Code.loop c).wp P Q a w := by
  intro k s a w hG hI b kk cs
  have key : ∀ k s a w, G k s → Inv s a w → ∃ e a' w', Q e a' w' ∧ Arrives P (lone (b.at a (.code c :: .inLoop c :: kk)) cs w) b kk cs e a' w' := by
    intro k
    induction k with
    | zero => intro s a w hG; exact absurd hG (h0 s)
    | succ k ih =>
      intro s a w hG hI
      obtain ⟨e, a1, w1, hq, harr⟩ := round k s a w hG hI b (.inLoop c :: kk) cs
      cases e with
      | normal =>
        obtain ⟨s', hG', hI'⟩ := hq
        obtain ⟨e2, a2, w2, hq2, harr2⟩ := ih s' a1 w1 hG' hI'
        exact ⟨e2, a2, w2, hq2, .of_steps (Steps.trans harr (.one step_inLoop)) harr2⟩
      | exit id => exact ⟨_, a1, w1, hq, .pass (x := .inLoop c) rfl (fun _ _ => .inl (by simp)) harr⟩
      | goto l => exact ⟨_, a1, w1, hq, .pass (x := .inLoop c) rfl (fun _ _ => .inl (by simp)) harr⟩
      | ret => exact ⟨_, a1, w1, hq, .pass (x := .inLoop c) rfl (fun _ _ => .inl (by simp)) harr⟩
      | panic ch => exact ⟨_, a1, w1, hq, .pass (x := .inLoop c) rfl (fun _ _ => .inl (by simp)) harr⟩
      | outgrown => exact ⟨_, a1, w1, hq, .pass (x := .inLoop c) rfl (fun _ _ => .inl (by simp)) harr⟩
  obtain ⟨e, a', w', hq, harr⟩ := key k s a w hG hI
  exact ⟨e, a', w', hq, .of_steps (.one step_loop) harr⟩

/-! ### The end -/
end
end AT

