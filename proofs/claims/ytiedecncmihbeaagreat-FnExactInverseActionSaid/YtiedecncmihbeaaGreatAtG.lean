/- Rows of flat elements in regions that draw their order. -/
import Derived.Test.YtiedecncmihbeaaGreatAtW
import Derived.Test.YtiedecncmihbeaaGreatAtP
import Derived.Laws.BytesString
set_option linter.unusedSimpArgs false
set_option linter.unusedVariables false

/- Arrays of ints in variables. -/
namespace AT
open Go Go.RowKit
def IA.cells {n : Nat} (x : IA n) : List Value := x.l.map (Value.int .i64)
theorem IA.cells_len {n : Nat} (x : IA n) : x.cells.length = n := by unfold IA.cells; rw [List.length_map]; exact x.h
@[reducible] def iaTy (n : Nat) (hn : 0 < n) : GoTy (IA n) where
  n := n
  agg := true
  flat := true
  rep _ _ cs x := cs = x.cells
  own _ F cs x := F = [] ∧ cs = x.cells
  pos := hn
  len := by rintro _ _ _ _ rfl; exact IA.cells_len _
  one := by
    rintro _ _ _ x rfl c hc
    obtain ⟨i, -, rfl⟩ := List.mem_map.1 hc
    simp [Value.oneCell']
  mono := fun h _ => h
  own_rep := fun h => h.2
  own_mono := fun h _ => h
  own_lt := by rintro _ _ _ _ ⟨rfl, _⟩ _ h; cases h
  own_flat := fun _ h => ⟨rfl, h⟩

section
variable {P : Program} {Q : Exit → Act → World → Prop} {a : Act} {w : World} {n : Nat} {L : List (Nat × Value)} {dst : Option Tmp} {ty : TypeId} {pos : String} {af : Array Edge} {g : Option (Nat × Bool)} {K : Act → World → Prop} {d : Nat}
variable {w0 : Base} {S : Nat → Prop} {M : List Blk} {R : List Row} {D : List DI} {I : List (Bool × MP)}
end
end AT
namespace AT
open Go Go.RowKit
end AT
namespace AT
open Go Go.RowKit
end AT

/- Strings. -/
namespace AT
open Go Go.RowKit
section
variable {P : Program} {Q : Exit → Act → World → Prop} {a : Act} {w : World} {n : Nat} {L : List (Nat × Value)} {dst : Option Tmp} {ty : TypeId} {pos : String} {af : Array Edge} {g : Option (Nat × Bool)} {K : Act → World → Prop} {d : Nat}
variable {T U : TypeId} {x y : Operand} {s t : ByteArray}
theorem rq_indexS (hf : Fr a n L) (hT : P.underlying T = some .string) {k : IntKind} {i : Int} {e : By} (hx : ev L x = some (.string s)) (hy : ev L y = some (.int k i)) (h : sidx s i = some e) : (execOp a.eval ⟨dst, .index T x y, ty, pos, af, g⟩).run P w = .ok (.value (.int .u8 e.n)) w := by
  unfold sidx at h
  split at h
  case isFalse => cases h
  rename_i h0
  obtain ⟨b, hb, rfl⟩ := Option.map_eq_some_iff.1 h
  have h1 : (Instr.index T (.string s) (.int k i)).run P w = .ok (.int .u8 b.toNat) w := by
    simp [Instr.index, asIntOf, run_underlying hT, h0, hb]
  simp [execOp, hf.eval hx, hf.eval hy, h1]
theorem rq_scat (hf : Fr a n L) {u : ByteArray} (hx : ev L x = some (.string s)) (hy : ev L y = some (.string t)) (h : scat s t = some u) : (execOp a.eval ⟨dst, .binOp .add T x y U, ty, pos, af, g⟩).run P w = .ok (.value (.string u)) w := by
  unfold scat at h
  split at h
  case isFalse => cases h
  rename_i h0
  injection h with h; subst h
  have h1 : (Op.stringOp .add s t).run P w = .ok (.string (s ++ t)) w := by
    have : ¬ (((s.size + t.size : Nat) : Int) > IntKind.i64.max) := by
      simp only [IntKind.max, IntKind.signed, IntKind.bits]
      simp
      omega
    simp only [Op.stringOp, this, if_false]
    rfl
  simp [execOp, hf.eval hx, hf.eval hy, eqGuard, binOp, h1]
theorem run_bstr {S : Nat → Prop} {A : Option Addr} {len cap : Nat} {xs : List By} (h : lrep w S [.slice A len cap] xs) : (Conv.bytesToString (.slice A len cap)).run P w = .ok (.string (bstr xs)) w := by
  obtain ⟨A', cap', hcs, hlc, hcm, hel⟩ := h
  simp only [List.cons.injEq, Value.slice.injEq, and_true] at hcs
  obtain ⟨rfl, rfl, rfl⟩ := hcs
  cases A with
  | none =>
    cases xs with
    | nil => rfl
    | cons x xs => obtain ⟨p, hp, _⟩ := hel 0 x rfl; cases hp
  | some p =>
    have hl : (loadCells p xs.length).run P w = .ok ((xs.map By.n).map (Value.int .u8)).toArray w := by
      have := run_loadCells_list (P := P) (w := w) p ((xs.map By.n).map (Value.int .u8)) fun j v hj => by
        simp only [List.getElem?_map, Option.map_eq_some_iff] at hj
        obtain ⟨m, ⟨x, hx, rfl⟩, rfl⟩ := hj
        obtain ⟨p', hp', hS, cs, hc, hr⟩ := hel j x hx
        injection hp' with hp'; subst hp'
        have hr' : cs = [.int .u8 x.n] := hr
        subst hr'
        have := hc 0 _ rfl
        rw [Nat.add_zero] at this
        have e : j * GoTy.n By = j := Nat.mul_one j
        rw [e] at this
        exact this
      simpa using this
    rw [run_bytesToString w p xs.length cap (xs.map By.n) hl]
    unfold bstr
    rw [List.foldl_map]
theorem rq_convBS {S : Nat → Prop} {A : Option Addr} {len cap : Nat} {xs : List By} {e : TypeId} (hs : P.underlying T = some (.slice e)) (he : P.underlying e = some (.int .u8)) (hd : P.underlying U = some .string) (hf : Fr a n L) (hx : ev L x = some (.slice A len cap)) (h : lrep w S [.slice A len cap] xs) :
    (execOp a.eval ⟨dst, .convert T U x, ty, pos, af, g⟩).run P w = .ok (.value (.string (bstr xs))) w := by
  have h1 : (convert T U (.slice A len cap)).run P w = .ok (.string (bstr xs)) w := by
    rw [run_convert_bytes_string w T U e A len cap hs he hd]; exact run_bstr h
  simp [execOp, hf.eval hx, h1]
end
end AT

/- Literals of several elements. -/
namespace AT
open Go Go.RowKit
end AT

/- Rows of flat elements in regions that draw their order. -/
namespace AT
open Go Go.RowKit
section
variable {P : Program} {Q : Exit → Act → World → Prop} {a : Act} {w : World} {n : Nat} {L : List (Nat × Value)} {dst : Option Tmp} {ty : TypeId} {pos : String} {af : Array Edge} {g : Option (Nat × Bool)} {K : Act → World → Prop} {d : Nat}
variable {w0 : Base} {S : Nat → Prop} {M : List Blk} {R : List Row} {D : List DI} {I : List (Bool × MP)}
theorem pre_iaddrR (H : Mem w0 S M R D I w) {α : Type} [GoTy α] {T E E' : TypeId} (hT : P.underlying T = some (.slice E)) (hE : SZ P E (GoTy.n α)) (j : Nat) {kd : Kd} {A : Option Addr} {cap : Nat} {xs : List α} {i : Int} {e : α}
    (hj : R[j]? = some ⟨kd, E', A, cap, xs⟩) (he : idx xs i = some e) :
    ∃ b o, (A = some ⟨b, 0, none⟩ ∧ o = i.toNat * GoTy.n α) ∧ ∀ w' k, (Instr.indexAt T (.slice A xs.length cap) (.int k i)).run P w' = .ok (.pointer (some ⟨b, o, none⟩)) w' := by
  obtain ⟨h0, h1, h2⟩ := idx_lt he
  obtain ⟨b, rfl, cs, hr, hc⟩ := row_cells H hj he
  refine ⟨b, _, ⟨rfl, rfl⟩, fun w' k => ?_⟩
  have hi := run_indexAt (P := P) (w := w') (cap := cap) hT hE h0 h1 (p := ⟨b, 0, none⟩) (k := k)
  rw [add_lit, Nat.zero_add] at hi
  exact hi
theorem rq_loadRow (hf : Fr a n L) (H : Mem w0 S M R D I w) {α : Type} [GoTy α] {T : TypeId} (hT : LS P T) (j : Nat) {x : Operand} {b o off : Nat} {kd : Kd} {E : TypeId} {A : Option Addr} {cap : Nat} {xs : List α} {i : Int} {e : α} {v : Value}
    (hx : ev L x = some (.pointer (some ⟨b, o + off, none⟩))) (hj : R[j]? = some ⟨kd, E, A, cap, xs⟩) (hA : A = some ⟨b, 0, none⟩ ∧ o = i.toNat * GoTy.n α) (he : idx xs i = some e) (hv : ∀ (w : World) (T : Nat → Prop) (cs : List Value), GoTy.rep w T cs e → cs[off]? = some v) :
    (execOp a.eval ⟨dst, .load T x, ty, pos, af, g⟩).run P w = .ok (.value v) w := by
  obtain ⟨b', hA', cs, hr, hc⟩ := row_cells H hj he
  obtain ⟨rfl, rfl⟩ := hA
  injection hA' with hA'
  injection hA' with hA'
  subst hA'
  have := hc off v (hv _ _ _ hr)
  rw [add_lit] at this
  exact rq_load1 hf hT hx this
end
end AT
namespace AT
open Go Go.RowKit
/-! ### Shorter words for the generated walks -/
theorem iteB {R : Type} {b : Bool} {x y r : R} {G : Prop} (h : (if b = true then x else y) = r) (h1 : b = true → x = r → G) (h2 : b = false → y = r → G) : G := by
  cases b
  · exact h2 rfl (by simpa using h)
  · exact h1 rfl (by simpa using h)
section
variable {P : Program} {Q : Exit → Act → World → Prop} {a : Act} {w : World} {n : Nat} {L : List (Nat × Value)}
variable {w0 : Base} {S : Nat → Prop} {M : List Blk} {R : List Row} {D : List DI} {I : List (Bool × MP)}
theorem midF {c : Code} (t : Nat) (v : Value) (hf : Fr a n L) (H : Mem w0 S M R D I w) (h : c.wp P (Exit.then (fun a w => Fr a n ((t, v) :: L) ∧ Mem w0 S M R D I w) Q) a w)
    (h2 : ∀ a w, Fr a n ((t, v) :: L) → Mem w0 S M R D I w → Q .normal a w) : c.wp P Q a w := mid _ h fun a w q => h2 a w q.1 q.2
theorem loopC {σ : Type} {id : Nat} {c : Code} (Inv : σ → Act → World → Prop) (G : Nat → σ → Prop) (E : σ → Prop) (s0 : σ) (k0 : Nat) (hL : G k0 s0) (hI : Inv s0 a w) (h0 : ∀ s, ¬ G 0 s)
    (round : ∀ k s a w, G (k + 1) s → Inv s a w → c.wp P (Exit.then (fun a' w' => ∃ s', G k s' ∧ Inv s' a' w') (Exit.inBlock id (Exit.then (fun a w => ∃ s, E s ∧ Inv s a w) Q))) a w)
    (after : ∀ a w, (∃ s, E s ∧ Inv s a w) → Q .normal a w) : (Code.block id (.loop c)).wp P Q a w :=
  mid _ (wp_block (loop_rule G Inv h0 round k0 s0 a w hL hI)) after
end
section
variable {P : Program} {S0 : World → Prop} {B : List Nat} {l : List Oper} {bs bs' : List Bool} {a : Act} {w : World} {n fuel d i : Nat} {L : List (Nat × Value)} {Mid : Act → World → Prop} {o : Oper} {v : Value}
variable {w0 : Base} {S : Nat → Prop} {M : List Blk} {R : List Row} {D : List DI} {I : List (Bool × MP)}
theorem strT (H : Mem w0 S M R D I w) (hs : ∀ w, Mem w0 S M R D I w → S0 w) (h : Mem w0 S M R D I w → DL P l Mid (fun w => Mem w0 S M R D I w) B fuel bs a w) : DL P l Mid S0 B fuel bs a w := str _ hs (h H)
theorem tP (i : Nat) (hi : l[i]? = some o) (hd : o.dst = some d) (hg : o.guard = none) (hdn : Nat.ble (d + 1) n = true) (hf : Fr a n L) (hc : takeB l bs i [] B = true) (hS : nb B bs.toArray = true → S0 w) (hy : ∀ w, (execOp a.eval o).run P w = .ok (.value v) w)
    (h : ∀ a', Fr a' n ((d, v) :: L) → DL P l Mid S0 B fuel (bs.set i true) a' w) : DL P l Mid S0 B (fuel + 1) bs a w := tkP hi hd hg (nle hdn) hf hc hS hy rfl h
theorem tPg (i : Nat) {j e : Nat} {b : Bool} (hi : l[i]? = some o) (hd : o.dst = some d) (hg : o.guard = some (j, b)) (hj : (l[j]?).bind (·.dst) = some e) (hv : lk L e = some (.bool b)) (hdn : Nat.ble (d + 1) n = true) (hf : Fr a n L) (hc : takeB l bs i [] B = true) (hS : nb B bs.toArray = true → S0 w) (hy : ∀ w, (execOp a.eval o).run P w = .ok (.value v) w)
    (h : ∀ a', Fr a' n ((d, v) :: L) → DL P l Mid S0 B fuel (bs.set i true) a' w) : DL P l Mid S0 B (fuel + 1) bs a w := tkPg hi hd hg hj hv (nle hdn) hf hc hS hy rfl h
theorem tS (i : Nat) (X : List Nat) (hi : l[i]? = some o) (hd : o.dst = some d) (hg : o.guard = none) (hdn : Nat.ble (d + 1) n = true) (hf : Fr a n L) (hc : takeB l bs i X B = true) (hBX : (B.all (X.contains ·)) = true) (hS : S0 w) (hy : ∀ w, S0 w → (execOp a.eval o).run P w = .ok (.value v) w)
    (h : ∀ a', Fr a' n ((d, v) :: L) → DL P l Mid S0 B fuel (bs.set i true) a' w) : DL P l Mid S0 B (fuel + 1) bs a w := tkS X hi hd hg (nle hdn) hf hc hBX hS hy rfl h
theorem tSg (i : Nat) (X : List Nat) {j e : Nat} {b : Bool} (hi : l[i]? = some o) (hd : o.dst = some d) (hg : o.guard = some (j, b)) (hj : (l[j]?).bind (·.dst) = some e) (hv : lk L e = some (.bool b)) (hdn : Nat.ble (d + 1) n = true) (hf : Fr a n L) (hc : takeB l bs i X B = true) (hBX : (B.all (X.contains ·)) = true) (hS : S0 w) (hy : ∀ w, S0 w → (execOp a.eval o).run P w = .ok (.value v) w)
    (h : ∀ a', Fr a' n ((d, v) :: L) → DL P l Mid S0 B fuel (bs.set i true) a' w) : DL P l Mid S0 B (fuel + 1) bs a w := tkSg X hi hd hg hj hv (nle hdn) hf hc hBX hS hy rfl h
theorem tUU (i : Nat) {j e : Nat} {b : Bool} (hi : l[i]? = some o) (hd : o.dst = some d) (hg : o.guard = some (j, b)) (hj : (l[j]?).bind (·.dst) = some e) (hv : lk L e = some undef) (hdn : Nat.ble (d + 1) n = true) (hf : Fr a n L) (hc : takeB l bs i [] B = true) (hS : nb B bs.toArray = true → S0 w)
    (h : ∀ a', Fr a' n ((d, undef) :: L) → DL P l Mid S0 B fuel (bs.set i true) a' w) : DL P l Mid S0 B (fuel + 1) bs a w := tkUU hi hd hg hj hv (nle hdn) hf hc hS rfl h
theorem tU (i : Nat) {j e : Nat} {b c : Bool} (hi : l[i]? = some o) (hd : o.dst = some d) (hg : o.guard = some (j, b)) (hj : (l[j]?).bind (·.dst) = some e) (hv : lk L e = some (.bool c)) (hne : (c == b) = false) (hdn : Nat.ble (d + 1) n = true) (hf : Fr a n L) (hc : takeB l bs i [] B = true) (hS : nb B bs.toArray = true → S0 w)
    (h : ∀ a', Fr a' n ((d, undef) :: L) → DL P l Mid S0 B fuel (bs.set i true) a' w) : DL P l Mid S0 B (fuel + 1) bs a w := tkU hi hd hg hj hv hne (nle hdn) hf hc hS rfl h
theorem n1 (i : Nat) (hr : Region.ready .any l.toArray bs.toArray = [i]) (hi : l[i]? = some o) (hg : o.guard = none)
    (h : o.wp P a w (fun a' w' => (nb B (bs.set i true).toArray = true → S0 w') ∧ DL P l Mid S0 B fuel (bs.set i true) a' w') (only Mid)) : DL P l Mid S0 B (fuel + 1) bs a w := on1 hr hi hg rfl h
theorem n1g (i : Nat) {j e : Nat} {b : Bool} (hr : Region.ready .any l.toArray bs.toArray = [i]) (hi : l[i]? = some o) (hg : o.guard = some (j, b)) (hj : (l[j]?).bind (·.dst) = some e) (hv : lk L e = some (.bool b)) (hf : Fr a n L)
    (h : o.wp P a w (fun a' w' => (nb B (bs.set i true).toArray = true → S0 w') ∧ DL P l Mid S0 B fuel (bs.set i true) a' w') (only Mid)) : DL P l Mid S0 B (fuel + 1) bs a w := on1g hr hi hg hj hv hf rfl h
end
end AT
namespace AT
open Go Go.RowKit
theorem ret_0r {P : Program} {w : World} {a : Act} {n : Nat} {L : List (Nat × Value)} {fn : Func} {Rr : Ending → World → Prop} (hf : Fr a n L) (hres : fn.results = #[]) (hR : Rr (.returned (.tuple #[])) w) : bodyPost P fn Rr .ret a w :=
  ⟨hf.defs, _, run_results (rs := []) hres .nil, by simpa using hR⟩
end AT
namespace AT
open Go Go.RowKit
end AT
namespace AT
open Go Go.RowKit
def MP.and (p q : MP) : MP := ⟨fun w S => p.pred w S ∧ q.pred w S, fun h hm => ⟨p.mono h.1 hm, q.mono h.2 hm⟩⟩
end AT

