/- Arrays of ints in variables. -/
import Derived.Test.YtokhhjepjbhhpaaGreatAtW
import Derived.Test.YtokhhjepjbhhpaaGreatAtP3
set_option linter.unusedSimpArgs false
set_option linter.unusedVariables false
namespace AT
open Go Go.RowKit
def IA.cells {n : Nat} (x : IA n) : List Value := x.l.map (Value.int .i64)
theorem IA.cells_len {n : Nat} (x : IA n) : x.cells.length = n := by unfold IA.cells; rw [List.length_map]; exact x.h
theorem IA.cells_get {n : Nat} {x : IA n} {k : Nat} {e : Int} (h : x.get k = some e) : x.cells[k]? = some (.int .i64 e) := by
  unfold IA.get at h
  unfold IA.cells
  rw [List.getElem?_map, h]; rfl
theorem IA.cells_part {n m k : Nat} {x : IA n} {z : IA m} (h : x.part k m = some z) : (x.cells.drop k).take m = z.cells ∧ k + m ≤ n := by
  unfold IA.part at h
  split at h
  · rename_i hk
    injection h with h; subst h
    refine ⟨?_, hk⟩
    unfold IA.cells
    rw [List.map_take, List.map_drop]
  · cases h
@[reducible] def iaTy (n : Nat) (hn : 0 < n) : GoTy (IA n) where
  n := n
  agg := true
  flat := true
  rep _ _ cs x := cs = x.cells
  own _ F cs x := F = [] ∧ cs = x.cells
  pos := hn
  len := by rintro _ _ _ _ rfl; exact IA.cells_len _
  one := by
    rintro _ _ _ x rfl c hc
    obtain ⟨i, -, rfl⟩ := List.mem_map.1 hc
    simp [Value.oneCell']
  mono := fun h _ => h
  own_rep := fun h => h.2
  own_mono := fun h _ => h
  own_lt := by rintro _ _ _ _ ⟨rfl, _⟩ _ h; cases h
  own_flat := fun _ h => ⟨rfl, h⟩

section
variable {P : Program} {Q : Exit → Act → World → Prop} {a : Act} {w : World} {n : Nat} {L : List (Nat × Value)} {dst : Option Tmp} {ty : TypeId} {pos : String} {af : Array Edge} {g : Option (Nat × Bool)} {K : Act → World → Prop} {d : Nat}
variable {w0 : Base} {S : Nat → Prop} {M : List Blk} {R : List Row} {D : List DI} {I : List (Bool × MP)}
theorem rq_iaddrA (hf : Fr a n L) {T E : TypeId} {m es : Nat} (hT : P.underlying T = some (.array m E)) (hE : SZ P E es) {x y : Operand} {b o q : Nat} {k : IntKind} {i : Int} (hx : ev L x = some (.pointer (some ⟨b, o, none⟩))) (hy : ev L y = some (.int k i)) (hq : chk i m = some q) :
    (execOp a.eval ⟨dst, .indexAddr T x y, ty, pos, af, g⟩).run P w = .ok (.value (.pointer (some ⟨b, o + q * es, none⟩))) w := by
  have hE' : ∀ w, (Go.sizeOf E).run P w = .ok es w := hE
  unfold chk at hq
  split at hq
  case isFalse => cases hq
  rename_i hb
  injection hq with hq; subst hq
  have h1 : (Instr.indexAt T (.pointer (some ⟨b, o, none⟩)) (.int k i)).run P w = .ok (.pointer (some ⟨b, o + i.toNat * es, none⟩)) w := by
    simp [Instr.indexAt, Instr.sureAddr, asIntOf, run_underlying hT, hb.1, hb.2, hE', add_lit]
  simp [execOp, hf.eval hx, hf.eval hy, h1]
theorem rq_loadArr (hf : Fr a n L) (H : Mem w0 S M R D I w) {T : TypeId} (hT : LS P T) {x : Operand} {b k N : Nat} {T' : TypeId} {X : IA N} {e : Int} (i : Nat) (hx : ev L x = some (.pointer (some ⟨b, k, none⟩))) (hi : M[i]? = some ⟨b, T', X.cells⟩) (he : X.get k = some e) :
    (execOp a.eval ⟨dst, .load T x, ty, pos, af, g⟩).run P w = .ok (.value (.int .i64 e)) w :=
  rq_loadB hf H hT i hx hi (IA.cells_get he)
theorem rq_loadArrN (hf : Fr a n L) (H : Mem w0 S M R D I w) {T : TypeId} {m : Nat} (hT : LA P T m) {x : Operand} {b k N : Nat} {T' : TypeId} {X : IA N} {Z : IA m} (i : Nat) (hx : ev L x = some (.pointer (some ⟨b, k, none⟩))) (hi : M[i]? = some ⟨b, T', X.cells⟩) (he : X.part k m = some Z) :
    (execOp a.eval ⟨dst, .load T x, ty, pos, af, g⟩).run P w = .ok (.value (.agg Z.cells.toArray)) w := by
  obtain ⟨h1, h2⟩ := IA.cells_part he
  refine rq_loadN hf hT hx (IA.cells_len Z) fun j c hj => ?_
  rw [add_lit, H.cell hi, ← h1] at *
  have hjm : j < m := by
    have := (List.getElem?_eq_some_iff.1 hj).1
    simp only [List.length_take, List.length_drop] at this; omega
  rw [List.getElem?_take_of_lt hjm, List.getElem?_drop] at hj
  exact hj
theorem rq_loadArrI (hf : Fr a n L) (H : Mem w0 S M R D I w) {T : TypeId} (hT : LS P T) {x : Operand} {b o k N : Nat} {f : Bool} {X : IA N} {e : Int} (i : Nat) (hx : ev L x = some (.pointer (some ⟨b, o + k, none⟩))) (hi : I[i]? = some (f, MP.cells ⟨b, o, none⟩ X.cells)) (he : X.get k = some e) :
    (execOp a.eval ⟨dst, .load T x, ty, pos, af, g⟩).run P w = .ok (.value (.int .i64 e)) w :=
  rq_loadI hf H hT i k hx hi (IA.cells_get he)
theorem rq_loadArrNI (hf : Fr a n L) (H : Mem w0 S M R D I w) {T : TypeId} {m : Nat} (hT : LA P T m) {x : Operand} {b o k N : Nat} {f : Bool} {X : IA N} {Z : IA m} (i : Nat) (hx : ev L x = some (.pointer (some ⟨b, o + k, none⟩))) (hi : I[i]? = some (f, MP.cells ⟨b, o, none⟩ X.cells)) (he : X.part k m = some Z) :
    (execOp a.eval ⟨dst, .load T x, ty, pos, af, g⟩).run P w = .ok (.value (.agg Z.cells.toArray)) w := by
  obtain ⟨h1, h2⟩ := IA.cells_part he
  obtain ⟨-, -, hc⟩ := H.get i hi
  refine rq_loadN hf hT hx (IA.cells_len Z) fun j c hj => ?_
  rw [← h1] at hj
  have hjm : j < m := by
    have := (List.getElem?_eq_some_iff.1 hj).1
    simp only [List.length_take, List.length_drop] at this; omega
  rw [List.getElem?_take_of_lt hjm, List.getElem?_drop] at hj
  have := hc (k + j) c hj
  rw [add_lit] at this
  rw [add_lit, Nat.add_assoc]
  exact this
theorem op_storeArr (hf : Fr a n L) (H : Mem w0 S M R D I w) {T : TypeId} {x y : Operand} {b k N : Nat} {T' : TypeId} {X X' : IA N} {v : Int} (i : Nat) (hT : SZ P T 1) (hx : ev L x = some (.pointer (some ⟨b, k, none⟩))) (hy : ev L y = some (.int .i64 v)) (hi : M[i]? = some ⟨b, T', X.cells⟩) (hp : X.put k v = some X')
    (kk : ∀ w', Mem w0 S (M.set i ⟨b, T', X'.cells⟩) R D I w' → K a w') : Oper.wp P ⟨none, .store T x y, ty, pos, af, g⟩ a w K Q := by
  unfold IA.put at hp
  split at hp
  case isFalse => cases hp
  rename_i hk
  injection hp with hp; subst hp
  refine op_storeB (vs := [.int .i64 v]) hf H i hT hx hy rfl hi (by simp [Value.oneCell']) rfl (by rw [IA.cells_len]; exact hk) fun w' H' => kk w' ?_
  have e : X.cells.take k ++ [Value.int .i64 v] ++ X.cells.drop (k + [Value.int .i64 v].length) = (⟨X.l.set k v, by rw [List.length_set]; exact X.h⟩ : IA N).cells := by
    have hk' : k < X.l.length := by rw [X.h]; exact hk
    unfold IA.cells
    simp only [List.length_cons, List.length_nil, Nat.zero_add]
    rw [List.map_set, List.set_eq_take_append_cons_drop, if_pos (by rw [List.length_map]; exact hk')]
    simp
  rw [e] at H'
  exact H'
end
end AT
namespace AT
open Go Go.RowKit
/-- What a callee has made, kept as data of our own that is only read. -/
theorem Mem.addRo {w w' : World} {w0 : Base} {S S' : Nat → Prop} {M : List Blk} {R : List Row} {D : List DI} {I : List (Bool × MP)} (H : Mem w0 S M R D I w) (hb : Below w.heap.size w w') {p : MP} (hp : p.pred w' (St ⟨w, []⟩ S' [] [] [] true)) : ∃ F, Mem w0 S M R (⟨F, p⟩ :: D) I w' := by
  have hF : ∀ b, b ∈ List.range' w.heap.size (w'.heap.size - w.heap.size) ↔ w.heap.size ≤ b ∧ b < w'.heap.size := fun b => by
    rw [List.mem_range'_1]
    have := hb.size
    omega
  refine ⟨List.range' w.heap.size (w'.heap.size - w.heap.size), H.addOwn hb (X := [⟨_, p⟩]) ?_ (fun d hd => ?_) (fun b h => ?_)⟩
  · simpa using List.nodup_range'
  · rw [List.mem_singleton] at hd; subst hd
    refine p.mono hp fun b h hlt => ⟨(hF b).2 ?_, rfl⟩
    rcases h with ⟨h, _⟩ | ⟨h1 | h1, _⟩
    · cases h
    · exact ⟨h1, hlt⟩
    · cases h1
  · simp only [List.flatMap_cons, List.flatMap_nil, List.append_nil] at h
    exact (hF b).1 h
end AT
namespace AT
open Go Go.RowKit
theorem ret_4 {P : Program} {w : World} {a : Act} {n : Nat} {L : List (Nat × Value)} {fn : Func} {Rr : Ending → World → Prop} {r s t x3 : ResultVar} {v u x y : Value} (hf : Fr a n L) (hres : fn.results = #[r, s, t, x3]) (h : RV P w a r v) (h' : RV P w a s u) (h'' : RV P w a t x) (h3 : RV P w a x3 y) (hR : Rr (.returned (.tuple #[v, u, x, y])) w) : bodyPost P fn Rr .ret a w :=
  ⟨hf.defs, _, run_results (rs := [r, s, t, x3]) hres (.cons h (.cons h' (.cons h'' (.cons h3 .nil)))), by simpa using hR⟩
end AT
