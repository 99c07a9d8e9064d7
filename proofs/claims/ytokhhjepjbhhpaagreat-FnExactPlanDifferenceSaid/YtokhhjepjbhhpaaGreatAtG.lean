/- Rows of flat elements in regions that draw their order. -/
import Derived.Test.YtokhhjepjbhhpaaGreatAtW
import Derived.Test.YtokhhjepjbhhpaaGreatAtP
import Derived.Laws.BytesString
set_option linter.unusedSimpArgs false
set_option linter.unusedVariables false

/- Arrays of ints in variables. -/
namespace AT
open Go Go.RowKit
def IA.cells {n : Nat} (x : IA n) : List Value := x.l.map (Value.int .i64)
theorem IA.cells_len {n : Nat} (x : IA n) : x.cells.length = n := by unfold IA.cells; rw [List.length_map]; exact x.h
theorem IA.cells_get {n : Nat} {x : IA n} {k : Nat} {e : Int} (h : x.get k = some e) : x.cells[k]? = some (.int .i64 e) := by
  unfold IA.get at h
  unfold IA.cells
  rw [List.getElem?_map, h]; rfl
theorem IA.cells_part {n m k : Nat} {x : IA n} {z : IA m} (h : x.part k m = some z) : (x.cells.drop k).take m = z.cells ∧ k + m ≤ n := by
  unfold IA.part at h
  split at h
  · rename_i hk
    injection h with h; subst h
    refine ⟨?_, hk⟩
    unfold IA.cells
    rw [List.map_take, List.map_drop]
  · cases h
@[reducible] def iaTy (n : Nat) (hn : 0 < n) : GoTy (IA n) where
  n := n
  agg := true
  flat := true
  rep _ _ cs x := cs = x.cells
  own _ F cs x := F = [] ∧ cs = x.cells
  pos := hn
  len := by rintro _ _ _ _ rfl; exact IA.cells_len _
  one := by
    rintro _ _ _ x rfl c hc
    obtain ⟨i, -, rfl⟩ := List.mem_map.1 hc
    simp [Value.oneCell']
  mono := fun h _ => h
  own_rep := fun h => h.2
  own_mono := fun h _ => h
  own_lt := by rintro _ _ _ _ ⟨rfl, _⟩ _ h; cases h
  own_flat := fun _ h => ⟨rfl, h⟩

section
variable {P : Program} {Q : Exit → Act → World → Prop} {a : Act} {w : World} {n : Nat} {L : List (Nat × Value)} {dst : Option Tmp} {ty : TypeId} {pos : String} {af : Array Edge} {g : Option (Nat × Bool)} {K : Act → World → Prop} {d : Nat}
variable {w0 : Base} {S : Nat → Prop} {M : List Blk} {R : List Row} {D : List DI} {I : List (Bool × MP)}
theorem rq_iaddrA (hf : Fr a n L) {T E : TypeId} {m es : Nat} (hT : P.underlying T = some (.array m E)) (hE : SZ P E es) {x y : Operand} {b o q : Nat} {k : IntKind} {i : Int} (hx : ev L x = some (.pointer (some ⟨b, o, none⟩))) (hy : ev L y = some (.int k i)) (hq : chk i m = some q) :
    (execOp a.eval ⟨dst, .indexAddr T x y, ty, pos, af, g⟩).run P w = .ok (.value (.pointer (some ⟨b, o + q * es, none⟩))) w := by
  have hE' : ∀ w, (Go.sizeOf E).run P w = .ok es w := hE
  unfold chk at hq
  split at hq
  case isFalse => cases hq
  rename_i hb
  injection hq with hq; subst hq
  have h1 : (Instr.indexAt T (.pointer (some ⟨b, o, none⟩)) (.int k i)).run P w = .ok (.pointer (some ⟨b, o + i.toNat * es, none⟩)) w := by
    simp [Instr.indexAt, Instr.sureAddr, asIntOf, run_underlying hT, hb.1, hb.2, hE', add_lit]
  simp [execOp, hf.eval hx, hf.eval hy, h1]
theorem rq_loadArr (hf : Fr a n L) (H : Mem w0 S M R D I w) {T : TypeId} (hT : LS P T) {x : Operand} {b k N : Nat} {T' : TypeId} {X : IA N} {e : Int} (i : Nat) (hx : ev L x = some (.pointer (some ⟨b, k, none⟩))) (hi : M[i]? = some ⟨b, T', X.cells⟩) (he : X.get k = some e) :
    (execOp a.eval ⟨dst, .load T x, ty, pos, af, g⟩).run P w = .ok (.value (.int .i64 e)) w :=
  rq_loadB hf H hT i hx hi (IA.cells_get he)
theorem rq_loadArrN (hf : Fr a n L) (H : Mem w0 S M R D I w) {T : TypeId} {m : Nat} (hT : LA P T m) {x : Operand} {b k N : Nat} {T' : TypeId} {X : IA N} {Z : IA m} (i : Nat) (hx : ev L x = some (.pointer (some ⟨b, k, none⟩))) (hi : M[i]? = some ⟨b, T', X.cells⟩) (he : X.part k m = some Z) :
    (execOp a.eval ⟨dst, .load T x, ty, pos, af, g⟩).run P w = .ok (.value (.agg Z.cells.toArray)) w := by
  obtain ⟨h1, h2⟩ := IA.cells_part he
  refine rq_loadN hf hT hx (IA.cells_len Z) fun j c hj => ?_
  rw [add_lit, H.cell hi, ← h1] at *
  have hjm : j < m := by
    have := (List.getElem?_eq_some_iff.1 hj).1
    simp only [List.length_take, List.length_drop] at this; omega
  rw [List.getElem?_take_of_lt hjm, List.getElem?_drop] at hj
  exact hj
theorem rq_loadArrI (hf : Fr a n L) (H : Mem w0 S M R D I w) {T : TypeId} (hT : LS P T) {x : Operand} {b o k N : Nat} {f : Bool} {X : IA N} {e : Int} (i : Nat) (hx : ev L x = some (.pointer (some ⟨b, o + k, none⟩))) (hi : I[i]? = some (f, MP.cells ⟨b, o, none⟩ X.cells)) (he : X.get k = some e) :
    (execOp a.eval ⟨dst, .load T x, ty, pos, af, g⟩).run P w = .ok (.value (.int .i64 e)) w :=
  rq_loadI hf H hT i k hx hi (IA.cells_get he)
theorem rq_loadArrNI (hf : Fr a n L) (H : Mem w0 S M R D I w) {T : TypeId} {m : Nat} (hT : LA P T m) {x : Operand} {b o k N : Nat} {f : Bool} {X : IA N} {Z : IA m} (i : Nat) (hx : ev L x = some (.pointer (some ⟨b, o + k, none⟩))) (hi : I[i]? = some (f, MP.cells ⟨b, o, none⟩ X.cells)) (he : X.part k m = some Z) :
    (execOp a.eval ⟨dst, .load T x, ty, pos, af, g⟩).run P w = .ok (.value (.agg Z.cells.toArray)) w := by
  obtain ⟨h1, h2⟩ := IA.cells_part he
  obtain ⟨-, -, hc⟩ := H.get i hi
  refine rq_loadN hf hT hx (IA.cells_len Z) fun j c hj => ?_
  rw [← h1] at hj
  have hjm : j < m := by
    have := (List.getElem?_eq_some_iff.1 hj).1
    simp only [List.length_take, List.length_drop] at this; omega
  rw [List.getElem?_take_of_lt hjm, List.getElem?_drop] at hj
  have := hc (k + j) c hj
  rw [add_lit] at this
  rw [add_lit, Nat.add_assoc]
  exact this
theorem op_storeArr (hf : Fr a n L) (H : Mem w0 S M R D I w) {T : TypeId} {x y : Operand} {b k N : Nat} {T' : TypeId} {X X' : IA N} {v : Int} (i : Nat) (hT : SZ P T 1) (hx : ev L x = some (.pointer (some ⟨b, k, none⟩))) (hy : ev L y = some (.int .i64 v)) (hi : M[i]? = some ⟨b, T', X.cells⟩) (hp : X.put k v = some X')
    (kk : ∀ w', Mem w0 S (M.set i ⟨b, T', X'.cells⟩) R D I w' → K a w') : Oper.wp P ⟨none, .store T x y, ty, pos, af, g⟩ a w K Q := by
  unfold IA.put at hp
  split at hp
  case isFalse => cases hp
  rename_i hk
  injection hp with hp; subst hp
  refine op_storeB (vs := [.int .i64 v]) hf H i hT hx hy rfl hi (by simp [Value.oneCell']) rfl (by rw [IA.cells_len]; exact hk) fun w' H' => kk w' ?_
  have e : X.cells.take k ++ [Value.int .i64 v] ++ X.cells.drop (k + [Value.int .i64 v].length) = (⟨X.l.set k v, by rw [List.length_set]; exact X.h⟩ : IA N).cells := by
    have hk' : k < X.l.length := by rw [X.h]; exact hk
    unfold IA.cells
    simp only [List.length_cons, List.length_nil, Nat.zero_add]
    rw [List.map_set, List.set_eq_take_append_cons_drop, if_pos (by rw [List.length_map]; exact hk')]
    simp
  rw [e] at H'
  exact H'
end
end AT
namespace AT
open Go Go.RowKit
/-- What a callee has made, kept as data of our own that is only read. -/
theorem Mem.addRo {w w' : World} {w0 : Base} {S S' : Nat → Prop} {M : List Blk} {R : List Row} {D : List DI} {I : List (Bool × MP)} (H : Mem w0 S M R D I w) (hb : Below w.heap.size w w') {p : MP} (hp : p.pred w' (St ⟨w, []⟩ S' [] [] [] true)) : ∃ F, Mem w0 S M R (⟨F, p⟩ :: D) I w' := by
  have hF : ∀ b, b ∈ List.range' w.heap.size (w'.heap.size - w.heap.size) ↔ w.heap.size ≤ b ∧ b < w'.heap.size := fun b => by
    rw [List.mem_range'_1]
    have := hb.size
    omega
  refine ⟨List.range' w.heap.size (w'.heap.size - w.heap.size), H.addOwn hb (X := [⟨_, p⟩]) ?_ (fun d hd => ?_) (fun b h => ?_)⟩
  · simpa using List.nodup_range'
  · rw [List.mem_singleton] at hd; subst hd
    refine p.mono hp fun b h hlt => ⟨(hF b).2 ?_, rfl⟩
    rcases h with ⟨h, _⟩ | ⟨h1 | h1, _⟩
    · cases h
    · exact ⟨h1, hlt⟩
    · cases h1
  · simp only [List.flatMap_cons, List.flatMap_nil, List.append_nil] at h
    exact (hF b).1 h
end AT
namespace AT
open Go Go.RowKit
theorem ret_4 {P : Program} {w : World} {a : Act} {n : Nat} {L : List (Nat × Value)} {fn : Func} {Rr : Ending → World → Prop} {r s t x3 : ResultVar} {v u x y : Value} (hf : Fr a n L) (hres : fn.results = #[r, s, t, x3]) (h : RV P w a r v) (h' : RV P w a s u) (h'' : RV P w a t x) (h3 : RV P w a x3 y) (hR : Rr (.returned (.tuple #[v, u, x, y])) w) : bodyPost P fn Rr .ret a w :=
  ⟨hf.defs, _, run_results (rs := [r, s, t, x3]) hres (.cons h (.cons h' (.cons h'' (.cons h3 .nil)))), by simpa using hR⟩
end AT

/- Strings. -/
namespace AT
open Go Go.RowKit
theorem bless_eq : ∀ (x y : List UInt8), Op.bytesLess x y = bless x y
  | _, [] => by cases ‹List UInt8› <;> rfl
  | [], _ :: _ => rfl
  | a :: x, b :: y => by
    unfold Op.bytesLess bless
    rw [bless_eq x y]
section
variable {P : Program} {Q : Exit → Act → World → Prop} {a : Act} {w : World} {n : Nat} {L : List (Nat × Value)} {dst : Option Tmp} {ty : TypeId} {pos : String} {af : Array Edge} {g : Option (Nat × Bool)} {K : Act → World → Prop} {d : Nat}
variable {T U : TypeId} {x y : Operand} {s t : ByteArray}
theorem rq_indexS (hf : Fr a n L) (hT : P.underlying T = some .string) {k : IntKind} {i : Int} {e : By} (hx : ev L x = some (.string s)) (hy : ev L y = some (.int k i)) (h : sidx s i = some e) : (execOp a.eval ⟨dst, .index T x y, ty, pos, af, g⟩).run P w = .ok (.value (.int .u8 e.n)) w := by
  unfold sidx at h
  split at h
  case isFalse => cases h
  rename_i h0
  obtain ⟨b, hb, rfl⟩ := Option.map_eq_some_iff.1 h
  have h1 : (Instr.index T (.string s) (.int k i)).run P w = .ok (.int .u8 b.toNat) w := by
    simp [Instr.index, asIntOf, run_underlying hT, h0, hb]
  simp [execOp, hf.eval hx, hf.eval hy, h1]
theorem rq_scat (hf : Fr a n L) {u : ByteArray} (hx : ev L x = some (.string s)) (hy : ev L y = some (.string t)) (h : scat s t = some u) : (execOp a.eval ⟨dst, .binOp .add T x y U, ty, pos, af, g⟩).run P w = .ok (.value (.string u)) w := by
  unfold scat at h
  split at h
  case isFalse => cases h
  rename_i h0
  injection h with h; subst h
  have h1 : (Op.stringOp .add s t).run P w = .ok (.string (s ++ t)) w := by
    have : ¬ (((s.size + t.size : Nat) : Int) > IntKind.i64.max) := by
      simp only [IntKind.max, IntKind.signed, IntKind.bits]
      simp
      omega
    simp only [Op.stringOp, this, if_false]
    rfl
  simp [execOp, hf.eval hx, hf.eval hy, eqGuard, binOp, h1]
theorem rq_slt (hf : Fr a n L) (hx : ev L x = some (.string s)) (hy : ev L y = some (.string t)) : (execOp a.eval ⟨dst, .binOp .lss T x y U, ty, pos, af, g⟩).run P w = .ok (.value (.bool (slt s t))) w := by
  simp [execOp, hf.eval hx, hf.eval hy, eqGuard, binOp, Op.stringOp, bless_eq, slt]
theorem rq_sle (hf : Fr a n L) (hx : ev L x = some (.string s)) (hy : ev L y = some (.string t)) : (execOp a.eval ⟨dst, .binOp .leq T x y U, ty, pos, af, g⟩).run P w = .ok (.value (.bool (slt s t || seq s t))) w := by
  simp [execOp, hf.eval hx, hf.eval hy, eqGuard, binOp, Op.stringOp, bless_eq, slt, seq]
theorem rq_sgt (hf : Fr a n L) (hx : ev L x = some (.string s)) (hy : ev L y = some (.string t)) : (execOp a.eval ⟨dst, .binOp .gtr T x y U, ty, pos, af, g⟩).run P w = .ok (.value (.bool (!(slt s t || seq s t)))) w := by
  simp [execOp, hf.eval hx, hf.eval hy, eqGuard, binOp, Op.stringOp, bless_eq, slt, seq]
theorem rq_sge (hf : Fr a n L) (hx : ev L x = some (.string s)) (hy : ev L y = some (.string t)) : (execOp a.eval ⟨dst, .binOp .geq T x y U, ty, pos, af, g⟩).run P w = .ok (.value (.bool (!slt s t))) w := by
  simp [execOp, hf.eval hx, hf.eval hy, eqGuard, binOp, Op.stringOp, bless_eq, slt]
theorem rq_ssub (hf : Fr a n L) (hT : P.underlying T = some .string) {lo hi : Option Operand} {lov hiv : Option Value} {i j : Int} {u : ByteArray} (hx : ev L x = some (.string s)) (hlo : evo L lo = some lov) (hhi : evo L hi = some hiv) (hlo' : lov = none ∧ i = 0 ∨ lov = some (.int .i64 i)) (hhi' : hiv = none ∧ j = s.size ∨ hiv = some (.int .i64 j)) (h : ssub s i j = some u) :
    (execOp a.eval ⟨dst, .slice T x lo hi none, ty, pos, af, g⟩).run P w = .ok (.value (.string u)) w := by
  unfold ssub at h
  split at h
  case isFalse => cases h
  rename_i hb
  obtain ⟨h0, h1, h2⟩ := hb
  injection h with h; subst h
  have hj : (j.toNat : Int) = j := Int.toNat_of_nonneg (by omega)
  have hsb : (Instr.sliceBounds false s.size s.size lov hiv none).run P w = .ok (i.toNat, j.toNat, s.size) w := by
    rcases hlo' with ⟨e1, rfl⟩ | e1 <;> rcases hhi' with ⟨e2, e3⟩ | e2 <;> rw [e1, e2]
    · subst e3; simp [Instr.sliceBounds]
    · simp [Instr.sliceBounds, Instr.sliceBound, asIntOf, show 0 ≤ j by omega, h2]
    · subst e3; simp [Instr.sliceBounds, Instr.sliceBound, asIntOf, h0, h1]
    · simp [Instr.sliceBounds, Instr.sliceBound, asIntOf, h0, show 0 ≤ j by omega, h2, hj, h1]
  have hsl : (Instr.sliceAt T (.string s) lov hiv none).run P w = .ok (.string (s.extract i.toNat j.toNat)) w := by
    simp [Instr.sliceAt, Instr.slice, run_underlying hT, hsb]
  simp [execOp, hf.eval hx, evo_map hf hlo, evo_map hf hhi, hsl]
theorem run_bstr {S : Nat → Prop} {A : Option Addr} {len cap : Nat} {xs : List By} (h : lrep w S [.slice A len cap] xs) : (Conv.bytesToString (.slice A len cap)).run P w = .ok (.string (bstr xs)) w := by
  obtain ⟨A', cap', hcs, hlc, hcm, hel⟩ := h
  simp only [List.cons.injEq, Value.slice.injEq, and_true] at hcs
  obtain ⟨rfl, rfl, rfl⟩ := hcs
  cases A with
  | none =>
    cases xs with
    | nil => rfl
    | cons x xs => obtain ⟨p, hp, _⟩ := hel 0 x rfl; cases hp
  | some p =>
    have hl : (loadCells p xs.length).run P w = .ok ((xs.map By.n).map (Value.int .u8)).toArray w := by
      have := run_loadCells_list (P := P) (w := w) p ((xs.map By.n).map (Value.int .u8)) fun j v hj => by
        simp only [List.getElem?_map, Option.map_eq_some_iff] at hj
        obtain ⟨m, ⟨x, hx, rfl⟩, rfl⟩ := hj
        obtain ⟨p', hp', hS, cs, hc, hr⟩ := hel j x hx
        injection hp' with hp'; subst hp'
        have hr' : cs = [.int .u8 x.n] := hr
        subst hr'
        have := hc 0 _ rfl
        rw [Nat.add_zero] at this
        have e : j * GoTy.n By = j := Nat.mul_one j
        rw [e] at this
        exact this
      simpa using this
    rw [run_bytesToString w p xs.length cap (xs.map By.n) hl]
    unfold bstr
    rw [List.foldl_map]
theorem rq_convBS {S : Nat → Prop} {A : Option Addr} {len cap : Nat} {xs : List By} {e : TypeId} (hs : P.underlying T = some (.slice e)) (he : P.underlying e = some (.int .u8)) (hd : P.underlying U = some .string) (hf : Fr a n L) (hx : ev L x = some (.slice A len cap)) (h : lrep w S [.slice A len cap] xs) :
    (execOp a.eval ⟨dst, .convert T U x, ty, pos, af, g⟩).run P w = .ok (.value (.string (bstr xs))) w := by
  have h1 : (convert T U (.slice A len cap)).run P w = .ok (.string (bstr xs)) w := by
    rw [run_convert_bytes_string w T U e A len cap hs he hd]; exact run_bstr h
  simp [execOp, hf.eval hx, h1]
end
end AT

/- Literals of several elements. -/
namespace AT
open Go Go.RowKit
theorem elL {w : World} {T : Nat → Prop} {α : Type} [GoTy α] : ∀ (l : List (List Value × α)), (∀ p ∈ l, GoTy.rep w T p.1 p.2) → ∀ i x, (l.map Prod.snd)[i]? = some x → GoTy.rep w T (part' α ((l.map Prod.fst).flatten) i) x
  | [], _, i, x, h => by simp at h
  | p :: l, hp, i, x, h => by
    have h0 := hp p (by simp)
    have hl : p.1.length = GoTy.n α := GoTy.len h0
    cases i with
    | zero =>
      simp only [List.map_cons, List.getElem?_cons_zero, Option.some.injEq] at h
      subst h
      unfold part'
      rw [Nat.zero_mul, List.drop_zero, List.map_cons, List.flatten_cons, List.take_append_of_le_length (by omega), List.take_of_length_le (by omega)]
      exact h0
    | succ i =>
      simp only [List.map_cons, List.getElem?_cons_succ] at h
      have := elL l (fun q hq => hp q (by simp [hq])) i x h
      unfold part' at this ⊢
      rw [List.map_cons, List.flatten_cons, Nat.succ_mul, Nat.add_comm, ← List.drop_drop, ← hl, List.drop_left, hl]
      exact this
theorem al0 {w : World} {T : Nat → Prop} {α : Type} [GoTy α] : ∀ p ∈ ([] : List (List Value × α)), GoTy.rep w T p.1 p.2 := fun _ h => by cases h
theorem al1 {w : World} {T : Nat → Prop} {α : Type} [GoTy α] {cs : List Value} {x : α} {l : List (List Value × α)} (h : GoTy.rep w T cs x) (t : ∀ p ∈ l, GoTy.rep w T p.1 p.2) : ∀ p ∈ ((cs, x) :: l), GoTy.rep w T p.1 p.2 := by
  intro p hp
  rcases List.mem_cons.1 hp with rfl | hp
  · exact h
  · exact t p hp
end AT

/- Rows of flat elements in regions that draw their order. -/
namespace AT
open Go Go.RowKit
section
variable {P : Program} {Q : Exit → Act → World → Prop} {a : Act} {w : World} {n : Nat} {L : List (Nat × Value)} {dst : Option Tmp} {ty : TypeId} {pos : String} {af : Array Edge} {g : Option (Nat × Bool)} {K : Act → World → Prop} {d : Nat}
variable {w0 : Base} {S : Nat → Prop} {M : List Blk} {R : List Row} {D : List DI} {I : List (Bool × MP)}
/-- &row[i]: the address does not hang on the world. -/
theorem pre_iaddrR (H : Mem w0 S M R D I w) {α : Type} [GoTy α] {T E E' : TypeId} (hT : P.underlying T = some (.slice E)) (hE : SZ P E (GoTy.n α)) (j : Nat) {kd : Kd} {A : Option Addr} {cap : Nat} {xs : List α} {i : Int} {e : α}
    (hj : R[j]? = some ⟨kd, E', A, cap, xs⟩) (he : idx xs i = some e) :
    ∃ b o, (A = some ⟨b, 0, none⟩ ∧ o = i.toNat * GoTy.n α) ∧ ∀ w' k, (Instr.indexAt T (.slice A xs.length cap) (.int k i)).run P w' = .ok (.pointer (some ⟨b, o, none⟩)) w' := by
  obtain ⟨h0, h1, h2⟩ := idx_lt he
  obtain ⟨b, rfl, cs, hr, hc⟩ := row_cells H hj he
  refine ⟨b, _, ⟨rfl, rfl⟩, fun w' k => ?_⟩
  have hi := run_indexAt (P := P) (w := w') (cap := cap) hT hE h0 h1 (p := ⟨b, 0, none⟩) (k := k)
  rw [add_lit, Nat.zero_add] at hi
  exact hi
/-- A load from an element of a row, whose cells the element tells. -/
theorem rq_loadRow (hf : Fr a n L) (H : Mem w0 S M R D I w) {α : Type} [GoTy α] {T : TypeId} (hT : LS P T) (j : Nat) {x : Operand} {b o off : Nat} {kd : Kd} {E : TypeId} {A : Option Addr} {cap : Nat} {xs : List α} {i : Int} {e : α} {v : Value}
    (hx : ev L x = some (.pointer (some ⟨b, o + off, none⟩))) (hj : R[j]? = some ⟨kd, E, A, cap, xs⟩) (hA : A = some ⟨b, 0, none⟩ ∧ o = i.toNat * GoTy.n α) (he : idx xs i = some e) (hv : ∀ (w : World) (T : Nat → Prop) (cs : List Value), GoTy.rep w T cs e → cs[off]? = some v) :
    (execOp a.eval ⟨dst, .load T x, ty, pos, af, g⟩).run P w = .ok (.value v) w := by
  obtain ⟨b', hA', cs, hr, hc⟩ := row_cells H hj he
  obtain ⟨rfl, rfl⟩ := hA
  injection hA' with hA'
  injection hA' with hA'
  subst hA'
  have := hc off v (hv _ _ _ hr)
  rw [add_lit] at this
  exact rq_load1 hf hT hx this
theorem rq_loadRowN (hf : Fr a n L) (H : Mem w0 S M R D I w) {α : Type} [GoTy α] {T : TypeId} {m : Nat} (hT : LA P T m) (j : Nat) {x : Operand} {b o off : Nat} {kd : Kd} {E : TypeId} {A : Option Addr} {cap : Nat} {xs : List α} {i : Int} {e : α} {vs : List Value}
    (hx : ev L x = some (.pointer (some ⟨b, o + off, none⟩))) (hj : R[j]? = some ⟨kd, E, A, cap, xs⟩) (hA : A = some ⟨b, 0, none⟩ ∧ o = i.toNat * GoTy.n α) (he : idx xs i = some e) (hl : vs.length = m) (hv : ∀ (w : World) (T : Nat → Prop) (cs : List Value), GoTy.rep w T cs e → (cs.drop off).take m = vs) :
    (execOp a.eval ⟨dst, .load T x, ty, pos, af, g⟩).run P w = .ok (.value (.agg vs.toArray)) w := by
  obtain ⟨b', hA', cs, hr, hc⟩ := row_cells H hj he
  obtain ⟨rfl, rfl⟩ := hA
  injection hA' with hA'
  injection hA' with hA'
  subst hA'
  refine rq_loadN hf hT hx hl fun q c hq => ?_
  rw [← hv _ _ _ hr] at hq
  have hqm : q < m := by
    have := (List.getElem?_eq_some_iff.1 hq).1
    simp only [List.length_take, List.length_drop] at this; omega
  rw [List.getElem?_take_of_lt hqm, List.getElem?_drop] at hq
  have := hc _ _ hq
  rw [add_lit] at this ⊢
  rw [Nat.add_assoc]
  exact this
theorem idx_set_ex {α : Type} {l : List α} {i : Int} {e : α} (h : idx l i = some e) (k : Nat) (v : α) : ∃ e', idx (l.set k v) i = some e' := by
  obtain ⟨h0, h1, h2⟩ := idx_lt h
  unfold idx
  rw [if_pos h0, List.getElem?_eq_getElem (by rw [List.length_set]; omega)]
  exact ⟨_, rfl⟩
end
end AT
namespace AT
open Go Go.RowKit
/-! ### Shorter words for the generated walks -/
theorem iteB {R : Type} {b : Bool} {x y r : R} {G : Prop} (h : (if b = true then x else y) = r) (h1 : b = true → x = r → G) (h2 : b = false → y = r → G) : G := by
  cases b
  · exact h2 rfl (by simpa using h)
  · exact h1 rfl (by simpa using h)
section
variable {P : Program} {Q : Exit → Act → World → Prop} {a : Act} {w : World} {n : Nat} {L : List (Nat × Value)}
variable {w0 : Base} {S : Nat → Prop} {M : List Blk} {R : List Row} {D : List DI} {I : List (Bool × MP)}
/-- Ways that meet: one slot has turned. -/
theorem midF {c : Code} (t : Nat) (v : Value) (hf : Fr a n L) (H : Mem w0 S M R D I w) (h : c.wp P (Exit.then (fun a w => Fr a n ((t, v) :: L) ∧ Mem w0 S M R D I w) Q) a w)
    (h2 : ∀ a w, Fr a n ((t, v) :: L) → Mem w0 S M R D I w → Q .normal a w) : c.wp P Q a w := mid _ h fun a w q => h2 a w q.1 q.2
/-- A loop, by what stays true of its state. -/
theorem loopC {σ : Type} {id : Nat} {c : Code} (Inv : σ → Act → World → Prop) (G : Nat → σ → Prop) (E : σ → Prop) (s0 : σ) (k0 : Nat) (hL : G k0 s0) (hI : Inv s0 a w) (h0 : ∀ s, ¬ G 0 s)
    (round : ∀ k s a w, G (k + 1) s → Inv s a w → c.wp P (Exit.then (fun a' w' => ∃ s', G k s' ∧ Inv s' a' w') (Exit.inBlock id (Exit.then (fun a w => ∃ s, E s ∧ Inv s a w) Q))) a w)
    (after : ∀ a w, (∃ s, E s ∧ Inv s a w) → Q .normal a w) : (Code.block id (.loop c)).wp P Q a w :=
  mid _ (wp_block (loop_rule G Inv h0 round k0 s0 a w hL hI)) after
end
section
variable {P : Program} {S0 : World → Prop} {B : List Nat} {l : List Oper} {bs bs' : List Bool} {a : Act} {w : World} {n fuel d i : Nat} {L : List (Nat × Value)} {Mid : Act → World → Prop} {o : Oper} {v : Value}
variable {w0 : Base} {S : Nat → Prop} {M : List Blk} {R : List Row} {D : List DI} {I : List (Bool × MP)}
theorem strT (H : Mem w0 S M R D I w) (hs : ∀ w, Mem w0 S M R D I w → S0 w) (h : Mem w0 S M R D I w → DL P l Mid (fun w => Mem w0 S M R D I w) B fuel bs a w) : DL P l Mid S0 B fuel bs a w := str _ hs (h H)
theorem tP (i : Nat) (hi : l[i]? = some o) (hd : o.dst = some d) (hg : o.guard = none) (hdn : Nat.ble (d + 1) n = true) (hf : Fr a n L) (hc : takeB l bs i [] B = true) (hS : nb B bs.toArray = true → S0 w) (hy : ∀ w, (execOp a.eval o).run P w = .ok (.value v) w)
    (h : ∀ a', Fr a' n ((d, v) :: L) → DL P l Mid S0 B fuel (bs.set i true) a' w) : DL P l Mid S0 B (fuel + 1) bs a w := tkP hi hd hg (nle hdn) hf hc hS hy rfl h
theorem tPg (i : Nat) {j e : Nat} {b : Bool} (hi : l[i]? = some o) (hd : o.dst = some d) (hg : o.guard = some (j, b)) (hj : (l[j]?).bind (·.dst) = some e) (hv : lk L e = some (.bool b)) (hdn : Nat.ble (d + 1) n = true) (hf : Fr a n L) (hc : takeB l bs i [] B = true) (hS : nb B bs.toArray = true → S0 w) (hy : ∀ w, (execOp a.eval o).run P w = .ok (.value v) w)
    (h : ∀ a', Fr a' n ((d, v) :: L) → DL P l Mid S0 B fuel (bs.set i true) a' w) : DL P l Mid S0 B (fuel + 1) bs a w := tkPg hi hd hg hj hv (nle hdn) hf hc hS hy rfl h
theorem tS (i : Nat) (X : List Nat) (hi : l[i]? = some o) (hd : o.dst = some d) (hg : o.guard = none) (hdn : Nat.ble (d + 1) n = true) (hf : Fr a n L) (hc : takeB l bs i X B = true) (hBX : (B.all (X.contains ·)) = true) (hS : S0 w) (hy : ∀ w, S0 w → (execOp a.eval o).run P w = .ok (.value v) w)
    (h : ∀ a', Fr a' n ((d, v) :: L) → DL P l Mid S0 B fuel (bs.set i true) a' w) : DL P l Mid S0 B (fuel + 1) bs a w := tkS X hi hd hg (nle hdn) hf hc hBX hS hy rfl h
theorem tSg (i : Nat) (X : List Nat) {j e : Nat} {b : Bool} (hi : l[i]? = some o) (hd : o.dst = some d) (hg : o.guard = some (j, b)) (hj : (l[j]?).bind (·.dst) = some e) (hv : lk L e = some (.bool b)) (hdn : Nat.ble (d + 1) n = true) (hf : Fr a n L) (hc : takeB l bs i X B = true) (hBX : (B.all (X.contains ·)) = true) (hS : S0 w) (hy : ∀ w, S0 w → (execOp a.eval o).run P w = .ok (.value v) w)
    (h : ∀ a', Fr a' n ((d, v) :: L) → DL P l Mid S0 B fuel (bs.set i true) a' w) : DL P l Mid S0 B (fuel + 1) bs a w := tkSg X hi hd hg hj hv (nle hdn) hf hc hBX hS hy rfl h
theorem tUU (i : Nat) {j e : Nat} {b : Bool} (hi : l[i]? = some o) (hd : o.dst = some d) (hg : o.guard = some (j, b)) (hj : (l[j]?).bind (·.dst) = some e) (hv : lk L e = some undef) (hdn : Nat.ble (d + 1) n = true) (hf : Fr a n L) (hc : takeB l bs i [] B = true) (hS : nb B bs.toArray = true → S0 w)
    (h : ∀ a', Fr a' n ((d, undef) :: L) → DL P l Mid S0 B fuel (bs.set i true) a' w) : DL P l Mid S0 B (fuel + 1) bs a w := tkUU hi hd hg hj hv (nle hdn) hf hc hS rfl h
theorem tU (i : Nat) {j e : Nat} {b c : Bool} (hi : l[i]? = some o) (hd : o.dst = some d) (hg : o.guard = some (j, b)) (hj : (l[j]?).bind (·.dst) = some e) (hv : lk L e = some (.bool c)) (hne : (c == b) = false) (hdn : Nat.ble (d + 1) n = true) (hf : Fr a n L) (hc : takeB l bs i [] B = true) (hS : nb B bs.toArray = true → S0 w)
    (h : ∀ a', Fr a' n ((d, undef) :: L) → DL P l Mid S0 B fuel (bs.set i true) a' w) : DL P l Mid S0 B (fuel + 1) bs a w := tkU hi hd hg hj hv hne (nle hdn) hf hc hS rfl h
theorem n1 (i : Nat) (hr : Region.ready .any l.toArray bs.toArray = [i]) (hi : l[i]? = some o) (hg : o.guard = none)
    (h : o.wp P a w (fun a' w' => (nb B (bs.set i true).toArray = true → S0 w') ∧ DL P l Mid S0 B fuel (bs.set i true) a' w') (only Mid)) : DL P l Mid S0 B (fuel + 1) bs a w := on1 hr hi hg rfl h
theorem n1g (i : Nat) {j e : Nat} {b : Bool} (hr : Region.ready .any l.toArray bs.toArray = [i]) (hi : l[i]? = some o) (hg : o.guard = some (j, b)) (hj : (l[j]?).bind (·.dst) = some e) (hv : lk L e = some (.bool b)) (hf : Fr a n L)
    (h : o.wp P a w (fun a' w' => (nb B (bs.set i true).toArray = true → S0 w') ∧ DL P l Mid S0 B fuel (bs.set i true) a' w') (only Mid)) : DL P l Mid S0 B (fuel + 1) bs a w := on1g hr hi hg hj hv hf rfl h
end
end AT
namespace AT
open Go Go.RowKit
theorem ret_0r {P : Program} {w : World} {a : Act} {n : Nat} {L : List (Nat × Value)} {fn : Func} {Rr : Ending → World → Prop} (hf : Fr a n L) (hres : fn.results = #[]) (hR : Rr (.returned (.tuple #[])) w) : bodyPost P fn Rr .ret a w :=
  ⟨hf.defs, _, run_results (rs := []) hres .nil, by simpa using hR⟩
end AT
namespace AT
open Go Go.RowKit
theorem Mem.ownLen {w : World} {w0 : Base} {S : Nat → Prop} {M : List Blk} {R : List Row} {D : List DI} {I : List (Bool × MP)} (H : Mem w0 S M R D I w) {α : Type} [GoTy α] {F : List Nat} {A : Option Addr} {len cap : Nat} {xs : List α} (h : D[0]? = some ⟨F, MP.own F [.slice A len cap] xs⟩) : xs.length = len := by
  obtain ⟨⟨A', cap', E, cells, Fs, hcs, _⟩, -⟩ := H.diAt (List.mem_of_getElem? h)
  simp only [List.cons.injEq, Value.slice.injEq, and_true] at hcs
  exact hcs.2.1.symm
end AT
namespace AT
open Go Go.RowKit
def MP.and (p q : MP) : MP := ⟨fun w S => p.pred w S ∧ q.pred w S, fun h hm => ⟨p.mono h.1 hm, q.mono h.2 hm⟩⟩
theorem Mem.lendQ {w : World} {w0 : Base} {S : Nat → Prop} {M : List Blk} {R : List Row} {D : List DI} {I : List (Bool × MP)} (H : Mem w0 S M R D I w) (j : Nat) {F : List Nat} {p q : MP} (hj : D[j]? = some ⟨F, p⟩) (hq : ∀ w S, p.pred w S → q.pred w S) : Mem w0 S M R D ((true, q) :: I) w :=
  H.push _ (hq _ _ (p.mono (H.diAt (List.mem_of_getElem? hj)) fun b hb _ => ⟨MemZ.fd_st H (di_mem (List.mem_of_getElem? hj)) hb _, rfl⟩))
end AT
