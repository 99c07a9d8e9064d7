/- An evaluator for the operations that touch no memory: a run of them is one step of a walk. -/
import Derived.Test.YtiedecncmihbeaaGreatAtS
set_option linter.unusedSimpArgs false
set_option linter.unusedVariables false
namespace AT
open Go Go.RowKit

structure Tab where
  sl : List TypeId
  bo : List TypeId
  st : List TypeId
  fa : List (TypeId × Nat × Nat)

def inl : List Nat → Nat → Bool
  | [], _ => false
  | x :: r, y => bif Nat.beq x y then true else inl r y
def foff : List (TypeId × Nat × Nat) → TypeId → Nat → Option Nat
  | [], _, _ => none
  | (t, f, o) :: r, t', f' => bif (Nat.beq t t' && Nat.beq f f') then some o else foff r t' f'

structure TabOk (P : Program) (t : Tab) : Prop where
  sl : ∀ T, inl t.sl T = true → ∃ E, P.underlying T = some (.slice E)
  bo : ∀ T, inl t.bo T = true → P.underlying T = some .bool
  st : ∀ T, inl t.st T = true → P.underlying T = some .string
  fa : ∀ T f o, foff t.fa T f = some o → FA P T f o

def p2 (tb : Tab) (op : BinOp) (T : TypeId) (v u : Value) : Option Value :=
  match v, u with
  | .int .i64 i, .int .i64 j =>
    match op with
    | .add => some (.int .i64 (w64 (i + j)))
    | .sub => some (.int .i64 (w64 (i - j)))
    | .mul => some (.int .i64 (w64 (i * j)))
    | .eql => some (.bool (i == j))
    | .neq => some (.bool (i != j))
    | .lss => some (.bool (decide (i < j)))
    | .leq => some (.bool (decide (i ≤ j)))
    | .gtr => some (.bool (decide (i > j)))
    | .geq => some (.bool (decide (i ≥ j)))
    | .and => some (.int .i64 (band i j))
    | .or => some (.int .i64 (bor i j))
    | .xor => some (.int .i64 (bxor i j))
    | .andNot => some (.int .i64 (bandn i j))
    | _ => none
  | .int .u8 i, .int .u8 j =>
    match op with
    | .eql => some (.bool (i == j))
    | .neq => some (.bool (i != j))
    | .lss => some (.bool (decide (i < j)))
    | .leq => some (.bool (decide (i ≤ j)))
    | .gtr => some (.bool (decide (i > j)))
    | .geq => some (.bool (decide (i ≥ j)))
    | _ => none
  | .bool b, .bool c =>
    match op with
    | .eql => bif inl tb.bo T then some (.bool (b == c)) else none
    | .neq => bif inl tb.bo T then some (.bool (b != c)) else none
    | _ => none
  | .string b, .string c =>
    match op with
    | .eql => some (.bool (b.toList == c.toList))
    | .neq => some (.bool (!(b.toList == c.toList)))
    | _ => none
  | _, _ => none

def p1 (op : UnOp) (v : Value) : Option Value :=
  match op, v with
  | .not, .bool b => some (.bool (!b))
  | .neg, .int .i64 i => some (.int .i64 (w64 (0 - i)))
  | _, _ => none

def pb (tb : Tab) (b : Builtin) (vs : List Value) (ts : List TypeId) : Option Value :=
  match b, vs, ts with
  | .len, [.slice _ m _], [T] => bif inl tb.sl T then some (.int .i64 m) else none
  | .len, [.string s], [T] => bif inl tb.st T then some (.int .i64 s.size) else none
  | .min, [.int .i64 i, .int .i64 j], [_, _] => some (.int .i64 (gmin i j))
  | .max, [.int .i64 i, .int .i64 j], [_, _] => some (.int .i64 (gmax i j))
  | _, _, _ => none

def pOp (tb : Tab) (L : List (Nat × Value)) : Op → Option Value
  | .move x => ev L x
  | .assign x => ev L x
  | .pick c x y =>
    match ev L c with
    | some (.bool true) => ev L x
    | some (.bool false) => ev L y
    | _ => none
  | .unOp op _ x =>
    match ev L x with
    | some v => p1 op v
    | none => none
  | .binOp op T x y _ =>
    match ev L x, ev L y with
    | some v, some u => p2 tb op T v u
    | _, _ => none
  | .extract x i =>
    match ev L x with
    | some (.tuple ⟨vs⟩) => vs[i]?
    | _ => none
  | .nilCheck x =>
    match ev L x with
    | some (.pointer (some p)) => some (.pointer (some p))
    | _ => none
  | .call ⟨.builtin b, ⟨xs⟩, ⟨ts⟩⟩ =>
    match evs L xs with
    | some vs => pb tb b vs ts
    | none => none
  | .fieldAddr T x f =>
    match ev L x with
    | some (.pointer (some ⟨b, j, none⟩)) =>
      match foff tb.fa T f with
      | some o => some (.pointer (some ⟨b, j + o, none⟩))
      | none => none
    | _ => none
  | _ => none

def pRun (tb : Tab) (ops : List Oper) : Nat → List (Nat × Value) → List Oper → List (Nat × Value) × List Oper
  | 0, L, l => (L, l)
  | _ + 1, L, [] => (L, [])
  | k + 1, L, ⟨some d, op, ty, pos, af, none⟩ :: l =>
    match pOp tb L op with
    | some v => pRun tb ops k ((d, v) :: L) l
    | none => (L, ⟨some d, op, ty, pos, af, none⟩ :: l)
  | k + 1, L, ⟨some d, op, ty, pos, af, some (j, want)⟩ :: l =>
    match (ops[j]?).bind (·.dst) with
    | none => (L, ⟨some d, op, ty, pos, af, some (j, want)⟩ :: l)
    | some e =>
      match lk L e, want with
      | some (.bool true), true | some (.bool false), false =>
        match pOp tb L op with
        | some v => pRun tb ops k ((d, v) :: L) l
        | none => (L, ⟨some d, op, ty, pos, af, some (j, want)⟩ :: l)
      | some (.bool true), false | some (.bool false), true => pRun tb ops k ((d, undef) :: L) l
      | _, _ => (L, ⟨some d, op, ty, pos, af, some (j, want)⟩ :: l)
  | _ + 1, L, l => (L, l)

section
variable {P : Program} {Q : Exit → Act → World → Prop} {a : Act} {w : World} {n : Nat} {L : List (Nat × Value)} {tb : Tab} {dst : Option Tmp} {ty : TypeId} {pos : String} {af : Array Edge} {g : Option (Nat × Bool)}

theorem run_binOp_of {op : BinOp} {T U : TypeId} {x y : Operand} {v u r : Value} (htb : TabOk P tb) (hf : Fr a n L) (hx : ev L x = some v) (hy : ev L y = some u) (h : p2 tb op T v u = some r) :
    (execOp a.eval ⟨dst, .binOp op T x y U, ty, pos, af, g⟩).run P w = .ok (.value r) w := by
  unfold p2 at h
  split at h
  · split at h <;> first | cases h | (injection h with h; subst h)
    · exact rq_add hf hx hy
    · exact rq_sub hf hx hy
    · exact rq_mul hf hx hy
    · exact rq_eql hf hx hy
    · exact rq_neq hf hx hy
    · exact rq_lss hf hx hy
    · exact rq_leq hf hx hy
    · exact rq_gtr hf hx hy
    · exact rq_geq hf hx hy
    · exact rq_and hf hx hy
    · exact rq_or hf hx hy
    · exact rq_xor hf hx hy
    · exact rq_andNot hf hx hy
  · split at h <;> first | cases h | (injection h with h; subst h)
    · exact rq_eql hf hx hy
    · exact rq_neq hf hx hy
    · exact rq_lss hf hx hy
    · exact rq_leq hf hx hy
    · exact rq_gtr hf hx hy
    · exact rq_geq hf hx hy
  · split at h
    · cases hb : inl tb.bo T <;> rw [hb] at h <;> first | cases h | (injection h with h; subst h)
      exact rq_beql hf (htb.bo T hb) hx hy
    · cases hb : inl tb.bo T <;> rw [hb] at h <;> first | cases h | (injection h with h; subst h)
      exact rq_bneq hf (htb.bo T hb) hx hy
    · cases h
  · split at h <;> first | cases h | (injection h with h; subst h)
    · exact rq_seql hf hx hy
    · exact rq_sneq hf hx hy
  · cases h

theorem pOp_ok {op : Op} {v : Value} (htb : TabOk P tb) (hf : Fr a n L) (h : pOp tb L op = some v) : (execOp a.eval ⟨dst, op, ty, pos, af, g⟩).run P w = .ok (.value v) w := by
  unfold pOp at h
  split at h
  · exact rq_move hf h
  · exact rq_assign hf h
  · split at h
    · rename_i hc; exact rq_pick_t hf hc h
    · rename_i hc; exact rq_pick_f hf hc h
    · cases h
  · split at h
    · rename_i u hx
      unfold p1 at h
      split at h <;> first | cases h | (injection h with h; subst h)
      · exact rq_not hf hx
      · exact rq_neg hf hx
    · cases h
  · split at h
    · rename_i v u hx hy
      exact run_binOp_of htb hf hx hy h
    · cases h
  · split at h
    · rename_i vs hx; exact rq_extract hf hx h
    · cases h
  · split at h
    · rename_i p hx
      injection h with h; subst h
      exact rq_nilck hf hx
    · cases h
  · split at h
    · rename_i xs ts _ vs hxs
      have hmap := hf.evals hxs
      unfold pb at h
      split at h
      · rename_i A m c T
        cases hb : inl tb.sl T <;> rw [hb] at h <;> first | cases h | (injection h with h; subst h)
        obtain ⟨E, hE⟩ := htb.sl T hb
        match xs, hmap, hxs with
        | [x], hmap, hxs =>
          have hx : ev L x = some (.slice A m c) := by
            simp only [evs, Option.bind_eq_some_iff, Option.map_eq_some_iff] at hxs
            obtain ⟨v, hv, us, hus, he⟩ := hxs
            simp only [List.cons.injEq] at he
            rw [hv, he.1]
          exact rq_len hf hE hx
        | [], hmap, _ => cases hmap
        | _ :: _ :: _, hmap, _ => simp at hmap
      · rename_i s T
        cases hb : inl tb.st T <;> rw [hb] at h <;> first | cases h | (injection h with h; subst h)
        match xs, hmap, hxs with
        | [x], hmap, hxs =>
          have hx : ev L x = some (.string s) := by
            simp only [evs, Option.bind_eq_some_iff, Option.map_eq_some_iff] at hxs
            obtain ⟨v, hv, us, hus, he⟩ := hxs
            simp only [List.cons.injEq] at he
            rw [hv, he.1]
          exact rq_slen hf (htb.st T hb) hx
        | [], hmap, _ => cases hmap
        | _ :: _ :: _, hmap, _ => simp at hmap
      · rename_i i j T U
        injection h with h; subst h
        match xs, hmap, hxs with
        | [x, y], hmap, hxs =>
          simp only [evs, Option.bind_eq_some_iff, Option.map_eq_some_iff] at hxs
          obtain ⟨v, hv, us, ⟨u, hu, us', hus', rfl⟩, he⟩ := hxs
          simp only [List.cons.injEq] at he
          exact rq_min hf (by rw [hv, he.1]) (by rw [hu, he.2.1])
        | [], hmap, _ => cases hmap
        | [_], hmap, _ => simp at hmap
        | _ :: _ :: _ :: _, hmap, _ => simp at hmap
      · rename_i i j T U
        injection h with h; subst h
        match xs, hmap, hxs with
        | [x, y], hmap, hxs =>
          simp only [evs, Option.bind_eq_some_iff, Option.map_eq_some_iff] at hxs
          obtain ⟨v, hv, us, ⟨u, hu, us', hus', rfl⟩, he⟩ := hxs
          simp only [List.cons.injEq] at he
          exact rq_max hf (by rw [hv, he.1]) (by rw [hu, he.2.1])
        | [], hmap, _ => cases hmap
        | [_], hmap, _ => simp at hmap
        | _ :: _ :: _ :: _, hmap, _ => simp at hmap
      · cases h
    · cases h
  · split at h
    · rename_i b j hx
      split at h
      · rename_i o ho
        injection h with h; subst h
        exact rq_faddrB hf (htb.fa _ _ _ ho) hx
      · cases h
    · cases h
  · cases h

def dstOk (n : Nat) : List Oper → Bool
  | [] => true
  | o :: l => (match o.dst with | some d => Nat.blt d n | none => true) && dstOk n l

theorem pRun_ok {ops : List Oper} (htb : TabOk P tb) : ∀ (k : Nat) (L : List (Nat × Value)) (l : List Oper) {L' : List (Nat × Value)} {l' : List Oper} {a : Act}, Fr a n L → dstOk n l = true → pRun tb ops k L l = (L', l') →
    (∀ a', Fr a' n L' → wpList P ops.toArray Q l' a' w) → wpList P ops.toArray Q l a w := by
  intro k
  induction k with
  | zero =>
    intro L l L' l' a hf _ h hk
    simp only [pRun, Prod.mk.injEq] at h
    obtain ⟨rfl, rfl⟩ := h
    exact hk a hf
  | succ k ih =>
    intro L l L' l' a hf hd h hk
    unfold pRun at h
    split at h
    · rename_i h1; cases h1
    · simp only [Prod.mk.injEq] at h
      obtain ⟨rfl, rfl⟩ := h
      exact hk a hf
    · rename_i kk L0 d op ty pos af l0 h1
      injection h1 with h1; subst h1
      simp only [dstOk, Bool.and_eq_true, Nat.blt_eq] at hd
      split at h
      · rename_i v hv
        refine wl0 rfl (op_q hf (pOp_ok htb hf hv) rfl hd.1 fun a' hf' => ?_)
        exact ih _ _ hf' hd.2 h hk
      · simp only [Prod.mk.injEq] at h
        obtain ⟨rfl, rfl⟩ := h
        exact hk a hf
    · rename_i kk L0 d op ty pos af j want l0 h1
      injection h1 with h1; subst h1
      simp only [dstOk, Bool.and_eq_true, Nat.blt_eq] at hd
      split at h
      · simp only [Prod.mk.injEq] at h
        obtain ⟨rfl, rfl⟩ := h
        exact hk a hf
      · rename_i e hj
        have hj' : (ops.toArray[j]?).bind (·.dst) = some e := by simpa using hj
        split at h
        · rename_i hb
          split at h
          · rename_i v hv
            refine wlg hf rfl hj' hb (op_q hf (pOp_ok htb hf hv) rfl hd.1 fun a' hf' => ?_)
            exact ih _ _ hf' hd.2 h hk
          · simp only [Prod.mk.injEq] at h
            obtain ⟨rfl, rfl⟩ := h
            exact hk a hf
        · rename_i hb
          split at h
          · rename_i v hv
            refine wlg hf rfl hj' hb (op_q hf (pOp_ok htb hf hv) rfl hd.1 fun a' hf' => ?_)
            exact ih _ _ hf' hd.2 h hk
          · simp only [Prod.mk.injEq] at h
            obtain ⟨rfl, rfl⟩ := h
            exact hk a hf
        · rename_i hb
          exact wls hf rfl hj' hb rfl rfl hd.1 fun a' hf' => ih _ _ hf' hd.2 h hk
        · rename_i hb
          exact wls hf rfl hj' hb rfl rfl hd.1 fun a' hf' => ih _ _ hf' hd.2 h hk
        · simp only [Prod.mk.injEq] at h
          obtain ⟨rfl, rfl⟩ := h
          exact hk a hf
    · simp only [Prod.mk.injEq] at h
      obtain ⟨rfl, rfl⟩ := h
      exact hk a hf

/-! ### What is said of values at a call's door -/
def VR {α : Type} [GoTy α] (w : World) (S : Nat → Prop) (v : Value) (x : α) : Prop := ∃ cs, GoTy.rep w S cs x ∧ v = (bif GoTy.agg α then .agg cs.toArray else cs.headD undef)
theorem VR_int {w : World} {S : Nat → Prop} {v : Value} {x : Int} (h : VR w S v x) : v = .int .i64 x := by obtain ⟨cs, rfl, rfl⟩ := h; rfl
theorem VR_bool {w : World} {S : Nat → Prop} {v : Value} {x : Bool} (h : VR w S v x) : v = .bool x := by obtain ⟨cs, rfl, rfl⟩ := h; rfl
theorem VR_str {w : World} {S : Nat → Prop} {v : Value} {x : ByteArray} (h : VR w S v x) : v = .string x := by obtain ⟨cs, rfl, rfl⟩ := h; rfl
theorem VR_list {α : Type} [GoTy α] {w : World} {S : Nat → Prop} {v : Value} {x : List α} (h : VR w S v x) : ∃ A c, v = .slice A x.length c ∧ lrep w S [.slice A x.length c] x := by
  obtain ⟨cs, h, rfl⟩ := h
  obtain ⟨A, c, rfl, h'⟩ := id h
  exact ⟨A, c, rfl, h⟩
theorem list_cells {α : Type} [GoTy α] {w : World} {S : Nat → Prop} {cs : List Value} {x : List α} (h : GoTy.rep w S cs x) : ∃ A c, cs = [.slice A x.length c] ∧ lrep w S [.slice A x.length c] x := by
  obtain ⟨A, c, rfl, h'⟩ := id h
  exact ⟨A, c, rfl, h⟩
theorem mk_int {w : World} {S : Nat → Prop} {x : Int} : VR w S (.int .i64 x) x := ⟨_, rfl, rfl⟩
theorem mk_bool {w : World} {S : Nat → Prop} {x : Bool} : VR w S (.bool x) x := ⟨_, rfl, rfl⟩
theorem mk_str {w : World} {S : Nat → Prop} {x : ByteArray} : VR w S (.string x) x := ⟨_, rfl, rfl⟩
theorem mk_list {α : Type} [GoTy α] {w : World} {S : Nat → Prop} {A : Option Addr} {m c : Nat} {x : List α} (h : lrep w S [.slice A m c] x) : VR w S (.slice A m c) x := ⟨_, h, rfl⟩

theorem then_n {K : Act → World → Prop} (h : K a w) : Exit.then K Q .normal a w := h
theorem then_x {K : Act → World → Prop} {i : Nat} (h : Q (.exit i) a w) : Exit.then K Q (.exit i) a w := h
theorem then_r {K : Act → World → Prop} (h : Q .ret a w) : Exit.then K Q .ret a w := h
theorem blk_r {i : Nat} (h : Q .ret a w) : Exit.inBlock i Q .ret a w := h
theorem blk_n {i : Nat} (h : Q .normal a w) : Exit.inBlock i Q .normal a w := h
theorem blk_e {i : Nat} (h : Q .normal a w) : Exit.inBlock i Q (.exit i) a w := by simpa [Exit.inBlock] using h
theorem op_iaddr {w0 : Base} {S : Nat → Prop} {M : List Blk} {R : List Row} {D : List DI} {I : List (Bool × MP)} {K : Act → World → Prop} {d : Nat} (hf : Fr a n L) (H : Mem w0 S M R D I w) {α : Type} [GoTy α] {T E : TypeId} (hT : P.underlying T = some (.slice E)) (hE : SZ P E (GoTy.n α)) {x y : Operand} {A : Option Addr} {len cap : Nat} {k : IntKind} {i : Int} {xs : List α} {e : α} {f : Bool}
    (j : Nat) (hx : ev L x = some (.slice A len cap)) (hy : ev L y = some (.int k i)) (hi : I[j]? = some (f, MP.val [.slice A len cap] xs)) (he : idx xs i = some e) (hdn : d < n)
    (kk : ∀ b o cs a', Fr a' n ((d, .pointer (some ⟨b, o, none⟩)) :: L) → GoTy.rep w (St w0 S M R D f) cs e → Mem w0 S M R D ((f, MP.cells ⟨b, o, none⟩ cs) :: I) w → K a' w) : Oper.wp P ⟨some d, .indexAddr T x y, ty, pos, af, g⟩ a w K Q := by
  obtain ⟨b, o, cs, hq, hr, H2⟩ := rq_iaddr (dst := some d) (ty := ty) (pos := pos) (af := af) (g := g) hf H hT hE j hx hy hi he
  exact op_q hf hq rfl hdn fun a' hf' => kk b o cs a' hf' hr H2

theorem Mem.resF {w' : World} {S' : Nat → Prop} {w0 : Base} {S : Nat → Prop} {M : List Blk} {R : List Row} {D : List DI} {I : List (Bool × MP)} (H : Mem w0 S M R D I w) {f : MP} (h : f.pred w' (St ⟨w, []⟩ S' [] [] [] true)) : f.pred w' (St w0 S M R D true) :=
  f.mono h fun b hb _ => by
    refine ⟨?_, rfl⟩
    rcases hb with ⟨h, _⟩ | ⟨h1 | h1, _⟩
    · cases h
    · exact H.new h1 _
    · cases h1
theorem Mem.start (w0 : Base) (S : Nat → Prop) : Mem w0 S [] [] [] [] w0.w := ⟨⟨rfl, rfl, rfl, Nat.le_refl _, fun _ _ => rfl⟩, fun b hb => (by cases hb), .nil, fun r hr => (by cases hr), fun f hf => (by cases hf)⟩
theorem Mem.pushArg {w1 : World} {S : Nat → Prop} {M : List Blk} {R : List Row} {D : List DI} {I : List (Bool × MP)} (H : Mem ⟨w1, []⟩ S M R D I w) (f : MP) (h : f.pred w1 S) : Mem ⟨w1, []⟩ S M R D ((false, f) :: I) w :=
  H.push (false, f) (f.mono h fun b hb hlt => by
    have hn : ¬ (Base.nw ⟨w1, []⟩ b) := fun h => by
      rcases h with h | h
      · simp only at h; omega
      · cases h
    exact ⟨.inl ⟨rfl, hn, hb⟩, (MemZ.below H).block b hn⟩)
theorem Mem.bel {w1 : World} {S : Nat → Prop} {M : List Blk} {R : List Row} {D : List DI} {I : List (Bool × MP)} (H : Mem ⟨w1, []⟩ S M R D I w) : Below w1.heap.size w1 w := by
  have hb := MemZ.below H
  refine ⟨hb.os, hb.tape, hb.output, hb.size, fun k hk => hb.block k fun h => ?_⟩
  rcases h with h | h
  · simp only at h; omega
  · cases h
theorem rep_end {w0 : Base} {S : Nat → Prop} {M : List Blk} {R : List Row} {D : List DI} {f : Bool} {α : Type} [GoTy α] {cs : List Value} {x : α} (h : GoTy.rep w (St w0 S M R D f) cs x) : GoTy.rep w (St w0 S [] [] [] f) cs x :=
  GoTy.mono h (StZ_weaken (fun b hb => by cases hb) f)
theorem rep_endw {w0 : Base} {S : Nat → Prop} {M : List Blk} {R : List Row} {D : List DI} {f : Bool} {α : Type} [GoTy α] {cs : List Value} {x : α} (h : GoTy.rep w (St w0 S M R D f) cs x) : GoTy.rep w (St w0 S [] [] [] false) cs x :=
  rep_end (rep_weak h)

theorem Fr.lit (hf : Fr a n L) (t : Nat) {b c : Bool} (h : lk L t = some (.bool b)) (hb : b = c) : Fr a n ((t, .bool c) :: L) := by
  subst hb
  refine ⟨hf.size, hf.defs, fun s v hs => ?_⟩
  rw [lk_cons] at hs
  by_cases he : t = s
  · subst he; rw [if_pos rfl] at hs; injection hs with hs; subst hs; exact hf.get t _ h
  · rw [if_neg he] at hs; exact hf.get s v hs
end
end AT

