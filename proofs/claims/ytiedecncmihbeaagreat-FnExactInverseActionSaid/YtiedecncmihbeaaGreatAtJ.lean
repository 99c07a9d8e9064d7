/- slices.Insert and slices.Delete: the pieces of their walks at elements of several cells. -/
import Derived.Test.YtiedecncmihbeaaGreatAtG
import Derived.Test.YtiedecncmihbeaaGreatAtZ
import Derived.Test.YtiedecncmihbeaaGreatAtP
import Derived.Lib.AppendZerosOnto
import Derived.Lib.Overlaps
set_option linter.unusedSimpArgs false
set_option linter.unusedVariables false

/- Flat structs compared. -/
namespace AT
open Go Go.RowKit
section
variable {P : Program} {a : Act} {w : World} {n : Nat} {L : List (Nat × Value)} {dst : Option Tmp} {ty : TypeId} {pos : String} {af : Array Edge} {g : Option (Nat × Bool)}
def sameF (fs : List Field) (xs ys : List Int) : Bool := fs.all fun f => (xs[f.offset]?).getD 0 == (ys[f.offset]?).getD 0
structure QS (P : Program) (T : TypeId) (fs : List Field) (m : Nat) : Prop where
  u : P.underlying T = some (.struct fs.toArray)
  s : P.stoodInHeld T = false
  f : ∀ f ∈ fs, (f.name == "_") = false ∧ f.offset < m ∧ PT P f.type ∧ ∃ k, P.underlying f.type = some (.int k)
theorem part_int {E : TypeId} {xs : List Int} {j : Nat} (hE : PT P E) (hj : j < xs.length) (w : World) : (part E (xs.map (Value.int .i64)).toArray j).run P w = .ok (.int .i64 ((xs[j]?).getD 0)) w := by
  have hE1 : ∀ w, (isAgg E).run P w = .ok false w := fun w => (hE w).1
  have e : xs[j]? = some xs[j] := List.getElem?_eq_getElem hj
  simp [part, hE1, e, hj]
theorem eqIn_int {E : TypeId} {k : IntKind} {d : Nat} {i j : Int} (hE : P.underlying E = some (.int k)) (w : World) : (Op.equalIn (d + 1) E (.int .i64 i) (.int .i64 j)).run P w = .ok (i == j) w := by
  simp [Op.equalIn, run_underlying hE]
theorem eqS {T : TypeId} {fs : List Field} {m : Nat} (hq : QS P T fs m) (xs ys : List Int) (hx : xs.length = m) (hy : ys.length = m) (w : World) : (Op.equal T (.agg (xs.map (Value.int .i64)).toArray) (.agg (ys.map (Value.int .i64)).toArray)).run P w = .ok (sameF fs xs ys) w := by
  obtain ⟨hu, hs, hf⟩ := hq
  unfold Op.equal Op.maxDepth
  rw [show (10000 : Nat) = 9999 + 1 from rfl, Op.equalIn]
  simp [run_underlying hu, hs]
  clear hu hs
  induction fs with
  | nil => simp [sameF]
  | cons f fs ih =>
    obtain ⟨h1, h2, h3, k, h4⟩ := hf f (by simp)
    have h1' : ¬ f.name = "_" := by simpa using h1
    have ih' := ih fun g hg => hf g (List.mem_cons_of_mem _ hg)
    have hpx := part_int (xs := xs) (j := f.offset) h3 (by omega) w
    have hpy := part_int (xs := ys) (j := f.offset) h3 (by omega) w
    have heq : (Op.equalIn 9999 f.type (.int .i64 ((xs[f.offset]?).getD 0)) (.int .i64 ((ys[f.offset]?).getD 0))).run P w = .ok ((xs[f.offset]?).getD 0 == (ys[f.offset]?).getD 0) w := eqIn_int (d := 9998) h4 w
    have hs : sameF (f :: fs) xs ys = ((xs[f.offset]?).getD 0 == (ys[f.offset]?).getD 0 && sameF fs xs ys) := rfl
    rw [hs]
    clear hs ih
    rw [List.forIn_cons]
    simp only [h1', if_false, Sem.run_bind, hpx, hpy, Result.andThen_ok, heq]
    cases hc : ((xs[f.offset]?).getD 0 == (ys[f.offset]?).getD 0)
    · simp
    · simpa using ih'
theorem rq_eqS (hf : Fr a n L) {T U : TypeId} {fs : List Field} {m : Nat} (hq : QS P T fs m) (hg : P.eqGuardType P.depth T = false) {x y : Operand} {cs ds : List Value} {xs ys : List Int} (hx : ev L x = some (.agg cs.toArray)) (hy : ev L y = some (.agg ds.toArray))
    (hc : cs = xs.map (Value.int .i64)) (hd : ds = ys.map (Value.int .i64)) (h1 : xs.length = m) (h2 : ys.length = m) :
    (execOp a.eval ⟨dst, .binOp .eql T x y U, ty, pos, af, g⟩).run P w = .ok (.value (.bool (sameF fs xs ys))) w := by
  subst hc hd
  have := eqS hq xs ys h1 h2 w
  simp [execOp, hf.eval hx, hf.eval hy, eqGuard, binOp, this, hg]
def flds (P : Program) (T : TypeId) : List Field := match P.underlying T with
  | some (.struct fs) => fs.toList
  | _ => []
structure EQT (P : Program) (T : TypeId) (m : Nat) (E : TypeId) : Prop where
  u : P.underlying T = some (.struct (flds P T).toArray)
  s : P.stoodInHeld T = false
  g : P.eqGuardType P.depth T = false
  o : (flds P T).map (·.offset) = List.range m
  f : ((flds P T).all fun f => !(f.name == "_") && f.type == E) = true
  p : PT P E
  i : ∃ k, P.underlying E = some (.int k)
theorem EQT.qs {T : TypeId} {m : Nat} {E : TypeId} (h : EQT P T m E) : QS P T (flds P T) m := by
  refine ⟨h.u, h.s, fun f hf => ?_⟩
  have h1 := List.all_eq_true.1 h.f f hf
  simp only [Bool.and_eq_true, Bool.not_eq_true', beq_iff_eq] at h1
  have h2 : f.offset ∈ List.range m := by rw [← h.o]; exact List.mem_map_of_mem hf
  exact ⟨h1.1, List.mem_range.1 h2, h1.2 ▸ h.p, h1.2 ▸ h.i⟩
theorem same_all {fs : List Field} {m : Nat} (ho : fs.map (·.offset) = List.range m) (xs ys : List Int) (h1 : xs.length = m) (h2 : ys.length = m) : sameF fs xs ys = (xs == ys) := by
  have e : sameF fs xs ys = (List.range m).all fun j => (xs[j]?).getD 0 == (ys[j]?).getD 0 := by
    rw [← ho, List.all_map]; rfl
  rw [e, Bool.eq_iff_iff, beq_iff_eq, List.all_eq_true]
  constructor
  · intro h
    apply List.ext_getElem (by omega)
    intro j a b
    have := h j (List.mem_range.2 (by omega))
    rw [List.getElem?_eq_getElem a, List.getElem?_eq_getElem b, beq_iff_eq] at this
    exact this
  · rintro rfl j _
    simp
theorem rq_eqT (hf : Fr a n L) {T U : TypeId} {m : Nat} {E : TypeId} (hq : EQT P T m E) (xs ys : List Int) {x y : Operand} {cs ds : List Value} (hx : ev L x = some (.agg cs.toArray)) (hy : ev L y = some (.agg ds.toArray))
    (hc : cs = xs.map (Value.int .i64)) (hd : ds = ys.map (Value.int .i64)) (h1 : xs.length = m) (h2 : ys.length = m) :
    (execOp a.eval ⟨dst, .binOp .eql T x y U, ty, pos, af, g⟩).run P w = .ok (.value (.bool (xs == ys))) w := by
  rw [← same_all hq.o xs ys h1 h2]; exact rq_eqS hf hq.qs hq.g hx hy hc hd h1 h2
end
end AT

/- Elements put into a row and taken out of it, by the library (Insert, Delete): what a call does to rows that own their elements, once it is known what it does to cells. -/
namespace AT
open Go Go.RowKit
def DelSpec (P : Program) (f : FuncId) (s : Nat) : Prop := ∀ (w : World) (A : Option Addr) (n cap : Nat) (E : TypeId) (cells : List Value) (i j : Nat), w.ownsRow 0 E s (.slice A n cap) n cells → (∀ u ∈ cells, u.oneCell' = true) → i ≤ j → j ≤ n →
  Calls P f #[.slice A n cap, .int .i64 i, .int .i64 j] w fun e w' => ∃ v, e = .returned v ∧ v = .slice A (n - (j - i)) cap ∧ w.grownBy w' (Value.slice A n cap).ownBlock ∧ w'.ownsRow 0 E s (.slice A (n - (j - i)) cap) (n - (j - i)) (cells.take (i * s) ++ cells.drop (j * s))
def InsSpec (P : Program) (f : FuncId) (s : Nat) : Prop := ∀ (w : World) (A A2 : Option Addr) (n cap m cap2 : Nat) (E E2 : TypeId) (cells vs : List Value) (i : Nat), w.ownsRow 0 E s (.slice A n cap) n cells → w.ownsRow 0 E2 s (.slice A2 m cap2) m vs → (∀ u ∈ cells, u.oneCell' = true) → (∀ u ∈ vs, u.oneCell' = true) →
  (∀ b, (Value.slice A n cap).ownBlock = some b → (Value.slice A2 m cap2).ownBlock ≠ some b) → i ≤ n → n + m ≤ 1099511627776 →
  Calls P f #[.slice A n cap, .int .i64 i, .slice A2 m cap2] w fun e w' => ∃ v, e = .returned v ∧ ∃ E1 A1 cap1, v = .slice A1 (n + m) cap1 ∧ w.grownBy w' (Value.slice A n cap).ownBlock ∧
    ((Value.slice A1 (n + m) cap1).ownBlock = (Value.slice A n cap).ownBlock ∨ ((Value.slice A1 (n + m) cap1).ownBlock = some w.heap.size ∧ w.heap.size < w'.heap.size)) ∧ w'.ownsRow 0 E1 s (.slice A1 (n + m) cap1) (n + m) (cells.take (i * s) ++ (vs ++ cells.drop (i * s)))
section
variable {P : Program} {Q : Exit → Act → World → Prop} {a : Act} {w : World} {w0 : Base} {n : Nat} {L : List (Nat × Value)} {K : Act → World → Prop} {S : Nat → Prop} {M : List Blk} {D : List DI} {I : List (Bool × MP)} {d : Tmp} {ty : TypeId} {pos : String} {af : Array Edge} {g : Option (Nat × Bool)}
theorem part_drop {α : Type} [GoTy α] (cells : List Value) (j q : Nat) : part' α (cells.drop (j * GoTy.n α)) q = part' α cells (q + j) := by
  unfold part'
  rw [List.drop_drop, Nat.add_mul, Nat.add_comm]
theorem part_take {α : Type} [GoTy α] (cells : List Value) {i q : Nat} (h : q < i) : part' α (cells.take (i * GoTy.n α)) q = part' α cells q := by
  unfold part'
  have h1 : (q + 1) * GoTy.n α ≤ i * GoTy.n α := Nat.mul_le_mul_right _ h
  rw [Nat.add_mul, Nat.one_mul] at h1
  rw [List.drop_take, List.take_take]
  congr 1
  omega
theorem take_len {α : Type} [GoTy α] {cells : List Value} {m i : Nat} (hl : cells.length = m * GoTy.n α) (h : i ≤ m) : (cells.take (i * GoTy.n α)).length = i * GoTy.n α := by
  have := Nat.mul_le_mul_right (GoTy.n α) h
  rw [List.length_take]
  omega
theorem row_one {α : Type} [GoTy α] {E : TypeId} {A : Option Addr} {cap : Nat} {xs : List α} {cells : List Value} (h : lrep w (fun _ => True) [.slice A xs.length cap] xs) (ho : w.ownsRow 0 E (GoTy.n α) (.slice A xs.length cap) xs.length cells) : ∀ u ∈ cells, u.oneCell' = true := by
  obtain ⟨A', c', hcs, hyc, hcm, hel⟩ := h
  simp only [List.cons.injEq, Value.slice.injEq, and_true] at hcs
  obtain ⟨rfl, -, rfl⟩ := hcs
  rcases ho.2 with ⟨hv, h0⟩ | ⟨gb, cap', cur, hv, hrest⟩
  · have : cells = [] := List.eq_nil_of_length_eq_zero (by rw [ho.1, h0, Nat.zero_mul])
    subst this
    intro u hu; cases hu
  · simp only [Value.slice.injEq] at hv
    obtain ⟨rfl, -, rfl⟩ := hv
    obtain ⟨news, g1, g2, g3, _⟩ := gather (w := w) (T := fun _ => True) (p := ⟨gb, 0, none⟩) xs 0 (fun k x hx => by
      obtain ⟨p', hp', _, h⟩ := hel k x hx
      injection hp' with hp'; subst hp'
      rwa [Nat.zero_add])
    simp only [Nat.zero_mul, Nat.zero_add] at g2
    intro u hu
    obtain ⟨j, hj, rfl⟩ := List.mem_iff_getElem.1 hu
    have hc := ho.cells (g := gb) rfl j _ (List.getElem?_eq_getElem hj)
    have hjn : j < news.length := by rw [g1, ← ho.1]; exact hj
    have hn := g2 j _ (List.getElem?_eq_getElem hjn)
    rw [hc] at hn
    injection hn with hn
    rw [hn]
    exact g3 _ (List.getElem_mem hjn)
theorem op_delR {R : List Row} (hf : Fr a n L) {α : Type} [GoTy α] {f : FuncId} {E0 : TypeId} {Fs : List (List Nat)} {A : Option Addr} {cap : Nat} {xs zs : List α} {i j : Int}
    (H : Mem w0 S M (⟨.ow Fs, E0, A, cap, xs⟩ :: R) D I w) (hk : CL P f) (hs : DelSpec P f (GoTy.n α)) {x y z : Operand} (hxs : evs L [x, y, z] = some [.slice A xs.length cap, .int .i64 i, .int .i64 j]) {ats : Array TypeId} (hd : dell xs i j = some zs) (hdn : d < n)
    (k : ∀ Fs' a' w', Fr a' n ((d, .slice A zs.length cap) :: L) → Mem w0 S M (⟨.ow Fs', E0, A, cap, zs⟩ :: R) D I w' → K a' w') : Oper.wp P ⟨some d, .call ⟨.value (.func f), [x, y, z].toArray, ats⟩, ty, pos, af, g⟩ a w K Q := by
  obtain ⟨cells, ho, hfit, he⟩ := H.rowAt (r := ⟨.ow Fs, E0, A, cap, xs⟩) (by simp)
  unfold dell at hd
  split at hd
  case isFalse => cases hd
  rename_i hij
  injection hd with hd
  obtain ⟨i, rfl⟩ := Int.eq_ofNat_of_zero_le hij.1
  obtain ⟨j, rfl⟩ := Int.eq_ofNat_of_zero_le (show 0 ≤ j by omega)
  simp only [Int.ofNat_eq_natCast, Int.toNat_natCast] at hd hij hxs
  have hzl : zs.length = xs.length - (j - i) := by rw [← hd]; simp; omega
  have hcl : cells.length = xs.length * GoTy.n α := ho.1
  have hfl : Fs.length = xs.length := hfit
  refine op_call hf hk hxs hdn (hs w A xs.length cap E0 cells i j ho (row_one (H.rowTrue 0 rfl) ho) (by omega) (by omega)) fun v w' a' hp hf' => ?_
  obtain ⟨rfl, h2, h3⟩ := hp
  rw [← hzl] at h3 hf'
  refine k (Fs.take i ++ Fs.drop j) a' w' hf' ?_
  have H1 := MemZ.perm H (zsR_cons _)
  have hnd := MemZ.nd H1
  rw [allZ_app, allZ_one] at hnd
  have hnd' := (List.nodup_append.1 hnd).1
  have e0 : (Row.res ⟨.ow Fs, E0, A, cap, xs⟩).all = (Value.slice A xs.length cap).ownBlock.toList ++ List.flatten Fs := rfl
  have eb : (Value.slice A zs.length cap).ownBlock = (Value.slice A xs.length cap).ownBlock := by cases A <;> rfl
  have e2 : (Row.res ⟨.ow (Fs.take i ++ Fs.drop j), E0, A, cap, zs⟩).all = (Value.slice A xs.length cap).ownBlock.toList ++ List.flatten (Fs.take i ++ Fs.drop j) := by rw [← eb]; rfl
  have hsl : (Fs.take i ++ Fs.drop j).Sublist Fs := by
    have h1 : (Fs.drop j).Sublist (Fs.drop i) := List.drop_sublist_drop_left _ (by omega)
    have := (List.Sublist.refl (Fs.take i)).append h1
    rwa [List.take_append_drop] at this
  have hfs : (List.flatten (Fs.take i ++ Fs.drop j)).Sublist (List.flatten Fs) := sub_flat hsl
  refine MemZ.perm (MemZ.step (rs' := [Row.res ⟨.ow (Fs.take i ++ Fs.drop j), E0, A, cap, zs⟩]) H1 ⟨h2.os, h2.tape, h2.output, h2.size, fun b hb hx => h2.block b hb fun e => hx ?_⟩ (fun b hb => .inl ?_) (fun b hb => .inl ?_) ?_ (fun hm q hq => ?_)) (zsR_cons _).symm
  · rw [fmZ_one]; show b ∈ (Value.slice A xs.length cap).ownBlock.toList; rw [← e]; simp
  · rw [allZ_one, e2] at hb
    rw [allZ_one, e0]
    exact ((List.Sublist.refl _).append hfs).mem hb
  · rw [fmZ_one] at hb ⊢
    have e : (Row.res ⟨.ow (Fs.take i ++ Fs.drop j), E0, A, cap, zs⟩).fm = (Row.res ⟨.ow Fs, E0, A, cap, xs⟩).fm := by
      show (Value.slice A zs.length cap).ownBlock.toList = (Value.slice A xs.length cap).ownBlock.toList
      rw [eb]
    rw [e] at hb; exact hb
  · rw [allZ_one, e2]
    rw [e0] at hnd'
    exact ((List.Sublist.refl _).append hfs).nodup hnd'
  · rw [List.mem_singleton] at hq; subst hq
    have hlt : ∀ b ∈ List.flatten Fs, b < w.heap.size := fun b hb => (MemZ.lt H1 b (by rw [allZ_app, allZ_one, e0]; exact List.mem_append.2 (.inl (List.mem_append.2 (.inr hb))))).2
    have hsame : ∀ b, b ∈ List.flatten Fs → w'.heap[b]? = w.heap[b]? := fun b hb => by
      refine h2.block b (hlt b hb) fun e => ?_
      have hm : b ∈ (Value.slice A xs.length cap).ownBlock.toList := by rw [← e]; simp
      rw [e0] at hnd'
      exact (List.nodup_append.1 hnd').2.2 b hm b hb rfl
    refine ⟨_, h3, by simp only [Kd.fits, List.length_append, List.length_take, List.length_drop]; omega, fun q e hi Fi hFi => ?_⟩
    simp only at hi
    rw [← hd] at hi
    have htl : (xs.take i).length = i := by rw [List.length_take]; omega
    have htf : (Fs.take i).length = i := by rw [List.length_take]; omega
    rw [List.getElem?_append] at hi hFi
    rw [htl] at hi
    rw [htf] at hFi
    split at hi
    · rename_i hq
      rw [if_pos hq, List.getElem?_take_of_lt hq] at hFi
      rw [List.getElem?_take_of_lt hq] at hi
      rw [part_app1 (take_len hcl (show i ≤ xs.length by omega)) hq, part_take _ hq]
      exact GoTy.own_mono (he q e hi Fi hFi) fun b hb => hsame b (mem_fs hFi hb)
    · rename_i hq
      rw [if_neg hq, List.getElem?_drop] at hFi
      rw [List.getElem?_drop] at hi
      rw [part_app2 (take_len hcl (show i ≤ xs.length by omega)) (by omega), part_drop, Nat.add_comm]
      exact GoTy.own_mono (he _ e hi Fi hFi) fun b hb => hsame b (mem_fs hFi hb)
theorem op_insR {R : List Row} (hf : Fr a n L) {α : Type} [GoTy α] {f : FuncId} {E0 E' : TypeId} {Fs Gs : List (List Nat)} {A A' : Option Addr} {cap cap' : Nat} {xs ys zs : List α} {i : Int}
    (H : Mem w0 S M (⟨.ow Fs, E0, A, cap, xs⟩ :: ⟨.ow Gs, E', A', cap', ys⟩ :: R) D I w) (hk : CL P f) (hs : InsSpec P f (GoTy.n α)) {x y z : Operand} (hxs : evs L [x, y, z] = some [.slice A xs.length cap, .int .i64 i, .slice A' ys.length cap']) {ats : Array TypeId} (hd : insl xs i ys = some zs) (hdn : d < n)
    (k : ∀ Fs' E1 A2 cap2 a' w', Fr a' n ((d, .slice A2 zs.length cap2) :: L) → Mem w0 S M (⟨.ow Fs', E1, A2, cap2, zs⟩ :: R) D I w' → K a' w') : Oper.wp P ⟨some d, .call ⟨.value (.func f), [x, y, z].toArray, ats⟩, ty, pos, af, g⟩ a w K Q := by
  obtain ⟨cells, ho, hfit, he⟩ := H.rowAt (r := ⟨.ow Fs, E0, A, cap, xs⟩) (by simp)
  obtain ⟨cells', ho', hfit', he'⟩ := H.rowAt (r := ⟨.ow Gs, E', A', cap', ys⟩) (by simp)
  unfold insl at hd
  split at hd
  case isFalse => cases hd
  rename_i hij
  injection hd with hd
  obtain ⟨i, rfl⟩ := Int.eq_ofNat_of_zero_le hij.1
  simp only [Int.ofNat_eq_natCast, Int.toNat_natCast] at hd hij hxs
  have hzl : zs.length = xs.length + ys.length := by rw [← hd]; simp; omega
  have hcl : cells.length = xs.length * GoTy.n α := ho.1
  have hcl' : cells'.length = ys.length * GoTy.n α := ho'.1
  have hfl : Fs.length = xs.length := hfit
  have hfl' : Gs.length = ys.length := hfit'
  have hp : (AT.zs M (⟨.ow Fs, E0, A, cap, xs⟩ :: ⟨.ow Gs, E', A', cap', ys⟩ :: R) D).Perm ([Row.res ⟨.ow Fs, E0, A, cap, xs⟩, Row.res ⟨.ow Gs, E', A', cap', ys⟩] ++ AT.zs M R D) := (zsR_cons _).trans ((zsR_cons _).append_left [_])
  have H1 := MemZ.perm H hp
  have hnd := MemZ.nd H1
  rw [allZ_app, allZ_two] at hnd
  have hnd' := (List.nodup_append.1 hnd).1
  have hlt : ∀ b ∈ allZ [Row.res ⟨.ow Fs, E0, A, cap, xs⟩, Row.res ⟨.ow Gs, E', A', cap', ys⟩], b < w.heap.size := fun b hb => (MemZ.lt H1 b (by rw [allZ_app]; exact List.mem_append.2 (.inl hb))).2
  have e0 : (Row.res ⟨.ow Fs, E0, A, cap, xs⟩).all = (Value.slice A xs.length cap).ownBlock.toList ++ List.flatten Fs := rfl
  have e1 : (Row.res ⟨.ow Gs, E', A', cap', ys⟩).all = (Value.slice A' ys.length cap').ownBlock.toList ++ List.flatten Gs := rfl
  rw [e0, e1] at hnd'
  refine op_call hf hk hxs hdn (hs w A A' xs.length cap ys.length cap' E0 E' cells cells' i ho ho' (row_one (H.rowTrue 0 rfl) ho) (row_one (H.rowTrue 1 rfl) ho') (fun b hb hb' => ?_) (by omega) (by omega)) fun v w' a' hp hf' => ?_
  · have h1 : b ∈ (Value.slice A xs.length cap).ownBlock.toList := by rw [hb]; simp
    have h2 : b ∈ (Value.slice A' ys.length cap').ownBlock.toList := by rw [hb']; simp
    exact (List.nodup_append.1 hnd').2.2 b (List.mem_append.2 (.inl h1)) b (List.mem_append.2 (.inl h2)) rfl
  obtain ⟨E1, A2, cap2, rfl, h2, h4, h3⟩ := hp
  rw [← hzl] at h3 hf' h4
  refine k (Fs.take i ++ (Gs ++ Fs.drop i)) E1 A2 cap2 a' w' hf' ?_
  have hperm : (List.flatten (Fs.take i ++ (Gs ++ Fs.drop i))).Perm (List.flatten Fs ++ List.flatten Gs) := by
    have h : List.flatten Fs = List.flatten (Fs.take i) ++ List.flatten (Fs.drop i) := by rw [← List.flatten_append, List.take_append_drop]
    rw [List.flatten_append, List.flatten_append, h, List.append_assoc]
    exact List.perm_append_comm.append_left _
  have e2 : (Row.res ⟨.ow (Fs.take i ++ (Gs ++ Fs.drop i)), E1, A2, cap2, zs⟩).all = (Value.slice A2 zs.length cap2).ownBlock.toList ++ List.flatten (Fs.take i ++ (Gs ++ Fs.drop i)) := rfl
  have hxg : ∀ b, b ∈ (Value.slice A2 zs.length cap2).ownBlock.toList → b ∈ (Value.slice A xs.length cap).ownBlock.toList ∨ (w.heap.size ≤ b ∧ b < w'.heap.size) := fun b hb => by
    rcases h4 with h | ⟨h, h'⟩
    · rw [h] at hb; exact .inl hb
    · rw [h] at hb; simp at hb; subst hb; exact .inr ⟨Nat.le_refl _, h'⟩
  have hflat : (List.flatten Fs ++ List.flatten Gs).Nodup := by
    refine List.Sublist.nodup ?_ hnd'
    exact (List.sublist_append_right _ _).append (List.sublist_append_right _ _)
  refine MemZ.perm (MemZ.step (rs' := [Row.res ⟨.ow (Fs.take i ++ (Gs ++ Fs.drop i)), E1, A2, cap2, zs⟩]) H1 ⟨h2.os, h2.tape, h2.output, h2.size, fun b hb hx => h2.block b hb fun e => hx ?_⟩ (fun b hb => ?_) (fun b hb => ?_) ?_ (fun hm q hq => ?_)) (zsR_cons _).symm
  · rw [fmZ_two]; exact List.mem_append.2 (.inl (by show b ∈ (Value.slice A xs.length cap).ownBlock.toList; rw [← e]; simp))
  · rw [allZ_one, e2] at hb
    rw [allZ_two, e0, e1]
    rcases List.mem_append.1 hb with h | h
    · exact (hxg b h).imp (fun h => List.mem_append.2 (.inl (List.mem_append.2 (.inl h)))) id
    · rcases List.mem_append.1 (hperm.mem_iff.1 h) with h | h
      · exact .inl (List.mem_append.2 (.inl (List.mem_append.2 (.inr h))))
      · exact .inl (List.mem_append.2 (.inr (List.mem_append.2 (.inr h))))
  · rw [fmZ_one] at hb; rw [fmZ_two]
    exact (hxg b hb).imp (fun h => List.mem_append.2 (.inl h)) (·.1)
  · rw [allZ_one, e2]
    refine ((List.Perm.refl _).append hperm).nodup_iff.2 ?_
    rcases h4 with h | ⟨h, h'⟩
    · rw [h]
      refine List.Sublist.nodup ?_ hnd'
      rw [← List.append_assoc]
      exact (List.Sublist.refl _).append (List.sublist_append_right _ _)
    · rw [h]
      simp only [Option.toList_some, List.singleton_append, List.nodup_cons]
      refine ⟨fun hb => ?_, hflat⟩
      have := hlt w.heap.size (by
        rw [allZ_two, e0, e1]
        simp only [List.mem_append] at hb ⊢
        exact hb.imp .inr .inr)
      omega
  · rw [List.mem_singleton] at hq; subst hq
    have hsame : ∀ b, b ∈ List.flatten Fs ++ List.flatten Gs → w'.heap[b]? = w.heap[b]? := fun b hb => by
      refine h2.block b (hlt b ?_) fun e => ?_
      · rw [allZ_two, e0, e1]
        simp only [List.mem_append] at hb ⊢
        exact hb.imp .inr .inr
      · have hm : b ∈ (Value.slice A xs.length cap).ownBlock.toList := by rw [← e]; simp
        rw [List.append_assoc] at hnd'
        refine (List.nodup_append.1 hnd').2.2 b hm b ?_ rfl
        simp only [List.mem_append] at hb ⊢
        exact hb.imp id .inr
    refine ⟨_, h3, by simp only [Kd.fits, List.length_append, List.length_take, List.length_drop]; omega, fun q e hi Fi hFi => ?_⟩
    simp only at hi
    rw [← hd] at hi
    have htl : (xs.take i).length = i := by rw [List.length_take]; omega
    have htf : (Fs.take i).length = i := by rw [List.length_take]; omega
    have htc := take_len hcl (show i ≤ xs.length by omega)
    rw [List.getElem?_append] at hi hFi
    rw [htl] at hi
    rw [htf] at hFi
    split at hi
    · rename_i hq
      rw [if_pos hq, List.getElem?_take_of_lt hq] at hFi
      rw [List.getElem?_take_of_lt hq] at hi
      rw [part_app1 htc hq, part_take _ hq]
      exact GoTy.own_mono (he q e hi Fi hFi) fun b hb => hsame b (List.mem_append.2 (.inl (mem_fs hFi hb)))
    · rename_i hq
      rw [if_neg hq] at hFi
      rw [part_app2 htc (by omega)]
      rw [List.getElem?_append] at hi hFi
      rw [hfl'] at hFi
      split at hi
      · rename_i hq2
        rw [if_pos hq2] at hFi
        rw [part_app1 hcl' hq2]
        exact GoTy.own_mono (he' _ e hi Fi hFi) fun b hb => hsame b (List.mem_append.2 (.inr (mem_fs hFi hb)))
      · rename_i hq2
        rw [if_neg hq2, List.getElem?_drop] at hFi
        rw [List.getElem?_drop] at hi
        rw [part_app2 hcl' (by omega), part_drop, Nat.add_comm]
        exact GoTy.own_mono (he _ e hi Fi hFi) fun b hb => hsame b (List.mem_append.2 (.inl (mem_fs hFi hb)))
end
end AT

/- slices.Insert and slices.Delete: the pieces of their walks at elements of several cells. -/
namespace AT
open Go Go.RowKit
section
variable {P : Program} {Q : Exit → Act → World → Prop} {a : Act} {w : World} {n : Nat} {L : List (Nat × Value)} {K : Act → World → Prop} {d : Nat} {dst : Option Tmp} {ty : TypeId} {pos : String} {af : Array Edge} {g : Option (Nat × Bool)}
theorem w64_addn {i j : Nat} (h : i + j ≤ 1099511627776) : w64 ((i : Int) + (j : Int)) = ((i + j : Nat) : Int) := by rw [w64_in (by omega) (by omega)]; omega
theorem w64_subn {i j : Nat} (h0 : i ≤ j) (h : j ≤ 1099511627776) : w64 ((j : Int) - (i : Int)) = ((j - i : Nat) : Int) := by rw [w64_in (by omega) (by omega)]; omega
/-! ### Cutting a slice -/
theorem b_lo {len cap i : Nat} (h : i ≤ len) : (Instr.sliceBounds true len cap (some (.int .i64 (i : Int))) none none).run P w = .ok (i, len, cap) w := by
  simp [Instr.sliceBounds, Instr.sliceBound, asIntOf, h]

theorem b_hi {len cap j : Nat} (h : j ≤ cap) : (Instr.sliceBounds true len cap none (some (.int .i64 (j : Int))) none).run P w = .ok (0, j, cap) w := by
  simp [Instr.sliceBounds, Instr.sliceBound, asIntOf, h]

theorem b_lh {len cap i j : Nat} (h0 : i ≤ j) (h : j ≤ cap) : (Instr.sliceBounds true len cap (some (.int .i64 (i : Int))) (some (.int .i64 (j : Int))) none).run P w = .ok (i, j, cap) w := by
  simp [Instr.sliceBounds, Instr.sliceBound, asIntOf, h, h0]
theorem b_lhm {len cap i j m : Nat} (h0 : i ≤ j) (h : j ≤ m) (h2 : m ≤ cap) : (Instr.sliceBounds true len cap (some (.int .i64 (i : Int))) (some (.int .i64 (j : Int))) (some (.int .i64 (m : Int)))).run P w = .ok (i, j, m) w := by
  simp [Instr.sliceBounds, Instr.sliceBound, asIntOf, h, h0, h2]
def cutA (A : Option Addr) (s i m : Nat) : Option Addr := if m = i then A else A.map (·.add (i * s))
theorem run_cut {T E : TypeId} {s : Nat} (hT : P.underlying T = some (.slice E)) (hE : SZ P E s) {A : Option Addr} {len cap : Nat} {lov hiv mxv : Option Value} {i j m : Nat} (hb : ∀ w, (Instr.sliceBounds true len cap lov hiv mxv).run P w = .ok (i, j, m) w) :
    ∀ w, (Instr.sliceAt T (.slice A len cap) lov hiv mxv).run P w = .ok (.slice (cutA A s i m) (j - i) (m - i)) w := by
  intro w
  have hE' : ∀ w, (Go.sizeOf E).run P w = .ok s w := hE
  simp [Instr.sliceAt, Instr.slice, run_underlying hT, hb, hE', cutA]
theorem rq_cut (hf : Fr a n L) {T : TypeId} {x : Operand} {u r : Value} (hx : ev L x = some u) {lo hi mx : Option Operand} {lov hiv mxv : Option Value} (hlo : evo L lo = some lov) (hhi : evo L hi = some hiv) (hmx : evo L mx = some mxv) (h : ∀ w', (Instr.sliceAt T u lov hiv mxv).run P w' = .ok r w') :
    ∀ w, (execOp a.eval ⟨dst, .slice T x lo hi mx, ty, pos, af, g⟩).run P w = .ok (.value r) w := by
  intro w
  simp [execOp, hf.eval hx, evo_map hf hlo, evo_map hf hhi, evo_map hf hmx, h]
theorem cut_some {g o s i m : Nat} (h : m ≠ i) : cutA (some ⟨g, o, none⟩) s i m = some ⟨g, o + i * s, none⟩ := by
  unfold cutA
  rw [if_neg h, Option.map_some, add_lit]
theorem cut_zero {A : Option Addr} {s m : Nat} (hA : ∀ p, A = some p → p.spot = none) : cutA A s 0 m = A := by
  unfold cutA
  split
  · rfl
  · cases A with
    | none => rfl
    | some p =>
      have := hA p rfl
      cases p; simp only at this; subst this
      simp [Addr.add]
/-! ### A block of cells -/
structure GS (w0 w : World) (g : Nat) (E : TypeId) (cur : List Value) : Prop where
  os : w.os = w0.os
  tape : w.tape = w0.tape
  output : w.output = w0.output
  size : w0.heap.size ≤ w.heap.size
  old : ∀ k, k < w0.heap.size → k ≠ g → w.heap[k]? = w0.heap[k]?
  at_ : w.heap[g]? = some (.cells cur.toArray E (0, 0))
theorem GS.below {w0 w w1 : World} {g : Nat} {E : TypeId} {cur : List Value} (h : GS w0 w g E cur) (hg : g < w0.heap.size) (hb : Below w.heap.size w w1) : GS w0 w1 g E cur :=
  ⟨hb.os.trans h.os, hb.tape.trans h.tape, hb.output.trans h.output, Nat.le_trans h.size hb.size, fun k hk hne => (hb.block k (by have := h.size; omega)).trans (h.old k hk hne), (hb.block g (by have := h.size; omega)).trans h.at_⟩
theorem GS.below' {w0 w w1 : World} {g : Nat} {E : TypeId} {cur : List Value} (h : GS w0 w g E cur) (hg : g < w.heap.size) (hb : Below w.heap.size w w1) : GS w0 w1 g E cur :=
  ⟨hb.os.trans h.os, hb.tape.trans h.tape, hb.output.trans h.output, Nat.le_trans h.size hb.size, fun k hk hne => (hb.block k (by have := h.size; omega)).trans (h.old k hk hne), (hb.block g hg).trans h.at_⟩
theorem GS.lt {w0 w : World} {g : Nat} {E : TypeId} {cur : List Value} (h : GS w0 w g E cur) : g < w.heap.size := (Array.getElem?_eq_some_iff.1 h.at_).1
theorem GS.set {w0 w : World} {g : Nat} {E : TypeId} {cur : List Value} (h : GS w0 w g E cur) (new : Array Value) : GS w0 (w.setRow g new) g E new.toList :=
  ⟨h.os, h.tape, h.output, by simpa using h.size, fun k hk hne => (setRow_other w g k new hne).trans (h.old k hk hne), by rw [Array.toArray_toList]; exact setRow_heap w g _ new E _ h.at_⟩
theorem GS.cell {w0 w : World} {g : Nat} {E : TypeId} {cur : List Value} (h : GS w0 w g E cur) (j : Nat) : w.cell? ⟨g, j, none⟩ = cur[j]? := by
  simp [World.cell?, h.at_]
theorem GS.start {w : World} {g : Nat} {E : TypeId} {cur : Array Value} (h : w.heap[g]? = some (.cells cur E (0, 0))) : GS w w g E cur.toList :=
  ⟨rfl, rfl, rfl, Nat.le_refl _, fun _ _ _ => rfl, by rw [Array.toArray_toList]; exact h⟩
theorem GS.grown {w0 w : World} {g : Nat} {E : TypeId} {cur : List Value} (h : GS w0 w g E cur) (o : Option Nat) (ho : g < w0.heap.size → o = some g) : w0.grownBy w o :=
  ⟨h.os, h.tape, h.output, h.size, fun k hk hne => h.old k hk fun e => by subst e; exact hne (ho hk).symm⟩
theorem GS.other {w0 w : World} {g b : Nat} {E : TypeId} {cur : List Value} (h : GS w0 w g E cur) (hb : b < w0.heap.size) (hne : b ≠ g) (j : Nat) : w.cell? ⟨b, j, none⟩ = w0.cell? ⟨b, j, none⟩ := by
  simp [World.cell?, h.old b hb hne]
theorem GS.alloc (w : World) (cs : Array Value) (E : TypeId) : GS w (w.drew.alloc (.cells cs E)) w.heap.size E cs.toList :=
  ⟨rfl, rfl, rfl, by simp, fun k hk _ => heap_alloc_old w.drew _ hk, by rw [Array.toArray_toList]; exact heap_alloc_new w.drew _⟩
/-! ### What is written -/
def lay (cur : List Value) (o : Nat) (cs : List Value) : List Value := cur.take o ++ cs ++ cur.drop (o + cs.length)
theorem lay_len {cur : List Value} {o : Nat} {cs : List Value} (h : o + cs.length ≤ cur.length) : (lay cur o cs).length = cur.length := by
  unfold lay
  simp only [List.length_append, List.length_take, List.length_drop]
  omega
theorem lay_take {cur : List Value} {o : Nat} {cs : List Value} (h : o ≤ cur.length) : (lay cur o cs).take (o + cs.length) = cur.take o ++ cs := by
  unfold lay
  rw [List.take_append_of_le_length (by simp only [List.length_append, List.length_take]; omega)]
  exact List.take_of_length_le (by simp only [List.length_append, List.length_take]; omega)
theorem lay_take_le {cur : List Value} {o k : Nat} {cs : List Value} (h : o ≤ cur.length) (hk : k ≤ o) : (lay cur o cs).take k = cur.take k := by
  unfold lay
  rw [List.append_assoc, List.take_append_of_le_length (by rw [List.length_take]; omega), List.take_take, Nat.min_eq_left hk]
theorem lay_drop {cur : List Value} {o : Nat} {cs : List Value} (h : o ≤ cur.length) : (lay cur o cs).drop o = cs ++ cur.drop (o + cs.length) := by
  unfold lay
  rw [List.append_assoc, List.drop_append_of_le_length (by rw [List.length_take]; omega), List.drop_eq_nil_of_le (by rw [List.length_take]; omega), List.nil_append]
theorem lay_two {cur : List Value} {o : Nat} {vs cs : List Value} (h : o + vs.length + cs.length ≤ cur.length) : (lay (lay cur (o + vs.length) cs) o vs).take (o + vs.length + cs.length) = cur.take o ++ (vs ++ cs) := by
  have hl : (lay cur (o + vs.length) cs).length = cur.length := lay_len h
  have hd := lay_drop (cur := cur) (o := o + vs.length) (cs := cs) (by omega)
  have ht := lay_take_le (cur := cur) (o := o + vs.length) (k := o) (cs := cs) (by omega) (by omega)
  have e : lay (lay cur (o + vs.length) cs) o vs = (lay cur (o + vs.length) cs).take o ++ vs ++ (lay cur (o + vs.length) cs).drop (o + vs.length) := rfl
  rw [e, hd, ht, ← List.append_assoc, List.take_append_of_le_length (by simp only [List.length_append, List.length_take]; omega), List.take_of_length_le (by simp only [List.length_append, List.length_take]; omega), List.append_assoc]
theorem run_clearN {T E E0 : TypeId} {z : Value} {s gb o k c : Nat} {cur : List Value} {w0 : World} (hT : P.underlying T = some (.slice E)) (hZ : ZV P E z) (hz : z.cells.size = s) (h1 : ∀ u ∈ z.cells.toList, u.oneCell' = true) (hs : 0 < s) (hk : 0 < k) (h : GS w0 w gb E0 cur) (hfit : o + k * s ≤ cur.length) :
    ∃ zs : List Value, zs.length = k * s ∧ (Builtin.clear_ #[T] ty #[.slice (some ⟨gb, o, none⟩) k c]).run P w = .ok (.tuple #[]) (w.setRow gb (lay cur o zs).toArray) := by
  have hlen : (Builtin.zeroCells z.cells k).toList.length = k * s := by rw [Array.length_toList, size_zeroCells, hz]
  have hone : ∀ v ∈ (Builtin.zeroCells z.cells k).toList, v.oneCell' = true := by
    intro v hv
    unfold Builtin.zeroCells at hv
    simp only [Array.toList_map, List.mem_map] at hv
    obtain ⟨i, hi, rfl⟩ := hv
    have : i % z.cells.size < z.cells.size := Nat.mod_lt _ (by omega)
    rw [getElem!_pos z.cells _ this]
    exact h1 _ (by simp)
  have hst := run_storeCells_at P gb o E0 (Builtin.zeroCells z.cells k).toList 0 cur.toArray w h.at_ (by simp only [List.size_toArray]; omega) hone
  have hZ' : ∀ w, (zeroValue E).run P w = .ok z w := hZ
  obtain ⟨m, rfl⟩ : ∃ m, k = m + 1 := ⟨k - 1, by omega⟩
  refine ⟨(Builtin.zeroCells z.cells (m + 1)).toList, hlen, ?_⟩
  simp only [Nat.add_zero] at hst
  simp [Builtin.clear_, run_underlying hT, hZ', hst, lay]
theorem run_copyN {T U E E0 : TypeId} {s gb o dLen dCap : Nat} {p : Addr} {sLen sCap k : Nat} {cur cs : List Value} {w0 : World} (hT : P.underlying T = some (.slice E)) (hE : SZ P E s) (h : GS w0 w gb E0 cur) (hk : Nat.min sLen dLen = k) (hl : cs.length = k * s)
    (hsrc : ∀ j v, cs[j]? = some v → w.cell? (p.add j) = some v) (hfit : o + cs.length ≤ cur.length) (h1 : ∀ v ∈ cs, v.oneCell' = true) :
    (Builtin.copy_ #[T, U] ty #[.slice (some ⟨gb, o, none⟩) dLen dCap, .slice (some p) sLen sCap]).run P w = .ok (goInt k) (w.setRow gb (lay cur o cs).toArray) := by
  have hE' : ∀ w, (Go.sizeOf E).run P w = .ok s w := hE
  have hfc := run_firstCells_some (P := P) w s k p sLen sCap cs hl hsrc
  have hst := run_storeCells_at P gb o E0 cs 0 cur.toArray w h.at_ (by simpa using hfit) h1
  simp only [Nat.add_zero] at hst
  simp [Builtin.copy_, run_underlying hT, Builtin.lenOf, hE', hk, hfc, hst, lay]
theorem op_copy_of (hf : Fr a n L) {T U : TypeId} {x y : Operand} {v u : Value} (hx : ev L x = some v) (hy : ev L y = some u) {r : Value} {w' : World} (hr : (Builtin.copy_ #[T, U] ty #[v, u]).run P w = .ok r w') (hdn : d < n)
    (k : ∀ a', Fr a' n ((d, r) :: L) → K a' w') : Oper.wp P ⟨some d, .call ⟨.builtin .copy, #[x, y], #[T, U]⟩, ty, pos, af, g⟩ a w K Q := by
  have h1 : (execOp a.eval ⟨some d, .call ⟨.builtin .copy, #[x, y], #[T, U]⟩, ty, pos, af, g⟩).run P w = .ok (.value r) w' := by
    simp [execOp, resolve, invoke, builtin, hf.eval hx, hf.eval hy, hr]
  unfold Oper.wp
  rw [h1, Oper.upon_value]
  exact k _ (hf.put hdn r)
theorem op_clear_of (hf : Fr a n L) {T : TypeId} {x : Operand} {v : Value} (hx : ev L x = some v) {r : Value} {w' : World} (hr : (Builtin.clear_ #[T] ty #[v]).run P w = .ok r w')
    (k : ∀ a', Fr a' n L → K a' w') : Oper.wp P ⟨none, .call ⟨.builtin .clear, #[x], #[T]⟩, ty, pos, af, g⟩ a w K Q := by
  have h1 : (execOp a.eval ⟨none, .call ⟨.builtin .clear, #[x], #[T]⟩, ty, pos, af, g⟩).run P w = .ok (.value r) w' := by
    simp [execOp, resolve, invoke, builtin, hf.eval hx, hr]
  unfold Oper.wp
  rw [h1, Oper.upon_value]
  exact k _ hf
theorem op_app_of (hf : Fr a n L) {T U : TypeId} {x y : Operand} {v u : Value} (hx : ev L x = some v) (hy : ev L y = some u) {r : Value} {w' : World} (hr : (Builtin.append_ #[T, U] ty #[v, u]).run P w = .ok r w') (hdn : d < n)
    (k : ∀ a', Fr a' n ((d, r) :: L) → K a' w') : Oper.wp P ⟨some d, .call ⟨.builtin .append, #[x, y], #[T, U]⟩, ty, pos, af, g⟩ a w K Q := by
  have h1 : (execOp a.eval ⟨some d, .call ⟨.builtin .append, #[x, y], #[T, U]⟩, ty, pos, af, g⟩).run P w = .ok (.value r) w' := by
    simp [execOp, resolve, invoke, builtin, hf.eval hx, hf.eval hy, hr]
  unfold Oper.wp
  rw [h1, Oper.upon_value]
  exact k _ (hf.put hdn r)
theorem rq_cap (hf : Fr a n L) {T E : TypeId} (hT : P.underlying T = some (.slice E)) {x : Operand} {A : Option Addr} {m c : Nat} (hx : ev L x = some (.slice A m c)) : ∀ w, (execOp a.eval ⟨dst, .call ⟨.builtin .cap, #[x], #[T]⟩, ty, pos, af, g⟩).run P w = .ok (.value (.int .i64 (c : Int))) w := by
  intro w
  simp [execOp, resolve, invoke, builtin, hf.eval hx, Builtin.cap_, run_underlying hT, goInt]
theorem rq_ext (hf : Fr a n L) {f : FuncId} {xs : List Operand} {ats : Array TypeId} {vs : List Value} (hxs : evs L xs = some vs) {r : Value} (h : (callFunc f vs.toArray).run P w = .ok (.value r) w) :
    (execOp a.eval ⟨dst, .call ⟨.value (.func f), xs.toArray, ats⟩, ty, pos, af, g⟩).run P w = .ok (.value r) w := by
  rw [execOp_call_go]
  simp only [Array.empty_append, Array.append_empty, List.map_toArray, hf.evals hxs, h]
theorem apart_run {f : FuncId} {fn : Func} {T TR E : TypeId} {s : Nat} (hf : P.funcs[f]? = some fn) (hname : (fn.name == "runtime.NumGoroutine") = false) (hb : fn.body.isNone = true) (hn : Extern.findNext fn = none) (he : Extern.find fn = some (Extern.SlicesOverlaps.overlaps #[T, T] #[TR])) (hT : P.underlying T = some (.slice E)) (hE : SZ P E s)
    {b gb o la ca lb cb : Nat} (hne : b ≠ gb) {Eb Eg : TypeId} {curb curg : Array Value} (hvb : w.heap[b]? = some (.cells curb Eb (0, 0))) (hvg : w.heap[gb]? = some (.cells curg Eg (0, 0))) (hpos : curg.size ≠ 0) :
    (callFunc f #[.slice (some ⟨b, 0, none⟩) la ca, .slice (some ⟨gb, o, none⟩) lb cb]).run P w = .ok (.value (.bool false)) w := by
  rw [run_callFunc_extern hf hname hb hn he]
  have := Lib.run_overlaps_apart (P := P) w T TR E hT s hE ⟨b, 0, none⟩ ⟨gb, o, none⟩ la ca lb cb hne Eb Eg curb.size curg.size (by simp [World.shape?, hvb]) (by simp [World.shape?, hvg]) hpos (by simp [World.frozen?, hvb]) (by simp [World.frozen?, hvb])
  rw [this]
  rfl
variable {w0 : Base} {S : Nat → Prop} {M : List Blk} {R : List Row} {D : List DI} {I : List (Bool × MP)}
end
end AT

