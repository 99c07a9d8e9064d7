/- What a function does with rows: literals, append, reading, writing, handing on. -/
import Derived.Test.YtlemonjnolciiaaGreatDoorAtR
import Derived.Deep.Slices
import Derived.ProofKit
import Derived.OpenShut
set_option linter.unusedSimpArgs false
set_option linter.unusedVariables false
namespace AT
open Go Go.RowKit
def AI (P : Program) (E : TypeId) (n : Nat) (z : Value) (bytes : Nat) : Prop := (P.info? E).map (fun i => (i.zero, i.size, i.bytes)) = some (some z, n, bytes)
section
variable {P : Program} {Q : Exit → Act → World → Prop} {a : Act} {w : World} {w0 : Base} {n : Nat} {L : List (Nat × Value)} {K : Act → World → Prop}
variable {S : Nat → Prop} {M : List Blk} {R : List Row} {D : List DI} {I : List (Bool × MP)} {dst : Option Tmp} {d : Nat} {ty : TypeId} {pos : String} {af : Array Edge} {g : Option (Nat × Bool)}
theorem fd_not_fm {r : Res} {b : Nat} : ∀ {Z : List Res}, (allZ Z).Nodup → r ∈ Z → b ∈ r.fd → b ∉ fmZ Z
  | [], _, h, _ => by cases h
  | q :: Z, hn, hr, hb => by
    have hn' : (q.all ++ allZ Z).Nodup := hn
    obtain ⟨h1, h2, h3⟩ := List.nodup_append.1 hn'
    intro h
    have h' : b ∈ q.fm ++ fmZ Z := h
    rcases List.mem_cons.1 hr with rfl | hr
    · rcases List.mem_append.1 h' with h | h
      · exact (List.nodup_append.1 h1).2.2 b h b hb rfl
      · exact h3 b (List.mem_append.2 (.inr hb)) b (fm_all h) rfl
    · rcases List.mem_append.1 h' with h | h
      · exact h3 b (List.mem_append.2 (.inl h)) b (List.mem_flatMap.2 ⟨r, hr, List.mem_append.2 (.inr hb)⟩) rfl
      · exact fd_not_fm h2 hr hb h
theorem MemZ.fd_st {Z : List Res} (H : MemZ w0 S Z I w) {r : Res} (hr : r ∈ Z) {b : Nat} (hb : b ∈ r.fd) (f : Bool) : StZ w0 S Z f b :=
  .inr ⟨(H.lt b (List.mem_flatMap.2 ⟨r, hr, List.mem_append.2 (.inr hb)⟩)).1, fd_not_fm H.nd hr hb⟩
theorem row_mem {r : Row} (hr : r ∈ R) : r.res ∈ zs M R D := List.mem_append.2 (.inr (List.mem_append.2 (.inl (List.mem_map.2 ⟨r, hr, rfl⟩))))
theorem di_mem {d : DI} (hd : d ∈ D) : d.res ∈ zs M R D := List.mem_append.2 (.inr (List.mem_append.2 (.inr (List.mem_map.2 ⟨d, hd, rfl⟩))))
theorem Mem.elRep (H : Mem w0 S M R D I w) {r : Row} (hr : r ∈ R) {i : Nat} {x : r.α} {cs : List Value} (hi : i < r.xs.length) (hf : r.k.fits r.xs.length) (h : r.k.holds w (St w0 S M R D r.k.fresh) i cs x) : GoTy.rep w (St w0 S M R D r.k.fresh) cs x := by
  cases hk : r.k with
  | sh f => rw [hk] at h; exact h
  | ow Fs fr =>
    rw [hk] at h hf
    have hFi : Fs[i]? = some (Fs[i]'(by rw [show Fs.length = _ from hf]; exact hi)) := List.getElem?_eq_getElem _
    exact GoTy.mono (GoTy.own_rep (h _ hFi)) fun b hb _ => ⟨MemZ.fd_st H (row_mem hr) (by show b ∈ r.k.fd; rw [hk]; exact mem_fs hFi hb) _, rfl⟩
theorem Mem.freeze (H : Mem w0 S M R D I w) (i : Nat) {r : Row} (hi : R[i]? = some r) : Mem w0 S M (R.eraseIdx i) D ((r.k.fresh, MP.val [r.v] r.xs) :: I) w := by
  have hmem := List.mem_of_getElem? hi
  have hp := zsR_out (M := M) (D := D) hi
  have H1 : Mem w0 S M (R.eraseIdx i) D I w := MemZ.step (rs := [r.res]) (rs' := []) (MemZ.perm H hp) (Chg.refl _ _) (fun b hb => by cases hb) (fun b hb => by cases hb) .nil (fun _ q hq => by cases hq)
  obtain ⟨cells, ho, hf, he⟩ := H.rowAtK hmem
  have hsub : ∀ b, b ∈ fmZ (zs M (R.eraseIdx i) D) → b ∈ fmZ (zs M R D) := fun b hb => by
    refine (hp.flatMap_right Res.fm : (fmZ _).Perm (fmZ _)).mem_iff.2 ?_
    show b ∈ fmZ _
    rw [fmZ_app]; exact List.mem_append.2 (.inr hb)
  refine H1.push _ (show lrep w _ [r.v] r.xs from row_repT (ownsK_tail ho) (fun b hb => ?_) fun j x hx => ?_)
  · refine .inr ⟨(MemZ.lt H b (List.mem_flatMap.2 ⟨_, row_mem hmem, List.mem_append.2 (.inl (by show b ∈ r.v.ownBlock.toList; rw [show r.v.ownBlock = some b from hb]; simp))⟩)).1, fun h => ?_⟩
    have h1 := MemZ.nd (MemZ.perm H hp)
    rw [allZ_app, allZ_one] at h1
    exact (List.nodup_append.1 h1).2.2 b (List.mem_append.2 (.inl (by show b ∈ r.v.ownBlock.toList; rw [show r.v.ownBlock = some b from hb]; simp))) b (fm_all h) rfl
  · exact GoTy.mono (H.elRep hmem (List.getElem?_eq_some_iff.1 hx).1 hf (he j x hx)) (StZ_weaken hsub _)
theorem Mem.rowTrue (H : Mem w0 S M R D I w) (i : Nat) {r : Row} (hi : R[i]? = some r) : lrep w (fun _ => True) [r.v] r.xs := by
  have h := (H.freeze i hi).get 0 (f := (r.k.fresh, MP.val [r.v] r.xs)) rfl
  exact GoTy.mono (α := List r.α) h fun b _ _ => ⟨trivial, rfl⟩
theorem Mem.freezeOwn (H : Mem w0 S M R D I w) (i : Nat) {α : Type} [GoTy α] {Fs : List (List Nat)} {E : TypeId} {A : Option Addr} {cap : Nat} {xs : List α} (hi : R[i]? = some ⟨.ow Fs, E, A, cap, xs⟩) :
    ∃ F, Mem w0 S M (R.eraseIdx i) (⟨F, MP.own F [.slice A xs.length cap] xs⟩ :: D) I w := by
  have hp := zsR_out (M := M) (D := D) hi
  have H1 := MemZ.perm H hp
  refine ⟨(Row.res ⟨.ow Fs, E, A, cap, xs⟩).all, MemZ.perm (MemZ.step (rs := [Row.res ⟨.ow Fs, E, A, cap, xs⟩]) (rs' := [DI.res ⟨_, MP.own _ _ xs⟩]) H1 (Chg.refl _ _) (fun b hb => .inl ?_) (fun b hb => ?_) ?_ (fun _ q hq => ?_)) (zsD_cons _).symm⟩
  · rw [allZ_one] at hb ⊢
    simpa [Res.all, DI.res] using hb
  · rw [fmZ_one] at hb; cases hb
  · have h1 := MemZ.nd H1
    rw [allZ_app, allZ_one] at h1
    rw [allZ_one]; simpa [Res.all, DI.res] using (List.nodup_append.1 h1).1
  · rw [List.mem_singleton] at hq; subst hq
    obtain ⟨cells, ho, hf, he⟩ := H.rowAt (List.mem_of_getElem? hi)
    refine ⟨⟨⟨A, cap, E, cells, Fs, rfl, ho, rfl, hf, fun j x Fi hx hFi => he j x hx Fi hFi⟩, fun b hb => hb⟩, fun b hb => ?_⟩
    exact (MemZ.lt H1 b (by rw [allZ_app, allZ_one]; exact List.mem_append.2 (.inl hb))).2
theorem flatten_nil (n : Nat) : List.flatten (List.replicate n ([] : List Nat)) = [] := by induction n <;> simp_all [List.replicate_succ]
theorem Mem.rowOwn (H : Mem w0 S M R D I w) (i : Nat) {α : Type} [GoTy α] {f : Bool} {E : TypeId} {A : Option Addr} {cap : Nat} {xs : List α} (hfl : GoTy.flat α = true) (hi : R[i]? = some ⟨.sh f, E, A, cap, xs⟩) :
    Mem w0 S M (R.set i ⟨.ow (List.replicate xs.length []), E, A, cap, xs⟩) D I w := by
  refine H.reRow hi ⟨⟨rfl, rfl, rfl, Nat.le_refl _, fun _ _ _ => rfl⟩, Nat.le_refl _⟩ (.inl rfl) (by show (List.flatten _).Perm []; rw [flatten_nil]) fun hm => ?_
  obtain ⟨cells, ho, hf, he⟩ := H.rowAt (List.mem_of_getElem? hi)
  refine ⟨cells, ho, by simp [Kd.fits], fun j x hx Fi hFi => ?_⟩
  have : Fi = [] := by
    rw [List.getElem?_replicate] at hFi
    split at hFi
    · exact (Option.some.inj hFi).symm
    · cases hFi
  subst this
  exact GoTy.own_flat hfl (he j x hx)
theorem Mem.lend (H : Mem w0 S M R D I w) (j : Nat) {α : Type} [GoTy α] {F : List Nat} {cs : List Value} {x : α} (hj : D[j]? = some ⟨F, MP.own F cs x⟩) : Mem w0 S M R D ((true, MP.val cs x) :: I) w :=
  H.push _ (GoTy.mono (GoTy.own_rep (H.diAt (List.mem_of_getElem? hj)).1) fun b hb _ => ⟨MemZ.fd_st H (di_mem (List.mem_of_getElem? hj)) hb _, rfl⟩)
theorem Mem.frontR (H : Mem w0 S M R D I w) (i : Nat) {r : Row} (hi : R[i]? = some r) : Mem w0 S M (r :: R.eraseIdx i) D I w := MemZ.perm H (zs_permR (perm_out hi))
theorem Mem.frontD (H : Mem w0 S M R D I w) (i : Nat) {d : DI} (hi : D[i]? = some d) : Mem w0 S M R (d :: D.eraseIdx i) I w := MemZ.perm H (zs_permD (perm_out hi))
theorem zsD_app (X : List DI) : (zs M R (X ++ D)).Perm (X.map DI.res ++ zs M R D) := by
  unfold zs
  rw [List.map_append]
  have h : ∀ (A B C E : List Res), (A ++ (B ++ (C ++ E))).Perm (C ++ (A ++ (B ++ E))) := fun A B C E => by
    have h1 : (B ++ (C ++ E)).Perm (C ++ (B ++ E)) := by
      rw [← List.append_assoc, ← List.append_assoc]; exact List.perm_append_comm.append_right _
    refine (h1.append_left A).trans ?_
    rw [← List.append_assoc, ← List.append_assoc C]; exact List.perm_append_comm.append_right _
  exact h _ _ _ _
theorem allZ_di (X : List DI) : allZ (X.map DI.res) = X.flatMap DI.F := by
  simp [allZ, List.flatMap_map, Res.all, DI.res]
theorem fmZ_di (X : List DI) : fmZ (X.map DI.res) = [] := by
  induction X with
  | nil => rfl
  | cons d X ih => show d.res.fm ++ fmZ (X.map DI.res) = []; rw [ih]; rfl
theorem Mem.recast {X Y : List DI} (H : Mem w0 S M R (X ++ D) I w) (hF : (Y.flatMap DI.F).Perm (X.flatMap DI.F)) (hY : (∀ d ∈ X, d.p.pred w (· ∈ d.F)) → ∀ d ∈ Y, d.p.pred w (· ∈ d.F)) : Mem w0 S M R (Y ++ D) I w := by
  have H1 := MemZ.perm H (zsD_app X)
  refine MemZ.perm (MemZ.step (rs := X.map DI.res) (rs' := Y.map DI.res) H1 (Chg.refl _ _) (fun b hb => .inl ?_) (fun b hb => by rw [fmZ_di] at hb; cases hb) ?_ (fun _ q hq => ?_)) (zsD_app Y).symm
  · rw [allZ_di] at hb ⊢; exact hF.mem_iff.1 hb
  · have h1 := MemZ.nd H1
    rw [allZ_app] at h1
    rw [allZ_di]; refine hF.nodup_iff.2 ?_
    rw [← allZ_di]; exact (List.nodup_append.1 h1).1
  · obtain ⟨d, hd, rfl⟩ := List.mem_map.1 hq
    refine ⟨hY (fun e he => H.diAt (List.mem_append.2 (.inl he))) d hd, fun b hb => ?_⟩
    refine (MemZ.lt H1 b ?_).2
    rw [allZ_app, allZ_di]
    exact List.mem_append.2 (.inl (hF.mem_iff.1 (List.mem_flatMap.2 ⟨d, hd, hb⟩)))
theorem Mem.addOwn (H : Mem w0 S M R D I w) {w' : World} (hb : Below w.heap.size w w') {X : List DI} (hn : (X.flatMap DI.F).Nodup) (hX : ∀ d ∈ X, d.p.pred w' (· ∈ d.F)) (hl : ∀ b ∈ X.flatMap DI.F, w.heap.size ≤ b ∧ b < w'.heap.size) : Mem w0 S M R (X ++ D) I w' := by
  refine MemZ.perm (MemZ.step (rs := []) (rs' := X.map DI.res) H ⟨hb.os, hb.tape, hb.output, hb.size, fun k hk' _ => hb.block k hk', hb.drawn⟩ (fun b h => .inr (hl b (by rwa [allZ_di] at h))) (fun b h => by rw [fmZ_di] at h; cases h) (by rwa [allZ_di]) (fun _ q hq => ?_)) (zsD_app X).symm
  obtain ⟨d, hd, rfl⟩ := List.mem_map.1 hq
  exact ⟨hX d hd, fun b h => (hl b (List.mem_flatMap.2 ⟨d, hd, h⟩)).2⟩
def Row.tightB (r : Row) : Bool := match r.k with | .ow _ _ => true | .sh _ => GoTy.flat r.α
theorem Row.tight {r : Row} (h : r.tightB = true) : r.res.tight := by
  intro w T T' ⟨cells, ho, hf, he⟩
  refine ⟨cells, ho, hf, fun i x hx => ?_⟩
  have h1 := he i x hx
  unfold Row.tightB at h
  cases hk : r.k with
  | ow Fs fr => rw [hk] at h1; exact h1
  | sh f =>
    rw [hk] at h1 h
    exact GoTy.mono (GoTy.own_rep (GoTy.own_flat h h1)) fun b hb _ => by cases hb
theorem zs_tight (hR : R.all Row.tightB = true) : ∀ q ∈ zs M R D, q.tight := by
  intro q hq
  rcases List.mem_append.1 hq with h | h
  · obtain ⟨m, _, rfl⟩ := List.mem_map.1 h; exact m.tight
  · rcases List.mem_append.1 h with h | h
    · obtain ⟨r, hr, rfl⟩ := List.mem_map.1 h; exact Row.tight (List.all_eq_true.1 hR r hr)
    · obtain ⟨d, _, rfl⟩ := List.mem_map.1 h; exact d.tight
theorem Mem.thaw {α : Type} [GoTy α] {F : List Nat} {A : Option Addr} {len cap : Nat} {xs : List α} (H : Mem w0 S M R (⟨F, MP.own F [.slice A len cap] xs⟩ :: D) I w) (hR : R.all Row.tightB = true) :
    ∃ Fs E, Mem w0 S M (⟨.ow Fs, E, A, cap, xs⟩ :: R) D [] w ∧ F = (Value.slice A xs.length cap).ownBlock.toList ++ List.flatten Fs := by
  obtain ⟨⟨A', cap', E, cells, Fs, hcs, ho, hF, hl, he⟩, -⟩ := H.diAt (d := ⟨F, MP.own F [.slice A len cap] xs⟩) (by simp)
  simp only [List.cons.injEq, Value.slice.injEq, and_true] at hcs
  obtain ⟨rfl, rfl, rfl⟩ := hcs
  refine ⟨Fs, E, ?_, hF⟩
  have H1 := MemZ.perm H (zsD_cons _)
  have e1 : allZ [Row.res ⟨.ow Fs, E, A, cap, xs⟩] = F := by rw [allZ_one, hF]; rfl
  have e2 : ∀ e : DI, allZ [e.res] = e.F := fun e => by rw [allZ_one]; rfl
  refine MemZ.perm (MemZ.turn (rs := [DI.res ⟨F, MP.own F [.slice A xs.length cap] xs⟩]) (rs' := [Row.res ⟨.ow Fs, E, A, cap, xs⟩]) H1 (Chg.refl _ _) (fun b hb => .inl (by rw [e1] at hb; rw [e2]; exact hb)) ?_ (zs_tight hR) (fun q hq => ?_)) (zsR_cons _).symm
  · have h1 := MemZ.nd H1
    rw [allZ_app, e2] at h1
    rw [e1]; exact (List.nodup_append.1 h1).1
  · rw [List.mem_singleton] at hq; subst hq
    exact ⟨cells, ho, hl, fun i x hx Fi hFi => he i x Fi hx hFi⟩
theorem rep_true {α : Type} [GoTy α] {T : Nat → Prop} {cs : List Value} {x : α} (h : GoTy.rep w T cs x) : GoTy.rep w (fun _ => True) cs x := GoTy.mono h fun b _ _ => ⟨trivial, rfl⟩
theorem rep_weak {α : Type} [GoTy α] {cs : List Value} {x : α} {f : Bool} (h : GoTy.rep w (St w0 S M R D f) cs x) : GoTy.rep w (St w0 S M R D false) cs x := GoTy.mono h fun b hb _ => by
  refine ⟨?_, rfl⟩
  rcases hb with ⟨rfl, h1, h2⟩ | h
  · exact .inl ⟨rfl, h1, h2⟩
  · exact .inr h
theorem Mem.pushNil (H : Mem w0 S M R D I w) (α : Type) [GoTy α] (f : Bool) : Mem w0 S M R D ((f, MP.val [.slice none 0 0] ([] : List α)) :: I) w :=
  H.push _ ⟨none, 0, rfl, Nat.le_refl _, by simp [maxLen], fun i x hx => by simp at hx⟩
def evp (L : List (Nat × Value)) : List (Nat × Operand) → Option (List (Nat × Value))
  | [] => some []
  | (i, x) :: r => (ev L x).bind fun v => (evp L r).map ((i, v) :: ·)
theorem Fr.evalp (hf : Fr a n L) : ∀ {ps : List (Nat × Operand)} {qs : List (Nat × Value)}, evp L ps = some qs → ps.map (fun p => (p.1, a.eval p.2)) = qs
  | [], qs, h => by simp [evp] at h; simp [h]
  | (i, x) :: r, qs, h => by
    simp only [evp, Option.bind_eq_some_iff, Option.map_eq_some_iff] at h
    obtain ⟨v, hv, us, hus, rfl⟩ := h
    simp [hf.eval hv, hf.evalp hus]
theorem el0 {α : Type} [GoTy α] {T : Nat → Prop} {cells : List Value} : ∀ i (x : α), ([] : List α)[i]? = some x → GoTy.rep w T ((cells.drop (i * GoTy.n α)).take (GoTy.n α)) x := by intro i x h; simp at h
theorem el1 {α : Type} [GoTy α] {T : Nat → Prop} {cells : List Value} {y : α} (h : GoTy.rep w T cells y) : ∀ i (x : α), [y][i]? = some x → GoTy.rep w T ((cells.drop (i * GoTy.n α)).take (GoTy.n α)) x := by
  intro i x hx
  cases i with
  | zero =>
    simp only [List.getElem?_cons_zero, Option.some.injEq] at hx
    subst hx
    rw [Nat.zero_mul, List.drop_zero, List.take_of_length_le (by rw [GoTy.len h]; exact Nat.le_refl _)]
    exact h
  | succ i => simp at hx
theorem elI {T : Nat → Prop} (ys : List Int) : ∀ i (x : Int), ys[i]? = some x → GoTy.rep w T (((ys.map (Value.int .i64)).drop (i * 1)).take 1) x := by
  intro i x hx
  show _ = _
  rw [Nat.mul_one, ← List.map_drop]
  obtain ⟨hl, he⟩ := List.getElem?_eq_some_iff.1 hx
  rw [List.drop_eq_getElem_cons hl, he]
  rfl
theorem op_bslice (hf : Fr a n L) (H : Mem w0 S M R D I w) {α : Type} [GoTy α] (kd : Kd) (hk0 : kd.fd = []) (E : TypeId) {T : TypeId} {m : Nat} {ps : List (Nat × Operand)} (xs : List α) (cells : List Value) {qs : List (Nat × Value)}
    (hp0 : evp L ps = some qs) (hb : ∀ w, (Instr.buildSlice T m qs.toArray).run P w = .ok (.slice (some ⟨w.heap.size, 0, none⟩) m m) (w.alloc (.cells cells.toArray E))) (hm : xs.length = m) (hmax : m ≤ 1099511627776)
    (hlen : cells.length = m * GoTy.n α) (hfit : kd.fits m) (hel : ∀ i x, xs[i]? = some x → kd.holds w (St w0 S M R D kd.fresh) i (part' α cells i) x) (hdn : d < n)
    (k : ∀ A a' w', Fr a' n ((d, .slice A m m) :: L) → Mem w0 S M (⟨kd, E, A, m, xs⟩ :: R) D I w' → K a' w') : Oper.wp P ⟨some d, .buildSlice T m ps.toArray, ty, pos, af, g⟩ a w K Q := by
  have hp := hf.evalp hp0
  have h1 : (execOp a.eval ⟨some d, .buildSlice T m ps.toArray, ty, pos, af, g⟩).run P w = .ok (.value (.slice (some ⟨w.heap.size, 0, none⟩) m m)) (w.alloc (.cells cells.toArray E)) := by
    have e : (ps.toArray.map fun p => (p.1, a.eval p.2)) = qs.toArray := by rw [List.map_toArray, hp]
    simp only [execOp]
    rw [show (ps.toArray.map fun x => match x with | (i, x) => (i, a.eval x)) = qs.toArray from e]
    simp [hb]
  unfold Oper.wp
  rw [h1, Oper.upon_value]
  exact k _ _ _ (hf.put hdn _) (H.newRow kd hk0 E xs cells m (by omega) (by simp only [maxLen]; omega) hlen (by rw [hm]; exact hfit) hel)
theorem op_bsliceO (hf : Fr a n L) {α : Type} [GoTy α] (E : TypeId) {T : TypeId} {ps : List (Nat × Operand)} {F : List Nat} {x : α} {cells : List Value} {qs : List (Nat × Value)} (H : Mem w0 S M R (⟨F, MP.own F cells x⟩ :: D) I w)
    (hp0 : evp L ps = some qs) (hb : ∀ w, (Instr.buildSlice T 1 qs.toArray).run P w = .ok (.slice (some ⟨w.heap.size, 0, none⟩) 1 1) (w.alloc (.cells cells.toArray E))) (hdn : d < n)
    (k : ∀ A a' w', Fr a' n ((d, .slice A 1 1) :: L) → Mem w0 S M (⟨.ow [F], E, A, 1, [x]⟩ :: R) D I w' → K a' w') : Oper.wp P ⟨some d, .buildSlice T 1 ps.toArray, ty, pos, af, g⟩ a w K Q := by
  have hp := hf.evalp hp0
  have h1 : (execOp a.eval ⟨some d, .buildSlice T 1 ps.toArray, ty, pos, af, g⟩).run P w = .ok (.value (.slice (some ⟨w.heap.size, 0, none⟩) 1 1)) (w.alloc (.cells cells.toArray E)) := by
    have e : (ps.toArray.map fun p => (p.1, a.eval p.2)) = qs.toArray := by rw [List.map_toArray, hp]
    simp only [execOp]
    rw [show (ps.toArray.map fun x => match x with | (i, x) => (i, a.eval x)) = qs.toArray from e]
    simp [hb]
  unfold Oper.wp
  rw [h1, Oper.upon_value]
  refine k _ _ _ (hf.put hdn _) ?_
  have hd := (H.diAt (d := ⟨F, MP.own F cells x⟩) (by simp)).1
  have hlen : cells.length = GoTy.n α := GoTy.len (GoTy.own_rep hd)
  have H1 := MemZ.perm H (zsD_cons _)
  have hnd := MemZ.nd H1
  rw [allZ_app, allZ_one] at hnd
  have hFn : F.Nodup := by simpa [Res.all, DI.res] using (List.nodup_append.1 hnd).1
  have hFl : ∀ b ∈ F, b < w.heap.size := fun b hb => (MemZ.lt H1 b (by rw [allZ_app, allZ_one]; exact List.mem_append.2 (.inl (List.mem_append.2 (.inr hb))))).2
  have e2 : (Row.res ⟨.ow [F], E, some ⟨w.heap.size, 0, none⟩, 1, [x]⟩).all = w.heap.size :: F := by
    show [w.heap.size] ++ List.flatten [F] = _
    simp
  refine MemZ.perm (MemZ.step (rs' := [Row.res ⟨.ow [F], E, some ⟨w.heap.size, 0, none⟩, 1, [x]⟩]) H1 (Chg.alloc _ _ _) (fun b hb => ?_) (fun b hb => ?_) ?_ (fun hm q hq => ?_)) (zsR_cons _).symm
  · rw [allZ_one, e2] at hb
    rw [allZ_one]
    rcases List.mem_cons.1 hb with rfl | h
    · exact .inr ⟨Nat.le_refl _, by simp⟩
    · exact .inl (List.mem_append.2 (.inr h))
  · rw [fmZ_one] at hb
    have : b = w.heap.size := by simpa [Row.res, Row.v, Value.ownBlock] using hb
    exact .inr (by omega)
  · rw [allZ_one, e2]
    exact List.nodup_cons.2 ⟨fun h => by have := hFl _ h; omega, hFn⟩
  · rw [List.mem_singleton] at hq; subst hq
    refine ⟨cells, ⟨by simpa using hlen, .inr ⟨w.heap.size, 1, cells.toArray, rfl, Nat.zero_le _, heap_alloc_new w _, Nat.le_refl _, by simp [maxLen], by simpa using hlen, by rw [show [x].length * GoTy.n α = cells.length by simp [hlen]]; exact List.take_length⟩⟩, rfl, fun i e hi Fi hFi => ?_⟩
    cases i with
    | succ i => simp at hi
    | zero =>
      simp only [List.getElem?_cons_zero, Option.some.injEq] at hi hFi
      subst hi hFi
      have : part' α cells 0 = cells := by unfold part'; rw [Nat.zero_mul, List.drop_zero, List.take_of_length_le (by omega)]
      rw [this]
      exact GoTy.own_mono hd fun b hb => Below.heap_alloc _ _ _ (hFl b hb)
theorem gather {α : Type} [GoTy α] {T : Nat → Prop} {p : Addr} : ∀ (ys : List α) (o : Nat), (∀ i x, ys[i]? = some x → ElemAt α w T p (o + i) x) →
    ∃ news : List Value, news.length = ys.length * GoTy.n α ∧ (∀ j u, news[j]? = some u → w.cell? (p.add (o * GoTy.n α + j)) = some u) ∧ (∀ u ∈ news, u.oneCell' = true) ∧
      ∀ i x, ys[i]? = some x → GoTy.rep w T ((news.drop (i * GoTy.n α)).take (GoTy.n α)) x
  | [], o, _ => ⟨[], by simp, by simp, by simp, by simp⟩
  | y :: ys, o, h => by
    obtain ⟨news, h1, h2, h3, h4⟩ := gather ys (o + 1) (fun i x hx => by have := h (i + 1) x (by simpa using hx); rwa [show o + (i + 1) = o + 1 + i by omega] at this)
    obtain ⟨cs, hc, hr⟩ := h 0 y rfl
    have hl := GoTy.len hr
    refine ⟨cs ++ news, by simp [hl, h1, Nat.add_mul, Nat.add_comm], fun j u hj => ?_, fun u hu => (List.mem_append.1 hu).elim (GoTy.one hr u) (h3 u), fun i x hx => ?_⟩
    · rw [List.getElem?_append] at hj
      split at hj
      · exact hc j u hj
      · have := h2 _ u hj
        rw [show (o + 1) * GoTy.n α + (j - cs.length) = o * GoTy.n α + j by rw [Nat.add_mul]; omega] at this
        exact this
    · cases i with
      | zero =>
        simp only [List.getElem?_cons_zero, Option.some.injEq] at hx
        subst hx
        simp only [Nat.zero_mul, List.drop_zero]
        rw [List.take_append_of_le_length (by omega), List.take_of_length_le (by omega)]
        exact hr
      | succ i =>
        have := h4 i x (by simpa using hx)
        have e : (cs ++ news).drop ((i + 1) * GoTy.n α) = news.drop (i * GoTy.n α) := by
          rw [Nat.add_mul, Nat.one_mul, Nat.add_comm, ← hl, List.drop_append]
          simp
        rw [e]
        exact this
theorem part_app1 {α : Type} [GoTy α] {cells news : List Value} {m i : Nat} (hc : cells.length = m * GoTy.n α) (hi : i < m) : part' α (cells ++ news) i = part' α cells i := by
  unfold part'
  have hle : i * GoTy.n α + GoTy.n α ≤ cells.length := by
    rw [hc]
    have := Nat.mul_le_mul_right (GoTy.n α) (show i + 1 ≤ m from hi)
    rwa [Nat.succ_mul] at this
  rw [List.drop_append_of_le_length (by omega), List.take_append_of_le_length (by rw [List.length_drop]; omega)]
theorem part_app2 {α : Type} [GoTy α] {cells news : List Value} {m i : Nat} (hc : cells.length = m * GoTy.n α) (hi : m ≤ i) : part' α (cells ++ news) i = part' α news (i - m) := by
  unfold part'
  rw [List.drop_append, List.drop_eq_nil_of_le (by rw [hc]; exact Nat.mul_le_mul_right _ hi), List.nil_append, hc, Nat.sub_mul]
theorem run_append_room_any (w : World) (t ty e e0 : TypeId) (i : TypeInfo) (ht : P.underlying t = some (.slice e)) (hi : P.info? e = some i) (g sLen sCap : Nat) (cur : Array Value) (hg : w.heap[g]? = some (.cells cur e0 (0, 0)))
    (a : Addr) (m c : Nat) (news : List Value) (hl : news.length = m * i.size) (hnews : ∀ j u, news[j]? = some u → w.cell? (a.add j) = some u) (h1 : ∀ u ∈ news, u.oneCell' = true) (hroom : sLen + m ≤ sCap) (hfit : sLen * i.size + news.length ≤ cur.size) :
    (Builtin.append_ #[t, t] ty #[.slice (some ⟨g, 0, none⟩) sLen sCap, .slice (some a) m c]).run P w =
      .ok (.slice (some ⟨g, 0, none⟩) (sLen + m) sCap) (w.setRow g (cur.toList.take (sLen * i.size) ++ news ++ cur.toList.drop (sLen * i.size + news.length)).toArray) := by
  have hf := run_firstCells_some (P := P) w i.size m a m c news hl hnews
  have hst := run_storeCells_at P g (sLen * i.size) e0 news 0 cur w hg (by simpa using hfit) h1
  simp only [Nat.add_zero] at hst
  simp [Builtin.append_, run_underlying ht, Go.sizeOf, typeInfo, hi, Builtin.lenOf, hroom, hf, Addr.add_lit, hst]
theorem run_append_any (w : World) (t ty e e0 : TypeId) (i : TypeInfo) (z : Value) (size bytes : Nat) (ht : P.underlying t = some (.slice e)) (hi : P.info? e = some i) (hz : i.zero = some z)
    (hsize : i.size = size) (hby : i.bytes = bytes) (hzs : z.cells.size = size) (hsz : 0 < size) (v : Value) (n : Nat) (xs : List Value) (hown : w.ownsRow 0 e0 size v n xs)
    (a : Addr) (m c : Nat) (news : List Value) (hl : news.length = m * size) (hnews : ∀ j u, news[j]? = some u → w.cell? (a.add j) = some u) (h1 : ∀ u ∈ news, u.oneCell' = true)
    (h63 : n + m ≤ maxLen) (hbytes : (n + m) * bytes ≤ 140737488355328) :
    ∃ e1 v' w', (Builtin.append_ #[t, t] ty #[v, .slice (some a) m c]).run P w = .ok v' w' ∧ w'.ownsRow 0 e1 size v' (n + m) (xs ++ news) ∧ GB w w' v.ownBlock ∧ (v'.ownBlock = v.ownBlock ∨ v'.ownBlock = some w.heap.size) := by
  rcases hown.2 with ⟨rfl, rfl⟩ | ⟨g, cap, cur, rfl, hbg, hg, hnc, hcm, hcs, htake⟩
  · have hx : xs = [] := List.eq_nil_of_length_eq_zero (by simpa using hown.1)
    subst hx
    obtain ⟨v', w', g1, g2, g3, _, g5⟩ := run_append_own_at (P := P) w 0 t ty e i z size bytes ht hi hz hsize hby hzs hsz (.slice none 0 0) 0 [] (World.ownsRow_nil _ _ _ _) a m c news hl hnews h1 h63 hbytes (Nat.zero_le _)
    refine ⟨e, v', w', g1, g2, ⟨g3, ?_⟩, g5⟩
    by_cases hm : m = 0
    · subst hm
      have hr : (Builtin.append_ #[t, t] ty #[.slice none 0 0, .slice (some a) 0 c]).run P w = .ok (.slice none 0 0) w := by
        simp [Builtin.append_, run_underlying ht, Go.sizeOf, typeInfo, hi, Builtin.lenOf, Builtin.firstCells, loadCells, loadCellsFrom]
      rw [hr] at g1
      injection g1 with _ e1
      exact Nat.le_refl _
    · have hr := run_append_nil (P := P) w t ty e i z ht hi hz a m c news (by rw [hsize]; exact hl) hnews (by omega) (by simp only [maxLen] at h63; omega) (by rw [hby]; simp only [Nat.zero_add] at hbytes; omega)
      rw [hr] at g1
      injection g1 with _ e1
      exact Nat.le_refl _
  · subst hsize
    subst hby
    have hlen : (xs ++ news).length = (n + m) * i.size := by rw [List.length_append, hown.1, hl, Nat.add_mul]
    by_cases hroom : n + m ≤ cap
    · have hfit : n * i.size + news.length ≤ cur.size := by rw [hl, hcs, ← Nat.add_mul]; exact Nat.mul_le_mul_right _ hroom
      have hr := run_append_room_any (P := P) w t ty e e0 i ht hi g n cap cur hg a m c news hl hnews h1 hroom hfit
      refine ⟨e0, _, _, hr, ⟨hlen, .inr ⟨g, cap, _, rfl, hbg, setRow_heap w g cur _ e0 _ hg, hroom, hcm, ?_, ?_⟩⟩, ⟨⟨rfl, rfl, rfl, by simp, fun k _ hk => setRow_other w g k _ (fun e => hk (by simp [Value.ownBlock, e]))⟩, Nat.le_refl _⟩, Or.inl rfl⟩
      · simp only [List.size_toArray, List.length_append, List.length_take, List.length_drop, Array.length_toList]
        omega
      · rw [htake, ← hlen]
        exact List.take_left
    · have holds : ∀ j u, xs[j]? = some u → w.cell? ((⟨g, 0, none⟩ : Addr).add j) = some u := hown.cells (g := g) rfl
      have hsmall : n + m ≤ 9223372036854775807 := by simp only [maxLen] at h63; omega
      have hr := run_append_grow (P := P) w t ty e i z ht hi hz ⟨g, 0, none⟩ n cap xs hown.1 holds a m c news hl hnews (by omega) (by omega) (growslice_fits (by omega) hbytes)
      have hge := grownCap_ge w (n + m) cap e
      have hcm : grownCap w (n + m) cap e ≤ maxLen := grownCap_le_maxLen w (n + m) cap e h63
      refine ⟨e, _, _, hr, ⟨hlen, .inr ⟨w.heap.size, _, _, rfl, Nat.zero_le _, heap_alloc_new w.drew _, hge, hcm, ?_, ?_⟩⟩, ⟨⟨rfl, rfl, rfl, by simp, fun k hk _ => heap_alloc_old w.drew _ hk⟩, Nat.le_refl _⟩, Or.inr rfl⟩
      · simp only [Array.size_append, List.size_toArray, size_zeroCells, hzs, hown.1, hl, ← Nat.add_mul]
        congr 1
        omega
      · simp only [Array.toList_append, List.append_assoc]
        rw [← List.append_assoc, ← hlen]
        exact List.take_left
theorem run_app {α : Type} [GoTy α] {T E E0 ty' : TypeId} {z : Value} {bytes : Nat} (hT : P.underlying T = some (.slice E)) (hE : AI P E (GoTy.n α) z bytes) (hz : z.cells.size = GoTy.n α) (hby : bytes ≤ 128) {A : Option Addr} {cap : Nat} {xs ys zs : List α} {cells : List Value}
    (ho : w.ownsRow 0 E0 (GoTy.n α) (.slice A xs.length cap) xs.length cells) (happ : app xs ys = some zs) {A' : Option Addr} {c : Nat} (hsrc : lrep w (fun _ => True) [.slice A' ys.length c] ys) :
    ∃ E1 A2 cap2 w' news, (Builtin.append_ #[T, T] ty' #[.slice A xs.length cap, .slice A' ys.length c]).run P w = .ok (.slice A2 zs.length cap2) w' ∧ w'.ownsRow 0 E1 (GoTy.n α) (.slice A2 zs.length cap2) zs.length (cells ++ news) ∧ GB w w' (Value.slice A xs.length cap).ownBlock ∧
      ((Value.slice A2 zs.length cap2).ownBlock = (Value.slice A xs.length cap).ownBlock ∨ ((Value.slice A2 zs.length cap2).ownBlock = some w.heap.size ∧ w.heap.size < w'.heap.size)) ∧ news.length = ys.length * GoTy.n α ∧
      (∀ p, A' = some p → ∀ j u, news[j]? = some u → w.cell? (p.add j) = some u) ∧ zs = xs ++ ys := by
  unfold app at happ
  split at happ
  case isFalse => cases happ
  rename_i hlen
  injection happ with happ
  subst happ
  obtain ⟨inf, hinf, hpr⟩ := Option.map_eq_some_iff.1 hE
  simp only [Prod.mk.injEq] at hpr
  obtain ⟨hz1, hz2, hz3⟩ := hpr
  obtain ⟨A'', c'', hcs, hyc, hcm, hel⟩ := hsrc
  simp only [List.cons.injEq, Value.slice.injEq, and_true] at hcs
  obtain ⟨rfl, -, rfl⟩ := hcs
  cases A' with
  | none =>
    have hy : ys = [] := by
      cases ys with
      | nil => rfl
      | cons y ys =>
        obtain ⟨p, hp, _⟩ := hel 0 y rfl
        cases hp
    subst hy
    simp only [List.append_nil]
    refine ⟨E0, A, cap, w, [], ?_, by simpa using ho, ⟨⟨rfl, rfl, rfl, Nat.le_refl _, fun _ _ _ => rfl⟩, Nat.le_refl _⟩, .inl rfl, by simp, by simp, trivial⟩
    rcases ho.2 with ⟨hv, h0⟩ | ⟨b, cap', cur, hv, _, _, hnc, _⟩
    · simp only [Value.slice.injEq] at hv
      obtain ⟨rfl, hv2, rfl⟩ := hv
      simp [Builtin.append_, run_underlying hT, Go.sizeOf, typeInfo, hinf, Builtin.lenOf, Builtin.firstCells, hv2]
    · simp only [Value.slice.injEq] at hv
      obtain ⟨rfl, -, rfl⟩ := hv
      simp [Builtin.append_, run_underlying hT, Go.sizeOf, typeInfo, hinf, Builtin.lenOf, Builtin.firstCells, hnc, storeCells]
  | some p =>
    obtain ⟨news, g1, g2, g3, _⟩ := gather (w := w) (T := fun _ => True) (p := p) ys 0 (fun k x hx => by
      obtain ⟨p', hp', _, h⟩ := hel k x hx
      injection hp' with hp'; subst hp'
      rwa [Nat.zero_add])
    simp only [Nat.zero_mul, Nat.zero_add] at g2
    have hbytes : (xs.length + ys.length) * bytes ≤ 140737488355328 := by
      have := Nat.mul_le_mul hlen hby
      omega
    obtain ⟨E1, v', w', hr, h1, h2, h4⟩ := run_append_any (P := P) w T ty' E E0 inf z (GoTy.n α) bytes hT hinf hz1 hz2 hz3 hz (GoTy.pos (α := α)) _ xs.length cells ho p ys.length c news g1 g2 g3 (by simp only [maxLen]; omega) hbytes
    have hform : ∃ A2 cap2, v' = .slice A2 (xs ++ ys).length cap2 := by
      rcases h1.2 with ⟨rfl, h0⟩ | ⟨b, cap', cur, rfl, _⟩
      · exact ⟨none, 0, by rw [List.length_append, h0]⟩
      · exact ⟨some ⟨b, 0, none⟩, cap', by rw [List.length_append]⟩
    obtain ⟨A2, cap2, rfl⟩ := hform
    refine ⟨E1, A2, cap2, w', news, hr, by rw [List.length_append] at h1 ⊢; exact h1, h2, h4.imp id fun h => ⟨h, (h1.lt _ h).2⟩, g1, fun q hq => by injection hq with hq; subst hq; exact g2, rfl⟩
theorem Mem.append (H : Mem w0 S M R D I w) {α : Type} [GoTy α] {T E E0 ty' : TypeId} {z : Value} {bytes : Nat} (hT : P.underlying T = some (.slice E)) (hE : AI P E (GoTy.n α) z bytes) (hz : z.cells.size = GoTy.n α) (hby : bytes ≤ 128) (i : Nat) {fr : Bool} {A : Option Addr} {cap : Nat} {xs ys zs : List α}
    (hi : R[i]? = some ⟨.sh fr, E0, A, cap, xs⟩) (happ : app xs ys = some zs) {A' : Option Addr} {c : Nat}
    (hsrc : lrep w (fun _ => True) [.slice A' ys.length c] ys) (hrep : (∀ (p : Addr) (news : List Value), A' = some p → news.length = ys.length * GoTy.n α → (∀ j u, news[j]? = some u → w.cell? (p.add j) = some u) → ∀ i x, ys[i]? = some x → GoTy.rep w (St w0 S M R D fr) (part' α news i) x)) :
    ∃ E1 A2 cap2 w', (Builtin.append_ #[T, T] ty' #[.slice A xs.length cap, .slice A' ys.length c]).run P w = .ok (.slice A2 zs.length cap2) w' ∧ Mem w0 S M (R.set i ⟨.sh fr, E1, A2, cap2, zs⟩) D I w' := by
  obtain ⟨cells, ho, hf, he⟩ := H.rowAt (List.mem_of_getElem? hi)
  obtain ⟨E1, A2, cap2, w', news, hr, h1, h2, h4, g1, g2, rfl⟩ := run_app (ty' := ty') hT hE hz hby ho happ hsrc
  refine ⟨E1, A2, cap2, w', hr, H.reRow hi h2 h4 (List.Perm.refl _) fun hm => ⟨cells ++ news, h1, trivial, fun k x hx => ?_⟩⟩
  have hcl : cells.length = xs.length * GoTy.n α := ho.1
  simp only at hx
  rw [List.getElem?_append] at hx
  split at hx
  · rename_i hk
    show GoTy.rep _ _ _ _
    rw [part_app1 hcl hk]
    exact GoTy.mono (show GoTy.rep w _ _ x from he k x hx) (hm _)
  · rename_i hk
    show GoTy.rep _ _ _ _
    rw [part_app2 hcl (by omega)]
    cases A' with
    | none =>
      obtain ⟨_, _, hcs, _, _, hel⟩ := hsrc
      obtain ⟨p, hp, _⟩ := hel _ x hx
      simp only [List.cons.injEq, Value.slice.injEq, and_true] at hcs
      rw [← hcs.1] at hp; cases hp
    | some p => exact GoTy.mono (hrep p news rfl g1 (g2 p rfl) _ x hx) (hm _)
theorem op_append_of (hf : Fr a n L) {T : TypeId} {x y : Operand} {v u : Value} (hx : ev L x = some v) (hy : ev L y = some u) {r : Value} {w' : World} (hr : (Builtin.append_ #[T, T] ty #[v, u]).run P w = .ok r w') (hdn : d < n)
    (k : ∀ a', Fr a' n ((d, r) :: L) → K a' w') : Oper.wp P ⟨some d, .call ⟨.builtin .append, #[x, y], #[T, T]⟩, ty, pos, af, g⟩ a w K Q := by
  have h1 : (execOp a.eval ⟨some d, .call ⟨.builtin .append, #[x, y], #[T, T]⟩, ty, pos, af, g⟩).run P w = .ok (.value r) w' := by
    simp [execOp, resolve, invoke, builtin, hf.eval hx, hf.eval hy, hr]
  unfold Oper.wp
  rw [h1, Oper.upon_value]
  exact k _ (hf.put hdn _)
theorem row_news {α : Type} [GoTy α] {E : TypeId} {p : Addr} {cap : Nat} {ys : List α} {cells news : List Value} (ho : w.ownsRow 0 E (GoTy.n α) (.slice (some p) ys.length cap) ys.length cells) (hl : news.length = ys.length * GoTy.n α)
    (hc : ∀ j u, news[j]? = some u → w.cell? (p.add j) = some u) : news = cells := by
  have hob : (Value.slice (some p) ys.length cap).ownBlock = some p.block := rfl
  have hp0 : p = ⟨p.block, 0, none⟩ := by
    rcases ho.2 with ⟨hv, _⟩ | ⟨b, c2, cur, hv, _⟩
    · simp only [Value.slice.injEq] at hv; cases hv.1
    · simp only [Value.slice.injEq] at hv; injection hv.1 with h; rw [h]
  apply List.ext_getElem?
  intro t
  have h1 : cells.length = ys.length * GoTy.n α := ho.1
  by_cases ht : t < ys.length * GoTy.n α
  · have h2 := ho.cells hob t _ (List.getElem?_eq_getElem (by omega))
    have h3 := hc t _ (List.getElem?_eq_getElem (by omega))
    rw [← hp0, h3] at h2
    rw [List.getElem?_eq_getElem (by omega), List.getElem?_eq_getElem (by omega)]
    exact h2
  · rw [List.getElem?_eq_none (by omega), List.getElem?_eq_none (by omega)]
theorem row_newsT {α : Type} [GoTy α] {E : TypeId} {p : Addr} {cap : Nat} {ys : List α} {cells news : List Value} (ho : w.ownsTail E (GoTy.n α) (.slice (some p) ys.length cap) ys.length cells) (hl : news.length = ys.length * GoTy.n α)
    (hc : ∀ j u, news[j]? = some u → w.cell? (p.add j) = some u) : news = cells := by
  obtain ⟨b, q, rfl⟩ : ∃ b q, p = ⟨b, q, none⟩ := by
    rcases ho.2 with ⟨hv, _⟩ | ⟨b, q, c2, cur, hv, _⟩
    · simp only [Value.slice.injEq] at hv; cases hv.1
    · simp only [Value.slice.injEq] at hv; injection hv.1 with h; exact ⟨b, q, h⟩
  apply List.ext_getElem?
  intro t
  have h1 : cells.length = ys.length * GoTy.n α := ho.1
  by_cases ht : t < ys.length * GoTy.n α
  · have h2 := tail_cells ho t _ (List.getElem?_eq_getElem (by omega))
    have h3 := hc t _ (List.getElem?_eq_getElem (by omega))
    rw [add_lit, h2] at h3
    rw [List.getElem?_eq_getElem (by omega), List.getElem?_eq_getElem (by omega)]
    exact h3.symm
  · rw [List.getElem?_eq_none (by omega), List.getElem?_eq_none (by omega)]
theorem op_appR (hf : Fr a n L) (H : Mem w0 S M R D I w) {α : Type} [GoTy α] {T E E0 E' : TypeId} {z : Value} {bytes : Nat} (hT : P.underlying T = some (.slice E)) (hE : AI P E (GoTy.n α) z bytes) (hz : z.cells.size = GoTy.n α) (hby : bytes ≤ 128) (i j : Nat) {fr fr' : Bool} {A A' : Option Addr} {cap cap' : Nat} {xs ys zs : List α}
    {x y : Operand} (hx : ev L x = some (.slice A xs.length cap)) (hy : ev L y = some (.slice A' ys.length cap')) (hi : R[i]? = some ⟨.sh fr, E0, A, cap, xs⟩) (hj : R[j]? = some ⟨.sh fr', E', A', cap', ys⟩) (hfr : fr = false ∨ fr' = true) (happ : app xs ys = some zs) (hdn : d < n)
    (k : ∀ E1 A2 cap2 a' w', Fr a' n ((d, .slice A2 zs.length cap2) :: L) → Mem w0 S M (R.set i ⟨.sh fr, E1, A2, cap2, zs⟩) D I w' → K a' w') : Oper.wp P ⟨some d, .call ⟨.builtin .append, #[x, y], #[T, T]⟩, ty, pos, af, g⟩ a w K Q := by
  obtain ⟨E1, A2, cap2, w', hr, H2⟩ := H.append (ty' := ty) hT hE hz hby i hi happ (H.rowTrue j hj) (fun p news hp hl hc q e hq => by
    obtain ⟨cells, ho, _, he⟩ := H.rowAt (List.mem_of_getElem? hj)
    subst hp
    obtain rfl := row_news ho hl hc
    have h5 : GoTy.rep w (St w0 S M R D fr') _ e := he q e hq
    rcases hfr with rfl | rfl
    · exact rep_weak h5
    · cases fr
      · exact rep_weak h5
      · exact h5)
  exact op_append_of hf hx hy hr hdn fun a' hf' => k _ _ _ _ _ hf' H2
theorem op_appI (hf : Fr a n L) (H : Mem w0 S M R D I w) {α : Type} [GoTy α] {T E E0 : TypeId} {z : Value} {bytes : Nat} (hT : P.underlying T = some (.slice E)) (hE : AI P E (GoTy.n α) z bytes) (hz : z.cells.size = GoTy.n α) (hby : bytes ≤ 128) (i j : Nat) {fr f : Bool} {A A' : Option Addr} {cap len' cap' : Nat} {xs ys zs : List α}
    {x y : Operand} (hx : ev L x = some (.slice A xs.length cap)) (hy : ev L y = some (.slice A' len' cap')) (hi : R[i]? = some ⟨.sh fr, E0, A, cap, xs⟩) (hj : I[j]? = some (f, MP.val [.slice A' len' cap'] ys)) (hfr : fr = false ∨ f = true) (happ : app xs ys = some zs) (hdn : d < n)
    (k : ∀ E1 A2 cap2 a' w', Fr a' n ((d, .slice A2 zs.length cap2) :: L) → Mem w0 S M (R.set i ⟨.sh fr, E1, A2, cap2, zs⟩) D I w' → K a' w') : Oper.wp P ⟨some d, .call ⟨.builtin .append, #[x, y], #[T, T]⟩, ty, pos, af, g⟩ a w K Q := by
  have hl : lrep w (St w0 S M R D f) [.slice A' len' cap'] ys := H.get j hj
  obtain ⟨A'', c'', hcs, hyc, hcm, hel⟩ := id hl
  simp only [List.cons.injEq, Value.slice.injEq, and_true] at hcs
  obtain ⟨rfl, rfl, rfl⟩ := hcs
  obtain ⟨E1, A2, cap2, w', hr, H2⟩ := H.append (ty' := ty) hT hE hz hby i hi happ (rep_true (α := List α) hl) (fun p news hp hl' hc q e hq => by
    obtain ⟨news', g1, g2, g3, g4⟩ := gather (w := w) (T := St w0 S M R D f) (p := p) ys 0 (fun k x hx => by
      obtain ⟨p', hp', _, h⟩ := hel k x hx
      rw [hp] at hp'
      injection hp' with hp'; subst hp'
      rwa [Nat.zero_add])
    have hn : news = news' := by
      apply List.ext_getElem?
      intro t
      by_cases ht : t < ys.length * GoTy.n α
      · have h2 := g2 t _ (List.getElem?_eq_getElem (by omega))
        have h3 := hc t _ (List.getElem?_eq_getElem (by omega))
        rw [Nat.zero_mul, Nat.zero_add, h3] at h2
        rw [List.getElem?_eq_getElem (by omega), List.getElem?_eq_getElem (by omega)]
        exact h2
      · rw [List.getElem?_eq_none (by omega), List.getElem?_eq_none (by omega)]
    subst hn
    have h5 : GoTy.rep w (St w0 S M R D f) (part' α news q) e := g4 q e hq
    rcases hfr with rfl | rfl
    · exact rep_weak h5
    · cases fr
      · exact rep_weak h5
      · exact h5)
  exact op_append_of hf hx hy hr hdn fun a' hf' => k _ _ _ _ _ hf' H2
theorem op_appO {R : List Row} (hf : Fr a n L) {α : Type} [GoTy α] {T E E0 E' : TypeId} {z : Value} {bytes : Nat} {Fs Gs : List (List Nat)} {A A' : Option Addr} {cap cap' : Nat} {xs ys zs : List α} {fr : Bool}
    (H : Mem w0 S M (⟨.ow Fs, E0, A, cap, xs⟩ :: ⟨.ow Gs fr, E', A', cap', ys⟩ :: R) D I w) (hT : P.underlying T = some (.slice E)) (hE : AI P E (GoTy.n α) z bytes) (hz : z.cells.size = GoTy.n α) (hby : bytes ≤ 128)
    {x y : Operand} (hx : ev L x = some (.slice A xs.length cap)) (hy : ev L y = some (.slice A' ys.length cap')) (happ : app xs ys = some zs) (hdn : d < n)
    (k : ∀ E1 A2 cap2 a' w', Fr a' n ((d, .slice A2 zs.length cap2) :: L) → Mem w0 S M (⟨.ow (Fs ++ Gs), E1, A2, cap2, zs⟩ :: R) D I w' → K a' w') : Oper.wp P ⟨some d, .call ⟨.builtin .append, #[x, y], #[T, T]⟩, ty, pos, af, g⟩ a w K Q := by
  obtain ⟨cells, ho, hfit, he⟩ := H.rowAt (r := ⟨.ow Fs, E0, A, cap, xs⟩) (by simp)
  obtain ⟨cells', ho', hfit', he'⟩ := H.rowAtK (r := ⟨.ow Gs fr, E', A', cap', ys⟩) (by simp)
  have hsrc : lrep w (fun _ => True) [.slice A' ys.length cap'] ys := H.rowTrue 1 rfl
  obtain ⟨E1, A2, cap2, w', news, hr, h1, h2, h4, g1, g2, rfl⟩ := run_app (ty' := ty) hT hE hz hby ho happ hsrc
  refine op_append_of hf hx hy hr hdn fun a' hf' => k E1 _ _ _ _ hf' ?_
  have hp : (zs M (⟨.ow Fs, E0, A, cap, xs⟩ :: ⟨.ow Gs fr, E', A', cap', ys⟩ :: R) D).Perm ([Row.res ⟨.ow Fs, E0, A, cap, xs⟩, Row.res ⟨.ow Gs fr, E', A', cap', ys⟩] ++ AT.zs M R D) := (zsR_cons _).trans ((zsR_cons _).append_left [_])
  have H1 := MemZ.perm H hp
  have hnd := MemZ.nd H1
  rw [allZ_app, allZ_two] at hnd
  have hnd' := (List.nodup_append.1 hnd).1
  have hlt : ∀ b ∈ allZ [Row.res ⟨.ow Fs, E0, A, cap, xs⟩, Row.res ⟨.ow Gs fr, E', A', cap', ys⟩], b < w.heap.size := fun b hb => (MemZ.lt H1 b (by rw [allZ_app]; exact List.mem_append.2 (.inl hb))).2
  have e0 : (Row.res ⟨.ow Fs, E0, A, cap, xs⟩).all = (Value.slice A xs.length cap).ownBlock.toList ++ List.flatten Fs := rfl
  have e1 : (Row.res ⟨.ow Gs fr, E', A', cap', ys⟩).all = (Value.slice A' ys.length cap').ownBlock.toList ++ List.flatten Gs := rfl
  have e2 : (Row.res ⟨.ow (Fs ++ Gs), E1, A2, cap2, xs ++ ys⟩).all = (Value.slice A2 (xs ++ ys).length cap2).ownBlock.toList ++ (List.flatten Fs ++ List.flatten Gs) := by
    show _ ++ List.flatten (Fs ++ Gs) = _
    rw [List.flatten_append]; rfl
  rw [e0, e1] at hnd'
  have hxg : ∀ b, b ∈ (Value.slice A2 (xs ++ ys).length cap2).ownBlock.toList → b ∈ (Value.slice A xs.length cap).ownBlock.toList ∨ (w.heap.size ≤ b ∧ b < w'.heap.size) := fun b hb => by
    rcases h4 with h | ⟨h, h'⟩
    · rw [h] at hb; exact .inl hb
    · rw [h] at hb; simp at hb; subst hb; exact .inr ⟨Nat.le_refl _, h'⟩
  have hflat : (List.flatten Fs ++ List.flatten Gs).Nodup := by
    refine List.Sublist.nodup ?_ hnd'
    exact (List.sublist_append_right _ _).append (List.sublist_append_right _ _)
  refine MemZ.perm (MemZ.step (rs' := [Row.res ⟨.ow (Fs ++ Gs), E1, A2, cap2, xs ++ ys⟩]) H1 ⟨h2.by_.os, h2.by_.tape, h2.by_.output, h2.by_.size, fun b hb hx => h2.by_.block b hb fun e => hx ?_, h2.drawn⟩ (fun b hb => ?_) (fun b hb => ?_) ?_ (fun hm q hq => ?_)) (zsR_cons _).symm
  · rw [fmZ_two]; exact List.mem_append.2 (.inl (by show b ∈ (Value.slice A xs.length cap).ownBlock.toList; rw [← e]; simp))
  · rw [allZ_one, e2] at hb
    rw [allZ_two, e0, e1]
    simp only [List.mem_append] at hb ⊢
    rcases hb with h | h | h
    · exact (hxg b h).imp (fun h => .inl (.inl h)) id
    · exact .inl (.inl (.inr h))
    · exact .inl (.inr (.inr h))
  · rw [fmZ_one] at hb; rw [fmZ_two]
    exact (hxg b hb).imp (fun h => List.mem_append.2 (.inl h)) (·.1)
  · rw [allZ_one, e2]
    rcases h4 with h | ⟨h, h'⟩
    · rw [h]
      refine List.Sublist.nodup ?_ hnd'
      rw [← List.append_assoc]
      exact (List.Sublist.refl _).append (List.sublist_append_right _ _)
    · rw [h]
      simp only [Option.toList_some, List.singleton_append, List.nodup_cons]
      refine ⟨fun hb => ?_, hflat⟩
      have := hlt w.heap.size (by
        rw [allZ_two, e0, e1]
        simp only [List.mem_append] at hb ⊢
        exact hb.imp .inr .inr)
      omega
  · rw [List.mem_singleton] at hq; subst hq
    have hsame : ∀ b, b ∈ List.flatten Fs ++ List.flatten Gs → w'.heap[b]? = w.heap[b]? := fun b hb => by
      refine h2.by_.block b (hlt b ?_) fun e => ?_
      · rw [allZ_two, e0, e1]
        simp only [List.mem_append] at hb ⊢
        exact hb.imp .inr .inr
      · have hm : b ∈ (Value.slice A xs.length cap).ownBlock.toList := by rw [← e]; simp
        rw [List.append_assoc] at hnd'
        refine (List.nodup_append.1 hnd').2.2 b hm b ?_ rfl
        simp only [List.mem_append] at hb ⊢
        exact hb.imp id .inr
    refine ⟨cells ++ news, h1, by simp only [Kd.fits, List.length_append] at hfit hfit' ⊢; omega, fun i e hi Fi hFi => ?_⟩
    have hcl : cells.length = xs.length * GoTy.n α := ho.1
    have hfl : Fs.length = xs.length := hfit
    simp only at hi
    rw [List.getElem?_append] at hi hFi
    rw [hfl] at hFi
    split at hi
    · rename_i hlt'
      rw [if_pos hlt'] at hFi
      rw [part_app1 hcl hlt']
      exact GoTy.own_mono (he i e hi Fi hFi) fun b hb => hsame b (List.mem_append.2 (.inl (mem_fs hFi hb)))
    · rename_i hlt'
      rw [if_neg hlt'] at hFi
      rw [part_app2 hcl (by omega)]
      cases A' with
      | none =>
        obtain ⟨_, _, hcs, _, _, hel⟩ := hsrc
        obtain ⟨p, hp, _⟩ := hel _ e hi
        simp only [List.cons.injEq, Value.slice.injEq, and_true] at hcs
        rw [← hcs.1] at hp; cases hp
      | some p =>
        obtain rfl := row_newsT (ownsK_tail ho') g1 (g2 p rfl)
        exact GoTy.own_mono (he' _ e hi Fi hFi) fun b hb => hsame b (List.mem_append.2 (.inr (mem_fs hFi hb)))
end
end AT

namespace AT
open Go Go.RowKit
structure Tab where
  sl : List TypeId
  bo : List TypeId
  st : List TypeId
  fa : List (TypeId × Nat × Nat)
def inl : List Nat → Nat → Bool
  | [], _ => false
  | x :: r, y => bif Nat.beq x y then true else inl r y
def foff : List (TypeId × Nat × Nat) → TypeId → Nat → Option Nat
  | [], _, _ => none
  | (t, f, o) :: r, t', f' => bif (Nat.beq t t' && Nat.beq f f') then some o else foff r t' f'
structure TabOk (P : Program) (t : Tab) : Prop where
  sl : ∀ T, inl t.sl T = true → ∃ E, P.underlying T = some (.slice E)
  bo : ∀ T, inl t.bo T = true → P.underlying T = some .bool
  st : ∀ T, inl t.st T = true → P.underlying T = some .string
  fa : ∀ T f o, foff t.fa T f = some o → FA P T f o
def p2 (tb : Tab) (op : BinOp) (T : TypeId) (v u : Value) : Option Value :=
  match v, u with
  | .int .i64 i, .int .i64 j =>
    match op with
    | .add => some (.int .i64 (w64 (i + j)))
    | .sub => some (.int .i64 (w64 (i - j)))
    | .mul => some (.int .i64 (w64 (i * j)))
    | .eql => some (.bool (i == j))
    | .neq => some (.bool (i != j))
    | .lss => some (.bool (decide (i < j)))
    | .leq => some (.bool (decide (i ≤ j)))
    | .gtr => some (.bool (decide (i > j)))
    | .geq => some (.bool (decide (i ≥ j)))
    | .and => some (.int .i64 (band i j))
    | .or => some (.int .i64 (bor i j))
    | .xor => some (.int .i64 (bxor i j))
    | .andNot => some (.int .i64 (bandn i j))
    | _ => none
  | .int .u8 i, .int .u8 j =>
    match op with
    | .eql => some (.bool (i == j))
    | .neq => some (.bool (i != j))
    | .lss => some (.bool (decide (i < j)))
    | .leq => some (.bool (decide (i ≤ j)))
    | .gtr => some (.bool (decide (i > j)))
    | .geq => some (.bool (decide (i ≥ j)))
    | _ => none
  | .bool b, .bool c =>
    match op with
    | .eql => bif inl tb.bo T then some (.bool (b == c)) else none
    | .neq => bif inl tb.bo T then some (.bool (b != c)) else none
    | _ => none
  | .string b, .string c =>
    match op with
    | .eql => some (.bool (b.toList == c.toList))
    | .neq => some (.bool (!(b.toList == c.toList)))
    | _ => none
  | _, _ => none
def p1 (op : UnOp) (v : Value) : Option Value :=
  match op, v with
  | .not, .bool b => some (.bool (!b))
  | .neg, .int .i64 i => some (.int .i64 (w64 (0 - i)))
  | _, _ => none
def pb (tb : Tab) (b : Builtin) (vs : List Value) (ts : List TypeId) : Option Value :=
  match b, vs, ts with
  | .len, [.slice _ m _], [T] => bif inl tb.sl T then some (.int .i64 m) else none
  | .len, [.string s], [T] => bif inl tb.st T then some (.int .i64 s.size) else none
  | .min, [.int .i64 i, .int .i64 j], [_, _] => some (.int .i64 (gmin i j))
  | .max, [.int .i64 i, .int .i64 j], [_, _] => some (.int .i64 (gmax i j))
  | _, _, _ => none
def pOp (tb : Tab) (L : List (Nat × Value)) : Op → Option Value
  | .move x => ev L x
  | .assign x => ev L x
  | .pick c x y =>
    match ev L c with
    | some (.bool true) => ev L x
    | some (.bool false) => ev L y
    | _ => none
  | .unOp op _ x =>
    match ev L x with
    | some v => p1 op v
    | none => none
  | .binOp op T x y _ =>
    match ev L x, ev L y with
    | some v, some u => p2 tb op T v u
    | _, _ => none
  | .extract x i =>
    match ev L x with
    | some (.tuple ⟨vs⟩) => vs[i]?
    | _ => none
  | .nilCheck x =>
    match ev L x with
    | some (.pointer (some p)) => some (.pointer (some p))
    | _ => none
  | .call ⟨.builtin b, ⟨xs⟩, ⟨ts⟩⟩ =>
    match evs L xs with
    | some vs => pb tb b vs ts
    | none => none
  | .fieldAddr T x f =>
    match ev L x with
    | some (.pointer (some ⟨b, j, none⟩)) =>
      match foff tb.fa T f with
      | some o => some (.pointer (some ⟨b, j + o, none⟩))
      | none => none
    | _ => none
  | _ => none
def pRun (tb : Tab) (ops : List Oper) : Nat → List (Nat × Value) → List Oper → List (Nat × Value) × List Oper
  | 0, L, l => (L, l)
  | _ + 1, L, [] => (L, [])
  | k + 1, L, ⟨some d, op, ty, pos, af, none⟩ :: l =>
    match pOp tb L op with
    | some v => pRun tb ops k ((d, v) :: L) l
    | none => (L, ⟨some d, op, ty, pos, af, none⟩ :: l)
  | k + 1, L, ⟨some d, op, ty, pos, af, some (j, want)⟩ :: l =>
    match (ops[j]?).bind (·.dst) with
    | none => (L, ⟨some d, op, ty, pos, af, some (j, want)⟩ :: l)
    | some e =>
      match lk L e, want with
      | some (.bool true), true | some (.bool false), false =>
        match pOp tb L op with
        | some v => pRun tb ops k ((d, v) :: L) l
        | none => (L, ⟨some d, op, ty, pos, af, some (j, want)⟩ :: l)
      | some (.bool true), false | some (.bool false), true => pRun tb ops k ((d, undef) :: L) l
      | _, _ => (L, ⟨some d, op, ty, pos, af, some (j, want)⟩ :: l)
  | _ + 1, L, l => (L, l)
section
variable {P : Program} {Q : Exit → Act → World → Prop} {a : Act} {w : World} {n : Nat} {L : List (Nat × Value)} {tb : Tab} {dst : Option Tmp} {ty : TypeId} {pos : String} {af : Array Edge} {g : Option (Nat × Bool)}
theorem run_binOp_of {op : BinOp} {T U : TypeId} {x y : Operand} {v u r : Value} (htb : TabOk P tb) (hf : Fr a n L) (hx : ev L x = some v) (hy : ev L y = some u) (h : p2 tb op T v u = some r) :
    (execOp a.eval ⟨dst, .binOp op T x y U, ty, pos, af, g⟩).run P w = .ok (.value r) w := by
  unfold p2 at h
  split at h
  · split at h <;> first | cases h | (injection h with h; subst h)
    · exact rq_add hf hx hy
    · exact rq_sub hf hx hy
    · exact rq_mul hf hx hy
    · exact rq_eql hf hx hy
    · exact rq_neq hf hx hy
    · exact rq_lss hf hx hy
    · exact rq_leq hf hx hy
    · exact rq_gtr hf hx hy
    · exact rq_geq hf hx hy
    · exact rq_and hf hx hy
    · exact rq_or hf hx hy
    · exact rq_xor hf hx hy
    · exact rq_andNot hf hx hy
  · split at h <;> first | cases h | (injection h with h; subst h)
    · exact rq_eql hf hx hy
    · exact rq_neq hf hx hy
    · exact rq_lss hf hx hy
    · exact rq_leq hf hx hy
    · exact rq_gtr hf hx hy
    · exact rq_geq hf hx hy
  · split at h
    · cases hb : inl tb.bo T <;> rw [hb] at h <;> first | cases h | (injection h with h; subst h)
      exact rq_beql hf (htb.bo T hb) hx hy
    · cases hb : inl tb.bo T <;> rw [hb] at h <;> first | cases h | (injection h with h; subst h)
      exact rq_bneq hf (htb.bo T hb) hx hy
    · cases h
  · split at h <;> first | cases h | (injection h with h; subst h)
    · exact rq_seql hf hx hy
    · exact rq_sneq hf hx hy
  · cases h
theorem pOp_ok {op : Op} {v : Value} (htb : TabOk P tb) (hf : Fr a n L) (h : pOp tb L op = some v) : (execOp a.eval ⟨dst, op, ty, pos, af, g⟩).run P w = .ok (.value v) w := by
  unfold pOp at h
  split at h
  · exact rq_move hf h
  · exact rq_assign hf h
  · split at h
    · rename_i hc; exact rq_pick_t hf hc h
    · rename_i hc; exact rq_pick_f hf hc h
    · cases h
  · split at h
    · rename_i u hx
      unfold p1 at h
      split at h <;> first | cases h | (injection h with h; subst h)
      · exact rq_not hf hx
      · exact rq_neg hf hx
    · cases h
  · split at h
    · rename_i v u hx hy
      exact run_binOp_of htb hf hx hy h
    · cases h
  · split at h
    · rename_i vs hx; exact rq_extract hf hx h
    · cases h
  · split at h
    · rename_i p hx
      injection h with h; subst h
      exact rq_nilck hf hx
    · cases h
  · split at h
    · rename_i xs ts _ vs hxs
      have hmap := hf.evals hxs
      unfold pb at h
      split at h
      · rename_i A m c T
        cases hb : inl tb.sl T <;> rw [hb] at h <;> first | cases h | (injection h with h; subst h)
        obtain ⟨E, hE⟩ := htb.sl T hb
        match xs, hmap, hxs with
        | [x], hmap, hxs =>
          have hx : ev L x = some (.slice A m c) := by
            simp only [evs, Option.bind_eq_some_iff, Option.map_eq_some_iff] at hxs
            obtain ⟨v, hv, us, hus, he⟩ := hxs
            simp only [List.cons.injEq] at he
            rw [hv, he.1]
          exact rq_len hf hE hx
        | [], hmap, _ => cases hmap
        | _ :: _ :: _, hmap, _ => simp at hmap
      · rename_i s T
        cases hb : inl tb.st T <;> rw [hb] at h <;> first | cases h | (injection h with h; subst h)
        match xs, hmap, hxs with
        | [x], hmap, hxs =>
          have hx : ev L x = some (.string s) := by
            simp only [evs, Option.bind_eq_some_iff, Option.map_eq_some_iff] at hxs
            obtain ⟨v, hv, us, hus, he⟩ := hxs
            simp only [List.cons.injEq] at he
            rw [hv, he.1]
          exact rq_slen hf (htb.st T hb) hx
        | [], hmap, _ => cases hmap
        | _ :: _ :: _, hmap, _ => simp at hmap
      · rename_i i j T U
        injection h with h; subst h
        match xs, hmap, hxs with
        | [x, y], hmap, hxs =>
          simp only [evs, Option.bind_eq_some_iff, Option.map_eq_some_iff] at hxs
          obtain ⟨v, hv, us, ⟨u, hu, us', hus', rfl⟩, he⟩ := hxs
          simp only [List.cons.injEq] at he
          exact rq_min hf (by rw [hv, he.1]) (by rw [hu, he.2.1])
        | [], hmap, _ => cases hmap
        | [_], hmap, _ => simp at hmap
        | _ :: _ :: _ :: _, hmap, _ => simp at hmap
      · rename_i i j T U
        injection h with h; subst h
        match xs, hmap, hxs with
        | [x, y], hmap, hxs =>
          simp only [evs, Option.bind_eq_some_iff, Option.map_eq_some_iff] at hxs
          obtain ⟨v, hv, us, ⟨u, hu, us', hus', rfl⟩, he⟩ := hxs
          simp only [List.cons.injEq] at he
          exact rq_max hf (by rw [hv, he.1]) (by rw [hu, he.2.1])
        | [], hmap, _ => cases hmap
        | [_], hmap, _ => simp at hmap
        | _ :: _ :: _ :: _, hmap, _ => simp at hmap
      · cases h
    · cases h
  · split at h
    · rename_i b j hx
      split at h
      · rename_i o ho
        injection h with h; subst h
        exact rq_faddrB hf (htb.fa _ _ _ ho) hx
      · cases h
    · cases h
  · cases h
def dstOk (n : Nat) : List Oper → Bool
  | [] => true
  | o :: l => (match o.dst with | some d => Nat.blt d n | none => true) && dstOk n l
theorem pRun_ok {ops : List Oper} (htb : TabOk P tb) : ∀ (k : Nat) (L : List (Nat × Value)) (l : List Oper) {L' : List (Nat × Value)} {l' : List Oper} {a : Act}, Fr a n L → dstOk n l = true → pRun tb ops k L l = (L', l') →
    (∀ a', Fr a' n L' → wpList P ops.toArray Q l' a' w) → wpList P ops.toArray Q l a w := by
  intro k
  induction k with
  | zero =>
    intro L l L' l' a hf _ h hk
    simp only [pRun, Prod.mk.injEq] at h
    obtain ⟨rfl, rfl⟩ := h
    exact hk a hf
  | succ k ih =>
    intro L l L' l' a hf hd h hk
    unfold pRun at h
    split at h
    · rename_i h1; cases h1
    · simp only [Prod.mk.injEq] at h
      obtain ⟨rfl, rfl⟩ := h
      exact hk a hf
    · rename_i kk L0 d op ty pos af l0 h1
      injection h1 with h1; subst h1
      simp only [dstOk, Bool.and_eq_true, Nat.blt_eq] at hd
      split at h
      · rename_i v hv
        refine wl0 rfl (op_q hf (pOp_ok htb hf hv) rfl hd.1 fun a' hf' => ?_)
        exact ih _ _ hf' hd.2 h hk
      · simp only [Prod.mk.injEq] at h
        obtain ⟨rfl, rfl⟩ := h
        exact hk a hf
    · rename_i kk L0 d op ty pos af j want l0 h1
      injection h1 with h1; subst h1
      simp only [dstOk, Bool.and_eq_true, Nat.blt_eq] at hd
      split at h
      · simp only [Prod.mk.injEq] at h
        obtain ⟨rfl, rfl⟩ := h
        exact hk a hf
      · rename_i e hj
        have hj' : (ops.toArray[j]?).bind (·.dst) = some e := by simpa using hj
        split at h
        · rename_i hb
          split at h
          · rename_i v hv
            refine wlg hf rfl hj' hb (op_q hf (pOp_ok htb hf hv) rfl hd.1 fun a' hf' => ?_)
            exact ih _ _ hf' hd.2 h hk
          · simp only [Prod.mk.injEq] at h
            obtain ⟨rfl, rfl⟩ := h
            exact hk a hf
        · rename_i hb
          split at h
          · rename_i v hv
            refine wlg hf rfl hj' hb (op_q hf (pOp_ok htb hf hv) rfl hd.1 fun a' hf' => ?_)
            exact ih _ _ hf' hd.2 h hk
          · simp only [Prod.mk.injEq] at h
            obtain ⟨rfl, rfl⟩ := h
            exact hk a hf
        · rename_i hb
          exact wls hf rfl hj' hb rfl rfl hd.1 fun a' hf' => ih _ _ hf' hd.2 h hk
        · rename_i hb
          exact wls hf rfl hj' hb rfl rfl hd.1 fun a' hf' => ih _ _ hf' hd.2 h hk
        · simp only [Prod.mk.injEq] at h
          obtain ⟨rfl, rfl⟩ := h
          exact hk a hf
    · simp only [Prod.mk.injEq] at h
      obtain ⟨rfl, rfl⟩ := h
      exact hk a hf
def VR {α : Type} [GoTy α] (w : World) (S : Nat → Prop) (v : Value) (x : α) : Prop := ∃ cs, GoTy.rep w S cs x ∧ v = (bif GoTy.agg α then .agg cs.toArray else cs.headD undef)
theorem VR_int {w : World} {S : Nat → Prop} {v : Value} {x : Int} (h : VR w S v x) : v = .int .i64 x := by obtain ⟨cs, rfl, rfl⟩ := h; rfl
theorem VR_bool {w : World} {S : Nat → Prop} {v : Value} {x : Bool} (h : VR w S v x) : v = .bool x := by obtain ⟨cs, rfl, rfl⟩ := h; rfl
theorem VR_str {w : World} {S : Nat → Prop} {v : Value} {x : ByteArray} (h : VR w S v x) : v = .string x := by obtain ⟨cs, rfl, rfl⟩ := h; rfl
theorem VR_list {α : Type} [GoTy α] {w : World} {S : Nat → Prop} {v : Value} {x : List α} (h : VR w S v x) : ∃ A c, v = .slice A x.length c ∧ lrep w S [.slice A x.length c] x := by
  obtain ⟨cs, h, rfl⟩ := h
  obtain ⟨A, c, rfl, h'⟩ := id h
  exact ⟨A, c, rfl, h⟩
theorem list_cells {α : Type} [GoTy α] {w : World} {S : Nat → Prop} {cs : List Value} {x : List α} (h : GoTy.rep w S cs x) : ∃ A c, cs = [.slice A x.length c] ∧ lrep w S [.slice A x.length c] x := by
  obtain ⟨A, c, rfl, h'⟩ := id h
  exact ⟨A, c, rfl, h⟩
theorem mk_int {w : World} {S : Nat → Prop} {x : Int} : VR w S (.int .i64 x) x := ⟨_, rfl, rfl⟩
theorem mk_bool {w : World} {S : Nat → Prop} {x : Bool} : VR w S (.bool x) x := ⟨_, rfl, rfl⟩
theorem mk_str {w : World} {S : Nat → Prop} {x : ByteArray} : VR w S (.string x) x := ⟨_, rfl, rfl⟩
theorem mk_list {α : Type} [GoTy α] {w : World} {S : Nat → Prop} {A : Option Addr} {m c : Nat} {x : List α} (h : lrep w S [.slice A m c] x) : VR w S (.slice A m c) x := ⟨_, h, rfl⟩
theorem then_n {K : Act → World → Prop} (h : K a w) : Exit.then K Q .normal a w := h
theorem then_x {K : Act → World → Prop} {i : Nat} (h : Q (.exit i) a w) : Exit.then K Q (.exit i) a w := h
theorem then_r {K : Act → World → Prop} (h : Q .ret a w) : Exit.then K Q .ret a w := h
theorem blk_r {i : Nat} (h : Q .ret a w) : Exit.inBlock i Q .ret a w := h
theorem blk_n {i : Nat} (h : Q .normal a w) : Exit.inBlock i Q .normal a w := h
theorem blk_e {i : Nat} (h : Q .normal a w) : Exit.inBlock i Q (.exit i) a w := by simpa [Exit.inBlock] using h
theorem blk_x {i j : Nat} (hne : Nat.beq j i = false) (h : Q (.exit j) a w) : Exit.inBlock i Q (.exit j) a w := by
  have : j ≠ i := fun e => by subst e; simp at hne
  simpa [Exit.inBlock, this] using h
theorem op_iaddr {w0 : Base} {S : Nat → Prop} {M : List Blk} {R : List Row} {D : List DI} {I : List (Bool × MP)} {K : Act → World → Prop} {d : Nat} (hf : Fr a n L) (H : Mem w0 S M R D I w) {α : Type} [GoTy α] {T E : TypeId} (hT : P.underlying T = some (.slice E)) (hE : SZ P E (GoTy.n α)) {x y : Operand} {A : Option Addr} {len cap : Nat} {k : IntKind} {i : Int} {xs : List α} {e : α} {f : Bool}
    (j : Nat) (hx : ev L x = some (.slice A len cap)) (hy : ev L y = some (.int k i)) (hi : I[j]? = some (f, MP.val [.slice A len cap] xs)) (he : idx xs i = some e) (hdn : d < n)
    (kk : ∀ b o cs a', Fr a' n ((d, .pointer (some ⟨b, o, none⟩)) :: L) → GoTy.rep w (St w0 S M R D f) cs e → Mem w0 S M R D ((f, MP.cells ⟨b, o, none⟩ cs) :: I) w → K a' w) : Oper.wp P ⟨some d, .indexAddr T x y, ty, pos, af, g⟩ a w K Q := by
  obtain ⟨b, o, cs, hq, hr, H2⟩ := rq_iaddr (dst := some d) (ty := ty) (pos := pos) (af := af) (g := g) hf H hT hE j hx hy hi he
  exact op_q hf hq rfl hdn fun a' hf' => kk b o cs a' hf' hr H2
theorem Mem.resF {w' : World} {S' : Nat → Prop} {w0 : Base} {S : Nat → Prop} {M : List Blk} {R : List Row} {D : List DI} {I : List (Bool × MP)} (H : Mem w0 S M R D I w) {f : MP} (h : f.pred w' (St ⟨w, []⟩ S' [] [] [] true)) : f.pred w' (St w0 S M R D true) :=
  f.mono h fun b hb _ => by
    refine ⟨?_, rfl⟩
    rcases hb with ⟨h, _⟩ | ⟨h1 | h1, _⟩
    · cases h
    · exact H.new h1 _
    · cases h1
theorem Mem.start (w0 : Base) (S : Nat → Prop) : Mem w0 S [] [] [] [] w0.w := ⟨⟨rfl, rfl, rfl, Nat.le_refl _, fun _ _ => rfl, Nat.le_refl _⟩, fun b hb => (by cases hb), .nil, fun r hr => (by cases hr), fun f hf => (by cases hf)⟩
theorem Mem.pushArg {w1 : World} {S : Nat → Prop} {M : List Blk} {R : List Row} {D : List DI} {I : List (Bool × MP)} (H : Mem ⟨w1, []⟩ S M R D I w) (f : MP) (h : f.pred w1 S) : Mem ⟨w1, []⟩ S M R D ((false, f) :: I) w :=
  H.push (false, f) (f.mono h fun b hb hlt => by
    have hn : ¬ (Base.nw ⟨w1, []⟩ b) := fun h => by
      rcases h with h | h
      · simp only at h; omega
      · cases h
    exact ⟨.inl ⟨rfl, hn, hb⟩, (MemZ.below H).block b hn⟩)
theorem Mem.bel {w1 : World} {S : Nat → Prop} {M : List Blk} {R : List Row} {D : List DI} {I : List (Bool × MP)} (H : Mem ⟨w1, []⟩ S M R D I w) : Below w1.heap.size w1 w := by
  have hb := MemZ.below H
  refine ⟨hb.os, hb.tape, hb.output, hb.size, fun k hk => hb.block k fun h => ?_, hb.drawn⟩
  rcases h with h | h
  · simp only at h; omega
  · cases h
theorem Fr.lit (hf : Fr a n L) (t : Nat) {b c : Bool} (h : lk L t = some (.bool b)) (hb : b = c) : Fr a n ((t, .bool c) :: L) := by
  subst hb
  refine ⟨hf.size, hf.defs, fun s v hs => ?_⟩
  rw [lk_cons] at hs
  by_cases he : t = s
  · subst he; rw [if_pos rfl] at hs; injection hs with hs; subst hs; exact hf.get t _ h
  · rw [if_neg he] at hs; exact hf.get s v hs
end
end AT

namespace AT
open Go Go.RowKit
theorem nle {a b : Nat} (h : Nat.ble a b = true) : a ≤ b := Nat.le_of_ble_eq_true h
def PT (P : Program) (E : TypeId) : Prop := ∀ w, (isAgg E).run P w = .ok false w ∧ (Go.sizeOf E).run P w = .ok 1 w
section
variable {P : Program} {Q : Exit → Act → World → Prop} {a : Act} {w : World} {w0 : Base} {n : Nat} {L : List (Nat × Value)} {K : Act → World → Prop}
variable {S : Nat → Prop} {M : List Blk} {R : List Row} {D : List DI} {I : List (Bool × MP)} {dst : Option Tmp} {d : Nat} {ty : TypeId} {pos : String} {af : Array Edge} {g : Option (Nat × Bool)}
theorem mid {c : Code} (Mid : Act → World → Prop) (h : c.wp P (Exit.then Mid Q) a w) (h2 : ∀ a w, Mid a w → Q .normal a w) : c.wp P Q a w :=
  Code.wp_mono (fun e a w q => by cases e <;> first | exact q | exact h2 a w q) h
theorem rq_build (hf : Fr a n L) {T : TypeId} {ps : List (Nat × Operand)} {qs : List (Nat × Value)} {cs : List Value} (hp0 : evp L ps = some qs) (hb : ∀ w, (Instr.build T qs.toArray).run P w = .ok (.agg cs.toArray) w) :
    (execOp a.eval ⟨dst, .build T ps.toArray, ty, pos, af, g⟩).run P w = .ok (.value (.agg cs.toArray)) w := by
  have e : (ps.toArray.map fun p => (p.1, a.eval p.2)) = qs.toArray := by rw [List.map_toArray, hf.evalp hp0]
  simp only [execOp]
  rw [show (ps.toArray.map fun x => match x with | (i, x) => (i, a.eval x)) = qs.toArray from e]
  simp [hb]
theorem Mem.rowWeak (H : Mem w0 S M R D I w) (i : Nat) {α : Type} [GoTy α] {fr : Bool} {E : TypeId} {A : Option Addr} {cap : Nat} {xs : List α} (hi : R[i]? = some ⟨.sh fr, E, A, cap, xs⟩) : Mem w0 S M (R.set i ⟨.sh false, E, A, cap, xs⟩) D I w := by
  refine H.reRow hi ⟨⟨rfl, rfl, rfl, Nat.le_refl _, fun _ _ _ => rfl⟩, Nat.le_refl _⟩ (.inl rfl) (List.Perm.refl _) fun hm => ?_
  obtain ⟨cells, ho, _, he⟩ := H.rowAt (List.mem_of_getElem? hi)
  exact ⟨cells, ho, trivial, fun j x hx => GoTy.mono (rep_weak (show GoTy.rep w (St w0 S M R D fr) _ x from he j x hx)) (hm false)⟩
theorem Mem.rowSh (H : Mem w0 S M R D I w) (i : Nat) {α : Type} [GoTy α] {Fs : List (List Nat)} {E : TypeId} {A : Option Addr} {cap : Nat} {xs : List α} (hi : R[i]? = some ⟨.ow Fs, E, A, cap, xs⟩) : Mem w0 S M (R.set i ⟨.sh true, E, A, cap, xs⟩) D I w := by
  have H1 := MemZ.perm H (zsR_out hi)
  refine MemZ.perm (MemZ.step (rs' := [Row.res ⟨.sh true, E, A, cap, xs⟩]) H1 (Chg.refl _ _) (fun b hb => .inl ?_) (fun b hb => .inl hb) ?_ (fun hm q hq => ?_)) (zsR_set _ hi).symm
  · rw [allZ_one] at hb ⊢
    have : b ∈ (Value.slice A xs.length cap).ownBlock.toList ++ [] := hb
    rw [List.append_nil] at this
    exact List.mem_append.2 (.inl this)
  · have h1 := MemZ.nd H1
    rw [allZ_app, allZ_one] at h1
    rw [allZ_one]
    show ((Value.slice A xs.length cap).ownBlock.toList ++ []).Nodup
    rw [List.append_nil]
    exact (List.nodup_append.1 (List.nodup_append.1 h1).1).1
  · rw [List.mem_singleton] at hq; subst hq
    have hmem := List.mem_of_getElem? hi
    obtain ⟨cells, ho, hf, he⟩ := H.rowAt hmem
    refine ⟨cells, ho, trivial, fun j x hx => ?_⟩
    have h1 := H.elRep hmem (List.getElem?_eq_some_iff.1 hx).1 hf (he j x hx)
    have h2 := hm true
    rw [← StZ_perm (zsR_out hi)] at h2
    exact GoTy.mono (show GoTy.rep w (StZ w0 S (zs M R D) true) _ x from h1) h2
theorem lrep_nil {α : Type} [GoTy α] {T : Nat → Prop} : lrep w T [.slice none 0 0] ([] : List α) := ⟨none, 0, rfl, Nat.le_refl _, by simp [maxLen], fun i x hx => by simp at hx⟩
def RA (A : Option Addr) (b o k : Nat) : Prop := ∃ q, A = some ⟨b, q, none⟩ ∧ o = q + k
theorem row_cells {α : Type} [GoTy α] (H : Mem w0 S M R D I w) {j : Nat} {kd : Kd} {E : TypeId} {A : Option Addr} {cap : Nat} {xs : List α} (hj : R[j]? = some ⟨kd, E, A, cap, xs⟩) {i : Int} {e : α} (he : idx xs i = some e) :
    ∃ b q, A = some ⟨b, q, none⟩ ∧ ∃ cs, GoTy.rep w (St w0 S M R D kd.fresh) cs e ∧ ∀ k c, cs[k]? = some c → w.cell? ((⟨b, q + i.toNat * GoTy.n α, none⟩ : Addr).add k) = some c := by
  obtain ⟨h0, h1, h2⟩ := idx_lt he
  have hmem := List.mem_of_getElem? hj
  obtain ⟨cells, ho, hf, hel⟩ := H.rowAtK hmem
  have hpos : 0 < xs.length := by omega
  obtain ⟨b, q, rfl⟩ := ownsK_at ho hpos
  have ht := ownsK_tail ho
  refine ⟨b, q, rfl, _, H.elRep hmem (List.getElem?_eq_some_iff.1 h2).1 hf (hel _ _ h2), fun k c hk => ?_⟩
  unfold part' at hk
  have hlt : k < GoTy.n α := by
    have := (List.getElem?_eq_some_iff.1 hk).1
    simp only [List.length_take] at this; omega
  have h4 := tail_cells ht (i.toNat * GoTy.n α + k) c
  rw [add_lit, Nat.add_assoc]
  refine h4 ?_
  rw [List.getElem?_take_of_lt hlt, List.getElem?_drop] at hk
  exact hk
theorem op_iaddrR (hf : Fr a n L) (H : Mem w0 S M R D I w) {α : Type} [GoTy α] {T E E' : TypeId} (hT : P.underlying T = some (.slice E)) (hE : SZ P E (GoTy.n α)) (j : Nat) {kd : Kd} {A : Option Addr} {cap : Nat} {xs : List α} {x y : Operand} {k : IntKind} {i : Int} {e : α}
    (hx : ev L x = some (.slice A xs.length cap)) (hy : ev L y = some (.int k i)) (hj : R[j]? = some ⟨kd, E', A, cap, xs⟩) (he : idx xs i = some e) (hdn : d < n)
    (kk : ∀ b o cs a', Fr a' n ((d, .pointer (some ⟨b, o, none⟩)) :: L) → RA A b o (i.toNat * GoTy.n α) → GoTy.rep w (St w0 S M R D kd.fresh) cs e → (∀ q c, cs[q]? = some c → w.cell? ((⟨b, o, none⟩ : Addr).add q) = some c) → K a' w) :
    Oper.wp P ⟨some d, .indexAddr T x y, ty, pos, af, g⟩ a w K Q := by
  obtain ⟨h0, h1, h2⟩ := idx_lt he
  obtain ⟨b, q, rfl, cs, hr, hc⟩ := row_cells H hj he
  have hi := run_indexAt (P := P) (w := w) (cap := cap) hT hE h0 h1 (p := ⟨b, q, none⟩) (k := k)
  rw [add_lit] at hi
  exact op_q hf (v := .pointer (some ⟨b, q + i.toNat * GoTy.n α, none⟩)) (by simp [execOp, hf.eval hx, hf.eval hy, hi]) rfl hdn fun a' hf' => kk b _ cs a' hf' ⟨q, rfl, rfl⟩ hr hc
theorem tail_stored {g o n cap s : Nat} {E : TypeId} {xs : List Value} (h : w.ownsTail E s (.slice (some ⟨g, o, none⟩) n cap) n xs) (j : Nat) (hj : j < n * s) (u : Value) :
    (w.setCell ⟨g, o + j, none⟩ u).ownsTail E s (.slice (some ⟨g, o, none⟩) n cap) n (xs.set j u) ∧ GB w (w.setCell ⟨g, o + j, none⟩ u) (some g) ∧ w.frozen? ⟨g, o + j, none⟩ = false := by
  rcases h.2 with ⟨h', _⟩ | ⟨g', o', cap', cur, h', hg, hnc, hcm, hcs, htake⟩
  · simp at h'
  · simp only [Value.slice.injEq, Option.some.injEq, Addr.mk.injEq, and_true, true_and] at h'
    obtain ⟨⟨rfl, rfl⟩, rfl⟩ := h'
    refine ⟨⟨by simpa using h.1, .inr ⟨g, o, cap, cur.setIfInBounds (o + j) u, rfl, heap_setCell_same w g (o + j) cur E u hg, hnc, hcm, by simpa using hcs, ?_⟩⟩,
      ⟨⟨rfl, rfl, rfl, by simp, fun k _ hk => heap_setCell_other w ⟨g, o + j, none⟩ k u (fun e => hk (by simp [e]))⟩, Nat.le_refl _⟩, frozen_of_row w g (o + j) cur E hg⟩
    rw [Array.toList_setIfInBounds, ← htake, List.drop_set, if_neg (by omega), List.take_set, Nat.add_sub_cancel_left]
theorem run_storeTail {b off n' cap size : Nat} {E : TypeId} (o : Nat) : ∀ (vs : List Value) (w : World) (q : Nat) (cells : List Value), w.ownsTail E size (.slice (some ⟨b, off, none⟩) n' cap) n' cells → (∀ v ∈ vs, v.oneCell' = true) → o + q + vs.length ≤ cells.length →
    ∃ w', (storeCells ⟨b, off + o, none⟩ vs q).run P w = .ok () w' ∧ w'.ownsTail E size (.slice (some ⟨b, off, none⟩) n' cap) n' (cells.take (o + q) ++ vs ++ cells.drop (o + q + vs.length)) ∧ GB w w' (some b) := by
  intro vs
  induction vs with
  | nil =>
    intro w q cells ho _ _
    exact ⟨w, by simp [storeCells], by simpa using ho, ⟨rfl, rfl, rfl, Nat.le_refl _, fun _ _ _ => rfl⟩, Nat.le_refl _⟩
  | cons v vs ih =>
    intro w q cells ho h1 hlen
    simp only [List.length_cons] at hlen
    have hcl : cells.length = n' * size := ho.1
    have hcell : w.cell? ⟨b, off + (o + q), none⟩ = some (cells[o + q]'(by omega)) := tail_cells ho _ _ (List.getElem?_eq_getElem (by omega))
    obtain ⟨ho1, hg1, hfz⟩ := tail_stored ho (o + q) (by omega) v
    have hst : (store ((⟨b, off + o, none⟩ : Addr).add q) v).run P w = .ok () (w.setCell ⟨b, off + (o + q), none⟩ v) := by
      rw [add_lit, Nat.add_assoc, run_store P w _ v .plain (h1 v (by simp)), hcell]
      simp [hfz]
    obtain ⟨w', hr, ho2, hg⟩ := ih _ (q + 1) _ ho1 (fun u hu => h1 u (by simp [hu])) (by simp; omega)
    refine ⟨w', by simp [storeCells, hst, hr], ?_, GB.trans hg1 hg⟩
    have e1 : (cells.set (o + q) v).take (o + (q + 1)) = cells.take (o + q) ++ [v] := by
      rw [show o + (q + 1) = (o + q) + 1 by omega, List.take_add_one, List.take_set_of_le (by omega)]
      simp [show o + q < cells.length by omega]
    rw [e1, List.drop_set_of_lt (by omega)] at ho2
    rw [List.length_cons, show o + q + (vs.length + 1) = o + (q + 1) + vs.length by omega]
    simpa using ho2
theorem run_storeRow {B b n' cap size : Nat} {E : TypeId} (o : Nat) : ∀ (vs : List Value) (w : World) (q : Nat) (cells : List Value), w.ownsRow B E size (.slice (some ⟨b, 0, none⟩) n' cap) n' cells → (∀ v ∈ vs, v.oneCell' = true) → o + q + vs.length ≤ cells.length →
    ∃ w', (storeCells ⟨b, o, none⟩ vs q).run P w = .ok () w' ∧ w'.ownsRow B E size (.slice (some ⟨b, 0, none⟩) n' cap) n' (cells.take (o + q) ++ vs ++ cells.drop (o + q + vs.length)) ∧ GB w w' (some b) := by
  intro vs
  induction vs with
  | nil =>
    intro w q cells ho _ _
    exact ⟨w, by simp [storeCells], by simpa using ho, ⟨rfl, rfl, rfl, Nat.le_refl _, fun _ _ _ => rfl⟩, Nat.le_refl _⟩
  | cons v vs ih =>
    intro w q cells ho h1 hlen
    simp only [List.length_cons] at hlen
    have hcl : cells.length = n' * size := ho.1
    have hcell : w.cell? ⟨b, o + q, none⟩ = some (cells[o + q]'(by omega)) := by
      rw [ho.cellAt _ (by omega)]; exact List.getElem?_eq_getElem (by omega)
    have hst : (store ((⟨b, o, none⟩ : Addr).add q) v).run P w = .ok () (w.setCell ⟨b, o + q, none⟩ v) := by
      rw [add_lit, run_store P w _ v .plain (h1 v (by simp)), hcell]
      simp [ho.frozenAt]
    obtain ⟨ho1, hg1'⟩ := ho.stored (o + q) v
    have hg1 : GB w (w.setCell ⟨b, o + q, none⟩ v) (some b) := ⟨hg1', Nat.le_refl _⟩
    obtain ⟨w', hr, ho2, hg⟩ := ih _ (q + 1) _ ho1 (fun u hu => h1 u (by simp [hu])) (by simp; omega)
    refine ⟨w', by simp [storeCells, hst, hr], ?_, GB.trans hg1 hg⟩
    have e1 : (cells.set (o + q) v).take (o + (q + 1)) = cells.take (o + q) ++ [v] := by
      rw [show o + (q + 1) = (o + q) + 1 by omega, List.take_add_one, List.take_set_of_le (by omega)]
      simp [show o + q < cells.length by omega]
    rw [e1, List.drop_set_of_lt (by omega)] at ho2
    rw [List.length_cons, show o + q + (vs.length + 1) = o + (q + 1) + vs.length by omega]
    simpa using ho2
theorem splice_part {l vs : List Value} {p m off q : Nat} (hl : p * m + m ≤ l.length) (hv : off + vs.length ≤ m) :
    ((l.take (p * m + off) ++ vs ++ l.drop (p * m + off + vs.length)).drop (q * m)).take m =
      if q = p then ((l.drop (p * m)).take m).take off ++ vs ++ ((l.drop (p * m)).take m).drop (off + vs.length) else (l.drop (q * m)).take m := by
  apply List.ext_getElem?
  intro j
  by_cases hj : j < m
  · rw [List.getElem?_take_of_lt hj, List.getElem?_drop]
    have hlen1 : (l.take (p * m + off)).length = p * m + off := by rw [List.length_take]; omega
    by_cases hq : q = p
    · subst hq
      rw [if_pos rfl, List.append_assoc, List.append_assoc, List.getElem?_append, List.getElem?_append, hlen1]
      have hlen2 : (((l.drop (q * m)).take m).take off).length = off := by simp; omega
      rw [List.getElem?_append, List.getElem?_append, hlen2]
      by_cases h1 : j < off
      · rw [if_pos (by omega), if_pos h1, List.getElem?_take_of_lt (by omega), List.getElem?_take_of_lt h1, List.getElem?_take_of_lt hj, List.getElem?_drop]
      · rw [if_neg (by omega), if_neg h1]
        by_cases h2 : j < off + vs.length
        · rw [if_pos (by omega), if_pos (by omega)]
          congr 1; omega
        · rw [if_neg (by omega), if_neg (by omega), List.getElem?_drop, List.getElem?_drop, List.getElem?_take_of_lt (by omega), List.getElem?_drop]
          congr 1; omega
    · rw [if_neg hq, List.getElem?_take_of_lt hj, List.getElem?_drop, List.append_assoc, List.getElem?_append, List.getElem?_append, hlen1]
      rcases Nat.lt_or_gt_of_ne hq with h | h
      · have h1 : q * m + m ≤ p * m := by
          have := Nat.mul_le_mul_right m (show q + 1 ≤ p from h)
          rwa [Nat.succ_mul] at this
        rw [if_pos (by omega), List.getElem?_take_of_lt (by omega)]
      · have h1 : p * m + m ≤ q * m := by
          have := Nat.mul_le_mul_right m (show p + 1 ≤ q from h)
          rwa [Nat.succ_mul] at this
        rw [if_neg (by omega), if_neg (by omega), List.getElem?_drop]
        congr 1; omega
  · rw [List.getElem?_eq_none (by simp; omega)]
    split
    · rw [List.getElem?_eq_none (by simp; omega)]
    · rw [List.getElem?_eq_none (by simp; omega)]
theorem run_store {α : Type} [GoTy α] {T : TypeId} {m : Nat} (hT : SZ P T m) (hf : Fr a n L) {E : TypeId} {A : Option Addr} {cap : Nat} {xs : List α} {x y : Operand} {b o off : Nat} {i : Int} {e : α} {v : Value} {vs cells : List Value} {fr : Bool}
    (hx : ev L x = some (.pointer (some ⟨b, o + off, none⟩))) (hy : ev L y = some v) (hv : v.cells = vs.toArray) (h1 : (vs.all Value.oneCell') = true) (hm : vs.length = m) (hoff : off + m ≤ GoTy.n α)
    (hA : RA A b o (i.toNat * GoTy.n α)) (he : idx xs i = some e) (ho : w.ownsK fr E (GoTy.n α) (.slice A xs.length cap) xs.length cells) (e' : α) :
    ∃ w' cells', (execOp a.eval ⟨none, .store T x y, ty, pos, af, g⟩).run P w = .ok .skip w' ∧ GB w w' (Value.slice A xs.length cap).ownBlock ∧ w'.ownsK fr E (GoTy.n α) (.slice A (xs.set i.toNat e').length cap) (xs.set i.toNat e').length cells' ∧
      ∀ q, part' α cells' q = if q = i.toNat then (part' α cells i.toNat).take off ++ vs ++ (part' α cells i.toNat).drop (off + vs.length) else part' α cells q := by
  obtain ⟨q0, rfl, rfl⟩ := hA
  obtain ⟨h0, hlt, hg⟩ := idx_lt he
  have hT' : ∀ w, (Go.sizeOf T).run P w = .ok m w := hT
  have hcl : cells.length = xs.length * GoTy.n α := (ownsK_tail ho).1
  have hle : i.toNat * GoTy.n α + GoTy.n α ≤ cells.length := by
    rw [hcl]
    have := Nat.mul_le_mul_right (GoTy.n α) (show i.toNat + 1 ≤ xs.length by omega)
    rwa [Nat.succ_mul] at this
  have hrun : ∃ w', (storeCells ⟨b, q0 + i.toNat * GoTy.n α + off, none⟩ vs 0).run P w = .ok () w' ∧ w'.ownsK fr E (GoTy.n α) (.slice (some ⟨b, q0, none⟩) xs.length cap) xs.length (cells.take (i.toNat * GoTy.n α + off + 0) ++ vs ++ cells.drop (i.toNat * GoTy.n α + off + 0 + vs.length)) ∧ GB w w' (some b) := by
    cases fr with
    | false =>
      have hq : q0 = 0 := by
        rcases ho.2 with ⟨hv, -⟩ | ⟨g, cap', cur, hv, -⟩
        · simp at hv
        · simp only [Value.slice.injEq, Option.some.injEq, Addr.mk.injEq] at hv
          exact hv.1.2.1
      subst hq
      rw [Nat.zero_add]
      exact run_storeRow (P := P) (i.toNat * GoTy.n α + off) vs w 0 cells ho (by simpa using h1) (by omega)
    | true =>
      rw [Nat.add_assoc]
      exact run_storeTail (P := P) (i.toNat * GoTy.n α + off) vs w 0 cells ho (by simpa using h1) (by omega)
  obtain ⟨w', hr, ho2, hg2⟩ := hrun
  refine ⟨w', _, ?_, hg2, by rw [List.length_set]; exact ho2, fun q => ?_⟩
  · simp [execOp, Instr.storeAt, Instr.sureAddr, storeVar, hf.eval hx, hf.eval hy, hv, hT', hm, hr]
  · unfold part'
    rw [Nat.add_zero]
    exact splice_part hle (by omega)
theorem getElem?_set' {β : Type} {l : List β} {i q : Nat} {x z : β} (h : (l.set i x)[q]? = some z) : (q = i ∧ z = x) ∨ (q ≠ i ∧ l[q]? = some z) := by
  rw [List.getElem?_set] at h
  by_cases hq : i = q
  · rw [if_pos hq] at h
    split at h
    · exact .inl ⟨hq.symm, (Option.some.inj h).symm⟩
    · cases h
  · rw [if_neg hq] at h; exact .inr ⟨Ne.symm hq, h⟩
theorem op_storeR (hf : Fr a n L) (H : Mem w0 S M R D I w) {α : Type} [GoTy α] {T : TypeId} {m : Nat} (hT : SZ P T m) (j : Nat) {kd : Kd} {E : TypeId} {A : Option Addr} {cap : Nat} {xs : List α} {x y : Operand} {b o off : Nat} {i : Int} {e e' : α} {v : Value} {vs : List Value}
    (hx : ev L x = some (.pointer (some ⟨b, o + off, none⟩))) (hy : ev L y = some v) (hv : v.cells = vs.toArray) (h1 : (vs.all Value.oneCell') = true) (hm : vs.length = m) (hoff : off + m ≤ GoTy.n α) (hj : R[j]? = some ⟨kd, E, A, cap, xs⟩)
    (hA : RA A b o (i.toNat * GoTy.n α)) (he : idx xs i = some e) (hnew : ∀ cs, kd.holds w (St w0 S M R D kd.fresh) i.toNat cs e → kd.holds w (St w0 S M R D kd.fresh) i.toNat (cs.take off ++ vs ++ cs.drop (off + vs.length)) e')
    (k : ∀ w', Mem w0 S M (R.set j ⟨kd, E, A, cap, xs.set i.toNat e'⟩) D I w' → K a w') : Oper.wp P ⟨none, .store T x y, ty, pos, af, g⟩ a w K Q := by
  have hmem := List.mem_of_getElem? hj
  obtain ⟨cells, ho, hfit, hel⟩ := H.rowAtK hmem
  obtain ⟨w', cells', hr, hg, ho2, hpt⟩ := run_store (ty := ty) (pos := pos) (af := af) (g := g) hT hf hx hy hv h1 hm hoff hA he ho e'
  unfold Oper.wp
  rw [hr, Oper.upon_skip]
  have hown : Same w w' kd.fd := fun c hc => by
    have hp := zsR_out (M := M) (D := D) hj
    have h3 := MemZ.nd (MemZ.perm H hp)
    rw [allZ_app, allZ_one] at h3
    have h4 : (Value.slice A xs.length cap).ownBlock.toList ++ kd.fd = (Row.res ⟨kd, E, A, cap, xs⟩).all := rfl
    have h5 := (List.nodup_append.1 h3).1
    rw [← h4] at h5
    refine hg.block c (MemZ.lt H c (List.mem_flatMap.2 ⟨_, row_mem hmem, List.mem_append.2 (.inr hc)⟩)).2 fun e => ?_
    exact (List.nodup_append.1 h5).2.2 c (by rw [← e]; simp) c hc rfl
  refine k w' (H.reRow hj hg (.inl (by show Value.ownBlock (.slice A (xs.set i.toNat e').length cap) = _; rw [List.length_set]; rfl)) (List.Perm.refl _) fun hmv => ⟨cells', ho2, by show kd.fits (xs.set _ _).length; rw [List.length_set]; exact hfit, fun q z hz => ?_⟩)
  rw [hpt]
  rcases getElem?_set' hz with ⟨hq, hz⟩ | ⟨hq, hz⟩
  · rw [if_pos hq, hq, hz]
    exact Kd.holds_mono (hnew _ (hel _ _ (idx_lt he).2.2)) hown (hmv _)
  · rw [if_neg hq]
    exact Kd.holds_mono (hel _ _ hz) hown (hmv _)
theorem st_full {α : Type} [GoTy α] {T : Nat → Prop} {vs : List Value} {e e' : α} (hv : GoTy.rep w T vs e') : ∀ cs, GoTy.rep w T cs e → GoTy.rep w T (cs.take 0 ++ vs ++ cs.drop (0 + vs.length)) e' := by
  intro cs hc
  rw [List.take_zero, List.nil_append, Nat.zero_add, List.drop_eq_nil_of_le (by rw [GoTy.len hc, GoTy.len hv]; exact Nat.le_refl _), List.append_nil]
  exact hv
theorem op_sliceI (hf : Fr a n L) (H : Mem w0 S M R D I w) {α : Type} [GoTy α] {T E : TypeId} (hT : P.underlying T = some (.slice E)) (hE : SZ P E (GoTy.n α)) {x : Operand} {lo hi : Option Operand} {A : Option Addr} {len cap : Nat} {i j : Int} {xs ys : List α} {f : Bool} (q : Nat)
    (hx : ev L x = some (.slice A len cap)) (hlo : match lo with | some o => ev L o = some (.int .i64 i) | none => i = 0) (hhi : match hi with | some o => ev L o = some (.int .i64 j) | none => j = len)
    (hq : I[q]? = some (f, MP.val [.slice A len cap] xs)) (hs : sub xs i j = some ys) (hdn : d < n)
    (k : ∀ A' c' a', Fr a' n ((d, .slice A' ys.length c') :: L) → Mem w0 S M R D ((f, MP.val [.slice A' ys.length c'] ys) :: I) w → K a' w) : Oper.wp P ⟨some d, .slice T x lo hi none, ty, pos, af, g⟩ a w K Q := by
  obtain ⟨A', cap', hcs, hlc, hcm, hel⟩ : lrep w (St w0 S M R D f) [.slice A len cap] xs := H.get q hq
  simp only [List.cons.injEq, Value.slice.injEq, and_true] at hcs
  obtain ⟨rfl, rfl, rfl⟩ := hcs
  unfold sub at hs
  split at hs
  case isFalse => cases hs
  rename_i hb
  obtain ⟨h0, h1, h2⟩ := hb
  injection hs with hs
  have hyl : ys.length = j.toNat - i.toNat := by rw [← hs]; simp; omega
  have hE' : ∀ w, (Go.sizeOf E).run P w = .ok (GoTy.n α) w := hE
  have hval : (execOp a.eval ⟨some d, .slice T x lo hi none, ty, pos, af, g⟩).run P w = .ok (.value (.slice (if cap = i.toNat then A else A.map (·.add (i.toNat * GoTy.n α))) ys.length (cap - i.toNat))) w := by
    have hj : (j.toNat : Int) = j := Int.toNat_of_nonneg (by omega)
    have hlo' : (lo.map a.eval) = none ∧ i = 0 ∨ (lo.map a.eval) = some (.int .i64 i) := by
      cases lo with
      | none => exact .inl ⟨rfl, hlo⟩
      | some o => exact .inr (by simp [hf.eval hlo])
    have hhi' : (hi.map a.eval) = none ∧ j = xs.length ∨ (hi.map a.eval) = some (.int .i64 j) := by
      cases hi with
      | none => exact .inl ⟨rfl, hhi⟩
      | some o => exact .inr (by simp [hf.eval hhi])
    have hsl : (Instr.sliceAt T (.slice A xs.length cap) (lo.map a.eval) (hi.map a.eval) none).run P w = .ok (.slice (if cap = i.toNat then A else A.map (·.add (i.toNat * GoTy.n α))) ys.length (cap - i.toNat)) w := by
      rw [hyl]
      have hsb : (Instr.sliceBounds true xs.length cap (lo.map a.eval) (hi.map a.eval) none).run P w = .ok (i.toNat, j.toNat, cap) w := by
        rcases hlo' with ⟨e1, rfl⟩ | e1 <;> rcases hhi' with ⟨e2, e3⟩ | e2 <;> rw [e1, e2]
        · subst e3; simp [Instr.sliceBounds]
        · simp [Instr.sliceBounds, Instr.sliceBound, asIntOf, show 0 ≤ j by omega, show j ≤ cap by omega]
        · subst e3; simp [Instr.sliceBounds, Instr.sliceBound, asIntOf, h0, h1]
        · simp [Instr.sliceBounds, Instr.sliceBound, asIntOf, h0, show 0 ≤ j by omega, show j ≤ cap by omega, hj, h1]
      simp [Instr.sliceAt, Instr.slice, run_underlying hT, hsb, hE']
    simp [execOp, hf.eval hx, hsl]
  refine op_q hf hval rfl hdn fun a' hf' => k _ _ a' hf' (H.push _ ?_)
  refine ⟨_, _, rfl, by omega, by omega, fun t z hz => ?_⟩
  have hz' : xs[i.toNat + t]? = some z := by
    rw [← hs, List.getElem?_drop] at hz
    rw [List.getElem?_take] at hz
    split at hz
    · exact hz
    · cases hz
  obtain ⟨p, hp, hSp, cs, hc, hr⟩ := hel _ _ hz'
  have hlt := (List.getElem?_eq_some_iff.1 hz').1
  rw [if_neg (by omega), hp]
  refine ⟨p.add (i.toNat * GoTy.n α), rfl, by rw [block_add]; exact hSp, cs, fun u c hu => ?_, hr⟩
  rw [add_add, ← Nat.add_assoc, ← Nat.add_mul]
  exact hc u c hu
end
end AT

namespace AT
open Go Go.RowKit
section
variable {w w' w1 : World} {w0 : Base} {S : Nat → Prop} {M : List Blk} {R : List Row} {D : List DI} {I : List (Bool × MP)}
def VO {α : Type} [GoTy α] (w : World) (F : List Nat) (v : Value) (x : α) : Prop := ∃ cs, GoTy.own w F cs x ∧ v = (bif GoTy.agg α then .agg cs.toArray else cs.headD undef)
def New (w w' : World) (F : List Nat) : Prop := F.Nodup ∧ ∀ b ∈ F, w.heap.size ≤ b ∧ b < w'.heap.size
def Back (w w' : World) (F F' : List Nat) : Prop := F'.Nodup ∧ ∀ b ∈ F', (w.heap.size ≤ b ∨ b ∈ F) ∧ b < w'.heap.size
theorem VO_list {α : Type} [GoTy α] {F : List Nat} {v : Value} {x : List α} (h : VO w F v x) : ∃ A c, v = .slice A x.length c ∧ lown w F [.slice A x.length c] x := by
  obtain ⟨cs, h, rfl⟩ := h
  obtain ⟨A, c, E, cells, Fs, rfl, h'⟩ := id h
  exact ⟨A, c, rfl, h⟩
theorem own_list {α : Type} [GoTy α] {F : List Nat} {cs : List Value} {x : List α} (h : GoTy.own w F cs x) : ∃ A c, cs = [.slice A x.length c] ∧ lown w F [.slice A x.length c] x := by
  obtain ⟨A, c, E, cells, Fs, rfl, h'⟩ := id h
  exact ⟨A, c, rfl, h⟩
theorem mko_list {α : Type} [GoTy α] {F : List Nat} {A : Option Addr} {m c : Nat} {x : List α} (h : lown w F [.slice A m c] x) : VO w F (.slice A m c) x := ⟨_, h, rfl⟩
theorem lown_nil {α : Type} [GoTy α] : lown w [] [.slice none 0 0] ([] : List α) := ⟨none, 0, 0, [], [], rfl, World.ownsRow_nil _ _ _ _, rfl, rfl, fun i x Fi hx => by simp at hx⟩
theorem Mem.ownNil (H : Mem w0 S M R D I w) (α : Type) [GoTy α] : Mem w0 S M R (⟨[], MP.own [] [.slice none 0 0] ([] : List α)⟩ :: D) I w :=
  H.recast (X := []) (Y := [⟨[], MP.own [] [.slice none 0 0] ([] : List α)⟩]) (by simp) fun _ d hd => by
    rw [List.mem_singleton] at hd; subst hd
    exact ⟨lown_nil, fun b hb => hb⟩
theorem Mem.diNd {d : DI} (H : Mem w0 S M R (d :: D) I w) : d.F.Nodup ∧ ∀ b ∈ d.F, w0.nw b ∧ b < w.heap.size := by
  have H1 := MemZ.perm H (zsD_cons d)
  have hall : allZ [d.res] = d.F := by rw [allZ_one]; rfl
  have h1 := MemZ.nd H1
  rw [allZ_app, hall] at h1
  exact ⟨(List.nodup_append.1 h1).1, fun b hb => MemZ.lt H1 b (by rw [allZ_app, hall]; exact List.mem_append.2 (.inl hb))⟩
theorem Mem.ends {X : List DI} (H : Mem ⟨w1, []⟩ S M R (X ++ D) I w) : New w1 w (X.flatMap DI.F) := by
  have H1 := MemZ.perm H (zsD_app X)
  have h1 := MemZ.nd H1
  rw [allZ_app, allZ_di] at h1
  refine ⟨(List.nodup_append.1 h1).1, fun b hb => ?_⟩
  obtain ⟨h2, h3⟩ := MemZ.lt H1 b (by rw [allZ_app, allZ_di]; exact List.mem_append.2 (.inl hb))
  rcases h2 with h2 | h2
  · exact ⟨h2, h3⟩
  · cases h2
theorem Mem.ownAt (H : Mem w0 S M R D I w) (j : Nat) {α : Type} [GoTy α] {F : List Nat} {cs : List Value} {x : α} (hj : D[j]? = some ⟨F, MP.own F cs x⟩) : GoTy.own w F cs x := (H.diAt (List.mem_of_getElem? hj)).1
theorem Mem.chg {F : List Nat} (H : Mem ⟨w1, F⟩ S M R D I w) : Chg w1 w F := by
  have hb := MemZ.below H
  refine ⟨hb.os, hb.tape, hb.output, hb.size, fun k hk hn => hb.block k fun h => ?_, hb.drawn⟩
  rcases h with h | h
  · simp only at h; omega
  · exact hn h
theorem Mem.back {F : List Nat} {d : DI} (H : Mem ⟨w1, F⟩ S M R (d :: D) I w) : Back w1 w F d.F := ⟨H.diNd.1, fun b hb => H.diNd.2 b hb⟩
theorem Mem.wrote {α : Type} [GoTy α] {F F' : List Nat} {cs : List Value} {x x' : α} (H : Mem w0 S M R (⟨F, MP.own F cs x⟩ :: D) I w) (hR : R.all Row.tightB = true) (hc : Chg w w' F) (ho : GoTy.own w' F' cs x') (hb : Back w w' F F') :
    Mem w0 S M R (⟨F', MP.own F' cs x'⟩ :: D) [] w' := by
  have H1 := MemZ.perm H (zsD_cons _)
  have hall : ∀ e : DI, allZ [e.res] = e.F := fun e => by rw [allZ_one]; rfl
  refine MemZ.perm (MemZ.turn (rs := [DI.res ⟨F, MP.own F cs x⟩]) (rs' := [DI.res ⟨F', MP.own F' cs x'⟩]) H1 (by rw [hall]; exact hc) (fun b h => ?_) (by rw [hall]; exact hb.1) (zs_tight hR) (fun q hq => ?_)) (zsD_cons _).symm
  · rw [hall] at h ⊢
    obtain ⟨h1, h2⟩ := hb.2 b h
    exact h1.elim (fun h => .inr ⟨h, h2⟩) .inl
  · rw [List.mem_singleton] at hq; subst hq
    exact ⟨⟨ho, fun b h => h⟩, fun b h => (hb.2 b h).2⟩
structure Lens (α β : Type) [GoTy α] [GoTy β] (q : Nat) (get : α → β) (put : α → β → α) : Prop where
  at_ : ∀ {w : World} {F : List Nat} {cs : List Value} {e : α}, GoTy.own w F cs e → ∃ Fa F1 Fc c, F = Fa ++ (F1 ++ Fc) ∧ cs[q]? = some c ∧ GoTy.own w F1 [c] (get e) ∧
    ∀ (w' : World) (F1' : List Nat) (y : β), GoTy.own w' F1' [c] y → Same w w' Fa → Same w w' Fc → GoTy.own w' (Fa ++ (F1' ++ Fc)) cs (put e y)
theorem Lens.fst {α β γ : Type} [GoTy α] [GoTy β] [GoTy γ] {q : Nat} {get : α → γ} {put : α → γ → α} (h : Lens α γ q get put) : Lens (α × β) γ q (fun x => get x.1) (fun x y => (put x.1 y, x.2)) := by
  refine ⟨?_⟩
  rintro w F cs e ⟨c1, c2, F1, F2, rfl, rfl, h1, h2⟩
  obtain ⟨Fa, Fm, Fc, c, rfl, hq, hm, hp⟩ := h.at_ h1
  refine ⟨Fa, Fm, Fc ++ F2, c, by simp, ?_, hm, fun w' F1' y ho ha hc => ?_⟩
  · rw [List.getElem?_append_left (List.getElem?_eq_some_iff.1 hq).1]; exact hq
  · exact ⟨c1, c2, Fa ++ (F1' ++ Fc), F2, rfl, by simp, hp w' F1' y ho ha (hc.sub fun b hb => List.mem_append.2 (.inl hb)), GoTy.own_mono h2 (hc.sub fun b hb => List.mem_append.2 (.inr hb))⟩
theorem Lens.snd {α β γ : Type} [GoTy α] [GoTy β] [GoTy γ] {q : Nat} {get : β → γ} {put : β → γ → β} (h : Lens β γ q get put) : Lens (α × β) γ (GoTy.n α + q) (fun x => get x.2) (fun x y => (x.1, put x.2 y)) := by
  refine ⟨?_⟩
  rintro w F cs e ⟨c1, c2, F1, F2, rfl, rfl, h1, h2⟩
  obtain ⟨Fa, Fm, Fc, c, rfl, hq, hm, hp⟩ := h.at_ h2
  have hl : c1.length = GoTy.n α := GoTy.len (GoTy.own_rep h1)
  refine ⟨F1 ++ Fa, Fm, Fc, c, by simp, ?_, hm, fun w' F1' y ho ha hc => ?_⟩
  · rw [List.getElem?_append_right (by omega), hl, Nat.add_sub_cancel_left]; exact hq
  · exact ⟨c1, c2, F1, Fa ++ (F1' ++ Fc), rfl, by simp, GoTy.own_mono h1 (ha.sub fun b hb => List.mem_append.2 (.inl hb)), hp w' F1' y ho (ha.sub fun b hb => List.mem_append.2 (.inr hb)) hc⟩
end
end AT

namespace AT
open Go Go.RowKit
def Rd (P : Program) (t : TypeId) (α : Type) [GoTy α] (ok : α → Prop) : Prop :=
  ∀ (H : Type) (enc : TypeId × Value → H) (w : World) (base : Nat) (spare : Nat → Bool) (held : Bool) (fuel : Nat) (cs : List Value) (x : DataW H × List MemPlace),
    DataW.trod enc P w base spare held fuel t cs = some x → ∃ y : α, GoTy.rep w (fun _ => True) cs y ∧ ok y
theorem choose_list {α : Type} (P : Nat → α → Prop) : ∀ n, (∀ i, i < n → ∃ x, P i x) → ∃ l : List α, l.length = n ∧ ∀ i x, l[i]? = some x → P i x
  | 0, _ => ⟨[], rfl, by simp⟩
  | n + 1, h => by
    obtain ⟨l, hl, hp⟩ := choose_list P n (fun i hi => h i (by omega))
    obtain ⟨x, hx⟩ := h n (by omega)
    refine ⟨l ++ [x], by simp [hl], fun i y hy => ?_⟩
    rw [List.getElem?_append] at hy
    split at hy
    · exact hp i y hy
    · rename_i hi
      have : i = n := by
        have h1 := (List.getElem?_eq_some_iff.1 hy).1
        simp at h1; omega
      subst this
      rw [hl, Nat.sub_self] at hy
      simp at hy
      subst hy; exact hx
theorem rd_list {P : Program} {t e : TypeId} {α : Type} [GoTy α] {ok : α → Prop} (ht : P.underlying t = some (.slice e)) (hn : P.cellsOf e = GoTy.n α) (he : Rd P e α ok) :
    Rd P t (List α) (fun l => (∀ x ∈ l, ok x) ∧ l.length ≤ 9223372036854775807) := by
  intro H enc w base spare held fuel cs x h
  rcases Go.Deep.open_slice ht h with ⟨rfl, -⟩ | ⟨a, len, cap, m, n, D, Pl, rfl, -, hl, hm, hmm, -, hi⟩
  · exact ⟨[], lrep_nil, by simp⟩
  · have hel : ∀ i, i < len → ∃ y : α, (ElemAt α w (fun _ => True) a i y) ∧ ok y := by
      intro i hlt
      obtain ⟨cs', hc, ht'⟩ := hi i (by rw [hmm]; split <;> omega)
      obtain ⟨y, hr, ho⟩ := he H enc w base spare held n cs' _ ht'
      refine ⟨y, ⟨cs', fun j c hj => ?_, hr⟩, ho⟩
      obtain ⟨_, hcl, hat⟩ := World.cells?_some hc
      have hj' : j < P.cellsOf e := by
        have := (List.getElem?_eq_some_iff.1 hj).1
        rw [GoTy.len hr, ← hn] at this; exact this
      have h1 := hat j hj'
      rw [hj, add_add, hn] at h1
      exact h1
    obtain ⟨l, hll, hp⟩ := choose_list _ len hel
    subst hll
    refine ⟨l, ⟨some a, cap, rfl, hl, hm, fun i x hx => ⟨a, rfl, trivial, (hp i x hx).1⟩⟩, fun x hx => ?_, by simp only [maxLen] at hm; omega⟩
    obtain ⟨i, hi'⟩ := List.mem_iff_getElem?.1 hx
    exact (hp i x hi').2
theorem rdv_one {P : Program} {t : TypeId} {α : Type} [GoTy α] {ok : α → Prop} (hr : Rd P t α ok) (ha : GoTy.agg α = false) {H : Type} {enc : TypeId × Value → H} {w : World} {base : Nat} {spare : Nat → Bool} {held : Bool} {v : Value} {d : DataW H} {p : List MemPlace}
    (hv : v.cells = #[v]) (h : DataW.Trod enc P w base spare held t v d p) : ∃ y : α, VR w (fun _ => True) v y ∧ ok y := by
  obtain ⟨fuel, hf⟩ := h
  obtain ⟨y, hy, ho⟩ := hr H enc w base spare held fuel _ _ hf
  exact ⟨y, ⟨_, hy, by rw [ha, hv]; rfl⟩, ho⟩
theorem cells_slice {P : Program} {w : World} {r : Reach} {base : Nat} {t : TypeId} {v : Value} {e : TypeId} (ht : P.underlying t = some (.slice e)) (h : Value.okWide P w r base t v) : v.cells = #[v] := by
  obtain ⟨a, l, c, rfl⟩ := Go.WideShapes.okWide_slice ht h; rfl
theorem ai {a b : Bool} (h : a = true) (k : b = true) : (a && b) = true := by rw [h, k]; rfl
theorem wordsSigns_app : ∀ (p : List Char) (_ : p.all (· != (Char.ofNat (nat_lit 32))) = true) (r : List Char), wordsSigns (p ++ (Char.ofNat (nat_lit 32)) :: r) = p :: wordsSigns r
  | [], _, _ => rfl
  | c :: p, h, r => by
    simp only [List.all_cons, Bool.and_eq_true, bne_iff_ne] at h
    have ih := wordsSigns_app p h.2 r
    rw [List.cons_append, wordsSigns, ih]
    exact h.1
theorem head_of (P : Program) (sum r : List Char) (h : P.initOrder = String.ofList ("harness".toList ++ (Char.ofNat (nat_lit 32)) :: (sum ++ (Char.ofNat (nat_lit 32)) :: ("cut".toList ++ (Char.ofNat (nat_lit 32)) :: r))))
    (h1 : isSumSigns sum = true) (h2 : sum.all (· != (Char.ofNat (nat_lit 32))) = true) : behindMainWord (wordsSigns P.initOrder.toList) = "cut".toList :: wordsSigns r := by
  rw [h, String.toList_ofList, wordsSigns_app _ (by decide +kernel), wordsSigns_app _ h2, wordsSigns_app _ (by decide +kernel)]
  show (if (("harness".toList == "harness".toList || _) && isSumSigns sum) = true then _ else _) = _
  rw [h1]; simp
theorem make_of {P : Program} {R} (h : behindMainWord (wordsSigns P.initOrder.toList) = "cut".toList :: R) : P.make = some .cut := by
  unfold Program.make; rw [h]; rfl
theorem lifts_of {P : Program} {R} (h : behindMainWord (wordsSigns P.initOrder.toList) = "cut".toList :: R) : P.liftsFinal = false := by
  unfold Program.liftsFinal Program.headLifts; rw [h]; rfl
end AT

namespace AT
open Go Go.RowKit
section
variable {P : Program} {md : Region.Mode} {ops : Array Oper} {Q : Exit → Act → World → Prop} {S : World → Prop} {B : List Nat}
def nb (B : List Nat) (listed : Array Bool) : Bool := B.all fun b => !listed.getD b true
def wpL (P : Program) (md : Region.Mode) (ops : Array Oper) (Q : Exit → Act → World → Prop) (S : World → Prop) (B : List Nat) : Nat → Array Bool → Act → World → Prop
  | 0, listed, a, w => Region.ready md ops listed = [] ∧ Q .normal a w
  | fuel + 1, listed, a, w => (Region.ready md ops listed = [] → Q .normal a w) ∧
    ∀ i ∈ Region.ready md ops listed, wpOp P ops Q i (fun a' w' => (nb B (listed.setIfInBounds i true) = true → S w') ∧ wpL P md ops Q S B fuel (listed.setIfInBounds i true) a' w') a w
theorem wpAny_of_wpL : ∀ (fuel : Nat) (listed : Array Bool) (a : Act) (w : World), wpL P md ops Q S B fuel listed a w → wpAny P md ops Q fuel listed a w
  | 0, _, _, _, h => h
  | fuel + 1, _, _, _, h => ⟨h.1, fun i hi => wpOp_mono (fun a' w' h' => wpAny_of_wpL fuel _ a' w' h'.2) (h.2 i hi)⟩
theorem getD_other {l : Array Bool} {i j : Nat} (h : j ≠ i) : (l.setIfInBounds j true).getD i true = l.getD i true := getD_set_ne true h
theorem nb_set {i : Nat} (hi : i ∉ B) (l : Array Bool) : nb B (l.setIfInBounds i true) = nb B l := by
  have h : ∀ b ∈ B, (l.setIfInBounds i true).getD b true = l.getD b true := fun b hb => getD_other fun e => hi (e ▸ hb)
  rw [Bool.eq_iff_iff]
  unfold nb
  simp only [List.all_eq_true]
  exact ⟨fun g b hb => by rw [← h b hb]; exact g b hb, fun g b hb => by rw [h b hb]; exact g b hb⟩
theorem wpL_first {i : Nat} {oi : Oper} {v : Value} (S0 : World → Prop) (X : List Nat) (hi : ops[i]? = some oi) (hsel : ∀ (j : Nat) (o : Oper) cs b, ops[j]? = some o → o.op ≠ .select cs b)
    (hQ : ∀ c a w, Q (.panic c) (a.put oi.dst v) w → Q (.panic c) a w)
    (hX : ∀ j oj, j ∈ X → j ≠ i → ops[j]? = some oj → ∃ e ∈ oj.after, Region.binds md e = true ∧ e.on ∈ X) (hiB : i ∉ B) (hBX : (∀ w, S0 w) ∨ ((∀ b ∈ B, b ∈ X) ∧ ∀ w, S w → S0 w)) :
    ∀ (fuel : Nat) (listed : Array Bool) (a : Act) (w : World),
      (∀ j oj, ops[j]? = some oj → j ≠ i → listed.getD j true = false → (∀ e ∈ oj.after, Region.binds md e = true → e.on ≠ i) → oi.apart ops oj = true) →
      (∀ x ∈ X, listed.getD x true = false) → i ∈ Region.ready md ops listed → YieldsIf P ops S0 oi v a → S0 w → (nb B listed = true → S w) →
      wpL P md ops Q S B fuel (listed.setIfInBounds i true) (a.put oi.dst v) w → wpL P md ops Q S B (fuel + 1) listed a w := by
  intro fuel
  have hnb : ∀ (listed : Array Bool), nb B (listed.setIfInBounds i true) = true → nb B listed = true := fun listed h => by rwa [nb_set hiB] at h
  induction fuel with
  | zero =>
    intro listed a w _ _ hr hy hS0 hS H
    refine ⟨fun h => (by rw [h] at hr; cases hr), fun j hj => ?_⟩
    by_cases hji : j = i
    · subst hji; exact hy.wpOp hi hS0 ⟨fun h => hS (hnb _ h), H⟩
    · have := ready_mono hj hji
      rw [H.1] at this
      cases this
  | succ fuel ih =>
    intro listed a w hfree hXu hr hy hS0 hS H
    refine ⟨fun h => (by rw [h] at hr; cases hr), fun j hj => ?_⟩
    by_cases hji : j = i
    · subst hji; exact hy.wpOp hi hS0 ⟨fun h => hS (hnb _ h), H⟩
    · have h1 := H.2 j (ready_mono hj hji)
      obtain ⟨hjun, oj, hoj, hall⟩ := mem_ready.1 hj
      have hlisted : ∀ k, k < listed.size ∨ True := fun _ => .inr trivial
      have hnot : ∀ e ∈ oj.after, Region.binds md e = true → listed.getD e.on true = false → False := fun e he hb h0 => by
        have h1 := hall e he hb
        rcases Nat.lt_or_ge e.on listed.size with h' | h'
        · simp [h'] at h0 h1; rw [h0] at h1; cases h1
        · simp [Array.getElem?_eq_none h'] at h1
      have hnoti : ∀ e ∈ oj.after, Region.binds md e = true → e.on ≠ i := fun e he hb heq => hnot e he hb (by rw [heq]; exact (mem_ready.1 hr).1)
      have hjX : j ∉ X := fun h => by
        obtain ⟨e, he, hb, heX⟩ := hX j oj h hji hoj
        exact hnot e he hb (hXu _ heX)
      have h2 := wpOp_putIf hoj (hfree j oj hoj hji hjun hnoti) (fun cs b => hsel i oi cs b hi) (fun cs b => hsel j oj cs b hoj) hQ hy h1
      have hfree' : ∀ k ok, ops[k]? = some ok → k ≠ i → (listed.setIfInBounds j true).getD k true = false →
          (∀ e ∈ ok.after, Region.binds md e = true → e.on ≠ i) → oi.apart ops ok = true := fun k ok hk hki hun hno => by
        refine hfree k ok hk hki ?_ hno
        by_cases hjk : j = k
        · subst hjk; exact hjun
        · rw [getD_set_ne true hjk] at hun; exact hun
      refine wpOp_mono (fun a' w' h3 => ?_) h2
      obtain ⟨h4, h5, h6⟩ := h3
      have hS' : nb B (listed.setIfInBounds j true) = true → S w' := fun h => h5 (by rw [Array.setIfInBounds_comm _ _ (Ne.symm hji), nb_set hiB]; exact h)
      refine ⟨hS', ih (listed.setIfInBounds j true) a' w' hfree' (fun x hx => ?_) (ready_mono hr (Ne.symm hji)) h4 ?_ hS' ?_⟩
      · rw [getD_other (fun e => hjX (by rw [e]; exact hx))]; exact hXu x hx
      · rcases hBX with hall0 | ⟨hBX, hSS⟩
        · exact hall0 w'
        · refine hSS w' (hS' ?_)
          unfold nb
          rw [List.all_eq_true]
          intro b hb
          rw [getD_other (fun e => hjX (by rw [e]; exact hBX b hb))]
          rcases Nat.lt_or_ge b listed.size with h' | h'
          · have := hXu b (hBX b hb); simp [h'] at this ⊢; exact this
          · have := hXu b (hBX b hb); simp [h'] at this
      · rw [Array.setIfInBounds_comm _ _ hji]
        exact h6
end
section
variable {P : Program} {S : World → Prop} {B : List Nat} {l : List Oper} {bs bs' : List Bool} {a : Act} {w : World} {n fuel d i : Nat} {L : List (Nat × Value)} {Mid : Act → World → Prop} {Q : Exit → Act → World → Prop} {o : Oper} {v : Value}
def only (Mid : Act → World → Prop) : Exit → Act → World → Prop := fun e a w => e = .normal ∧ Mid a w
abbrev DL (P : Program) (l : List Oper) (Mid : Act → World → Prop) (S : World → Prop) (B : List Nat) (fuel : Nat) (bs : List Bool) (a : Act) (w : World) : Prop := wpL P .any l.toArray (only Mid) S B fuel bs.toArray a w
theorem drawn {id : Nat} (B : List Nat) (hm : P.follows .mixedOrders = true) (hb : List.replicate l.length false = bs) (hn : l.length = fuel) (h : ∀ w1, Below w.heap.size w w1 → DL P l (fun a w => Q .normal a w) (fun _ => True) B fuel bs a w1) : (Code.region id l.toArray true).wp P Q a w := by
  have h1 : (Code.region id l.toArray true).wp P (only fun a w => Q .normal a w) a w := wp_region_any hm (wpAny_of_wpL (S := fun _ => True) (B := B) _ _ _ _ (by
    have e1 : l.toArray.size = fuel := by simpa using hn
    have e2 : Array.replicate l.toArray.size false = bs.toArray := by rw [← hb]; simp
    rw [e2, e1]; exact h _ ((Below.refl _ _).drew)))
  exact Code.wp_mono (fun e a w q => by obtain ⟨rfl, q⟩ := q; exact q) h1
theorem wpL_str {md : Region.Mode} {ops : Array Oper} {S S' : World → Prop} (hs : ∀ w, S' w → S w) : ∀ (fuel : Nat) (listed : Array Bool) (a : Act) (w : World), wpL P md ops Q S' B fuel listed a w → wpL P md ops Q S B fuel listed a w
  | 0, _, _, _, h => h
  | fuel + 1, _, _, _, h => ⟨h.1, fun i hi => wpOp_mono (fun a' w' h' => ⟨fun hn => hs _ (h'.1 hn), wpL_str hs fuel _ a' w' h'.2⟩) (h.2 i hi)⟩
theorem str (S' : World → Prop) (hs : ∀ w, S' w → S w) (h : DL P l Mid S' B fuel bs a w) : DL P l Mid S B fuel bs a w := wpL_str hs _ _ _ _ h
def takeB (l : List Oper) (bs : List Bool) (i : Nat) (X B : List Nat) : Bool :=
  Region.noSelect l.toArray && (Region.free .any l.toArray bs.toArray i && ((Region.ready .any l.toArray bs.toArray).contains i && (X.all (fun x => !bs.getD x true) && (X.all (fun j => j == i || (match l[j]? with | some oj => oj.after.any (fun e => Region.binds .any e && X.contains e.on) | none => true)) && !B.contains i))))
theorem set_bs (hb : bs.set i true = bs') : bs.toArray.setIfInBounds i true = bs'.toArray := by subst hb; simp
theorem take_ {S0 : World → Prop} (X : List Nat) (hi : l[i]? = some o) (hd : o.dst = some d) (hdn : d < n) (hf : Fr a n L) (hc : takeB l bs i X B = true) (hBX : (∀ w, S0 w) ∨ ((∀ b ∈ B, b ∈ X) ∧ ∀ w, S w → S0 w)) (hS0 : S0 w) (hS : nb B bs.toArray = true → S w)
    (hy : YieldsIf P l.toArray S0 o v a) (hb : bs.set i true = bs') (h : ∀ a', Fr a' n ((d, v) :: L) → DL P l Mid S B fuel bs' a' w) : DL P l Mid S B (fuel + 1) bs a w := by
  unfold takeB at hc
  simp only [Bool.and_eq_true] at hc
  obtain ⟨h1, h2, h3, h4, h5, h6⟩ := hc
  have hi' : l.toArray[i]? = some o := by simpa using hi
  refine wpL_first S0 X hi' (Region.noSelect_spec h1) (fun c a w q => by cases q.1) (fun j oj hj hji hoj => ?_) (by simpa using h6) hBX fuel bs.toArray a w (Region.free_spec hi' h2) (fun x hx => ?_) (by simpa using h3) hy hS0 hS ?_
  · have := List.all_eq_true.1 h5 j hj
    have hoj' : l[j]? = some oj := by simpa using hoj
    rw [hoj'] at this
    simp only [Bool.or_eq_true, beq_iff_eq, hji, false_or, Array.any_eq_true, Bool.and_eq_true] at this
    obtain ⟨q, hq, h7, h8⟩ := this
    exact ⟨_, Array.getElem_mem hq, h7, by simpa using h8⟩
  · have := List.all_eq_true.1 h4 x hx
    simp only [Bool.not_eq_true', List.getD_eq_getElem?_getD] at this
    simpa using this
  · rw [set_bs hb, hd]
    exact h _ (hf.put hdn v)
theorem tkP (hi : l[i]? = some o) (hd : o.dst = some d) (hg : o.guard = none) (hdn : d < n) (hf : Fr a n L) (hc : takeB l bs i [] B = true) (hS : nb B bs.toArray = true → S w) (hy : ∀ w, (execOp a.eval o).run P w = .ok (.value v) w) (hb : bs.set i true = bs')
    (h : ∀ a', Fr a' n ((d, v) :: L) → DL P l Mid S B fuel bs' a' w) : DL P l Mid S B (fuel + 1) bs a w :=
  take_ (S0 := fun _ => True) [] hi hd hdn hf hc (.inl fun _ => trivial) trivial hS (.inl ⟨by simp [Region.wanted, hg], fun w _ => hy w⟩) hb h
theorem tkS (X : List Nat) (hi : l[i]? = some o) (hd : o.dst = some d) (hg : o.guard = none) (hdn : d < n) (hf : Fr a n L) (hc : takeB l bs i X B = true) (hBX : (B.all (X.contains ·)) = true) (hS : S w) (hy : ∀ w, S w → (execOp a.eval o).run P w = .ok (.value v) w) (hb : bs.set i true = bs')
    (h : ∀ a', Fr a' n ((d, v) :: L) → DL P l Mid S B fuel bs' a' w) : DL P l Mid S B (fuel + 1) bs a w :=
  take_ (S0 := S) X hi hd hdn hf hc (.inr ⟨fun b hb => by simpa using List.all_eq_true.1 hBX b hb, fun _ h => h⟩) hS (fun _ => hS) (.inl ⟨by simp [Region.wanted, hg], hy⟩) hb h
theorem tkPg {j e : Nat} {b : Bool} (hi : l[i]? = some o) (hd : o.dst = some d) (hg : o.guard = some (j, b)) (hj : (l[j]?).bind (·.dst) = some e) (hv : lk L e = some (.bool b)) (hdn : d < n) (hf : Fr a n L) (hc : takeB l bs i [] B = true) (hS : nb B bs.toArray = true → S w) (hy : ∀ w, (execOp a.eval o).run P w = .ok (.value v) w) (hb : bs.set i true = bs')
    (h : ∀ a', Fr a' n ((d, v) :: L) → DL P l Mid S B fuel bs' a' w) : DL P l Mid S B (fuel + 1) bs a w :=
  take_ (S0 := fun _ => True) [] hi hd hdn hf hc (.inl fun _ => trivial) trivial hS (.inl ⟨by simp [Region.wanted, hg, yielded_of (ops := l.toArray) hf (by simpa using hj) hv], fun w _ => hy w⟩) hb h
theorem tkSg {j e : Nat} {b : Bool} (X : List Nat) (hi : l[i]? = some o) (hd : o.dst = some d) (hg : o.guard = some (j, b)) (hj : (l[j]?).bind (·.dst) = some e) (hv : lk L e = some (.bool b)) (hdn : d < n) (hf : Fr a n L) (hc : takeB l bs i X B = true) (hBX : (B.all (X.contains ·)) = true) (hS : S w) (hy : ∀ w, S w → (execOp a.eval o).run P w = .ok (.value v) w) (hb : bs.set i true = bs')
    (h : ∀ a', Fr a' n ((d, v) :: L) → DL P l Mid S B fuel bs' a' w) : DL P l Mid S B (fuel + 1) bs a w :=
  take_ (S0 := S) X hi hd hdn hf hc (.inr ⟨fun b hb => by simpa using List.all_eq_true.1 hBX b hb, fun _ h => h⟩) hS (fun _ => hS) (.inl ⟨by simp [Region.wanted, hg, yielded_of (ops := l.toArray) hf (by simpa using hj) hv], hy⟩) hb h
theorem yielded_undef {ops : Array Oper} (hf : Fr a n L) {j d : Nat} (hj : (ops[j]?).bind (·.dst) = some d) (hb : lk L d = some undef) : yielded ops a.tmps j = none := by
  unfold yielded
  simp [hj, hf.get d _ hb, undef]
theorem wlsu {Q : Exit → Act → World → Prop} {ops : Array Oper} {rest : List Oper} {j d e : Nat} {b : Bool} (hf : Fr a n L) (hg : o.guard = some (j, b)) (hj : (ops[j]?).bind (·.dst) = some d) (hb : lk L d = some undef)
    (hd : o.dst = some e) (hdn : e < n) (h : ∀ a', Fr a' n ((e, undef) :: L) → wpList P ops Q rest a' w) : wpList P ops Q (o :: rest) a w := by
  unfold wpList
  rw [if_neg (by simp [Region.wanted, hg, yielded_undef hf hj hb])]
  rw [hd]
  exact h _ (hf.put hdn undef)
theorem tkUU {j e : Nat} {b : Bool} (hi : l[i]? = some o) (hd : o.dst = some d) (hg : o.guard = some (j, b)) (hj : (l[j]?).bind (·.dst) = some e) (hv : lk L e = some undef) (hdn : d < n) (hf : Fr a n L) (hc : takeB l bs i [] B = true) (hS : nb B bs.toArray = true → S w) (hb : bs.set i true = bs')
    (h : ∀ a', Fr a' n ((d, undef) :: L) → DL P l Mid S B fuel bs' a' w) : DL P l Mid S B (fuel + 1) bs a w :=
  take_ (S0 := fun _ => True) (v := undef) [] hi hd hdn hf hc (.inl fun _ => trivial) trivial hS (.inr ⟨by simp [Region.wanted, hg, yielded_undef (ops := l.toArray) hf (by simpa using hj) hv], rfl⟩) hb h
theorem tkU {j e : Nat} {b c : Bool} (hi : l[i]? = some o) (hd : o.dst = some d) (hg : o.guard = some (j, b)) (hj : (l[j]?).bind (·.dst) = some e) (hv : lk L e = some (.bool c)) (hne : (c == b) = false) (hdn : d < n) (hf : Fr a n L) (hc : takeB l bs i [] B = true) (hS : nb B bs.toArray = true → S w) (hb : bs.set i true = bs')
    (h : ∀ a', Fr a' n ((d, undef) :: L) → DL P l Mid S B fuel bs' a' w) : DL P l Mid S B (fuel + 1) bs a w :=
  take_ (S0 := fun _ => True) (v := undef) [] hi hd hdn hf hc (.inl fun _ => trivial) trivial hS (.inr ⟨by simp [Region.wanted, hg, yielded_of (ops := l.toArray) hf (by simpa using hj) hv]; simpa using hne, rfl⟩) hb h
theorem on1 (hr : Region.ready .any l.toArray bs.toArray = [i]) (hi : l[i]? = some o) (hg : o.guard = none) (hb : bs.set i true = bs')
    (h : o.wp P a w (fun a' w' => (nb B bs'.toArray = true → S w') ∧ DL P l Mid S B fuel bs' a' w') (only Mid)) : DL P l Mid S B (fuel + 1) bs a w := by
  refine ⟨fun h0 => (by rw [hr] at h0; cases h0), fun j hj => ?_⟩
  rw [hr, List.mem_singleton] at hj
  subst hj
  unfold wpOp
  have hi' : l.toArray[j]? = some o := by simpa using hi
  simp only [hi', Region.wanted, hg]
  rw [set_bs hb]
  exact .inl h
theorem on1g {j e : Nat} {b : Bool} (hr : Region.ready .any l.toArray bs.toArray = [i]) (hi : l[i]? = some o) (hg : o.guard = some (j, b)) (hj : (l[j]?).bind (·.dst) = some e) (hv : lk L e = some (.bool b)) (hf : Fr a n L) (hb : bs.set i true = bs')
    (h : o.wp P a w (fun a' w' => (nb B bs'.toArray = true → S w') ∧ DL P l Mid S B fuel bs' a' w') (only Mid)) : DL P l Mid S B (fuel + 1) bs a w := by
  refine ⟨fun h0 => (by rw [hr] at h0; cases h0), fun q hq => ?_⟩
  rw [hr, List.mem_singleton] at hq
  subst hq
  unfold wpOp
  have hi' : l.toArray[q]? = some o := by simpa using hi
  have hw : Region.wanted o (yielded l.toArray a.tmps) = true := by simp [Region.wanted, hg, yielded_of (ops := l.toArray) hf (by simpa using hj) hv]
  simp only [hi', hw, if_true]
  rw [set_bs hb]
  exact .inl h
theorem pre_iaddr {w0 : Base} {S : Nat → Prop} {M : List Blk} {R : List Row} {D : List DI} {I : List (Bool × MP)} (H : Mem w0 S M R D I w) {α : Type} [GoTy α] {T E : TypeId} (hT : P.underlying T = some (.slice E)) (hE : SZ P E (GoTy.n α)) {A : Option Addr} {len cap : Nat} {i : Int} {xs : List α} {e : α} {f : Bool}
    (j : Nat) (hi : I[j]? = some (f, MP.val [.slice A len cap] xs)) (he : idx xs i = some e) :
    ∃ b o cs, (∀ w' k, (Instr.indexAt T (.slice A len cap) (.int k i)).run P w' = .ok (.pointer (some ⟨b, o, none⟩)) w') ∧ GoTy.rep w (St w0 S M R D f) cs e ∧ Mem w0 S M R D ((f, MP.cells ⟨b, o, none⟩ cs) :: I) w := by
  obtain ⟨A', cap', hcs, hlc, hcm, hel⟩ : lrep w (St w0 S M R D f) [.slice A len cap] xs := H.get j hi
  obtain ⟨h0, hl, hg⟩ := idx_lt he
  simp only [List.cons.injEq, Value.slice.injEq, and_true] at hcs
  obtain ⟨rfl, rfl, rfl⟩ := hcs
  obtain ⟨p, rfl, hp, cs, hc, hr⟩ := hel _ _ hg
  have hlt : p.block < w.heap.size := ElemAt.lt (S := St w0 S M R D f) (i := i.toNat) (x := e) ⟨cs, hc, hr⟩
  have hlen := GoTy.len hr
  have hpos := GoTy.pos (α := α)
  have hq : p.add (i.toNat * GoTy.n α) = ⟨p.block, (p.add (i.toNat * GoTy.n α)).off, none⟩ := by
    have h0 := hc 0 _ (List.getElem?_eq_getElem (by omega))
    rw [Nat.add_zero] at h0
    have hs : (p.add (i.toNat * GoTy.n α)).spot = none := by
      unfold World.cell? at h0
      cases hsp : (p.add (i.toNat * GoTy.n α)).spot with
      | none => rfl
      | some s =>
        rw [hsp] at h0
        split at h0 <;> simp at h0
    rw [← block_add p (i.toNat * GoTy.n α)]
    generalize p.add (i.toNat * GoTy.n α) = q at hs
    cases q; simp only at hs; subst hs; rfl
  refine ⟨p.block, (p.add (i.toNat * GoTy.n α)).off, cs, fun w' k => ?_, hr, H.push _ ⟨hp, hlt, fun q c hq' => by rw [← hq, add_add]; exact hc q c hq'⟩⟩
  rw [← hq]
  exact run_indexAt (P := P) (w := w') (cap := cap) hT hE h0 hl (p := p) (k := k)
theorem rq_iaddrE {T : TypeId} {x y : Operand} {u v r : Value} {dst : Option Tmp} {ty : TypeId} {pos : String} {af : Array Edge} {g : Option (Nat × Bool)} (hf : Fr a n L) (hx : ev L x = some u) (hy : ev L y = some v) {k : IntKind} {i : Int} (hv : v = .int k i) (h : ∀ w' k, (Instr.indexAt T u (.int k i)).run P w' = .ok r w') :
    ∀ w, (execOp a.eval ⟨dst, .indexAddr T x y, ty, pos, af, g⟩).run P w = .ok (.value r) w := by
  intro w
  subst hv
  simp [execOp, hf.eval hx, hf.eval hy, h]
theorem dn (hr : Region.ready .any l.toArray bs.toArray = []) (h : Mid a w) : DL P l Mid S B fuel bs a w := by
  cases fuel with
  | zero => exact ⟨hr, rfl, h⟩
  | succ k => exact ⟨fun _ => ⟨rfl, h⟩, by rw [hr]; simp⟩
end
end AT

namespace AT
open Go Go.RowKit
section
variable {P : Program} {Q : Exit → Act → World → Prop} {a : Act} {w : World} {n : Nat} {L : List (Nat × Value)} {dst : Option Tmp} {ty : TypeId} {pos : String} {af : Array Edge} {g : Option (Nat × Bool)} {K : Act → World → Prop} {d : Nat}
variable {w0 : Base} {S : Nat → Prop} {M : List Blk} {R : List Row} {D : List DI} {I : List (Bool × MP)}
theorem rq_makeFunc (hf : Fr a n L) {fn : Fn} {xs : List Operand} {vs : List Value} (hx : evs L xs = some vs) :
    (execOp a.eval ⟨dst, .makeFunc fn #[] xs.toArray, ty, pos, af, g⟩).run P w = .ok (.value (.func fn #[] vs.toArray)) w := by
  simp [execOp, Instr.makeFunc, hf.evals hx]
theorem op_callV (hf : Fr a n L) {f : FuncId} (hk : CL P f) {x : Operand} {ca : List Value} (hx : ev L x = some (.func (.func f) #[] ca.toArray)) {xs : List Operand} {ats : Array TypeId} {vs : List Value} (hxs : evs L xs = some vs) (hdn : d < n) {Post : Value → World → Prop}
    (hc : Calls P f (vs ++ ca).toArray w fun e w' => ∃ v, e = .returned v ∧ Post v w') (k : ∀ v w' a', Post v w' → Fr a' n ((d, v) :: L) → K a' w') :
    Oper.wp P ⟨some d, .call ⟨.value x, xs.toArray, ats⟩, ty, pos, af, g⟩ a w K Q := by
  have hk' : ∀ args w, (callFunc f args).run P w = .ok (.enter f args) w := hk
  have h1 : execOp a.eval ⟨some d, .call ⟨.value x, xs.toArray, ats⟩, ty, pos, af, g⟩ = callFunc f (vs ++ ca).toArray := by
    simp [execOp, resolve, Deferred.ofValue, hf.eval hx, hf.evals hxs, invoke]
  unfold Oper.wp
  rw [h1, hk', Oper.upon_enter]
  refine hc.mono fun e w' ⟨v, he, hp⟩ => ?_
  subst he
  exact k v w' _ hp (hf.put hdn v)
theorem Mem.boxTrue (H : Mem w0 S M R D I w) (i : Nat) {b : Nat} {T : TypeId} {cs : List Value} (hi : M[i]? = some ⟨b, T, cs⟩) : (MP.cells ⟨b, 0, none⟩ cs).pred w (fun _ => True) := by
  have h : w.heap[b]? = some (.cells cs.toArray T (0, 0)) := MemZ.ok H (Blk.res ⟨b, T, cs⟩) (List.mem_append.2 (.inl (List.mem_map.2 ⟨_, List.mem_of_getElem? hi, rfl⟩)))
  refine ⟨trivial, ?_, fun j c hc => ?_⟩
  · rcases Nat.lt_or_ge b w.heap.size with h' | h'
    · exact h'
    · rw [Array.getElem?_eq_none h'] at h; cases h
  · rw [add_lit, Nat.zero_add, H.cell hi]; exact hc
theorem mp_true {p : MP} {T : Nat → Prop} (h : p.pred w T) : p.pred w (fun _ => True) := p.mono h fun _ _ _ => ⟨trivial, rfl⟩
end
end AT

namespace AT
open Go Go.RowKit
section
variable {P : Program} {Q : Exit → Act → World → Prop} {a : Act} {w w' w1 : World} {n : Nat} {L : List (Nat × Value)} {dst : Option Tmp} {ty : TypeId} {pos : String} {af : Array Edge} {g : Option (Nat × Bool)} {K : Act → World → Prop} {d : Nat}
variable {w0 : Base} {S : Nat → Prop} {M : List Blk} {R : List Row} {D : List DI} {I : List (Bool × MP)}
theorem ps0 : ∀ d ∈ ([] : List DI), d.p.pred w (· ∈ d.F) := fun _ h => by cases h
theorem ps1 {α : Type} [GoTy α] {F : List Nat} {cs : List Value} {x : α} {X : List DI} (h : GoTy.own w F cs x) (t : ∀ d ∈ X, d.p.pred w (· ∈ d.F)) : ∀ d ∈ ((⟨F, MP.own F cs x⟩ : DI) :: X), d.p.pred w (· ∈ d.F) := by
  intro d hd
  rcases List.mem_cons.1 hd with rfl | hd
  · exact ⟨h, fun b hb => hb⟩
  · exact t d hd
theorem Mem.arg (H : Mem ⟨w1, []⟩ S M R D I w) {p : MP} (h : p.pred w1 S) : Mem ⟨w1, []⟩ S M R D ((false, p) :: I) w := H.pushArg p h
end
end AT
