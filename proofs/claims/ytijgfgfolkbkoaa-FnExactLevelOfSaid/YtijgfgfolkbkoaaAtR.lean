/- The end of a call; rows: slices that the call itself makes, appends to, writes. -/
import Derived.Test.YtijgfgfolkbkoaaAtO
namespace AT
open Go Go.RowKit

section
variable {P : Program} {Q : Exit → Act → World → Prop} {a : Act} {w w0 : World} {n : Nat} {L : List (Nat × Value)} {K : Act → World → Prop}
variable {S : Nat → Prop} {M : List Blk} {R : List Row} {I : List (Bool × MP)} {dst : Option Tmp} {d : Nat} {ty : TypeId} {pos : String} {af : Array Edge} {g : Option (Nat × Bool)}

def RV (P : Program) (w : World) (a : Act) : ResultVar → Value → Prop
  | .tmp t, v => a.tmps.getD t undef = v
  | .cell ad T, v => ∃ p, a.tmps.getD ad undef = .pointer (some p) ∧ (loadVar T p).run P w = .ok v w

theorem rv_tmp (hf : Fr a n L) {t : Nat} {v : Value} (h : lk L t = some v) : RV P w a (.tmp t) v := hf.eval (x := .tmp t) h
theorem rv_cellN (hf : Fr a n L) (H : Mem w0 S M R I w) {t : Nat} {T T' : TypeId} {m b : Nat} {cs : List Value} (i : Nat) (hT : LA P T m) (h : lk L t = some (.pointer (some ⟨b, 0, none⟩))) (hi : M[i]? = some ⟨b, T', cs⟩) (hl : cs.length = m) :
    RV P w a (.cell t T) (.agg cs.toArray) := by
  refine ⟨_, hf.eval (x := .tmp t) h, ?_⟩
  rw [hT, ← hl, Sem.run_bind, run_loadCells_list (P := P) w _ cs (fun j c hj => by rw [add_lit, Nat.zero_add, H.cell hi]; exact hj)]
  rfl
theorem rv_cell1 (hf : Fr a n L) (H : Mem w0 S M R I w) {t : Nat} {T T' : TypeId} {b : Nat} {v : Value} {cs : List Value} (i : Nat) (hT : LS P T) (h : lk L t = some (.pointer (some ⟨b, 0, none⟩))) (hi : M[i]? = some ⟨b, T', cs⟩) (hl : cs[0]? = some v) :
    RV P w a (.cell t T) v := by
  refine ⟨_, hf.eval (x := .tmp t) h, ?_⟩
  rw [hT]; simp [H.cell hi, hl]

inductive RVs (P : Program) (w : World) (a : Act) : List ResultVar → List Value → Prop
  | nil : RVs P w a [] []
  | cons {r v rs vs} (h : RV P w a r v) (t : RVs P w a rs vs) : RVs P w a (r :: rs) (v :: vs)

theorem run_results {fn : Func} {rs : List ResultVar} {vs : List Value} (hres : fn.results = rs.toArray) (h : RVs P w a rs vs) :
    (results fn a.tmps).run P w = .ok (if h : vs.toArray.size = 1 then vs.toArray[0] else .tuple vs.toArray) w := by
  have key : ∀ (f : ResultVar → Sem Value), (∀ t, f (.tmp t) = pure (a.tmps.getD t undef)) → (∀ ad t, f (.cell ad t) = (asAddr (a.tmps.getD ad undef) >>= fun p => loadVar t p)) →
      ∀ {rs : List ResultVar} {vs : List Value}, RVs P w a rs vs → (rs.mapM f).run P w = .ok vs w := by
    intro f f1 f2 rs vs h
    induction h with
    | nil => simp
    | @cons r v rs vs h t ih =>
      simp only [List.mapM_cons, Sem.run_bind, Sem.run_pure]
      cases r with
      | tmp t =>
        simp only [RV] at h
        simp only [f1, Sem.run_pure, Result.andThen_ok, ih, h]
      | cell ad T =>
        obtain ⟨p, h1, h2⟩ := h
        have h3 : (asAddr (a.tmps.getD ad undef) >>= fun p => loadVar T p : Sem Value).run P w = .ok v w := by
          rw [h1]; simpa [asAddr] using h2
        simp only [f2, h3, ih, Result.andThen_ok]
  unfold results
  rw [hres, List.mapM_toArray, Sem.run_bind, Sem.run_map, key _ (fun _ => rfl) (fun _ _ => rfl) h]
  rfl

theorem ret_1 {fn : Func} {Rr : Ending → World → Prop} {r : ResultVar} {v : Value} (hf : Fr a n L) (hres : fn.results = #[r]) (h : RV P w a r v) (hR : Rr (.returned v) w) : bodyPost P fn Rr .ret a w :=
  ⟨hf.defs, _, run_results (rs := [r]) hres (.cons h .nil), by simpa using hR⟩
theorem ret_2 {fn : Func} {Rr : Ending → World → Prop} {r s : ResultVar} {v u : Value} (hf : Fr a n L) (hres : fn.results = #[r, s]) (h : RV P w a r v) (h' : RV P w a s u) (hR : Rr (.returned (.tuple #[v, u])) w) : bodyPost P fn Rr .ret a w :=
  ⟨hf.defs, _, run_results (rs := [r, s]) hres (.cons h (.cons h' .nil)), by simpa using hR⟩
theorem ret_3 {fn : Func} {Rr : Ending → World → Prop} {r s t : ResultVar} {v u x : Value} (hf : Fr a n L) (hres : fn.results = #[r, s, t]) (h : RV P w a r v) (h' : RV P w a s u) (h'' : RV P w a t x) (hR : Rr (.returned (.tuple #[v, u, x])) w) : bodyPost P fn Rr .ret a w :=
  ⟨hf.defs, _, run_results (rs := [r, s, t]) hres (.cons h (.cons h' (.cons h'' .nil))), by simpa using hR⟩
theorem ret_0 {fn : Func} {Rr : Ending → World → Prop} (hf : Fr a n L) (hres : fn.results = #[]) (hR : Rr (.returned (.tuple #[])) w) : bodyPost P fn Rr .normal a w :=
  ⟨hf.defs, _, run_results (rs := []) hres .nil, by simpa using hR⟩

/-! ### Rows -/
theorem mem_own_row {r : Row} (hr : r ∈ R) {b : Nat} (h : r.v.ownBlock = some b) : b ∈ ownB M R := List.mem_append.2 (.inr (List.mem_filterMap.2 ⟨r, hr, h⟩))

/-- A new row. -/
theorem Mem.newRow (H : Mem w0 S M R I w) {α : Type} [GoTy α] (fresh : Bool) (E : TypeId) (xs : List α) (cells : List Value) (cap : Nat) (hcap : xs.length ≤ cap) (hmax : cap ≤ maxLen) (hlen : cells.length = cap * GoTy.n α)
    (hel : ∀ i x, xs[i]? = some x → GoTy.rep w (St w0 S M R fresh) ((cells.drop (i * GoTy.n α)).take (GoTy.n α)) x) :
    Mem w0 S M (⟨fresh, E, some ⟨w.heap.size, 0, none⟩, cap, xs⟩ :: R) I (w.alloc (.cells cells.toArray E)) := by
  have hB := H.below.size
  have hown : ownB M (⟨fresh, E, some ⟨w.heap.size, 0, none⟩, cap, xs⟩ :: R) = M.map (·.b) ++ w.heap.size :: R.filterMap (·.v.ownBlock) := rfl
  have hmem : ∀ b, b ∈ ownB M (⟨fresh, E, some ⟨w.heap.size, 0, none⟩, cap, xs⟩ :: R) → b = w.heap.size ∨ b ∈ ownB M R := by
    intro b hb
    rw [hown] at hb
    simp only [List.mem_append, List.mem_cons] at hb
    simp only [ownB, List.mem_append]
    rcases hb with h | h | h
    · exact .inr (.inl h)
    · exact .inl h
    · exact .inr (.inr h)
  have hm : ∀ f, Moves w (w.alloc (.cells cells.toArray E)) (St w0 S M R f) (St w0 S M (⟨fresh, E, some ⟨w.heap.size, 0, none⟩, cap, xs⟩ :: R) f) := fun f b hb hlt => by
    refine ⟨?_, Below.heap_alloc _ _ _ hlt⟩
    rcases hb with hb | ⟨h1, h2⟩
    · exact .inl hb
    · refine .inr ⟨h1, fun h3 => ?_⟩
      rcases hmem b h3 with h4 | h4
      · omega
      · exact h2 h4
  refine ⟨H.below.alloc hB _, fun m hm' => ?_, fun r hr => ?_, ?_, fun f hf => f.2.mono (H.imm f hf) (hm _)⟩
  · obtain ⟨h1, h2⟩ := H.blk m hm'
    exact ⟨h1, (Below.heap_alloc _ _ _ (Array.getElem?_eq_some_iff.1 h2).1).trans h2⟩
  · rcases List.mem_cons.1 hr with rfl | h
    · refine ⟨cells.take (xs.length * GoTy.n α), ⟨?_, .inr ⟨w.heap.size, cap, cells.toArray, rfl, hB, heap_alloc_new w _, hcap, hmax, by simpa using hlen, by simp⟩⟩, fun i x hx => ?_⟩
      · simp only [List.length_take, hlen]
        exact Nat.min_eq_left (Nat.mul_le_mul_right _ hcap)
      · have hi : i < xs.length := (List.getElem?_eq_some_iff.1 hx).1
        have h2 : i * GoTy.n α + GoTy.n α ≤ xs.length * GoTy.n α := by
          have := Nat.mul_le_mul_right (GoTy.n α) (show i + 1 ≤ xs.length from hi)
          rwa [Nat.succ_mul] at this
        have e : ((cells.take (xs.length * GoTy.n α)).drop (i * GoTy.n α)).take (GoTy.n α) = (cells.drop (i * GoTy.n α)).take (GoTy.n α) := by
          rw [List.drop_take, List.take_take, Nat.min_eq_left (by omega)]
        rw [e]
        exact GoTy.mono (hel i x hx) (hm _)
    · obtain ⟨cells', ho, he⟩ := H.row r h
      exact ⟨cells', ho.alloc _, fun i x hx => GoTy.mono (he i x hx) (hm _)⟩
  · rw [hown]
    have h1 : (w.heap.size :: ownB M R).Nodup := List.nodup_cons.2 ⟨fun h => by have := (H.own_lt _ h).2; omega, H.nd⟩
    exact List.perm_middle.nodup_iff.2 h1

/-- A nil slice to append to. -/
theorem Mem.nilRow (H : Mem w0 S M R I w) (α : Type) [GoTy α] (fresh : Bool) (E : TypeId) : Mem w0 S M (⟨fresh, E, none, 0, ([] : List α)⟩ :: R) I w := by
  have hown : ownB M (⟨fresh, E, none, 0, ([] : List α)⟩ :: R) = ownB M R := rfl
  have hst : ∀ f, St w0 S M (⟨fresh, E, none, 0, ([] : List α)⟩ :: R) f = St w0 S M R f := fun f => by unfold St; rw [hown]
  refine ⟨H.below, H.blk, fun r hr => ?_, by rw [hown]; exact H.nd, fun f hf => by rw [hst]; exact H.imm f hf⟩
  rcases List.mem_cons.1 hr with rfl | h
  · exact ⟨[], World.ownsRow_nil _ _ _ _, fun i x hx => by simp at hx⟩
  · rw [hst]; exact H.row r h

theorem fmc (r : Row) (l : List Row) : (r :: l).filterMap (·.v.ownBlock) = r.v.ownBlock.toList ++ l.filterMap (·.v.ownBlock) := by
  rw [List.filterMap_cons]; cases r.v.ownBlock <;> rfl
theorem set_own {i : Nat} {r : Row} (r' : Row) (hi : R[i]? = some r) (hv : r'.v.ownBlock = r.v.ownBlock) : ownB M (R.set i r') = ownB M R := by
  unfold ownB
  congr 1
  obtain ⟨hl, he⟩ := List.getElem?_eq_some_iff.1 hi
  have h1 : R.set i r' = R.take i ++ r' :: R.drop (i + 1) := by rw [List.set_eq_take_append_cons_drop, if_pos hl]
  have h2 : R = R.take i ++ r :: R.drop (i + 1) := by rw [← he, List.getElem_cons_drop hl, List.take_append_drop]
  rw [h1]
  conv => rhs; rw [h2]
  simp only [List.filterMap_append, fmc, hv]

/-- Rows and the rest, once row i has become another: in place, or in a new block. -/
theorem Mem.reRow (H : Mem w0 S M R I w) {i : Nat} {r r' : Row} {w' : World} (hi : R[i]? = some r) (hg : w.grownBy w' r.v.ownBlock) (hat : r'.v.ownBlock = r.v.ownBlock ∨ r'.v.ownBlock = some w.heap.size)
    (hok : (∀ f, Moves w w' (St w0 S M R f) (St w0 S M (R.set i r') f)) → r'.ok w0 (St w0 S M (R.set i r') r'.fresh) w') : Mem w0 S M (R.set i r') I w' := by
  have hmem := List.mem_of_getElem? hi
  obtain ⟨hl, he⟩ := List.getElem?_eq_some_iff.1 hi
  have h1 : R.set i r' = R.take i ++ r' :: R.drop (i + 1) := by rw [List.set_eq_take_append_cons_drop, if_pos hl]
  have h2 : R = R.take i ++ r :: R.drop (i + 1) := by rw [← he, List.getElem_cons_drop hl, List.take_append_drop]
  have hsub : ∀ b, b ∈ ownB M (R.set i r') → b ∈ ownB M R ∨ b = w.heap.size := by
    intro b hb
    rw [h1] at hb
    rw [h2]
    simp only [ownB, List.filterMap_append, fmc, List.mem_append] at hb ⊢
    rcases hb with h | h | h | h
    · exact .inl (.inl h)
    · exact .inl (.inr (.inl h))
    · rcases hat with hat | hat
      · rw [hat] at h; exact .inl (.inr (.inr (.inl h)))
      · rw [hat] at h; exact .inr (by simpa using h)
    · exact .inl (.inr (.inr (.inr h)))
  have hm : ∀ f, Moves w w' (St w0 S M R f) (St w0 S M (R.set i r') f) := fun f b hb hlt => by
    refine ⟨?_, ?_⟩
    · rcases hb with hb | ⟨h3, h4⟩
      · exact .inl hb
      · exact .inr ⟨h3, fun h5 => (hsub b h5).elim h4 (by omega)⟩
    · refine hg.block b hlt ?_
      intro e
      rcases hb with ⟨_, h3, _⟩ | ⟨_, h4⟩
      · have := (H.own_lt b (mem_own_row hmem e.symm)).1; omega
      · exact h4 (mem_own_row hmem e.symm)
  have hother : ∀ {b : Nat}, b < w.heap.size → b ∈ ownB M (R.eraseIdx i) → some b ≠ r.v.ownBlock := by
    intro b _ hb e
    have hp : (ownB M R).Perm (b :: ownB M (R.eraseIdx i)) := by
      rw [h2]
      have h3 : (R.take i ++ r :: R.drop (i + 1)).eraseIdx i = R.take i ++ R.drop (i + 1) := by rw [← h2, List.eraseIdx_eq_take_drop_succ]
      rw [h3]
      simp only [ownB, List.filterMap_append, fmc, ← e, ← List.append_assoc, Option.toList_some]
      simp only [List.append_assoc, List.singleton_append]
      rw [← List.append_assoc, ← List.append_assoc]
      exact List.perm_middle
    exact (List.nodup_cons.1 (hp.nodup_iff.1 H.nd)).1 hb
  refine ⟨H.below.grown hg H.below.size (fun k hk => (H.own_lt k (mem_own_row hmem hk)).1), fun m hm' => ?_, fun q hq => ?_, ?_, fun f hf => f.2.mono (H.imm f hf) (hm _)⟩
  · obtain ⟨h3, h4⟩ := H.blk m hm'
    refine ⟨h3, (hg.block _ (Array.getElem?_eq_some_iff.1 h4).1 (fun e => H.blk_row_ne hm' hmem e.symm)).trans h4⟩
  · rw [h1] at hq
    have hcase : q = r' ∨ q ∈ R.eraseIdx i := by
      rw [List.eraseIdx_eq_take_drop_succ]
      simp only [List.mem_append, List.mem_cons] at hq ⊢
      rcases hq with h | h | h
      · exact .inr (.inl h)
      · exact .inl h
      · exact .inr (.inr h)
    rcases hcase with rfl | hq'
    · exact hok hm
    · have hqR : q ∈ R := (List.eraseIdx_sublist R i).mem hq'
      obtain ⟨cells, ho, hel⟩ := H.row q hqR
      refine ⟨cells, ho.kept hg ?_, fun j x hx => GoTy.mono (hel j x hx) (hm _)⟩
      cases hb : q.v.ownBlock with
      | none => exact .inl rfl
      | some b => exact .inr (hother (ho.lt b hb).2 (mem_own_row hq' hb))
  · rcases hat with hat | hat
    · rw [set_own r' hi hat]; exact H.nd
    · rw [h1]
      have hbase : (ownB M (R.eraseIdx i)).Nodup := by
        refine List.Sublist.nodup ?_ H.nd
        exact (List.Sublist.refl _).append ((List.eraseIdx_sublist R i).filterMap _)
      rw [List.eraseIdx_eq_take_drop_succ] at hbase
      have hnew : w.heap.size ∉ ownB M (R.take i ++ R.drop (i + 1)) := fun h => by
        have : w.heap.size ∈ ownB M R := by
          rw [h2]
          simp only [ownB, List.filterMap_append, fmc, List.mem_append] at h ⊢
          rcases h with h | h | h
          · exact .inl h
          · exact .inr (.inl h)
          · exact .inr (.inr (.inr h))
        have := (H.own_lt _ this).2
        omega
      have h3 : (w.heap.size :: ownB M (R.take i ++ R.drop (i + 1))).Nodup := List.nodup_cons.2 ⟨hnew, hbase⟩
      simp only [ownB, List.filterMap_append, fmc, hat, Option.toList_some, List.singleton_append] at h3 ⊢
      rw [← List.append_assoc] at h3 ⊢
      exact List.perm_middle.nodup_iff.2 h3
end
end AT
