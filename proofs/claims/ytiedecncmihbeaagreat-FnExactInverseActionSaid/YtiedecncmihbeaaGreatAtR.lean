/- The end of a call; rows: slices that the call itself makes, appends to, writes. -/
import Derived.Test.YtiedecncmihbeaaGreatAtO
namespace AT
open Go Go.RowKit

section
variable {P : Program} {Q : Exit → Act → World → Prop} {a : Act} {w : World} {w0 : Base} {n : Nat} {L : List (Nat × Value)} {K : Act → World → Prop}
variable {S : Nat → Prop} {M : List Blk} {R : List Row} {D : List DI} {I : List (Bool × MP)} {dst : Option Tmp} {d : Nat} {ty : TypeId} {pos : String} {af : Array Edge} {g : Option (Nat × Bool)}

def RV (P : Program) (w : World) (a : Act) : ResultVar → Value → Prop
  | .tmp t, v => a.tmps.getD t undef = v
  | .cell ad T, v => ∃ p, a.tmps.getD ad undef = .pointer (some p) ∧ (loadVar T p).run P w = .ok v w

theorem rv_tmp (hf : Fr a n L) {t : Nat} {v : Value} (h : lk L t = some v) : RV P w a (.tmp t) v := hf.eval (x := .tmp t) h
theorem rv_cellN (hf : Fr a n L) (H : Mem w0 S M R D I w) {t : Nat} {T T' : TypeId} {m b : Nat} {cs : List Value} (i : Nat) (hT : LA P T m) (h : lk L t = some (.pointer (some ⟨b, 0, none⟩))) (hi : M[i]? = some ⟨b, T', cs⟩) (hl : cs.length = m) :
    RV P w a (.cell t T) (.agg cs.toArray) := by
  refine ⟨_, hf.eval (x := .tmp t) h, ?_⟩
  rw [hT, ← hl, Sem.run_bind, run_loadCells_list (P := P) w _ cs (fun j c hj => by rw [add_lit, Nat.zero_add, H.cell hi]; exact hj)]
  rfl
inductive RVs (P : Program) (w : World) (a : Act) : List ResultVar → List Value → Prop
  | nil : RVs P w a [] []
  | cons {r v rs vs} (h : RV P w a r v) (t : RVs P w a rs vs) : RVs P w a (r :: rs) (v :: vs)

theorem run_results {fn : Func} {rs : List ResultVar} {vs : List Value} (hres : fn.results = rs.toArray) (h : RVs P w a rs vs) :
    (results fn a.tmps).run P w = .ok (if h : vs.toArray.size = 1 then vs.toArray[0] else .tuple vs.toArray) w := by
  have key : ∀ (f : ResultVar → Sem Value), (∀ t, f (.tmp t) = pure (a.tmps.getD t undef)) → (∀ ad t, f (.cell ad t) = (asAddr (a.tmps.getD ad undef) >>= fun p => loadVar t p)) →
      ∀ {rs : List ResultVar} {vs : List Value}, RVs P w a rs vs → (rs.mapM f).run P w = .ok vs w := by
    intro f f1 f2 rs vs h
    induction h with
    | nil => simp
    | @cons r v rs vs h t ih =>
      simp only [List.mapM_cons, Sem.run_bind, Sem.run_pure]
      cases r with
      | tmp t =>
        simp only [RV] at h
        simp only [f1, Sem.run_pure, Result.andThen_ok, ih, h]
      | cell ad T =>
        obtain ⟨p, h1, h2⟩ := h
        have h3 : (asAddr (a.tmps.getD ad undef) >>= fun p => loadVar T p : Sem Value).run P w = .ok v w := by
          rw [h1]; simpa [asAddr] using h2
        simp only [f2, h3, ih, Result.andThen_ok]
  unfold results
  rw [hres, List.mapM_toArray, Sem.run_bind, Sem.run_map, key _ (fun _ => rfl) (fun _ _ => rfl) h]
  rfl

theorem ret_1 {fn : Func} {Rr : Ending → World → Prop} {r : ResultVar} {v : Value} (hf : Fr a n L) (hres : fn.results = #[r]) (h : RV P w a r v) (hR : Rr (.returned v) w) : bodyPost P fn Rr .ret a w :=
  ⟨hf.defs, _, run_results (rs := [r]) hres (.cons h .nil), by simpa using hR⟩
theorem ret_2 {fn : Func} {Rr : Ending → World → Prop} {r s : ResultVar} {v u : Value} (hf : Fr a n L) (hres : fn.results = #[r, s]) (h : RV P w a r v) (h' : RV P w a s u) (hR : Rr (.returned (.tuple #[v, u])) w) : bodyPost P fn Rr .ret a w :=
  ⟨hf.defs, _, run_results (rs := [r, s]) hres (.cons h (.cons h' .nil)), by simpa using hR⟩
theorem ret_0 {fn : Func} {Rr : Ending → World → Prop} (hf : Fr a n L) (hres : fn.results = #[]) (hR : Rr (.returned (.tuple #[])) w) : bodyPost P fn Rr .normal a w :=
  ⟨hf.defs, _, run_results (rs := []) hres .nil, by simpa using hR⟩

/-! ### Rows -/
theorem Mem.newRow (H : Mem w0 S M R D I w) {α : Type} [GoTy α] (k : Kd) (hk0 : k.fd = []) (E : TypeId) (xs : List α) (cells : List Value) (cap : Nat) (hcap : xs.length ≤ cap) (hmax : cap ≤ maxLen) (hlen : cells.length = cap * GoTy.n α)
    (hfit : k.fits xs.length) (hel : ∀ i x, xs[i]? = some x → k.holds w (St w0 S M R D k.fresh) i (part' α cells i) x) :
    Mem w0 S M (⟨k, E, some ⟨w.heap.size, 0, none⟩, cap, xs⟩ :: R) D I (w.alloc (.cells cells.toArray E)) := by
  refine MemZ.perm (MemZ.add (r := Row.res ⟨k, E, some ⟨w.heap.size, 0, none⟩, cap, xs⟩) H (Chg.alloc _ _ _) (fun b hb => ?_) ?_ fun hm => ?_) (zsR_cons _).symm
  · simp [Res.all, Row.res, Row.v, Value.ownBlock, hk0] at hb
    subst hb; simp
  · simp [Res.all, Row.res, Row.v, Value.ownBlock, hk0]
  · refine ⟨cells.take (xs.length * GoTy.n α), ⟨?_, .inr ⟨w.heap.size, cap, cells.toArray, rfl, Nat.zero_le _, heap_alloc_new w _, hcap, hmax, by simpa using hlen, by simp⟩⟩, hfit, fun i x hx => ?_⟩
    · simp only [List.length_take, hlen]
      exact Nat.min_eq_left (Nat.mul_le_mul_right _ hcap)
    · have hi : i < xs.length := (List.getElem?_eq_some_iff.1 hx).1
      have h2 : i * GoTy.n α + GoTy.n α ≤ xs.length * GoTy.n α := by
        have := Nat.mul_le_mul_right (GoTy.n α) (show i + 1 ≤ xs.length from hi)
        rwa [Nat.succ_mul] at this
      have e : part' α (cells.take (xs.length * GoTy.n α)) i = part' α cells i := by
        unfold part'
        rw [List.drop_take, List.take_take, Nat.min_eq_left (by omega)]
      rw [e]
      exact Kd.holds_mono (hel i x hx) (by rw [hk0]; intro b hb; cases hb) (hm _)

theorem Mem.nilRow (H : Mem w0 S M R D I w) (α : Type) [GoTy α] (k : Kd) (hk0 : k.fd = []) (hfit : k.fits 0) (E : TypeId) : Mem w0 S M (⟨k, E, none, 0, ([] : List α)⟩ :: R) D I w := by
  refine MemZ.perm (MemZ.add (r := Row.res ⟨k, E, none, 0, ([] : List α)⟩) H (Chg.refl _ _) (fun b hb => ?_) ?_ fun hm => ?_) (zsR_cons _).symm
  · simp [Res.all, Row.res, Row.v, Value.ownBlock, hk0] at hb
  · simp [Res.all, Row.res, Row.v, Value.ownBlock, hk0]
  · exact ⟨[], World.ownsRow_nil _ _ _ _, hfit, fun i x hx => by simp at hx⟩

theorem Mem.rowAt (H : Mem w0 S M R D I w) {r : Row} (hr : r ∈ R) : r.ok w (St w0 S M R D r.k.fresh) := MemZ.ok H r.res (List.mem_append.2 (.inr (List.mem_append.2 (.inl (List.mem_map.2 ⟨r, hr, rfl⟩)))))
theorem Mem.diAt (H : Mem w0 S M R D I w) {d : DI} (hd : d ∈ D) : d.p.pred w (· ∈ d.F) := (MemZ.ok H d.res (List.mem_append.2 (.inr (List.mem_append.2 (.inr (List.mem_map.2 ⟨d, hd, rfl⟩)))))).1
end
end AT

