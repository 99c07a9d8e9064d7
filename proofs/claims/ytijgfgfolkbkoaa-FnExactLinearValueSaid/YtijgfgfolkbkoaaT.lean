/- The types and closed facts on the program, by program (gen.py). -/
import Derived.Test.YtijgfgfolkbkoaaAtU
import Derived.Test.YtijgfgfolkbkoaaF
import Derived.Test.YtijgfgfolkbkoaaRows
set_option linter.unusedVariables false
set_option maxRecDepth 100000
namespace AT
open Go Go.RowKit Go.Proofs
instance : GoTy Span := GoTy.via (α := (Int) × (Int) × (Int)) (fun x => (x.Length, x.Loss, x.Splices))
theorem Span_cells {w : World} {S : Nat → Prop} {cs : List Value} {x : Span} (h : GoTy.rep w S cs x) : cs = [(.int .i64 x.Length), (.int .i64 x.Loss), (.int .i64 x.Splices)] := by
  obtain ⟨p0, q0, rfl, g0, k0⟩ := h
  obtain rfl := g0
  obtain ⟨p1, q1, rfl, g1, k1⟩ := k0
  obtain rfl := g1
  obtain rfl := k1
  exact rfl
theorem Span_open {w : World} {S : Nat → Prop} {v : Value} {x : Span} (h : VR w S v x) : v = (.agg #[(.int .i64 x.Length), (.int .i64 x.Loss), (.int .i64 x.Splices)]) := by
  obtain ⟨cs, h, rfl⟩ := h
  obtain rfl := Span_cells h
  exact rfl
theorem Span_mk {w : World} {S : Nat → Prop} {x : Span} : GoTy.rep w S [(.int .i64 x.Length), (.int .i64 x.Loss), (.int .i64 x.Splices)] x := ⟨_, _, rfl, rfl, ⟨_, _, rfl, rfl, rfl⟩⟩
theorem Span_mkv {w : World} {S : Nat → Prop} {x : Span} : VR w S (.agg #[(.int .i64 x.Length), (.int .i64 x.Loss), (.int .i64 x.Splices)]) x := ⟨_, Span_mk, rfl⟩
namespace TF
theorem cl100 : CL Try.prog 100 := fun _ _ => by kernel_rfl
theorem cl101 : CL Try.prog 101 := fun _ _ => by kernel_rfl
theorem cl102 : CL Try.prog 102 := fun _ _ => by kernel_rfl
theorem cl103 : CL Try.prog 103 := fun _ _ => by kernel_rfl
theorem cl104 : CL Try.prog 104 := fun _ _ => by kernel_rfl
theorem cl105 : CL Try.prog 105 := fun _ _ => by kernel_rfl
theorem cl106 : CL Try.prog 106 := fun _ _ => by kernel_rfl
theorem cl107 : CL Try.prog 107 := fun _ _ => by kernel_rfl
theorem cl108 : CL Try.prog 108 := fun _ _ => by kernel_rfl
theorem cl152 : CL Try.prog 152 := fun _ _ => by kernel_rfl
theorem cl24 : CL Try.prog 24 := fun _ _ => by kernel_rfl
theorem cl25 : CL Try.prog 25 := fun _ _ => by kernel_rfl
theorem cl26 : CL Try.prog 26 := fun _ _ => by kernel_rfl
theorem cl27 : CL Try.prog 27 := fun _ _ => by kernel_rfl
theorem cl28 : CL Try.prog 28 := fun _ _ => by kernel_rfl
theorem cl29 : CL Try.prog 29 := fun _ _ => by kernel_rfl
theorem cl30 : CL Try.prog 30 := fun _ _ => by kernel_rfl
theorem cl31 : CL Try.prog 31 := fun _ _ => by kernel_rfl
theorem cl32 : CL Try.prog 32 := fun _ _ => by kernel_rfl
theorem cl33 : CL Try.prog 33 := fun _ _ => by kernel_rfl
theorem cl34 : CL Try.prog 34 := fun _ _ => by kernel_rfl
theorem cl97 : CL Try.prog 97 := fun _ _ => by kernel_rfl
theorem cl98 : CL Try.prog 98 := fun _ _ => by kernel_rfl
theorem cl99 : CL Try.prog 99 := fun _ _ => by kernel_rfl
theorem la26 : LA Try.prog 26 3 := fun _ _ => by kernel_rfl
theorem la28 : LA Try.prog 28 3 := fun _ _ => by kernel_rfl
theorem ls3 : LS Try.prog 3 := fun _ _ => by kernel_rfl
theorem pt3 : PT Try.prog 3 := fun _ => ⟨by kernel_rfl, by kernel_rfl⟩
theorem sz28 : SZ Try.prog 28 3 := fun _ => by kernel_rfl
theorem sz3 : SZ Try.prog 3 1 := fun _ => by kernel_rfl
theorem zv28 : ZV Try.prog 28 (.agg #[(.int .i64 0), (.int .i64 0), (.int .i64 0)]) := fun _ => by kernel_rfl
end TF
def tab : Tab := ⟨[], [4], [], [(26, 0, 0), (26, 1, 1), (26, 2, 2), (28, 0, 0), (28, 1, 1), (28, 2, 2)]⟩
theorem inl_mem : ∀ {l : List Nat} {x : Nat}, inl l x = true → x ∈ l
  | y :: r, x, h => by
    unfold inl at h
    cases hb : Nat.beq y x <;> rw [hb] at h
    · exact List.mem_cons_of_mem _ (inl_mem h)
    · rw [Nat.eq_of_beq_eq_true hb]; exact List.mem_cons_self
theorem foff_mem : ∀ {l : List (TypeId × Nat × Nat)} {t f o : Nat}, foff l t f = some o → (t, f, o) ∈ l
  | (t', f', o') :: r, t, f, o, h => by
    unfold foff at h
    cases hb : (Nat.beq t' t && Nat.beq f' f) <;> rw [hb] at h
    · exact List.mem_cons_of_mem _ (foff_mem h)
    · simp only [Bool.and_eq_true] at hb
      injection h with h
      rw [Nat.eq_of_beq_eq_true hb.1, Nat.eq_of_beq_eq_true hb.2, h]; exact List.mem_cons_self
theorem tabOk : TabOk Try.prog tab where
  sl := fun T h => absurd (inl_mem h) (by simp [tab])
  bo := fun T h => by
    have h := inl_mem h
    simp only [tab, List.mem_cons, List.not_mem_nil, or_false] at h
    rcases h with rfl
    · exact Try.underlying4
  st := fun T h => absurd (inl_mem h) (by simp [tab])
  fa := fun T f o h => by
    have h := foff_mem h
    simp only [tab, List.mem_cons, List.not_mem_nil, or_false, Prod.mk.injEq] at h
    rcases h with ⟨rfl, rfl, rfl⟩ | ⟨rfl, rfl, rfl⟩ | ⟨rfl, rfl, rfl⟩ | ⟨rfl, rfl, rfl⟩ | ⟨rfl, rfl, rfl⟩ | ⟨rfl, rfl, rfl⟩
    · exact fun _ _ => by kernel_rfl
    · exact fun _ _ => by kernel_rfl
    · exact fun _ _ => by kernel_rfl
    · exact fun _ _ => by kernel_rfl
    · exact fun _ _ => by kernel_rfl
    · exact fun _ _ => by kernel_rfl
end AT
