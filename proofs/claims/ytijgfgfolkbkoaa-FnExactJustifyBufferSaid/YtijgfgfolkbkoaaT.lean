/- The types and closed facts on the program, by program (gen.py). -/
import Derived.Test.YtijgfgfolkbkoaaAtZ
import Derived.Test.YtijgfgfolkbkoaaF
import Derived.Test.YtijgfgfolkbkoaaRows
set_option linter.unusedVariables false
set_option maxRecDepth 100000
namespace AT
open Go Go.RowKit Go.Proofs
theorem Lens.via {N α β : Type} [GoTy α] [GoTy β] {f : N → α} {q : Nat} {get : α → β} {put : α → β → α} (h : Lens α β q get put) (g : N → β) (p : N → β → N) (hg : ∀ e, g e = get (f e)) (hp : ∀ e y, f (p e y) = put (f e) y) : @Lens N β (GoTy.via f) _ q g p := by
  refine @Lens.mk N β (GoTy.via f) _ q g p ?_
  intro w F cs e ho
  obtain ⟨Fa, F1, Fc, c, hF, hc, h1, h2⟩ := h.at_ (e := f e) ho
  refine ⟨Fa, F1, Fc, c, hF, hc, by rw [hg]; exact h1, fun w1 F2 y a b d => ?_⟩
  have := h2 w1 F2 y a b d
  rw [← hp] at this; exact this
namespace TF
theorem ai3 : AI Try.prog 3 1 (.int .i64 0) 8 := by unfold AI; kernel_rfl
theorem cl40 : CL Try.prog 40 := fun _ _ => by kernel_rfl
theorem cl41 : CL Try.prog 41 := fun _ _ => by kernel_rfl
theorem cl42 : CL Try.prog 42 := fun _ _ => by kernel_rfl
theorem cl43 : CL Try.prog 43 := fun _ _ => by kernel_rfl
theorem cl44 : CL Try.prog 44 := fun _ _ => by kernel_rfl
theorem cl45 : CL Try.prog 45 := fun _ _ => by kernel_rfl
theorem cl97 : CL Try.prog 97 := fun _ _ => by kernel_rfl
theorem cl98 : CL Try.prog 98 := fun _ _ => by kernel_rfl
theorem ls3 : LS Try.prog 3 := fun _ _ => by kernel_rfl
theorem sz3 : SZ Try.prog 3 1 := fun _ => by kernel_rfl
end TF
def tab : Tab := ⟨[35], [4], [], []⟩
theorem inl_mem : ∀ {l : List Nat} {x : Nat}, inl l x = true → x ∈ l
  | y :: r, x, h => by
    unfold inl at h
    cases hb : Nat.beq y x <;> rw [hb] at h
    · exact List.mem_cons_of_mem _ (inl_mem h)
    · rw [Nat.eq_of_beq_eq_true hb]; exact List.mem_cons_self
theorem foff_mem : ∀ {l : List (TypeId × Nat × Nat)} {t f o : Nat}, foff l t f = some o → (t, f, o) ∈ l
  | (t', f', o') :: r, t, f, o, h => by
    unfold foff at h
    cases hb : (Nat.beq t' t && Nat.beq f' f) <;> rw [hb] at h
    · exact List.mem_cons_of_mem _ (foff_mem h)
    · simp only [Bool.and_eq_true] at hb
      injection h with h
      rw [Nat.eq_of_beq_eq_true hb.1, Nat.eq_of_beq_eq_true hb.2, h]; exact List.mem_cons_self
theorem tabOk : TabOk Try.prog tab where
  sl := fun T h => by
    have h := inl_mem h
    simp only [tab, List.mem_cons, List.not_mem_nil, or_false] at h
    rcases h with rfl
    · exact ⟨_, Try.underlying35⟩
  bo := fun T h => by
    have h := inl_mem h
    simp only [tab, List.mem_cons, List.not_mem_nil, or_false] at h
    rcases h with rfl
    · exact Try.underlying4
  st := fun T h => absurd (inl_mem h) (by simp [tab])
  fa := fun T f o h => by simp [tab, foff] at h
end AT
