/- MovePointer: the program's and the reference's are one. -/
import Derived.Test.YtijgfgfolkbkoaaP1
namespace AT
theorem FnExactMovePointer_true (p d : Int) (_ : ok_Int p) (_ : ok_Int d) : ∃ fu, laws_FnExactMovePointer fu p d = some true := by
  refine ⟨0, ?_⟩
  have h : impl_MovePointer 0 p d = spec_MovePointer 0 p d := by simp [impl_MovePointer, spec_MovePointer]
  have h2 : ∃ r, spec_MovePointer 0 p d = some r := by
    simp only [spec_MovePointer, l1In_eq, Option.bind_some, rem]
    split <;> simp <;> split <;> simp
  obtain ⟨r, hr⟩ := h2
  simp [laws_FnExactMovePointer, h, hr]
end AT
