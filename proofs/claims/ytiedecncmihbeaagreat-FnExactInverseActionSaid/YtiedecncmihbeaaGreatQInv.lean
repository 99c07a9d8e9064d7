/- The action that takes an action back, and the steps of a change, plainly. -/
import Derived.Test.YtiedecncmihbeaaGreatQValid
set_option linter.unusedSimpArgs false
set_option linter.unusedVariables false
namespace AT
def inv (p : Plan) (a : Action) : Action := if a.Kind = 1 then ⟨2, a.Light⟩ else if a.Kind = 2 then ⟨1, a.Light⟩ else ⟨3, gd p.Lights (atId p.Lights a.Light.Id) l0⟩
structure ChF (c : Change) : Prop where
  ok : planOk c.Plan = true
  B : ChangeB c
  len : c.Actions.length + c.Undo.length ≤ 8
  back : c.Back = true → c.Actions = []
  undo : (acts c.Undo c.Plan).2 = c.Undo.length
end AT

