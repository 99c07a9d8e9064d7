/- Lists of actions applied, plainly: the program's and the reference's are one. -/
import Derived.Test.YtiedecncmihbeaaGreatQAct
import Derived.Test.YtiedecncmihbeaaGreatQChange
set_option linter.unusedSimpArgs false
set_option linter.unusedVariables false
namespace AT
def acts : List Action → Plan → Plan × Nat
  | [], p => (p, 0)
  | a :: l, p => if (act p a).2 = true then ((acts l (act p a).1).1, (acts l (act p a).1).2 + 1) else (p, 0)
end AT

