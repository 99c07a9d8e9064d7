/- The lowest place of a light, plainly: the program's and the reference's are one. -/
import Derived.Test.YtiedecncmihbeaaGreatQLow2
set_option linter.unusedSimpArgs false
set_option linter.unusedVariables false
namespace AT
end AT

