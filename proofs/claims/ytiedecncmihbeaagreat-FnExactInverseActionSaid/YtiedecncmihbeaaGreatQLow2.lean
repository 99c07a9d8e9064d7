/- The lowest place of a light, plainly: what the program's search asks. -/
import Derived.Test.YtiedecncmihbeaaGreatQLow
set_option linter.unusedSimpArgs false
set_option linter.unusedVariables false
namespace AT
end AT

