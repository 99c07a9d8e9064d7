/- Valid plans, plainly, pair by pair. -/
import Derived.Test.YtiedecncmihbeaaGreatQLow
set_option linter.unusedSimpArgs false
set_option linter.unusedVariables false
namespace AT
end AT

