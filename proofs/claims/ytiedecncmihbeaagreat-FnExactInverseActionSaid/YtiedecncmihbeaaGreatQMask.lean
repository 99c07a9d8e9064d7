/- Masks, plainly: numbers below 2^24 as sets of slots. -/
import Derived.Test.YtiedecncmihbeaaGreatQPlan
set_option linter.unusedSimpArgs false
set_option linter.unusedVariables false
namespace AT
end AT

