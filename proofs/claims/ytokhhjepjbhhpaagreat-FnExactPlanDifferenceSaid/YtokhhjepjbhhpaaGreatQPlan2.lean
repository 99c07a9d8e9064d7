/- Valid plans, plainly, pair by pair. -/
import Derived.Test.YtokhhjepjbhhpaaGreatQLow
set_option linter.unusedSimpArgs false
set_option linter.unusedVariables false
namespace AT
end AT

