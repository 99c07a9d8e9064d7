/- Actions on plans, plainly: where a light is put, what is taken out, what is moved. -/
import Derived.Test.YtokhhjepjbhhpaaGreatQPlan2
import Derived.Test.YtokhhjepjbhhpaaGreatQFind
set_option linter.unusedSimpArgs false
set_option linter.unusedVariables false
namespace AT
end AT

