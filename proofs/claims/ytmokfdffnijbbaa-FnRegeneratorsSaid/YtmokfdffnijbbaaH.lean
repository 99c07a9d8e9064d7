/- What the laws' own small functions do (copies, comparisons, sizes, marks), by program (pure.py). -/
import Derived.Test.YtmokfdffnijbbaaOk
import Derived.Test.YtmokfdffnijbbaaAtL
set_option linter.unusedVariables false
set_option linter.unusedSimpArgs false
namespace AT
end AT
