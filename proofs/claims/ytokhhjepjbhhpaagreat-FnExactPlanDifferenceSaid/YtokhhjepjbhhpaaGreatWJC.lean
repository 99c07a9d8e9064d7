/- The shared walks and those of Insert and Delete. -/
import Derived.Test.YtokhhjepjbhhpaaGreatWC1
import Derived.Test.YtokhhjepjbhhpaaGreatWJ

