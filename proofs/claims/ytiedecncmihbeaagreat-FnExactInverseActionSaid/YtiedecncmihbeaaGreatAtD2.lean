/- Readings of bytes and unsigned numbers. -/
import Derived.Test.YtiedecncmihbeaaGreatAtD
import Derived.Test.YtiedecncmihbeaaGreatAtW
namespace AT
open Go Go.RowKit
end AT

