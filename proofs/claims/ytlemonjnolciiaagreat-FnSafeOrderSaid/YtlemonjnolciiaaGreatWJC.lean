/- The shared walks and those of Insert and Delete. -/
import Derived.Test.YtlemonjnolciiaaGreatWC3
import Derived.Test.YtlemonjnolciiaaGreatWJ
