/- Masks, plainly: numbers below 2^24 as sets of slots. -/
import Derived.Test.YtokhhjepjbhhpaaGreatQPlan
set_option linter.unusedSimpArgs false
set_option linter.unusedVariables false
namespace AT
/-! ### The slots that lights occupy on a fiber, along a route -/
def has (l : List Int) (f : Int) : Bool := l.any fun x => x == f
def used (L : List Light) (f : Int) : Int := L.foldl (fun o y => if has y.Route.Fibers f = true then bor o (bits y.Block) else o) 0
def along (L : List Light) (fs : List Int) : Int := fs.foldl (fun o f => bor o (used L f)) 0
end AT

