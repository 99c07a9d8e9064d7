/- The Go functions told plainly, by program (gen.py). -/
import Derived.Test.YtijgfgfolkbkoaaAtP
set_option linter.unusedVariables false
namespace AT
structure Span where
  Length : Int
  Loss : Int
  Splices : Int
  deriving DecidableEq

/- loop.example/g00897/spec.l1In -/
def spec_l1In (fu : Nat) (x1 : Int) (a' : Int) (b' : Int) : Option (Bool) :=
  (if decide (x1 ≥ a') then some (decide (x1 ≤ b'))
  else some false).bind fun c =>
  some c

/- loop.example/g00897/spec.MovePointer -/
def spec_MovePointer (fu : Nat) (pointer : Int) (drift : Int) : Option (Int × Bool) :=
  ((spec_l1In fu pointer 0 11).bind fun y =>
  if !y then some true
  else (spec_l1In fu drift (-1) 1).bind fun y2 =>
  some (!y2)).bind fun c =>
  if c then
    some (0, false)
  else
    (rem (w64 ((w64 (pointer + drift)) + 12)) 12).bind fun q =>
    some (q, true)

/- loop.example/g00897/impl.within -/
def impl_within (fu : Nat) (n' : Int) (low : Int) (high : Int) : Option (Bool) :=
  (if decide (low ≤ n') then some (decide (n' ≤ high))
  else some false).bind fun c =>
  some c

/- loop.example/g00897/impl.MovePointer -/
def impl_MovePointer (fu : Nat) (pointer : Int) (drift : Int) : Option (Int × Bool) :=
  ((impl_within fu pointer 0 11).bind fun y =>
  if !y then some true
  else (impl_within fu drift (-1) 1).bind fun y2 =>
  some (!y2)).bind fun c =>
  if c then
    some (0, false)
  else
    (rem (w64 ((w64 (pointer + drift)) + 12)) 12).bind fun q =>
    some (q, true)

/- loop.example/g00897/laws.FnExactMovePointer -/
def laws_FnExactMovePointer (fu : Nat) (aPointer : Int) (aDrift : Int) : Option (Bool) :=
  (spec_MovePointer fu aPointer aDrift).bind fun y =>
  (impl_MovePointer fu aPointer aDrift).bind fun y2 =>
  (if y2.1 != y.1 then some true
  else some (y2.2 != y.2)).bind fun c =>
  if c then
    some false
  else
    some true

/- loop.example/g00897/laws.toSpan -/
def laws_toSpan (fu : Nat) (a' : Span) : Option (Span) :=
  some a'

/- loop.example/g00897/spec.l22Span -/
def spec_l22Span (fu : Nat) (s' : Span) : Option (Bool) :=
  ((spec_l1In fu s'.Length 0 1000).bind fun y =>
  if y then (spec_l1In fu s'.Loss 0 1000).bind fun y2 =>
  if y2 then (spec_l1In fu s'.Splices 0 50).bind fun y3 =>
  some y3
  else some false
  else some false).bind fun c =>
  some c

/- loop.example/g00897/spec.l22Loss -/
def spec_l22Loss (fu : Nat) (s' : Span) : Option (Int) :=
  (quo (w64 ((w64 (s'.Length * s'.Loss)) + 999)) 1000).bind fun q =>
  some (w64 (q + (w64 (5 * s'.Splices))))

/- loop.example/g00897/spec.SpanLoss -/
def spec_SpanLoss (fu : Nat) (s' : Span) : Option (Int × Bool) :=
  (spec_l22Span fu s').bind fun y =>
  if !y then
    some (0, false)
  else
    (spec_l22Loss fu s').bind fun y2 =>
    some (y2, true)

/- loop.example/g00897/impl.isSpan -/
def impl_isSpan (fu : Nat) (s' : Span) : Option (Bool) :=
  ((impl_within fu s'.Length 0 1000).bind fun y =>
  if y then (impl_within fu s'.Loss 0 1000).bind fun y2 =>
  if y2 then (impl_within fu s'.Splices 0 50).bind fun y3 =>
  some y3
  else some false
  else some false).bind fun c =>
  some c

/- loop.example/g00897/impl.lossOf -/
def impl_lossOf (fu : Nat) (s' : Span) : Option (Int) :=
  (quo (w64 ((w64 (s'.Length * s'.Loss)) + 999)) 1000).bind fun q =>
  some (w64 (q + (w64 (5 * s'.Splices))))

/- loop.example/g00897/impl.SpanLoss -/
def impl_SpanLoss (fu : Nat) (s' : Span) : Option (Int × Bool) :=
  (impl_isSpan fu s').bind fun y =>
  if !y then
    some (0, false)
  else
    (impl_lossOf fu s').bind fun y2 =>
    some (y2, true)

/- loop.example/g00897/laws.FnExactSpanLoss -/
def laws_FnExactSpanLoss (fu : Nat) (aS : Span) : Option (Bool) :=
  (laws_toSpan fu aS).bind fun y =>
  (spec_SpanLoss fu y).bind fun y2 =>
  (laws_toSpan fu aS).bind fun y3 =>
  (impl_SpanLoss fu y3).bind fun y4 =>
  (if y4.1 != y2.1 then some true
  else some (y4.2 != y2.2)).bind fun c =>
  if c then
    some false
  else
    some true

/- loop.example/g00897/spec.l22Table -/
def spec_l22Table (fu : Nat) : Option (List Int) :=
  some [1000, 1259, 1585, 1995, 2512, 3162, 3981, 5012, 6310, 7943]

/- loop.example/g00897/spec.l22Linear -/
def spec_l22Linear_L1 (fu : Nat) : Nat → Int → Int → Option (Int × Int)
  | 0, _, _ => none
  | fk + 1, out', k' =>
    if decide (k' > 0) then
      spec_l22Linear_L1 fu fk (w64 (out' * 10)) (w64 (k' - 1))
    else
      some (out', k')
def spec_l22Linear (fu : Nat) (level : Int) : Option (Int) :=
  ((spec_l1In fu level 0 9900).bind fun y =>
  if !y then some true
  else (rem level 100).bind fun q =>
  some (q != 0)).bind fun c =>
  if c then
    some 0
  else
    (spec_l22Table fu).bind fun y2 =>
    (quo level 100).bind fun q2 =>
    (rem q2 10).bind fun q3 =>
    (idx y2 q3).bind fun e =>
    (quo level 1000).bind fun q4 =>
    (spec_l22Linear_L1 fu fu e q4).bind fun z =>
    some z.1

/- loop.example/g00897/spec.LinearValue -/
def spec_LinearValue (fu : Nat) (level : Int) : Option (Int × Bool) :=
  (spec_l22Linear fu level).bind fun y =>
  some (y, decide (y > 0))

/- loop.example/g00897/impl.hasLinear -/
def impl_hasLinear (fu : Nat) (level : Int) : Option (Bool) :=
  ((impl_within fu level 0 9900).bind fun y =>
  if y then (rem level 100).bind fun q =>
  some (q == 0)
  else some false).bind fun c =>
  some c

/- loop.example/g00897/impl.linear -/
def impl_linear_L1 (fu : Nat) (q3 : Int) : Nat → Int → Int → Option (Int × Int)
  | 0, _, _ => none
  | fk + 1, out', i =>
    if decide (i < q3) then
      impl_linear_L1 fu q3 fk (w64 (out' * 10)) (w64 (i + 1))
    else
      some (out', i)
def impl_linear (fu : Nat) (level : Int) : Option (Int) :=
  (quo level 100).bind fun q =>
  (rem q 10).bind fun q2 =>
  (idx [1000, 1259, 1585, 1995, 2512, 3162, 3981, 5012, 6310, 7943] q2).bind fun e =>
  (quo level 1000).bind fun q3 =>
  (impl_linear_L1 fu q3 fu e 0).bind fun z =>
  some z.1

/- loop.example/g00897/impl.LinearValue -/
def impl_LinearValue (fu : Nat) (level : Int) : Option (Int × Bool) :=
  (impl_hasLinear fu level).bind fun y =>
  if !y then
    some (0, false)
  else
    (impl_linear fu level).bind fun y2 =>
    some (y2, true)

/- loop.example/g00897/laws.FnExactLinearValue -/
def laws_FnExactLinearValue (fu : Nat) (aLevel : Int) : Option (Bool) :=
  (spec_LinearValue fu aLevel).bind fun y =>
  (impl_LinearValue fu aLevel).bind fun y2 =>
  (if y2.1 != y.1 then some true
  else some (y2.2 != y.2)).bind fun c =>
  if c then
    some false
  else
    some true

/- loop.example/g00897/spec.l22Level -/
def spec_l22Level (fu : Nat) (x1 : Int) : Option (Bool) :=
  (spec_l1In fu x1 (-10000) 10000).bind fun y =>
  some y

/- loop.example/g00897/spec.MostSpans -/
def spec_MostSpans_L1 (fu : Nat) (s' : Span) (launch : Int) (need : Int) : Nat → Int → Option (Int)
  | 0, _ => none
  | fk + 1, n' =>
    (if decide (n' < 12) then (spec_l22Loss fu s').bind fun y4 =>
    some (decide ((w64 (launch - (w64 ((w64 (n' + 1)) * y4)))) ≥ need))
    else some false).bind fun c2 =>
    if c2 then
      spec_MostSpans_L1 fu s' launch need fk (w64 (n' + 1))
    else
      some n'
def spec_MostSpans (fu : Nat) (s' : Span) (launch : Int) (need : Int) : Option (Int × Bool) :=
  ((spec_l22Span fu s').bind fun y =>
  if !y then some true
  else (spec_l22Level fu launch).bind fun y2 =>
  if !y2 then some true
  else (spec_l22Level fu need).bind fun y3 =>
  some (!y3)).bind fun c =>
  if c then
    some (0, false)
  else
    (spec_MostSpans_L1 fu s' launch need fu 0).bind fun z =>
    some (z, true)

/- loop.example/g00897/impl.isLevel -/
def impl_isLevel (fu : Nat) (level : Int) : Option (Bool) :=
  (impl_within fu level (-10000) 10000).bind fun y =>
  some y

/- loop.example/g00897/impl.MostSpans -/
def impl_MostSpans_L1 (fu : Nat) (s' : Span) (launch : Int) (need : Int) : Nat → Int → Option (Int)
  | 0, _ => none
  | fk + 1, count =>
    (if decide (count < 12) then (impl_lossOf fu s').bind fun y4 =>
    some (decide ((w64 (launch - (w64 ((w64 (count + 1)) * y4)))) ≥ need))
    else some false).bind fun c2 =>
    if c2 then
      impl_MostSpans_L1 fu s' launch need fk (w64 (count + 1))
    else
      some count
def impl_MostSpans (fu : Nat) (s' : Span) (launch : Int) (need : Int) : Option (Int × Bool) :=
  ((impl_isSpan fu s').bind fun y =>
  if !y then some true
  else (impl_isLevel fu launch).bind fun y2 =>
  if !y2 then some true
  else (impl_isLevel fu need).bind fun y3 =>
  some (!y3)).bind fun c =>
  if c then
    some (0, false)
  else
    (impl_MostSpans_L1 fu s' launch need fu 0).bind fun z =>
    some (z, true)

/- loop.example/g00897/laws.FnExactMostSpans -/
def laws_FnExactMostSpans (fu : Nat) (aS : Span) (aLaunch : Int) (aNeed : Int) : Option (Bool) :=
  (laws_toSpan fu aS).bind fun y =>
  (spec_MostSpans fu y aLaunch aNeed).bind fun y2 =>
  (laws_toSpan fu aS).bind fun y3 =>
  (impl_MostSpans fu y3 aLaunch aNeed).bind fun y4 =>
  (if y4.1 != y2.1 then some true
  else some (y4.2 != y2.2)).bind fun c =>
  if c then
    some false
  else
    some true

/- loop.example/g00897/spec.l22Of -/
def spec_l22Of_L1 (fu : Nat) (value : Int) : Nat → Int → Option (Int)
  | 0, _ => none
  | fk + 1, level =>
    (if decide (level < 9900) then (spec_l22Linear fu (w64 (level + 100))).bind fun y =>
    some (decide (y ≤ value))
    else some false).bind fun c =>
    if c then
      spec_l22Of_L1 fu value fk (w64 (level + 100))
    else
      some level
def spec_l22Of (fu : Nat) (value : Int) : Option (Int) :=
  (spec_l22Of_L1 fu value fu 0).bind fun z =>
  some z

/- loop.example/g00897/spec.LevelOf -/
def spec_LevelOf (fu : Nat) (value : Int) : Option (Int × Bool) :=
  (spec_l1In fu value 1000 10000000000000).bind fun y =>
  if !y then
    some (0, false)
  else
    (spec_l22Of fu value).bind fun y2 =>
    some (y2, true)

/- loop.example/g00897/impl.LevelOf -/
def impl_LevelOf_L1 (fu : Nat) (value : Int) : Nat → Int → Option (Int)
  | 0, _ => none
  | fk + 1, level =>
    ((impl_hasLinear fu (w64 (level + 100))).bind fun y2 =>
    if y2 then (impl_linear fu (w64 (level + 100))).bind fun y3 =>
    some (decide (y3 ≤ value))
    else some false).bind fun c =>
    if c then
      impl_LevelOf_L1 fu value fk (w64 (level + 100))
    else
      some level
def impl_LevelOf (fu : Nat) (value : Int) : Option (Int × Bool) :=
  (impl_within fu value 1000 10000000000000).bind fun y =>
  if !y then
    some (0, false)
  else
    (impl_LevelOf_L1 fu value fu 0).bind fun z =>
    some (z, true)

/- loop.example/g00897/laws.FnExactLevelOf -/
def laws_FnExactLevelOf (fu : Nat) (aValue : Int) : Option (Bool) :=
  (spec_LevelOf fu aValue).bind fun y =>
  (impl_LevelOf fu aValue).bind fun y2 =>
  (if y2.1 != y.1 then some true
  else some (y2.2 != y.2)).bind fun c =>
  if c then
    some false
  else
    some true
end AT
