/- The Go functions told plainly, by program (gen.py). -/
import Derived.Test.YtijgfgfolkbkoaaAtP
set_option linter.unusedVariables false
namespace AT
structure Amplifier where
  After : Int
  Gain : Int
  Output : Int
  Noise : Int
  deriving DecidableEq

/- loop.example/g00897/laws.szAmplifierS -/
def laws_szAmplifierS (fu : Nat) (a' : List Amplifier) (left : Int) : Option (Int) :=
  if decide ((w64 (left - (a'.length : Int))) < 0) then
    some (-1)
  else
    some (w64 (left - (a'.length : Int)))

/- loop.example/g00897/laws.toAmplifier -/
def laws_toAmplifier (fu : Nat) (a' : Amplifier) : Option (Amplifier) :=
  some a'

/- loop.example/g00897/laws.toAmplifierS -/
def laws_toAmplifierS_L1 (fu : Nat) (a' : List Amplifier) : Nat → List Amplifier → Int → Option (List Amplifier × Int)
  | 0, _, _ => none
  | fk + 1, out', i =>
    if decide (i < (a'.length : Int)) then
      (idx a' i).bind fun e =>
      (laws_toAmplifier fu e).bind fun y =>
      (idx out' i).bind fun e2 =>
      laws_toAmplifierS_L1 fu a' fk (out'.set (i).toNat y) (w64 (i + 1))
    else
      some (out', i)
def laws_toAmplifierS (fu : Nat) (a' : List Amplifier) : Option (List Amplifier) :=
  (mk (({ After := 0, Gain := 0, Output := 0, Noise := 0 } : Amplifier) : Amplifier) (a'.length : Int)).bind fun l =>
  (laws_toAmplifierS_L1 fu a' fu l 0).bind fun z =>
  some z.1

/- loop.example/g00897/spec.l1In -/
def spec_l1In (fu : Nat) (x1 : Int) (a' : Int) (b' : Int) : Option (Bool) :=
  (if decide (x1 ≥ a') then some (decide (x1 ≤ b'))
  else some false).bind fun c =>
  some c

/- loop.example/g00897/spec.l22Level -/
def spec_l22Level (fu : Nat) (x1 : Int) : Option (Bool) :=
  (spec_l1In fu x1 (-10000) 10000).bind fun y =>
  some y

/- loop.example/g00897/spec.l22Kind -/
def spec_l22Kind (fu : Nat) (a' : Amplifier) : Option (Bool) :=
  ((spec_l1In fu a'.Gain 0 10000).bind fun y =>
  if y then (spec_l22Level fu a'.Output).bind fun y2 =>
  if y2 then (spec_l1In fu a'.Noise 0 10000).bind fun y3 =>
  some y3
  else some false
  else some false).bind fun c =>
  some c

/- loop.example/g00897/spec.l22List -/
def spec_l22List_L1 (fu : Nat) (list : List Amplifier) (spans : Int) : Nat → Int → Option (Out (Int) (Bool))
  | 0, _ => none
  | fk + 1, i =>
    if decide (i < (list.length : Int)) then
      (idx list i).bind fun e =>
      (spec_l22Kind fu e).bind fun y =>
      if !y then some (.ret false)
      else (idx list i).bind fun e2 =>
      (spec_l1In fu e2.After 0 (w64 (spans - 1))).bind fun y2 =>
      if !y2 then some (.ret false)
      else if decide (i > 0) then (idx list (w64 (i - 1))).bind fun e3 =>
      (idx list i).bind fun e4 =>
      if decide (e3.After ≥ e4.After) then
        some (.ret false)
      else
        spec_l22List_L1 fu list spans fk (w64 (i + 1))
      else spec_l22List_L1 fu list spans fk (w64 (i + 1))
    else
      some (.next i)
def spec_l22List (fu : Nat) (list : List Amplifier) (spans : Int) : Option (Bool) :=
  (spec_l22List_L1 fu list spans fu 0).bind fun out => out.on some fun z =>
  some true

/- loop.example/g00897/spec.l22Table -/
def spec_l22Table (fu : Nat) : Option (List Int) :=
  some [1000, 1259, 1585, 1995, 2512, 3162, 3981, 5012, 6310, 7943]

/- loop.example/g00897/spec.l22Linear -/
def spec_l22Linear_L1 (fu : Nat) : Nat → Int → Int → Option (Int × Int)
  | 0, _, _ => none
  | fk + 1, out', k' =>
    if decide (k' > 0) then
      spec_l22Linear_L1 fu fk (w64 (out' * 10)) (w64 (k' - 1))
    else
      some (out', k')
def spec_l22Linear (fu : Nat) (level : Int) : Option (Int) :=
  ((spec_l1In fu level 0 9900).bind fun y =>
  if !y then some true
  else (rem level 100).bind fun q =>
  some (q != 0)).bind fun c =>
  if c then
    some 0
  else
    (spec_l22Table fu).bind fun y2 =>
    (quo level 100).bind fun q2 =>
    (rem q2 10).bind fun q3 =>
    (idx y2 q3).bind fun e =>
    (quo level 1000).bind fun q4 =>
    (spec_l22Linear_L1 fu fu e q4).bind fun z =>
    some z.1

/- loop.example/g00897/spec.l22Of -/
def spec_l22Of_L1 (fu : Nat) (value : Int) : Nat → Int → Option (Int)
  | 0, _ => none
  | fk + 1, level =>
    (if decide (level < 9900) then (spec_l22Linear fu (w64 (level + 100))).bind fun y =>
    some (decide (y ≤ value))
    else some false).bind fun c =>
    if c then
      spec_l22Of_L1 fu value fk (w64 (level + 100))
    else
      some level
def spec_l22Of (fu : Nat) (value : Int) : Option (Int) :=
  (spec_l22Of_L1 fu value fu 0).bind fun z =>
  some z

/- loop.example/g00897/spec.NoiseSum -/
def spec_NoiseSum_L1 (fu : Nat) (list : List Amplifier) : Nat → Int → Int → Option (Out (Int × Int) (Int × Bool))
  | 0, _, _ => none
  | fk + 1, sum, i =>
    if decide (i < (list.length : Int)) then
      (idx list i).bind fun e =>
      (spec_l22Linear fu e.Noise).bind fun y2 =>
      if y2 == 0 then
        some (.ret (0, false))
      else
        spec_NoiseSum_L1 fu list fk (w64 (sum + y2)) (w64 (i + 1))
    else
      some (.next (sum, i))
def spec_NoiseSum (fu : Nat) (list : List Amplifier) : Option (Int × Bool) :=
  (if (list.length : Int) == 0 then some true
  else (spec_l22List fu list 12).bind fun y =>
  some (!y)).bind fun c2 =>
  if c2 then
    some (0, false)
  else
    (spec_NoiseSum_L1 fu list fu 0 0).bind fun out => out.on some fun z =>
    (spec_l1In fu z.1 1000 10000000000000).bind fun y3 =>
    if !y3 then
      some (0, false)
    else
      (spec_l22Of fu z.1).bind fun y4 =>
      some (y4, true)

/- loop.example/g00897/impl.within -/
def impl_within (fu : Nat) (n' : Int) (low : Int) (high : Int) : Option (Bool) :=
  (if decide (low ≤ n') then some (decide (n' ≤ high))
  else some false).bind fun c =>
  some c

/- loop.example/g00897/impl.isLevel -/
def impl_isLevel (fu : Nat) (level : Int) : Option (Bool) :=
  (impl_within fu level (-10000) 10000).bind fun y =>
  some y

/- loop.example/g00897/impl.isAmplifier -/
def impl_isAmplifier (fu : Nat) (a' : Amplifier) : Option (Bool) :=
  ((impl_within fu a'.Gain 0 10000).bind fun y =>
  if y then (impl_isLevel fu a'.Output).bind fun y2 =>
  if y2 then (impl_within fu a'.Noise 0 10000).bind fun y3 =>
  some y3
  else some false
  else some false).bind fun c =>
  some c

/- loop.example/g00897/impl.areAmplifiers -/
def impl_areAmplifiers_L1 (fu : Nat) (list : List Amplifier) (spans : Int) : Nat → Int → Option (Out (Int) (Bool))
  | 0, _ => none
  | fk + 1, i =>
    if decide (i < (list.length : Int)) then
      (idx list i).bind fun e =>
      (impl_isAmplifier fu e).bind fun y =>
      if !y then some (.ret false)
      else (impl_within fu e.After 0 (w64 (spans - 1))).bind fun y2 =>
      if !y2 then some (.ret false)
      else if decide (i > 0) then (idx list (w64 (i - 1))).bind fun e2 =>
      if decide (e2.After ≥ e.After) then
        some (.ret false)
      else
        impl_areAmplifiers_L1 fu list spans fk (w64 (i + 1))
      else impl_areAmplifiers_L1 fu list spans fk (w64 (i + 1))
    else
      some (.next i)
def impl_areAmplifiers (fu : Nat) (list : List Amplifier) (spans : Int) : Option (Bool) :=
  (impl_areAmplifiers_L1 fu list spans fu 0).bind fun out => out.on some fun z =>
  some true

/- loop.example/g00897/impl.hasLinear -/
def impl_hasLinear (fu : Nat) (level : Int) : Option (Bool) :=
  ((impl_within fu level 0 9900).bind fun y =>
  if y then (rem level 100).bind fun q =>
  some (q == 0)
  else some false).bind fun c =>
  some c

/- loop.example/g00897/impl.linear -/
def impl_linear_L1 (fu : Nat) (q3 : Int) : Nat → Int → Int → Option (Int × Int)
  | 0, _, _ => none
  | fk + 1, out', i =>
    if decide (i < q3) then
      impl_linear_L1 fu q3 fk (w64 (out' * 10)) (w64 (i + 1))
    else
      some (out', i)
def impl_linear (fu : Nat) (level : Int) : Option (Int) :=
  (quo level 100).bind fun q =>
  (rem q 10).bind fun q2 =>
  (idx [1000, 1259, 1585, 1995, 2512, 3162, 3981, 5012, 6310, 7943] q2).bind fun e =>
  (quo level 1000).bind fun q3 =>
  (impl_linear_L1 fu q3 fu e 0).bind fun z =>
  some z.1

/- loop.example/g00897/impl.LevelOf -/
def impl_LevelOf_L1 (fu : Nat) (value : Int) : Nat → Int → Option (Int)
  | 0, _ => none
  | fk + 1, level =>
    ((impl_hasLinear fu (w64 (level + 100))).bind fun y2 =>
    if y2 then (impl_linear fu (w64 (level + 100))).bind fun y3 =>
    some (decide (y3 ≤ value))
    else some false).bind fun c =>
    if c then
      impl_LevelOf_L1 fu value fk (w64 (level + 100))
    else
      some level
def impl_LevelOf (fu : Nat) (value : Int) : Option (Int × Bool) :=
  (impl_within fu value 1000 10000000000000).bind fun y =>
  if !y then
    some (0, false)
  else
    (impl_LevelOf_L1 fu value fu 0).bind fun z =>
    some (z, true)

/- loop.example/g00897/impl.NoiseSum -/
def impl_NoiseSum_L1 (fu : Nat) (list : List Amplifier) : Nat → Int → Int → Option (Out (Int × Int) (Int × Bool))
  | 0, _, _ => none
  | fk + 1, sum, i =>
    if decide (i < (list.length : Int)) then
      (idx list i).bind fun e =>
      (impl_hasLinear fu e.Noise).bind fun y2 =>
      if !y2 then
        some (.ret (0, false))
      else
        (impl_linear fu e.Noise).bind fun y3 =>
        impl_NoiseSum_L1 fu list fk (w64 (sum + y3)) (w64 (i + 1))
    else
      some (.next (sum, i))
def impl_NoiseSum (fu : Nat) (list : List Amplifier) : Option (Int × Bool) :=
  (if (list.length : Int) == 0 then some true
  else (impl_areAmplifiers fu list 12).bind fun y =>
  some (!y)).bind fun c2 =>
  if c2 then
    some (0, false)
  else
    (impl_NoiseSum_L1 fu list fu 0 0).bind fun out => out.on some fun z =>
    (impl_LevelOf fu z.1).bind fun y4 =>
    some (y4.1, y4.2)

/- loop.example/g00897/laws.eqAmplifier -/
def laws_eqAmplifier (fu : Nat) (a' : Amplifier) (b' : Amplifier) : Option (Bool) :=
  if a'.After != b'.After then
    some false
  else
    if a'.Gain != b'.Gain then
      some false
    else
      if a'.Output != b'.Output then
        some false
      else
        if a'.Noise != b'.Noise then
          some false
        else
          some true

/- loop.example/g00897/laws.eqAmplifierS -/
def laws_eqAmplifierS_L1 (fu : Nat) (a' : List Amplifier) (b' : List Amplifier) : Nat → Int → Option (Out (Int) (Bool))
  | 0, _ => none
  | fk + 1, i =>
    if decide (i < (a'.length : Int)) then
      (idx a' i).bind fun e =>
      (idx b' i).bind fun e2 =>
      (laws_eqAmplifier fu e e2).bind fun y =>
      if !y then
        some (.ret false)
      else
        laws_eqAmplifierS_L1 fu a' b' fk (w64 (i + 1))
    else
      some (.next i)
def laws_eqAmplifierS (fu : Nat) (a' : List Amplifier) (b' : List Amplifier) : Option (Bool) :=
  if (a'.length : Int) != (b'.length : Int) then
    some false
  else
    (laws_eqAmplifierS_L1 fu a' b' fu 0).bind fun out => out.on some fun z =>
    some true

/- loop.example/g00897/laws.FnExactNoiseSum -/
def laws_FnExactNoiseSum (fu : Nat) (aList : List Amplifier) : Option (Bool) :=
  (laws_szAmplifierS fu aList 1048576).bind fun y =>
  if decide (y < 0) then
    some true
  else
    (laws_toAmplifierS fu aList).bind fun y2 =>
    (spec_NoiseSum fu y2).bind fun y3 =>
    (laws_toAmplifierS fu aList).bind fun y4 =>
    (impl_NoiseSum fu y4).bind fun y5 =>
    (if y5.1 != y3.1 then some true
    else some (y5.2 != y3.2)).bind fun c4 =>
    if c4 then
      some false
    else
      (laws_toAmplifierS fu aList).bind fun y6 =>
      (laws_eqAmplifierS fu y4 y6).bind fun y7 =>
      if !y7 then
        some false
      else
        some true
end AT
