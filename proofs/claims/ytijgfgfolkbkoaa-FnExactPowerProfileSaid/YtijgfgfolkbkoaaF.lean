/- The Go functions told plainly, by program (gen.py). -/
import Derived.Test.YtijgfgfolkbkoaaAtP
set_option linter.unusedVariables false
namespace AT
structure Span where
  Length : Int
  Loss : Int
  Splices : Int
  deriving DecidableEq
structure Amplifier where
  After : Int
  Gain : Int
  Output : Int
  Noise : Int
  deriving DecidableEq

/- loop.example/g00897/laws.szSpanS -/
def laws_szSpanS (fu : Nat) (a' : List Span) (left : Int) : Option (Int) :=
  if decide ((w64 (left - (a'.length : Int))) < 0) then
    some (-1)
  else
    some (w64 (left - (a'.length : Int)))

/- loop.example/g00897/laws.szAmplifierS -/
def laws_szAmplifierS (fu : Nat) (a' : List Amplifier) (left : Int) : Option (Int) :=
  if decide ((w64 (left - (a'.length : Int))) < 0) then
    some (-1)
  else
    some (w64 (left - (a'.length : Int)))

/- loop.example/g00897/laws.toSpan -/
def laws_toSpan (fu : Nat) (a' : Span) : Option (Span) :=
  some a'

/- loop.example/g00897/laws.toSpanS -/
def laws_toSpanS_L1 (fu : Nat) (a' : List Span) : Nat → List Span → Int → Option (List Span × Int)
  | 0, _, _ => none
  | fk + 1, out', i =>
    if decide (i < (a'.length : Int)) then
      (idx a' i).bind fun e =>
      (laws_toSpan fu e).bind fun y =>
      (idx out' i).bind fun e2 =>
      laws_toSpanS_L1 fu a' fk (out'.set (i).toNat y) (w64 (i + 1))
    else
      some (out', i)
def laws_toSpanS (fu : Nat) (a' : List Span) : Option (List Span) :=
  (mk (({ Length := 0, Loss := 0, Splices := 0 } : Span) : Span) (a'.length : Int)).bind fun l =>
  (laws_toSpanS_L1 fu a' fu l 0).bind fun z =>
  some z.1

/- loop.example/g00897/laws.toAmplifier -/
def laws_toAmplifier (fu : Nat) (a' : Amplifier) : Option (Amplifier) :=
  some a'

/- loop.example/g00897/laws.toAmplifierS -/
def laws_toAmplifierS_L1 (fu : Nat) (a' : List Amplifier) : Nat → List Amplifier → Int → Option (List Amplifier × Int)
  | 0, _, _ => none
  | fk + 1, out', i =>
    if decide (i < (a'.length : Int)) then
      (idx a' i).bind fun e =>
      (laws_toAmplifier fu e).bind fun y =>
      (idx out' i).bind fun e2 =>
      laws_toAmplifierS_L1 fu a' fk (out'.set (i).toNat y) (w64 (i + 1))
    else
      some (out', i)
def laws_toAmplifierS (fu : Nat) (a' : List Amplifier) : Option (List Amplifier) :=
  (mk (({ After := 0, Gain := 0, Output := 0, Noise := 0 } : Amplifier) : Amplifier) (a'.length : Int)).bind fun l =>
  (laws_toAmplifierS_L1 fu a' fu l 0).bind fun z =>
  some z.1

/- loop.example/g00897/spec.l1In -/
def spec_l1In (fu : Nat) (x1 : Int) (a' : Int) (b' : Int) : Option (Bool) :=
  (if decide (x1 ≥ a') then some (decide (x1 ≤ b'))
  else some false).bind fun c =>
  some c

/- loop.example/g00897/spec.l22Span -/
def spec_l22Span (fu : Nat) (s' : Span) : Option (Bool) :=
  ((spec_l1In fu s'.Length 0 1000).bind fun y =>
  if y then (spec_l1In fu s'.Loss 0 1000).bind fun y2 =>
  if y2 then (spec_l1In fu s'.Splices 0 50).bind fun y3 =>
  some y3
  else some false
  else some false).bind fun c =>
  some c

/- loop.example/g00897/spec.l22Line -/
def spec_l22Line_L1 (fu : Nat) (line : List Span) : Nat → Int → Option (Out (Int) (Bool))
  | 0, _ => none
  | fk + 1, i =>
    (if decide (i < (line.length : Int)) then some (decide (i ≤ 12))
    else some false).bind fun c2 =>
    if c2 then
      (idx line i).bind fun e =>
      (spec_l22Span fu e).bind fun y =>
      if !y then
        some (.ret false)
      else
        spec_l22Line_L1 fu line fk (w64 (i + 1))
    else
      some (.next i)
def spec_l22Line (fu : Nat) (line : List Span) : Option (Bool) :=
  (spec_l22Line_L1 fu line fu 0).bind fun out => out.on some fun z =>
  (spec_l1In fu (line.length : Int) 1 12).bind fun y2 =>
  some y2

/- loop.example/g00897/spec.l22Level -/
def spec_l22Level (fu : Nat) (x1 : Int) : Option (Bool) :=
  (spec_l1In fu x1 (-10000) 10000).bind fun y =>
  some y

/- loop.example/g00897/spec.l22Kind -/
def spec_l22Kind (fu : Nat) (a' : Amplifier) : Option (Bool) :=
  ((spec_l1In fu a'.Gain 0 10000).bind fun y =>
  if y then (spec_l22Level fu a'.Output).bind fun y2 =>
  if y2 then (spec_l1In fu a'.Noise 0 10000).bind fun y3 =>
  some y3
  else some false
  else some false).bind fun c =>
  some c

/- loop.example/g00897/spec.l22List -/
def spec_l22List_L1 (fu : Nat) (list : List Amplifier) (spans : Int) : Nat → Int → Option (Out (Int) (Bool))
  | 0, _ => none
  | fk + 1, i =>
    if decide (i < (list.length : Int)) then
      (idx list i).bind fun e =>
      (spec_l22Kind fu e).bind fun y =>
      if !y then some (.ret false)
      else (idx list i).bind fun e2 =>
      (spec_l1In fu e2.After 0 (w64 (spans - 1))).bind fun y2 =>
      if !y2 then some (.ret false)
      else if decide (i > 0) then (idx list (w64 (i - 1))).bind fun e3 =>
      (idx list i).bind fun e4 =>
      if decide (e3.After ≥ e4.After) then
        some (.ret false)
      else
        spec_l22List_L1 fu list spans fk (w64 (i + 1))
      else spec_l22List_L1 fu list spans fk (w64 (i + 1))
    else
      some (.next i)
def spec_l22List (fu : Nat) (list : List Amplifier) (spans : Int) : Option (Bool) :=
  (spec_l22List_L1 fu list spans fu 0).bind fun out => out.on some fun z =>
  some true

/- loop.example/g00897/spec.l22Loss -/
def spec_l22Loss (fu : Nat) (s' : Span) : Option (Int) :=
  (quo (w64 ((w64 (s'.Length * s'.Loss)) + 999)) 1000).bind fun q =>
  some (w64 (q + (w64 (5 * s'.Splices))))

/- loop.example/g00897/spec.l1Least -/
def spec_l1Least (fu : Nat) (a' : Int) (b' : Int) : Option (Int) :=
  if decide (a' < b') then
    some a'
  else
    some b'

/- loop.example/g00897/spec.l1Most -/
def spec_l1Most (fu : Nat) (a' : Int) (b' : Int) : Option (Int) :=
  if decide (a' > b') then
    some a'
  else
    some b'

/- loop.example/g00897/spec.l22Raise -/
def spec_l22Raise (fu : Nat) (a' : Amplifier) (level : Int) : Option (Int) :=
  (spec_l1Least fu (w64 (level + a'.Gain)) a'.Output).bind fun y =>
  (spec_l1Most fu level y).bind fun y2 =>
  some y2

/- loop.example/g00897/spec.l22Levels -/
def spec_l22Levels_L1 (fu : Nat) (line : List Span) (list : List Amplifier) : Nat → List Int → List Int → Int → Int → Int → Option (Out (List Int × List Int × Int × Int × Int) (List Int × List Int × Bool))
  | 0, _, _, _, _, _ => none
  | fk + 1, before, after, now, at', i =>
    if decide (i < (line.length : Int)) then
      (idx line i).bind fun e =>
      (spec_l22Loss fu e).bind fun y4 =>
      (spec_l22Level fu (w64 (now - y4))).bind fun y5 =>
      if !y5 then
        some (.ret (([] : List Int), ([] : List Int), false))
      else
        (app before [w64 (now - y4)]).bind fun l =>
        (if decide (at' < (list.length : Int)) then (idx list at').bind fun e2 =>
        some (e2.After == i)
        else some false).bind fun c7 =>
        if c7 then
          (idx list at').bind fun e3 =>
          (spec_l22Raise fu e3 (w64 (now - y4))).bind fun y6 =>
          (app after [y6]).bind fun l2 =>
          spec_l22Levels_L1 fu line list fk l l2 y6 (w64 (at' + 1)) (w64 (i + 1))
        else
          (app after [w64 (now - y4)]).bind fun l3 =>
          spec_l22Levels_L1 fu line list fk l l3 (w64 (now - y4)) at' (w64 (i + 1))
    else
      some (.next (before, after, now, at', i))
def spec_l22Levels (fu : Nat) (line : List Span) (list : List Amplifier) (launch : Int) : Option (List Int × List Int × Bool) :=
  ((spec_l22Line fu line).bind fun y =>
  if !y then some true
  else (spec_l22List fu list (line.length : Int)).bind fun y2 =>
  if !y2 then some true
  else (spec_l22Level fu launch).bind fun y3 =>
  some (!y3)).bind fun c3 =>
  if c3 then
    some (([] : List Int), ([] : List Int), false)
  else
    (spec_l22Levels_L1 fu line list fu ([] : List Int) ([] : List Int) launch 0 0).bind fun out => out.on some fun z =>
    some (z.1, z.2.1, true)

/- loop.example/g00897/spec.PowerProfile -/
def spec_PowerProfile (fu : Nat) (line : List Span) (list : List Amplifier) (launch : Int) : Option (List Int × Bool) :=
  (spec_l22Levels fu line list launch).bind fun y =>
  some (y.2.1, y.2.2)

/- loop.example/g00897/impl.within -/
def impl_within (fu : Nat) (n' : Int) (low : Int) (high : Int) : Option (Bool) :=
  (if decide (low ≤ n') then some (decide (n' ≤ high))
  else some false).bind fun c =>
  some c

/- loop.example/g00897/impl.isSpan -/
def impl_isSpan (fu : Nat) (s' : Span) : Option (Bool) :=
  ((impl_within fu s'.Length 0 1000).bind fun y =>
  if y then (impl_within fu s'.Loss 0 1000).bind fun y2 =>
  if y2 then (impl_within fu s'.Splices 0 50).bind fun y3 =>
  some y3
  else some false
  else some false).bind fun c =>
  some c

/- loop.example/g00897/impl.isLine$1 -/
def impl_isLine_c1 (fu : Nat) (s' : Span) : Option (Bool) :=
  (impl_isSpan fu s').bind fun y =>
  some (!y)

/- slices.IndexFunc[[]loop.example/g00897/impl.Span,loop.example/g00897/impl.Span] -/
def slices_IndexFunc_impl_Span_impl_Span_of_isLine_c1_L1 (fu : Nat) (s' : List Span) : Nat → Int → Option (Out (Int) (Int))
  | 0, _ => none
  | fk + 1, i =>
    if decide (i < (s'.length : Int)) then
      (idx s' i).bind fun e =>
      (impl_isLine_c1 fu e).bind fun y =>
      if y then
        some (.ret i)
      else
        slices_IndexFunc_impl_Span_impl_Span_of_isLine_c1_L1 fu s' fk (w64 (i + 1))
    else
      some (.next i)
def slices_IndexFunc_impl_Span_impl_Span_of_isLine_c1 (fu : Nat) (s' : List Span) : Option (Int) :=
  (slices_IndexFunc_impl_Span_impl_Span_of_isLine_c1_L1 fu s' fu 0).bind fun out => out.on some fun z =>
  some (-1)

/- slices.ContainsFunc[[]loop.example/g00897/impl.Span,loop.example/g00897/impl.Span] -/
def slices_ContainsFunc_impl_Span_impl_Span_of_isLine_c1 (fu : Nat) (s' : List Span) : Option (Bool) :=
  (slices_IndexFunc_impl_Span_impl_Span_of_isLine_c1 fu s').bind fun y =>
  some (decide (y ≥ 0))

/- loop.example/g00897/impl.isLine -/
def impl_isLine (fu : Nat) (line : List Span) : Option (Bool) :=
  ((impl_within fu (line.length : Int) 1 12).bind fun y =>
  if y then (slices_ContainsFunc_impl_Span_impl_Span_of_isLine_c1 fu line).bind fun y2 =>
  some (!y2)
  else some false).bind fun c2 =>
  some c2

/- loop.example/g00897/impl.isLevel -/
def impl_isLevel (fu : Nat) (level : Int) : Option (Bool) :=
  (impl_within fu level (-10000) 10000).bind fun y =>
  some y

/- loop.example/g00897/impl.isAmplifier -/
def impl_isAmplifier (fu : Nat) (a' : Amplifier) : Option (Bool) :=
  ((impl_within fu a'.Gain 0 10000).bind fun y =>
  if y then (impl_isLevel fu a'.Output).bind fun y2 =>
  if y2 then (impl_within fu a'.Noise 0 10000).bind fun y3 =>
  some y3
  else some false
  else some false).bind fun c =>
  some c

/- loop.example/g00897/impl.areAmplifiers -/
def impl_areAmplifiers_L1 (fu : Nat) (list : List Amplifier) (spans : Int) : Nat → Int → Option (Out (Int) (Bool))
  | 0, _ => none
  | fk + 1, i =>
    if decide (i < (list.length : Int)) then
      (idx list i).bind fun e =>
      (impl_isAmplifier fu e).bind fun y =>
      if !y then some (.ret false)
      else (impl_within fu e.After 0 (w64 (spans - 1))).bind fun y2 =>
      if !y2 then some (.ret false)
      else if decide (i > 0) then (idx list (w64 (i - 1))).bind fun e2 =>
      if decide (e2.After ≥ e.After) then
        some (.ret false)
      else
        impl_areAmplifiers_L1 fu list spans fk (w64 (i + 1))
      else impl_areAmplifiers_L1 fu list spans fk (w64 (i + 1))
    else
      some (.next i)
def impl_areAmplifiers (fu : Nat) (list : List Amplifier) (spans : Int) : Option (Bool) :=
  (impl_areAmplifiers_L1 fu list spans fu 0).bind fun out => out.on some fun z =>
  some true

/- loop.example/g00897/impl.lossOf -/
def impl_lossOf (fu : Nat) (s' : Span) : Option (Int) :=
  (quo (w64 ((w64 (s'.Length * s'.Loss)) + 999)) 1000).bind fun q =>
  some (w64 (q + (w64 (5 * s'.Splices))))

/- loop.example/g00897/impl.amplified -/
def impl_amplified (fu : Nat) (level : Int) (a' : Amplifier) : Option (Int) :=
  some (gmax level (gmin (w64 (level + a'.Gain)) a'.Output))

/- loop.example/g00897/impl.profile -/
def impl_profile_L2 (fu : Nat) (list : List Amplifier) (i : Int) : Nat → Int → Int → Option (Int × Int)
  | 0, _, _ => none
  | fk + 1, level2, i2 =>
    if decide (i2 < (list.length : Int)) then
      (idx list i2).bind fun e2 =>
      if e2.After == i then
        (impl_amplified fu level2 e2).bind fun y6 =>
        impl_profile_L2 fu list i fk y6 (w64 (i2 + 1))
      else
        impl_profile_L2 fu list i fk level2 (w64 (i2 + 1))
    else
      some (level2, i2)
def impl_profile_L1 (fu : Nat) (line : List Span) (list : List Amplifier) : Nat → List Int → List Int → Int → Int → Option (Out (List Int × List Int × Int × Int) (List Int × List Int × Bool))
  | 0, _, _, _, _ => none
  | fk + 1, before, after, level, i =>
    if decide (i < (line.length : Int)) then
      (idx line i).bind fun e =>
      (impl_lossOf fu e).bind fun y4 =>
      (impl_isLevel fu (w64 (level - y4))).bind fun y5 =>
      if !y5 then
        some (.ret ([], [], false))
      else
        (app before [w64 (level - y4)]).bind fun l =>
        (impl_profile_L2 fu list i fu (w64 (level - y4)) 0).bind fun z =>
        (app after [z.1]).bind fun l2 =>
        impl_profile_L1 fu line list fk l l2 z.1 (w64 (i + 1))
    else
      some (.next (before, after, level, i))
def impl_profile (fu : Nat) (line : List Span) (list : List Amplifier) (launch : Int) : Option (List Int × List Int × Bool) :=
  ((impl_isLine fu line).bind fun y =>
  if !y then some true
  else (impl_areAmplifiers fu list (line.length : Int)).bind fun y2 =>
  if !y2 then some true
  else (impl_isLevel fu launch).bind fun y3 =>
  some (!y3)).bind fun c3 =>
  if c3 then
    some ([], [], false)
  else
    (impl_profile_L1 fu line list fu ([] : List Int) ([] : List Int) launch 0).bind fun out => out.on some fun z2 =>
    some (z2.1, z2.2.1, true)

/- loop.example/g00897/impl.PowerProfile -/
def impl_PowerProfile (fu : Nat) (line : List Span) (list : List Amplifier) (launch : Int) : Option (List Int × Bool) :=
  (impl_profile fu line list launch).bind fun y =>
  some (y.2.1, y.2.2)

/- loop.example/g00897/laws.eqIntS -/
def laws_eqIntS_L1 (fu : Nat) (a' : List Int) (b' : List Int) : Nat → Int → Option (Out (Int) (Bool))
  | 0, _ => none
  | fk + 1, i =>
    if decide (i < (a'.length : Int)) then
      (idx a' i).bind fun e =>
      (idx b' i).bind fun e2 =>
      if e != e2 then
        some (.ret false)
      else
        laws_eqIntS_L1 fu a' b' fk (w64 (i + 1))
    else
      some (.next i)
def laws_eqIntS (fu : Nat) (a' : List Int) (b' : List Int) : Option (Bool) :=
  if (a'.length : Int) != (b'.length : Int) then
    some false
  else
    (laws_eqIntS_L1 fu a' b' fu 0).bind fun out => out.on some fun z =>
    some true

/- loop.example/g00897/laws.eqSpan -/
def laws_eqSpan (fu : Nat) (a' : Span) (b' : Span) : Option (Bool) :=
  if a'.Length != b'.Length then
    some false
  else
    if a'.Loss != b'.Loss then
      some false
    else
      if a'.Splices != b'.Splices then
        some false
      else
        some true

/- loop.example/g00897/laws.eqSpanS -/
def laws_eqSpanS_L1 (fu : Nat) (a' : List Span) (b' : List Span) : Nat → Int → Option (Out (Int) (Bool))
  | 0, _ => none
  | fk + 1, i =>
    if decide (i < (a'.length : Int)) then
      (idx a' i).bind fun e =>
      (idx b' i).bind fun e2 =>
      (laws_eqSpan fu e e2).bind fun y =>
      if !y then
        some (.ret false)
      else
        laws_eqSpanS_L1 fu a' b' fk (w64 (i + 1))
    else
      some (.next i)
def laws_eqSpanS (fu : Nat) (a' : List Span) (b' : List Span) : Option (Bool) :=
  if (a'.length : Int) != (b'.length : Int) then
    some false
  else
    (laws_eqSpanS_L1 fu a' b' fu 0).bind fun out => out.on some fun z =>
    some true

/- loop.example/g00897/laws.eqAmplifier -/
def laws_eqAmplifier (fu : Nat) (a' : Amplifier) (b' : Amplifier) : Option (Bool) :=
  if a'.After != b'.After then
    some false
  else
    if a'.Gain != b'.Gain then
      some false
    else
      if a'.Output != b'.Output then
        some false
      else
        if a'.Noise != b'.Noise then
          some false
        else
          some true

/- loop.example/g00897/laws.eqAmplifierS -/
def laws_eqAmplifierS_L1 (fu : Nat) (a' : List Amplifier) (b' : List Amplifier) : Nat → Int → Option (Out (Int) (Bool))
  | 0, _ => none
  | fk + 1, i =>
    if decide (i < (a'.length : Int)) then
      (idx a' i).bind fun e =>
      (idx b' i).bind fun e2 =>
      (laws_eqAmplifier fu e e2).bind fun y =>
      if !y then
        some (.ret false)
      else
        laws_eqAmplifierS_L1 fu a' b' fk (w64 (i + 1))
    else
      some (.next i)
def laws_eqAmplifierS (fu : Nat) (a' : List Amplifier) (b' : List Amplifier) : Option (Bool) :=
  if (a'.length : Int) != (b'.length : Int) then
    some false
  else
    (laws_eqAmplifierS_L1 fu a' b' fu 0).bind fun out => out.on some fun z =>
    some true

/- loop.example/g00897/laws.markSpanS -/
def laws_markSpanS_L1 (fu : Nat) : Nat → List Span → Int → Int → Option (List Span × Int × Int)
  | 0, _, _, _ => none
  | fk + 1, a2, k2, i =>
    if decide (i < (a2.length : Int)) then
      (idx a2 i).bind fun e =>
      (idx (a2.set (i).toNat ({ Length := k2, Loss := e.Loss, Splices := e.Splices } : Span)) i).bind fun e2 =>
      (idx ((a2.set (i).toNat ({ Length := k2, Loss := e.Loss, Splices := e.Splices } : Span)).set (i).toNat ({ Length := e2.Length, Loss := w64 (k2 + 1), Splices := e2.Splices } : Span)) i).bind fun e3 =>
      laws_markSpanS_L1 fu fk (((a2.set (i).toNat ({ Length := k2, Loss := e.Loss, Splices := e.Splices } : Span)).set (i).toNat ({ Length := e2.Length, Loss := w64 (k2 + 1), Splices := e2.Splices } : Span)).set (i).toNat ({ Length := e3.Length, Loss := e3.Loss, Splices := w64 ((w64 (k2 + 1)) + 1) } : Span)) (w64 ((w64 ((w64 (k2 + 1)) + 1)) + 1)) (w64 (i + 1))
    else
      some (a2, k2, i)
def laws_markSpanS (fu : Nat) (a' : List Span) (k' : Int) : Option (Int × List Span) :=
  (laws_markSpanS_L1 fu fu a' k' 0).bind fun z =>
  some (z.2.1, z.1)

/- loop.example/g00897/laws.markAmplifierS -/
def laws_markAmplifierS_L1 (fu : Nat) : Nat → List Amplifier → Int → Int → Option (List Amplifier × Int × Int)
  | 0, _, _, _ => none
  | fk + 1, a2, k2, i =>
    if decide (i < (a2.length : Int)) then
      (idx a2 i).bind fun e =>
      (idx (a2.set (i).toNat ({ After := k2, Gain := e.Gain, Output := e.Output, Noise := e.Noise } : Amplifier)) i).bind fun e2 =>
      (idx ((a2.set (i).toNat ({ After := k2, Gain := e.Gain, Output := e.Output, Noise := e.Noise } : Amplifier)).set (i).toNat ({ After := e2.After, Gain := w64 (k2 + 1), Output := e2.Output, Noise := e2.Noise } : Amplifier)) i).bind fun e3 =>
      (idx (((a2.set (i).toNat ({ After := k2, Gain := e.Gain, Output := e.Output, Noise := e.Noise } : Amplifier)).set (i).toNat ({ After := e2.After, Gain := w64 (k2 + 1), Output := e2.Output, Noise := e2.Noise } : Amplifier)).set (i).toNat ({ After := e3.After, Gain := e3.Gain, Output := w64 ((w64 (k2 + 1)) + 1), Noise := e3.Noise } : Amplifier)) i).bind fun e4 =>
      laws_markAmplifierS_L1 fu fk ((((a2.set (i).toNat ({ After := k2, Gain := e.Gain, Output := e.Output, Noise := e.Noise } : Amplifier)).set (i).toNat ({ After := e2.After, Gain := w64 (k2 + 1), Output := e2.Output, Noise := e2.Noise } : Amplifier)).set (i).toNat ({ After := e3.After, Gain := e3.Gain, Output := w64 ((w64 (k2 + 1)) + 1), Noise := e3.Noise } : Amplifier)).set (i).toNat ({ After := e4.After, Gain := e4.Gain, Output := e4.Output, Noise := w64 ((w64 ((w64 (k2 + 1)) + 1)) + 1) } : Amplifier)) (w64 ((w64 ((w64 ((w64 (k2 + 1)) + 1)) + 1)) + 1)) (w64 (i + 1))
    else
      some (a2, k2, i)
def laws_markAmplifierS (fu : Nat) (a' : List Amplifier) (k' : Int) : Option (Int × List Amplifier) :=
  (laws_markAmplifierS_L1 fu fu a' k' 0).bind fun z =>
  some (z.2.1, z.1)

/- loop.example/g00897/laws.markIntS -/
def laws_markIntS_L1 (fu : Nat) : Nat → List Int → Int → Int → Option (List Int × Int × Int)
  | 0, _, _, _ => none
  | fk + 1, a2, k2, i =>
    if decide (i < (a2.length : Int)) then
      (idx a2 i).bind fun e =>
      laws_markIntS_L1 fu fk (a2.set (i).toNat k2) (w64 (k2 + 1)) (w64 (i + 1))
    else
      some (a2, k2, i)
def laws_markIntS (fu : Nat) (a' : List Int) (k' : Int) : Option (Int × List Int) :=
  (laws_markIntS_L1 fu fu a' k' 0).bind fun z =>
  some (z.2.1, z.1)

/- loop.example/g00897/laws.heldIntS -/
def laws_heldIntS_L1 (fu : Nat) (a' : List Int) : Nat → Int → Int → Option (Out (Int × Int) (Int))
  | 0, _, _ => none
  | fk + 1, k2, i =>
    if decide (i < (a'.length : Int)) then
      (idx a' i).bind fun e =>
      if e != k2 then
        some (.ret (-1))
      else
        laws_heldIntS_L1 fu a' fk (w64 (k2 + 1)) (w64 (i + 1))
    else
      some (.next (k2, i))
def laws_heldIntS (fu : Nat) (a' : List Int) (k' : Int) : Option (Int) :=
  (laws_heldIntS_L1 fu a' fu k' 0).bind fun out => out.on some fun z =>
  some z.1

/- loop.example/g00897/laws.FnExactPowerProfile -/
def laws_FnExactPowerProfile (fu : Nat) (aLine : List Span) (aList : List Amplifier) (aLaunch : Int) : Option (Bool) :=
  (laws_szSpanS fu aLine 1048576).bind fun y =>
  if decide (y < 0) then
    some true
  else
    (laws_szAmplifierS fu aList y).bind fun y2 =>
    if decide (y2 < 0) then
      some true
    else
      (laws_toSpanS fu aLine).bind fun y3 =>
      (laws_toAmplifierS fu aList).bind fun y4 =>
      (spec_PowerProfile fu y3 y4 aLaunch).bind fun y5 =>
      (laws_toSpanS fu aLine).bind fun y6 =>
      (laws_toAmplifierS fu aList).bind fun y7 =>
      (impl_PowerProfile fu y6 y7 aLaunch).bind fun y8 =>
      ((laws_eqIntS fu y8.1 y5.1).bind fun y9 =>
      if !y9 then some true
      else some (y8.2 != y5.2)).bind fun c9 =>
      if c9 then
        some false
      else
        (laws_toSpanS fu aLine).bind fun y10 =>
        (laws_eqSpanS fu y6 y10).bind fun y11 =>
        if !y11 then
          some false
        else
          (laws_toAmplifierS fu aList).bind fun y12 =>
          (laws_eqAmplifierS fu y7 y12).bind fun y13 =>
          if !y13 then
            some false
          else
            (laws_markSpanS fu y6 1).bind fun y14 =>
            (laws_markAmplifierS fu y7 y14.1).bind fun y15 =>
            (if decide (y15.1 < 0) then some true
            else (laws_eqIntS fu y8.1 y5.1).bind fun y16 =>
            if !y16 then some true
            else some (y8.2 != y5.2)).bind fun c12 =>
            if c12 then
              some false
            else
              (laws_markIntS fu y8.1 1).bind fun y17 =>
              (laws_heldIntS fu y17.2 1).bind fun y18 =>
              if decide (y18 < 0) then
                some false
              else
                if y18 != y17.1 then
                  some false
                else
                  (laws_toSpanS fu aLine).bind fun y19 =>
                  (laws_toAmplifierS fu aList).bind fun y20 =>
                  (impl_PowerProfile fu y19 y20 aLaunch).bind fun y21 =>
                  ((laws_eqIntS fu y21.1 y5.1).bind fun y22 =>
                  if !y22 then some true
                  else some (y21.2 != y5.2)).bind fun c16 =>
                  if c16 then
                    some false
                  else
                    (laws_heldIntS fu y17.2 1).bind fun y23 =>
                    if decide (y23 < 0) then
                      some false
                    else
                      if y23 != y17.1 then
                        some false
                      else
                        some true
end AT
