/- The Go functions told plainly, by program (gen.py). -/
import Derived.Test.YtijgfgfolkbkoaaAtP
set_option linter.unusedVariables false
namespace AT
structure Span where
  Length : Int
  Loss : Int
  Splices : Int
  deriving DecidableEq
structure Amplifier where
  After : Int
  Gain : Int
  Output : Int
  Noise : Int
  deriving DecidableEq

/- loop.example/g00897/laws.szSpanS -/
def laws_szSpanS (fu : Nat) (a' : List Span) (left : Int) : Option (Int) :=
  if decide ((w64 (left - (a'.length : Int))) < 0) then
    some (-1)
  else
    some (w64 (left - (a'.length : Int)))

/- loop.example/g00897/laws.toSpan -/
def laws_toSpan (fu : Nat) (a' : Span) : Option (Span) :=
  some a'

/- loop.example/g00897/laws.toSpanS -/
def laws_toSpanS_L1 (fu : Nat) (a' : List Span) : Nat → List Span → Int → Option (List Span × Int)
  | 0, _, _ => none
  | fk + 1, out', i =>
    if decide (i < (a'.length : Int)) then
      (idx a' i).bind fun e =>
      (laws_toSpan fu e).bind fun y =>
      (idx out' i).bind fun e2 =>
      laws_toSpanS_L1 fu a' fk (out'.set (i).toNat y) (w64 (i + 1))
    else
      some (out', i)
def laws_toSpanS (fu : Nat) (a' : List Span) : Option (List Span) :=
  (mk (({ Length := 0, Loss := 0, Splices := 0 } : Span) : Span) (a'.length : Int)).bind fun l =>
  (laws_toSpanS_L1 fu a' fu l 0).bind fun z =>
  some z.1

/- loop.example/g00897/laws.toAmplifier -/
def laws_toAmplifier (fu : Nat) (a' : Amplifier) : Option (Amplifier) :=
  some a'

/- loop.example/g00897/spec.l1In -/
def spec_l1In (fu : Nat) (x1 : Int) (a' : Int) (b' : Int) : Option (Bool) :=
  (if decide (x1 ≥ a') then some (decide (x1 ≤ b'))
  else some false).bind fun c =>
  some c

/- loop.example/g00897/spec.l22Span -/
def spec_l22Span (fu : Nat) (s' : Span) : Option (Bool) :=
  ((spec_l1In fu s'.Length 0 1000).bind fun y =>
  if y then (spec_l1In fu s'.Loss 0 1000).bind fun y2 =>
  if y2 then (spec_l1In fu s'.Splices 0 50).bind fun y3 =>
  some y3
  else some false
  else some false).bind fun c =>
  some c

/- loop.example/g00897/spec.l22Line -/
def spec_l22Line_L1 (fu : Nat) (line : List Span) : Nat → Int → Option (Out (Int) (Bool))
  | 0, _ => none
  | fk + 1, i =>
    (if decide (i < (line.length : Int)) then some (decide (i ≤ 12))
    else some false).bind fun c2 =>
    if c2 then
      (idx line i).bind fun e =>
      (spec_l22Span fu e).bind fun y =>
      if !y then
        some (.ret false)
      else
        spec_l22Line_L1 fu line fk (w64 (i + 1))
    else
      some (.next i)
def spec_l22Line (fu : Nat) (line : List Span) : Option (Bool) :=
  (spec_l22Line_L1 fu line fu 0).bind fun out => out.on some fun z =>
  (spec_l1In fu (line.length : Int) 1 12).bind fun y2 =>
  some y2

/- loop.example/g00897/spec.l22Level -/
def spec_l22Level (fu : Nat) (x1 : Int) : Option (Bool) :=
  (spec_l1In fu x1 (-10000) 10000).bind fun y =>
  some y

/- loop.example/g00897/spec.l22Kind -/
def spec_l22Kind (fu : Nat) (a' : Amplifier) : Option (Bool) :=
  ((spec_l1In fu a'.Gain 0 10000).bind fun y =>
  if y then (spec_l22Level fu a'.Output).bind fun y2 =>
  if y2 then (spec_l1In fu a'.Noise 0 10000).bind fun y3 =>
  some y3
  else some false
  else some false).bind fun c =>
  some c

/- loop.example/g00897/spec.l22Loss -/
def spec_l22Loss (fu : Nat) (s' : Span) : Option (Int) :=
  (quo (w64 ((w64 (s'.Length * s'.Loss)) + 999)) 1000).bind fun q =>
  some (w64 (q + (w64 (5 * s'.Splices))))

/- loop.example/g00897/spec.l1Least -/
def spec_l1Least (fu : Nat) (a' : Int) (b' : Int) : Option (Int) :=
  if decide (a' < b') then
    some a'
  else
    some b'

/- loop.example/g00897/spec.l1Most -/
def spec_l1Most (fu : Nat) (a' : Int) (b' : Int) : Option (Int) :=
  if decide (a' > b') then
    some a'
  else
    some b'

/- loop.example/g00897/spec.l22Raise -/
def spec_l22Raise (fu : Nat) (a' : Amplifier) (level : Int) : Option (Int) :=
  (spec_l1Least fu (w64 (level + a'.Gain)) a'.Output).bind fun y =>
  (spec_l1Most fu level y).bind fun y2 =>
  some y2

/- loop.example/g00897/spec.PlaceAmplifiers -/
def spec_PlaceAmplifiers_L1 (fu : Nat) (line : List Span) (a' : Amplifier) (need : Int) : Nat → List Amplifier → Int → Int → Option (Out (List Amplifier × Int × Int) (List Amplifier × Bool))
  | 0, _, _, _ => none
  | fk + 1, out', now, i =>
    if decide (i < (line.length : Int)) then
      (idx line i).bind fun e =>
      (spec_l22Loss fu e).bind fun y5 =>
      ((spec_l22Level fu (w64 (now - y5))).bind fun y6 =>
      if !y6 then some true
      else some (decide ((w64 (now - y5)) < need))).bind fun c4 =>
      if c4 then
        some (.ret (([] : List Amplifier), false))
      else
        (if decide ((w64 (i + 1)) < (line.length : Int)) then (idx line (w64 (i + 1))).bind fun e2 =>
        (spec_l22Loss fu e2).bind fun y7 =>
        some (decide ((w64 ((w64 (now - y5)) - y7)) < need))
        else some false).bind fun c5 =>
        if c5 then
          (app out' [({ After := i, Gain := a'.Gain, Output := a'.Output, Noise := a'.Noise } : Amplifier)]).bind fun l =>
          (spec_l22Raise fu a' (w64 (now - y5))).bind fun y8 =>
          spec_PlaceAmplifiers_L1 fu line a' need fk l y8 (w64 (i + 1))
        else
          spec_PlaceAmplifiers_L1 fu line a' need fk out' (w64 (now - y5)) (w64 (i + 1))
    else
      some (.next (out', now, i))
def spec_PlaceAmplifiers (fu : Nat) (line : List Span) (a' : Amplifier) (launch : Int) (need : Int) : Option (List Amplifier × Bool) :=
  ((spec_l22Line fu line).bind fun y =>
  if !y then some true
  else (spec_l22Kind fu a').bind fun y2 =>
  if !y2 then some true
  else (spec_l22Level fu launch).bind fun y3 =>
  if !y3 then some true
  else (spec_l22Level fu need).bind fun y4 =>
  some (!y4)).bind fun c2 =>
  if c2 then
    some (([] : List Amplifier), false)
  else
    (spec_PlaceAmplifiers_L1 fu line a' need fu ([] : List Amplifier) launch 0).bind fun out => out.on some fun z =>
    some (z.1, true)

/- loop.example/g00897/impl.within -/
def impl_within (fu : Nat) (n' : Int) (low : Int) (high : Int) : Option (Bool) :=
  (if decide (low ≤ n') then some (decide (n' ≤ high))
  else some false).bind fun c =>
  some c

/- loop.example/g00897/impl.isSpan -/
def impl_isSpan (fu : Nat) (s' : Span) : Option (Bool) :=
  ((impl_within fu s'.Length 0 1000).bind fun y =>
  if y then (impl_within fu s'.Loss 0 1000).bind fun y2 =>
  if y2 then (impl_within fu s'.Splices 0 50).bind fun y3 =>
  some y3
  else some false
  else some false).bind fun c =>
  some c

/- loop.example/g00897/impl.isLine$1 -/
def impl_isLine_c1 (fu : Nat) (s' : Span) : Option (Bool) :=
  (impl_isSpan fu s').bind fun y =>
  some (!y)

/- slices.IndexFunc[[]loop.example/g00897/impl.Span,loop.example/g00897/impl.Span] -/
def slices_IndexFunc_impl_Span_impl_Span_of_isLine_c1_L1 (fu : Nat) (s' : List Span) : Nat → Int → Option (Out (Int) (Int))
  | 0, _ => none
  | fk + 1, i =>
    if decide (i < (s'.length : Int)) then
      (idx s' i).bind fun e =>
      (impl_isLine_c1 fu e).bind fun y =>
      if y then
        some (.ret i)
      else
        slices_IndexFunc_impl_Span_impl_Span_of_isLine_c1_L1 fu s' fk (w64 (i + 1))
    else
      some (.next i)
def slices_IndexFunc_impl_Span_impl_Span_of_isLine_c1 (fu : Nat) (s' : List Span) : Option (Int) :=
  (slices_IndexFunc_impl_Span_impl_Span_of_isLine_c1_L1 fu s' fu 0).bind fun out => out.on some fun z =>
  some (-1)

/- slices.ContainsFunc[[]loop.example/g00897/impl.Span,loop.example/g00897/impl.Span] -/
def slices_ContainsFunc_impl_Span_impl_Span_of_isLine_c1 (fu : Nat) (s' : List Span) : Option (Bool) :=
  (slices_IndexFunc_impl_Span_impl_Span_of_isLine_c1 fu s').bind fun y =>
  some (decide (y ≥ 0))

/- loop.example/g00897/impl.isLine -/
def impl_isLine (fu : Nat) (line : List Span) : Option (Bool) :=
  ((impl_within fu (line.length : Int) 1 12).bind fun y =>
  if y then (slices_ContainsFunc_impl_Span_impl_Span_of_isLine_c1 fu line).bind fun y2 =>
  some (!y2)
  else some false).bind fun c2 =>
  some c2

/- loop.example/g00897/impl.isLevel -/
def impl_isLevel (fu : Nat) (level : Int) : Option (Bool) :=
  (impl_within fu level (-10000) 10000).bind fun y =>
  some y

/- loop.example/g00897/impl.isAmplifier -/
def impl_isAmplifier (fu : Nat) (a' : Amplifier) : Option (Bool) :=
  ((impl_within fu a'.Gain 0 10000).bind fun y =>
  if y then (impl_isLevel fu a'.Output).bind fun y2 =>
  if y2 then (impl_within fu a'.Noise 0 10000).bind fun y3 =>
  some y3
  else some false
  else some false).bind fun c =>
  some c

/- loop.example/g00897/impl.lossOf -/
def impl_lossOf (fu : Nat) (s' : Span) : Option (Int) :=
  (quo (w64 ((w64 (s'.Length * s'.Loss)) + 999)) 1000).bind fun q =>
  some (w64 (q + (w64 (5 * s'.Splices))))

/- loop.example/g00897/impl.amplified -/
def impl_amplified (fu : Nat) (level : Int) (a' : Amplifier) : Option (Int) :=
  some (gmax level (gmin (w64 (level + a'.Gain)) a'.Output))

/- loop.example/g00897/impl.PlaceAmplifiers -/
def impl_PlaceAmplifiers_L1 (fu : Nat) (line : List Span) (a' : Amplifier) (need : Int) : Nat → List Amplifier → Int → Int → Int → Option (Out (List Amplifier × Int × Int × Int) (List Amplifier × Bool))
  | 0, _, _, _, _ => none
  | fk + 1, out', level, i, m =>
    if decide (i < (line.length : Int)) then
      (idx line i).bind fun e =>
      (impl_lossOf fu e).bind fun y5 =>
      (if decide ((w64 (level - y5)) < need) then some true
      else (impl_isLevel fu (w64 (level - y5))).bind fun y6 =>
      some (!y6)).bind fun c4 =>
      if c4 then
        some (.ret ([], false))
      else
        (if decide ((w64 (i + 1)) < (line.length : Int)) then (idx line (w64 (i + 1))).bind fun e2 =>
        (impl_lossOf fu e2).bind fun y7 =>
        some (decide ((w64 ((w64 (level - y5)) - y7)) < need))
        else some false).bind fun c5 =>
        if c5 then
          (app out' [({ After := i, Gain := a'.Gain, Output := a'.Output, Noise := a'.Noise } : Amplifier)]).bind fun l =>
          (impl_amplified fu (w64 (level - y5)) ({ After := i, Gain := a'.Gain, Output := a'.Output, Noise := a'.Noise } : Amplifier)).bind fun y8 =>
          impl_PlaceAmplifiers_L1 fu line a' need fk l y8 (w64 (i + 1)) i
        else
          impl_PlaceAmplifiers_L1 fu line a' need fk out' (w64 (level - y5)) (w64 (i + 1)) m
    else
      some (.next (out', level, i, m))
def impl_PlaceAmplifiers (fu : Nat) (line : List Span) (a' : Amplifier) (launch : Int) (need : Int) : Option (List Amplifier × Bool) :=
  ((impl_isLine fu line).bind fun y =>
  if !y then some true
  else (impl_isAmplifier fu a').bind fun y2 =>
  if !y2 then some true
  else (impl_isLevel fu launch).bind fun y3 =>
  if !y3 then some true
  else (impl_isLevel fu need).bind fun y4 =>
  some (!y4)).bind fun c2 =>
  if c2 then
    some ([], false)
  else
    (impl_PlaceAmplifiers_L1 fu line a' need fu ([] : List Amplifier) launch 0 a'.After).bind fun out => out.on some fun z =>
    some (z.1, true)

/- loop.example/g00897/laws.eqAmplifier -/
def laws_eqAmplifier (fu : Nat) (a' : Amplifier) (b' : Amplifier) : Option (Bool) :=
  if a'.After != b'.After then
    some false
  else
    if a'.Gain != b'.Gain then
      some false
    else
      if a'.Output != b'.Output then
        some false
      else
        if a'.Noise != b'.Noise then
          some false
        else
          some true

/- loop.example/g00897/laws.eqAmplifierS -/
def laws_eqAmplifierS_L1 (fu : Nat) (a' : List Amplifier) (b' : List Amplifier) : Nat → Int → Option (Out (Int) (Bool))
  | 0, _ => none
  | fk + 1, i =>
    if decide (i < (a'.length : Int)) then
      (idx a' i).bind fun e =>
      (idx b' i).bind fun e2 =>
      (laws_eqAmplifier fu e e2).bind fun y =>
      if !y then
        some (.ret false)
      else
        laws_eqAmplifierS_L1 fu a' b' fk (w64 (i + 1))
    else
      some (.next i)
def laws_eqAmplifierS (fu : Nat) (a' : List Amplifier) (b' : List Amplifier) : Option (Bool) :=
  if (a'.length : Int) != (b'.length : Int) then
    some false
  else
    (laws_eqAmplifierS_L1 fu a' b' fu 0).bind fun out => out.on some fun z =>
    some true

/- loop.example/g00897/laws.eqSpan -/
def laws_eqSpan (fu : Nat) (a' : Span) (b' : Span) : Option (Bool) :=
  if a'.Length != b'.Length then
    some false
  else
    if a'.Loss != b'.Loss then
      some false
    else
      if a'.Splices != b'.Splices then
        some false
      else
        some true

/- loop.example/g00897/laws.eqSpanS -/
def laws_eqSpanS_L1 (fu : Nat) (a' : List Span) (b' : List Span) : Nat → Int → Option (Out (Int) (Bool))
  | 0, _ => none
  | fk + 1, i =>
    if decide (i < (a'.length : Int)) then
      (idx a' i).bind fun e =>
      (idx b' i).bind fun e2 =>
      (laws_eqSpan fu e e2).bind fun y =>
      if !y then
        some (.ret false)
      else
        laws_eqSpanS_L1 fu a' b' fk (w64 (i + 1))
    else
      some (.next i)
def laws_eqSpanS (fu : Nat) (a' : List Span) (b' : List Span) : Option (Bool) :=
  if (a'.length : Int) != (b'.length : Int) then
    some false
  else
    (laws_eqSpanS_L1 fu a' b' fu 0).bind fun out => out.on some fun z =>
    some true

/- loop.example/g00897/laws.markSpanS -/
def laws_markSpanS_L1 (fu : Nat) : Nat → List Span → Int → Int → Option (List Span × Int × Int)
  | 0, _, _, _ => none
  | fk + 1, a2, k2, i =>
    if decide (i < (a2.length : Int)) then
      (idx a2 i).bind fun e =>
      (idx (a2.set (i).toNat ({ Length := k2, Loss := e.Loss, Splices := e.Splices } : Span)) i).bind fun e2 =>
      (idx ((a2.set (i).toNat ({ Length := k2, Loss := e.Loss, Splices := e.Splices } : Span)).set (i).toNat ({ Length := e2.Length, Loss := w64 (k2 + 1), Splices := e2.Splices } : Span)) i).bind fun e3 =>
      laws_markSpanS_L1 fu fk (((a2.set (i).toNat ({ Length := k2, Loss := e.Loss, Splices := e.Splices } : Span)).set (i).toNat ({ Length := e2.Length, Loss := w64 (k2 + 1), Splices := e2.Splices } : Span)).set (i).toNat ({ Length := e3.Length, Loss := e3.Loss, Splices := w64 ((w64 (k2 + 1)) + 1) } : Span)) (w64 ((w64 ((w64 (k2 + 1)) + 1)) + 1)) (w64 (i + 1))
    else
      some (a2, k2, i)
def laws_markSpanS (fu : Nat) (a' : List Span) (k' : Int) : Option (Int × List Span) :=
  (laws_markSpanS_L1 fu fu a' k' 0).bind fun z =>
  some (z.2.1, z.1)

/- loop.example/g00897/laws.markAmplifierS -/
def laws_markAmplifierS_L1 (fu : Nat) : Nat → List Amplifier → Int → Int → Option (List Amplifier × Int × Int)
  | 0, _, _, _ => none
  | fk + 1, a2, k2, i =>
    if decide (i < (a2.length : Int)) then
      (idx a2 i).bind fun e =>
      (idx (a2.set (i).toNat ({ After := k2, Gain := e.Gain, Output := e.Output, Noise := e.Noise } : Amplifier)) i).bind fun e2 =>
      (idx ((a2.set (i).toNat ({ After := k2, Gain := e.Gain, Output := e.Output, Noise := e.Noise } : Amplifier)).set (i).toNat ({ After := e2.After, Gain := w64 (k2 + 1), Output := e2.Output, Noise := e2.Noise } : Amplifier)) i).bind fun e3 =>
      (idx (((a2.set (i).toNat ({ After := k2, Gain := e.Gain, Output := e.Output, Noise := e.Noise } : Amplifier)).set (i).toNat ({ After := e2.After, Gain := w64 (k2 + 1), Output := e2.Output, Noise := e2.Noise } : Amplifier)).set (i).toNat ({ After := e3.After, Gain := e3.Gain, Output := w64 ((w64 (k2 + 1)) + 1), Noise := e3.Noise } : Amplifier)) i).bind fun e4 =>
      laws_markAmplifierS_L1 fu fk ((((a2.set (i).toNat ({ After := k2, Gain := e.Gain, Output := e.Output, Noise := e.Noise } : Amplifier)).set (i).toNat ({ After := e2.After, Gain := w64 (k2 + 1), Output := e2.Output, Noise := e2.Noise } : Amplifier)).set (i).toNat ({ After := e3.After, Gain := e3.Gain, Output := w64 ((w64 (k2 + 1)) + 1), Noise := e3.Noise } : Amplifier)).set (i).toNat ({ After := e4.After, Gain := e4.Gain, Output := e4.Output, Noise := w64 ((w64 ((w64 (k2 + 1)) + 1)) + 1) } : Amplifier)) (w64 ((w64 ((w64 ((w64 (k2 + 1)) + 1)) + 1)) + 1)) (w64 (i + 1))
    else
      some (a2, k2, i)
def laws_markAmplifierS (fu : Nat) (a' : List Amplifier) (k' : Int) : Option (Int × List Amplifier) :=
  (laws_markAmplifierS_L1 fu fu a' k' 0).bind fun z =>
  some (z.2.1, z.1)

/- loop.example/g00897/laws.heldAmplifierS -/
def laws_heldAmplifierS_L1 (fu : Nat) (a' : List Amplifier) : Nat → Int → Int → Option (Out (Int × Int) (Int))
  | 0, _, _ => none
  | fk + 1, k2, i =>
    if decide (i < (a'.length : Int)) then
      (idx a' i).bind fun e =>
      if e.After != k2 then
        some (.ret (-1))
      else
        (idx a' i).bind fun e2 =>
        if e2.Gain != (w64 (k2 + 1)) then
          some (.ret (-1))
        else
          (idx a' i).bind fun e3 =>
          if e3.Output != (w64 ((w64 (k2 + 1)) + 1)) then
            some (.ret (-1))
          else
            (idx a' i).bind fun e4 =>
            if e4.Noise != (w64 ((w64 ((w64 (k2 + 1)) + 1)) + 1)) then
              some (.ret (-1))
            else
              laws_heldAmplifierS_L1 fu a' fk (w64 ((w64 ((w64 ((w64 (k2 + 1)) + 1)) + 1)) + 1)) (w64 (i + 1))
    else
      some (.next (k2, i))
def laws_heldAmplifierS (fu : Nat) (a' : List Amplifier) (k' : Int) : Option (Int) :=
  (laws_heldAmplifierS_L1 fu a' fu k' 0).bind fun out => out.on some fun z =>
  some z.1

/- loop.example/g00897/laws.FnExactPlaceAmplifiers -/
def laws_FnExactPlaceAmplifiers (fu : Nat) (aLine : List Span) (aA : Amplifier) (aLaunch : Int) (aNeed : Int) : Option (Bool) :=
  (laws_szSpanS fu aLine 1048576).bind fun y =>
  if decide (y < 0) then
    some true
  else
    (laws_toSpanS fu aLine).bind fun y2 =>
    (laws_toAmplifier fu aA).bind fun y3 =>
    (spec_PlaceAmplifiers fu y2 y3 aLaunch aNeed).bind fun y4 =>
    (laws_toSpanS fu aLine).bind fun y5 =>
    (laws_toAmplifier fu aA).bind fun y6 =>
    (impl_PlaceAmplifiers fu y5 y6 aLaunch aNeed).bind fun y7 =>
    ((laws_eqAmplifierS fu y7.1 y4.1).bind fun y8 =>
    if !y8 then some true
    else some (y7.2 != y4.2)).bind fun c6 =>
    if c6 then
      some false
    else
      (laws_toSpanS fu aLine).bind fun y9 =>
      (laws_eqSpanS fu y5 y9).bind fun y10 =>
      if !y10 then
        some false
      else
        (laws_markSpanS fu y5 1).bind fun y11 =>
        (if decide (y11.1 < 0) then some true
        else (laws_eqAmplifierS fu y7.1 y4.1).bind fun y12 =>
        if !y12 then some true
        else some (y7.2 != y4.2)).bind fun c8 =>
        if c8 then
          some false
        else
          (laws_markAmplifierS fu y7.1 1).bind fun y13 =>
          (laws_heldAmplifierS fu y13.2 1).bind fun y14 =>
          if decide (y14 < 0) then
            some false
          else
            if y14 != y13.1 then
              some false
            else
              (laws_toSpanS fu aLine).bind fun y15 =>
              (laws_toAmplifier fu aA).bind fun y16 =>
              (impl_PlaceAmplifiers fu y15 y16 aLaunch aNeed).bind fun y17 =>
              ((laws_eqAmplifierS fu y17.1 y4.1).bind fun y18 =>
              if !y18 then some true
              else some (y17.2 != y4.2)).bind fun c11 =>
              if c11 then
                some false
              else
                (laws_heldAmplifierS fu y13.2 1).bind fun y19 =>
                if decide (y19 < 0) then
                  some false
                else
                  if y19 != y13.1 then
                    some false
                  else
                    some true
end AT
