/- The Go functions told plainly, by program (gen.py). -/
import Derived.Test.YtijgfgfolkbkoaaAtP3
set_option linter.unusedVariables false
namespace AT
structure L1CurP where
  code : List By
  at_ : Int
  seed : U64
  deriving DecidableEq
structure Span where
  Length : Int
  Loss : Int
  Splices : Int
  deriving DecidableEq
structure Amplifier where
  After : Int
  Gain : Int
  Output : Int
  Noise : Int
  deriving DecidableEq

/- loop.example/g00897/laws.vBig -/
def laws_vBig (fu : Nat) (code : List By) : Option (Bool) :=
  some (decide ((code.length : Int) > 65536))

/- (*loop.example/g00897/spec.l1Cur).next -/
def spec_l1Cur_next (fu : Nat) (c : L1CurP) : Option (Int × L1CurP) :=
  if decide (c.at_ < (c.code.length : Int)) then
    (idx c.code c.at_).bind fun e =>
    if decide ((w64 (c.at_ + 1)) ≤ (c.code.length : Int)) then
      some (w64 e.n, ({ code := c.code, at_ := w64 (c.at_ + 1), seed := (⟨wu64 ((wu64 ((wu64 (c.seed.n * 6364136223846793005)) + (wu64 (w64 e.n)))) + 897897)⟩ : U64) } : L1CurP))
    else
      (shrk 64 (wu64 ((wu64 ((wu64 (c.seed.n * 6364136223846793005)) + (wu64 (w64 e.n)))) + 897897)) 40).bind fun q =>
      some (w64 (andu64 q 255), ({ code := c.code, at_ := w64 (c.at_ + 1), seed := (⟨wu64 ((wu64 ((wu64 (c.seed.n * 6364136223846793005)) + (wu64 (w64 e.n)))) + 897897)⟩ : U64) } : L1CurP))
  else
    if decide ((w64 (c.at_ + 1)) ≤ (c.code.length : Int)) then
      some (0, ({ code := c.code, at_ := w64 (c.at_ + 1), seed := (⟨wu64 ((wu64 ((wu64 (c.seed.n * 6364136223846793005)) + (wu64 0))) + 897897)⟩ : U64) } : L1CurP))
    else
      (shrk 64 (wu64 ((wu64 ((wu64 (c.seed.n * 6364136223846793005)) + (wu64 0))) + 897897)) 40).bind fun q2 =>
      some (w64 (andu64 q2 255), ({ code := c.code, at_ := w64 (c.at_ + 1), seed := (⟨wu64 ((wu64 ((wu64 (c.seed.n * 6364136223846793005)) + (wu64 0))) + 897897)⟩ : U64) } : L1CurP))

/- (*loop.example/g00897/spec.l1Cur).pick -/
def spec_l1Cur_pick (fu : Nat) (c : L1CurP) (n' : Int) : Option (Int × L1CurP) :=
  if decide (n' ≤ 1) then
    some (0, c)
  else
    (spec_l1Cur_next fu c).bind fun y =>
    if decide (n' > 200) then
      (spec_l1Cur_next fu y.2).bind fun y2 =>
      (rem (w64 ((w64 (y.1 * 256)) + y2.1)) n').bind fun q =>
      some (q, y2.2)
    else
      (rem y.1 n').bind fun q2 =>
      some (q2, y.2)

/- (*loop.example/g00897/spec.l1Cur).among -/
def spec_l1Cur_among (fu : Nat) (c : L1CurP) (list : List Int) : Option (Int × L1CurP) :=
  (spec_l1Cur_pick fu c (list.length : Int)).bind fun y =>
  (idx list y.1).bind fun e =>
  some (e, y.2)

/- (*loop.example/g00897/spec.l1Cur).level -/
def spec_l1Cur_level (fu : Nat) (c : L1CurP) : Option (Int × L1CurP) :=
  (spec_l1Cur_pick fu c 60).bind fun y =>
  (quo y.1 59).bind fun q =>
  (sub [0, 100, 300, (-500), 2000, (-2000), 10000, (-10000), 10001] 0 (w64 (8 + q))).bind fun l =>
  (spec_l1Cur_among fu y.2 l).bind fun y2 =>
  some (y2.1, y2.2)

/- (*loop.example/g00897/spec.l1Cur).span -/
def spec_l1Cur_span (fu : Nat) (c : L1CurP) : Option (Span × L1CurP) :=
  (spec_l1Cur_among fu c [0, 10, 40, 80, 100, 1000]).bind fun y =>
  (spec_l1Cur_among fu y.2 [0, 200, 220, 250, 1000]).bind fun y2 =>
  (spec_l1Cur_pick fu y2.2 5).bind fun y3 =>
  (spec_l1Cur_pick fu y3.2 60).bind fun y4 =>
  if y4.1 == 0 then
    (spec_l1Cur_among fu y4.2 [(-1), 1001]).bind fun y5 =>
    some (({ Length := y5.1, Loss := y2.1, Splices := y3.1 } : Span), y5.2)
  else
    if y4.1 == 1 then
      (spec_l1Cur_among fu y4.2 [(-1), 1001]).bind fun y6 =>
      some (({ Length := y.1, Loss := y6.1, Splices := y3.1 } : Span), y6.2)
    else
      if y4.1 == 2 then
        (spec_l1Cur_among fu y4.2 [(-1), 51, 50]).bind fun y7 =>
        some (({ Length := y.1, Loss := y2.1, Splices := y7.1 } : Span), y7.2)
      else
        some (({ Length := y.1, Loss := y2.1, Splices := y3.1 } : Span), y4.2)

/- (*loop.example/g00897/spec.l1Cur).line -/
def spec_l1Cur_line_L1 (fu : Nat) : Nat → List Span → Int → List By → Int → U64 → Option (List Span × Int × List By × Int × U64)
  | 0, _, _, _, _, _ => none
  | fk + 1, out', n', m, m2, m3 =>
    if decide (n' > 0) then
      (spec_l1Cur_span fu ({ code := m, at_ := m2, seed := m3 } : L1CurP)).bind fun y2 =>
      (app out' [y2.1]).bind fun l =>
      spec_l1Cur_line_L1 fu fk l (w64 (n' - 1)) y2.2.code y2.2.at_ y2.2.seed
    else
      some (out', n', m, m2, m3)
def spec_l1Cur_line_L2 (fu : Nat) : Nat → List Span → List By → Int → U64 → Option (List Span × List By × Int × U64)
  | 0, _, _, _, _ => none
  | fk + 1, out4, m7, m8, m9 =>
    (spec_l1Cur_pick fu ({ code := m7, at_ := m8, seed := m9 } : L1CurP) 2).bind fun y4 =>
    if decide ((out4.length : Int) < (w64 (12 + y4.1))) then
      (app out4 [({ Length := 1, Loss := 0, Splices := 0 } : Span)]).bind fun l3 =>
      spec_l1Cur_line_L2 fu fk l3 y4.2.code y4.2.at_ y4.2.seed
    else
      some (out4, y4.2.code, y4.2.at_, y4.2.seed)
def spec_l1Cur_line (fu : Nat) (c : L1CurP) : Option (List Span × L1CurP) :=
  (spec_l1Cur_pick fu c 7).bind fun y =>
  (spec_l1Cur_line_L1 fu fu ([] : List Span) (w64 (1 + y.1)) y.2.code y.2.at_ y.2.seed).bind fun z2 =>
  (spec_l1Cur_pick fu ({ code := z2.2.2.1, at_ := z2.2.2.2.1, seed := z2.2.2.2.2 } : L1CurP) 60).bind fun y3 =>
  if y3.1 == 0 then
    (sub z2.1 0 0).bind fun l2 =>
    some (l2, y3.2)
  else
    if y3.1 == 1 then
      (spec_l1Cur_line_L2 fu fu z2.1 y3.2.code y3.2.at_ y3.2.seed).bind fun z =>
      some (z.1, ({ code := z.2.1, at_ := z.2.2.1, seed := z.2.2.2 } : L1CurP))
    else
      some (z2.1, y3.2)

/- (*loop.example/g00897/spec.l1Cur).amplifier -/
def spec_l1Cur_amplifier (fu : Nat) (c : L1CurP) : Option (Amplifier × L1CurP) :=
  (spec_l1Cur_among fu c [0, 20, 100, 200, 1000, 3000]).bind fun y =>
  (spec_l1Cur_among fu y.2 [0, 50, 300, 2000, (-100)]).bind fun y2 =>
  (spec_l1Cur_among fu y2.2 [0, 100, 500, 1000, 1000, 1300, 9900]).bind fun y3 =>
  (spec_l1Cur_pick fu y3.2 60).bind fun y4 =>
  if y4.1 == 0 then
    (spec_l1Cur_among fu y4.2 [(-1), 10001]).bind fun y5 =>
    some (({ After := 0, Gain := y5.1, Output := y2.1, Noise := y3.1 } : Amplifier), y5.2)
  else
    if y4.1 == 1 then
      (spec_l1Cur_among fu y4.2 [(-10001), 10001]).bind fun y6 =>
      some (({ After := 0, Gain := y.1, Output := y6.1, Noise := y3.1 } : Amplifier), y6.2)
    else
      if y4.1 == 2 then
        (spec_l1Cur_among fu y4.2 [(-100), 10000, 10001, 150]).bind fun y7 =>
        some (({ After := 0, Gain := y.1, Output := y2.1, Noise := y7.1 } : Amplifier), y7.2)
      else
        some (({ After := 0, Gain := y.1, Output := y2.1, Noise := y3.1 } : Amplifier), y4.2)

/- loop.example/g00897/spec.DrawPlaceAmplifiers -/
def spec_DrawPlaceAmplifiers (fu : Nat) (code : List By) : Option (List Span × Amplifier × Int × Int) :=
  (spec_l1Cur_level fu ({ code := code, at_ := 0, seed := (⟨0⟩ : U64) } : L1CurP)).bind fun y =>
  (spec_l1Cur_among fu y.2 [0, 100, 300, 1000, y.1]).bind fun y2 =>
  (spec_l1Cur_line fu y2.2).bind fun y3 =>
  (spec_l1Cur_amplifier fu y3.2).bind fun y4 =>
  (spec_l1Cur_among fu y4.2 [50, 100, 300, 600, 0, 2000]).bind fun y5 =>
  some (y3.1, y4.1, y2.1, w64 (y2.1 - y5.1))

/- loop.example/g00897/impl.within -/
def impl_within (fu : Nat) (n' : Int) (low : Int) (high : Int) : Option (Bool) :=
  (if decide (low ≤ n') then some (decide (n' ≤ high))
  else some false).bind fun c =>
  some c

/- loop.example/g00897/impl.isSpan -/
def impl_isSpan (fu : Nat) (s' : Span) : Option (Bool) :=
  ((impl_within fu s'.Length 0 1000).bind fun y =>
  if y then (impl_within fu s'.Loss 0 1000).bind fun y2 =>
  if y2 then (impl_within fu s'.Splices 0 50).bind fun y3 =>
  some y3
  else some false
  else some false).bind fun c =>
  some c

/- loop.example/g00897/impl.isLine$1 -/
def impl_isLine_c1 (fu : Nat) (s' : Span) : Option (Bool) :=
  (impl_isSpan fu s').bind fun y =>
  some (!y)

/- slices.IndexFunc[[]loop.example/g00897/impl.Span,loop.example/g00897/impl.Span] -/
def slices_IndexFunc_impl_Span_impl_Span_of_isLine_c1_L1 (fu : Nat) (s' : List Span) : Nat → Int → Option (Out (Int) (Int))
  | 0, _ => none
  | fk + 1, i =>
    if decide (i < (s'.length : Int)) then
      (idx s' i).bind fun e =>
      (impl_isLine_c1 fu e).bind fun y =>
      if y then
        some (.ret i)
      else
        slices_IndexFunc_impl_Span_impl_Span_of_isLine_c1_L1 fu s' fk (w64 (i + 1))
    else
      some (.next i)
def slices_IndexFunc_impl_Span_impl_Span_of_isLine_c1 (fu : Nat) (s' : List Span) : Option (Int) :=
  (slices_IndexFunc_impl_Span_impl_Span_of_isLine_c1_L1 fu s' fu 0).bind fun out => out.on some fun z =>
  some (-1)

/- slices.ContainsFunc[[]loop.example/g00897/impl.Span,loop.example/g00897/impl.Span] -/
def slices_ContainsFunc_impl_Span_impl_Span_of_isLine_c1 (fu : Nat) (s' : List Span) : Option (Bool) :=
  (slices_IndexFunc_impl_Span_impl_Span_of_isLine_c1 fu s').bind fun y =>
  some (decide (y ≥ 0))

/- loop.example/g00897/impl.isLine -/
def impl_isLine (fu : Nat) (line : List Span) : Option (Bool) :=
  ((impl_within fu (line.length : Int) 1 12).bind fun y =>
  if y then (slices_ContainsFunc_impl_Span_impl_Span_of_isLine_c1 fu line).bind fun y2 =>
  some (!y2)
  else some false).bind fun c2 =>
  some c2

/- loop.example/g00897/impl.isLevel -/
def impl_isLevel (fu : Nat) (level : Int) : Option (Bool) :=
  (impl_within fu level (-10000) 10000).bind fun y =>
  some y

/- loop.example/g00897/impl.isAmplifier -/
def impl_isAmplifier (fu : Nat) (a' : Amplifier) : Option (Bool) :=
  ((impl_within fu a'.Gain 0 10000).bind fun y =>
  if y then (impl_isLevel fu a'.Output).bind fun y2 =>
  if y2 then (impl_within fu a'.Noise 0 10000).bind fun y3 =>
  some y3
  else some false
  else some false).bind fun c =>
  some c

/- loop.example/g00897/impl.lossOf -/
def impl_lossOf (fu : Nat) (s' : Span) : Option (Int) :=
  (quo (w64 ((w64 (s'.Length * s'.Loss)) + 999)) 1000).bind fun q =>
  some (w64 (q + (w64 (5 * s'.Splices))))

/- loop.example/g00897/impl.amplified -/
def impl_amplified (fu : Nat) (level : Int) (a' : Amplifier) : Option (Int) :=
  some (gmax level (gmin (w64 (level + a'.Gain)) a'.Output))

/- loop.example/g00897/impl.PlaceAmplifiers -/
def impl_PlaceAmplifiers_L1 (fu : Nat) (line : List Span) (a' : Amplifier) (need : Int) : Nat → List Amplifier → Int → Int → Int → Option (Out (List Amplifier × Int × Int × Int) (List Amplifier × Bool))
  | 0, _, _, _, _ => none
  | fk + 1, out', level, i, m =>
    if decide (i < (line.length : Int)) then
      (idx line i).bind fun e =>
      (impl_lossOf fu e).bind fun y5 =>
      (if decide ((w64 (level - y5)) < need) then some true
      else (impl_isLevel fu (w64 (level - y5))).bind fun y6 =>
      some (!y6)).bind fun c4 =>
      if c4 then
        some (.ret ([], false))
      else
        (if decide ((w64 (i + 1)) < (line.length : Int)) then (idx line (w64 (i + 1))).bind fun e2 =>
        (impl_lossOf fu e2).bind fun y7 =>
        some (decide ((w64 ((w64 (level - y5)) - y7)) < need))
        else some false).bind fun c5 =>
        if c5 then
          (app out' [({ After := i, Gain := a'.Gain, Output := a'.Output, Noise := a'.Noise } : Amplifier)]).bind fun l =>
          (impl_amplified fu (w64 (level - y5)) ({ After := i, Gain := a'.Gain, Output := a'.Output, Noise := a'.Noise } : Amplifier)).bind fun y8 =>
          impl_PlaceAmplifiers_L1 fu line a' need fk l y8 (w64 (i + 1)) i
        else
          impl_PlaceAmplifiers_L1 fu line a' need fk out' (w64 (level - y5)) (w64 (i + 1)) m
    else
      some (.next (out', level, i, m))
def impl_PlaceAmplifiers (fu : Nat) (line : List Span) (a' : Amplifier) (launch : Int) (need : Int) : Option (List Amplifier × Bool) :=
  ((impl_isLine fu line).bind fun y =>
  if !y then some true
  else (impl_isAmplifier fu a').bind fun y2 =>
  if !y2 then some true
  else (impl_isLevel fu launch).bind fun y3 =>
  if !y3 then some true
  else (impl_isLevel fu need).bind fun y4 =>
  some (!y4)).bind fun c2 =>
  if c2 then
    some ([], false)
  else
    (impl_PlaceAmplifiers_L1 fu line a' need fu ([] : List Amplifier) launch 0 a'.After).bind fun out => out.on some fun z =>
    some (z.1, true)

/- loop.example/g00897/spec.l1In -/
def spec_l1In (fu : Nat) (x1 : Int) (a' : Int) (b' : Int) : Option (Bool) :=
  (if decide (x1 ≥ a') then some (decide (x1 ≤ b'))
  else some false).bind fun c =>
  some c

/- loop.example/g00897/spec.l22Span -/
def spec_l22Span (fu : Nat) (s' : Span) : Option (Bool) :=
  ((spec_l1In fu s'.Length 0 1000).bind fun y =>
  if y then (spec_l1In fu s'.Loss 0 1000).bind fun y2 =>
  if y2 then (spec_l1In fu s'.Splices 0 50).bind fun y3 =>
  some y3
  else some false
  else some false).bind fun c =>
  some c

/- loop.example/g00897/spec.l22Line -/
def spec_l22Line_L1 (fu : Nat) (line : List Span) : Nat → Int → Option (Out (Int) (Bool))
  | 0, _ => none
  | fk + 1, i =>
    (if decide (i < (line.length : Int)) then some (decide (i ≤ 12))
    else some false).bind fun c2 =>
    if c2 then
      (idx line i).bind fun e =>
      (spec_l22Span fu e).bind fun y =>
      if !y then
        some (.ret false)
      else
        spec_l22Line_L1 fu line fk (w64 (i + 1))
    else
      some (.next i)
def spec_l22Line (fu : Nat) (line : List Span) : Option (Bool) :=
  (spec_l22Line_L1 fu line fu 0).bind fun out => out.on some fun z =>
  (spec_l1In fu (line.length : Int) 1 12).bind fun y2 =>
  some y2

/- loop.example/g00897/spec.l22Level -/
def spec_l22Level (fu : Nat) (x1 : Int) : Option (Bool) :=
  (spec_l1In fu x1 (-10000) 10000).bind fun y =>
  some y

/- loop.example/g00897/spec.l22Kind -/
def spec_l22Kind (fu : Nat) (a' : Amplifier) : Option (Bool) :=
  ((spec_l1In fu a'.Gain 0 10000).bind fun y =>
  if y then (spec_l22Level fu a'.Output).bind fun y2 =>
  if y2 then (spec_l1In fu a'.Noise 0 10000).bind fun y3 =>
  some y3
  else some false
  else some false).bind fun c =>
  some c

/- loop.example/g00897/spec.l22Loss -/
def spec_l22Loss (fu : Nat) (s' : Span) : Option (Int) :=
  (quo (w64 ((w64 (s'.Length * s'.Loss)) + 999)) 1000).bind fun q =>
  some (w64 (q + (w64 (5 * s'.Splices))))

/- loop.example/g00897/spec.l1Least -/
def spec_l1Least (fu : Nat) (a' : Int) (b' : Int) : Option (Int) :=
  if decide (a' < b') then
    some a'
  else
    some b'

/- loop.example/g00897/spec.l1Most -/
def spec_l1Most (fu : Nat) (a' : Int) (b' : Int) : Option (Int) :=
  if decide (a' > b') then
    some a'
  else
    some b'

/- loop.example/g00897/spec.l22Raise -/
def spec_l22Raise (fu : Nat) (a' : Amplifier) (level : Int) : Option (Int) :=
  (spec_l1Least fu (w64 (level + a'.Gain)) a'.Output).bind fun y =>
  (spec_l1Most fu level y).bind fun y2 =>
  some y2

/- loop.example/g00897/spec.PlaceAmplifiers -/
def spec_PlaceAmplifiers_L1 (fu : Nat) (line : List Span) (a' : Amplifier) (need : Int) : Nat → List Amplifier → Int → Int → Option (Out (List Amplifier × Int × Int) (List Amplifier × Bool))
  | 0, _, _, _ => none
  | fk + 1, out', now, i =>
    if decide (i < (line.length : Int)) then
      (idx line i).bind fun e =>
      (spec_l22Loss fu e).bind fun y5 =>
      ((spec_l22Level fu (w64 (now - y5))).bind fun y6 =>
      if !y6 then some true
      else some (decide ((w64 (now - y5)) < need))).bind fun c4 =>
      if c4 then
        some (.ret (([] : List Amplifier), false))
      else
        (if decide ((w64 (i + 1)) < (line.length : Int)) then (idx line (w64 (i + 1))).bind fun e2 =>
        (spec_l22Loss fu e2).bind fun y7 =>
        some (decide ((w64 ((w64 (now - y5)) - y7)) < need))
        else some false).bind fun c5 =>
        if c5 then
          (app out' [({ After := i, Gain := a'.Gain, Output := a'.Output, Noise := a'.Noise } : Amplifier)]).bind fun l =>
          (spec_l22Raise fu a' (w64 (now - y5))).bind fun y8 =>
          spec_PlaceAmplifiers_L1 fu line a' need fk l y8 (w64 (i + 1))
        else
          spec_PlaceAmplifiers_L1 fu line a' need fk out' (w64 (now - y5)) (w64 (i + 1))
    else
      some (.next (out', now, i))
def spec_PlaceAmplifiers (fu : Nat) (line : List Span) (a' : Amplifier) (launch : Int) (need : Int) : Option (List Amplifier × Bool) :=
  ((spec_l22Line fu line).bind fun y =>
  if !y then some true
  else (spec_l22Kind fu a').bind fun y2 =>
  if !y2 then some true
  else (spec_l22Level fu launch).bind fun y3 =>
  if !y3 then some true
  else (spec_l22Level fu need).bind fun y4 =>
  some (!y4)).bind fun c2 =>
  if c2 then
    some (([] : List Amplifier), false)
  else
    (spec_PlaceAmplifiers_L1 fu line a' need fu ([] : List Amplifier) launch 0).bind fun out => out.on some fun z =>
    some (z.1, true)

/- loop.example/g00897/impl.areAmplifiers -/
def impl_areAmplifiers_L1 (fu : Nat) (list : List Amplifier) (spans : Int) : Nat → Int → Option (Out (Int) (Bool))
  | 0, _ => none
  | fk + 1, i =>
    if decide (i < (list.length : Int)) then
      (idx list i).bind fun e =>
      (impl_isAmplifier fu e).bind fun y =>
      if !y then some (.ret false)
      else (impl_within fu e.After 0 (w64 (spans - 1))).bind fun y2 =>
      if !y2 then some (.ret false)
      else if decide (i > 0) then (idx list (w64 (i - 1))).bind fun e2 =>
      if decide (e2.After ≥ e.After) then
        some (.ret false)
      else
        impl_areAmplifiers_L1 fu list spans fk (w64 (i + 1))
      else impl_areAmplifiers_L1 fu list spans fk (w64 (i + 1))
    else
      some (.next i)
def impl_areAmplifiers (fu : Nat) (list : List Amplifier) (spans : Int) : Option (Bool) :=
  (impl_areAmplifiers_L1 fu list spans fu 0).bind fun out => out.on some fun z =>
  some true

/- loop.example/g00897/impl.profile -/
def impl_profile_L2 (fu : Nat) (list : List Amplifier) (i : Int) : Nat → Int → Int → Option (Int × Int)
  | 0, _, _ => none
  | fk + 1, level2, i2 =>
    if decide (i2 < (list.length : Int)) then
      (idx list i2).bind fun e2 =>
      if e2.After == i then
        (impl_amplified fu level2 e2).bind fun y6 =>
        impl_profile_L2 fu list i fk y6 (w64 (i2 + 1))
      else
        impl_profile_L2 fu list i fk level2 (w64 (i2 + 1))
    else
      some (level2, i2)
def impl_profile_L1 (fu : Nat) (line : List Span) (list : List Amplifier) : Nat → List Int → List Int → Int → Int → Option (Out (List Int × List Int × Int × Int) (List Int × List Int × Bool))
  | 0, _, _, _, _ => none
  | fk + 1, before, after, level, i =>
    if decide (i < (line.length : Int)) then
      (idx line i).bind fun e =>
      (impl_lossOf fu e).bind fun y4 =>
      (impl_isLevel fu (w64 (level - y4))).bind fun y5 =>
      if !y5 then
        some (.ret ([], [], false))
      else
        (app before [w64 (level - y4)]).bind fun l =>
        (impl_profile_L2 fu list i fu (w64 (level - y4)) 0).bind fun z =>
        (app after [z.1]).bind fun l2 =>
        impl_profile_L1 fu line list fk l l2 z.1 (w64 (i + 1))
    else
      some (.next (before, after, level, i))
def impl_profile (fu : Nat) (line : List Span) (list : List Amplifier) (launch : Int) : Option (List Int × List Int × Bool) :=
  ((impl_isLine fu line).bind fun y =>
  if !y then some true
  else (impl_areAmplifiers fu list (line.length : Int)).bind fun y2 =>
  if !y2 then some true
  else (impl_isLevel fu launch).bind fun y3 =>
  some (!y3)).bind fun c3 =>
  if c3 then
    some ([], [], false)
  else
    (impl_profile_L1 fu line list fu ([] : List Int) ([] : List Int) launch 0).bind fun out => out.on some fun z2 =>
    some (z2.1, z2.2.1, true)

/- slices.Min[[]int,int] -/
def slices_Min_int_int_L1 (fu : Nat) (x1 : List Int) : Nat → Int → Int → Option (Int × Int)
  | 0, _, _ => none
  | fk + 1, m, i =>
    if decide (i < (x1.length : Int)) then
      (idx x1 i).bind fun e2 =>
      slices_Min_int_int_L1 fu x1 fk (gmin m e2) (w64 (i + 1))
    else
      some (m, i)
def slices_Min_int_int (fu : Nat) (x1 : List Int) : Option (Int) :=
  if decide ((x1.length : Int) < 1) then
    none
  else
    (idx x1 0).bind fun e =>
    (slices_Min_int_int_L1 fu x1 fu e 1).bind fun z =>
    some z.1

/- slices.Index[[]int,int] -/
def slices_Index_int_int_L1 (fu : Nat) (s' : List Int) (v : Int) : Nat → Int → Option (Out (Int) (Int))
  | 0, _ => none
  | fk + 1, i =>
    if decide (i < (s'.length : Int)) then
      (idx s' i).bind fun e =>
      if v == e then
        some (.ret i)
      else
        slices_Index_int_int_L1 fu s' v fk (w64 (i + 1))
    else
      some (.next i)
def slices_Index_int_int (fu : Nat) (s' : List Int) (v : Int) : Option (Int) :=
  (slices_Index_int_int_L1 fu s' v fu 0).bind fun out => out.on some fun z =>
  some (-1)

/- loop.example/g00897/impl.WorstLevel -/
def impl_WorstLevel (fu : Nat) (line : List Span) (list : List Amplifier) (launch : Int) : Option (Int × Int × Bool) :=
  (impl_profile fu line list launch).bind fun y =>
  if !y.2.2 then
    some (0, 0, false)
  else
    (slices_Min_int_int fu y.1).bind fun y2 =>
    (slices_Index_int_int fu y.1 y2).bind fun y3 =>
    some (y2, y3, true)

/- (*loop.example/g00897/spec.l1Cur).one -/
def spec_l1Cur_one (fu : Nat) (c : L1CurP) (n' : Int) : Option (Bool × L1CurP) :=
  (spec_l1Cur_pick fu c n').bind fun y =>
  some (y.1 == 0, y.2)

/- (*loop.example/g00897/spec.l1Cur).amplifiers -/
def spec_l1Cur_amplifiers_L1 (fu : Nat) (spans : Int) : Nat → List Amplifier → Int → List By → Int → U64 → Option (List Amplifier × Int × List By × Int × U64)
  | 0, _, _, _, _, _ => none
  | fk + 1, out', i, m, m2, m3 =>
    if decide (i < spans) then
      (spec_l1Cur_one fu ({ code := m, at_ := m2, seed := m3 } : L1CurP) 2).bind fun y =>
      if y.1 then
        (spec_l1Cur_amplifier fu y.2).bind fun y2 =>
        (app out' [({ After := i, Gain := y2.1.Gain, Output := y2.1.Output, Noise := y2.1.Noise } : Amplifier)]).bind fun l =>
        spec_l1Cur_amplifiers_L1 fu spans fk l (w64 (i + 1)) y2.2.code y2.2.at_ y2.2.seed
      else
        spec_l1Cur_amplifiers_L1 fu spans fk out' (w64 (i + 1)) y.2.code y.2.at_ y.2.seed
    else
      some (out', i, m, m2, m3)
def spec_l1Cur_amplifiers (fu : Nat) (c : L1CurP) (spans : Int) : Option (List Amplifier × L1CurP) :=
  (spec_l1Cur_amplifiers_L1 fu spans fu ([] : List Amplifier) 0 c.code c.at_ c.seed).bind fun z =>
  (spec_l1Cur_one fu ({ code := z.2.2.1, at_ := z.2.2.2.1, seed := z.2.2.2.2 } : L1CurP) 30).bind fun y3 =>
  if y3.1 then
    (spec_l1Cur_pick fu y3.2 (w64 (spans + 2))).bind fun y4 =>
    (app z.1 [({ After := w64 (y4.1 - 1), Gain := 0, Output := 0, Noise := 0 } : Amplifier)]).bind fun l2 =>
    some (l2, y4.2)
  else
    some (z.1, y3.2)

/- loop.example/g00897/spec.DrawPowerProfile -/
def spec_DrawPowerProfile (fu : Nat) (code : List By) : Option (List Span × List Amplifier × Int) :=
  (spec_l1Cur_line fu ({ code := code, at_ := 0, seed := (⟨0⟩ : U64) } : L1CurP)).bind fun y =>
  (spec_l1Cur_amplifiers fu y.2 (y.1.length : Int)).bind fun y2 =>
  (spec_l1Cur_level fu y2.2).bind fun y3 =>
  some (y.1, y2.1, y3.1)

/- loop.example/g00897/spec.DrawPowerMargin -/
def spec_DrawPowerMargin (fu : Nat) (code : List By) : Option (List Span × List Amplifier × Int × Int) :=
  (spec_DrawPowerProfile fu code).bind fun y =>
  (spec_l1Cur_level fu ({ code := code, at_ := 0, seed := (⟨0⟩ : U64) } : L1CurP)).bind fun y2 =>
  some (y.1, y.2.1, y.2.2, y2.1)

/- loop.example/g00897/impl.PowerMargin -/
def impl_PowerMargin (fu : Nat) (line : List Span) (list : List Amplifier) (launch : Int) (need : Int) : Option (Int × Bool) :=
  (impl_profile fu line list launch).bind fun y =>
  (if !y.2.2 then some true
  else (impl_isLevel fu need).bind fun y2 =>
  if !y2 then some true
  else (idx y.2.1 (w64 ((y.2.1.length : Int) - 1))).bind fun e =>
  (impl_isLevel fu (w64 (e - need))).bind fun y3 =>
  some (!y3)).bind fun c5 =>
  if c5 then
    some (0, false)
  else
    (idx y.2.1 (w64 ((y.2.1.length : Int) - 1))).bind fun e2 =>
    some (w64 (e2 - need), true)

/- loop.example/g00897/spec.l22List -/
def spec_l22List_L1 (fu : Nat) (list : List Amplifier) (spans : Int) : Nat → Int → Option (Out (Int) (Bool))
  | 0, _ => none
  | fk + 1, i =>
    if decide (i < (list.length : Int)) then
      (idx list i).bind fun e =>
      (spec_l22Kind fu e).bind fun y =>
      if !y then some (.ret false)
      else (idx list i).bind fun e2 =>
      (spec_l1In fu e2.After 0 (w64 (spans - 1))).bind fun y2 =>
      if !y2 then some (.ret false)
      else if decide (i > 0) then (idx list (w64 (i - 1))).bind fun e3 =>
      (idx list i).bind fun e4 =>
      if decide (e3.After ≥ e4.After) then
        some (.ret false)
      else
        spec_l22List_L1 fu list spans fk (w64 (i + 1))
      else spec_l22List_L1 fu list spans fk (w64 (i + 1))
    else
      some (.next i)
def spec_l22List (fu : Nat) (list : List Amplifier) (spans : Int) : Option (Bool) :=
  (spec_l22List_L1 fu list spans fu 0).bind fun out => out.on some fun z =>
  some true

/- loop.example/g00897/spec.l22Levels -/
def spec_l22Levels_L1 (fu : Nat) (line : List Span) (list : List Amplifier) : Nat → List Int → List Int → Int → Int → Int → Option (Out (List Int × List Int × Int × Int × Int) (List Int × List Int × Bool))
  | 0, _, _, _, _, _ => none
  | fk + 1, before, after, now, at', i =>
    if decide (i < (line.length : Int)) then
      (idx line i).bind fun e =>
      (spec_l22Loss fu e).bind fun y4 =>
      (spec_l22Level fu (w64 (now - y4))).bind fun y5 =>
      if !y5 then
        some (.ret (([] : List Int), ([] : List Int), false))
      else
        (app before [w64 (now - y4)]).bind fun l =>
        (if decide (at' < (list.length : Int)) then (idx list at').bind fun e2 =>
        some (e2.After == i)
        else some false).bind fun c7 =>
        if c7 then
          (idx list at').bind fun e3 =>
          (spec_l22Raise fu e3 (w64 (now - y4))).bind fun y6 =>
          (app after [y6]).bind fun l2 =>
          spec_l22Levels_L1 fu line list fk l l2 y6 (w64 (at' + 1)) (w64 (i + 1))
        else
          (app after [w64 (now - y4)]).bind fun l3 =>
          spec_l22Levels_L1 fu line list fk l l3 (w64 (now - y4)) at' (w64 (i + 1))
    else
      some (.next (before, after, now, at', i))
def spec_l22Levels (fu : Nat) (line : List Span) (list : List Amplifier) (launch : Int) : Option (List Int × List Int × Bool) :=
  ((spec_l22Line fu line).bind fun y =>
  if !y then some true
  else (spec_l22List fu list (line.length : Int)).bind fun y2 =>
  if !y2 then some true
  else (spec_l22Level fu launch).bind fun y3 =>
  some (!y3)).bind fun c3 =>
  if c3 then
    some (([] : List Int), ([] : List Int), false)
  else
    (spec_l22Levels_L1 fu line list fu ([] : List Int) ([] : List Int) launch 0 0).bind fun out => out.on some fun z =>
    some (z.1, z.2.1, true)

/- loop.example/g00897/spec.PowerMargin -/
def spec_PowerMargin (fu : Nat) (line : List Span) (list : List Amplifier) (launch : Int) (need : Int) : Option (Int × Bool) :=
  (spec_l22Levels fu line list launch).bind fun y =>
  (if !y.2.2 then some true
  else (spec_l22Level fu need).bind fun y2 =>
  if !y2 then some true
  else (idx y.2.1 (w64 ((y.2.1.length : Int) - 1))).bind fun e =>
  (spec_l22Level fu (w64 (e - need))).bind fun y3 =>
  some (!y3)).bind fun c5 =>
  if c5 then
    some (0, false)
  else
    (idx y.2.1 (w64 ((y.2.1.length : Int) - 1))).bind fun e2 =>
    some (w64 (e2 - need), true)

/- loop.example/g00897/impl.PowerProfile -/
def impl_PowerProfile (fu : Nat) (line : List Span) (list : List Amplifier) (launch : Int) : Option (List Int × Bool) :=
  (impl_profile fu line list launch).bind fun y =>
  some (y.2.1, y.2.2)

/- loop.example/g00897/laws.FnPower -/
def laws_FnPower (fu : Nat) (code : List By) : Option (Bool) :=
  (laws_vBig fu code).bind fun y =>
  if y then
    some true
  else
    (spec_DrawPlaceAmplifiers fu code).bind fun y2 =>
    (impl_PlaceAmplifiers fu y2.1 y2.2.1 y2.2.2.1 y2.2.2.2).bind fun y3 =>
    (spec_PlaceAmplifiers fu y2.1 y2.2.1 y2.2.2.1 y2.2.2.2).bind fun y4 =>
    (if y3.2 != y4.2 then some true
    else some ((y3.1.length : Int) != (y4.1.length : Int))).bind fun c5 =>
    if c5 then
      some false
    else
      if y3.2 then
        (impl_WorstLevel fu y2.1 y3.1 y2.2.2.1).bind fun y5 =>
        (if !y5.2.2 then some true
        else some (decide (y5.1 < y2.2.2.2))).bind fun c6 =>
        if c6 then
          some false
        else
          (spec_DrawPowerMargin fu code).bind fun y6 =>
          (impl_PowerMargin fu y6.1 y6.2.1 y6.2.2.1 y6.2.2.2).bind fun y7 =>
          (spec_PowerMargin fu y6.1 y6.2.1 y6.2.2.1 y6.2.2.2).bind fun y8 =>
          (if y7.1 != y8.1 then some true
          else if y7.2 != y8.2 then some true
          else some (!y7.2)).bind fun c9 =>
          if c9 then
            (if y7.1 == y8.1 then some (y7.2 == y8.2)
            else some false).bind fun c10 =>
            some c10
          else
            (impl_PowerProfile fu y6.1 y6.2.1 y6.2.2.1).bind fun y9 =>
            (impl_WorstLevel fu y6.1 y6.2.1 y6.2.2.1).bind fun y10 =>
            (if y9.2 then if y10.2.2 then if (y9.1.length : Int) == (y6.1.length : Int) then (idx y9.1 (w64 ((y9.1.length : Int) - 1))).bind fun e =>
            if (w64 (e - y6.2.2.2)) == y7.1 then if decide (y10.2.1 < (y9.1.length : Int)) then (idx y9.1 y10.2.1).bind fun e2 =>
            some (decide (y10.1 ≤ e2))
            else some false
            else some false
            else some false
            else some false
            else some false).bind fun c12 =>
            some c12
      else
        (spec_DrawPowerMargin fu code).bind fun y11 =>
        (impl_PowerMargin fu y11.1 y11.2.1 y11.2.2.1 y11.2.2.2).bind fun y12 =>
        (spec_PowerMargin fu y11.1 y11.2.1 y11.2.2.1 y11.2.2.2).bind fun y13 =>
        (if y12.1 != y13.1 then some true
        else if y12.2 != y13.2 then some true
        else some (!y12.2)).bind fun c15 =>
        if c15 then
          (if y12.1 == y13.1 then some (y12.2 == y13.2)
          else some false).bind fun c16 =>
          some c16
        else
          (impl_PowerProfile fu y11.1 y11.2.1 y11.2.2.1).bind fun y14 =>
          (impl_WorstLevel fu y11.1 y11.2.1 y11.2.2.1).bind fun y15 =>
          (if y14.2 then if y15.2.2 then if (y14.1.length : Int) == (y11.1.length : Int) then (idx y14.1 (w64 ((y14.1.length : Int) - 1))).bind fun e3 =>
          if (w64 (e3 - y11.2.2.2)) == y12.1 then if decide (y15.2.1 < (y14.1.length : Int)) then (idx y14.1 y15.2.1).bind fun e4 =>
          some (decide (y15.1 ≤ e4))
          else some false
          else some false
          else some false
          else some false
          else some false).bind fun c18 =>
          some c18
end AT
