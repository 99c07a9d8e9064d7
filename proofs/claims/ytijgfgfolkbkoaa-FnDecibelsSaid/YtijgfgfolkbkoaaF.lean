/- The Go functions told plainly, by program (gen.py). -/
import Derived.Test.YtijgfgfolkbkoaaAtP2
set_option linter.unusedVariables false
namespace AT
structure L1CurP where
  code : List By
  at_ : Int
  seed : U64
  deriving DecidableEq
structure Amplifier where
  After : Int
  Gain : Int
  Output : Int
  Noise : Int
  deriving DecidableEq
structure Span where
  Length : Int
  Loss : Int
  Splices : Int
  deriving DecidableEq

/- loop.example/g00897/laws.vBig -/
def laws_vBig (fu : Nat) (code : List By) : Option (Bool) :=
  some (decide ((code.length : Int) > 65536))

/- (*loop.example/g00897/spec.l1Cur).next -/
def spec_l1Cur_next (fu : Nat) (c : L1CurP) : Option (Int × L1CurP) :=
  if decide (c.at_ < (c.code.length : Int)) then
    (idx c.code c.at_).bind fun e =>
    if decide ((w64 (c.at_ + 1)) ≤ (c.code.length : Int)) then
      some (w64 e.n, ({ code := c.code, at_ := w64 (c.at_ + 1), seed := (⟨wu64 ((wu64 ((wu64 (c.seed.n * 6364136223846793005)) + (wu64 (w64 e.n)))) + 897897)⟩ : U64) } : L1CurP))
    else
      (shrk 64 (wu64 ((wu64 ((wu64 (c.seed.n * 6364136223846793005)) + (wu64 (w64 e.n)))) + 897897)) 40).bind fun q =>
      some (w64 (andu64 q 255), ({ code := c.code, at_ := w64 (c.at_ + 1), seed := (⟨wu64 ((wu64 ((wu64 (c.seed.n * 6364136223846793005)) + (wu64 (w64 e.n)))) + 897897)⟩ : U64) } : L1CurP))
  else
    if decide ((w64 (c.at_ + 1)) ≤ (c.code.length : Int)) then
      some (0, ({ code := c.code, at_ := w64 (c.at_ + 1), seed := (⟨wu64 ((wu64 ((wu64 (c.seed.n * 6364136223846793005)) + (wu64 0))) + 897897)⟩ : U64) } : L1CurP))
    else
      (shrk 64 (wu64 ((wu64 ((wu64 (c.seed.n * 6364136223846793005)) + (wu64 0))) + 897897)) 40).bind fun q2 =>
      some (w64 (andu64 q2 255), ({ code := c.code, at_ := w64 (c.at_ + 1), seed := (⟨wu64 ((wu64 ((wu64 (c.seed.n * 6364136223846793005)) + (wu64 0))) + 897897)⟩ : U64) } : L1CurP))

/- (*loop.example/g00897/spec.l1Cur).pick -/
def spec_l1Cur_pick (fu : Nat) (c : L1CurP) (n' : Int) : Option (Int × L1CurP) :=
  if decide (n' ≤ 1) then
    some (0, c)
  else
    (spec_l1Cur_next fu c).bind fun y =>
    if decide (n' > 200) then
      (spec_l1Cur_next fu y.2).bind fun y2 =>
      (rem (w64 ((w64 (y.1 * 256)) + y2.1)) n').bind fun q =>
      some (q, y2.2)
    else
      (rem y.1 n').bind fun q2 =>
      some (q2, y.2)

/- (*loop.example/g00897/spec.l1Cur).among -/
def spec_l1Cur_among (fu : Nat) (c : L1CurP) (list : List Int) : Option (Int × L1CurP) :=
  (spec_l1Cur_pick fu c (list.length : Int)).bind fun y =>
  (idx list y.1).bind fun e =>
  some (e, y.2)

/- loop.example/g00897/spec.DrawLinearValue -/
def spec_DrawLinearValue (fu : Nat) (code : List By) : Option (Int) :=
  (spec_l1Cur_pick fu ({ code := code, at_ := 0, seed := (⟨0⟩ : U64) } : L1CurP) 100).bind fun y =>
  (spec_l1Cur_pick fu y.2 100).bind fun y2 =>
  (spec_l1Cur_among fu y2.2 [w64 (100 * y.1), w64 (100 * y2.1), 150, (-100), 9900, 10000, 0]).bind fun y3 =>
  some y3.1

/- loop.example/g00897/impl.within -/
def impl_within (fu : Nat) (n' : Int) (low : Int) (high : Int) : Option (Bool) :=
  (if decide (low ≤ n') then some (decide (n' ≤ high))
  else some false).bind fun c =>
  some c

/- loop.example/g00897/impl.hasLinear -/
def impl_hasLinear (fu : Nat) (level : Int) : Option (Bool) :=
  ((impl_within fu level 0 9900).bind fun y =>
  if y then (rem level 100).bind fun q =>
  some (q == 0)
  else some false).bind fun c =>
  some c

/- loop.example/g00897/impl.linear -/
def impl_linear_L1 (fu : Nat) (q3 : Int) : Nat → Int → Int → Option (Int × Int)
  | 0, _, _ => none
  | fk + 1, out', i =>
    if decide (i < q3) then
      impl_linear_L1 fu q3 fk (w64 (out' * 10)) (w64 (i + 1))
    else
      some (out', i)
def impl_linear (fu : Nat) (level : Int) : Option (Int) :=
  (quo level 100).bind fun q =>
  (rem q 10).bind fun q2 =>
  (idx [1000, 1259, 1585, 1995, 2512, 3162, 3981, 5012, 6310, 7943] q2).bind fun e =>
  (quo level 1000).bind fun q3 =>
  (impl_linear_L1 fu q3 fu e 0).bind fun z =>
  some z.1

/- loop.example/g00897/impl.LinearValue -/
def impl_LinearValue (fu : Nat) (level : Int) : Option (Int × Bool) :=
  (impl_hasLinear fu level).bind fun y =>
  if !y then
    some (0, false)
  else
    (impl_linear fu level).bind fun y2 =>
    some (y2, true)

/- loop.example/g00897/spec.l1In -/
def spec_l1In (fu : Nat) (x1 : Int) (a' : Int) (b' : Int) : Option (Bool) :=
  (if decide (x1 ≥ a') then some (decide (x1 ≤ b'))
  else some false).bind fun c =>
  some c

/- loop.example/g00897/spec.l22Table -/
def spec_l22Table (fu : Nat) : Option (List Int) :=
  some [1000, 1259, 1585, 1995, 2512, 3162, 3981, 5012, 6310, 7943]

/- loop.example/g00897/spec.l22Linear -/
def spec_l22Linear_L1 (fu : Nat) : Nat → Int → Int → Option (Int × Int)
  | 0, _, _ => none
  | fk + 1, out', k' =>
    if decide (k' > 0) then
      spec_l22Linear_L1 fu fk (w64 (out' * 10)) (w64 (k' - 1))
    else
      some (out', k')
def spec_l22Linear (fu : Nat) (level : Int) : Option (Int) :=
  ((spec_l1In fu level 0 9900).bind fun y =>
  if !y then some true
  else (rem level 100).bind fun q =>
  some (q != 0)).bind fun c =>
  if c then
    some 0
  else
    (spec_l22Table fu).bind fun y2 =>
    (quo level 100).bind fun q2 =>
    (rem q2 10).bind fun q3 =>
    (idx y2 q3).bind fun e =>
    (quo level 1000).bind fun q4 =>
    (spec_l22Linear_L1 fu fu e q4).bind fun z =>
    some z.1

/- loop.example/g00897/spec.LinearValue -/
def spec_LinearValue (fu : Nat) (level : Int) : Option (Int × Bool) :=
  (spec_l22Linear fu level).bind fun y =>
  some (y, decide (y > 0))

/- loop.example/g00897/impl.LevelOf -/
def impl_LevelOf_L1 (fu : Nat) (value : Int) : Nat → Int → Option (Int)
  | 0, _ => none
  | fk + 1, level =>
    ((impl_hasLinear fu (w64 (level + 100))).bind fun y2 =>
    if y2 then (impl_linear fu (w64 (level + 100))).bind fun y3 =>
    some (decide (y3 ≤ value))
    else some false).bind fun c =>
    if c then
      impl_LevelOf_L1 fu value fk (w64 (level + 100))
    else
      some level
def impl_LevelOf (fu : Nat) (value : Int) : Option (Int × Bool) :=
  (impl_within fu value 1000 10000000000000).bind fun y =>
  if !y then
    some (0, false)
  else
    (impl_LevelOf_L1 fu value fu 0).bind fun z =>
    some (z, true)

/- (*loop.example/g00897/spec.l1Cur).one -/
def spec_l1Cur_one (fu : Nat) (c : L1CurP) (n' : Int) : Option (Bool × L1CurP) :=
  (spec_l1Cur_pick fu c n').bind fun y =>
  some (y.1 == 0, y.2)

/- (*loop.example/g00897/spec.l1Cur).amplifier -/
def spec_l1Cur_amplifier (fu : Nat) (c : L1CurP) : Option (Amplifier × L1CurP) :=
  (spec_l1Cur_among fu c [0, 20, 100, 200, 1000, 3000]).bind fun y =>
  (spec_l1Cur_among fu y.2 [0, 50, 300, 2000, (-100)]).bind fun y2 =>
  (spec_l1Cur_among fu y2.2 [0, 100, 500, 1000, 1000, 1300, 9900]).bind fun y3 =>
  (spec_l1Cur_pick fu y3.2 60).bind fun y4 =>
  if y4.1 == 0 then
    (spec_l1Cur_among fu y4.2 [(-1), 10001]).bind fun y5 =>
    some (({ After := 0, Gain := y5.1, Output := y2.1, Noise := y3.1 } : Amplifier), y5.2)
  else
    if y4.1 == 1 then
      (spec_l1Cur_among fu y4.2 [(-10001), 10001]).bind fun y6 =>
      some (({ After := 0, Gain := y.1, Output := y6.1, Noise := y3.1 } : Amplifier), y6.2)
    else
      if y4.1 == 2 then
        (spec_l1Cur_among fu y4.2 [(-100), 10000, 10001, 150]).bind fun y7 =>
        some (({ After := 0, Gain := y.1, Output := y2.1, Noise := y7.1 } : Amplifier), y7.2)
      else
        some (({ After := 0, Gain := y.1, Output := y2.1, Noise := y3.1 } : Amplifier), y4.2)

/- (*loop.example/g00897/spec.l1Cur).amplifiers -/
def spec_l1Cur_amplifiers_L1 (fu : Nat) (spans : Int) : Nat → List Amplifier → Int → List By → Int → U64 → Option (List Amplifier × Int × List By × Int × U64)
  | 0, _, _, _, _, _ => none
  | fk + 1, out', i, m, m2, m3 =>
    if decide (i < spans) then
      (spec_l1Cur_one fu ({ code := m, at_ := m2, seed := m3 } : L1CurP) 2).bind fun y =>
      if y.1 then
        (spec_l1Cur_amplifier fu y.2).bind fun y2 =>
        (app out' [({ After := i, Gain := y2.1.Gain, Output := y2.1.Output, Noise := y2.1.Noise } : Amplifier)]).bind fun l =>
        spec_l1Cur_amplifiers_L1 fu spans fk l (w64 (i + 1)) y2.2.code y2.2.at_ y2.2.seed
      else
        spec_l1Cur_amplifiers_L1 fu spans fk out' (w64 (i + 1)) y.2.code y.2.at_ y.2.seed
    else
      some (out', i, m, m2, m3)
def spec_l1Cur_amplifiers (fu : Nat) (c : L1CurP) (spans : Int) : Option (List Amplifier × L1CurP) :=
  (spec_l1Cur_amplifiers_L1 fu spans fu ([] : List Amplifier) 0 c.code c.at_ c.seed).bind fun z =>
  (spec_l1Cur_one fu ({ code := z.2.2.1, at_ := z.2.2.2.1, seed := z.2.2.2.2 } : L1CurP) 30).bind fun y3 =>
  if y3.1 then
    (spec_l1Cur_pick fu y3.2 (w64 (spans + 2))).bind fun y4 =>
    (app z.1 [({ After := w64 (y4.1 - 1), Gain := 0, Output := 0, Noise := 0 } : Amplifier)]).bind fun l2 =>
    some (l2, y4.2)
  else
    some (z.1, y3.2)

/- loop.example/g00897/spec.DrawNoiseSum -/
def spec_DrawNoiseSum (fu : Nat) (code : List By) : Option (List Amplifier) :=
  (spec_l1Cur_pick fu ({ code := code, at_ := 0, seed := (⟨0⟩ : U64) } : L1CurP) 6).bind fun y =>
  (spec_l1Cur_amplifiers fu y.2 (w64 (1 + y.1))).bind fun y2 =>
  some y2.1

/- loop.example/g00897/impl.isLevel -/
def impl_isLevel (fu : Nat) (level : Int) : Option (Bool) :=
  (impl_within fu level (-10000) 10000).bind fun y =>
  some y

/- loop.example/g00897/impl.isAmplifier -/
def impl_isAmplifier (fu : Nat) (a' : Amplifier) : Option (Bool) :=
  ((impl_within fu a'.Gain 0 10000).bind fun y =>
  if y then (impl_isLevel fu a'.Output).bind fun y2 =>
  if y2 then (impl_within fu a'.Noise 0 10000).bind fun y3 =>
  some y3
  else some false
  else some false).bind fun c =>
  some c

/- loop.example/g00897/impl.areAmplifiers -/
def impl_areAmplifiers_L1 (fu : Nat) (list : List Amplifier) (spans : Int) : Nat → Int → Option (Out (Int) (Bool))
  | 0, _ => none
  | fk + 1, i =>
    if decide (i < (list.length : Int)) then
      (idx list i).bind fun e =>
      (impl_isAmplifier fu e).bind fun y =>
      if !y then some (.ret false)
      else (impl_within fu e.After 0 (w64 (spans - 1))).bind fun y2 =>
      if !y2 then some (.ret false)
      else if decide (i > 0) then (idx list (w64 (i - 1))).bind fun e2 =>
      if decide (e2.After ≥ e.After) then
        some (.ret false)
      else
        impl_areAmplifiers_L1 fu list spans fk (w64 (i + 1))
      else impl_areAmplifiers_L1 fu list spans fk (w64 (i + 1))
    else
      some (.next i)
def impl_areAmplifiers (fu : Nat) (list : List Amplifier) (spans : Int) : Option (Bool) :=
  (impl_areAmplifiers_L1 fu list spans fu 0).bind fun out => out.on some fun z =>
  some true

/- loop.example/g00897/impl.NoiseSum -/
def impl_NoiseSum_L1 (fu : Nat) (list : List Amplifier) : Nat → Int → Int → Option (Out (Int × Int) (Int × Bool))
  | 0, _, _ => none
  | fk + 1, sum, i =>
    if decide (i < (list.length : Int)) then
      (idx list i).bind fun e =>
      (impl_hasLinear fu e.Noise).bind fun y2 =>
      if !y2 then
        some (.ret (0, false))
      else
        (impl_linear fu e.Noise).bind fun y3 =>
        impl_NoiseSum_L1 fu list fk (w64 (sum + y3)) (w64 (i + 1))
    else
      some (.next (sum, i))
def impl_NoiseSum (fu : Nat) (list : List Amplifier) : Option (Int × Bool) :=
  (if (list.length : Int) == 0 then some true
  else (impl_areAmplifiers fu list 12).bind fun y =>
  some (!y)).bind fun c2 =>
  if c2 then
    some (0, false)
  else
    (impl_NoiseSum_L1 fu list fu 0 0).bind fun out => out.on some fun z =>
    (impl_LevelOf fu z.1).bind fun y4 =>
    some (y4.1, y4.2)

/- loop.example/g00897/spec.l22Level -/
def spec_l22Level (fu : Nat) (x1 : Int) : Option (Bool) :=
  (spec_l1In fu x1 (-10000) 10000).bind fun y =>
  some y

/- loop.example/g00897/spec.l22Kind -/
def spec_l22Kind (fu : Nat) (a' : Amplifier) : Option (Bool) :=
  ((spec_l1In fu a'.Gain 0 10000).bind fun y =>
  if y then (spec_l22Level fu a'.Output).bind fun y2 =>
  if y2 then (spec_l1In fu a'.Noise 0 10000).bind fun y3 =>
  some y3
  else some false
  else some false).bind fun c =>
  some c

/- loop.example/g00897/spec.l22List -/
def spec_l22List_L1 (fu : Nat) (list : List Amplifier) (spans : Int) : Nat → Int → Option (Out (Int) (Bool))
  | 0, _ => none
  | fk + 1, i =>
    if decide (i < (list.length : Int)) then
      (idx list i).bind fun e =>
      (spec_l22Kind fu e).bind fun y =>
      if !y then some (.ret false)
      else (idx list i).bind fun e2 =>
      (spec_l1In fu e2.After 0 (w64 (spans - 1))).bind fun y2 =>
      if !y2 then some (.ret false)
      else if decide (i > 0) then (idx list (w64 (i - 1))).bind fun e3 =>
      (idx list i).bind fun e4 =>
      if decide (e3.After ≥ e4.After) then
        some (.ret false)
      else
        spec_l22List_L1 fu list spans fk (w64 (i + 1))
      else spec_l22List_L1 fu list spans fk (w64 (i + 1))
    else
      some (.next i)
def spec_l22List (fu : Nat) (list : List Amplifier) (spans : Int) : Option (Bool) :=
  (spec_l22List_L1 fu list spans fu 0).bind fun out => out.on some fun z =>
  some true

/- loop.example/g00897/spec.l22Of -/
def spec_l22Of_L1 (fu : Nat) (value : Int) : Nat → Int → Option (Int)
  | 0, _ => none
  | fk + 1, level =>
    (if decide (level < 9900) then (spec_l22Linear fu (w64 (level + 100))).bind fun y =>
    some (decide (y ≤ value))
    else some false).bind fun c =>
    if c then
      spec_l22Of_L1 fu value fk (w64 (level + 100))
    else
      some level
def spec_l22Of (fu : Nat) (value : Int) : Option (Int) :=
  (spec_l22Of_L1 fu value fu 0).bind fun z =>
  some z

/- loop.example/g00897/spec.NoiseSum -/
def spec_NoiseSum_L1 (fu : Nat) (list : List Amplifier) : Nat → Int → Int → Option (Out (Int × Int) (Int × Bool))
  | 0, _, _ => none
  | fk + 1, sum, i =>
    if decide (i < (list.length : Int)) then
      (idx list i).bind fun e =>
      (spec_l22Linear fu e.Noise).bind fun y2 =>
      if y2 == 0 then
        some (.ret (0, false))
      else
        spec_NoiseSum_L1 fu list fk (w64 (sum + y2)) (w64 (i + 1))
    else
      some (.next (sum, i))
def spec_NoiseSum (fu : Nat) (list : List Amplifier) : Option (Int × Bool) :=
  (if (list.length : Int) == 0 then some true
  else (spec_l22List fu list 12).bind fun y =>
  some (!y)).bind fun c2 =>
  if c2 then
    some (0, false)
  else
    (spec_NoiseSum_L1 fu list fu 0 0).bind fun out => out.on some fun z =>
    (spec_l1In fu z.1 1000 10000000000000).bind fun y3 =>
    if !y3 then
      some (0, false)
    else
      (spec_l22Of fu z.1).bind fun y4 =>
      some (y4, true)

/- (*loop.example/g00897/spec.l1Cur).level -/
def spec_l1Cur_level (fu : Nat) (c : L1CurP) : Option (Int × L1CurP) :=
  (spec_l1Cur_pick fu c 60).bind fun y =>
  (quo y.1 59).bind fun q =>
  (sub [0, 100, 300, (-500), 2000, (-2000), 10000, (-10000), 10001] 0 (w64 (8 + q))).bind fun l =>
  (spec_l1Cur_among fu y.2 l).bind fun y2 =>
  some (y2.1, y2.2)

/- (*loop.example/g00897/spec.l1Cur).span -/
def spec_l1Cur_span (fu : Nat) (c : L1CurP) : Option (Span × L1CurP) :=
  (spec_l1Cur_among fu c [0, 10, 40, 80, 100, 1000]).bind fun y =>
  (spec_l1Cur_among fu y.2 [0, 200, 220, 250, 1000]).bind fun y2 =>
  (spec_l1Cur_pick fu y2.2 5).bind fun y3 =>
  (spec_l1Cur_pick fu y3.2 60).bind fun y4 =>
  if y4.1 == 0 then
    (spec_l1Cur_among fu y4.2 [(-1), 1001]).bind fun y5 =>
    some (({ Length := y5.1, Loss := y2.1, Splices := y3.1 } : Span), y5.2)
  else
    if y4.1 == 1 then
      (spec_l1Cur_among fu y4.2 [(-1), 1001]).bind fun y6 =>
      some (({ Length := y.1, Loss := y6.1, Splices := y3.1 } : Span), y6.2)
    else
      if y4.1 == 2 then
        (spec_l1Cur_among fu y4.2 [(-1), 51, 50]).bind fun y7 =>
        some (({ Length := y.1, Loss := y2.1, Splices := y7.1 } : Span), y7.2)
      else
        some (({ Length := y.1, Loss := y2.1, Splices := y3.1 } : Span), y4.2)

/- loop.example/g00897/spec.DrawMostSpans -/
def spec_DrawMostSpans (fu : Nat) (code : List By) : Option (Span × Int × Int) :=
  (spec_l1Cur_level fu ({ code := code, at_ := 0, seed := (⟨0⟩ : U64) } : L1CurP)).bind fun y =>
  (spec_l1Cur_span fu y.2).bind fun y2 =>
  (spec_l1Cur_among fu y2.2 [0, 10, 50, 100, 300, (-5), 2000]).bind fun y3 =>
  some (y2.1, y.1, w64 (y.1 - y3.1))

/- loop.example/g00897/impl.isSpan -/
def impl_isSpan (fu : Nat) (s' : Span) : Option (Bool) :=
  ((impl_within fu s'.Length 0 1000).bind fun y =>
  if y then (impl_within fu s'.Loss 0 1000).bind fun y2 =>
  if y2 then (impl_within fu s'.Splices 0 50).bind fun y3 =>
  some y3
  else some false
  else some false).bind fun c =>
  some c

/- loop.example/g00897/impl.lossOf -/
def impl_lossOf (fu : Nat) (s' : Span) : Option (Int) :=
  (quo (w64 ((w64 (s'.Length * s'.Loss)) + 999)) 1000).bind fun q =>
  some (w64 (q + (w64 (5 * s'.Splices))))

/- loop.example/g00897/impl.MostSpans -/
def impl_MostSpans_L1 (fu : Nat) (s' : Span) (launch : Int) (need : Int) : Nat → Int → Option (Int)
  | 0, _ => none
  | fk + 1, count =>
    (if decide (count < 12) then (impl_lossOf fu s').bind fun y4 =>
    some (decide ((w64 (launch - (w64 ((w64 (count + 1)) * y4)))) ≥ need))
    else some false).bind fun c2 =>
    if c2 then
      impl_MostSpans_L1 fu s' launch need fk (w64 (count + 1))
    else
      some count
def impl_MostSpans (fu : Nat) (s' : Span) (launch : Int) (need : Int) : Option (Int × Bool) :=
  ((impl_isSpan fu s').bind fun y =>
  if !y then some true
  else (impl_isLevel fu launch).bind fun y2 =>
  if !y2 then some true
  else (impl_isLevel fu need).bind fun y3 =>
  some (!y3)).bind fun c =>
  if c then
    some (0, false)
  else
    (impl_MostSpans_L1 fu s' launch need fu 0).bind fun z =>
    some (z, true)

/- loop.example/g00897/spec.l22Span -/
def spec_l22Span (fu : Nat) (s' : Span) : Option (Bool) :=
  ((spec_l1In fu s'.Length 0 1000).bind fun y =>
  if y then (spec_l1In fu s'.Loss 0 1000).bind fun y2 =>
  if y2 then (spec_l1In fu s'.Splices 0 50).bind fun y3 =>
  some y3
  else some false
  else some false).bind fun c =>
  some c

/- loop.example/g00897/spec.l22Loss -/
def spec_l22Loss (fu : Nat) (s' : Span) : Option (Int) :=
  (quo (w64 ((w64 (s'.Length * s'.Loss)) + 999)) 1000).bind fun q =>
  some (w64 (q + (w64 (5 * s'.Splices))))

/- loop.example/g00897/spec.MostSpans -/
def spec_MostSpans_L1 (fu : Nat) (s' : Span) (launch : Int) (need : Int) : Nat → Int → Option (Int)
  | 0, _ => none
  | fk + 1, n' =>
    (if decide (n' < 12) then (spec_l22Loss fu s').bind fun y4 =>
    some (decide ((w64 (launch - (w64 ((w64 (n' + 1)) * y4)))) ≥ need))
    else some false).bind fun c2 =>
    if c2 then
      spec_MostSpans_L1 fu s' launch need fk (w64 (n' + 1))
    else
      some n'
def spec_MostSpans (fu : Nat) (s' : Span) (launch : Int) (need : Int) : Option (Int × Bool) :=
  ((spec_l22Span fu s').bind fun y =>
  if !y then some true
  else (spec_l22Level fu launch).bind fun y2 =>
  if !y2 then some true
  else (spec_l22Level fu need).bind fun y3 =>
  some (!y3)).bind fun c =>
  if c then
    some (0, false)
  else
    (spec_MostSpans_L1 fu s' launch need fu 0).bind fun z =>
    some (z, true)

/- loop.example/g00897/spec.SpanLoss -/
def spec_SpanLoss (fu : Nat) (s' : Span) : Option (Int × Bool) :=
  (spec_l22Span fu s').bind fun y =>
  if !y then
    some (0, false)
  else
    (spec_l22Loss fu s').bind fun y2 =>
    some (y2, true)

/- loop.example/g00897/laws.FnDecibels -/
def laws_FnDecibels_L1 (fu : Nat) (y6 : List Amplifier) (y7 : Int × Bool) : Nat → Int → Option (Out (Int) (Bool))
  | 0, _ => none
  | fk + 1, i =>
    if decide (i < (y6.length : Int)) then
      (idx y6 i).bind fun e =>
      if decide (e.Noise > y7.1) then
        some (.ret false)
      else
        laws_FnDecibels_L1 fu y6 y7 fk (w64 (i + 1))
    else
      some (.next i)
def laws_FnDecibels_L2 (fu : Nat) (y13 : List Amplifier) (y14 : Int × Bool) : Nat → Int → Option (Out (Int) (Bool))
  | 0, _ => none
  | fk + 1, i3 =>
    if decide (i3 < (y13.length : Int)) then
      (idx y13 i3).bind fun e2 =>
      if decide (e2.Noise > y14.1) then
        some (.ret false)
      else
        laws_FnDecibels_L2 fu y13 y14 fk (w64 (i3 + 1))
    else
      some (.next i3)
def laws_FnDecibels (fu : Nat) (code : List By) : Option (Bool) :=
  (laws_vBig fu code).bind fun y =>
  if y then
    some true
  else
    (spec_DrawLinearValue fu code).bind fun y2 =>
    (impl_LinearValue fu y2).bind fun y3 =>
    (spec_LinearValue fu y2).bind fun y4 =>
    (if y3.1 != y4.1 then some true
    else some (y3.2 != y4.2)).bind fun c2 =>
    if c2 then
      some false
    else
      if y3.2 then
        (impl_LevelOf fu y3.1).bind fun y5 =>
        (if !y5.2 then some true
        else some (y5.1 != y2)).bind fun c3 =>
        if c3 then
          some false
        else
          (spec_DrawNoiseSum fu code).bind fun y6 =>
          (impl_NoiseSum fu y6).bind fun y7 =>
          (spec_NoiseSum fu y6).bind fun y8 =>
          (if y7.1 != y8.1 then some true
          else if y7.2 != y8.2 then some true
          else some (!y7.2)).bind fun c5 =>
          if c5 then
            (if y7.1 == y8.1 then some (y7.2 == y8.2)
            else some false).bind fun c6 =>
            some c6
          else
            (laws_FnDecibels_L1 fu y6 y7 fu 0).bind fun out => out.on some fun z =>
            (spec_DrawMostSpans fu code).bind fun y9 =>
            (impl_MostSpans fu y9.1 y9.2.1 y9.2.2).bind fun y10 =>
            (spec_MostSpans fu y9.1 y9.2.1 y9.2.2).bind fun y11 =>
            (spec_SpanLoss fu y9.1).bind fun y12 =>
            (if y10.1 == y11.1 then if y10.2 == y11.2 then if !y10.2 then some true
            else if y10.1 == 0 then some true
            else some (decide ((w64 (y9.2.1 - (w64 (y10.1 * y12.1)))) ≥ y9.2.2))
            else some false
            else some false).bind fun c7 =>
            some c7
      else
        (spec_DrawNoiseSum fu code).bind fun y13 =>
        (impl_NoiseSum fu y13).bind fun y14 =>
        (spec_NoiseSum fu y13).bind fun y15 =>
        (if y14.1 != y15.1 then some true
        else if y14.2 != y15.2 then some true
        else some (!y14.2)).bind fun c9 =>
        if c9 then
          (if y14.1 == y15.1 then some (y14.2 == y15.2)
          else some false).bind fun c10 =>
          some c10
        else
          (laws_FnDecibels_L2 fu y13 y14 fu 0).bind fun out => out.on some fun z2 =>
          (spec_DrawMostSpans fu code).bind fun y16 =>
          (impl_MostSpans fu y16.1 y16.2.1 y16.2.2).bind fun y17 =>
          (spec_MostSpans fu y16.1 y16.2.1 y16.2.2).bind fun y18 =>
          (spec_SpanLoss fu y16.1).bind fun y19 =>
          (if y17.1 == y18.1 then if y17.2 == y18.2 then if !y17.2 then some true
          else if y17.1 == 0 then some true
          else some (decide ((w64 (y16.2.1 - (w64 (y17.1 * y19.1)))) ≥ y16.2.2))
          else some false
          else some false).bind fun c11 =>
          some c11
end AT
