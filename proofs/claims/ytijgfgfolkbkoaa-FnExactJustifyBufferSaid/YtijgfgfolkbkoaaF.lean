/- The Go functions told plainly, by program (gen.py). -/
import Derived.Test.YtijgfgfolkbkoaaAtP
set_option linter.unusedVariables false
namespace AT

/- loop.example/g00897/laws.toIntS -/
def laws_toIntS_L1 (fu : Nat) (a' : List Int) : Nat → List Int → Int → Option (List Int × Int)
  | 0, _, _ => none
  | fk + 1, out', i =>
    if decide (i < (a'.length : Int)) then
      (idx a' i).bind fun e =>
      (idx out' i).bind fun e2 =>
      laws_toIntS_L1 fu a' fk (out'.set (i).toNat e) (w64 (i + 1))
    else
      some (out', i)
def laws_toIntS (fu : Nat) (a' : List Int) : Option (List Int) :=
  (mk (0 : Int) (a'.length : Int)).bind fun l =>
  (laws_toIntS_L1 fu a' fu l 0).bind fun z =>
  some z.1

/- loop.example/g00897/spec.l1In -/
def spec_l1In (fu : Nat) (x1 : Int) (a' : Int) (b' : Int) : Option (Bool) :=
  (if decide (x1 ≥ a') then some (decide (x1 ≤ b'))
  else some false).bind fun c =>
  some c

/- loop.example/g00897/spec.JustifyBuffer -/
def spec_JustifyBuffer_L1 (fu : Nat) (writes : List Int) (size : Int) (low : Int) (high : Int) : Nat → Int → List Int → List Int → Int → Option (Out (Int × List Int × List Int × Int) (List Int × List Int × Bool))
  | 0, _, _, _, _ => none
  | fk + 1, fill2, moves, fills, i =>
    if decide (i < (writes.length : Int)) then
      (idx writes i).bind fun e =>
      (spec_l1In fu e 0 14).bind fun y4 =>
      if !y4 then
        some (.ret (([] : List Int), ([] : List Int), false))
      else
        (idx writes i).bind fun e2 =>
        if decide ((w64 (fill2 + e2)) > size) then
          some (.ret (([] : List Int), ([] : List Int), false))
        else
          if decide ((w64 (fill2 + e2)) > high) then
            if decide ((w64 (fill2 + e2)) < low) then
              if decide ((w64 ((w64 ((w64 (fill2 + e2)) - 12)) - (-1))) < 0) then
                some (.ret (([] : List Int), ([] : List Int), false))
              else
                (app moves [(-1)]).bind fun l =>
                (app fills [w64 ((w64 ((w64 (fill2 + e2)) - 12)) - (-1))]).bind fun l2 =>
                spec_JustifyBuffer_L1 fu writes size low high fk (w64 ((w64 ((w64 (fill2 + e2)) - 12)) - (-1))) l l2 (w64 (i + 1))
            else
              if decide ((w64 ((w64 ((w64 (fill2 + e2)) - 12)) - 1)) < 0) then
                some (.ret (([] : List Int), ([] : List Int), false))
              else
                (app moves [1]).bind fun l3 =>
                (app fills [w64 ((w64 ((w64 (fill2 + e2)) - 12)) - 1)]).bind fun l4 =>
                spec_JustifyBuffer_L1 fu writes size low high fk (w64 ((w64 ((w64 (fill2 + e2)) - 12)) - 1)) l3 l4 (w64 (i + 1))
          else
            if decide ((w64 (fill2 + e2)) < low) then
              if decide ((w64 ((w64 ((w64 (fill2 + e2)) - 12)) - (-1))) < 0) then
                some (.ret (([] : List Int), ([] : List Int), false))
              else
                (app moves [(-1)]).bind fun l5 =>
                (app fills [w64 ((w64 ((w64 (fill2 + e2)) - 12)) - (-1))]).bind fun l6 =>
                spec_JustifyBuffer_L1 fu writes size low high fk (w64 ((w64 ((w64 (fill2 + e2)) - 12)) - (-1))) l5 l6 (w64 (i + 1))
            else
              if decide ((w64 ((w64 ((w64 (fill2 + e2)) - 12)) - 0)) < 0) then
                some (.ret (([] : List Int), ([] : List Int), false))
              else
                (app moves [0]).bind fun l7 =>
                (app fills [w64 ((w64 ((w64 (fill2 + e2)) - 12)) - 0)]).bind fun l8 =>
                spec_JustifyBuffer_L1 fu writes size low high fk (w64 ((w64 ((w64 (fill2 + e2)) - 12)) - 0)) l7 l8 (w64 (i + 1))
    else
      some (.next (fill2, moves, fills, i))
def spec_JustifyBuffer (fu : Nat) (fill : Int) (writes : List Int) (size : Int) (low : Int) (high : Int) : Option (List Int × List Int × Bool) :=
  ((spec_l1In fu size 1 100).bind fun y =>
  if !y then some true
  else (spec_l1In fu fill 0 size).bind fun y2 =>
  if !y2 then some true
  else (spec_l1In fu low 0 high).bind fun y3 =>
  if !y3 then some true
  else if decide (high > size) then some true
  else some (decide ((writes.length : Int) > 40))).bind fun c2 =>
  if c2 then
    some (([] : List Int), ([] : List Int), false)
  else
    (spec_JustifyBuffer_L1 fu writes size low high fu fill ([] : List Int) ([] : List Int) 0).bind fun out => out.on some fun z =>
    some (z.2.1, z.2.2.1, true)

/- loop.example/g00897/impl.within -/
def impl_within (fu : Nat) (n' : Int) (low : Int) (high : Int) : Option (Bool) :=
  (if decide (low ≤ n') then some (decide (n' ≤ high))
  else some false).bind fun c =>
  some c

/- loop.example/g00897/impl.JustifyBuffer -/
def impl_JustifyBuffer_L1 (fu : Nat) (writes : List Int) (size : Int) (low : Int) (high : Int) : Nat → Int → List Int → List Int → Int → Option (Out (Int × List Int × List Int × Int) (List Int × List Int × Bool))
  | 0, _, _, _, _ => none
  | fk + 1, fill2, drifts, fills, i =>
    if decide (i < (writes.length : Int)) then
      (idx writes i).bind fun e =>
      (impl_within fu e 0 14).bind fun y4 =>
      if !y4 then
        some (.ret ([], [], false))
      else
        if decide ((w64 (fill2 + e)) > high) then
          if decide ((w64 (fill2 + e)) < low) then
            (if decide ((w64 (fill2 + e)) > size) then some true
            else some (decide ((w64 (fill2 + e)) < (w64 (12 + (-1)))))).bind fun c5 =>
            if c5 then
              some (.ret ([], [], false))
            else
              (app drifts [(-1)]).bind fun l =>
              (app fills [w64 ((w64 (fill2 + e)) - (w64 (12 + (-1))))]).bind fun l2 =>
              impl_JustifyBuffer_L1 fu writes size low high fk (w64 ((w64 (fill2 + e)) - (w64 (12 + (-1))))) l l2 (w64 (i + 1))
          else
            (if decide ((w64 (fill2 + e)) > size) then some true
            else some (decide ((w64 (fill2 + e)) < (w64 (12 + 1))))).bind fun c8 =>
            if c8 then
              some (.ret ([], [], false))
            else
              (app drifts [1]).bind fun l3 =>
              (app fills [w64 ((w64 (fill2 + e)) - (w64 (12 + 1)))]).bind fun l4 =>
              impl_JustifyBuffer_L1 fu writes size low high fk (w64 ((w64 (fill2 + e)) - (w64 (12 + 1)))) l3 l4 (w64 (i + 1))
        else
          if decide ((w64 (fill2 + e)) < low) then
            (if decide ((w64 (fill2 + e)) > size) then some true
            else some (decide ((w64 (fill2 + e)) < (w64 (12 + (-1)))))).bind fun c11 =>
            if c11 then
              some (.ret ([], [], false))
            else
              (app drifts [(-1)]).bind fun l5 =>
              (app fills [w64 ((w64 (fill2 + e)) - (w64 (12 + (-1))))]).bind fun l6 =>
              impl_JustifyBuffer_L1 fu writes size low high fk (w64 ((w64 (fill2 + e)) - (w64 (12 + (-1))))) l5 l6 (w64 (i + 1))
          else
            (if decide ((w64 (fill2 + e)) > size) then some true
            else some (decide ((w64 (fill2 + e)) < (w64 (12 + 0))))).bind fun c14 =>
            if c14 then
              some (.ret ([], [], false))
            else
              (app drifts [0]).bind fun l7 =>
              (app fills [w64 ((w64 (fill2 + e)) - (w64 (12 + 0)))]).bind fun l8 =>
              impl_JustifyBuffer_L1 fu writes size low high fk (w64 ((w64 (fill2 + e)) - (w64 (12 + 0)))) l7 l8 (w64 (i + 1))
    else
      some (.next (fill2, drifts, fills, i))
def impl_JustifyBuffer (fu : Nat) (fill : Int) (writes : List Int) (size : Int) (low : Int) (high : Int) : Option (List Int × List Int × Bool) :=
  ((impl_within fu size 1 100).bind fun y =>
  if !y then some true
  else (impl_within fu fill 0 size).bind fun y2 =>
  if !y2 then some true
  else (impl_within fu low 0 high).bind fun y3 =>
  if !y3 then some true
  else if decide (high > size) then some true
  else some (decide ((writes.length : Int) > 40))).bind fun c2 =>
  if c2 then
    some ([], [], false)
  else
    (impl_JustifyBuffer_L1 fu writes size low high fu fill ([] : List Int) ([] : List Int) 0).bind fun out => out.on some fun z =>
    some (z.2.1, z.2.2.1, true)

/- loop.example/g00897/laws.eqIntS -/
def laws_eqIntS_L1 (fu : Nat) (a' : List Int) (b' : List Int) : Nat → Int → Option (Out (Int) (Bool))
  | 0, _ => none
  | fk + 1, i =>
    if decide (i < (a'.length : Int)) then
      (idx a' i).bind fun e =>
      (idx b' i).bind fun e2 =>
      if e != e2 then
        some (.ret false)
      else
        laws_eqIntS_L1 fu a' b' fk (w64 (i + 1))
    else
      some (.next i)
def laws_eqIntS (fu : Nat) (a' : List Int) (b' : List Int) : Option (Bool) :=
  if (a'.length : Int) != (b'.length : Int) then
    some false
  else
    (laws_eqIntS_L1 fu a' b' fu 0).bind fun out => out.on some fun z =>
    some true

/- loop.example/g00897/laws.markIntS -/
def laws_markIntS_L1 (fu : Nat) : Nat → List Int → Int → Int → Option (List Int × Int × Int)
  | 0, _, _, _ => none
  | fk + 1, a2, k2, i =>
    if decide (i < (a2.length : Int)) then
      (idx a2 i).bind fun e =>
      laws_markIntS_L1 fu fk (a2.set (i).toNat k2) (w64 (k2 + 1)) (w64 (i + 1))
    else
      some (a2, k2, i)
def laws_markIntS (fu : Nat) (a' : List Int) (k' : Int) : Option (Int × List Int) :=
  (laws_markIntS_L1 fu fu a' k' 0).bind fun z =>
  some (z.2.1, z.1)

/- loop.example/g00897/laws.heldIntS -/
def laws_heldIntS_L1 (fu : Nat) (a' : List Int) : Nat → Int → Int → Option (Out (Int × Int) (Int))
  | 0, _, _ => none
  | fk + 1, k2, i =>
    if decide (i < (a'.length : Int)) then
      (idx a' i).bind fun e =>
      if e != k2 then
        some (.ret (-1))
      else
        laws_heldIntS_L1 fu a' fk (w64 (k2 + 1)) (w64 (i + 1))
    else
      some (.next (k2, i))
def laws_heldIntS (fu : Nat) (a' : List Int) (k' : Int) : Option (Int) :=
  (laws_heldIntS_L1 fu a' fu k' 0).bind fun out => out.on some fun z =>
  some z.1

/- loop.example/g00897/laws.FnExactJustifyBuffer -/
def laws_FnExactJustifyBuffer (fu : Nat) (aFill : Int) (aWrites : List Int) (aSize : Int) (aLow : Int) (aHigh : Int) : Option (Bool) :=
  if decide ((aWrites.length : Int) > 1048576) then
    some true
  else
    (laws_toIntS fu aWrites).bind fun y =>
    (spec_JustifyBuffer fu aFill y aSize aLow aHigh).bind fun y2 =>
    (laws_toIntS fu aWrites).bind fun y3 =>
    (impl_JustifyBuffer fu aFill y3 aSize aLow aHigh).bind fun y4 =>
    ((laws_eqIntS fu y4.1 y2.1).bind fun y5 =>
    if !y5 then some true
    else (laws_eqIntS fu y4.2.1 y2.2.1).bind fun y6 =>
    if !y6 then some true
    else some (y4.2.2 != y2.2.2)).bind fun c8 =>
    if c8 then
      some false
    else
      (laws_toIntS fu aWrites).bind fun y7 =>
      (laws_eqIntS fu y3 y7).bind fun y8 =>
      if !y8 then
        some false
      else
        (laws_markIntS fu y3 1).bind fun y9 =>
        (if decide (y9.1 < 0) then some true
        else (laws_eqIntS fu y4.1 y2.1).bind fun y10 =>
        if !y10 then some true
        else (laws_eqIntS fu y4.2.1 y2.2.1).bind fun y11 =>
        if !y11 then some true
        else some (y4.2.2 != y2.2.2)).bind fun c10 =>
        if c10 then
          some false
        else
          (laws_markIntS fu y4.1 1).bind fun y12 =>
          (laws_markIntS fu y4.2.1 y12.1).bind fun y13 =>
          (laws_heldIntS fu y12.2 1).bind fun y14 =>
          if decide (y14 < 0) then
            some false
          else
            (laws_heldIntS fu y13.2 y14).bind fun y15 =>
            if decide (y15 < 0) then
              some false
            else
              if y15 != y13.1 then
                some false
              else
                (laws_toIntS fu aWrites).bind fun y16 =>
                (impl_JustifyBuffer fu aFill y16 aSize aLow aHigh).bind fun y17 =>
                ((laws_eqIntS fu y17.1 y2.1).bind fun y18 =>
                if !y18 then some true
                else (laws_eqIntS fu y17.2.1 y2.2.1).bind fun y19 =>
                if !y19 then some true
                else some (y17.2.2 != y2.2.2)).bind fun c14 =>
                if c14 then
                  some false
                else
                  (laws_heldIntS fu y12.2 1).bind fun y20 =>
                  if decide (y20 < 0) then
                    some false
                  else
                    (laws_heldIntS fu y13.2 y20).bind fun y21 =>
                    if decide (y21 < 0) then
                      some false
                    else
                      if y21 != y13.1 then
                        some false
                      else
                        some true
end AT
