/- The Go functions told plainly, by program (gen.py). -/
import Derived.Test.YtijgfgfolkbkoaaAtP
set_option linter.unusedVariables false
namespace AT
structure Item where
  Kind : Int
  Node : Int
  Count : Int
  deriving DecidableEq

/- loop.example/g00897/laws.szItemS -/
def laws_szItemS (fu : Nat) (a' : List Item) (left : Int) : Option (Int) :=
  if decide ((w64 (left - (a'.length : Int))) < 0) then
    some (-1)
  else
    some (w64 (left - (a'.length : Int)))

/- loop.example/g00897/laws.toItem -/
def laws_toItem (fu : Nat) (a' : Item) : Option (Item) :=
  some a'

/- loop.example/g00897/laws.toItemS -/
def laws_toItemS_L1 (fu : Nat) (a' : List Item) : Nat → List Item → Int → Option (List Item × Int)
  | 0, _, _ => none
  | fk + 1, out', i =>
    if decide (i < (a'.length : Int)) then
      (idx a' i).bind fun e =>
      (laws_toItem fu e).bind fun y =>
      (idx out' i).bind fun e2 =>
      laws_toItemS_L1 fu a' fk (out'.set (i).toNat y) (w64 (i + 1))
    else
      some (out', i)
def laws_toItemS (fu : Nat) (a' : List Item) : Option (List Item) :=
  (mk (({ Kind := 0, Node := 0, Count := 0 } : Item) : Item) (a'.length : Int)).bind fun l =>
  (laws_toItemS_L1 fu a' fu l 0).bind fun z =>
  some z.1

/- loop.example/g00897/laws.toIntS -/
def laws_toIntS_L1 (fu : Nat) (a' : List Int) : Nat → List Int → Int → Option (List Int × Int)
  | 0, _, _ => none
  | fk + 1, out', i =>
    if decide (i < (a'.length : Int)) then
      (idx a' i).bind fun e =>
      (idx out' i).bind fun e2 =>
      laws_toIntS_L1 fu a' fk (out'.set (i).toNat e) (w64 (i + 1))
    else
      some (out', i)
def laws_toIntS (fu : Nat) (a' : List Int) : Option (List Int) :=
  (mk (0 : Int) (a'.length : Int)).bind fun l =>
  (laws_toIntS_L1 fu a' fu l 0).bind fun z =>
  some z.1

/- loop.example/g00897/spec.l1In -/
def spec_l1In (fu : Nat) (x1 : Int) (a' : Int) (b' : Int) : Option (Bool) :=
  (if decide (x1 ≥ a') then some (decide (x1 ≤ b'))
  else some false).bind fun c =>
  some c

/- loop.example/g00897/spec.l19Before -/
def spec_l19Before (fu : Nat) (a' : Item) (b' : Item) : Option (Bool) :=
  (if decide (a'.Kind < b'.Kind) then some true
  else if a'.Kind == b'.Kind then some (decide (a'.Node < b'.Node))
  else some false).bind fun c =>
  some c

/- loop.example/g00897/spec.l19Bill -/
def spec_l19Bill_L1 (fu : Nat) (bill : List Item) : Nat → Int → Option (Out (Int) (Bool))
  | 0, _ => none
  | fk + 1, i =>
    if decide (i < (bill.length : Int)) then
      (idx bill i).bind fun e =>
      (spec_l1In fu e.Kind 1 4).bind fun y =>
      if !y then some (.ret false)
      else (spec_l1In fu e.Node 0 7).bind fun y2 =>
      if !y2 then some (.ret false)
      else (spec_l1In fu e.Count 1 1000).bind fun y3 =>
      if !y3 then some (.ret false)
      else if decide (i > 0) then (idx bill (w64 (i - 1))).bind fun e2 =>
      (spec_l19Before fu e2 e).bind fun y4 =>
      if !y4 then
        some (.ret false)
      else
        spec_l19Bill_L1 fu bill fk (w64 (i + 1))
      else spec_l19Bill_L1 fu bill fk (w64 (i + 1))
    else
      some (.next i)
def spec_l19Bill (fu : Nat) (bill : List Item) : Option (Bool) :=
  (spec_l19Bill_L1 fu bill fu 0).bind fun out => out.on some fun z =>
  some (decide ((bill.length : Int) ≤ 32))

/- loop.example/g00897/spec.CostOf -/
def spec_CostOf_L1 (fu : Nat) (prices : List Int) : Nat → Int → Option (Out (Int) (Int × Bool))
  | 0, _ => none
  | fk + 1, i =>
    if decide (i < 4) then
      (idx prices i).bind fun e =>
      (spec_l1In fu e 0 100000).bind fun y2 =>
      if !y2 then
        some (.ret (0, false))
      else
        spec_CostOf_L1 fu prices fk (w64 (i + 1))
    else
      some (.next i)
def spec_CostOf_L2 (fu : Nat) (bill : List Item) (prices : List Int) : Nat → Int → Int → Option (Int × Int)
  | 0, _, _ => none
  | fk + 1, sum, i3 =>
    if decide (i3 < (bill.length : Int)) then
      (idx bill i3).bind fun e2 =>
      (idx bill i3).bind fun e3 =>
      (idx prices (w64 (e3.Kind - 1))).bind fun e4 =>
      spec_CostOf_L2 fu bill prices fk (w64 (sum + (w64 (e2.Count * e4)))) (w64 (i3 + 1))
    else
      some (sum, i3)
def spec_CostOf (fu : Nat) (bill : List Item) (prices : List Int) : Option (Int × Bool) :=
  ((spec_l19Bill fu bill).bind fun y =>
  if !y then some true
  else some ((prices.length : Int) != 4)).bind fun c3 =>
  if c3 then
    some (0, false)
  else
    (spec_CostOf_L1 fu prices fu 0).bind fun out => out.on some fun z2 =>
    (spec_CostOf_L2 fu bill prices fu 0 0).bind fun z =>
    some (z.1, true)

/- loop.example/g00897/impl.within -/
def impl_within (fu : Nat) (n' : Int) (low : Int) (high : Int) : Option (Bool) :=
  (if decide (low ≤ n') then some (decide (n' ≤ high))
  else some false).bind fun c =>
  some c

/- loop.example/g00897/impl.isBill -/
def impl_isBill_L1 (fu : Nat) (bill : List Item) : Nat → Int → Option (Out (Int) (Bool))
  | 0, _ => none
  | fk + 1, i =>
    if decide (i < (bill.length : Int)) then
      (idx bill i).bind fun e =>
      ((impl_within fu e.Kind 1 4).bind fun y =>
      if !y then some true
      else (impl_within fu e.Node 0 7).bind fun y2 =>
      if !y2 then some true
      else (impl_within fu e.Count 1 1000).bind fun y3 =>
      some (!y3)).bind fun c2 =>
      if c2 then
        some (.ret false)
      else
        if decide (i > 0) then (idx bill (w64 (i - 1))).bind fun e2 =>
        (idx bill (w64 (i - 1))).bind fun e3 =>
        if decide ((w64 ((w64 (e2.Kind * 8)) + e3.Node)) ≥ (w64 ((w64 (e.Kind * 8)) + e.Node))) then
          some (.ret false)
        else
          impl_isBill_L1 fu bill fk (w64 (i + 1))
        else impl_isBill_L1 fu bill fk (w64 (i + 1))
    else
      some (.next i)
def impl_isBill (fu : Nat) (bill : List Item) : Option (Bool) :=
  (impl_isBill_L1 fu bill fu 0).bind fun out => out.on some fun z =>
  some (decide ((bill.length : Int) ≤ 32))

/- loop.example/g00897/impl.CostOf$1 -/
def impl_CostOf_c1 (fu : Nat) (price : Int) : Option (Bool) :=
  (impl_within fu price 0 100000).bind fun y =>
  some (!y)

/- slices.IndexFunc[[]int,int] -/
def slices_IndexFunc_int_int_of_CostOf_c1_L1 (fu : Nat) (s' : List Int) : Nat → Int → Option (Out (Int) (Int))
  | 0, _ => none
  | fk + 1, i =>
    if decide (i < (s'.length : Int)) then
      (idx s' i).bind fun e =>
      (impl_CostOf_c1 fu e).bind fun y =>
      if y then
        some (.ret i)
      else
        slices_IndexFunc_int_int_of_CostOf_c1_L1 fu s' fk (w64 (i + 1))
    else
      some (.next i)
def slices_IndexFunc_int_int_of_CostOf_c1 (fu : Nat) (s' : List Int) : Option (Int) :=
  (slices_IndexFunc_int_int_of_CostOf_c1_L1 fu s' fu 0).bind fun out => out.on some fun z =>
  some (-1)

/- slices.ContainsFunc[[]int,int] -/
def slices_ContainsFunc_int_int_of_CostOf_c1 (fu : Nat) (s' : List Int) : Option (Bool) :=
  (slices_IndexFunc_int_int_of_CostOf_c1 fu s').bind fun y =>
  some (decide (y ≥ 0))

/- loop.example/g00897/impl.CostOf -/
def impl_CostOf_L1 (fu : Nat) (bill : List Item) (prices : List Int) : Nat → Int → Int → Option (Int × Int)
  | 0, _, _ => none
  | fk + 1, sum, i =>
    if decide (i < (bill.length : Int)) then
      (idx bill i).bind fun e =>
      (idx prices (w64 (e.Kind - 1))).bind fun e2 =>
      impl_CostOf_L1 fu bill prices fk (w64 (sum + (w64 (e.Count * e2)))) (w64 (i + 1))
    else
      some (sum, i)
def impl_CostOf (fu : Nat) (bill : List Item) (prices : List Int) : Option (Int × Bool) :=
  ((impl_isBill fu bill).bind fun y =>
  if !y then some true
  else if (prices.length : Int) != 4 then some true
  else (slices_ContainsFunc_int_int_of_CostOf_c1 fu prices).bind fun y2 =>
  some y2).bind fun c3 =>
  if c3 then
    some (0, false)
  else
    (impl_CostOf_L1 fu bill prices fu 0 0).bind fun z =>
    some (z.1, true)

/- loop.example/g00897/laws.eqItem -/
def laws_eqItem (fu : Nat) (a' : Item) (b' : Item) : Option (Bool) :=
  if a'.Kind != b'.Kind then
    some false
  else
    if a'.Node != b'.Node then
      some false
    else
      if a'.Count != b'.Count then
        some false
      else
        some true

/- loop.example/g00897/laws.eqItemS -/
def laws_eqItemS_L1 (fu : Nat) (a' : List Item) (b' : List Item) : Nat → Int → Option (Out (Int) (Bool))
  | 0, _ => none
  | fk + 1, i =>
    if decide (i < (a'.length : Int)) then
      (idx a' i).bind fun e =>
      (idx b' i).bind fun e2 =>
      (laws_eqItem fu e e2).bind fun y =>
      if !y then
        some (.ret false)
      else
        laws_eqItemS_L1 fu a' b' fk (w64 (i + 1))
    else
      some (.next i)
def laws_eqItemS (fu : Nat) (a' : List Item) (b' : List Item) : Option (Bool) :=
  if (a'.length : Int) != (b'.length : Int) then
    some false
  else
    (laws_eqItemS_L1 fu a' b' fu 0).bind fun out => out.on some fun z =>
    some true

/- loop.example/g00897/laws.eqIntS -/
def laws_eqIntS_L1 (fu : Nat) (a' : List Int) (b' : List Int) : Nat → Int → Option (Out (Int) (Bool))
  | 0, _ => none
  | fk + 1, i =>
    if decide (i < (a'.length : Int)) then
      (idx a' i).bind fun e =>
      (idx b' i).bind fun e2 =>
      if e != e2 then
        some (.ret false)
      else
        laws_eqIntS_L1 fu a' b' fk (w64 (i + 1))
    else
      some (.next i)
def laws_eqIntS (fu : Nat) (a' : List Int) (b' : List Int) : Option (Bool) :=
  if (a'.length : Int) != (b'.length : Int) then
    some false
  else
    (laws_eqIntS_L1 fu a' b' fu 0).bind fun out => out.on some fun z =>
    some true

/- loop.example/g00897/laws.FnExactCostOf -/
def laws_FnExactCostOf (fu : Nat) (aBill : List Item) (aPrices : List Int) : Option (Bool) :=
  if decide ((aPrices.length : Int) > 1048576) then
    some true
  else
    (laws_szItemS fu aBill 1048576).bind fun y =>
    if decide (y < 0) then
      some true
    else
      (laws_toItemS fu aBill).bind fun y2 =>
      (laws_toIntS fu aPrices).bind fun y3 =>
      (spec_CostOf fu y2 y3).bind fun y4 =>
      (laws_toItemS fu aBill).bind fun y5 =>
      (laws_toIntS fu aPrices).bind fun y6 =>
      (impl_CostOf fu y5 y6).bind fun y7 =>
      (if y7.1 != y4.1 then some true
      else some (y7.2 != y4.2)).bind fun c7 =>
      if c7 then
        some false
      else
        (laws_toItemS fu aBill).bind fun y8 =>
        (laws_eqItemS fu y5 y8).bind fun y9 =>
        if !y9 then
          some false
        else
          (laws_toIntS fu aPrices).bind fun y10 =>
          (laws_eqIntS fu y6 y10).bind fun y11 =>
          if !y11 then
            some false
          else
            some true
end AT
