/- The Go functions told plainly, by program (gen.py). -/
import Derived.Test.YtijgfgfolkbkoaaAtP4
set_option linter.unusedVariables false
namespace AT
structure Item where
  Kind : Int
  Node : Int
  Count : Int
  deriving DecidableEq

/- loop.example/g00897/laws.szItemS -/
def laws_szItemS (fu : Nat) (a' : List Item) (left : Int) : Option (Int) :=
  if decide ((w64 (left - (a'.length : Int))) < 0) then
    some (-1)
  else
    some (w64 (left - (a'.length : Int)))

/- loop.example/g00897/laws.toItem -/
def laws_toItem (fu : Nat) (a' : Item) : Option (Item) :=
  some a'

/- loop.example/g00897/laws.toItemS -/
def laws_toItemS_L1 (fu : Nat) (a' : List Item) : Nat → List Item → Int → Option (List Item × Int)
  | 0, _, _ => none
  | fk + 1, out', i =>
    if decide (i < (a'.length : Int)) then
      (idx a' i).bind fun e =>
      (laws_toItem fu e).bind fun y =>
      (idx out' i).bind fun e2 =>
      laws_toItemS_L1 fu a' fk (out'.set (i).toNat y) (w64 (i + 1))
    else
      some (out', i)
def laws_toItemS (fu : Nat) (a' : List Item) : Option (List Item) :=
  (mk (({ Kind := 0, Node := 0, Count := 0 } : Item) : Item) (a'.length : Int)).bind fun l =>
  (laws_toItemS_L1 fu a' fu l 0).bind fun z =>
  some z.1

/- loop.example/g00897/spec.l1In -/
def spec_l1In (fu : Nat) (x1 : Int) (a' : Int) (b' : Int) : Option (Bool) :=
  (if decide (x1 ≥ a') then some (decide (x1 ≤ b'))
  else some false).bind fun c =>
  some c

/- loop.example/g00897/spec.l19Before -/
def spec_l19Before (fu : Nat) (a' : Item) (b' : Item) : Option (Bool) :=
  (if decide (a'.Kind < b'.Kind) then some true
  else if a'.Kind == b'.Kind then some (decide (a'.Node < b'.Node))
  else some false).bind fun c =>
  some c

/- loop.example/g00897/spec.l19Bill -/
def spec_l19Bill_L1 (fu : Nat) (bill : List Item) : Nat → Int → Option (Out (Int) (Bool))
  | 0, _ => none
  | fk + 1, i =>
    if decide (i < (bill.length : Int)) then
      (idx bill i).bind fun e =>
      (spec_l1In fu e.Kind 1 4).bind fun y =>
      if !y then some (.ret false)
      else (spec_l1In fu e.Node 0 7).bind fun y2 =>
      if !y2 then some (.ret false)
      else (spec_l1In fu e.Count 1 1000).bind fun y3 =>
      if !y3 then some (.ret false)
      else if decide (i > 0) then (idx bill (w64 (i - 1))).bind fun e2 =>
      (spec_l19Before fu e2 e).bind fun y4 =>
      if !y4 then
        some (.ret false)
      else
        spec_l19Bill_L1 fu bill fk (w64 (i + 1))
      else spec_l19Bill_L1 fu bill fk (w64 (i + 1))
    else
      some (.next i)
def spec_l19Bill (fu : Nat) (bill : List Item) : Option (Bool) :=
  (spec_l19Bill_L1 fu bill fu 0).bind fun out => out.on some fun z =>
  some (decide ((bill.length : Int) ≤ 32))

/- loop.example/g00897/spec.l19Add -/
def spec_l19Add_L1 (fu : Nat) (bill : List Item) (x1 : Item) : Nat → Int → Option (Int)
  | 0, _ => none
  | fk + 1, i =>
    if decide (i < (bill.length : Int)) then (idx bill i).bind fun e =>
    (spec_l19Before fu e x1).bind fun y =>
    if y then
      spec_l19Add_L1 fu bill x1 fk (w64 (i + 1))
    else
      some i
    else some i
def spec_l19Add (fu : Nat) (bill : List Item) (x1 : Item) : Option (List Item) :=
  if x1.Count == 0 then
    some bill
  else
    (spec_l19Add_L1 fu bill x1 fu 0).bind fun z =>
    (sub bill 0 z).bind fun l =>
    (app ([] : List Item) l).bind fun l2 =>
    if decide (z < (bill.length : Int)) then (idx bill z).bind fun e2 =>
    (spec_l19Before fu x1 e2).bind fun y2 =>
    if !y2 then
      (idx bill z).bind fun e3 =>
      (sub bill (w64 (z + 1)) (bill.length : Int)).bind fun l3 =>
      (app l2 [({ Kind := x1.Kind, Node := x1.Node, Count := w64 (x1.Count + e3.Count) } : Item)]).bind fun l4 =>
      (app l4 l3).bind fun l5 =>
      some l5
    else
      (sub bill z (bill.length : Int)).bind fun l6 =>
      (app l2 [x1]).bind fun l7 =>
      (app l7 l6).bind fun l8 =>
      some l8
    else (sub bill z (bill.length : Int)).bind fun l9 =>
    (app l2 [x1]).bind fun l10 =>
    (app l10 l9).bind fun l11 =>
    some l11

/- loop.example/g00897/spec.MergeBills -/
def spec_MergeBills_L1 (fu : Nat) (b' : List Item) : Nat → List Item → Int → Option (List Item × Int)
  | 0, _, _ => none
  | fk + 1, out', i =>
    if decide (i < (b'.length : Int)) then
      (idx b' i).bind fun e =>
      (spec_l19Add fu out' e).bind fun y3 =>
      spec_MergeBills_L1 fu b' fk y3 (w64 (i + 1))
    else
      some (out', i)
def spec_MergeBills (fu : Nat) (a' : List Item) (b' : List Item) : Option (List Item × Bool) :=
  ((spec_l19Bill fu a').bind fun y =>
  if !y then some true
  else (spec_l19Bill fu b').bind fun y2 =>
  some (!y2)).bind fun c3 =>
  if c3 then
    some (([] : List Item), false)
  else
    (app ([] : List Item) a').bind fun l =>
    (spec_MergeBills_L1 fu b' fu l 0).bind fun z =>
    (spec_l19Bill fu z.1).bind fun y4 =>
    if !y4 then
      some (([] : List Item), false)
    else
      some (z.1, true)

/- loop.example/g00897/impl.within -/
def impl_within (fu : Nat) (n' : Int) (low : Int) (high : Int) : Option (Bool) :=
  (if decide (low ≤ n') then some (decide (n' ≤ high))
  else some false).bind fun c =>
  some c

/- loop.example/g00897/impl.isBill -/
def impl_isBill_L1 (fu : Nat) (bill : List Item) : Nat → Int → Option (Out (Int) (Bool))
  | 0, _ => none
  | fk + 1, i =>
    if decide (i < (bill.length : Int)) then
      (idx bill i).bind fun e =>
      ((impl_within fu e.Kind 1 4).bind fun y =>
      if !y then some true
      else (impl_within fu e.Node 0 7).bind fun y2 =>
      if !y2 then some true
      else (impl_within fu e.Count 1 1000).bind fun y3 =>
      some (!y3)).bind fun c2 =>
      if c2 then
        some (.ret false)
      else
        if decide (i > 0) then (idx bill (w64 (i - 1))).bind fun e2 =>
        (idx bill (w64 (i - 1))).bind fun e3 =>
        if decide ((w64 ((w64 (e2.Kind * 8)) + e3.Node)) ≥ (w64 ((w64 (e.Kind * 8)) + e.Node))) then
          some (.ret false)
        else
          impl_isBill_L1 fu bill fk (w64 (i + 1))
        else impl_isBill_L1 fu bill fk (w64 (i + 1))
    else
      some (.next i)
def impl_isBill (fu : Nat) (bill : List Item) : Option (Bool) :=
  (impl_isBill_L1 fu bill fu 0).bind fun out => out.on some fun z =>
  some (decide ((bill.length : Int) ≤ 32))

/- (*loop.example/g00897/impl.tally).add -/
def impl_tally_add_L1 (fu : Nat) (bill : List Item) (factor : Int) : Nat → Int → IA 40 → Option (Int × IA 40)
  | 0, _, _ => none
  | fk + 1, i, m =>
    if decide (i < (bill.length : Int)) then
      (idx bill i).bind fun e =>
      (chk e.Kind 5).bind fun q =>
      (chk e.Node 8).bind fun q2 =>
      (m.get (0 + q * 8 + q2 * 1)).bind fun e2 =>
      (chk e.Kind 5).bind fun q3 =>
      (chk e.Node 8).bind fun q4 =>
      (m.put (0 + q3 * 8 + q4 * 1) (w64 (e2 + (w64 (factor * e.Count))))).bind fun x1 =>
      impl_tally_add_L1 fu bill factor fk (w64 (i + 1)) x1
    else
      some (i, m)
def impl_tally_add (fu : Nat) (t : IA 40) (bill : List Item) (factor : Int) : Option (IA 40) :=
  (impl_tally_add_L1 fu bill factor fu 0 t).bind fun z =>
  some z.2

/- (*loop.example/g00897/impl.tally).bill -/
def impl_tally_bill_L2 (fu : Nat) (z : IA 8) (kind : Int) : Nat → List Item → Int → Option (List Item × Int)
  | 0, _, _ => none
  | fk + 1, out3, i =>
    if decide (i < 8) then
      (idx z.l i).bind fun e =>
      if decide (e > 0) then
        (app out3 [({ Kind := kind, Node := i, Count := e } : Item)]).bind fun l =>
        impl_tally_bill_L2 fu z kind fk l (w64 (i + 1))
      else
        impl_tally_bill_L2 fu z kind fk out3 (w64 (i + 1))
    else
      some (out3, i)
def impl_tally_bill_L1 (fu : Nat) (t : IA 40) : Nat → List Item → Int → Option (List Item × Int)
  | 0, _, _ => none
  | fk + 1, out', kind =>
    if decide (kind ≤ 4) then
      (chk kind 5).bind fun q =>
      (t.part (q * 8) 8).bind fun z =>
      (impl_tally_bill_L2 fu z kind fu out' 0).bind fun z2 =>
      impl_tally_bill_L1 fu t fk z2.1 (w64 (kind + 1))
    else
      some (out', kind)
def impl_tally_bill (fu : Nat) (t : IA 40) : Option (List Item × Bool) :=
  (impl_tally_bill_L1 fu t fu ([] : List Item) 1).bind fun z3 =>
  (impl_isBill fu z3.1).bind fun y =>
  if !y then
    some ([], false)
  else
    some (z3.1, true)

/- loop.example/g00897/impl.MergeBills -/
def impl_MergeBills (fu : Nat) (a' : List Item) (b' : List Item) : Option (List Item × Bool) :=
  ((impl_isBill fu a').bind fun y =>
  if !y then some true
  else (impl_isBill fu b').bind fun y2 =>
  some (!y2)).bind fun c3 =>
  if c3 then
    some ([], false)
  else
    (impl_tally_add fu (⟨[0, 0, 0, 0, 0, 0, 0, 0, 0, 0, 0, 0, 0, 0, 0, 0, 0, 0, 0, 0, 0, 0, 0, 0, 0, 0, 0, 0, 0, 0, 0, 0, 0, 0, 0, 0, 0, 0, 0, 0], rfl⟩ : IA 40) a' 1).bind fun y3 =>
    (impl_tally_add fu y3 b' 1).bind fun y4 =>
    (impl_tally_bill fu y4).bind fun y5 =>
    some (y5.1, y5.2)

/- loop.example/g00897/laws.eqItem -/
def laws_eqItem (fu : Nat) (a' : Item) (b' : Item) : Option (Bool) :=
  if a'.Kind != b'.Kind then
    some false
  else
    if a'.Node != b'.Node then
      some false
    else
      if a'.Count != b'.Count then
        some false
      else
        some true

/- loop.example/g00897/laws.eqItemS -/
def laws_eqItemS_L1 (fu : Nat) (a' : List Item) (b' : List Item) : Nat → Int → Option (Out (Int) (Bool))
  | 0, _ => none
  | fk + 1, i =>
    if decide (i < (a'.length : Int)) then
      (idx a' i).bind fun e =>
      (idx b' i).bind fun e2 =>
      (laws_eqItem fu e e2).bind fun y =>
      if !y then
        some (.ret false)
      else
        laws_eqItemS_L1 fu a' b' fk (w64 (i + 1))
    else
      some (.next i)
def laws_eqItemS (fu : Nat) (a' : List Item) (b' : List Item) : Option (Bool) :=
  if (a'.length : Int) != (b'.length : Int) then
    some false
  else
    (laws_eqItemS_L1 fu a' b' fu 0).bind fun out => out.on some fun z =>
    some true

/- loop.example/g00897/laws.markItemS -/
def laws_markItemS_L1 (fu : Nat) : Nat → List Item → Int → Int → Option (List Item × Int × Int)
  | 0, _, _, _ => none
  | fk + 1, a2, k2, i =>
    if decide (i < (a2.length : Int)) then
      (idx a2 i).bind fun e =>
      (idx (a2.set (i).toNat ({ Kind := k2, Node := e.Node, Count := e.Count } : Item)) i).bind fun e2 =>
      (idx ((a2.set (i).toNat ({ Kind := k2, Node := e.Node, Count := e.Count } : Item)).set (i).toNat ({ Kind := e2.Kind, Node := w64 (k2 + 1), Count := e2.Count } : Item)) i).bind fun e3 =>
      laws_markItemS_L1 fu fk (((a2.set (i).toNat ({ Kind := k2, Node := e.Node, Count := e.Count } : Item)).set (i).toNat ({ Kind := e2.Kind, Node := w64 (k2 + 1), Count := e2.Count } : Item)).set (i).toNat ({ Kind := e3.Kind, Node := e3.Node, Count := w64 ((w64 (k2 + 1)) + 1) } : Item)) (w64 ((w64 ((w64 (k2 + 1)) + 1)) + 1)) (w64 (i + 1))
    else
      some (a2, k2, i)
def laws_markItemS (fu : Nat) (a' : List Item) (k' : Int) : Option (Int × List Item) :=
  (laws_markItemS_L1 fu fu a' k' 0).bind fun z =>
  some (z.2.1, z.1)

/- loop.example/g00897/laws.heldItemS -/
def laws_heldItemS_L1 (fu : Nat) (a' : List Item) : Nat → Int → Int → Option (Out (Int × Int) (Int))
  | 0, _, _ => none
  | fk + 1, k2, i =>
    if decide (i < (a'.length : Int)) then
      (idx a' i).bind fun e =>
      if e.Kind != k2 then
        some (.ret (-1))
      else
        (idx a' i).bind fun e2 =>
        if e2.Node != (w64 (k2 + 1)) then
          some (.ret (-1))
        else
          (idx a' i).bind fun e3 =>
          if e3.Count != (w64 ((w64 (k2 + 1)) + 1)) then
            some (.ret (-1))
          else
            laws_heldItemS_L1 fu a' fk (w64 ((w64 ((w64 (k2 + 1)) + 1)) + 1)) (w64 (i + 1))
    else
      some (.next (k2, i))
def laws_heldItemS (fu : Nat) (a' : List Item) (k' : Int) : Option (Int) :=
  (laws_heldItemS_L1 fu a' fu k' 0).bind fun out => out.on some fun z =>
  some z.1

/- loop.example/g00897/laws.FnExactMergeBills -/
def laws_FnExactMergeBills (fu : Nat) (aA : List Item) (aB : List Item) : Option (Bool) :=
  (laws_szItemS fu aA 1048576).bind fun y =>
  if decide (y < 0) then
    some true
  else
    (laws_szItemS fu aB y).bind fun y2 =>
    if decide (y2 < 0) then
      some true
    else
      (laws_toItemS fu aA).bind fun y3 =>
      (laws_toItemS fu aB).bind fun y4 =>
      (spec_MergeBills fu y3 y4).bind fun y5 =>
      (laws_toItemS fu aA).bind fun y6 =>
      (laws_toItemS fu aB).bind fun y7 =>
      (impl_MergeBills fu y6 y7).bind fun y8 =>
      ((laws_eqItemS fu y8.1 y5.1).bind fun y9 =>
      if !y9 then some true
      else some (y8.2 != y5.2)).bind fun c9 =>
      if c9 then
        some false
      else
        (laws_toItemS fu aA).bind fun y10 =>
        (laws_eqItemS fu y6 y10).bind fun y11 =>
        if !y11 then
          some false
        else
          (laws_toItemS fu aB).bind fun y12 =>
          (laws_eqItemS fu y7 y12).bind fun y13 =>
          if !y13 then
            some false
          else
            (laws_markItemS fu y6 1).bind fun y14 =>
            (laws_markItemS fu y7 y14.1).bind fun y15 =>
            (if decide (y15.1 < 0) then some true
            else (laws_eqItemS fu y8.1 y5.1).bind fun y16 =>
            if !y16 then some true
            else some (y8.2 != y5.2)).bind fun c12 =>
            if c12 then
              some false
            else
              (laws_markItemS fu y8.1 1).bind fun y17 =>
              (laws_heldItemS fu y17.2 1).bind fun y18 =>
              if decide (y18 < 0) then
                some false
              else
                if y18 != y17.1 then
                  some false
                else
                  (laws_toItemS fu aA).bind fun y19 =>
                  (laws_toItemS fu aB).bind fun y20 =>
                  (impl_MergeBills fu y19 y20).bind fun y21 =>
                  ((laws_eqItemS fu y21.1 y5.1).bind fun y22 =>
                  if !y22 then some true
                  else some (y21.2 != y5.2)).bind fun c16 =>
                  if c16 then
                    some false
                  else
                    (laws_heldItemS fu y17.2 1).bind fun y23 =>
                    if decide (y23 < 0) then
                      some false
                    else
                      if y23 != y17.1 then
                        some false
                      else
                        some true
end AT
