/- The Go functions told plainly, by program (gen.py). -/
import Derived.Test.YtokhhjepjbhhpaaGreatAtP4
set_option linter.unusedVariables false
namespace AT
structure Fiber where
  A : Int
  B : Int
  Length : Int
  Risk : Int
  deriving DecidableEq
structure Network where
  Nodes : List ByteArray
  Fibers : List Fiber
  deriving DecidableEq
structure Route where
  Start : Int
  Fibers : List Int
  deriving DecidableEq
structure Block where
  First : Int
  Count : Int
  deriving DecidableEq
structure Light where
  Id : Int
  Route : Route
  Block : Block
  deriving DecidableEq
structure Plan where
  Network : Network
  Lights : List Light
  deriving DecidableEq
structure Item where
  Kind : Int
  Node : Int
  Count : Int
  deriving DecidableEq
structure Request where
  Route : Route
  Count : Int
  deriving DecidableEq
structure Action where
  Kind : Int
  Light : Light
  deriving DecidableEq
structure Change where
  Plan : Plan
  Actions : List Action
  Undo : List Action
  Back : Bool
  deriving DecidableEq

/- loop.example/g00897/laws.szStringS -/
def laws_szStringS_L1 (fu : Nat) (a' : List ByteArray) : Nat → Int → Int → Option (Out (Int × Int) (Int))
  | 0, _, _ => none
  | fk + 1, left2, i =>
    if decide (i < (a'.length : Int)) then
      (idx a' i).bind fun e =>
      if decide ((w64 (left2 - (e.size : Int))) < 0) then
        some (.ret (-1))
      else
        laws_szStringS_L1 fu a' fk (w64 (left2 - (e.size : Int))) (w64 (i + 1))
    else
      some (.next (left2, i))
def laws_szStringS (fu : Nat) (a' : List ByteArray) (left : Int) : Option (Int) :=
  if decide ((w64 (left - (a'.length : Int))) < 0) then
    some (-1)
  else
    (laws_szStringS_L1 fu a' fu (w64 (left - (a'.length : Int))) 0).bind fun out => out.on some fun z =>
    some z.1

/- loop.example/g00897/laws.szFiberS -/
def laws_szFiberS (fu : Nat) (a' : List Fiber) (left : Int) : Option (Int) :=
  if decide ((w64 (left - (a'.length : Int))) < 0) then
    some (-1)
  else
    some (w64 (left - (a'.length : Int)))

/- loop.example/g00897/laws.szNetwork -/
def laws_szNetwork (fu : Nat) (a' : Network) (left : Int) : Option (Int) :=
  (laws_szStringS fu a'.Nodes left).bind fun y =>
  if decide (y < 0) then
    some (-1)
  else
    (laws_szFiberS fu a'.Fibers y).bind fun y2 =>
    if decide (y2 < 0) then
      some (-1)
    else
      some y2

/- loop.example/g00897/laws.szIntS -/
def laws_szIntS (fu : Nat) (a' : List Int) (left : Int) : Option (Int) :=
  if decide ((w64 (left - (a'.length : Int))) < 0) then
    some (-1)
  else
    some (w64 (left - (a'.length : Int)))

/- loop.example/g00897/laws.szRoute -/
def laws_szRoute (fu : Nat) (a' : Route) (left : Int) : Option (Int) :=
  (laws_szIntS fu a'.Fibers left).bind fun y =>
  if decide (y < 0) then
    some (-1)
  else
    some y

/- loop.example/g00897/laws.szLight -/
def laws_szLight (fu : Nat) (a' : Light) (left : Int) : Option (Int) :=
  (laws_szRoute fu a'.Route left).bind fun y =>
  if decide (y < 0) then
    some (-1)
  else
    some y

/- loop.example/g00897/laws.szLightS -/
def laws_szLightS_L1 (fu : Nat) (a' : List Light) : Nat → Int → Int → Option (Out (Int × Int) (Int))
  | 0, _, _ => none
  | fk + 1, left2, i =>
    if decide (i < (a'.length : Int)) then
      (idx a' i).bind fun e =>
      (laws_szLight fu e left2).bind fun y =>
      if decide (y < 0) then
        some (.ret (-1))
      else
        laws_szLightS_L1 fu a' fk y (w64 (i + 1))
    else
      some (.next (left2, i))
def laws_szLightS (fu : Nat) (a' : List Light) (left : Int) : Option (Int) :=
  if decide ((w64 (left - (a'.length : Int))) < 0) then
    some (-1)
  else
    (laws_szLightS_L1 fu a' fu (w64 (left - (a'.length : Int))) 0).bind fun out => out.on some fun z =>
    some z.1

/- loop.example/g00897/laws.szPlan -/
def laws_szPlan (fu : Nat) (a' : Plan) (left : Int) : Option (Int) :=
  (laws_szNetwork fu a'.Network left).bind fun y =>
  if decide (y < 0) then
    some (-1)
  else
    (laws_szLightS fu a'.Lights y).bind fun y2 =>
    if decide (y2 < 0) then
      some (-1)
    else
      some y2

/- loop.example/g00897/laws.toStringS -/
def laws_toStringS_L1 (fu : Nat) (a' : List ByteArray) : Nat → List ByteArray → Int → Option (List ByteArray × Int)
  | 0, _, _ => none
  | fk + 1, out', i =>
    if decide (i < (a'.length : Int)) then
      (idx a' i).bind fun e =>
      (idx out' i).bind fun e2 =>
      laws_toStringS_L1 fu a' fk (out'.set (i).toNat e) (w64 (i + 1))
    else
      some (out', i)
def laws_toStringS (fu : Nat) (a' : List ByteArray) : Option (List ByteArray) :=
  (mk (ByteArray.empty : ByteArray) (a'.length : Int)).bind fun l =>
  (laws_toStringS_L1 fu a' fu l 0).bind fun z =>
  some z.1

/- loop.example/g00897/laws.toFiber -/
def laws_toFiber (fu : Nat) (a' : Fiber) : Option (Fiber) :=
  some a'

/- loop.example/g00897/laws.toFiberS -/
def laws_toFiberS_L1 (fu : Nat) (a' : List Fiber) : Nat → List Fiber → Int → Option (List Fiber × Int)
  | 0, _, _ => none
  | fk + 1, out', i =>
    if decide (i < (a'.length : Int)) then
      (idx a' i).bind fun e =>
      (laws_toFiber fu e).bind fun y =>
      (idx out' i).bind fun e2 =>
      laws_toFiberS_L1 fu a' fk (out'.set (i).toNat y) (w64 (i + 1))
    else
      some (out', i)
def laws_toFiberS (fu : Nat) (a' : List Fiber) : Option (List Fiber) :=
  (mk (({ A := 0, B := 0, Length := 0, Risk := 0 } : Fiber) : Fiber) (a'.length : Int)).bind fun l =>
  (laws_toFiberS_L1 fu a' fu l 0).bind fun z =>
  some z.1

/- loop.example/g00897/laws.toNetwork -/
def laws_toNetwork (fu : Nat) (a' : Network) : Option (Network) :=
  (laws_toStringS fu a'.Nodes).bind fun y =>
  (laws_toFiberS fu a'.Fibers).bind fun y2 =>
  some ({ Nodes := y, Fibers := y2 } : Network)

/- loop.example/g00897/laws.toIntS -/
def laws_toIntS_L1 (fu : Nat) (a' : List Int) : Nat → List Int → Int → Option (List Int × Int)
  | 0, _, _ => none
  | fk + 1, out', i =>
    if decide (i < (a'.length : Int)) then
      (idx a' i).bind fun e =>
      (idx out' i).bind fun e2 =>
      laws_toIntS_L1 fu a' fk (out'.set (i).toNat e) (w64 (i + 1))
    else
      some (out', i)
def laws_toIntS (fu : Nat) (a' : List Int) : Option (List Int) :=
  (mk (0 : Int) (a'.length : Int)).bind fun l =>
  (laws_toIntS_L1 fu a' fu l 0).bind fun z =>
  some z.1

/- loop.example/g00897/laws.toRoute -/
def laws_toRoute (fu : Nat) (a' : Route) : Option (Route) :=
  (laws_toIntS fu a'.Fibers).bind fun y =>
  some ({ Start := a'.Start, Fibers := y } : Route)

/- loop.example/g00897/laws.toBlock -/
def laws_toBlock (fu : Nat) (a' : Block) : Option (Block) :=
  some a'

/- loop.example/g00897/laws.toLight -/
def laws_toLight (fu : Nat) (a' : Light) : Option (Light) :=
  (laws_toRoute fu a'.Route).bind fun y =>
  (laws_toBlock fu a'.Block).bind fun y2 =>
  some ({ Id := a'.Id, Route := y, Block := y2 } : Light)

/- loop.example/g00897/laws.toLightS -/
def laws_toLightS_L1 (fu : Nat) (a' : List Light) : Nat → List Light → Int → Option (List Light × Int)
  | 0, _, _ => none
  | fk + 1, out', i =>
    if decide (i < (a'.length : Int)) then
      (idx a' i).bind fun e =>
      (laws_toLight fu e).bind fun y =>
      (idx out' i).bind fun e2 =>
      laws_toLightS_L1 fu a' fk (out'.set (i).toNat y) (w64 (i + 1))
    else
      some (out', i)
def laws_toLightS (fu : Nat) (a' : List Light) : Option (List Light) :=
  (mk (({ Id := 0, Route := ({ Start := 0, Fibers := [] } : Route), Block := ({ First := 0, Count := 0 } : Block) } : Light) : Light) (a'.length : Int)).bind fun l =>
  (laws_toLightS_L1 fu a' fu l 0).bind fun z =>
  some z.1

/- loop.example/g00897/laws.toPlan -/
def laws_toPlan (fu : Nat) (a' : Plan) : Option (Plan) :=
  (laws_toNetwork fu a'.Network).bind fun y =>
  (laws_toLightS fu a'.Lights).bind fun y2 =>
  some ({ Network := y, Lights := y2 } : Plan)

/- loop.example/g00897/spec.l1In -/
def spec_l1In (fu : Nat) (x1 : Int) (a' : Int) (b' : Int) : Option (Bool) :=
  (if decide (x1 ≥ a') then some (decide (x1 ≤ b'))
  else some false).bind fun c =>
  some c

/- loop.example/g00897/spec.l2Sign -/
def spec_l2Sign (fu : Nat) (b' : By) : Option (Bool) :=
  (if decide (b'.n ≥ 97) then if decide (b'.n ≤ 122) then some true
  else if decide (b'.n ≥ 48) then some (decide (b'.n ≤ 57))
  else some false
  else if decide (b'.n ≥ 48) then some (decide (b'.n ≤ 57))
  else some false).bind fun c =>
  some c

/- loop.example/g00897/spec.l2Name -/
def spec_l2Name_L1 (fu : Nat) (s' : ByteArray) : Nat → Int → Option (Out (Int) (Bool))
  | 0, _ => none
  | fk + 1, i =>
    if decide (i < (s'.size : Int)) then
      (sidx s' i).bind fun e3 =>
      (spec_l2Sign fu e3).bind fun y2 =>
      if !y2 then
        some (.ret false)
      else
        spec_l2Name_L1 fu s' fk (w64 (i + 1))
    else
      some (.next i)
def spec_l2Name (fu : Nat) (s' : ByteArray) : Option (Bool) :=
  ((spec_l1In fu (s'.size : Int) 1 8).bind fun y =>
  if !y then some true
  else (sidx s' 0).bind fun e =>
  if decide (e.n < 97) then some true
  else (sidx s' 0).bind fun e2 =>
  some (decide (e2.n > 122))).bind fun c =>
  if c then
    some false
  else
    (spec_l2Name_L1 fu s' fu 0).bind fun out => out.on some fun z =>
    some true

/- loop.example/g00897/spec.l2Find -/
def spec_l2Find_L1 (fu : Nat) (list : List ByteArray) (name : ByteArray) : Nat → Int → Option (Out (Int) (Int))
  | 0, _ => none
  | fk + 1, i =>
    if decide (i < (list.length : Int)) then
      (idx list i).bind fun e =>
      if e.toList == name.toList then
        some (.ret i)
      else
        spec_l2Find_L1 fu list name fk (w64 (i + 1))
    else
      some (.next i)
def spec_l2Find (fu : Nat) (list : List ByteArray) (name : ByteArray) : Option (Int) :=
  (spec_l2Find_L1 fu list name fu 0).bind fun out => out.on some fun z =>
  some (-1)

/- loop.example/g00897/spec.l2Fiber -/
def spec_l2Fiber (fu : Nat) (f : Fiber) (nodes : Int) : Option (Bool) :=
  ((spec_l1In fu f.A 0 (w64 (nodes - 1))).bind fun y =>
  if y then (spec_l1In fu f.B (w64 (f.A + 1)) (w64 (nodes - 1))).bind fun y2 =>
  if y2 then (spec_l1In fu f.Length 1 5000).bind fun y3 =>
  if y3 then (spec_l1In fu f.Risk 0 9).bind fun y4 =>
  some y4
  else some false
  else some false
  else some false).bind fun c =>
  some c

/- loop.example/g00897/spec.l2Before -/
def spec_l2Before (fu : Nat) (f : Fiber) (g' : Fiber) : Option (Int) :=
  if f.A != g'.A then
    some (w64 (f.A - g'.A))
  else
    if f.B != g'.B then
      some (w64 (f.B - g'.B))
    else
      if f.Length != g'.Length then
        some (w64 (f.Length - g'.Length))
      else
        some (w64 (f.Risk - g'.Risk))

/- loop.example/g00897/spec.l2Good -/
def spec_l2Good_L1 (fu : Nat) (n' : Network) : Nat → Int → Option (Out (Int) (Bool))
  | 0, _ => none
  | fk + 1, i =>
    if decide (i < (n'.Nodes.length : Int)) then
      ((idx n'.Nodes i).bind fun e =>
      (spec_l2Name fu e).bind fun y2 =>
      if !y2 then some true
      else (idx n'.Nodes i).bind fun e2 =>
      (spec_l2Find fu n'.Nodes e2).bind fun y3 =>
      some (y3 != i)).bind fun c4 =>
      if c4 then
        some (.ret false)
      else
        spec_l2Good_L1 fu n' fk (w64 (i + 1))
    else
      some (.next i)
def spec_l2Good_L2 (fu : Nat) (n' : Network) : Nat → Int → Option (Out (Int) (Bool))
  | 0, _ => none
  | fk + 1, i3 =>
    if decide (i3 < (n'.Fibers.length : Int)) then
      ((idx n'.Fibers i3).bind fun e3 =>
      (spec_l2Fiber fu e3 (n'.Nodes.length : Int)).bind fun y4 =>
      if !y4 then some true
      else if decide (i3 > 0) then (idx n'.Fibers (w64 (i3 - 1))).bind fun e4 =>
      (idx n'.Fibers i3).bind fun e5 =>
      (spec_l2Before fu e4 e5).bind fun y5 =>
      some (decide (y5 > 0))
      else some false).bind fun c5 =>
      if c5 then
        some (.ret false)
      else
        spec_l2Good_L2 fu n' fk (w64 (i3 + 1))
    else
      some (.next i3)
def spec_l2Good (fu : Nat) (n' : Network) : Option (Bool) :=
  ((spec_l1In fu (n'.Nodes.length : Int) 2 8).bind fun y =>
  if !y then some true
  else some (decide ((n'.Fibers.length : Int) > 14))).bind fun c3 =>
  if c3 then
    some false
  else
    (spec_l2Good_L1 fu n' fu 0).bind fun out => out.on some fun z2 =>
    (spec_l2Good_L2 fu n' fu 0).bind fun out => out.on some fun z =>
    some true

/- loop.example/g00897/spec.l2Other -/
def spec_l2Other (fu : Nat) (n' : Network) (fiber : Int) (node : Int) : Option (Int) :=
  (idx n'.Fibers fiber).bind fun e =>
  if node == e.A then
    some e.B
  else
    if node == e.B then
      some e.A
    else
      some (-1)

/- loop.example/g00897/spec.l1Has -/
def spec_l1Has_L1 (fu : Nat) (l : List Int) (n' : Int) : Nat → Int → Option (Out (Int) (Bool))
  | 0, _ => none
  | fk + 1, i =>
    if decide (i < (l.length : Int)) then
      (idx l i).bind fun e =>
      if e == n' then
        some (.ret true)
      else
        spec_l1Has_L1 fu l n' fk (w64 (i + 1))
    else
      some (.next i)
def spec_l1Has (fu : Nat) (l : List Int) (n' : Int) : Option (Bool) :=
  (spec_l1Has_L1 fu l n' fu 0).bind fun out => out.on some fun z =>
  some false

/- loop.example/g00897/spec.l4Walk -/
def spec_l4Walk_L1 (fu : Nat) (n' : Network) (r' : Route) : Nat → List Int → Int → Option (Out (List Int × Int) (List Int × Bool))
  | 0, _, _ => none
  | fk + 1, out', i =>
    if decide (i < (r'.Fibers.length : Int)) then
      (idx r'.Fibers i).bind fun e =>
      (spec_l1In fu e 0 (w64 ((n'.Fibers.length : Int) - 1))).bind fun y2 =>
      if !y2 then
        some (.ret (out', false))
      else
        (idx r'.Fibers i).bind fun e2 =>
        (idx out' (w64 ((out'.length : Int) - 1))).bind fun e3 =>
        (spec_l2Other fu n' e2 e3).bind fun y3 =>
        (if decide (y3 < 0) then some true
        else (spec_l1Has fu out' y3).bind fun y4 =>
        some y4).bind fun c6 =>
        if c6 then
          some (.ret (out', false))
        else
          (app out' [y3]).bind fun l =>
          spec_l4Walk_L1 fu n' r' fk l (w64 (i + 1))
    else
      some (.next (out', i))
def spec_l4Walk (fu : Nat) (n' : Network) (r' : Route) : Option (List Int × Bool) :=
  ((spec_l1In fu r'.Start 0 (w64 ((n'.Nodes.length : Int) - 1))).bind fun y =>
  if !y then some true
  else some ((r'.Fibers.length : Int) == 0)).bind fun c4 =>
  if c4 then
    some ([r'.Start], false)
  else
    (spec_l4Walk_L1 fu n' r' fu [r'.Start] 0).bind fun out => out.on some fun z =>
    some (z.1, true)

/- loop.example/g00897/spec.l4Good -/
def spec_l4Good (fu : Nat) (n' : Network) (r' : Route) : Option (Bool) :=
  (spec_l2Good fu n').bind fun y =>
  if !y then
    some false
  else
    (spec_l4Walk fu n' r').bind fun y2 =>
    some y2.2

/- loop.example/g00897/spec.l8Good -/
def spec_l8Good (fu : Nat) (b' : Block) : Option (Bool) :=
  ((spec_l1In fu b'.First 0 23).bind fun y =>
  if y then (spec_l1In fu b'.Count 1 (w64 (24 - b'.First))).bind fun y2 =>
  some y2
  else some false).bind fun c =>
  some c

/- loop.example/g00897/spec.l9Light -/
def spec_l9Light (fu : Nat) (n' : Network) (x1 : Light) : Option (Bool) :=
  ((spec_l1In fu x1.Id 1 999).bind fun y =>
  if y then (spec_l4Good fu n' x1.Route).bind fun y2 =>
  if y2 then (spec_l8Good fu x1.Block).bind fun y3 =>
  some y3
  else some false
  else some false).bind fun c4 =>
  some c4

/- loop.example/g00897/spec.l4Uses -/
def spec_l4Uses_L1 (fu : Nat) (r' : Route) (group : List Int) : Nat → Int → Option (Out (Int) (Bool))
  | 0, _ => none
  | fk + 1, i =>
    if decide (i < (r'.Fibers.length : Int)) then
      (idx r'.Fibers i).bind fun e =>
      (spec_l1Has fu group e).bind fun y =>
      if y then
        some (.ret true)
      else
        spec_l4Uses_L1 fu r' group fk (w64 (i + 1))
    else
      some (.next i)
def spec_l4Uses (fu : Nat) (r' : Route) (group : List Int) : Option (Bool) :=
  (spec_l4Uses_L1 fu r' group fu 0).bind fun out => out.on some fun z =>
  some false

/- loop.example/g00897/spec.l8Bits -/
def spec_l8Bits (fu : Nat) (b' : Block) : Option (Int) :=
  (shl 1 (wu64 b'.Count)).bind fun q =>
  (shl (w64 (q - 1)) (wu64 b'.First)).bind fun q2 =>
  some q2

/- loop.example/g00897/spec.l9Collide -/
def spec_l9Collide (fu : Nat) (x1 : Light) (y : Light) : Option (Bool) :=
  ((spec_l4Uses fu x1.Route y.Route.Fibers).bind fun y2 =>
  if y2 then (spec_l8Bits fu x1.Block).bind fun y3 =>
  (spec_l8Bits fu y.Block).bind fun y4 =>
  some ((band y3 y4) != 0)
  else some false).bind fun c3 =>
  some c3

/- loop.example/g00897/spec.l9Good -/
def spec_l9Good_L2 (fu : Nat) (p : Plan) (i : Int) : Nat → Int → Option (Out (Int) (Bool))
  | 0, _ => none
  | fk + 1, k' =>
    if decide (k' < i) then
      (idx p.Lights k').bind fun e4 =>
      (idx p.Lights i).bind fun e5 =>
      (spec_l9Collide fu e4 e5).bind fun y3 =>
      if y3 then
        some (.ret false)
      else
        spec_l9Good_L2 fu p i fk (w64 (k' + 1))
    else
      some (.next k')
def spec_l9Good_L1 (fu : Nat) (p : Plan) : Nat → Int → Option (Out (Int) (Bool))
  | 0, _ => none
  | fk + 1, i =>
    if decide (i < (p.Lights.length : Int)) then
      ((idx p.Lights i).bind fun e =>
      (spec_l9Light fu p.Network e).bind fun y2 =>
      if !y2 then some true
      else if decide (i > 0) then (idx p.Lights (w64 (i - 1))).bind fun e2 =>
      (idx p.Lights i).bind fun e3 =>
      some (decide (e2.Id ≥ e3.Id))
      else some false).bind fun c5 =>
      if c5 then
        some (.ret false)
      else
        (spec_l9Good_L2 fu p i fu 0).bind fun out => out.on (fun r => some (.ret r)) fun z =>
        spec_l9Good_L1 fu p fk (w64 (i + 1))
    else
      some (.next i)
def spec_l9Good (fu : Nat) (p : Plan) : Option (Bool) :=
  ((spec_l2Good fu p.Network).bind fun y =>
  if !y then some true
  else some (decide ((p.Lights.length : Int) > 12))).bind fun c4 =>
  if c4 then
    some false
  else
    (spec_l9Good_L1 fu p fu 0).bind fun out => out.on some fun z2 =>
    some true

/- loop.example/g00897/spec.l9Find -/
def spec_l9Find_L1 (fu : Nat) (p : Plan) (id : Int) : Nat → Int → Option (Out (Int) (Int))
  | 0, _ => none
  | fk + 1, i =>
    if decide (i < (p.Lights.length : Int)) then
      (idx p.Lights i).bind fun e =>
      if e.Id == id then
        some (.ret i)
      else
        spec_l9Find_L1 fu p id fk (w64 (i + 1))
    else
      some (.next i)
def spec_l9Find (fu : Nat) (p : Plan) (id : Int) : Option (Int) :=
  (spec_l9Find_L1 fu p id fu 0).bind fun out => out.on some fun z =>
  some (-1)

/- loop.example/g00897/spec.l2Own -/
def spec_l2Own (fu : Nat) (n' : Network) : Option (Network) :=
  (app ([] : List ByteArray) n'.Nodes).bind fun l =>
  (app ([] : List Fiber) n'.Fibers).bind fun l2 =>
  some ({ Nodes := l, Fibers := l2 } : Network)

/- loop.example/g00897/spec.l1Own -/
def spec_l1Own (fu : Nat) (l : List Int) : Option (List Int) :=
  (app ([] : List Int) l).bind fun l2 =>
  some l2

/- loop.example/g00897/spec.l4Own -/
def spec_l4Own (fu : Nat) (r' : Route) : Option (Route) :=
  (spec_l1Own fu r'.Fibers).bind fun y =>
  some ({ Start := r'.Start, Fibers := y } : Route)

/- loop.example/g00897/spec.l9Copy -/
def spec_l9Copy (fu : Nat) (x1 : Light) : Option (Light) :=
  (spec_l4Own fu x1.Route).bind fun y =>
  some ({ Id := x1.Id, Route := y, Block := x1.Block } : Light)

/- loop.example/g00897/spec.l9Own -/
def spec_l9Own_L1 (fu : Nat) (p : Plan) : Nat → Int → List Light → Option (Int × List Light)
  | 0, _, _ => none
  | fk + 1, i, m =>
    if decide (i < (p.Lights.length : Int)) then
      (idx p.Lights i).bind fun e =>
      (spec_l9Copy fu e).bind fun y2 =>
      (app m [y2]).bind fun l =>
      spec_l9Own_L1 fu p fk (w64 (i + 1)) l
    else
      some (i, m)
def spec_l9Own (fu : Nat) (p : Plan) : Option (Plan) :=
  (spec_l2Own fu p.Network).bind fun y =>
  (spec_l9Own_L1 fu p fu 0 ([] : List Light)).bind fun z =>
  some ({ Network := y, Lights := z.2 } : Plan)

/- loop.example/g00897/spec.l9Without -/
def spec_l9Without (fu : Nat) (p : Plan) (i : Int) : Option (Plan) :=
  (spec_l9Own fu p).bind fun y =>
  (sub y.Lights 0 i).bind fun l =>
  (sub y.Lights (w64 (i + 1)) (y.Lights.length : Int)).bind fun l2 =>
  (app ([] : List Light) l).bind fun l3 =>
  (app l3 l2).bind fun l4 =>
  some ({ Network := y.Network, Lights := l4 } : Plan)

/- loop.example/g00897/spec.l9Used -/
def spec_l9Used_L1 (fu : Nat) (p : Plan) (fiber : Int) : Nat → Int → Int → Option (Int × Int)
  | 0, _, _ => none
  | fk + 1, out', i =>
    if decide (i < (p.Lights.length : Int)) then
      (idx p.Lights i).bind fun e =>
      (spec_l1Has fu e.Route.Fibers fiber).bind fun y =>
      if y then
        (idx p.Lights i).bind fun e2 =>
        (spec_l8Bits fu e2.Block).bind fun y2 =>
        spec_l9Used_L1 fu p fiber fk (bor out' y2) (w64 (i + 1))
      else
        spec_l9Used_L1 fu p fiber fk out' (w64 (i + 1))
    else
      some (out', i)
def spec_l9Used (fu : Nat) (p : Plan) (fiber : Int) : Option (Int) :=
  (spec_l9Used_L1 fu p fiber fu 0 0).bind fun z =>
  some z.1

/- loop.example/g00897/spec.l9Along -/
def spec_l9Along_L1 (fu : Nat) (p : Plan) (r' : Route) : Nat → Int → Int → Option (Int × Int)
  | 0, _, _ => none
  | fk + 1, out', i =>
    if decide (i < (r'.Fibers.length : Int)) then
      (idx r'.Fibers i).bind fun e =>
      (spec_l9Used fu p e).bind fun y =>
      spec_l9Along_L1 fu p r' fk (bor out' y) (w64 (i + 1))
    else
      some (out', i)
def spec_l9Along (fu : Nat) (p : Plan) (r' : Route) : Option (Int) :=
  (spec_l9Along_L1 fu p r' fu 0 0).bind fun z =>
  some z.1

/- loop.example/g00897/spec.l8Fits -/
def spec_l8Fits_L1 (fu : Nat) (mask : Int) (count : Int) : Nat → List Int → Int → Option (List Int × Int)
  | 0, _, _ => none
  | fk + 1, out', s' =>
    if decide ((w64 (s' + count)) ≤ 24) then
      (spec_l8Bits fu ({ First := s', Count := count } : Block)).bind fun y =>
      if (band mask y) == 0 then
        (app out' [s']).bind fun l =>
        spec_l8Fits_L1 fu mask count fk l (w64 (s' + 1))
      else
        spec_l8Fits_L1 fu mask count fk out' (w64 (s' + 1))
    else
      some (out', s')
def spec_l8Fits (fu : Nat) (mask : Int) (count : Int) : Option (List Int) :=
  (spec_l8Fits_L1 fu mask count fu ([] : List Int) 0).bind fun z =>
  some z.1

/- loop.example/g00897/spec.l21Lowest -/
def spec_l21Lowest_L1 (fu : Nat) (hitless : Bool) (e : Light) (y3 : List Int) : Nat → Int → Option (Out (Int) (Int))
  | 0, _ => none
  | fk + 1, k' =>
    (if decide (k' < (y3.length : Int)) then (idx y3 k').bind fun e2 =>
    some (decide (e2 < e.Block.First))
    else some false).bind fun c9 =>
    if c9 then
      (if !hitless then some true
      else (idx y3 k').bind fun e3 =>
      some (decide ((w64 (e3 + e.Block.Count)) ≤ e.Block.First))).bind fun c10 =>
      if c10 then
        (idx y3 k').bind fun e4 =>
        some (.ret e4)
      else
        spec_l21Lowest_L1 fu hitless e y3 fk (w64 (k' + 1))
    else
      some (.next k')
def spec_l21Lowest (fu : Nat) (p : Plan) (i : Int) (hitless : Bool) : Option (Int) :=
  (idx p.Lights i).bind fun e =>
  (spec_l9Without fu p i).bind fun y =>
  (spec_l9Along fu y e.Route).bind fun y2 =>
  (spec_l8Fits fu y2 e.Block.Count).bind fun y3 =>
  (spec_l21Lowest_L1 fu hitless e y3 fu 0).bind fun out => out.on some fun z =>
  some e.Block.First

/- loop.example/g00897/spec.LowestFirst -/
def spec_LowestFirst (fu : Nat) (p : Plan) (id : Int) (hitless : Bool) : Option (Int × Bool) :=
  ((spec_l9Good fu p).bind fun y =>
  if !y then some true
  else (spec_l9Find fu p id).bind fun y2 =>
  some (decide (y2 < 0))).bind fun c4 =>
  if c4 then
    some (0, false)
  else
    (spec_l9Find fu p id).bind fun y3 =>
    (spec_l21Lowest fu p y3 hitless).bind fun y4 =>
    some (y4, true)

/- loop.example/g00897/impl.lightAt$1 -/
def impl_lightAt_c1 (fu : Nat) (x1 : Light) (cap : Int) : Option (Bool) :=
  some (x1.Id == cap)

/- slices.IndexFunc[[]loop.example/g00897/impl.Light,loop.example/g00897/impl.Light] -/
def slices_IndexFunc_impl_Light_impl_Light_of_lightAt_c1_L1 (fu : Nat) (s' : List Light) (cap : Int) : Nat → Int → Option (Out (Int) (Int))
  | 0, _ => none
  | fk + 1, i =>
    if decide (i < (s'.length : Int)) then
      (idx s' i).bind fun e =>
      (impl_lightAt_c1 fu e cap).bind fun y =>
      if y then
        some (.ret i)
      else
        slices_IndexFunc_impl_Light_impl_Light_of_lightAt_c1_L1 fu s' cap fk (w64 (i + 1))
    else
      some (.next i)
def slices_IndexFunc_impl_Light_impl_Light_of_lightAt_c1 (fu : Nat) (s' : List Light) (cap : Int) : Option (Int) :=
  (slices_IndexFunc_impl_Light_impl_Light_of_lightAt_c1_L1 fu s' cap fu 0).bind fun out => out.on some fun z =>
  some (-1)

/- loop.example/g00897/impl.lightAt -/
def impl_lightAt (fu : Nat) (p : Plan) (id : Int) : Option (Int) :=
  (slices_IndexFunc_impl_Light_impl_Light_of_lightAt_c1 fu p.Lights id).bind fun y =>
  some y

/- loop.example/g00897/impl.within -/
def impl_within (fu : Nat) (n' : Int) (low : Int) (high : Int) : Option (Bool) :=
  (if decide (low ≤ n') then some (decide (n' ≤ high))
  else some false).bind fun c =>
  some c

/- loop.example/g00897/impl.isName -/
def impl_isName_L1 (fu : Nat) (s' : ByteArray) : Nat → Int → Option (Out (Int) (Bool))
  | 0, _ => none
  | fk + 1, i =>
    if decide (i < (s'.size : Int)) then
      (sidx s' i).bind fun e =>
      (sidx s' i).bind fun e2 =>
      if decide (e.n ≥ 97) then (sidx s' i).bind fun e3 =>
      if decide (e2.n ≥ 48) then (sidx s' i).bind fun e4 =>
      (if !(decide (e3.n ≤ 122)) then if !(decide (e4.n ≤ 57)) then some true
      else some (i == 0)
      else some false).bind fun c =>
      if c then
        some (.ret false)
      else
        impl_isName_L1 fu s' fk (w64 (i + 1))
      else (if !(decide (e3.n ≤ 122)) then if !false then some true
      else some (i == 0)
      else some false).bind fun c2 =>
      if c2 then
        some (.ret false)
      else
        impl_isName_L1 fu s' fk (w64 (i + 1))
      else if decide (e2.n ≥ 48) then (sidx s' i).bind fun e5 =>
      (if !false then if !(decide (e5.n ≤ 57)) then some true
      else some (i == 0)
      else some false).bind fun c3 =>
      if c3 then
        some (.ret false)
      else
        impl_isName_L1 fu s' fk (w64 (i + 1))
      else (if !false then if !false then some true
      else some (i == 0)
      else some false).bind fun c4 =>
      if c4 then
        some (.ret false)
      else
        impl_isName_L1 fu s' fk (w64 (i + 1))
    else
      some (.next i)
def impl_isName (fu : Nat) (s' : ByteArray) : Option (Bool) :=
  (impl_isName_L1 fu s' fu 0).bind fun out => out.on some fun z =>
  (impl_within fu (s'.size : Int) 1 8).bind fun y =>
  some y

/- slices.Index[[]string,string] -/
def slices_Index_string_string_L1 (fu : Nat) (s' : List ByteArray) (v : ByteArray) : Nat → Int → Option (Out (Int) (Int))
  | 0, _ => none
  | fk + 1, i =>
    if decide (i < (s'.length : Int)) then
      (idx s' i).bind fun e =>
      if v.toList == e.toList then
        some (.ret i)
      else
        slices_Index_string_string_L1 fu s' v fk (w64 (i + 1))
    else
      some (.next i)
def slices_Index_string_string (fu : Nat) (s' : List ByteArray) (v : ByteArray) : Option (Int) :=
  (slices_Index_string_string_L1 fu s' v fu 0).bind fun out => out.on some fun z =>
  some (-1)

/- slices.Contains[[]string,string] -/
def slices_Contains_string_string (fu : Nat) (s' : List ByteArray) (v : ByteArray) : Option (Bool) :=
  (slices_Index_string_string fu s' v).bind fun y =>
  some (decide (y ≥ 0))

/- cmp.isNaN[int] -/
def cmp_isNaN_int (fu : Nat) (x1 : Int) : Option (Bool) :=
  some (x1 != x1)

/- cmp.Compare[int] -/
def cmp_Compare_int (fu : Nat) (x1 : Int) (y : Int) : Option (Int) :=
  (cmp_isNaN_int fu x1).bind fun y2 =>
  (cmp_isNaN_int fu y).bind fun y3 =>
  if y2 then
    if y3 then
      some 0
    else
      some (-1)
  else
    if y3 then
      some 1
    else
      if decide (x1 < y) then
        some (-1)
      else
        if decide (x1 > y) then
          some 1
        else
          some 0

/- cmp.Or[int] -/
def cmp_Or_int_L1 (fu : Nat) (vals : List Int) : Nat → Int → Option (Out (Int) (Int))
  | 0, _ => none
  | fk + 1, i =>
    if decide (i < (vals.length : Int)) then
      (idx vals i).bind fun e =>
      if e != 0 then
        some (.ret e)
      else
        cmp_Or_int_L1 fu vals fk (w64 (i + 1))
    else
      some (.next i)
def cmp_Or_int (fu : Nat) (vals : List Int) : Option (Int) :=
  (cmp_Or_int_L1 fu vals fu 0).bind fun out => out.on some fun z =>
  some 0

/- loop.example/g00897/impl.compareFibers -/
def impl_compareFibers (fu : Nat) (a' : Fiber) (b' : Fiber) : Option (Int) :=
  (cmp_Compare_int fu a'.A b'.A).bind fun y =>
  (cmp_Compare_int fu a'.B b'.B).bind fun y2 =>
  (cmp_Compare_int fu a'.Length b'.Length).bind fun y3 =>
  (cmp_Compare_int fu a'.Risk b'.Risk).bind fun y4 =>
  (cmp_Or_int fu [y, y2, y3, y4]).bind fun y5 =>
  some y5

/- loop.example/g00897/impl.IsValidNetwork -/
def impl_IsValidNetwork_L1 (fu : Nat) (n' : Network) : Nat → Int → Option (Out (Int) (Bool))
  | 0, _ => none
  | fk + 1, i =>
    if decide (i < (n'.Nodes.length : Int)) then
      (idx n'.Nodes i).bind fun e =>
      ((impl_isName fu e).bind fun y =>
      if !y then some true
      else (sub n'.Nodes 0 i).bind fun l =>
      (slices_Contains_string_string fu l e).bind fun y2 =>
      some y2).bind fun c3 =>
      if c3 then
        some (.ret false)
      else
        impl_IsValidNetwork_L1 fu n' fk (w64 (i + 1))
    else
      some (.next i)
def impl_IsValidNetwork_L2 (fu : Nat) (n' : Network) : Nat → Int → Option (Out (Int) (Bool))
  | 0, _ => none
  | fk + 1, i3 =>
    if decide (i3 < (n'.Fibers.length : Int)) then
      (idx n'.Fibers i3).bind fun e2 =>
      (if decide (e2.A < 0) then some true
      else if decide (e2.A ≥ e2.B) then some true
      else if decide (e2.B ≥ (n'.Nodes.length : Int)) then some true
      else (impl_within fu e2.Length 1 5000).bind fun y3 =>
      if !y3 then some true
      else (impl_within fu e2.Risk 0 9).bind fun y4 =>
      if !y4 then some true
      else if decide (i3 > 0) then (idx n'.Fibers (w64 (i3 - 1))).bind fun e3 =>
      (impl_compareFibers fu e3 e2).bind fun y5 =>
      some (decide (y5 > 0))
      else some false).bind fun c5 =>
      if c5 then
        some (.ret false)
      else
        impl_IsValidNetwork_L2 fu n' fk (w64 (i3 + 1))
    else
      some (.next i3)
def impl_IsValidNetwork (fu : Nat) (n' : Network) : Option (Bool) :=
  (impl_IsValidNetwork_L1 fu n' fu 0).bind fun out => out.on some fun z2 =>
  (impl_IsValidNetwork_L2 fu n' fu 0).bind fun out => out.on some fun z =>
  ((impl_within fu (n'.Nodes.length : Int) 2 8).bind fun y6 =>
  if y6 then some (decide ((n'.Fibers.length : Int) ≤ 14))
  else some false).bind fun c6 =>
  some c6

/- loop.example/g00897/impl.otherEnd -/
def impl_otherEnd (fu : Nat) (f : Fiber) (node : Int) : Option (Int) :=
  if node == f.A then
    some f.B
  else
    if node == f.B then
      some f.A
    else
      some (-1)

/- slices.Index[[]int,int] -/
def slices_Index_int_int_L1 (fu : Nat) (s' : List Int) (v : Int) : Nat → Int → Option (Out (Int) (Int))
  | 0, _ => none
  | fk + 1, i =>
    if decide (i < (s'.length : Int)) then
      (idx s' i).bind fun e =>
      if v == e then
        some (.ret i)
      else
        slices_Index_int_int_L1 fu s' v fk (w64 (i + 1))
    else
      some (.next i)
def slices_Index_int_int (fu : Nat) (s' : List Int) (v : Int) : Option (Int) :=
  (slices_Index_int_int_L1 fu s' v fu 0).bind fun out => out.on some fun z =>
  some (-1)

/- slices.Contains[[]int,int] -/
def slices_Contains_int_int (fu : Nat) (s' : List Int) (v : Int) : Option (Bool) :=
  (slices_Index_int_int fu s' v).bind fun y =>
  some (decide (y ≥ 0))

/- loop.example/g00897/impl.visited -/
def impl_visited_L1 (fu : Nat) (n' : Network) (r' : Route) : Nat → List Int → Int → Int → Option (Out (List Int × Int × Int) (List Int × Bool))
  | 0, _, _, _ => none
  | fk + 1, out', at', i =>
    if decide (i < (r'.Fibers.length : Int)) then
      (idx r'.Fibers i).bind fun e =>
      (impl_within fu e 0 (w64 ((n'.Fibers.length : Int) - 1))).bind fun y2 =>
      if !y2 then
        some (.ret ([], false))
      else
        (idx n'.Fibers e).bind fun e2 =>
        (impl_otherEnd fu e2 at').bind fun y3 =>
        (if decide (y3 < 0) then some true
        else (slices_Contains_int_int fu out' y3).bind fun y4 =>
        some y4).bind fun c6 =>
        if c6 then
          some (.ret ([], false))
        else
          (app out' [y3]).bind fun l =>
          impl_visited_L1 fu n' r' fk l y3 (w64 (i + 1))
    else
      some (.next (out', at', i))
def impl_visited (fu : Nat) (n' : Network) (r' : Route) : Option (List Int × Bool) :=
  ((impl_within fu r'.Start 0 (w64 ((n'.Nodes.length : Int) - 1))).bind fun y =>
  if !y then some true
  else some ((r'.Fibers.length : Int) == 0)).bind fun c4 =>
  if c4 then
    some ([], false)
  else
    (impl_visited_L1 fu n' r' fu [r'.Start] r'.Start 0).bind fun out => out.on some fun z =>
    some (z.1, true)

/- loop.example/g00897/impl.IsValidBlock -/
def impl_IsValidBlock (fu : Nat) (b' : Block) : Option (Bool) :=
  (if decide (b'.First ≥ 0) then (impl_within fu b'.Count 1 24).bind fun y =>
  if y then some (decide (b'.First ≤ (w64 (24 - b'.Count))))
  else some false
  else some false).bind fun c =>
  some c

/- loop.example/g00897/impl.isLight -/
def impl_isLight (fu : Nat) (n' : Network) (x1 : Light) : Option (Bool) :=
  (impl_visited fu n' x1.Route).bind fun y =>
  (if y.2 then (impl_within fu x1.Id 1 999).bind fun y2 =>
  if y2 then (impl_IsValidBlock fu x1.Block).bind fun y3 =>
  some y3
  else some false
  else some false).bind fun c5 =>
  some c5

/- loop.example/g00897/impl.maskOf -/
def impl_maskOf (fu : Nat) (b' : Block) : Option (Int) :=
  (shl 1 b'.Count).bind fun q =>
  (shl (w64 (q - 1)) b'.First).bind fun q2 =>
  some q2

/- math/bits.Len64 -/
def math_bits_Len64 (fu : Nat) (x1 : U64) : Option (Int) :=
  if decide (x1.n ≥ 4294967296) then
    none
  else
    if decide (x1.n ≥ 65536) then
      none
    else
      if decide (x1.n ≥ 256) then
        none
      else
        (sidx (⟨#[0, 1, 2, 2, 3, 3, 3, 3, 4, 4, 4, 4, 4, 4, 4, 4, 5, 5, 5, 5, 5, 5, 5, 5, 5, 5, 5, 5, 5, 5, 5, 5, 6, 6, 6, 6, 6, 6, 6, 6, 6, 6, 6, 6, 6, 6, 6, 6, 6, 6, 6, 6, 6, 6, 6, 6, 6, 6, 6, 6, 6, 6, 6, 6, 7, 7, 7, 7, 7, 7, 7, 7, 7, 7, 7, 7, 7, 7, 7, 7, 7, 7, 7, 7, 7, 7, 7, 7, 7, 7, 7, 7, 7, 7, 7, 7, 7, 7, 7, 7, 7, 7, 7, 7, 7, 7, 7, 7, 7, 7, 7, 7, 7, 7, 7, 7, 7, 7, 7, 7, 7, 7, 7, 7, 7, 7, 7, 7, 8, 8, 8, 8, 8, 8, 8, 8, 8, 8, 8, 8, 8, 8, 8, 8, 8, 8, 8, 8, 8, 8, 8, 8, 8, 8, 8, 8, 8, 8, 8, 8, 8, 8, 8, 8, 8, 8, 8, 8, 8, 8, 8, 8, 8, 8, 8, 8, 8, 8, 8, 8, 8, 8, 8, 8, 8, 8, 8, 8, 8, 8, 8, 8, 8, 8, 8, 8, 8, 8, 8, 8, 8, 8, 8, 8, 8, 8, 8, 8, 8, 8, 8, 8, 8, 8, 8, 8, 8, 8, 8, 8, 8, 8, 8, 8, 8, 8, 8, 8, 8, 8, 8, 8, 8, 8, 8, 8, 8, 8, 8, 8, 8, 8, 8, 8, 8, 8, 8, 8, 8, 8, 8, 8, 8, 8, 8, 8]⟩ : ByteArray) (wu8 x1.n)).bind fun e =>
        some (w64 (0 + (w64 e.n)))

/- math/bits.Len -/
def math_bits_Len (fu : Nat) (x1 : U64) : Option (Int) :=
  (math_bits_Len64 fu x1).bind fun y =>
  some y

/- cmp.Less[int] -/
def cmp_Less_int (fu : Nat) (x1 : Int) (y : Int) : Option (Bool) :=
  ((cmp_isNaN_int fu x1).bind fun y2 =>
  if y2 then (cmp_isNaN_int fu y).bind fun y3 =>
  if !y3 then some true
  else some (decide (x1 < y))
  else some (decide (x1 < y))).bind fun c =>
  some c

/- slices.insertionSortOrdered[int] -/
def slices_insertionSortOrdered_int_L2 (fu : Nat) (a' : Int) : Nat → List Int → Int → Option (List Int × Int)
  | 0, _, _ => none
  | fk + 1, data3, j =>
    (if decide (j > a') then (idx data3 j).bind fun e =>
    (idx data3 (w64 (j - 1))).bind fun e2 =>
    (cmp_Less_int fu e e2).bind fun y =>
    some y
    else some false).bind fun c2 =>
    if c2 then
      (idx data3 (w64 (j - 1))).bind fun e3 =>
      (idx data3 j).bind fun e4 =>
      (idx data3 j).bind fun e5 =>
      (idx (data3.set (j).toNat e3) (w64 (j - 1))).bind fun e6 =>
      slices_insertionSortOrdered_int_L2 fu a' fk ((data3.set (j).toNat e3).set (w64 (j - 1)).toNat e4) (w64 (j - 1))
    else
      some (data3, j)
def slices_insertionSortOrdered_int_L1 (fu : Nat) (a' : Int) (b' : Int) : Nat → List Int → Int → Option (List Int × Int)
  | 0, _, _ => none
  | fk + 1, data2, i =>
    if decide (i < b') then
      (slices_insertionSortOrdered_int_L2 fu a' fu data2 i).bind fun z =>
      slices_insertionSortOrdered_int_L1 fu a' b' fk z.1 (w64 (i + 1))
    else
      some (data2, i)
def slices_insertionSortOrdered_int (fu : Nat) (data : List Int) (a' : Int) (b' : Int) : Option (List Int) :=
  (slices_insertionSortOrdered_int_L1 fu a' b' fu data (w64 (a' + 1))).bind fun z2 =>
  some z2.1

/- slices.pdqsortOrdered[int] -/
def slices_pdqsortOrdered_int_L1 (fu : Nat) (data : List Int) (a' : Int) (b' : Int) : Nat → Option (Out (Unit) (List Int))
  | 0 => none
  | fk + 1 =>
    if decide ((w64 (b' - a')) ≤ 12) then
      (slices_insertionSortOrdered_int fu data a' b').bind fun y =>
      some (.ret y)
    else
      none
def slices_pdqsortOrdered_int (fu : Nat) (data : List Int) (a' : Int) (b' : Int) (limit : Int) : Option (List Int) :=
  (slices_pdqsortOrdered_int_L1 fu data a' b' fu).bind fun out => out.on some fun z =>
  some data

/- slices.Sort[[]int,int] -/
def slices_Sort_int_int (fu : Nat) (x1 : List Int) : Option (List Int) :=
  (math_bits_Len fu (⟨wu64 (x1.length : Int)⟩ : U64)).bind fun y =>
  (slices_pdqsortOrdered_int fu x1 0 (x1.length : Int) y).bind fun y2 =>
  some y2

/- slices.Compact[[]int,int] -/
def slices_Compact_int_int_L1 (fu : Nat) (s' : List Int) : Nat → Int → Option (Out (Int) (List Int))
  | 0, _ => none
  | fk + 1, k' =>
    if decide (k' < (s'.length : Int)) then
      (idx s' k').bind fun e =>
      (idx s' (w64 (k' - 1))).bind fun e2 =>
      if e == e2 then
        none
      else
        slices_Compact_int_int_L1 fu s' fk (w64 (k' + 1))
    else
      some (.next k')
def slices_Compact_int_int (fu : Nat) (s' : List Int) : Option (List Int) :=
  if decide ((s'.length : Int) < 2) then
    some s'
  else
    (slices_Compact_int_int_L1 fu s' fu 1).bind fun out => out.on some fun z =>
    some s'

/- loop.example/g00897/impl.common -/
def impl_common_L1 (fu : Nat) (a' : List Int) (b' : List Int) : Nat → List Int → Int → Option (List Int × Int)
  | 0, _, _ => none
  | fk + 1, out', i =>
    if decide (i < (a'.length : Int)) then
      (idx a' i).bind fun e =>
      (slices_Contains_int_int fu b' e).bind fun y =>
      if y then
        (app out' [e]).bind fun l =>
        impl_common_L1 fu a' b' fk l (w64 (i + 1))
      else
        impl_common_L1 fu a' b' fk out' (w64 (i + 1))
    else
      some (out', i)
def impl_common (fu : Nat) (a' : List Int) (b' : List Int) : Option (List Int) :=
  (impl_common_L1 fu a' b' fu ([] : List Int) 0).bind fun z =>
  (slices_Sort_int_int fu z.1).bind fun y2 =>
  (slices_Compact_int_int fu y2).bind fun y3 =>
  some y3

/- loop.example/g00897/impl.collide -/
def impl_collide (fu : Nat) (a' : Light) (b' : Light) : Option (Bool) :=
  ((impl_maskOf fu a'.Block).bind fun y =>
  (impl_maskOf fu b'.Block).bind fun y2 =>
  if (band y y2) != 0 then (impl_common fu a'.Route.Fibers b'.Route.Fibers).bind fun y3 =>
  some (decide ((y3.length : Int) > 0))
  else some false).bind fun c3 =>
  some c3

/- loop.example/g00897/impl.IsValidPlan$1 -/
def impl_IsValidPlan_c1 (fu : Nat) (own : Light) (cap : Light) : Option (Bool) :=
  (impl_collide fu own cap).bind fun y =>
  some y

/- slices.IndexFunc[[]loop.example/g00897/impl.Light,loop.example/g00897/impl.Light] -/
def slices_IndexFunc_impl_Light_impl_Light_of_IsValidPlan_c1_L1 (fu : Nat) (s' : List Light) (cap : Light) : Nat → Int → Option (Out (Int) (Int))
  | 0, _ => none
  | fk + 1, i =>
    if decide (i < (s'.length : Int)) then
      (idx s' i).bind fun e =>
      (impl_IsValidPlan_c1 fu e cap).bind fun y =>
      if y then
        some (.ret i)
      else
        slices_IndexFunc_impl_Light_impl_Light_of_IsValidPlan_c1_L1 fu s' cap fk (w64 (i + 1))
    else
      some (.next i)
def slices_IndexFunc_impl_Light_impl_Light_of_IsValidPlan_c1 (fu : Nat) (s' : List Light) (cap : Light) : Option (Int) :=
  (slices_IndexFunc_impl_Light_impl_Light_of_IsValidPlan_c1_L1 fu s' cap fu 0).bind fun out => out.on some fun z =>
  some (-1)

/- slices.ContainsFunc[[]loop.example/g00897/impl.Light,loop.example/g00897/impl.Light] -/
def slices_ContainsFunc_impl_Light_impl_Light_of_IsValidPlan_c1 (fu : Nat) (s' : List Light) (cap : Light) : Option (Bool) :=
  (slices_IndexFunc_impl_Light_impl_Light_of_IsValidPlan_c1 fu s' cap).bind fun y =>
  some (decide (y ≥ 0))

/- loop.example/g00897/impl.IsValidPlan -/
def impl_IsValidPlan_L1 (fu : Nat) (p : Plan) : Nat → Int → Option (Out (Int) (Bool))
  | 0, _ => none
  | fk + 1, i =>
    if decide (i < (p.Lights.length : Int)) then
      (idx p.Lights i).bind fun e =>
      ((impl_isLight fu p.Network e).bind fun y2 =>
      if !y2 then some true
      else if decide (i > 0) then (idx p.Lights (w64 (i - 1))).bind fun e2 =>
      if decide (e2.Id ≥ e.Id) then some true
      else (sub p.Lights 0 i).bind fun l =>
      (slices_ContainsFunc_impl_Light_impl_Light_of_IsValidPlan_c1 fu l e).bind fun y3 =>
      some y3
      else (sub p.Lights 0 i).bind fun l2 =>
      (slices_ContainsFunc_impl_Light_impl_Light_of_IsValidPlan_c1 fu l2 e).bind fun y4 =>
      some y4).bind fun c6 =>
      if c6 then
        some (.ret false)
      else
        impl_IsValidPlan_L1 fu p fk (w64 (i + 1))
    else
      some (.next i)
def impl_IsValidPlan (fu : Nat) (p : Plan) : Option (Bool) :=
  ((impl_IsValidNetwork fu p.Network).bind fun y =>
  if !y then some true
  else some (decide ((p.Lights.length : Int) > 12))).bind fun c4 =>
  if c4 then
    some false
  else
    (impl_IsValidPlan_L1 fu p fu 0).bind fun out => out.on some fun z =>
    some true

/- loop.example/g00897/impl.LightNumber -/
def impl_LightNumber (fu : Nat) (p : Plan) (id : Int) : Option (Int × Bool) :=
  (impl_lightAt fu p id).bind fun y =>
  ((impl_IsValidPlan fu p).bind fun y2 =>
  if !y2 then some true
  else some (decide (y < 0))).bind fun c4 =>
  if c4 then
    some (0, false)
  else
    some (y, true)

/- loop.example/g00897/impl.lowest$1 -/
def impl_lowest_c1 (fu : Nat) (own : Light) (cap : Light) (cap2 : Light) : Option (Bool) :=
  (if own.Id != cap.Id then (impl_collide fu own cap2).bind fun y =>
  some y
  else some false).bind fun c4 =>
  some c4

/- slices.IndexFunc[[]loop.example/g00897/impl.Light,loop.example/g00897/impl.Light] -/
def slices_IndexFunc_impl_Light_impl_Light_of_lowest_c1_L1 (fu : Nat) (s' : List Light) (cap : Light) (cap2 : Light) : Nat → Int → Option (Out (Int) (Int))
  | 0, _ => none
  | fk + 1, i =>
    if decide (i < (s'.length : Int)) then
      (idx s' i).bind fun e =>
      (impl_lowest_c1 fu e cap cap2).bind fun y =>
      if y then
        some (.ret i)
      else
        slices_IndexFunc_impl_Light_impl_Light_of_lowest_c1_L1 fu s' cap cap2 fk (w64 (i + 1))
    else
      some (.next i)
def slices_IndexFunc_impl_Light_impl_Light_of_lowest_c1 (fu : Nat) (s' : List Light) (cap : Light) (cap2 : Light) : Option (Int) :=
  (slices_IndexFunc_impl_Light_impl_Light_of_lowest_c1_L1 fu s' cap cap2 fu 0).bind fun out => out.on some fun z =>
  some (-1)

/- slices.ContainsFunc[[]loop.example/g00897/impl.Light,loop.example/g00897/impl.Light] -/
def slices_ContainsFunc_impl_Light_impl_Light_of_lowest_c1 (fu : Nat) (s' : List Light) (cap : Light) (cap2 : Light) : Option (Bool) :=
  (slices_IndexFunc_impl_Light_impl_Light_of_lowest_c1 fu s' cap cap2).bind fun y =>
  some (decide (y ≥ 0))

/- loop.example/g00897/impl.lowest -/
def impl_lowest_L1 (fu : Nat) (p : Plan) (hitless : Bool) (e : Light) : Nat → Int → Option (Out (Int) (Int))
  | 0, _ => none
  | fk + 1, i2 =>
    if decide (i2 < e.Block.First) then
      (if hitless then (impl_maskOf fu ({ First := i2, Count := e.Block.Count } : Block)).bind fun y =>
      (impl_maskOf fu e.Block).bind fun y2 =>
      some ((band y y2) != 0)
      else some false).bind fun c5 =>
      if c5 then
        impl_lowest_L1 fu p hitless e fk (w64 (i2 + 1))
      else
        (slices_ContainsFunc_impl_Light_impl_Light_of_lowest_c1 fu p.Lights e ({ Id := e.Id, Route := e.Route, Block := ({ First := i2, Count := e.Block.Count } : Block) } : Light)).bind fun y3 =>
        if !y3 then
          some (.ret i2)
        else
          impl_lowest_L1 fu p hitless e fk (w64 (i2 + 1))
    else
      some (.next i2)
def impl_lowest (fu : Nat) (p : Plan) (i : Int) (hitless : Bool) : Option (Int) :=
  (idx p.Lights i).bind fun e =>
  (impl_lowest_L1 fu p hitless e fu 0).bind fun out => out.on some fun z =>
  some e.Block.First

/- loop.example/g00897/impl.LowestFirst -/
def impl_LowestFirst (fu : Nat) (p : Plan) (id : Int) (hitless : Bool) : Option (Int × Bool) :=
  (impl_LightNumber fu p id).bind fun y =>
  if !y.2 then
    some (0, false)
  else
    (impl_lowest fu p y.1 hitless).bind fun y2 =>
    some (y2, true)

/- loop.example/g00897/laws.eqStringS -/
def laws_eqStringS_L1 (fu : Nat) (a' : List ByteArray) (b' : List ByteArray) : Nat → Int → Option (Out (Int) (Bool))
  | 0, _ => none
  | fk + 1, i =>
    if decide (i < (a'.length : Int)) then
      (idx a' i).bind fun e =>
      (idx b' i).bind fun e2 =>
      if !(e.toList == e2.toList) then
        some (.ret false)
      else
        laws_eqStringS_L1 fu a' b' fk (w64 (i + 1))
    else
      some (.next i)
def laws_eqStringS (fu : Nat) (a' : List ByteArray) (b' : List ByteArray) : Option (Bool) :=
  if (a'.length : Int) != (b'.length : Int) then
    some false
  else
    (laws_eqStringS_L1 fu a' b' fu 0).bind fun out => out.on some fun z =>
    some true

/- loop.example/g00897/laws.eqFiber -/
def laws_eqFiber (fu : Nat) (a' : Fiber) (b' : Fiber) : Option (Bool) :=
  if a'.A != b'.A then
    some false
  else
    if a'.B != b'.B then
      some false
    else
      if a'.Length != b'.Length then
        some false
      else
        if a'.Risk != b'.Risk then
          some false
        else
          some true

/- loop.example/g00897/laws.eqFiberS -/
def laws_eqFiberS_L1 (fu : Nat) (a' : List Fiber) (b' : List Fiber) : Nat → Int → Option (Out (Int) (Bool))
  | 0, _ => none
  | fk + 1, i =>
    if decide (i < (a'.length : Int)) then
      (idx a' i).bind fun e =>
      (idx b' i).bind fun e2 =>
      (laws_eqFiber fu e e2).bind fun y =>
      if !y then
        some (.ret false)
      else
        laws_eqFiberS_L1 fu a' b' fk (w64 (i + 1))
    else
      some (.next i)
def laws_eqFiberS (fu : Nat) (a' : List Fiber) (b' : List Fiber) : Option (Bool) :=
  if (a'.length : Int) != (b'.length : Int) then
    some false
  else
    (laws_eqFiberS_L1 fu a' b' fu 0).bind fun out => out.on some fun z =>
    some true

/- loop.example/g00897/laws.eqNetwork -/
def laws_eqNetwork (fu : Nat) (a' : Network) (b' : Network) : Option (Bool) :=
  (laws_eqStringS fu a'.Nodes b'.Nodes).bind fun y =>
  if !y then
    some false
  else
    (laws_eqFiberS fu a'.Fibers b'.Fibers).bind fun y2 =>
    if !y2 then
      some false
    else
      some true

/- loop.example/g00897/laws.eqIntS -/
def laws_eqIntS_L1 (fu : Nat) (a' : List Int) (b' : List Int) : Nat → Int → Option (Out (Int) (Bool))
  | 0, _ => none
  | fk + 1, i =>
    if decide (i < (a'.length : Int)) then
      (idx a' i).bind fun e =>
      (idx b' i).bind fun e2 =>
      if e != e2 then
        some (.ret false)
      else
        laws_eqIntS_L1 fu a' b' fk (w64 (i + 1))
    else
      some (.next i)
def laws_eqIntS (fu : Nat) (a' : List Int) (b' : List Int) : Option (Bool) :=
  if (a'.length : Int) != (b'.length : Int) then
    some false
  else
    (laws_eqIntS_L1 fu a' b' fu 0).bind fun out => out.on some fun z =>
    some true

/- loop.example/g00897/laws.eqRoute -/
def laws_eqRoute (fu : Nat) (a' : Route) (b' : Route) : Option (Bool) :=
  if a'.Start != b'.Start then
    some false
  else
    (laws_eqIntS fu a'.Fibers b'.Fibers).bind fun y =>
    if !y then
      some false
    else
      some true

/- loop.example/g00897/laws.eqBlock -/
def laws_eqBlock (fu : Nat) (a' : Block) (b' : Block) : Option (Bool) :=
  if a'.First != b'.First then
    some false
  else
    if a'.Count != b'.Count then
      some false
    else
      some true

/- loop.example/g00897/laws.eqLight -/
def laws_eqLight (fu : Nat) (a' : Light) (b' : Light) : Option (Bool) :=
  if a'.Id != b'.Id then
    some false
  else
    (laws_eqRoute fu a'.Route b'.Route).bind fun y =>
    if !y then
      some false
    else
      (laws_eqBlock fu a'.Block b'.Block).bind fun y2 =>
      if !y2 then
        some false
      else
        some true

/- loop.example/g00897/laws.eqLightS -/
def laws_eqLightS_L1 (fu : Nat) (a' : List Light) (b' : List Light) : Nat → Int → Option (Out (Int) (Bool))
  | 0, _ => none
  | fk + 1, i =>
    if decide (i < (a'.length : Int)) then
      (idx a' i).bind fun e =>
      (idx b' i).bind fun e2 =>
      (laws_eqLight fu e e2).bind fun y =>
      if !y then
        some (.ret false)
      else
        laws_eqLightS_L1 fu a' b' fk (w64 (i + 1))
    else
      some (.next i)
def laws_eqLightS (fu : Nat) (a' : List Light) (b' : List Light) : Option (Bool) :=
  if (a'.length : Int) != (b'.length : Int) then
    some false
  else
    (laws_eqLightS_L1 fu a' b' fu 0).bind fun out => out.on some fun z =>
    some true

/- loop.example/g00897/laws.eqPlan -/
def laws_eqPlan (fu : Nat) (a' : Plan) (b' : Plan) : Option (Bool) :=
  (laws_eqNetwork fu a'.Network b'.Network).bind fun y =>
  if !y then
    some false
  else
    (laws_eqLightS fu a'.Lights b'.Lights).bind fun y2 =>
    if !y2 then
      some false
    else
      some true

/- loop.example/g00897/laws.FnExactLowestFirst -/
def laws_FnExactLowestFirst (fu : Nat) (aP : Plan) (aId : Int) (aHitless : Bool) : Option (Bool) :=
  (laws_szPlan fu aP 1048576).bind fun y =>
  if decide (y < 0) then
    some true
  else
    (laws_toPlan fu aP).bind fun y2 =>
    (spec_LowestFirst fu y2 aId aHitless).bind fun y3 =>
    (laws_toPlan fu aP).bind fun y4 =>
    (impl_LowestFirst fu y4 aId aHitless).bind fun y5 =>
    (if y5.1 != y3.1 then some true
    else some (y5.2 != y3.2)).bind fun c10 =>
    if c10 then
      some false
    else
      (laws_toPlan fu aP).bind fun y6 =>
      (laws_eqPlan fu y4 y6).bind fun y7 =>
      if !y7 then
        some false
      else
        some true

/- loop.example/g00897/spec.l21Step -/
def spec_l21Step_L1 (fu : Nat) (hitless : Bool) (y : Plan) : Nat → Int → Option (Out (Int) (Plan × Int))
  | 0, _ => none
  | fk + 1, i =>
    if decide (i < (y.Lights.length : Int)) then
      (spec_l21Lowest fu y i hitless).bind fun y2 =>
      (idx y.Lights i).bind fun e =>
      if decide (y2 < e.Block.First) then
        (idx y.Lights i).bind fun e2 =>
        (idx y.Lights i).bind fun e3 =>
        some (.ret (({ Network := y.Network, Lights := y.Lights.set (i).toNat ({ Id := e2.Id, Route := e2.Route, Block := ({ First := y2, Count := e2.Block.Count } : Block) } : Light) } : Plan), e2.Id))
      else
        spec_l21Step_L1 fu hitless y fk (w64 (i + 1))
    else
      some (.next i)
def spec_l21Step (fu : Nat) (p : Plan) (hitless : Bool) : Option (Plan × Int) :=
  (spec_l9Own fu p).bind fun y =>
  (spec_l21Step_L1 fu hitless y fu 0).bind fun out => out.on some fun z =>
  some (y, 0)

/- loop.example/g00897/spec.IsCompact -/
def spec_IsCompact (fu : Nat) (p : Plan) (hitless : Bool) : Option (Bool × Bool) :=
  (spec_l9Good fu p).bind fun y =>
  if !y then
    some (false, false)
  else
    (spec_l21Step fu p hitless).bind fun y2 =>
    some (y2.2 == 0, true)

/- loop.example/g00897/impl.copyNetwork -/
def impl_copyNetwork (fu : Nat) (n' : Network) : Option (Network) :=
  (app ([] : List ByteArray) n'.Nodes).bind fun l =>
  (app ([] : List Fiber) n'.Fibers).bind fun l2 =>
  some ({ Nodes := l, Fibers := l2 } : Network)

/- loop.example/g00897/impl.copyRoute -/
def impl_copyRoute (fu : Nat) (r' : Route) : Option (Route) :=
  (app ([] : List Int) r'.Fibers).bind fun l =>
  some ({ Start := r'.Start, Fibers := l } : Route)

/- loop.example/g00897/impl.copyPlan -/
def impl_copyPlan_L1 (fu : Nat) (p : Plan) : Nat → Int → List Light → Option (Int × List Light)
  | 0, _, _ => none
  | fk + 1, i, m =>
    if decide (i < (p.Lights.length : Int)) then
      (idx p.Lights i).bind fun e =>
      (impl_copyRoute fu e.Route).bind fun y2 =>
      (app m [({ Id := e.Id, Route := y2, Block := e.Block } : Light)]).bind fun l =>
      impl_copyPlan_L1 fu p fk (w64 (i + 1)) l
    else
      some (i, m)
def impl_copyPlan (fu : Nat) (p : Plan) : Option (Plan) :=
  (impl_copyNetwork fu p.Network).bind fun y =>
  (impl_copyPlan_L1 fu p fu 0 ([] : List Light)).bind fun z =>
  some ({ Network := y, Lights := z.2 } : Plan)

/- loop.example/g00897/impl.lowered -/
def impl_lowered_L1 (fu : Nat) (p : Plan) (hitless : Bool) (y : Plan) : Nat → Int → Option (Out (Int) (Plan × Int))
  | 0, _ => none
  | fk + 1, i =>
    if decide (i < (p.Lights.length : Int)) then
      (idx p.Lights i).bind fun e =>
      (impl_lowest fu p i hitless).bind fun y2 =>
      if decide (y2 < e.Block.First) then
        (idx y.Lights i).bind fun e2 =>
        some (.ret (({ Network := y.Network, Lights := y.Lights.set (i).toNat ({ Id := e2.Id, Route := e2.Route, Block := ({ First := y2, Count := e2.Block.Count } : Block) } : Light) } : Plan), e.Id))
      else
        impl_lowered_L1 fu p hitless y fk (w64 (i + 1))
    else
      some (.next i)
def impl_lowered (fu : Nat) (p : Plan) (hitless : Bool) : Option (Plan × Int) :=
  (impl_copyPlan fu p).bind fun y =>
  (impl_lowered_L1 fu p hitless y fu 0).bind fun out => out.on some fun z =>
  some (y, 0)

/- loop.example/g00897/impl.IsCompact -/
def impl_IsCompact (fu : Nat) (p : Plan) (hitless : Bool) : Option (Bool × Bool) :=
  (impl_IsValidPlan fu p).bind fun y =>
  if !y then
    some (false, false)
  else
    (impl_lowered fu p hitless).bind fun y2 =>
    some (y2.2 == 0, true)

/- loop.example/g00897/laws.FnExactIsCompact -/
def laws_FnExactIsCompact (fu : Nat) (aP : Plan) (aHitless : Bool) : Option (Bool) :=
  (laws_szPlan fu aP 1048576).bind fun y =>
  if decide (y < 0) then
    some true
  else
    (laws_toPlan fu aP).bind fun y2 =>
    (spec_IsCompact fu y2 aHitless).bind fun y3 =>
    (laws_toPlan fu aP).bind fun y4 =>
    (impl_IsCompact fu y4 aHitless).bind fun y5 =>
    (if y5.1 != y3.1 then some true
    else some (y5.2 != y3.2)).bind fun c10 =>
    if c10 then
      some false
    else
      (laws_toPlan fu aP).bind fun y6 =>
      (laws_eqPlan fu y4 y6).bind fun y7 =>
      if !y7 then
        some false
      else
        some true

/- loop.example/g00897/spec.l8Mask -/
def spec_l8Mask (fu : Nat) (mask : Int) : Option (Bool) :=
  (spec_l1In fu mask 0 16777215).bind fun y =>
  some y

/- loop.example/g00897/spec.l8Count -/
def spec_l8Count_L1 (fu : Nat) (mask : Int) : Nat → Int → Int → Option (Int × Int)
  | 0, _, _ => none
  | fk + 1, n', s' =>
    if decide (s' < 24) then
      (shr mask (wu64 s')).bind fun q =>
      spec_l8Count_L1 fu mask fk (w64 (n' + (band q 1))) (w64 (s' + 1))
    else
      some (n', s')
def spec_l8Count (fu : Nat) (mask : Int) : Option (Int) :=
  (spec_l8Count_L1 fu mask fu 0 0).bind fun z =>
  some z.1

/- loop.example/g00897/spec.l8Runs -/
def spec_l8Runs_L1 (fu : Nat) (mask : Int) : Nat → Int → Int → List Block → Option (Int × Int × List Block)
  | 0, _, _, _ => none
  | fk + 1, count, s', out' =>
    if decide (s' ≤ 24) then
      (if decide (s' < 24) then (shr mask (wu64 s')).bind fun q =>
      some ((band q 1) == 0)
      else some false).bind fun c2 =>
      if c2 then
        spec_l8Runs_L1 fu mask fk (w64 (count + 1)) (w64 (s' + 1)) out'
      else
        if decide (count > 0) then
          (app out' [({ First := w64 (s' - count), Count := count } : Block)]).bind fun l =>
          spec_l8Runs_L1 fu mask fk 0 (w64 (s' + 1)) l
        else
          spec_l8Runs_L1 fu mask fk 0 (w64 (s' + 1)) out'
    else
      some (count, s', out')
def spec_l8Runs (fu : Nat) (mask : Int) : Option (List Block) :=
  (spec_l8Runs_L1 fu mask fu 0 0 ([] : List Block)).bind fun z =>
  some z.2.2

/- loop.example/g00897/spec.l1Most -/
def spec_l1Most (fu : Nat) (a' : Int) (b' : Int) : Option (Int) :=
  if decide (a' > b') then
    some a'
  else
    some b'

/- loop.example/g00897/spec.l8Longest -/
def spec_l8Longest_L1 (fu : Nat) (y : List Block) : Nat → Int → Int → Option (Int × Int)
  | 0, _, _ => none
  | fk + 1, most, i =>
    if decide (i < (y.length : Int)) then
      (idx y i).bind fun e =>
      (spec_l1Most fu most e.Count).bind fun y2 =>
      spec_l8Longest_L1 fu y fk y2 (w64 (i + 1))
    else
      some (most, i)
def spec_l8Longest (fu : Nat) (mask : Int) : Option (Int) :=
  (spec_l8Runs fu mask).bind fun y =>
  (spec_l8Longest_L1 fu y fu 0 0).bind fun z =>
  some z.1

/- loop.example/g00897/spec.SpectrumUse -/
def spec_SpectrumUse (fu : Nat) (mask : Int) : Option (Int × Int × Int × Bool) :=
  (spec_l8Mask fu mask).bind fun y =>
  if !y then
    some (0, 0, 0, false)
  else
    (spec_l8Count fu mask).bind fun y2 =>
    (spec_l8Longest fu mask).bind fun y3 =>
    if (w64 (24 - y2)) == 0 then
      some (y2, y3, 0, true)
    else
      (quo (w64 ((w64 ((w64 (1000 * y3)) + (w64 (24 - y2)))) - 1)) (w64 (24 - y2))).bind fun q =>
      some (y2, y3, w64 (1000 - q), true)

/- loop.example/g00897/spec.FragmentationOf -/
def spec_FragmentationOf_L1 (fu : Nat) (p : Plan) : Nat → List Int → Int → Int → Option (List Int × Int × Int)
  | 0, _, _, _ => none
  | fk + 1, out', most, f =>
    if decide (f < (p.Network.Fibers.length : Int)) then
      (spec_l9Used fu p f).bind fun y2 =>
      (spec_SpectrumUse fu y2).bind fun y3 =>
      (app out' [y3.2.2.1]).bind fun l =>
      (spec_l1Most fu most y3.2.2.1).bind fun y4 =>
      spec_FragmentationOf_L1 fu p fk l y4 (w64 (f + 1))
    else
      some (out', most, f)
def spec_FragmentationOf (fu : Nat) (p : Plan) : Option (List Int × Int × Bool) :=
  (spec_l9Good fu p).bind fun y =>
  if !y then
    some (([] : List Int), 0, false)
  else
    (spec_FragmentationOf_L1 fu p fu ([] : List Int) 0 0).bind fun z =>
    some (z.1, z.2.1, true)

/- loop.example/g00897/impl.fiberMasks -/
def impl_fiberMasks_L2 (fu : Nat) (e : Light) : Nat → List Int → Int → Option (List Int × Int)
  | 0, _, _ => none
  | fk + 1, out3, i2 =>
    if decide (i2 < (e.Route.Fibers.length : Int)) then
      (idx e.Route.Fibers i2).bind fun e2 =>
      (idx out3 e2).bind fun e3 =>
      (impl_maskOf fu e.Block).bind fun y =>
      (idx out3 e2).bind fun e4 =>
      impl_fiberMasks_L2 fu e fk (out3.set (e2).toNat (bor e3 y)) (w64 (i2 + 1))
    else
      some (out3, i2)
def impl_fiberMasks_L1 (fu : Nat) (p : Plan) : Nat → List Int → Int → Option (List Int × Int)
  | 0, _, _ => none
  | fk + 1, out', i =>
    if decide (i < (p.Lights.length : Int)) then
      (idx p.Lights i).bind fun e =>
      (impl_fiberMasks_L2 fu e fu out' 0).bind fun z =>
      impl_fiberMasks_L1 fu p fk z.1 (w64 (i + 1))
    else
      some (out', i)
def impl_fiberMasks (fu : Nat) (p : Plan) : Option (List Int) :=
  (mk (0 : Int) (p.Network.Fibers.length : Int)).bind fun l =>
  (impl_fiberMasks_L1 fu p fu l 0).bind fun z2 =>
  some z2.1

/- loop.example/g00897/impl.isMask -/
def impl_isMask (fu : Nat) (mask : Int) : Option (Bool) :=
  (impl_within fu mask 0 16777215).bind fun y =>
  some y

/- math/bits.OnesCount64 -/
def math_bits_OnesCount64 (fu : Nat) (x1 : U64) : Option (Int) :=
  (shrk 64 x1.n 1).bind fun q =>
  (shrk 64 (wu64 ((andu64 q 6148914691236517205) + (andu64 x1.n 6148914691236517205))) 2).bind fun q2 =>
  (shrk 64 (wu64 ((andu64 q2 3689348814741910323) + (andu64 (wu64 ((andu64 q 6148914691236517205) + (andu64 x1.n 6148914691236517205))) 3689348814741910323))) 4).bind fun q3 =>
  (shrk 64 (andu64 (wu64 (q3 + (wu64 ((andu64 q2 3689348814741910323) + (andu64 (wu64 ((andu64 q 6148914691236517205) + (andu64 x1.n 6148914691236517205))) 3689348814741910323))))) 1085102592571150095) 8).bind fun q4 =>
  (shrk 64 (wu64 ((andu64 (wu64 (q3 + (wu64 ((andu64 q2 3689348814741910323) + (andu64 (wu64 ((andu64 q 6148914691236517205) + (andu64 x1.n 6148914691236517205))) 3689348814741910323))))) 1085102592571150095) + q4)) 16).bind fun q5 =>
  (shrk 64 (wu64 ((wu64 ((andu64 (wu64 (q3 + (wu64 ((andu64 q2 3689348814741910323) + (andu64 (wu64 ((andu64 q 6148914691236517205) + (andu64 x1.n 6148914691236517205))) 3689348814741910323))))) 1085102592571150095) + q4)) + q5)) 32).bind fun q6 =>
  some (band (w64 (wu64 ((wu64 ((wu64 ((andu64 (wu64 (q3 + (wu64 ((andu64 q2 3689348814741910323) + (andu64 (wu64 ((andu64 q 6148914691236517205) + (andu64 x1.n 6148914691236517205))) 3689348814741910323))))) 1085102592571150095) + q4)) + q5)) + q6))) 127)

/- math/bits.OnesCount -/
def math_bits_OnesCount (fu : Nat) (x1 : U64) : Option (Int) :=
  (math_bits_OnesCount64 fu x1).bind fun y =>
  some y

/- loop.example/g00897/impl.freeRuns -/
def impl_freeRuns_L2 (fu : Nat) (mask : Int) : Nat → Int → Option (Int)
  | 0, _ => none
  | fk + 1, s2 =>
    (if decide (s2 < 24) then (shr mask s2).bind fun q =>
    some ((band q 1) == 0)
    else some false).bind fun c2 =>
    if c2 then
      impl_freeRuns_L2 fu mask fk (w64 (s2 + 1))
    else
      some s2
def impl_freeRuns_L1 (fu : Nat) (mask : Int) : Nat → List Block → Int → Option (List Block × Int)
  | 0, _, _ => none
  | fk + 1, out', s' =>
    if decide (s' < 24) then
      (impl_freeRuns_L2 fu mask fu s').bind fun z =>
      if decide (z > s') then
        (app out' [({ First := s', Count := w64 (z - s') } : Block)]).bind fun l =>
        impl_freeRuns_L1 fu mask fk l (w64 (z + 1))
      else
        impl_freeRuns_L1 fu mask fk out' (w64 (z + 1))
    else
      some (out', s')
def impl_freeRuns (fu : Nat) (mask : Int) : Option (List Block) :=
  (impl_freeRuns_L1 fu mask fu ([] : List Block) 0).bind fun z2 =>
  some z2.1

/- loop.example/g00897/impl.SpectrumUse -/
def impl_SpectrumUse_L1 (fu : Nat) (y3 : List Block) : Nat → Int → Int → Option (Int × Int)
  | 0, _, _ => none
  | fk + 1, longest, i =>
    if decide (i < (y3.length : Int)) then
      (idx y3 i).bind fun e =>
      impl_SpectrumUse_L1 fu y3 fk (gmax longest e.Count) (w64 (i + 1))
    else
      some (longest, i)
def impl_SpectrumUse (fu : Nat) (mask : Int) : Option (Int × Int × Int × Bool) :=
  (impl_isMask fu mask).bind fun y =>
  if !y then
    some (0, 0, 0, false)
  else
    (math_bits_OnesCount fu (⟨wu64 mask⟩ : U64)).bind fun y2 =>
    (impl_freeRuns fu mask).bind fun y3 =>
    (impl_SpectrumUse_L1 fu y3 fu 0 0).bind fun z =>
    if decide ((w64 (24 - y2)) > 0) then
      (quo (w64 ((w64 ((w64 (1000 * z.1)) + (w64 (24 - y2)))) - 1)) (w64 (24 - y2))).bind fun q =>
      some (y2, z.1, w64 (1000 - q), true)
    else
      some (y2, z.1, 0, true)

/- loop.example/g00897/impl.FragmentationOf -/
def impl_FragmentationOf_L1 (fu : Nat) (y2 : List Int) : Nat → List Int → Int → Int → Option (List Int × Int × Int)
  | 0, _, _, _ => none
  | fk + 1, out', most, i =>
    if decide (i < (y2.length : Int)) then
      (idx y2 i).bind fun e =>
      (impl_SpectrumUse fu e).bind fun y3 =>
      (app out' [y3.2.2.1]).bind fun l =>
      impl_FragmentationOf_L1 fu y2 fk l (gmax most y3.2.2.1) (w64 (i + 1))
    else
      some (out', most, i)
def impl_FragmentationOf (fu : Nat) (p : Plan) : Option (List Int × Int × Bool) :=
  (impl_IsValidPlan fu p).bind fun y =>
  if !y then
    some ([], 0, false)
  else
    (impl_fiberMasks fu p).bind fun y2 =>
    (impl_FragmentationOf_L1 fu y2 fu ([] : List Int) 0 0).bind fun z =>
    some (z.1, z.2.1, true)

/- loop.example/g00897/laws.markText -/
def laws_markText_L1 (fu : Nat) : Nat → Int → ByteArray → Option (Int × ByteArray)
  | 0, _, _ => none
  | fk + 1, k2, out' =>
    if decide (k2 > 0) then
      (rem k2 10).bind fun q =>
      (scat (bstr [(⟨wu8 (w64 (48 + q))⟩ : By)]) out').bind fun s' =>
      (quo k2 10).bind fun q2 =>
      laws_markText_L1 fu fk q2 s'
    else
      some (k2, out')
def laws_markText (fu : Nat) (k' : Int) : Option (ByteArray) :=
  if decide (k' ≤ 0) then
    some (⟨#[109, 48]⟩ : ByteArray)
  else
    (laws_markText_L1 fu fu k' ByteArray.empty).bind fun z =>
    (scat (⟨#[109]⟩ : ByteArray) z.2).bind fun s2 =>
    some s2

/- loop.example/g00897/laws.markStringS -/
def laws_markStringS_L1 (fu : Nat) : Nat → List ByteArray → Int → Int → Option (List ByteArray × Int × Int)
  | 0, _, _, _ => none
  | fk + 1, a2, k2, i =>
    if decide (i < (a2.length : Int)) then
      (laws_markText fu k2).bind fun y =>
      (idx a2 i).bind fun e =>
      laws_markStringS_L1 fu fk (a2.set (i).toNat y) (w64 (k2 + 1)) (w64 (i + 1))
    else
      some (a2, k2, i)
def laws_markStringS (fu : Nat) (a' : List ByteArray) (k' : Int) : Option (Int × List ByteArray) :=
  (laws_markStringS_L1 fu fu a' k' 0).bind fun z =>
  some (z.2.1, z.1)

/- loop.example/g00897/laws.markFiberS -/
def laws_markFiberS_L1 (fu : Nat) : Nat → List Fiber → Int → Int → Option (List Fiber × Int × Int)
  | 0, _, _, _ => none
  | fk + 1, a2, k2, i =>
    if decide (i < (a2.length : Int)) then
      (idx a2 i).bind fun e =>
      (idx (a2.set (i).toNat ({ A := k2, B := e.B, Length := e.Length, Risk := e.Risk } : Fiber)) i).bind fun e2 =>
      (idx ((a2.set (i).toNat ({ A := k2, B := e.B, Length := e.Length, Risk := e.Risk } : Fiber)).set (i).toNat ({ A := e2.A, B := w64 (k2 + 1), Length := e2.Length, Risk := e2.Risk } : Fiber)) i).bind fun e3 =>
      (idx (((a2.set (i).toNat ({ A := k2, B := e.B, Length := e.Length, Risk := e.Risk } : Fiber)).set (i).toNat ({ A := e2.A, B := w64 (k2 + 1), Length := e2.Length, Risk := e2.Risk } : Fiber)).set (i).toNat ({ A := e3.A, B := e3.B, Length := w64 ((w64 (k2 + 1)) + 1), Risk := e3.Risk } : Fiber)) i).bind fun e4 =>
      laws_markFiberS_L1 fu fk ((((a2.set (i).toNat ({ A := k2, B := e.B, Length := e.Length, Risk := e.Risk } : Fiber)).set (i).toNat ({ A := e2.A, B := w64 (k2 + 1), Length := e2.Length, Risk := e2.Risk } : Fiber)).set (i).toNat ({ A := e3.A, B := e3.B, Length := w64 ((w64 (k2 + 1)) + 1), Risk := e3.Risk } : Fiber)).set (i).toNat ({ A := e4.A, B := e4.B, Length := e4.Length, Risk := w64 ((w64 ((w64 (k2 + 1)) + 1)) + 1) } : Fiber)) (w64 ((w64 ((w64 ((w64 (k2 + 1)) + 1)) + 1)) + 1)) (w64 (i + 1))
    else
      some (a2, k2, i)
def laws_markFiberS (fu : Nat) (a' : List Fiber) (k' : Int) : Option (Int × List Fiber) :=
  (laws_markFiberS_L1 fu fu a' k' 0).bind fun z =>
  some (z.2.1, z.1)

/- loop.example/g00897/laws.markNetwork -/
def laws_markNetwork (fu : Nat) (a' : Network) (k' : Int) : Option (Int × Network) :=
  (laws_markStringS fu a'.Nodes k').bind fun y =>
  (laws_markFiberS fu a'.Fibers y.1).bind fun y2 =>
  some (y2.1, ({ Nodes := y.2, Fibers := y2.2 } : Network))

/- loop.example/g00897/laws.markIntS -/
def laws_markIntS_L1 (fu : Nat) : Nat → List Int → Int → Int → Option (List Int × Int × Int)
  | 0, _, _, _ => none
  | fk + 1, a2, k2, i =>
    if decide (i < (a2.length : Int)) then
      (idx a2 i).bind fun e =>
      laws_markIntS_L1 fu fk (a2.set (i).toNat k2) (w64 (k2 + 1)) (w64 (i + 1))
    else
      some (a2, k2, i)
def laws_markIntS (fu : Nat) (a' : List Int) (k' : Int) : Option (Int × List Int) :=
  (laws_markIntS_L1 fu fu a' k' 0).bind fun z =>
  some (z.2.1, z.1)

/- loop.example/g00897/laws.markLightS -/
def laws_markLightS_L1 (fu : Nat) : Nat → List Light → Int → Int → Option (List Light × Int × Int)
  | 0, _, _, _ => none
  | fk + 1, a2, k2, i =>
    if decide (i < (a2.length : Int)) then
      (idx a2 i).bind fun e =>
      (idx (a2.set (i).toNat ({ Id := k2, Route := e.Route, Block := e.Block } : Light)) i).bind fun e2 =>
      (idx ((a2.set (i).toNat ({ Id := k2, Route := e.Route, Block := e.Block } : Light)).set (i).toNat ({ Id := e2.Id, Route := ({ Start := w64 (k2 + 1), Fibers := e2.Route.Fibers } : Route), Block := e2.Block } : Light)) i).bind fun e3 =>
      (laws_markIntS fu e3.Route.Fibers (w64 ((w64 (k2 + 1)) + 1))).bind fun y =>
      (idx (((a2.set (i).toNat ({ Id := k2, Route := e.Route, Block := e.Block } : Light)).set (i).toNat ({ Id := e2.Id, Route := ({ Start := w64 (k2 + 1), Fibers := e2.Route.Fibers } : Route), Block := e2.Block } : Light)).set (i).toNat ({ e3 with Route := { e3.Route with Fibers := y.2 } })) i).bind fun e4 =>
      (idx ((((a2.set (i).toNat ({ Id := k2, Route := e.Route, Block := e.Block } : Light)).set (i).toNat ({ Id := e2.Id, Route := ({ Start := w64 (k2 + 1), Fibers := e2.Route.Fibers } : Route), Block := e2.Block } : Light)).set (i).toNat ({ e3 with Route := { e3.Route with Fibers := y.2 } })).set (i).toNat ({ Id := e4.Id, Route := e4.Route, Block := ({ First := y.1, Count := e4.Block.Count } : Block) } : Light)) i).bind fun e5 =>
      laws_markLightS_L1 fu fk (((((a2.set (i).toNat ({ Id := k2, Route := e.Route, Block := e.Block } : Light)).set (i).toNat ({ Id := e2.Id, Route := ({ Start := w64 (k2 + 1), Fibers := e2.Route.Fibers } : Route), Block := e2.Block } : Light)).set (i).toNat ({ e3 with Route := { e3.Route with Fibers := y.2 } })).set (i).toNat ({ Id := e4.Id, Route := e4.Route, Block := ({ First := y.1, Count := e4.Block.Count } : Block) } : Light)).set (i).toNat ({ Id := e5.Id, Route := e5.Route, Block := ({ First := e5.Block.First, Count := w64 (y.1 + 1) } : Block) } : Light)) (w64 ((w64 (y.1 + 1)) + 1)) (w64 (i + 1))
    else
      some (a2, k2, i)
def laws_markLightS (fu : Nat) (a' : List Light) (k' : Int) : Option (Int × List Light) :=
  (laws_markLightS_L1 fu fu a' k' 0).bind fun z =>
  some (z.2.1, z.1)

/- loop.example/g00897/laws.markPlan -/
def laws_markPlan (fu : Nat) (a' : Plan) (k' : Int) : Option (Int × Plan) :=
  (laws_markNetwork fu a'.Network k').bind fun y =>
  (laws_markLightS fu a'.Lights y.1).bind fun y2 =>
  some (y2.1, ({ Network := y.2, Lights := y2.2 } : Plan))

/- loop.example/g00897/laws.heldIntS -/
def laws_heldIntS_L1 (fu : Nat) (a' : List Int) : Nat → Int → Int → Option (Out (Int × Int) (Int))
  | 0, _, _ => none
  | fk + 1, k2, i =>
    if decide (i < (a'.length : Int)) then
      (idx a' i).bind fun e =>
      if e != k2 then
        some (.ret (-1))
      else
        laws_heldIntS_L1 fu a' fk (w64 (k2 + 1)) (w64 (i + 1))
    else
      some (.next (k2, i))
def laws_heldIntS (fu : Nat) (a' : List Int) (k' : Int) : Option (Int) :=
  (laws_heldIntS_L1 fu a' fu k' 0).bind fun out => out.on some fun z =>
  some z.1

/- loop.example/g00897/laws.FnExactFragmentationOf -/
def laws_FnExactFragmentationOf (fu : Nat) (aP : Plan) : Option (Bool) :=
  (laws_szPlan fu aP 1048576).bind fun y =>
  if decide (y < 0) then
    some true
  else
    (laws_toPlan fu aP).bind fun y2 =>
    (spec_FragmentationOf fu y2).bind fun y3 =>
    (laws_toPlan fu aP).bind fun y4 =>
    (impl_FragmentationOf fu y4).bind fun y5 =>
    ((laws_eqIntS fu y5.1 y3.1).bind fun y6 =>
    if !y6 then some true
    else if y5.2.1 != y3.2.1 then some true
    else some (y5.2.2 != y3.2.2)).bind fun c12 =>
    if c12 then
      some false
    else
      (laws_toPlan fu aP).bind fun y7 =>
      (laws_eqPlan fu y4 y7).bind fun y8 =>
      if !y8 then
        some false
      else
        (laws_markPlan fu y4 1).bind fun y9 =>
        (if decide (y9.1 < 0) then some true
        else (laws_eqIntS fu y5.1 y3.1).bind fun y10 =>
        if !y10 then some true
        else if y5.2.1 != y3.2.1 then some true
        else some (y5.2.2 != y3.2.2)).bind fun c16 =>
        if c16 then
          some false
        else
          (laws_markIntS fu y5.1 1).bind fun y11 =>
          (laws_heldIntS fu y11.2 1).bind fun y12 =>
          if decide (y12 < 0) then
            some false
          else
            if y12 != y11.1 then
              some false
            else
              (laws_toPlan fu aP).bind fun y13 =>
              (impl_FragmentationOf fu y13).bind fun y14 =>
              ((laws_eqIntS fu y14.1 y3.1).bind fun y15 =>
              if !y15 then some true
              else if y14.2.1 != y3.2.1 then some true
              else some (y14.2.2 != y3.2.2)).bind fun c21 =>
              if c21 then
                some false
              else
                (laws_heldIntS fu y11.2 1).bind fun y16 =>
                if decide (y16 < 0) then
                  some false
                else
                  if y16 != y11.1 then
                    some false
                  else
                    some true

/- loop.example/g00897/spec.DefragStep -/
def spec_DefragStep (fu : Nat) (p : Plan) (hitless : Bool) : Option (Plan × Int × Bool) :=
  (spec_l9Good fu p).bind fun y =>
  if !y then
    some (({ Network := ({ Nodes := [], Fibers := [] } : Network), Lights := [] } : Plan), 0, false)
  else
    (spec_l21Step fu p hitless).bind fun y2 =>
    some (y2.1, y2.2, true)

/- loop.example/g00897/impl.DefragStep -/
def impl_DefragStep (fu : Nat) (p : Plan) (hitless : Bool) : Option (Plan × Int × Bool) :=
  (impl_IsValidPlan fu p).bind fun y =>
  if !y then
    some (({ Network := ({ Nodes := [], Fibers := [] } : Network), Lights := [] } : Plan), 0, false)
  else
    (impl_lowered fu p hitless).bind fun y2 =>
    some (y2.1, y2.2, true)

/- loop.example/g00897/laws.heldStringS -/
def laws_heldStringS_L1 (fu : Nat) (a' : List ByteArray) : Nat → Int → Int → Option (Out (Int × Int) (Int))
  | 0, _, _ => none
  | fk + 1, k2, i =>
    if decide (i < (a'.length : Int)) then
      (idx a' i).bind fun e =>
      (laws_markText fu k2).bind fun y =>
      if !(e.toList == y.toList) then
        some (.ret (-1))
      else
        laws_heldStringS_L1 fu a' fk (w64 (k2 + 1)) (w64 (i + 1))
    else
      some (.next (k2, i))
def laws_heldStringS (fu : Nat) (a' : List ByteArray) (k' : Int) : Option (Int) :=
  (laws_heldStringS_L1 fu a' fu k' 0).bind fun out => out.on some fun z =>
  some z.1

/- loop.example/g00897/laws.heldFiberS -/
def laws_heldFiberS_L1 (fu : Nat) (a' : List Fiber) : Nat → Int → Int → Option (Out (Int × Int) (Int))
  | 0, _, _ => none
  | fk + 1, k2, i =>
    if decide (i < (a'.length : Int)) then
      (idx a' i).bind fun e =>
      if e.A != k2 then
        some (.ret (-1))
      else
        (idx a' i).bind fun e2 =>
        if e2.B != (w64 (k2 + 1)) then
          some (.ret (-1))
        else
          (idx a' i).bind fun e3 =>
          if e3.Length != (w64 ((w64 (k2 + 1)) + 1)) then
            some (.ret (-1))
          else
            (idx a' i).bind fun e4 =>
            if e4.Risk != (w64 ((w64 ((w64 (k2 + 1)) + 1)) + 1)) then
              some (.ret (-1))
            else
              laws_heldFiberS_L1 fu a' fk (w64 ((w64 ((w64 ((w64 (k2 + 1)) + 1)) + 1)) + 1)) (w64 (i + 1))
    else
      some (.next (k2, i))
def laws_heldFiberS (fu : Nat) (a' : List Fiber) (k' : Int) : Option (Int) :=
  (laws_heldFiberS_L1 fu a' fu k' 0).bind fun out => out.on some fun z =>
  some z.1

/- loop.example/g00897/laws.heldNetwork -/
def laws_heldNetwork (fu : Nat) (a' : Network) (k' : Int) : Option (Int) :=
  (laws_heldStringS fu a'.Nodes k').bind fun y =>
  if decide (y < 0) then
    some (-1)
  else
    (laws_heldFiberS fu a'.Fibers y).bind fun y2 =>
    if decide (y2 < 0) then
      some (-1)
    else
      some y2

/- loop.example/g00897/laws.heldLightS -/
def laws_heldLightS_L1 (fu : Nat) (a' : List Light) : Nat → Int → Int → Option (Out (Int × Int) (Int))
  | 0, _, _ => none
  | fk + 1, k2, i =>
    if decide (i < (a'.length : Int)) then
      (idx a' i).bind fun e =>
      if e.Id != k2 then
        some (.ret (-1))
      else
        (idx a' i).bind fun e2 =>
        if e2.Route.Start != (w64 (k2 + 1)) then
          some (.ret (-1))
        else
          (idx a' i).bind fun e3 =>
          (laws_heldIntS fu e3.Route.Fibers (w64 ((w64 (k2 + 1)) + 1))).bind fun y =>
          if decide (y < 0) then
            some (.ret (-1))
          else
            (idx a' i).bind fun e4 =>
            if e4.Block.First != y then
              some (.ret (-1))
            else
              (idx a' i).bind fun e5 =>
              if e5.Block.Count != (w64 (y + 1)) then
                some (.ret (-1))
              else
                laws_heldLightS_L1 fu a' fk (w64 ((w64 (y + 1)) + 1)) (w64 (i + 1))
    else
      some (.next (k2, i))
def laws_heldLightS (fu : Nat) (a' : List Light) (k' : Int) : Option (Int) :=
  (laws_heldLightS_L1 fu a' fu k' 0).bind fun out => out.on some fun z =>
  some z.1

/- loop.example/g00897/laws.heldPlan -/
def laws_heldPlan (fu : Nat) (a' : Plan) (k' : Int) : Option (Int) :=
  (laws_heldNetwork fu a'.Network k').bind fun y =>
  if decide (y < 0) then
    some (-1)
  else
    (laws_heldLightS fu a'.Lights y).bind fun y2 =>
    if decide (y2 < 0) then
      some (-1)
    else
      some y2

/- loop.example/g00897/laws.FnExactDefragStep -/
def laws_FnExactDefragStep (fu : Nat) (aP : Plan) (aHitless : Bool) : Option (Bool) :=
  (laws_szPlan fu aP 1048576).bind fun y =>
  if decide (y < 0) then
    some true
  else
    (laws_toPlan fu aP).bind fun y2 =>
    (spec_DefragStep fu y2 aHitless).bind fun y3 =>
    (laws_toPlan fu aP).bind fun y4 =>
    (impl_DefragStep fu y4 aHitless).bind fun y5 =>
    ((laws_eqPlan fu y5.1 y3.1).bind fun y6 =>
    if !y6 then some true
    else if y5.2.1 != y3.2.1 then some true
    else some (y5.2.2 != y3.2.2)).bind fun c16 =>
    if c16 then
      some false
    else
      (laws_toPlan fu aP).bind fun y7 =>
      (laws_eqPlan fu y4 y7).bind fun y8 =>
      if !y8 then
        some false
      else
        (laws_markPlan fu y4 1).bind fun y9 =>
        (if decide (y9.1 < 0) then some true
        else (laws_eqPlan fu y5.1 y3.1).bind fun y10 =>
        if !y10 then some true
        else if y5.2.1 != y3.2.1 then some true
        else some (y5.2.2 != y3.2.2)).bind fun c20 =>
        if c20 then
          some false
        else
          (laws_markPlan fu y5.1 1).bind fun y11 =>
          (laws_heldPlan fu y11.2 1).bind fun y12 =>
          if decide (y12 < 0) then
            some false
          else
            if y12 != y11.1 then
              some false
            else
              (laws_toPlan fu aP).bind fun y13 =>
              (impl_DefragStep fu y13 aHitless).bind fun y14 =>
              ((laws_eqPlan fu y14.1 y3.1).bind fun y15 =>
              if !y15 then some true
              else if y14.2.1 != y3.2.1 then some true
              else some (y14.2.2 != y3.2.2)).bind fun c27 =>
              if c27 then
                some false
              else
                (laws_heldPlan fu y11.2 1).bind fun y16 =>
                if decide (y16 < 0) then
                  some false
                else
                  if y16 != y11.1 then
                    some false
                  else
                    some true

/- loop.example/g00897/spec.Defragment -/
def spec_Defragment_L1 (fu : Nat) (hitless : Bool) : Nat → Int → List Int → List ByteArray → List Fiber → List Light → Option (Int × List Int × List ByteArray × List Fiber × List Light)
  | 0, _, _, _, _, _ => none
  | fk + 1, limit2, ids, m, m2, m3 =>
    if decide (limit2 > 0) then
      (spec_l21Step fu ({ Network := ({ Nodes := m, Fibers := m2 } : Network), Lights := m3 } : Plan) hitless).bind fun y4 =>
      if y4.2 == 0 then
        some (limit2, ids, m, m2, m3)
      else
        (app ids [y4.2]).bind fun l =>
        spec_Defragment_L1 fu hitless fk (w64 (limit2 - 1)) l y4.1.Network.Nodes y4.1.Network.Fibers y4.1.Lights
    else
      some (limit2, ids, m, m2, m3)
def spec_Defragment (fu : Nat) (p : Plan) (hitless : Bool) (limit : Int) : Option (Plan × List Int × Bool) :=
  ((spec_l9Good fu p).bind fun y =>
  if !y then some true
  else (spec_l1In fu limit 0 60).bind fun y2 =>
  some (!y2)).bind fun c4 =>
  if c4 then
    some (({ Network := ({ Nodes := [], Fibers := [] } : Network), Lights := [] } : Plan), ([] : List Int), false)
  else
    (spec_l9Own fu p).bind fun y3 =>
    (spec_Defragment_L1 fu hitless fu limit ([] : List Int) y3.Network.Nodes y3.Network.Fibers y3.Lights).bind fun z =>
    some (({ Network := ({ Nodes := z.2.2.1, Fibers := z.2.2.2.1 } : Network), Lights := z.2.2.2.2 } : Plan), z.2.1, true)

/- loop.example/g00897/impl.Defragment -/
def impl_Defragment_L1 (fu : Nat) (hitless : Bool) (limit : Int) : Nat → List Int → Int → List ByteArray → List Fiber → List Light → Option (List Int × Int × List ByteArray × List Fiber × List Light)
  | 0, _, _, _, _, _ => none
  | fk + 1, ids, i, m, m2, m3 =>
    if decide (i < limit) then
      (impl_lowered fu ({ Network := ({ Nodes := m, Fibers := m2 } : Network), Lights := m3 } : Plan) hitless).bind fun y4 =>
      if y4.2 == 0 then
        some (ids, i, m, m2, m3)
      else
        (app ids [y4.2]).bind fun l =>
        impl_Defragment_L1 fu hitless limit fk l (w64 (i + 1)) y4.1.Network.Nodes y4.1.Network.Fibers y4.1.Lights
    else
      some (ids, i, m, m2, m3)
def impl_Defragment (fu : Nat) (p : Plan) (hitless : Bool) (limit : Int) : Option (Plan × List Int × Bool) :=
  ((impl_IsValidPlan fu p).bind fun y =>
  if !y then some true
  else (impl_within fu limit 0 60).bind fun y2 =>
  some (!y2)).bind fun c4 =>
  if c4 then
    some (({ Network := ({ Nodes := [], Fibers := [] } : Network), Lights := [] } : Plan), [], false)
  else
    (impl_copyPlan fu p).bind fun y3 =>
    (impl_Defragment_L1 fu hitless limit fu ([] : List Int) 0 y3.Network.Nodes y3.Network.Fibers y3.Lights).bind fun z =>
    some (({ Network := ({ Nodes := z.2.2.1, Fibers := z.2.2.2.1 } : Network), Lights := z.2.2.2.2 } : Plan), z.1, true)

/- loop.example/g00897/laws.FnExactDefragment -/
def laws_FnExactDefragment (fu : Nat) (aP : Plan) (aHitless : Bool) (aLimit : Int) : Option (Bool) :=
  (laws_szPlan fu aP 1048576).bind fun y =>
  if decide (y < 0) then
    some true
  else
    (laws_toPlan fu aP).bind fun y2 =>
    (spec_Defragment fu y2 aHitless aLimit).bind fun y3 =>
    (laws_toPlan fu aP).bind fun y4 =>
    (impl_Defragment fu y4 aHitless aLimit).bind fun y5 =>
    ((laws_eqPlan fu y5.1 y3.1).bind fun y6 =>
    if !y6 then some true
    else (laws_eqIntS fu y5.2.1 y3.2.1).bind fun y7 =>
    if !y7 then some true
    else some (y5.2.2 != y3.2.2)).bind fun c18 =>
    if c18 then
      some false
    else
      (laws_toPlan fu aP).bind fun y8 =>
      (laws_eqPlan fu y4 y8).bind fun y9 =>
      if !y9 then
        some false
      else
        (laws_markPlan fu y4 1).bind fun y10 =>
        (if decide (y10.1 < 0) then some true
        else (laws_eqPlan fu y5.1 y3.1).bind fun y11 =>
        if !y11 then some true
        else (laws_eqIntS fu y5.2.1 y3.2.1).bind fun y12 =>
        if !y12 then some true
        else some (y5.2.2 != y3.2.2)).bind fun c22 =>
        if c22 then
          some false
        else
          (laws_markPlan fu y5.1 1).bind fun y13 =>
          (laws_markIntS fu y5.2.1 y13.1).bind fun y14 =>
          (laws_heldPlan fu y13.2 1).bind fun y15 =>
          if decide (y15 < 0) then
            some false
          else
            (laws_heldIntS fu y14.2 y15).bind fun y16 =>
            if decide (y16 < 0) then
              some false
            else
              if y16 != y14.1 then
                some false
              else
                (laws_toPlan fu aP).bind fun y17 =>
                (impl_Defragment fu y17 aHitless aLimit).bind fun y18 =>
                ((laws_eqPlan fu y18.1 y3.1).bind fun y19 =>
                if !y19 then some true
                else (laws_eqIntS fu y18.2.1 y3.2.1).bind fun y20 =>
                if !y20 then some true
                else some (y18.2.2 != y3.2.2)).bind fun c30 =>
                if c30 then
                  some false
                else
                  (laws_heldPlan fu y13.2 1).bind fun y21 =>
                  if decide (y21 < 0) then
                    some false
                  else
                    (laws_heldIntS fu y14.2 y21).bind fun y22 =>
                    if decide (y22 < 0) then
                      some false
                    else
                      if y22 != y14.1 then
                        some false
                      else
                        some true

/- loop.example/g00897/spec.l4Nodes -/
def spec_l4Nodes (fu : Nat) (n' : Network) (r' : Route) : Option (List Int) :=
  (spec_l4Walk fu n' r').bind fun y =>
  some y.1

/- loop.example/g00897/spec.RegeneratorsFor -/
def spec_RegeneratorsFor_L1 (fu : Nat) (n' : Network) (r' : Route) (reach : Int) (y3 : List Int) : Nat → List Int → Int → Int → Option (Out (List Int × Int × Int) (List Int × Bool))
  | 0, _, _, _ => none
  | fk + 1, out', sum, i =>
    if decide (i < (r'.Fibers.length : Int)) then
      (idx r'.Fibers i).bind fun e =>
      (idx n'.Fibers e).bind fun e2 =>
      if decide (e2.Length > reach) then
        some (.ret (([] : List Int), false))
      else
        if decide ((w64 (sum + e2.Length)) > reach) then
          (idx y3 i).bind fun e3 =>
          (app out' [e3]).bind fun l =>
          spec_RegeneratorsFor_L1 fu n' r' reach y3 fk l (w64 (0 + e2.Length)) (w64 (i + 1))
        else
          spec_RegeneratorsFor_L1 fu n' r' reach y3 fk out' (w64 (sum + e2.Length)) (w64 (i + 1))
    else
      some (.next (out', sum, i))
def spec_RegeneratorsFor (fu : Nat) (n' : Network) (r' : Route) (reach : Int) : Option (List Int × Bool) :=
  ((spec_l4Good fu n' r').bind fun y =>
  if !y then some true
  else (spec_l1In fu reach 1 20000).bind fun y2 =>
  some (!y2)).bind fun c4 =>
  if c4 then
    some (([] : List Int), false)
  else
    (spec_l4Nodes fu n' r').bind fun y3 =>
    (spec_RegeneratorsFor_L1 fu n' r' reach y3 fu ([] : List Int) 0 0).bind fun out => out.on some fun z =>
    some (z.1, true)

/- loop.example/g00897/spec.l19Before -/
def spec_l19Before (fu : Nat) (a' : Item) (b' : Item) : Option (Bool) :=
  (if decide (a'.Kind < b'.Kind) then some true
  else if a'.Kind == b'.Kind then some (decide (a'.Node < b'.Node))
  else some false).bind fun c =>
  some c

/- loop.example/g00897/spec.l19Add -/
def spec_l19Add_L1 (fu : Nat) (bill : List Item) (x1 : Item) : Nat → Int → Option (Int)
  | 0, _ => none
  | fk + 1, i =>
    (if decide (i < (bill.length : Int)) then (idx bill i).bind fun e =>
    (spec_l19Before fu e x1).bind fun y =>
    some y
    else some false).bind fun c2 =>
    if c2 then
      spec_l19Add_L1 fu bill x1 fk (w64 (i + 1))
    else
      some i
def spec_l19Add (fu : Nat) (bill : List Item) (x1 : Item) : Option (List Item) :=
  if x1.Count == 0 then
    some bill
  else
    (spec_l19Add_L1 fu bill x1 fu 0).bind fun z =>
    (sub bill 0 z).bind fun l =>
    (app ([] : List Item) l).bind fun l2 =>
    (if decide (z < (bill.length : Int)) then (idx bill z).bind fun e2 =>
    (spec_l19Before fu x1 e2).bind fun y2 =>
    some (!y2)
    else some false).bind fun c5 =>
    if c5 then
      (idx bill z).bind fun e3 =>
      (sub bill (w64 (z + 1)) (bill.length : Int)).bind fun l3 =>
      (app l2 [({ Kind := x1.Kind, Node := x1.Node, Count := w64 (x1.Count + e3.Count) } : Item)]).bind fun l4 =>
      (app l4 l3).bind fun l5 =>
      some l5
    else
      (sub bill z (bill.length : Int)).bind fun l6 =>
      (app l2 [x1]).bind fun l7 =>
      (app l7 l6).bind fun l8 =>
      some l8

/- loop.example/g00897/spec.l4End -/
def spec_l4End (fu : Nat) (n' : Network) (r' : Route) : Option (Int) :=
  (spec_l4Nodes fu n' r').bind fun y =>
  (idx y (w64 ((y.length : Int) - 1))).bind fun e =>
  some e

/- loop.example/g00897/spec.l19Bill -/
def spec_l19Bill_L1 (fu : Nat) (bill : List Item) : Nat → Int → Option (Out (Int) (Bool))
  | 0, _ => none
  | fk + 1, i =>
    if decide (i < (bill.length : Int)) then
      (idx bill i).bind fun e =>
      ((spec_l1In fu e.Kind 1 4).bind fun y =>
      if !y then some true
      else (spec_l1In fu e.Node 0 7).bind fun y2 =>
      if !y2 then some true
      else (spec_l1In fu e.Count 1 1000).bind fun y3 =>
      if !y3 then some true
      else if decide (i > 0) then (idx bill (w64 (i - 1))).bind fun e2 =>
      (spec_l19Before fu e2 e).bind fun y4 =>
      some (!y4)
      else some false).bind fun c2 =>
      if c2 then
        some (.ret false)
      else
        spec_l19Bill_L1 fu bill fk (w64 (i + 1))
    else
      some (.next i)
def spec_l19Bill (fu : Nat) (bill : List Item) : Option (Bool) :=
  (spec_l19Bill_L1 fu bill fu 0).bind fun out => out.on some fun z =>
  some (decide ((bill.length : Int) ≤ 32))

/- loop.example/g00897/spec.BillOf -/
def spec_BillOf_L2 (fu : Nat) (y4 : List Int × Bool) : Nat → List Item → Int → Option (List Item × Int)
  | 0, _, _ => none
  | fk + 1, out3, k' =>
    if decide (k' < (y4.1.length : Int)) then
      (idx y4.1 k').bind fun e2 =>
      (spec_l19Add fu out3 ({ Kind := 2, Node := e2, Count := 1 } : Item)).bind fun y8 =>
      spec_BillOf_L2 fu y4 fk y8 (w64 (k' + 1))
    else
      some (out3, k')
def spec_BillOf_L1 (fu : Nat) (p : Plan) (reach : Int) : Nat → List Item → Int → Option (Out (List Item × Int) (List Item × Bool))
  | 0, _, _ => none
  | fk + 1, out', i =>
    if decide (i < (p.Lights.length : Int)) then
      (idx p.Lights i).bind fun e =>
      (spec_RegeneratorsFor fu p.Network e.Route reach).bind fun y4 =>
      if !y4.2 then
        some (.ret (([] : List Item), false))
      else
        (spec_l19Add fu out' ({ Kind := 1, Node := e.Route.Start, Count := 1 } : Item)).bind fun y5 =>
        (spec_l4End fu p.Network e.Route).bind fun y6 =>
        (spec_l19Add fu y5 ({ Kind := 1, Node := y6, Count := 1 } : Item)).bind fun y7 =>
        (spec_BillOf_L2 fu y4 fu y7 0).bind fun z =>
        spec_BillOf_L1 fu p reach fk z.1 (w64 (i + 1))
    else
      some (.next (out', i))
def spec_BillOf_L3 (fu : Nat) (p : Plan) (spacing : Int) : Nat → Int → List Item → Option (Int × List Item)
  | 0, _, _ => none
  | fk + 1, i3, out7 =>
    if decide (i3 < (p.Network.Fibers.length : Int)) then
      (spec_l9Used fu p i3).bind fun y9 =>
      if y9 == 0 then
        spec_BillOf_L3 fu p spacing fk (w64 (i3 + 1)) out7
      else
        (idx p.Network.Fibers i3).bind fun e3 =>
        (spec_l19Add fu out7 ({ Kind := 4, Node := e3.A, Count := 1 } : Item)).bind fun y10 =>
        (spec_l19Add fu y10 ({ Kind := 4, Node := e3.B, Count := 1 } : Item)).bind fun y11 =>
        (quo (w64 ((w64 (e3.Length + spacing)) - 1)) spacing).bind fun q =>
        (spec_l19Add fu y11 ({ Kind := 3, Node := e3.A, Count := w64 (q - 1) } : Item)).bind fun y12 =>
        spec_BillOf_L3 fu p spacing fk (w64 (i3 + 1)) y12
    else
      some (i3, out7)
def spec_BillOf (fu : Nat) (p : Plan) (reach : Int) (spacing : Int) : Option (List Item × Bool) :=
  ((spec_l9Good fu p).bind fun y =>
  if !y then some true
  else (spec_l1In fu reach 1 20000).bind fun y2 =>
  if !y2 then some true
  else (spec_l1In fu spacing 50 1000).bind fun y3 =>
  some (!y3)).bind fun c4 =>
  if c4 then
    some (([] : List Item), false)
  else
    (spec_BillOf_L1 fu p reach fu ([] : List Item) 0).bind fun out => out.on some fun z3 =>
    (spec_BillOf_L3 fu p spacing fu 0 z3.1).bind fun z2 =>
    (spec_l19Bill fu z2.2).bind fun y13 =>
    if !y13 then
      some (([] : List Item), false)
    else
      some (z2.2, true)

/- loop.example/g00897/impl.regenerators -/
def impl_regenerators_L1 (fu : Nat) (n' : Network) (r' : Route) (reach : Int) (y : List Int × Bool) : Nat → List Int → Int → Int → Option (Out (List Int × Int × Int) (List Int × Bool))
  | 0, _, _, _ => none
  | fk + 1, out', far, i =>
    if decide (i < (r'.Fibers.length : Int)) then
      (idx r'.Fibers i).bind fun e =>
      (idx n'.Fibers e).bind fun e2 =>
      if decide (e2.Length > reach) then
        some (.ret ([], false))
      else
        if decide ((w64 (far + e2.Length)) > reach) then
          (idx y.1 i).bind fun e3 =>
          (app out' [e3]).bind fun l =>
          impl_regenerators_L1 fu n' r' reach y fk l (w64 (0 + e2.Length)) (w64 (i + 1))
        else
          impl_regenerators_L1 fu n' r' reach y fk out' (w64 (far + e2.Length)) (w64 (i + 1))
    else
      some (.next (out', far, i))
def impl_regenerators (fu : Nat) (n' : Network) (r' : Route) (reach : Int) : Option (List Int × Bool) :=
  (impl_visited fu n' r').bind fun y =>
  (impl_regenerators_L1 fu n' r' reach y fu ([] : List Int) 0 0).bind fun out => out.on some fun z =>
  some (z.1, true)

/- loop.example/g00897/impl.endOf -/
def impl_endOf (fu : Nat) (n' : Network) (r' : Route) : Option (Int) :=
  (impl_visited fu n' r').bind fun y =>
  (idx y.1 (w64 ((y.1.length : Int) - 1))).bind fun e =>
  some e

/- loop.example/g00897/impl.isBill -/
def impl_isBill_L1 (fu : Nat) (bill : List Item) : Nat → Int → Option (Out (Int) (Bool))
  | 0, _ => none
  | fk + 1, i =>
    if decide (i < (bill.length : Int)) then
      (idx bill i).bind fun e =>
      ((impl_within fu e.Kind 1 4).bind fun y =>
      if !y then some true
      else (impl_within fu e.Node 0 7).bind fun y2 =>
      if !y2 then some true
      else (impl_within fu e.Count 1 1000).bind fun y3 =>
      some (!y3)).bind fun c2 =>
      if c2 then
        some (.ret false)
      else
        (if decide (i > 0) then (idx bill (w64 (i - 1))).bind fun e2 =>
        (idx bill (w64 (i - 1))).bind fun e3 =>
        some (decide ((w64 ((w64 (e2.Kind * 8)) + e3.Node)) ≥ (w64 ((w64 (e.Kind * 8)) + e.Node))))
        else some false).bind fun c3 =>
        if c3 then
          some (.ret false)
        else
          impl_isBill_L1 fu bill fk (w64 (i + 1))
    else
      some (.next i)
def impl_isBill (fu : Nat) (bill : List Item) : Option (Bool) :=
  (impl_isBill_L1 fu bill fu 0).bind fun out => out.on some fun z =>
  some (decide ((bill.length : Int) ≤ 32))

/- (*loop.example/g00897/impl.tally).bill -/
def impl_tally_bill_L2 (fu : Nat) (z : IA 8) (kind : Int) : Nat → List Item → Int → Option (List Item × Int)
  | 0, _, _ => none
  | fk + 1, out3, i =>
    if decide (i < 8) then
      (idx z.l i).bind fun e =>
      if decide (e > 0) then
        (app out3 [({ Kind := kind, Node := i, Count := e } : Item)]).bind fun l =>
        impl_tally_bill_L2 fu z kind fk l (w64 (i + 1))
      else
        impl_tally_bill_L2 fu z kind fk out3 (w64 (i + 1))
    else
      some (out3, i)
def impl_tally_bill_L1 (fu : Nat) (t : IA 40) : Nat → List Item → Int → Option (List Item × Int)
  | 0, _, _ => none
  | fk + 1, out', kind =>
    if decide (kind ≤ 4) then
      (chk kind 5).bind fun q =>
      (t.part (q * 8) 8).bind fun z =>
      (impl_tally_bill_L2 fu z kind fu out' 0).bind fun z2 =>
      impl_tally_bill_L1 fu t fk z2.1 (w64 (kind + 1))
    else
      some (out', kind)
def impl_tally_bill (fu : Nat) (t : IA 40) : Option (List Item × Bool) :=
  (impl_tally_bill_L1 fu t fu ([] : List Item) 1).bind fun z3 =>
  (impl_isBill fu z3.1).bind fun y =>
  if !y then
    some ([], false)
  else
    some (z3.1, true)

/- loop.example/g00897/impl.BillOf -/
def impl_BillOf_L2 (fu : Nat) (y4 : List Int × Bool) : Nat → Int → IA 40 → Option (Int × IA 40)
  | 0, _, _ => none
  | fk + 1, i2, m2 =>
    if decide (i2 < (y4.1.length : Int)) then
      (idx y4.1 i2).bind fun e4 =>
      (chk 2 5).bind fun q9 =>
      (chk e4 8).bind fun q10 =>
      (m2.get (0 + q9 * 8 + q10 * 1)).bind fun e5 =>
      (chk 2 5).bind fun q11 =>
      (chk e4 8).bind fun q12 =>
      (m2.put (0 + q11 * 8 + q12 * 1) (w64 (e5 + 1))).bind fun x3 =>
      impl_BillOf_L2 fu y4 fk (w64 (i2 + 1)) x3
    else
      some (i2, m2)
def impl_BillOf_L1 (fu : Nat) (p : Plan) (reach : Int) : Nat → Int → IA 40 → Option (Out (Int × IA 40) (List Item × Bool))
  | 0, _, _ => none
  | fk + 1, i, m =>
    if decide (i < (p.Lights.length : Int)) then
      (idx p.Lights i).bind fun e =>
      (impl_regenerators fu p.Network e.Route reach).bind fun y4 =>
      if !y4.2 then
        some (.ret ([], false))
      else
        (chk 1 5).bind fun q =>
        (chk e.Route.Start 8).bind fun q2 =>
        (m.get (0 + q * 8 + q2 * 1)).bind fun e2 =>
        (chk 1 5).bind fun q3 =>
        (chk e.Route.Start 8).bind fun q4 =>
        (m.put (0 + q3 * 8 + q4 * 1) (w64 (e2 + 1))).bind fun x1 =>
        (chk 1 5).bind fun q5 =>
        (chk 1 5).bind fun q6 =>
        (impl_endOf fu p.Network e.Route).bind fun y5 =>
        (chk y5 8).bind fun q7 =>
        (x1.get (0 + q5 * 8 + q7 * 1)).bind fun e3 =>
        (chk y5 8).bind fun q8 =>
        (x1.put (0 + q6 * 8 + q8 * 1) (w64 (e3 + 1))).bind fun x2 =>
        (impl_BillOf_L2 fu y4 fu 0 x2).bind fun z =>
        impl_BillOf_L1 fu p reach fk (w64 (i + 1)) z.2
    else
      some (.next (i, m))
def impl_BillOf_L3 (fu : Nat) (p : Plan) (spacing : Int) (y6 : List Int) : Nat → Int → IA 40 → Option (Int × IA 40)
  | 0, _, _ => none
  | fk + 1, i5, m5 =>
    if decide (i5 < (y6.length : Int)) then
      (idx y6 i5).bind fun e6 =>
      (idx p.Network.Fibers i5).bind fun e7 =>
      if e6 != 0 then
        (chk 4 5).bind fun q13 =>
        (chk e7.A 8).bind fun q14 =>
        (m5.get (0 + q13 * 8 + q14 * 1)).bind fun e8 =>
        (chk 4 5).bind fun q15 =>
        (chk e7.A 8).bind fun q16 =>
        (m5.put (0 + q15 * 8 + q16 * 1) (w64 (e8 + 1))).bind fun x4 =>
        (chk 4 5).bind fun q17 =>
        (chk e7.B 8).bind fun q18 =>
        (x4.get (0 + q17 * 8 + q18 * 1)).bind fun e9 =>
        (chk 4 5).bind fun q19 =>
        (chk e7.B 8).bind fun q20 =>
        (x4.put (0 + q19 * 8 + q20 * 1) (w64 (e9 + 1))).bind fun x5 =>
        (chk 3 5).bind fun q21 =>
        (chk e7.A 8).bind fun q22 =>
        (x5.get (0 + q21 * 8 + q22 * 1)).bind fun e10 =>
        (quo (w64 ((w64 (e7.Length + spacing)) - 1)) spacing).bind fun q23 =>
        (chk 3 5).bind fun q24 =>
        (chk e7.A 8).bind fun q25 =>
        (x5.put (0 + q24 * 8 + q25 * 1) (w64 (e10 + (w64 (q23 - 1))))).bind fun x6 =>
        impl_BillOf_L3 fu p spacing y6 fk (w64 (i5 + 1)) x6
      else
        impl_BillOf_L3 fu p spacing y6 fk (w64 (i5 + 1)) m5
    else
      some (i5, m5)
def impl_BillOf (fu : Nat) (p : Plan) (reach : Int) (spacing : Int) : Option (List Item × Bool) :=
  ((impl_IsValidPlan fu p).bind fun y =>
  if !y then some true
  else (impl_within fu reach 1 20000).bind fun y2 =>
  if !y2 then some true
  else (impl_within fu spacing 50 1000).bind fun y3 =>
  some (!y3)).bind fun c4 =>
  if c4 then
    some ([], false)
  else
    (impl_BillOf_L1 fu p reach fu 0 (⟨[0, 0, 0, 0, 0, 0, 0, 0, 0, 0, 0, 0, 0, 0, 0, 0, 0, 0, 0, 0, 0, 0, 0, 0, 0, 0, 0, 0, 0, 0, 0, 0, 0, 0, 0, 0, 0, 0, 0, 0], rfl⟩ : IA 40)).bind fun out => out.on some fun z3 =>
    (impl_fiberMasks fu p).bind fun y6 =>
    (impl_BillOf_L3 fu p spacing y6 fu 0 z3.2).bind fun z2 =>
    (impl_tally_bill fu z2.2).bind fun y7 =>
    some (y7.1, y7.2)

/- loop.example/g00897/laws.eqItem -/
def laws_eqItem (fu : Nat) (a' : Item) (b' : Item) : Option (Bool) :=
  if a'.Kind != b'.Kind then
    some false
  else
    if a'.Node != b'.Node then
      some false
    else
      if a'.Count != b'.Count then
        some false
      else
        some true

/- loop.example/g00897/laws.eqItemS -/
def laws_eqItemS_L1 (fu : Nat) (a' : List Item) (b' : List Item) : Nat → Int → Option (Out (Int) (Bool))
  | 0, _ => none
  | fk + 1, i =>
    if decide (i < (a'.length : Int)) then
      (idx a' i).bind fun e =>
      (idx b' i).bind fun e2 =>
      (laws_eqItem fu e e2).bind fun y =>
      if !y then
        some (.ret false)
      else
        laws_eqItemS_L1 fu a' b' fk (w64 (i + 1))
    else
      some (.next i)
def laws_eqItemS (fu : Nat) (a' : List Item) (b' : List Item) : Option (Bool) :=
  if (a'.length : Int) != (b'.length : Int) then
    some false
  else
    (laws_eqItemS_L1 fu a' b' fu 0).bind fun out => out.on some fun z =>
    some true

/- loop.example/g00897/laws.markItemS -/
def laws_markItemS_L1 (fu : Nat) : Nat → List Item → Int → Int → Option (List Item × Int × Int)
  | 0, _, _, _ => none
  | fk + 1, a2, k2, i =>
    if decide (i < (a2.length : Int)) then
      (idx a2 i).bind fun e =>
      (idx (a2.set (i).toNat ({ Kind := k2, Node := e.Node, Count := e.Count } : Item)) i).bind fun e2 =>
      (idx ((a2.set (i).toNat ({ Kind := k2, Node := e.Node, Count := e.Count } : Item)).set (i).toNat ({ Kind := e2.Kind, Node := w64 (k2 + 1), Count := e2.Count } : Item)) i).bind fun e3 =>
      laws_markItemS_L1 fu fk (((a2.set (i).toNat ({ Kind := k2, Node := e.Node, Count := e.Count } : Item)).set (i).toNat ({ Kind := e2.Kind, Node := w64 (k2 + 1), Count := e2.Count } : Item)).set (i).toNat ({ Kind := e3.Kind, Node := e3.Node, Count := w64 ((w64 (k2 + 1)) + 1) } : Item)) (w64 ((w64 ((w64 (k2 + 1)) + 1)) + 1)) (w64 (i + 1))
    else
      some (a2, k2, i)
def laws_markItemS (fu : Nat) (a' : List Item) (k' : Int) : Option (Int × List Item) :=
  (laws_markItemS_L1 fu fu a' k' 0).bind fun z =>
  some (z.2.1, z.1)

/- loop.example/g00897/laws.heldItemS -/
def laws_heldItemS_L1 (fu : Nat) (a' : List Item) : Nat → Int → Int → Option (Out (Int × Int) (Int))
  | 0, _, _ => none
  | fk + 1, k2, i =>
    if decide (i < (a'.length : Int)) then
      (idx a' i).bind fun e =>
      if e.Kind != k2 then
        some (.ret (-1))
      else
        (idx a' i).bind fun e2 =>
        if e2.Node != (w64 (k2 + 1)) then
          some (.ret (-1))
        else
          (idx a' i).bind fun e3 =>
          if e3.Count != (w64 ((w64 (k2 + 1)) + 1)) then
            some (.ret (-1))
          else
            laws_heldItemS_L1 fu a' fk (w64 ((w64 ((w64 (k2 + 1)) + 1)) + 1)) (w64 (i + 1))
    else
      some (.next (k2, i))
def laws_heldItemS (fu : Nat) (a' : List Item) (k' : Int) : Option (Int) :=
  (laws_heldItemS_L1 fu a' fu k' 0).bind fun out => out.on some fun z =>
  some z.1

/- loop.example/g00897/laws.FnExactBillOf -/
def laws_FnExactBillOf (fu : Nat) (aP : Plan) (aReach : Int) (aSpacing : Int) : Option (Bool) :=
  (laws_szPlan fu aP 1048576).bind fun y =>
  if decide (y < 0) then
    some true
  else
    (laws_toPlan fu aP).bind fun y2 =>
    (spec_BillOf fu y2 aReach aSpacing).bind fun y3 =>
    (laws_toPlan fu aP).bind fun y4 =>
    (impl_BillOf fu y4 aReach aSpacing).bind fun y5 =>
    ((laws_eqItemS fu y5.1 y3.1).bind fun y6 =>
    if !y6 then some true
    else some (y5.2 != y3.2)).bind fun c12 =>
    if c12 then
      some false
    else
      (laws_toPlan fu aP).bind fun y7 =>
      (laws_eqPlan fu y4 y7).bind fun y8 =>
      if !y8 then
        some false
      else
        (laws_markPlan fu y4 1).bind fun y9 =>
        (if decide (y9.1 < 0) then some true
        else (laws_eqItemS fu y5.1 y3.1).bind fun y10 =>
        if !y10 then some true
        else some (y5.2 != y3.2)).bind fun c16 =>
        if c16 then
          some false
        else
          (laws_markItemS fu y5.1 1).bind fun y11 =>
          (laws_heldItemS fu y11.2 1).bind fun y12 =>
          if decide (y12 < 0) then
            some false
          else
            if y12 != y11.1 then
              some false
            else
              (laws_toPlan fu aP).bind fun y13 =>
              (impl_BillOf fu y13 aReach aSpacing).bind fun y14 =>
              ((laws_eqItemS fu y14.1 y3.1).bind fun y15 =>
              if !y15 then some true
              else some (y14.2 != y3.2)).bind fun c21 =>
              if c21 then
                some false
              else
                (laws_heldItemS fu y11.2 1).bind fun y16 =>
                if decide (y16 < 0) then
                  some false
                else
                  if y16 != y11.1 then
                    some false
                  else
                    some true

/- loop.example/g00897/spec.l21Requests -/
def spec_l21Requests_L1 (fu : Nat) (p : Plan) : Nat → List Request → Int → Option (List Request × Int)
  | 0, _, _ => none
  | fk + 1, out', i =>
    if decide (i < (p.Lights.length : Int)) then
      (idx p.Lights i).bind fun e =>
      (idx p.Lights i).bind fun e2 =>
      (app out' [({ Route := e.Route, Count := e2.Block.Count } : Request)]).bind fun l =>
      spec_l21Requests_L1 fu p fk l (w64 (i + 1))
    else
      some (out', i)
def spec_l21Requests (fu : Nat) (p : Plan) : Option (List Request) :=
  (spec_l21Requests_L1 fu p fu ([] : List Request) 0).bind fun z =>
  some z.1

/- loop.example/g00897/spec.l12Conflict -/
def spec_l12Conflict (fu : Nat) (a' : Request) (b' : Request) : Option (Bool) :=
  (spec_l4Uses fu a'.Route b'.Route.Fibers).bind fun y =>
  some y

/- loop.example/g00897/spec.l12Clique -/
def spec_l12Clique_L2 (fu : Nat) (list : List Request) (mask : Int) (i : Int) : Nat → Int → Option (Out (Int) (Int))
  | 0, _ => none
  | fk + 1, k' =>
    if decide (k' < i) then
      ((shr mask (wu64 k')).bind fun q2 =>
      if (band q2 1) == 1 then (idx list i).bind fun e2 =>
      (idx list k').bind fun e3 =>
      (spec_l12Conflict fu e2 e3).bind fun y =>
      some (!y)
      else some false).bind fun c3 =>
      if c3 then
        some (.ret (-1))
      else
        spec_l12Clique_L2 fu list mask i fk (w64 (k' + 1))
    else
      some (.next k')
def spec_l12Clique_L1 (fu : Nat) (list : List Request) (mask : Int) : Nat → Int → Int → Option (Out (Int × Int) (Int))
  | 0, _, _ => none
  | fk + 1, i, sum =>
    if decide (i < (list.length : Int)) then
      (shr mask (wu64 i)).bind fun q =>
      if (band q 1) == 0 then
        spec_l12Clique_L1 fu list mask fk (w64 (i + 1)) sum
      else
        (idx list i).bind fun e =>
        (spec_l12Clique_L2 fu list mask i fu 0).bind fun out => out.on (fun r => some (.ret r)) fun z =>
        spec_l12Clique_L1 fu list mask fk (w64 (i + 1)) (w64 (sum + e.Count))
    else
      some (.next (i, sum))
def spec_l12Clique (fu : Nat) (list : List Request) (mask : Int) : Option (Int) :=
  (spec_l12Clique_L1 fu list mask fu 0 0).bind fun out => out.on some fun z2 =>
  some z2.2

/- loop.example/g00897/spec.l12Bound -/
def spec_l12Bound_L1 (fu : Nat) (list : List Request) : Nat → Int → Int → Int → Option (Int × Int × Int)
  | 0, _, _, _ => none
  | fk + 1, most, best, mask =>
    (shl 1 (wu64 (list.length : Int))).bind fun q =>
    if decide (mask < q) then
      (spec_l12Clique fu list mask).bind fun y =>
      if decide (y > most) then
        spec_l12Bound_L1 fu list fk y mask (w64 (mask + 1))
      else
        spec_l12Bound_L1 fu list fk most best (w64 (mask + 1))
    else
      some (most, best, mask)
def spec_l12Bound (fu : Nat) (list : List Request) : Option (Int × Int) :=
  (spec_l12Bound_L1 fu list fu 0 0 1).bind fun z =>
  some (z.1, z.2.1)

/- loop.example/g00897/spec.l12Taken -/
def spec_l12Taken_L1 (fu : Nat) (list : List Request) (blocks : List Block) (i : Int) : Nat → Int → Int → Option (Int × Int)
  | 0, _, _ => none
  | fk + 1, out', k' =>
    if decide (k' < (list.length : Int)) then
      (if k' != i then (idx blocks k').bind fun e =>
      if decide (e.Count > 0) then (idx list k').bind fun e2 =>
      (idx list i).bind fun e3 =>
      (spec_l12Conflict fu e2 e3).bind fun y =>
      some y
      else some false
      else some false).bind fun c3 =>
      if c3 then
        (idx blocks k').bind fun e4 =>
        (spec_l8Bits fu e4).bind fun y2 =>
        spec_l12Taken_L1 fu list blocks i fk (bor out' y2) (w64 (k' + 1))
      else
        spec_l12Taken_L1 fu list blocks i fk out' (w64 (k' + 1))
    else
      some (out', k')
def spec_l12Taken (fu : Nat) (list : List Request) (blocks : List Block) (i : Int) : Option (Int) :=
  (spec_l12Taken_L1 fu list blocks i fu 0 0).bind fun z =>
  some z.1

/- loop.example/g00897/spec.l1Same -/
def spec_l1Same_L1 (fu : Nat) (a' : List Int) (b' : List Int) : Nat → Int → Option (Out (Int) (Bool))
  | 0, _ => none
  | fk + 1, i =>
    if decide (i < (a'.length : Int)) then
      (idx a' i).bind fun e =>
      (idx b' i).bind fun e2 =>
      if e != e2 then
        some (.ret false)
      else
        spec_l1Same_L1 fu a' b' fk (w64 (i + 1))
    else
      some (.next i)
def spec_l1Same (fu : Nat) (a' : List Int) (b' : List Int) : Option (Bool) :=
  if (a'.length : Int) != (b'.length : Int) then
    some false
  else
    (spec_l1Same_L1 fu a' b' fu 0).bind fun out => out.on some fun z =>
    some true

/- loop.example/g00897/spec.l4Same -/
def spec_l4Same (fu : Nat) (a' : Route) (b' : Route) : Option (Bool) :=
  (if a'.Start == b'.Start then (spec_l1Same fu a'.Fibers b'.Fibers).bind fun y =>
  some y
  else some false).bind fun c3 =>
  some c3

/- loop.example/g00897/spec.l9Same -/
def spec_l9Same_L1 (fu : Nat) (p : Plan) (q : Plan) : Nat → Int → Option (Out (Int) (Bool))
  | 0, _ => none
  | fk + 1, i =>
    if decide (i < (p.Network.Nodes.length : Int)) then
      (idx p.Network.Nodes i).bind fun e =>
      (idx q.Network.Nodes i).bind fun e2 =>
      if !(e.toList == e2.toList) then
        some (.ret false)
      else
        spec_l9Same_L1 fu p q fk (w64 (i + 1))
    else
      some (.next i)
def spec_l9Same_L2 (fu : Nat) (p : Plan) (q : Plan) : Nat → Int → Option (Out (Int) (Bool))
  | 0, _ => none
  | fk + 1, i3 =>
    if decide (i3 < (p.Network.Fibers.length : Int)) then
      (idx p.Network.Fibers i3).bind fun e3 =>
      (idx q.Network.Fibers i3).bind fun e4 =>
      if !(([e3.A, e3.B, e3.Length, e3.Risk] : List Int) == ([e4.A, e4.B, e4.Length, e4.Risk] : List Int)) then
        some (.ret false)
      else
        spec_l9Same_L2 fu p q fk (w64 (i3 + 1))
    else
      some (.next i3)
def spec_l9Same_L3 (fu : Nat) (p : Plan) (q : Plan) : Nat → Int → Option (Out (Int) (Bool))
  | 0, _ => none
  | fk + 1, i5 =>
    if decide (i5 < (p.Lights.length : Int)) then
      ((idx p.Lights i5).bind fun e5 =>
      (idx q.Lights i5).bind fun e6 =>
      if e5.Id != e6.Id then some true
      else (idx p.Lights i5).bind fun e7 =>
      (idx q.Lights i5).bind fun e8 =>
      if !(([e7.Block.First, e7.Block.Count] : List Int) == ([e8.Block.First, e8.Block.Count] : List Int)) then some true
      else (idx p.Lights i5).bind fun e9 =>
      (idx q.Lights i5).bind fun e10 =>
      (spec_l4Same fu e9.Route e10.Route).bind fun y =>
      some (!y)).bind fun c8 =>
      if c8 then
        some (.ret false)
      else
        spec_l9Same_L3 fu p q fk (w64 (i5 + 1))
    else
      some (.next i5)
def spec_l9Same (fu : Nat) (p : Plan) (q : Plan) : Option (Bool) :=
  (if (p.Lights.length : Int) != (q.Lights.length : Int) then some true
  else if (p.Network.Nodes.length : Int) != (q.Network.Nodes.length : Int) then some true
  else some ((p.Network.Fibers.length : Int) != (q.Network.Fibers.length : Int))).bind fun c7 =>
  if c7 then
    some false
  else
    (spec_l9Same_L1 fu p q fu 0).bind fun out => out.on some fun z3 =>
    (spec_l9Same_L2 fu p q fu 0).bind fun out => out.on some fun z2 =>
    (spec_l9Same_L3 fu p q fu 0).bind fun out => out.on some fun z =>
    some true

/- loop.example/g00897/spec.l20Networks -/
def spec_l20Networks (fu : Nat) (p : Plan) (q : Plan) : Option (Bool) :=
  (spec_l9Same fu ({ Network := p.Network, Lights := [] } : Plan) ({ Network := q.Network, Lights := [] } : Plan)).bind fun y =>
  some y

/- loop.example/g00897/spec.l20Same -/
def spec_l20Same (fu : Nat) (x1 : Light) (y : Light) : Option (Bool) :=
  (if x1.Id == y.Id then if ([x1.Block.First, x1.Block.Count] : List Int) == ([y.Block.First, y.Block.Count] : List Int) then (spec_l4Same fu x1.Route y.Route).bind fun y2 =>
  some y2
  else some false
  else some false).bind fun c3 =>
  some c3

/- loop.example/g00897/spec.l20Difference -/
def spec_l20Difference_L1 (fu : Nat) (p : Plan) (q : Plan) : Nat → List Action → Int → Option (List Action × Int)
  | 0, _, _ => none
  | fk + 1, out', i =>
    if decide (i < (p.Lights.length : Int)) then
      (idx p.Lights i).bind fun e =>
      (spec_l9Find fu q e.Id).bind fun y =>
      if decide (y < 0) then
        (idx p.Lights i).bind fun e2 =>
        (spec_l9Copy fu e2).bind fun y2 =>
        (app out' [({ Kind := 2, Light := y2 } : Action)]).bind fun l =>
        spec_l20Difference_L1 fu p q fk l (w64 (i + 1))
      else
        spec_l20Difference_L1 fu p q fk out' (w64 (i + 1))
    else
      some (out', i)
def spec_l20Difference_L2 (fu : Nat) (p : Plan) (q : Plan) : Nat → List Action → Int → Option (List Action × Int)
  | 0, _, _ => none
  | fk + 1, out4, i3 =>
    if decide (i3 < (q.Lights.length : Int)) then
      (idx q.Lights i3).bind fun e3 =>
      (spec_l9Find fu p e3.Id).bind fun y3 =>
      (if decide (y3 ≥ 0) then (idx p.Lights y3).bind fun e4 =>
      (idx q.Lights i3).bind fun e5 =>
      (spec_l20Same fu e4 e5).bind fun y4 =>
      some (!y4)
      else some false).bind fun c15 =>
      if c15 then
        (idx q.Lights i3).bind fun e6 =>
        (spec_l9Copy fu e6).bind fun y5 =>
        (app out4 [({ Kind := 3, Light := y5 } : Action)]).bind fun l2 =>
        spec_l20Difference_L2 fu p q fk l2 (w64 (i3 + 1))
      else
        spec_l20Difference_L2 fu p q fk out4 (w64 (i3 + 1))
    else
      some (out4, i3)
def spec_l20Difference_L3 (fu : Nat) (p : Plan) (q : Plan) : Nat → List Action → Int → Option (List Action × Int)
  | 0, _, _ => none
  | fk + 1, out7, i5 =>
    if decide (i5 < (q.Lights.length : Int)) then
      (idx q.Lights i5).bind fun e7 =>
      (spec_l9Find fu p e7.Id).bind fun y6 =>
      if decide (y6 < 0) then
        (idx q.Lights i5).bind fun e8 =>
        (spec_l9Copy fu e8).bind fun y7 =>
        (app out7 [({ Kind := 1, Light := y7 } : Action)]).bind fun l3 =>
        spec_l20Difference_L3 fu p q fk l3 (w64 (i5 + 1))
      else
        spec_l20Difference_L3 fu p q fk out7 (w64 (i5 + 1))
    else
      some (out7, i5)
def spec_l20Difference (fu : Nat) (p : Plan) (q : Plan) : Option (List Action) :=
  (spec_l20Difference_L1 fu p q fu ([] : List Action) 0).bind fun z3 =>
  (spec_l20Difference_L2 fu p q fu z3.1 0).bind fun z2 =>
  (spec_l20Difference_L3 fu p q fu z2.1 0).bind fun z =>
  some z.1

/- loop.example/g00897/spec.PlanDifference -/
def spec_PlanDifference (fu : Nat) (p : Plan) (q : Plan) : Option (List Action × Bool) :=
  ((spec_l9Good fu p).bind fun y =>
  if !y then some true
  else (spec_l9Good fu q).bind fun y2 =>
  if !y2 then some true
  else (spec_l20Networks fu p q).bind fun y3 =>
  some (!y3)).bind fun c7 =>
  if c7 then
    some (([] : List Action), false)
  else
    (spec_l20Difference fu p q).bind fun y4 =>
    if decide ((y4.length : Int) > 8) then
      some (([] : List Action), false)
    else
      some (y4, true)

/- slices.Equal[[]string,string] -/
def slices_Equal_string_string_L1 (fu : Nat) (s1 : List ByteArray) (s2 : List ByteArray) : Nat → Int → Option (Out (Int) (Bool))
  | 0, _ => none
  | fk + 1, i =>
    if decide (i < (s1.length : Int)) then
      (idx s1 i).bind fun e =>
      (idx s2 i).bind fun e2 =>
      if !(e.toList == e2.toList) then
        some (.ret false)
      else
        slices_Equal_string_string_L1 fu s1 s2 fk (w64 (i + 1))
    else
      some (.next i)
def slices_Equal_string_string (fu : Nat) (s1 : List ByteArray) (s2 : List ByteArray) : Option (Bool) :=
  if (s1.length : Int) != (s2.length : Int) then
    some false
  else
    (slices_Equal_string_string_L1 fu s1 s2 fu 0).bind fun out => out.on some fun z =>
    some true

/- slices.Equal[[]loop.example/g00897/impl.Fiber,loop.example/g00897/impl.Fiber] -/
def slices_Equal_impl_Fiber_impl_Fiber_L1 (fu : Nat) (s1 : List Fiber) (s2 : List Fiber) : Nat → Int → Option (Out (Int) (Bool))
  | 0, _ => none
  | fk + 1, i =>
    if decide (i < (s1.length : Int)) then
      (idx s1 i).bind fun e =>
      (idx s2 i).bind fun e2 =>
      if !(([e.A, e.B, e.Length, e.Risk] : List Int) == ([e2.A, e2.B, e2.Length, e2.Risk] : List Int)) then
        some (.ret false)
      else
        slices_Equal_impl_Fiber_impl_Fiber_L1 fu s1 s2 fk (w64 (i + 1))
    else
      some (.next i)
def slices_Equal_impl_Fiber_impl_Fiber (fu : Nat) (s1 : List Fiber) (s2 : List Fiber) : Option (Bool) :=
  if (s1.length : Int) != (s2.length : Int) then
    some false
  else
    (slices_Equal_impl_Fiber_impl_Fiber_L1 fu s1 s2 fu 0).bind fun out => out.on some fun z =>
    some true

/- loop.example/g00897/impl.equalNetworks -/
def impl_equalNetworks (fu : Nat) (a' : Network) (b' : Network) : Option (Bool) :=
  ((slices_Equal_string_string fu a'.Nodes b'.Nodes).bind fun y =>
  if y then (slices_Equal_impl_Fiber_impl_Fiber fu a'.Fibers b'.Fibers).bind fun y2 =>
  some y2
  else some false).bind fun c5 =>
  some c5

/- slices.Equal[[]int,int] -/
def slices_Equal_int_int_L1 (fu : Nat) (s1 : List Int) (s2 : List Int) : Nat → Int → Option (Out (Int) (Bool))
  | 0, _ => none
  | fk + 1, i =>
    if decide (i < (s1.length : Int)) then
      (idx s1 i).bind fun e =>
      (idx s2 i).bind fun e2 =>
      if e != e2 then
        some (.ret false)
      else
        slices_Equal_int_int_L1 fu s1 s2 fk (w64 (i + 1))
    else
      some (.next i)
def slices_Equal_int_int (fu : Nat) (s1 : List Int) (s2 : List Int) : Option (Bool) :=
  if (s1.length : Int) != (s2.length : Int) then
    some false
  else
    (slices_Equal_int_int_L1 fu s1 s2 fu 0).bind fun out => out.on some fun z =>
    some true

/- loop.example/g00897/impl.equalLights -/
def impl_equalLights (fu : Nat) (a' : Light) (b' : Light) : Option (Bool) :=
  (if a'.Id == b'.Id then if a'.Route.Start == b'.Route.Start then (slices_Equal_int_int fu a'.Route.Fibers b'.Route.Fibers).bind fun y =>
  if y then some (([a'.Block.First, a'.Block.Count] : List Int) == ([b'.Block.First, b'.Block.Count] : List Int))
  else some false
  else some false
  else some false).bind fun c3 =>
  some c3

/- loop.example/g00897/laws.szAction -/
def laws_szAction (fu : Nat) (a' : Action) (left : Int) : Option (Int) :=
  (laws_szLight fu a'.Light left).bind fun y =>
  if decide (y < 0) then
    some (-1)
  else
    some y

/- loop.example/g00897/laws.szActionS -/
def laws_szActionS_L1 (fu : Nat) (a' : List Action) : Nat → Int → Int → Option (Out (Int × Int) (Int))
  | 0, _, _ => none
  | fk + 1, left2, i =>
    if decide (i < (a'.length : Int)) then
      (idx a' i).bind fun e =>
      (laws_szAction fu e left2).bind fun y =>
      if decide (y < 0) then
        some (.ret (-1))
      else
        laws_szActionS_L1 fu a' fk y (w64 (i + 1))
    else
      some (.next (left2, i))
def laws_szActionS (fu : Nat) (a' : List Action) (left : Int) : Option (Int) :=
  if decide ((w64 (left - (a'.length : Int))) < 0) then
    some (-1)
  else
    (laws_szActionS_L1 fu a' fu (w64 (left - (a'.length : Int))) 0).bind fun out => out.on some fun z =>
    some z.1

/- loop.example/g00897/laws.toAction -/
def laws_toAction (fu : Nat) (a' : Action) : Option (Action) :=
  (laws_toLight fu a'.Light).bind fun y =>
  some ({ Kind := a'.Kind, Light := y } : Action)

/- loop.example/g00897/laws.toActionS -/
def laws_toActionS_L1 (fu : Nat) (a' : List Action) : Nat → List Action → Int → Option (List Action × Int)
  | 0, _, _ => none
  | fk + 1, out', i =>
    if decide (i < (a'.length : Int)) then
      (idx a' i).bind fun e =>
      (laws_toAction fu e).bind fun y =>
      (idx out' i).bind fun e2 =>
      laws_toActionS_L1 fu a' fk (out'.set (i).toNat y) (w64 (i + 1))
    else
      some (out', i)
def laws_toActionS (fu : Nat) (a' : List Action) : Option (List Action) :=
  (mk (({ Kind := 0, Light := ({ Id := 0, Route := ({ Start := 0, Fibers := [] } : Route), Block := ({ First := 0, Count := 0 } : Block) } : Light) } : Action) : Action) (a'.length : Int)).bind fun l =>
  (laws_toActionS_L1 fu a' fu l 0).bind fun z =>
  some z.1

/- loop.example/g00897/spec.l20Copies -/
def spec_l20Copies_L1 (fu : Nat) (list : List Action) : Nat → List Action → Int → Option (List Action × Int)
  | 0, _, _ => none
  | fk + 1, out', i =>
    if decide (i < (list.length : Int)) then
      (idx list i).bind fun e =>
      (idx list i).bind fun e2 =>
      (spec_l9Copy fu e2.Light).bind fun y =>
      (app out' [({ Kind := e.Kind, Light := y } : Action)]).bind fun l =>
      spec_l20Copies_L1 fu list fk l (w64 (i + 1))
    else
      some (out', i)
def spec_l20Copies (fu : Nat) (list : List Action) : Option (List Action) :=
  (spec_l20Copies_L1 fu list fu ([] : List Action) 0).bind fun z =>
  some z.1

/- loop.example/g00897/spec.StartChange -/
def spec_StartChange (fu : Nat) (p : Plan) (list : List Action) : Option (Change × Bool) :=
  ((spec_l9Good fu p).bind fun y =>
  if !y then some true
  else some (decide ((list.length : Int) > 8))).bind fun c5 =>
  if c5 then
    some (({ Plan := ({ Network := ({ Nodes := [], Fibers := [] } : Network), Lights := [] } : Plan), Actions := [], Undo := [], Back := false } : Change), false)
  else
    (spec_l9Own fu p).bind fun y2 =>
    (spec_l20Copies fu list).bind fun y3 =>
    some (({ Plan := y2, Actions := y3, Undo := [], Back := false } : Change), true)

/- loop.example/g00897/impl.copyLight -/
def impl_copyLight (fu : Nat) (x1 : Light) : Option (Light) :=
  (impl_copyRoute fu x1.Route).bind fun y =>
  some ({ Id := x1.Id, Route := y, Block := x1.Block } : Light)

/- loop.example/g00897/impl.copyActions -/
def impl_copyActions_L1 (fu : Nat) (l : List Action) : Nat → List Action → Int → Option (List Action × Int)
  | 0, _, _ => none
  | fk + 1, out', i =>
    if decide (i < (l.length : Int)) then
      (idx l i).bind fun e =>
      (impl_copyLight fu e.Light).bind fun y =>
      (app out' [({ Kind := e.Kind, Light := y } : Action)]).bind fun l2 =>
      impl_copyActions_L1 fu l fk l2 (w64 (i + 1))
    else
      some (out', i)
def impl_copyActions (fu : Nat) (l : List Action) : Option (List Action) :=
  (impl_copyActions_L1 fu l fu ([] : List Action) 0).bind fun z =>
  some z.1

/- loop.example/g00897/impl.copyChange -/
def impl_copyChange (fu : Nat) (c : Change) : Option (Change) :=
  (impl_copyPlan fu c.Plan).bind fun y =>
  (impl_copyActions fu c.Actions).bind fun y2 =>
  (impl_copyActions fu c.Undo).bind fun y3 =>
  some ({ Plan := y, Actions := y2, Undo := y3, Back := c.Back } : Change)

/- loop.example/g00897/impl.StartChange -/
def impl_StartChange (fu : Nat) (p : Plan) (list : List Action) : Option (Change × Bool) :=
  ((impl_IsValidPlan fu p).bind fun y =>
  if !y then some true
  else some (decide ((list.length : Int) > 8))).bind fun c5 =>
  if c5 then
    some (({ Plan := ({ Network := ({ Nodes := [], Fibers := [] } : Network), Lights := [] } : Plan), Actions := [], Undo := [], Back := false } : Change), false)
  else
    (impl_copyChange fu ({ Plan := p, Actions := list, Undo := [], Back := false } : Change)).bind fun y2 =>
    some (y2, true)

/- loop.example/g00897/laws.eqAction -/
def laws_eqAction (fu : Nat) (a' : Action) (b' : Action) : Option (Bool) :=
  if a'.Kind != b'.Kind then
    some false
  else
    (laws_eqLight fu a'.Light b'.Light).bind fun y =>
    if !y then
      some false
    else
      some true

/- loop.example/g00897/laws.eqActionS -/
def laws_eqActionS_L1 (fu : Nat) (a' : List Action) (b' : List Action) : Nat → Int → Option (Out (Int) (Bool))
  | 0, _ => none
  | fk + 1, i =>
    if decide (i < (a'.length : Int)) then
      (idx a' i).bind fun e =>
      (idx b' i).bind fun e2 =>
      (laws_eqAction fu e e2).bind fun y =>
      if !y then
        some (.ret false)
      else
        laws_eqActionS_L1 fu a' b' fk (w64 (i + 1))
    else
      some (.next i)
def laws_eqActionS (fu : Nat) (a' : List Action) (b' : List Action) : Option (Bool) :=
  if (a'.length : Int) != (b'.length : Int) then
    some false
  else
    (laws_eqActionS_L1 fu a' b' fu 0).bind fun out => out.on some fun z =>
    some true

/- loop.example/g00897/laws.eqChange -/
def laws_eqChange (fu : Nat) (a' : Change) (b' : Change) : Option (Bool) :=
  (laws_eqPlan fu a'.Plan b'.Plan).bind fun y =>
  if !y then
    some false
  else
    (laws_eqActionS fu a'.Actions b'.Actions).bind fun y2 =>
    if !y2 then
      some false
    else
      (laws_eqActionS fu a'.Undo b'.Undo).bind fun y3 =>
      if !y3 then
        some false
      else
        if a'.Back != b'.Back then
          some false
        else
          some true

/- loop.example/g00897/laws.markActionS -/
def laws_markActionS_L1 (fu : Nat) : Nat → List Action → Int → Int → Option (List Action × Int × Int)
  | 0, _, _, _ => none
  | fk + 1, a2, k2, i =>
    if decide (i < (a2.length : Int)) then
      (idx a2 i).bind fun e =>
      (idx (a2.set (i).toNat ({ Kind := k2, Light := e.Light } : Action)) i).bind fun e2 =>
      (idx ((a2.set (i).toNat ({ Kind := k2, Light := e.Light } : Action)).set (i).toNat ({ Kind := e2.Kind, Light := ({ Id := w64 (k2 + 1), Route := e2.Light.Route, Block := e2.Light.Block } : Light) } : Action)) i).bind fun e3 =>
      (idx (((a2.set (i).toNat ({ Kind := k2, Light := e.Light } : Action)).set (i).toNat ({ Kind := e2.Kind, Light := ({ Id := w64 (k2 + 1), Route := e2.Light.Route, Block := e2.Light.Block } : Light) } : Action)).set (i).toNat ({ Kind := e3.Kind, Light := ({ Id := e3.Light.Id, Route := ({ Start := w64 ((w64 (k2 + 1)) + 1), Fibers := e3.Light.Route.Fibers } : Route), Block := e3.Light.Block } : Light) } : Action)) i).bind fun e4 =>
      (laws_markIntS fu e4.Light.Route.Fibers (w64 ((w64 ((w64 (k2 + 1)) + 1)) + 1))).bind fun y =>
      (idx ((((a2.set (i).toNat ({ Kind := k2, Light := e.Light } : Action)).set (i).toNat ({ Kind := e2.Kind, Light := ({ Id := w64 (k2 + 1), Route := e2.Light.Route, Block := e2.Light.Block } : Light) } : Action)).set (i).toNat ({ Kind := e3.Kind, Light := ({ Id := e3.Light.Id, Route := ({ Start := w64 ((w64 (k2 + 1)) + 1), Fibers := e3.Light.Route.Fibers } : Route), Block := e3.Light.Block } : Light) } : Action)).set (i).toNat ({ e4 with Light := { e4.Light with Route := { e4.Light.Route with Fibers := y.2 } } })) i).bind fun e5 =>
      (idx (((((a2.set (i).toNat ({ Kind := k2, Light := e.Light } : Action)).set (i).toNat ({ Kind := e2.Kind, Light := ({ Id := w64 (k2 + 1), Route := e2.Light.Route, Block := e2.Light.Block } : Light) } : Action)).set (i).toNat ({ Kind := e3.Kind, Light := ({ Id := e3.Light.Id, Route := ({ Start := w64 ((w64 (k2 + 1)) + 1), Fibers := e3.Light.Route.Fibers } : Route), Block := e3.Light.Block } : Light) } : Action)).set (i).toNat ({ e4 with Light := { e4.Light with Route := { e4.Light.Route with Fibers := y.2 } } })).set (i).toNat ({ Kind := e5.Kind, Light := ({ Id := e5.Light.Id, Route := e5.Light.Route, Block := ({ First := y.1, Count := e5.Light.Block.Count } : Block) } : Light) } : Action)) i).bind fun e6 =>
      laws_markActionS_L1 fu fk ((((((a2.set (i).toNat ({ Kind := k2, Light := e.Light } : Action)).set (i).toNat ({ Kind := e2.Kind, Light := ({ Id := w64 (k2 + 1), Route := e2.Light.Route, Block := e2.Light.Block } : Light) } : Action)).set (i).toNat ({ Kind := e3.Kind, Light := ({ Id := e3.Light.Id, Route := ({ Start := w64 ((w64 (k2 + 1)) + 1), Fibers := e3.Light.Route.Fibers } : Route), Block := e3.Light.Block } : Light) } : Action)).set (i).toNat ({ e4 with Light := { e4.Light with Route := { e4.Light.Route with Fibers := y.2 } } })).set (i).toNat ({ Kind := e5.Kind, Light := ({ Id := e5.Light.Id, Route := e5.Light.Route, Block := ({ First := y.1, Count := e5.Light.Block.Count } : Block) } : Light) } : Action)).set (i).toNat ({ Kind := e6.Kind, Light := ({ Id := e6.Light.Id, Route := e6.Light.Route, Block := ({ First := e6.Light.Block.First, Count := w64 (y.1 + 1) } : Block) } : Light) } : Action)) (w64 ((w64 (y.1 + 1)) + 1)) (w64 (i + 1))
    else
      some (a2, k2, i)
def laws_markActionS (fu : Nat) (a' : List Action) (k' : Int) : Option (Int × List Action) :=
  (laws_markActionS_L1 fu fu a' k' 0).bind fun z =>
  some (z.2.1, z.1)

/- loop.example/g00897/laws.markChange -/
def laws_markChange (fu : Nat) (a' : Change) (k' : Int) : Option (Int × Change) :=
  (laws_markPlan fu a'.Plan k').bind fun y =>
  (laws_markActionS fu a'.Actions y.1).bind fun y2 =>
  (laws_markActionS fu a'.Undo y2.1).bind fun y3 =>
  some (y3.1, ({ Plan := y.2, Actions := y2.2, Undo := y3.2, Back := a'.Back } : Change))

/- loop.example/g00897/laws.heldActionS -/
def laws_heldActionS_L1 (fu : Nat) (a' : List Action) : Nat → Int → Int → Option (Out (Int × Int) (Int))
  | 0, _, _ => none
  | fk + 1, k2, i =>
    if decide (i < (a'.length : Int)) then
      (idx a' i).bind fun e =>
      if e.Kind != k2 then
        some (.ret (-1))
      else
        (idx a' i).bind fun e2 =>
        if e2.Light.Id != (w64 (k2 + 1)) then
          some (.ret (-1))
        else
          (idx a' i).bind fun e3 =>
          if e3.Light.Route.Start != (w64 ((w64 (k2 + 1)) + 1)) then
            some (.ret (-1))
          else
            (idx a' i).bind fun e4 =>
            (laws_heldIntS fu e4.Light.Route.Fibers (w64 ((w64 ((w64 (k2 + 1)) + 1)) + 1))).bind fun y =>
            if decide (y < 0) then
              some (.ret (-1))
            else
              (idx a' i).bind fun e5 =>
              if e5.Light.Block.First != y then
                some (.ret (-1))
              else
                (idx a' i).bind fun e6 =>
                if e6.Light.Block.Count != (w64 (y + 1)) then
                  some (.ret (-1))
                else
                  laws_heldActionS_L1 fu a' fk (w64 ((w64 (y + 1)) + 1)) (w64 (i + 1))
    else
      some (.next (k2, i))
def laws_heldActionS (fu : Nat) (a' : List Action) (k' : Int) : Option (Int) :=
  (laws_heldActionS_L1 fu a' fu k' 0).bind fun out => out.on some fun z =>
  some z.1

/- loop.example/g00897/laws.heldChange -/
def laws_heldChange (fu : Nat) (a' : Change) (k' : Int) : Option (Int) :=
  (laws_heldPlan fu a'.Plan k').bind fun y =>
  if decide (y < 0) then
    some (-1)
  else
    (laws_heldActionS fu a'.Actions y).bind fun y2 =>
    if decide (y2 < 0) then
      some (-1)
    else
      (laws_heldActionS fu a'.Undo y2).bind fun y3 =>
      if decide (y3 < 0) then
        some (-1)
      else
        some y3

/- loop.example/g00897/laws.FnExactStartChange -/
def laws_FnExactStartChange (fu : Nat) (aP : Plan) (aList : List Action) : Option (Bool) :=
  (laws_szPlan fu aP 1048576).bind fun y =>
  if decide (y < 0) then
    some true
  else
    (laws_szActionS fu aList y).bind fun y2 =>
    if decide (y2 < 0) then
      some true
    else
      (laws_toPlan fu aP).bind fun y3 =>
      (laws_toActionS fu aList).bind fun y4 =>
      (spec_StartChange fu y3 y4).bind fun y5 =>
      (laws_toPlan fu aP).bind fun y6 =>
      (laws_toActionS fu aList).bind fun y7 =>
      (impl_StartChange fu y6 y7).bind fun y8 =>
      ((laws_eqChange fu y8.1 y5.1).bind fun y9 =>
      if !y9 then some true
      else some (y8.2 != y5.2)).bind fun c23 =>
      if c23 then
        some false
      else
        (laws_toPlan fu aP).bind fun y10 =>
        (laws_eqPlan fu y6 y10).bind fun y11 =>
        if !y11 then
          some false
        else
          (laws_toActionS fu aList).bind fun y12 =>
          (laws_eqActionS fu y7 y12).bind fun y13 =>
          if !y13 then
            some false
          else
            (laws_markPlan fu y6 1).bind fun y14 =>
            (laws_markActionS fu y7 y14.1).bind fun y15 =>
            (if decide (y15.1 < 0) then some true
            else (laws_eqChange fu y8.1 y5.1).bind fun y16 =>
            if !y16 then some true
            else some (y8.2 != y5.2)).bind fun c28 =>
            if c28 then
              some false
            else
              (laws_markChange fu y8.1 1).bind fun y17 =>
              (laws_heldChange fu ({ Plan := y17.2.Plan, Actions := y17.2.Actions, Undo := y17.2.Undo, Back := y8.1.Back } : Change) 1).bind fun y18 =>
              if decide (y18 < 0) then
                some false
              else
                if y18 != y17.1 then
                  some false
                else
                  (laws_toPlan fu aP).bind fun y19 =>
                  (laws_toActionS fu aList).bind fun y20 =>
                  (impl_StartChange fu y19 y20).bind fun y21 =>
                  ((laws_eqChange fu y21.1 y5.1).bind fun y22 =>
                  if !y22 then some true
                  else some (y21.2 != y5.2)).bind fun c38 =>
                  if c38 then
                    some false
                  else
                    (laws_heldChange fu ({ Plan := y17.2.Plan, Actions := y17.2.Actions, Undo := y17.2.Undo, Back := y8.1.Back } : Change) 1).bind fun y23 =>
                    if decide (y23 < 0) then
                      some false
                    else
                      if y23 != y17.1 then
                        some false
                      else
                        some true

/- loop.example/g00897/spec.l9Put -/
def spec_l9Put_L1 (fu : Nat) (x1 : Light) (y : Plan) : Nat → Int → Option (Int)
  | 0, _ => none
  | fk + 1, i =>
    (if decide (i < (y.Lights.length : Int)) then (idx y.Lights i).bind fun e =>
    some (decide (e.Id < x1.Id))
    else some false).bind fun c8 =>
    if c8 then
      spec_l9Put_L1 fu x1 y fk (w64 (i + 1))
    else
      some i
def spec_l9Put (fu : Nat) (p : Plan) (x1 : Light) : Option (Plan) :=
  (spec_l9Own fu p).bind fun y =>
  (spec_l9Put_L1 fu x1 y fu 0).bind fun z =>
  (sub y.Lights 0 z).bind fun l =>
  (sub y.Lights z (y.Lights.length : Int)).bind fun l2 =>
  (app ([] : List Light) l).bind fun l3 =>
  (spec_l9Copy fu x1).bind fun y2 =>
  (app l3 [y2]).bind fun l4 =>
  (app l4 l2).bind fun l5 =>
  some ({ Network := y.Network, Lights := l5 } : Plan)

/- loop.example/g00897/spec.AddLight -/
def spec_AddLight (fu : Nat) (p : Plan) (x1 : Light) : Option (Plan × Bool) :=
  (spec_l9Good fu p).bind fun y =>
  if !y then
    some (({ Network := ({ Nodes := [], Fibers := [] } : Network), Lights := [] } : Plan), false)
  else
    (spec_l9Put fu p x1).bind fun y2 =>
    (spec_l9Good fu y2).bind fun y3 =>
    if !y3 then
      some (({ Network := ({ Nodes := [], Fibers := [] } : Network), Lights := [] } : Plan), false)
    else
      some (y2, true)

/- loop.example/g00897/spec.MoveLight -/
def spec_MoveLight (fu : Nat) (p : Plan) (id : Int) (r' : Route) (b' : Block) : Option (Plan × Bool) :=
  ((spec_l9Good fu p).bind fun y =>
  if !y then some true
  else (spec_l9Find fu p id).bind fun y2 =>
  some (decide (y2 < 0))).bind fun c5 =>
  if c5 then
    some (({ Network := ({ Nodes := [], Fibers := [] } : Network), Lights := [] } : Plan), false)
  else
    (spec_l9Find fu p id).bind fun y3 =>
    (spec_l9Without fu p y3).bind fun y4 =>
    (spec_l9Put fu y4 ({ Id := id, Route := r', Block := b' } : Light)).bind fun y5 =>
    (spec_l9Good fu y5).bind fun y6 =>
    if !y6 then
      some (({ Network := ({ Nodes := [], Fibers := [] } : Network), Lights := [] } : Plan), false)
    else
      some (y5, true)

/- loop.example/g00897/spec.l20Apply -/
def spec_l20Apply (fu : Nat) (p : Plan) (a' : Action) : Option (Plan × Bool) :=
  (spec_l9Find fu p a'.Light.Id).bind fun y =>
  if a'.Kind == 1 then
    (spec_AddLight fu p a'.Light).bind fun y2 =>
    some (y2.1, y2.2)
  else
    if a'.Kind == 2 then
      (if decide (y ≥ 0) then (idx p.Lights y).bind fun e =>
      (spec_l20Same fu e a'.Light).bind fun y3 =>
      some y3
      else some false).bind fun c8 =>
      if c8 then
        (spec_l9Without fu p y).bind fun y4 =>
        some (y4, true)
      else
        some (({ Network := ({ Nodes := [], Fibers := [] } : Network), Lights := [] } : Plan), false)
    else
      if a'.Kind == 3 then
        (spec_MoveLight fu p a'.Light.Id a'.Light.Route a'.Light.Block).bind fun y5 =>
        some (y5.1, y5.2)
      else
        some (({ Network := ({ Nodes := [], Fibers := [] } : Network), Lights := [] } : Plan), false)

/- loop.example/g00897/spec.IsHitless -/
def spec_IsHitless_L1 (fu : Nat) (list : List Action) : Nat → Int → List ByteArray → List Fiber → List Light → Option (Out (Int × List ByteArray × List Fiber × List Light) (Bool × Bool))
  | 0, _, _, _, _ => none
  | fk + 1, i, m, m2, m3 =>
    if decide (i < (list.length : Int)) then
      (idx list i).bind fun e =>
      (spec_l20Apply fu ({ Network := ({ Nodes := m, Fibers := m2 } : Network), Lights := m3 } : Plan) e).bind fun y3 =>
      if !y3.2 then
        some (.ret (false, true))
      else
        ((idx list i).bind fun e2 =>
        if e2.Kind == 3 then (idx list i).bind fun e3 =>
        (idx list i).bind fun e4 =>
        (spec_l9Find fu ({ Network := ({ Nodes := m, Fibers := m2 } : Network), Lights := m3 } : Plan) e3.Light.Id).bind fun y4 =>
        (idx m3 y4).bind fun e5 =>
        (spec_l9Collide fu e5 e4.Light).bind fun y5 =>
        some y5
        else some false).bind fun c16 =>
        if c16 then
          some (.ret (false, true))
        else
          spec_IsHitless_L1 fu list fk (w64 (i + 1)) y3.1.Network.Nodes y3.1.Network.Fibers y3.1.Lights
    else
      some (.next (i, m, m2, m3))
def spec_IsHitless (fu : Nat) (p : Plan) (list : List Action) : Option (Bool × Bool) :=
  ((spec_l9Good fu p).bind fun y =>
  if !y then some true
  else some (decide ((list.length : Int) > 8))).bind fun c5 =>
  if c5 then
    some (false, false)
  else
    (spec_l9Own fu p).bind fun y2 =>
    (spec_IsHitless_L1 fu list fu 0 y2.Network.Nodes y2.Network.Fibers y2.Lights).bind fun out => out.on some fun z =>
    some (true, true)

/- loop.example/g00897/impl.withLight -/
def impl_withLight_L1 (fu : Nat) (p : Plan) (x1 : Light) : Nat → Int → Option (Int)
  | 0, _ => none
  | fk + 1, at' =>
    (if decide (at' < (p.Lights.length : Int)) then (idx p.Lights at').bind fun e =>
    some (decide (e.Id < x1.Id))
    else some false).bind fun c8 =>
    if c8 then
      impl_withLight_L1 fu p x1 fk (w64 (at' + 1))
    else
      some at'
def impl_withLight (fu : Nat) (p : Plan) (x1 : Light) : Option (Plan) :=
  (impl_copyPlan fu p).bind fun y =>
  (impl_withLight_L1 fu p x1 fu 0).bind fun z =>
  (impl_copyRoute fu x1.Route).bind fun y2 =>
  (insl y.Lights z [({ Id := x1.Id, Route := y2, Block := x1.Block } : Light)]).bind fun l =>
  some ({ Network := y.Network, Lights := l } : Plan)

/- loop.example/g00897/impl.planIf -/
def impl_planIf (fu : Nat) (p : Plan) : Option (Plan × Bool) :=
  (impl_IsValidPlan fu p).bind fun y =>
  if !y then
    some (({ Network := ({ Nodes := [], Fibers := [] } : Network), Lights := [] } : Plan), false)
  else
    some (p, true)

/- loop.example/g00897/impl.AddLight -/
def impl_AddLight (fu : Nat) (p : Plan) (x1 : Light) : Option (Plan × Bool) :=
  (impl_IsValidPlan fu p).bind fun y =>
  if !y then
    some (({ Network := ({ Nodes := [], Fibers := [] } : Network), Lights := [] } : Plan), false)
  else
    (impl_withLight fu p x1).bind fun y2 =>
    (impl_planIf fu y2).bind fun y3 =>
    some (y3.1, y3.2)

/- loop.example/g00897/impl.withoutLight -/
def impl_withoutLight (fu : Nat) (p : Plan) (i : Int) : Option (Plan) :=
  (impl_copyPlan fu p).bind fun y =>
  (dell y.Lights i (w64 (i + 1))).bind fun l =>
  some ({ Network := y.Network, Lights := l } : Plan)

/- loop.example/g00897/impl.RemoveLight -/
def impl_RemoveLight (fu : Nat) (p : Plan) (id : Int) : Option (Plan × Bool) :=
  (impl_LightNumber fu p id).bind fun y =>
  if !y.2 then
    some (({ Network := ({ Nodes := [], Fibers := [] } : Network), Lights := [] } : Plan), false)
  else
    (impl_withoutLight fu p y.1).bind fun y2 =>
    some (y2, true)

/- loop.example/g00897/impl.MoveLight -/
def impl_MoveLight (fu : Nat) (p : Plan) (id : Int) (r' : Route) (b' : Block) : Option (Plan × Bool) :=
  (impl_LightNumber fu p id).bind fun y =>
  if !y.2 then
    some (({ Network := ({ Nodes := [], Fibers := [] } : Network), Lights := [] } : Plan), false)
  else
    (impl_copyPlan fu p).bind fun y2 =>
    (impl_copyRoute fu r').bind fun y3 =>
    (idx y2.Lights y.1).bind fun e =>
    (impl_planIf fu ({ Network := y2.Network, Lights := y2.Lights.set (y.1).toNat ({ Id := id, Route := y3, Block := b' } : Light) } : Plan)).bind fun y4 =>
    some (y4.1, y4.2)

/- loop.example/g00897/impl.ApplyAction -/
def impl_ApplyAction (fu : Nat) (p : Plan) (a' : Action) : Option (Plan × Bool) :=
  if a'.Kind == 1 then
    (impl_AddLight fu p a'.Light).bind fun y =>
    some (y.1, y.2)
  else
    if a'.Kind == 2 then
      (impl_lightAt fu p a'.Light.Id).bind fun y2 =>
      (if decide (y2 ≥ 0) then (idx p.Lights y2).bind fun e =>
      (impl_equalLights fu e a'.Light).bind fun y3 =>
      some y3
      else some false).bind fun c8 =>
      if c8 then
        (impl_RemoveLight fu p a'.Light.Id).bind fun y4 =>
        some (y4.1, y4.2)
      else
        some (({ Network := ({ Nodes := [], Fibers := [] } : Network), Lights := [] } : Plan), false)
    else
      if a'.Kind == 3 then
        (impl_MoveLight fu p a'.Light.Id a'.Light.Route a'.Light.Block).bind fun y5 =>
        some (y5.1, y5.2)
      else
        some (({ Network := ({ Nodes := [], Fibers := [] } : Network), Lights := [] } : Plan), false)

/- loop.example/g00897/impl.IsHitless -/
def impl_IsHitless_L1 (fu : Nat) (list : List Action) : Nat → Int → List ByteArray → List Fiber → List Light → Option (Out (Int × List ByteArray × List Fiber × List Light) (Bool × Bool))
  | 0, _, _, _, _ => none
  | fk + 1, i, m, m2, m3 =>
    if decide (i < (list.length : Int)) then
      (idx list i).bind fun e =>
      (impl_ApplyAction fu ({ Network := ({ Nodes := m, Fibers := m2 } : Network), Lights := m3 } : Plan) e).bind fun y2 =>
      (if !y2.2 then some true
      else if e.Kind == 3 then (impl_lightAt fu ({ Network := ({ Nodes := m, Fibers := m2 } : Network), Lights := m3 } : Plan) e.Light.Id).bind fun y3 =>
      (idx m3 y3).bind fun e2 =>
      (impl_collide fu e2 e.Light).bind fun y4 =>
      some y4
      else some false).bind fun c13 =>
      if c13 then
        some (.ret (false, true))
      else
        impl_IsHitless_L1 fu list fk (w64 (i + 1)) y2.1.Network.Nodes y2.1.Network.Fibers y2.1.Lights
    else
      some (.next (i, m, m2, m3))
def impl_IsHitless (fu : Nat) (p : Plan) (list : List Action) : Option (Bool × Bool) :=
  ((impl_IsValidPlan fu p).bind fun y =>
  if !y then some true
  else some (decide ((list.length : Int) > 8))).bind fun c5 =>
  if c5 then
    some (false, false)
  else
    (impl_IsHitless_L1 fu list fu 0 p.Network.Nodes p.Network.Fibers p.Lights).bind fun out => out.on some fun z =>
    some (true, true)

/- loop.example/g00897/laws.FnExactIsHitless -/
def laws_FnExactIsHitless (fu : Nat) (aP : Plan) (aList : List Action) : Option (Bool) :=
  (laws_szPlan fu aP 1048576).bind fun y =>
  if decide (y < 0) then
    some true
  else
    (laws_szActionS fu aList y).bind fun y2 =>
    if decide (y2 < 0) then
      some true
    else
      (laws_toPlan fu aP).bind fun y3 =>
      (laws_toActionS fu aList).bind fun y4 =>
      (spec_IsHitless fu y3 y4).bind fun y5 =>
      (laws_toPlan fu aP).bind fun y6 =>
      (laws_toActionS fu aList).bind fun y7 =>
      (impl_IsHitless fu y6 y7).bind fun y8 =>
      (if y8.1 != y5.1 then some true
      else some (y8.2 != y5.2)).bind fun c13 =>
      if c13 then
        some false
      else
        (laws_toPlan fu aP).bind fun y9 =>
        (laws_eqPlan fu y6 y9).bind fun y10 =>
        if !y10 then
          some false
        else
          (laws_toActionS fu aList).bind fun y11 =>
          (laws_eqActionS fu y7 y11).bind fun y12 =>
          if !y12 then
            some false
          else
            some true

/- loop.example/g00897/laws.szChange -/
def laws_szChange (fu : Nat) (a' : Change) (left : Int) : Option (Int) :=
  (laws_szPlan fu a'.Plan left).bind fun y =>
  if decide (y < 0) then
    some (-1)
  else
    (laws_szActionS fu a'.Actions y).bind fun y2 =>
    if decide (y2 < 0) then
      some (-1)
    else
      (laws_szActionS fu a'.Undo y2).bind fun y3 =>
      if decide (y3 < 0) then
        some (-1)
      else
        some y3

/- loop.example/g00897/laws.toChange -/
def laws_toChange (fu : Nat) (a' : Change) : Option (Change) :=
  (laws_toPlan fu a'.Plan).bind fun y =>
  (laws_toActionS fu a'.Actions).bind fun y2 =>
  (laws_toActionS fu a'.Undo).bind fun y3 =>
  some ({ Plan := y, Actions := y2, Undo := y3, Back := a'.Back } : Change)

/- loop.example/g00897/spec.l20All -/
def spec_l20All_L1 (fu : Nat) (list : List Action) : Nat → Int → List ByteArray → List Fiber → List Light → Option (Out (Int × List ByteArray × List Fiber × List Light) (Plan × Int))
  | 0, _, _, _, _ => none
  | fk + 1, i, m, m2, m3 =>
    if decide (i < (list.length : Int)) then
      (idx list i).bind fun e =>
      (spec_l20Apply fu ({ Network := ({ Nodes := m, Fibers := m2 } : Network), Lights := m3 } : Plan) e).bind fun y2 =>
      if !y2.2 then
        some (.ret (({ Network := ({ Nodes := m, Fibers := m2 } : Network), Lights := m3 } : Plan), i))
      else
        spec_l20All_L1 fu list fk (w64 (i + 1)) y2.1.Network.Nodes y2.1.Network.Fibers y2.1.Lights
    else
      some (.next (i, m, m2, m3))
def spec_l20All (fu : Nat) (p : Plan) (list : List Action) : Option (Plan × Int) :=
  (spec_l9Own fu p).bind fun y =>
  (spec_l20All_L1 fu list fu 0 y.Network.Nodes y.Network.Fibers y.Lights).bind fun out => out.on some fun z =>
  some (({ Network := ({ Nodes := z.2.1, Fibers := z.2.2.1 } : Network), Lights := z.2.2.2 } : Plan), (list.length : Int))

/- loop.example/g00897/spec.l20Good -/
def spec_l20Good (fu : Nat) (c : Change) : Option (Bool) :=
  ((spec_l9Good fu c.Plan).bind fun y =>
  if !y then some true
  else if decide ((w64 ((c.Actions.length : Int) + (c.Undo.length : Int))) > 8) then some true
  else if c.Back then some (decide ((c.Actions.length : Int) > 0))
  else some false).bind fun c7 =>
  if c7 then
    some false
  else
    (spec_l20All fu c.Plan c.Undo).bind fun y2 =>
    some (y2.2 == (c.Undo.length : Int))

/- loop.example/g00897/spec.IsValidChange -/
def spec_IsValidChange (fu : Nat) (c : Change) : Option (Bool) :=
  (spec_l20Good fu c).bind fun y =>
  some y

/- loop.example/g00897/impl.applied -/
def impl_applied_L1 (fu : Nat) (list : List Action) : Nat → Int → List ByteArray → List Fiber → List Light → Option (Out (Int × List ByteArray × List Fiber × List Light) (Plan × Int))
  | 0, _, _, _, _ => none
  | fk + 1, i, m, m2, m3 =>
    if decide (i < (list.length : Int)) then
      (idx list i).bind fun e =>
      (impl_ApplyAction fu ({ Network := ({ Nodes := m, Fibers := m2 } : Network), Lights := m3 } : Plan) e).bind fun y2 =>
      if !y2.2 then
        some (.ret (({ Network := ({ Nodes := m, Fibers := m2 } : Network), Lights := m3 } : Plan), i))
      else
        impl_applied_L1 fu list fk (w64 (i + 1)) y2.1.Network.Nodes y2.1.Network.Fibers y2.1.Lights
    else
      some (.next (i, m, m2, m3))
def impl_applied (fu : Nat) (p : Plan) (list : List Action) : Option (Plan × Int) :=
  (impl_copyPlan fu p).bind fun y =>
  (impl_applied_L1 fu list fu 0 y.Network.Nodes y.Network.Fibers y.Lights).bind fun out => out.on some fun z =>
  some (({ Network := ({ Nodes := z.2.1, Fibers := z.2.2.1 } : Network), Lights := z.2.2.2 } : Plan), (list.length : Int))

/- loop.example/g00897/impl.IsValidChange -/
def impl_IsValidChange (fu : Nat) (c : Change) : Option (Bool) :=
  ((impl_IsValidPlan fu c.Plan).bind fun y =>
  if !y then some true
  else if decide ((w64 ((c.Actions.length : Int) + (c.Undo.length : Int))) > 8) then some true
  else if c.Back then some (decide ((c.Actions.length : Int) > 0))
  else some false).bind fun c7 =>
  if c7 then
    some false
  else
    (impl_applied fu c.Plan c.Undo).bind fun y2 =>
    some (y2.2 == (c.Undo.length : Int))

/- loop.example/g00897/laws.FnExactIsValidChange -/
def laws_FnExactIsValidChange (fu : Nat) (aC : Change) : Option (Bool) :=
  (laws_szChange fu aC 1048576).bind fun y =>
  if decide (y < 0) then
    some true
  else
    (laws_toChange fu aC).bind fun y2 =>
    (spec_IsValidChange fu y2).bind fun y3 =>
    (laws_toChange fu aC).bind fun y4 =>
    (impl_IsValidChange fu y4).bind fun y5 =>
    if y5 != y3 then
      some false
    else
      (laws_toChange fu aC).bind fun y6 =>
      (laws_eqChange fu y4 y6).bind fun y7 =>
      if !y7 then
        some false
      else
        some true

/- loop.example/g00897/impl.requestsOf -/
def impl_requestsOf_L1 (fu : Nat) (p : Plan) : Nat → List Request → Int → Option (List Request × Int)
  | 0, _, _ => none
  | fk + 1, out', i =>
    if decide (i < (p.Lights.length : Int)) then
      (idx p.Lights i).bind fun e =>
      (app out' [({ Route := e.Route, Count := e.Block.Count } : Request)]).bind fun l =>
      impl_requestsOf_L1 fu p fk l (w64 (i + 1))
    else
      some (out', i)
def impl_requestsOf (fu : Nat) (p : Plan) : Option (List Request) :=
  (impl_requestsOf_L1 fu p fu ([] : List Request) 0).bind fun z =>
  some z.1

/- loop.example/g00897/impl.IsValidRequests$1 -/
def impl_IsValidRequests_c1 (fu : Nat) (x1 : Request) (cap : Network) : Option (Bool) :=
  (impl_visited fu cap x1.Route).bind fun y =>
  (if !y.2 then some true
  else (impl_within fu x1.Count 1 24).bind fun y2 =>
  some (!y2)).bind fun c5 =>
  some c5

/- slices.IndexFunc[[]loop.example/g00897/impl.Request,loop.example/g00897/impl.Request] -/
def slices_IndexFunc_impl_Request_impl_Request_of_IsValidRequests_c1_L1 (fu : Nat) (s' : List Request) (cap : Network) : Nat → Int → Option (Out (Int) (Int))
  | 0, _ => none
  | fk + 1, i =>
    if decide (i < (s'.length : Int)) then
      (idx s' i).bind fun e =>
      (impl_IsValidRequests_c1 fu e cap).bind fun y =>
      if y then
        some (.ret i)
      else
        slices_IndexFunc_impl_Request_impl_Request_of_IsValidRequests_c1_L1 fu s' cap fk (w64 (i + 1))
    else
      some (.next i)
def slices_IndexFunc_impl_Request_impl_Request_of_IsValidRequests_c1 (fu : Nat) (s' : List Request) (cap : Network) : Option (Int) :=
  (slices_IndexFunc_impl_Request_impl_Request_of_IsValidRequests_c1_L1 fu s' cap fu 0).bind fun out => out.on some fun z =>
  some (-1)

/- slices.ContainsFunc[[]loop.example/g00897/impl.Request,loop.example/g00897/impl.Request] -/
def slices_ContainsFunc_impl_Request_impl_Request_of_IsValidRequests_c1 (fu : Nat) (s' : List Request) (cap : Network) : Option (Bool) :=
  (slices_IndexFunc_impl_Request_impl_Request_of_IsValidRequests_c1 fu s' cap).bind fun y =>
  some (decide (y ≥ 0))

/- loop.example/g00897/impl.IsValidRequests -/
def impl_IsValidRequests (fu : Nat) (n' : Network) (list : List Request) : Option (Bool) :=
  ((impl_IsValidNetwork fu n').bind fun y =>
  if y then if decide ((list.length : Int) ≤ 7) then (slices_ContainsFunc_impl_Request_impl_Request_of_IsValidRequests_c1 fu list n').bind fun y2 =>
  some (!y2)
  else some false
  else some false).bind fun c4 =>
  some c4

/- loop.example/g00897/impl.conflict -/
def impl_conflict (fu : Nat) (a' : Request) (b' : Request) : Option (Bool) :=
  (impl_common fu a'.Route.Fibers b'.Route.Fibers).bind fun y =>
  some (decide ((y.length : Int) > 0))

/- loop.example/g00897/impl.isClique -/
def impl_isClique_L2 (fu : Nat) (list : List Request) (set : Int) (i : Int) : Nat → Int → Option (Out (Int) (Bool))
  | 0, _ => none
  | fk + 1, i2 =>
    if decide (i2 < i) then
      ((shr set i).bind fun q =>
      if (band q 1) == 1 then (shr set i2).bind fun q2 =>
      if (band q2 1) == 1 then (idx list i).bind fun e =>
      (idx list i2).bind fun e2 =>
      (impl_conflict fu e e2).bind fun y =>
      some (!y)
      else some false
      else some false).bind fun c2 =>
      if c2 then
        some (.ret false)
      else
        impl_isClique_L2 fu list set i fk (w64 (i2 + 1))
    else
      some (.next i2)
def impl_isClique_L1 (fu : Nat) (list : List Request) (set : Int) : Nat → Int → Option (Out (Int) (Bool))
  | 0, _ => none
  | fk + 1, i =>
    if decide (i < (list.length : Int)) then
      (impl_isClique_L2 fu list set i fu 0).bind fun out => out.on (fun r => some (.ret r)) fun z =>
      impl_isClique_L1 fu list set fk (w64 (i + 1))
    else
      some (.next i)
def impl_isClique (fu : Nat) (list : List Request) (set : Int) : Option (Bool) :=
  (impl_isClique_L1 fu list set fu 0).bind fun out => out.on some fun z2 =>
  some true

/- loop.example/g00897/impl.cliqueBound -/
def impl_cliqueBound_L2 (fu : Nat) (list : List Request) (i : Int) : Nat → Int → Int → Option (Int × Int)
  | 0, _, _ => none
  | fk + 1, sum, i2 =>
    if decide (i2 < (list.length : Int)) then
      (idx list i2).bind fun e =>
      (shr i i2).bind fun q2 =>
      if (band q2 1) == 1 then
        impl_cliqueBound_L2 fu list i fk (w64 (sum + e.Count)) (w64 (i2 + 1))
      else
        impl_cliqueBound_L2 fu list i fk sum (w64 (i2 + 1))
    else
      some (sum, i2)
def impl_cliqueBound_L1 (fu : Nat) (list : List Request) (q : Int) : Nat → Int → Int → Int → Option (Int × Int × Int)
  | 0, _, _, _ => none
  | fk + 1, most, i, best =>
    if decide (i < q) then
      (impl_cliqueBound_L2 fu list i fu 0 0).bind fun z =>
      (if decide (z.1 > most) then (impl_isClique fu list i).bind fun y =>
      some y
      else some false).bind fun c3 =>
      if c3 then
        impl_cliqueBound_L1 fu list q fk z.1 (w64 (i + 1)) i
      else
        impl_cliqueBound_L1 fu list q fk most (w64 (i + 1)) best
    else
      some (most, i, best)
def impl_cliqueBound (fu : Nat) (list : List Request) : Option (Int × Int) :=
  (shl 1 (list.length : Int)).bind fun q =>
  (impl_cliqueBound_L1 fu list q fu 0 0 0).bind fun z2 =>
  some (z2.1, z2.2.2)
end AT
