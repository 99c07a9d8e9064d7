/- The Go functions told plainly, by program (gen.py). -/
import Derived.Test.YtmokfdffnijbbaaGreatAtR
set_option linter.unusedVariables false
namespace AT
structure Fiber where
  A : Int
  B : Int
  Length : Int
  Risk : Int
  deriving DecidableEq
structure Network where
  Nodes : List ByteArray
  Fibers : List Fiber
  deriving DecidableEq
structure Route where
  Start : Int
  Fibers : List Int
  deriving DecidableEq
structure Block where
  First : Int
  Count : Int
  deriving DecidableEq
structure Light where
  Id : Int
  Route : Route
  Block : Block
  deriving DecidableEq
structure Plan where
  Network : Network
  Lights : List Light
  deriving DecidableEq
structure Request where
  Route : Route
  Count : Int
  deriving DecidableEq
structure L1CurP where
  code : List By
  at_ : Int
  seed : U64
  deriving DecidableEq
structure Action where
  Kind : Int
  Light : Light
  deriving DecidableEq
structure L20SearchP where
  list : List Action
  failed : List Bool
  deriving DecidableEq
def laws_szStringS_L1 (fu : Nat) (a' : List ByteArray) : Nat → Int → Int → Option (Out (Int × Int) (Int))
  | 0, _, _ => none
  | fk + 1, left2, i =>
    if decide (i < (a'.length : Int)) then
      (idx a' i).bind fun e =>
      if decide ((w64 (left2 - (e.size : Int))) < 0) then
        some (.ret (-1))
      else
        laws_szStringS_L1 fu a' fk (w64 (left2 - (e.size : Int))) (w64 (i + 1))
    else
      some (.next (left2, i))
def laws_szStringS (fu : Nat) (a' : List ByteArray) (left : Int) : Option (Int) :=
  if decide ((w64 (left - (a'.length : Int))) < 0) then
    some (-1)
  else
    (laws_szStringS_L1 fu a' fu (w64 (left - (a'.length : Int))) 0).bind fun out => out.on some fun z =>
    some z.1
def laws_szFiberS (fu : Nat) (a' : List Fiber) (left : Int) : Option (Int) :=
  if decide ((w64 (left - (a'.length : Int))) < 0) then
    some (-1)
  else
    some (w64 (left - (a'.length : Int)))
def laws_szNetwork (fu : Nat) (a' : Network) (left : Int) : Option (Int) :=
  (laws_szStringS fu a'.Nodes left).bind fun y =>
  if decide (y < 0) then
    some (-1)
  else
    (laws_szFiberS fu a'.Fibers y).bind fun y2 =>
    if decide (y2 < 0) then
      some (-1)
    else
      some y2
def laws_szIntS (fu : Nat) (a' : List Int) (left : Int) : Option (Int) :=
  if decide ((w64 (left - (a'.length : Int))) < 0) then
    some (-1)
  else
    some (w64 (left - (a'.length : Int)))
def laws_szRoute (fu : Nat) (a' : Route) (left : Int) : Option (Int) :=
  (laws_szIntS fu a'.Fibers left).bind fun y =>
  if decide (y < 0) then
    some (-1)
  else
    some y
def laws_szLight (fu : Nat) (a' : Light) (left : Int) : Option (Int) :=
  (laws_szRoute fu a'.Route left).bind fun y =>
  if decide (y < 0) then
    some (-1)
  else
    some y
def laws_szLightS_L1 (fu : Nat) (a' : List Light) : Nat → Int → Int → Option (Out (Int × Int) (Int))
  | 0, _, _ => none
  | fk + 1, left2, i =>
    if decide (i < (a'.length : Int)) then
      (idx a' i).bind fun e =>
      (laws_szLight fu e left2).bind fun y =>
      if decide (y < 0) then
        some (.ret (-1))
      else
        laws_szLightS_L1 fu a' fk y (w64 (i + 1))
    else
      some (.next (left2, i))
def laws_szLightS (fu : Nat) (a' : List Light) (left : Int) : Option (Int) :=
  if decide ((w64 (left - (a'.length : Int))) < 0) then
    some (-1)
  else
    (laws_szLightS_L1 fu a' fu (w64 (left - (a'.length : Int))) 0).bind fun out => out.on some fun z =>
    some z.1
def laws_szPlan (fu : Nat) (a' : Plan) (left : Int) : Option (Int) :=
  (laws_szNetwork fu a'.Network left).bind fun y =>
  if decide (y < 0) then
    some (-1)
  else
    (laws_szLightS fu a'.Lights y).bind fun y2 =>
    if decide (y2 < 0) then
      some (-1)
    else
      some y2
def laws_toStringS_L1 (fu : Nat) (a' : List ByteArray) : Nat → List ByteArray → Int → Option (List ByteArray × Int)
  | 0, _, _ => none
  | fk + 1, out', i =>
    if decide (i < (a'.length : Int)) then
      (idx a' i).bind fun e =>
      (idx out' i).bind fun e2 =>
      laws_toStringS_L1 fu a' fk (out'.set (i : Int).toNat e) (w64 (i + 1))
    else
      some (out', i)
def laws_toStringS (fu : Nat) (a' : List ByteArray) : Option (List ByteArray) :=
  (mk (ByteArray.empty : ByteArray) (a'.length : Int)).bind fun l =>
  (laws_toStringS_L1 fu a' fu l 0).bind fun z =>
  some z.1
def laws_toFiber (fu : Nat) (a' : Fiber) : Option (Fiber) :=
  some a'
def laws_toFiberS_L1 (fu : Nat) (a' : List Fiber) : Nat → List Fiber → Int → Option (List Fiber × Int)
  | 0, _, _ => none
  | fk + 1, out', i =>
    if decide (i < (a'.length : Int)) then
      (idx a' i).bind fun e =>
      (laws_toFiber fu e).bind fun y =>
      (idx out' i).bind fun e2 =>
      laws_toFiberS_L1 fu a' fk (out'.set (i : Int).toNat y) (w64 (i + 1))
    else
      some (out', i)
def laws_toFiberS (fu : Nat) (a' : List Fiber) : Option (List Fiber) :=
  (mk (({ A := 0, B := 0, Length := 0, Risk := 0 } : Fiber) : Fiber) (a'.length : Int)).bind fun l =>
  (laws_toFiberS_L1 fu a' fu l 0).bind fun z =>
  some z.1
def laws_toNetwork (fu : Nat) (a' : Network) : Option (Network) :=
  (laws_toStringS fu a'.Nodes).bind fun y =>
  (laws_toFiberS fu a'.Fibers).bind fun y2 =>
  some ({ Nodes := y, Fibers := y2 } : Network)
def laws_toIntS_L1 (fu : Nat) (a' : List Int) : Nat → List Int → Int → Option (List Int × Int)
  | 0, _, _ => none
  | fk + 1, out', i =>
    if decide (i < (a'.length : Int)) then
      (idx a' i).bind fun e =>
      (idx out' i).bind fun e2 =>
      laws_toIntS_L1 fu a' fk (out'.set (i : Int).toNat e) (w64 (i + 1))
    else
      some (out', i)
def laws_toIntS (fu : Nat) (a' : List Int) : Option (List Int) :=
  (mk (0 : Int) (a'.length : Int)).bind fun l =>
  (laws_toIntS_L1 fu a' fu l 0).bind fun z =>
  some z.1
def laws_toRoute (fu : Nat) (a' : Route) : Option (Route) :=
  (laws_toIntS fu a'.Fibers).bind fun y =>
  some ({ Start := a'.Start, Fibers := y } : Route)
def laws_toBlock (fu : Nat) (a' : Block) : Option (Block) :=
  some a'
def laws_toLight (fu : Nat) (a' : Light) : Option (Light) :=
  (laws_toRoute fu a'.Route).bind fun y =>
  (laws_toBlock fu a'.Block).bind fun y2 =>
  some ({ Id := a'.Id, Route := y, Block := y2 } : Light)
def laws_toLightS_L1 (fu : Nat) (a' : List Light) : Nat → List Light → Int → Option (List Light × Int)
  | 0, _, _ => none
  | fk + 1, out', i =>
    if decide (i < (a'.length : Int)) then
      (idx a' i).bind fun e =>
      (laws_toLight fu e).bind fun y =>
      (idx out' i).bind fun e2 =>
      laws_toLightS_L1 fu a' fk (out'.set (i : Int).toNat y) (w64 (i + 1))
    else
      some (out', i)
def laws_toLightS (fu : Nat) (a' : List Light) : Option (List Light) :=
  (mk (({ Id := 0, Route := ({ Start := 0, Fibers := [] } : Route), Block := ({ First := 0, Count := 0 } : Block) } : Light) : Light) (a'.length : Int)).bind fun l =>
  (laws_toLightS_L1 fu a' fu l 0).bind fun z =>
  some z.1
def laws_toPlan (fu : Nat) (a' : Plan) : Option (Plan) :=
  (laws_toNetwork fu a'.Network).bind fun y =>
  (laws_toLightS fu a'.Lights).bind fun y2 =>
  some ({ Network := y, Lights := y2 } : Plan)
def spec_l1In (fu : Nat) (x1 : Int) (a' : Int) (b' : Int) : Option (Bool) :=
  (if decide (x1 ≥ a') then some (decide (x1 ≤ b'))
  else some false).bind fun c =>
  some c
def spec_l2Sign (fu : Nat) (b' : By) : Option (Bool) :=
  (if decide (b'.n ≥ 97) then if decide (b'.n ≤ 122) then some true
  else if decide (b'.n ≥ 48) then some (decide (b'.n ≤ 57))
  else some false
  else if decide (b'.n ≥ 48) then some (decide (b'.n ≤ 57))
  else some false).bind fun c =>
  some c
def spec_l2Name_L1 (fu : Nat) (s' : ByteArray) : Nat → Int → Option (Out (Int) (Bool))
  | 0, _ => none
  | fk + 1, i =>
    if decide (i < (s'.size : Int)) then
      (sidx s' i).bind fun e3 =>
      (spec_l2Sign fu e3).bind fun y2 =>
      if !y2 then
        some (.ret false)
      else
        spec_l2Name_L1 fu s' fk (w64 (i + 1))
    else
      some (.next i)
def spec_l2Name (fu : Nat) (s' : ByteArray) : Option (Bool) :=
  ((spec_l1In fu (s'.size : Int) 1 8).bind fun y =>
  if !y then some true
  else (sidx s' 0).bind fun e =>
  if decide (e.n < 97) then some true
  else (sidx s' 0).bind fun e2 =>
  some (decide (e2.n > 122))).bind fun c =>
  if c then
    some false
  else
    (spec_l2Name_L1 fu s' fu 0).bind fun out => out.on some fun z =>
    some true
def spec_l2Find_L1 (fu : Nat) (list : List ByteArray) (name : ByteArray) : Nat → Int → Option (Out (Int) (Int))
  | 0, _ => none
  | fk + 1, i =>
    if decide (i < (list.length : Int)) then
      (idx list i).bind fun e =>
      if e.toList == name.toList then
        some (.ret i)
      else
        spec_l2Find_L1 fu list name fk (w64 (i + 1))
    else
      some (.next i)
def spec_l2Find (fu : Nat) (list : List ByteArray) (name : ByteArray) : Option (Int) :=
  (spec_l2Find_L1 fu list name fu 0).bind fun out => out.on some fun z =>
  some (-1)
def spec_l2Fiber (fu : Nat) (f : Fiber) (nodes : Int) : Option (Bool) :=
  ((spec_l1In fu f.A 0 (w64 (nodes - 1))).bind fun y =>
  if y then (spec_l1In fu f.B (w64 (f.A + 1)) (w64 (nodes - 1))).bind fun y2 =>
  if y2 then (spec_l1In fu f.Length 1 5000).bind fun y3 =>
  if y3 then (spec_l1In fu f.Risk 0 9).bind fun y4 =>
  some y4
  else some false
  else some false
  else some false).bind fun c =>
  some c
def spec_l2Before (fu : Nat) (f : Fiber) (g' : Fiber) : Option (Int) :=
  if f.A != g'.A then
    some (w64 (f.A - g'.A))
  else
    if f.B != g'.B then
      some (w64 (f.B - g'.B))
    else
      if f.Length != g'.Length then
        some (w64 (f.Length - g'.Length))
      else
        some (w64 (f.Risk - g'.Risk))
def spec_l2Good_L1 (fu : Nat) (n' : Network) : Nat → Int → Option (Out (Int) (Bool))
  | 0, _ => none
  | fk + 1, i =>
    if decide (i < (n'.Nodes.length : Int)) then
      ((idx n'.Nodes i).bind fun e =>
      (spec_l2Name fu e).bind fun y2 =>
      if !y2 then some true
      else (idx n'.Nodes i).bind fun e2 =>
      (spec_l2Find fu n'.Nodes e2).bind fun y3 =>
      some (y3 != i)).bind fun c4 =>
      if c4 then
        some (.ret false)
      else
        spec_l2Good_L1 fu n' fk (w64 (i + 1))
    else
      some (.next i)
def spec_l2Good_L2 (fu : Nat) (n' : Network) : Nat → Int → Option (Out (Int) (Bool))
  | 0, _ => none
  | fk + 1, i3 =>
    if decide (i3 < (n'.Fibers.length : Int)) then
      ((idx n'.Fibers i3).bind fun e3 =>
      (spec_l2Fiber fu e3 (n'.Nodes.length : Int)).bind fun y4 =>
      if !y4 then some true
      else if decide (i3 > 0) then (idx n'.Fibers (w64 (i3 - 1))).bind fun e4 =>
      (idx n'.Fibers i3).bind fun e5 =>
      (spec_l2Before fu e4 e5).bind fun y5 =>
      some (decide (y5 > 0))
      else some false).bind fun c5 =>
      if c5 then
        some (.ret false)
      else
        spec_l2Good_L2 fu n' fk (w64 (i3 + 1))
    else
      some (.next i3)
def spec_l2Good (fu : Nat) (n' : Network) : Option (Bool) :=
  ((spec_l1In fu (n'.Nodes.length : Int) 2 8).bind fun y =>
  if !y then some true
  else some (decide ((n'.Fibers.length : Int) > 14))).bind fun c3 =>
  if c3 then
    some false
  else
    (spec_l2Good_L1 fu n' fu 0).bind fun out => out.on some fun z2 =>
    (spec_l2Good_L2 fu n' fu 0).bind fun out => out.on some fun z =>
    some true
def spec_l2Other (fu : Nat) (n' : Network) (fiber : Int) (node : Int) : Option (Int) :=
  (idx n'.Fibers fiber).bind fun e =>
  if node == e.A then
    some e.B
  else
    if node == e.B then
      some e.A
    else
      some (-1)
def spec_l1Has_L1 (fu : Nat) (l : List Int) (n' : Int) : Nat → Int → Option (Out (Int) (Bool))
  | 0, _ => none
  | fk + 1, i =>
    if decide (i < (l.length : Int)) then
      (idx l i).bind fun e =>
      if e == n' then
        some (.ret true)
      else
        spec_l1Has_L1 fu l n' fk (w64 (i + 1))
    else
      some (.next i)
def spec_l1Has (fu : Nat) (l : List Int) (n' : Int) : Option (Bool) :=
  (spec_l1Has_L1 fu l n' fu 0).bind fun out => out.on some fun z =>
  some false
def spec_l4Walk_L1 (fu : Nat) (n' : Network) (r' : Route) : Nat → List Int → Int → Option (Out (List Int × Int) (List Int × Bool))
  | 0, _, _ => none
  | fk + 1, out', i =>
    if decide (i < (r'.Fibers.length : Int)) then
      (idx r'.Fibers i).bind fun e =>
      (spec_l1In fu e 0 (w64 ((n'.Fibers.length : Int) - 1))).bind fun y2 =>
      if !y2 then
        some (.ret (out', false))
      else
        (idx r'.Fibers i).bind fun e2 =>
        (idx out' (w64 ((out'.length : Int) - 1))).bind fun e3 =>
        (spec_l2Other fu n' e2 e3).bind fun y3 =>
        (if decide (y3 < 0) then some true
        else (spec_l1Has fu out' y3).bind fun y4 =>
        some y4).bind fun c6 =>
        if c6 then
          some (.ret (out', false))
        else
          (app out' [y3]).bind fun l =>
          spec_l4Walk_L1 fu n' r' fk l (w64 (i + 1))
    else
      some (.next (out', i))
def spec_l4Walk (fu : Nat) (n' : Network) (r' : Route) : Option (List Int × Bool) :=
  ((spec_l1In fu r'.Start 0 (w64 ((n'.Nodes.length : Int) - 1))).bind fun y =>
  if !y then some true
  else some ((r'.Fibers.length : Int) == 0)).bind fun c4 =>
  if c4 then
    some ([r'.Start], false)
  else
    (spec_l4Walk_L1 fu n' r' fu [r'.Start] 0).bind fun out => out.on some fun z =>
    some (z.1, true)
def spec_l4Good (fu : Nat) (n' : Network) (r' : Route) : Option (Bool) :=
  (spec_l2Good fu n').bind fun y =>
  if !y then
    some false
  else
    (spec_l4Walk fu n' r').bind fun y2 =>
    some y2.2
def spec_l8Good (fu : Nat) (b' : Block) : Option (Bool) :=
  ((spec_l1In fu b'.First 0 23).bind fun y =>
  if y then (spec_l1In fu b'.Count 1 (w64 (24 - b'.First))).bind fun y2 =>
  some y2
  else some false).bind fun c =>
  some c
def spec_l9Light (fu : Nat) (n' : Network) (x1 : Light) : Option (Bool) :=
  ((spec_l1In fu x1.Id 1 999).bind fun y =>
  if y then (spec_l4Good fu n' x1.Route).bind fun y2 =>
  if y2 then (spec_l8Good fu x1.Block).bind fun y3 =>
  some y3
  else some false
  else some false).bind fun c4 =>
  some c4
def spec_l4Uses_L1 (fu : Nat) (r' : Route) (group : List Int) : Nat → Int → Option (Out (Int) (Bool))
  | 0, _ => none
  | fk + 1, i =>
    if decide (i < (r'.Fibers.length : Int)) then
      (idx r'.Fibers i).bind fun e =>
      (spec_l1Has fu group e).bind fun y =>
      if y then
        some (.ret true)
      else
        spec_l4Uses_L1 fu r' group fk (w64 (i + 1))
    else
      some (.next i)
def spec_l4Uses (fu : Nat) (r' : Route) (group : List Int) : Option (Bool) :=
  (spec_l4Uses_L1 fu r' group fu 0).bind fun out => out.on some fun z =>
  some false
def spec_l8Bits (fu : Nat) (b' : Block) : Option (Int) :=
  (shl 1 (wu64 b'.Count)).bind fun q =>
  (shl (w64 (q - 1)) (wu64 b'.First)).bind fun q2 =>
  some q2
def spec_l9Collide (fu : Nat) (x1 : Light) (y : Light) : Option (Bool) :=
  ((spec_l4Uses fu x1.Route y.Route.Fibers).bind fun y2 =>
  if y2 then (spec_l8Bits fu x1.Block).bind fun y3 =>
  (spec_l8Bits fu y.Block).bind fun y4 =>
  some ((band y3 y4) != 0)
  else some false).bind fun c3 =>
  some c3
def spec_l9Good_L2 (fu : Nat) (p : Plan) (i : Int) : Nat → Int → Option (Out (Int) (Bool))
  | 0, _ => none
  | fk + 1, k' =>
    if decide (k' < i) then
      (idx p.Lights k').bind fun e4 =>
      (idx p.Lights i).bind fun e5 =>
      (spec_l9Collide fu e4 e5).bind fun y3 =>
      if y3 then
        some (.ret false)
      else
        spec_l9Good_L2 fu p i fk (w64 (k' + 1))
    else
      some (.next k')
def spec_l9Good_L1 (fu : Nat) (p : Plan) : Nat → Int → Option (Out (Int) (Bool))
  | 0, _ => none
  | fk + 1, i =>
    if decide (i < (p.Lights.length : Int)) then
      ((idx p.Lights i).bind fun e =>
      (spec_l9Light fu p.Network e).bind fun y2 =>
      if !y2 then some true
      else if decide (i > 0) then (idx p.Lights (w64 (i - 1))).bind fun e2 =>
      (idx p.Lights i).bind fun e3 =>
      some (decide (e2.Id ≥ e3.Id))
      else some false).bind fun c5 =>
      if c5 then
        some (.ret false)
      else
        (spec_l9Good_L2 fu p i fu 0).bind fun out => out.on (fun r => some (.ret r)) fun z =>
        spec_l9Good_L1 fu p fk (w64 (i + 1))
    else
      some (.next i)
def spec_l9Good (fu : Nat) (p : Plan) : Option (Bool) :=
  ((spec_l2Good fu p.Network).bind fun y =>
  if !y then some true
  else some (decide ((p.Lights.length : Int) > 12))).bind fun c4 =>
  if c4 then
    some false
  else
    (spec_l9Good_L1 fu p fu 0).bind fun out => out.on some fun z2 =>
    some true
def spec_l21Requests_L1 (fu : Nat) (p : Plan) : Nat → List Request → Int → Option (List Request × Int)
  | 0, _, _ => none
  | fk + 1, out', i =>
    if decide (i < (p.Lights.length : Int)) then
      (idx p.Lights i).bind fun e =>
      (idx p.Lights i).bind fun e2 =>
      (app out' [({ Route := e.Route, Count := e2.Block.Count } : Request)]).bind fun l =>
      spec_l21Requests_L1 fu p fk l (w64 (i + 1))
    else
      some (out', i)
def spec_l21Requests (fu : Nat) (p : Plan) : Option (List Request) :=
  (spec_l21Requests_L1 fu p fu ([] : List Request) 0).bind fun z =>
  some z.1
def spec_l12Conflict (fu : Nat) (a' : Request) (b' : Request) : Option (Bool) :=
  (spec_l4Uses fu a'.Route b'.Route.Fibers).bind fun y =>
  some y
def spec_l12Clique_L2 (fu : Nat) (list : List Request) (mask : Int) (i : Int) : Nat → Int → Option (Out (Int) (Int))
  | 0, _ => none
  | fk + 1, k' =>
    if decide (k' < i) then
      ((shr mask (wu64 k')).bind fun q2 =>
      if (band q2 1) == 1 then (idx list i).bind fun e2 =>
      (idx list k').bind fun e3 =>
      (spec_l12Conflict fu e2 e3).bind fun y =>
      some (!y)
      else some false).bind fun c3 =>
      if c3 then
        some (.ret (-1))
      else
        spec_l12Clique_L2 fu list mask i fk (w64 (k' + 1))
    else
      some (.next k')
def spec_l12Clique_L1 (fu : Nat) (list : List Request) (mask : Int) : Nat → Int → Int → Option (Out (Int × Int) (Int))
  | 0, _, _ => none
  | fk + 1, i, sum =>
    if decide (i < (list.length : Int)) then
      (shr mask (wu64 i)).bind fun q =>
      if (band q 1) == 0 then
        spec_l12Clique_L1 fu list mask fk (w64 (i + 1)) sum
      else
        (idx list i).bind fun e =>
        (spec_l12Clique_L2 fu list mask i fu 0).bind fun out => out.on (fun r => some (.ret r)) fun z =>
        spec_l12Clique_L1 fu list mask fk (w64 (i + 1)) (w64 (sum + e.Count))
    else
      some (.next (i, sum))
def spec_l12Clique (fu : Nat) (list : List Request) (mask : Int) : Option (Int) :=
  (spec_l12Clique_L1 fu list mask fu 0 0).bind fun out => out.on some fun z2 =>
  some z2.2
def spec_l12Bound_L1 (fu : Nat) (list : List Request) : Nat → Int → Int → Int → Option (Int × Int × Int)
  | 0, _, _, _ => none
  | fk + 1, most, best, mask =>
    (shl 1 (wu64 (list.length : Int))).bind fun q =>
    if decide (mask < q) then
      (spec_l12Clique fu list mask).bind fun y =>
      if decide (y > most) then
        spec_l12Bound_L1 fu list fk y mask (w64 (mask + 1))
      else
        spec_l12Bound_L1 fu list fk most best (w64 (mask + 1))
    else
      some (most, best, mask)
def spec_l12Bound (fu : Nat) (list : List Request) : Option (Int × Int) :=
  (spec_l12Bound_L1 fu list fu 0 0 1).bind fun z =>
  some (z.1, z.2.1)
def spec_l12Taken_L1 (fu : Nat) (list : List Request) (blocks : List Block) (i : Int) : Nat → Int → Int → Option (Int × Int)
  | 0, _, _ => none
  | fk + 1, out', k' =>
    if decide (k' < (list.length : Int)) then
      (if k' != i then (idx blocks k').bind fun e =>
      if decide (e.Count > 0) then (idx list k').bind fun e2 =>
      (idx list i).bind fun e3 =>
      (spec_l12Conflict fu e2 e3).bind fun y =>
      some y
      else some false
      else some false).bind fun c3 =>
      if c3 then
        (idx blocks k').bind fun e4 =>
        (spec_l8Bits fu e4).bind fun y2 =>
        spec_l12Taken_L1 fu list blocks i fk (bor out' y2) (w64 (k' + 1))
      else
        spec_l12Taken_L1 fu list blocks i fk out' (w64 (k' + 1))
    else
      some (out', k')
def spec_l12Taken (fu : Nat) (list : List Request) (blocks : List Block) (i : Int) : Option (Int) :=
  (spec_l12Taken_L1 fu list blocks i fu 0 0).bind fun z =>
  some z.1
def spec_l8Fits_L1 (fu : Nat) (mask : Int) (count : Int) : Nat → List Int → Int → Option (List Int × Int)
  | 0, _, _ => none
  | fk + 1, out', s' =>
    if decide ((w64 (s' + count)) ≤ 24) then
      (spec_l8Bits fu ({ First := s', Count := count } : Block)).bind fun y =>
      if (band mask y) == 0 then
        (app out' [s']).bind fun l =>
        spec_l8Fits_L1 fu mask count fk l (w64 (s' + 1))
      else
        spec_l8Fits_L1 fu mask count fk out' (w64 (s' + 1))
    else
      some (out', s')
def spec_l8Fits (fu : Nat) (mask : Int) (count : Int) : Option (List Int) :=
  (spec_l8Fits_L1 fu mask count fu ([] : List Int) 0).bind fun z =>
  some z.1
def spec_l12Extend_L1 (fu : Nat) (list : List Request) (i : Int) (height : Int) (rec_ : (List Request) → (List Block) → (Int) → (Int) → Option (Bool × List Block)) (y2 : List Int) : Nat → List Block → Int → Option (Out (List Block × Int) (Bool × List Block))
  | 0, _, _ => none
  | fk + 1, blocks2, k' =>
    (if decide (k' < (y2.length : Int)) then (idx y2 k').bind fun e2 =>
    (idx list i).bind fun e3 =>
    some (decide ((w64 (e2 + e3.Count)) ≤ height))
    else some false).bind fun c5 =>
    if c5 then
      (idx y2 k').bind fun e4 =>
      (idx list i).bind fun e5 =>
      (idx blocks2 i).bind fun e6 =>
      (rec_ list (blocks2.set (i : Int).toNat ({ First := e4, Count := e5.Count } : Block)) (w64 (i + 1)) height).bind fun y3 =>
      if y3.1 then
        some (.ret (true, y3.2))
      else
        spec_l12Extend_L1 fu list i height rec_ y2 fk y3.2 (w64 (k' + 1))
    else
      some (.next (blocks2, k'))
def spec_l12Extend_B (fu : Nat) (rec_ : (List Request) → (List Block) → (Int) → (Int) → Option (Bool × List Block)) (list : List Request) (blocks : List Block) (i : Int) (height : Int) : Option (Bool × List Block) :=
  if i == (list.length : Int) then
    some (true, blocks)
  else
    (idx list i).bind fun e =>
    (spec_l12Taken fu list blocks i).bind fun y =>
    (spec_l8Fits fu y e.Count).bind fun y2 =>
    (spec_l12Extend_L1 fu list i height rec_ y2 fu blocks 0).bind fun out => out.on some fun z =>
    (idx z.1 i).bind fun e7 =>
    some (false, z.1.set (i : Int).toNat ({ First := 0, Count := 0 } : Block))
def spec_l12Extend : Nat → (List Request) → (List Block) → (Int) → (Int) → Option (Bool × List Block)
  | 0, _, _, _, _ => none
  | fu + 1, list, blocks, i, height => spec_l12Extend_B fu (fun list blocks i height => spec_l12Extend fu list blocks i height) list blocks i height
def spec_l12Exact_L1 (fu : Nat) (list : List Request) : Nat → Int → Option (Out (Int) (List Block × Int × Bool))
  | 0, _ => none
  | fk + 1, height =>
    if decide (height ≤ 24) then
      (mk (({ First := 0, Count := 0 } : Block) : Block) (list.length : Int)).bind fun l =>
      (spec_l12Extend fu list l 0 height).bind fun y2 =>
      if y2.1 then
        some (.ret (y2.2, height, true))
      else
        spec_l12Exact_L1 fu list fk (w64 (height + 1))
    else
      some (.next height)
def spec_l12Exact (fu : Nat) (list : List Request) : Option (List Block × Int × Bool) :=
  (spec_l12Bound fu list).bind fun y =>
  (spec_l12Exact_L1 fu list fu y.1).bind fun out => out.on some fun z =>
  some (([] : List Block), 0, false)
def impl_within (fu : Nat) (n' : Int) (low : Int) (high : Int) : Option (Bool) :=
  (if decide (low ≤ n') then some (decide (n' ≤ high))
  else some false).bind fun c =>
  some c
def impl_isName_L1 (fu : Nat) (s' : ByteArray) : Nat → Int → Option (Out (Int) (Bool))
  | 0, _ => none
  | fk + 1, i =>
    if decide (i < (s'.size : Int)) then
      (sidx s' i).bind fun e =>
      (sidx s' i).bind fun e2 =>
      if decide (e.n ≥ 97) then (sidx s' i).bind fun e3 =>
      if decide (e2.n ≥ 48) then (sidx s' i).bind fun e4 =>
      (if !(decide (e3.n ≤ 122)) then if !(decide (e4.n ≤ 57)) then some true
      else some (i == 0)
      else some false).bind fun c =>
      if c then
        some (.ret false)
      else
        impl_isName_L1 fu s' fk (w64 (i + 1))
      else (if !(decide (e3.n ≤ 122)) then if !false then some true
      else some (i == 0)
      else some false).bind fun c2 =>
      if c2 then
        some (.ret false)
      else
        impl_isName_L1 fu s' fk (w64 (i + 1))
      else if decide (e2.n ≥ 48) then (sidx s' i).bind fun e5 =>
      (if !false then if !(decide (e5.n ≤ 57)) then some true
      else some (i == 0)
      else some false).bind fun c3 =>
      if c3 then
        some (.ret false)
      else
        impl_isName_L1 fu s' fk (w64 (i + 1))
      else (if !false then if !false then some true
      else some (i == 0)
      else some false).bind fun c4 =>
      if c4 then
        some (.ret false)
      else
        impl_isName_L1 fu s' fk (w64 (i + 1))
    else
      some (.next i)
def impl_isName (fu : Nat) (s' : ByteArray) : Option (Bool) :=
  (impl_isName_L1 fu s' fu 0).bind fun out => out.on some fun z =>
  (impl_within fu (s'.size : Int) 1 8).bind fun y =>
  some y
def slices_Index_string_string_L1 (fu : Nat) (s' : List ByteArray) (v : ByteArray) : Nat → Int → Option (Out (Int) (Int))
  | 0, _ => none
  | fk + 1, i =>
    if decide (i < (s'.length : Int)) then
      (idx s' i).bind fun e =>
      if v.toList == e.toList then
        some (.ret i)
      else
        slices_Index_string_string_L1 fu s' v fk (w64 (i + 1))
    else
      some (.next i)
def slices_Index_string_string (fu : Nat) (s' : List ByteArray) (v : ByteArray) : Option (Int) :=
  (slices_Index_string_string_L1 fu s' v fu 0).bind fun out => out.on some fun z =>
  some (-1)
def slices_Contains_string_string (fu : Nat) (s' : List ByteArray) (v : ByteArray) : Option (Bool) :=
  (slices_Index_string_string fu s' v).bind fun y =>
  some (decide (y ≥ 0))
def cmp_isNaN_int (fu : Nat) (x1 : Int) : Option (Bool) :=
  some (x1 != x1)
def cmp_Compare_int (fu : Nat) (x1 : Int) (y : Int) : Option (Int) :=
  (cmp_isNaN_int fu x1).bind fun y2 =>
  (cmp_isNaN_int fu y).bind fun y3 =>
  if y2 then
    if y3 then
      some 0
    else
      some (-1)
  else
    if y3 then
      some 1
    else
      if decide (x1 < y) then
        some (-1)
      else
        if decide (x1 > y) then
          some 1
        else
          some 0
def cmp_Or_int_L1 (fu : Nat) (vals : List Int) : Nat → Int → Option (Out (Int) (Int))
  | 0, _ => none
  | fk + 1, i =>
    if decide (i < (vals.length : Int)) then
      (idx vals i).bind fun e =>
      if e != 0 then
        some (.ret e)
      else
        cmp_Or_int_L1 fu vals fk (w64 (i + 1))
    else
      some (.next i)
def cmp_Or_int (fu : Nat) (vals : List Int) : Option (Int) :=
  (cmp_Or_int_L1 fu vals fu 0).bind fun out => out.on some fun z =>
  some 0
def impl_compareFibers (fu : Nat) (a' : Fiber) (b' : Fiber) : Option (Int) :=
  (cmp_Compare_int fu a'.A b'.A).bind fun y =>
  (cmp_Compare_int fu a'.B b'.B).bind fun y2 =>
  (cmp_Compare_int fu a'.Length b'.Length).bind fun y3 =>
  (cmp_Compare_int fu a'.Risk b'.Risk).bind fun y4 =>
  (cmp_Or_int fu [y, y2, y3, y4]).bind fun y5 =>
  some y5
def impl_IsValidNetwork_L1 (fu : Nat) (n' : Network) : Nat → Int → Option (Out (Int) (Bool))
  | 0, _ => none
  | fk + 1, i =>
    if decide (i < (n'.Nodes.length : Int)) then
      (idx n'.Nodes i).bind fun e =>
      ((impl_isName fu e).bind fun y =>
      if !y then some true
      else (sub n'.Nodes 0 i).bind fun l =>
      (slices_Contains_string_string fu l e).bind fun y2 =>
      some y2).bind fun c3 =>
      if c3 then
        some (.ret false)
      else
        impl_IsValidNetwork_L1 fu n' fk (w64 (i + 1))
    else
      some (.next i)
def impl_IsValidNetwork_L2 (fu : Nat) (n' : Network) : Nat → Int → Option (Out (Int) (Bool))
  | 0, _ => none
  | fk + 1, i3 =>
    if decide (i3 < (n'.Fibers.length : Int)) then
      (idx n'.Fibers i3).bind fun e2 =>
      (if decide (e2.A < 0) then some true
      else if decide (e2.A ≥ e2.B) then some true
      else if decide (e2.B ≥ (n'.Nodes.length : Int)) then some true
      else (impl_within fu e2.Length 1 5000).bind fun y3 =>
      if !y3 then some true
      else (impl_within fu e2.Risk 0 9).bind fun y4 =>
      if !y4 then some true
      else if decide (i3 > 0) then (idx n'.Fibers (w64 (i3 - 1))).bind fun e3 =>
      (impl_compareFibers fu e3 e2).bind fun y5 =>
      some (decide (y5 > 0))
      else some false).bind fun c5 =>
      if c5 then
        some (.ret false)
      else
        impl_IsValidNetwork_L2 fu n' fk (w64 (i3 + 1))
    else
      some (.next i3)
def impl_IsValidNetwork (fu : Nat) (n' : Network) : Option (Bool) :=
  (impl_IsValidNetwork_L1 fu n' fu 0).bind fun out => out.on some fun z2 =>
  (impl_IsValidNetwork_L2 fu n' fu 0).bind fun out => out.on some fun z =>
  ((impl_within fu (n'.Nodes.length : Int) 2 8).bind fun y6 =>
  if y6 then some (decide ((n'.Fibers.length : Int) ≤ 14))
  else some false).bind fun c6 =>
  some c6
def impl_otherEnd (fu : Nat) (f : Fiber) (node : Int) : Option (Int) :=
  if node == f.A then
    some f.B
  else
    if node == f.B then
      some f.A
    else
      some (-1)
def slices_Index_int_int_L1 (fu : Nat) (s' : List Int) (v : Int) : Nat → Int → Option (Out (Int) (Int))
  | 0, _ => none
  | fk + 1, i =>
    if decide (i < (s'.length : Int)) then
      (idx s' i).bind fun e =>
      if v == e then
        some (.ret i)
      else
        slices_Index_int_int_L1 fu s' v fk (w64 (i + 1))
    else
      some (.next i)
def slices_Index_int_int (fu : Nat) (s' : List Int) (v : Int) : Option (Int) :=
  (slices_Index_int_int_L1 fu s' v fu 0).bind fun out => out.on some fun z =>
  some (-1)
def slices_Contains_int_int (fu : Nat) (s' : List Int) (v : Int) : Option (Bool) :=
  (slices_Index_int_int fu s' v).bind fun y =>
  some (decide (y ≥ 0))
def impl_visited_L1 (fu : Nat) (n' : Network) (r' : Route) : Nat → List Int → Int → Int → Option (Out (List Int × Int × Int) (List Int × Bool))
  | 0, _, _, _ => none
  | fk + 1, out', at', i =>
    if decide (i < (r'.Fibers.length : Int)) then
      (idx r'.Fibers i).bind fun e =>
      (impl_within fu e 0 (w64 ((n'.Fibers.length : Int) - 1))).bind fun y2 =>
      if !y2 then
        some (.ret ([], false))
      else
        (idx n'.Fibers e).bind fun e2 =>
        (impl_otherEnd fu e2 at').bind fun y3 =>
        (if decide (y3 < 0) then some true
        else (slices_Contains_int_int fu out' y3).bind fun y4 =>
        some y4).bind fun c6 =>
        if c6 then
          some (.ret ([], false))
        else
          (app out' [y3]).bind fun l =>
          impl_visited_L1 fu n' r' fk l y3 (w64 (i + 1))
    else
      some (.next (out', at', i))
def impl_visited (fu : Nat) (n' : Network) (r' : Route) : Option (List Int × Bool) :=
  ((impl_within fu r'.Start 0 (w64 ((n'.Nodes.length : Int) - 1))).bind fun y =>
  if !y then some true
  else some ((r'.Fibers.length : Int) == 0)).bind fun c4 =>
  if c4 then
    some ([], false)
  else
    (impl_visited_L1 fu n' r' fu [r'.Start] r'.Start 0).bind fun out => out.on some fun z =>
    some (z.1, true)
def impl_IsValidBlock (fu : Nat) (b' : Block) : Option (Bool) :=
  (if decide (b'.First ≥ 0) then (impl_within fu b'.Count 1 24).bind fun y =>
  if y then some (decide (b'.First ≤ (w64 (24 - b'.Count))))
  else some false
  else some false).bind fun c =>
  some c
def impl_isLight (fu : Nat) (n' : Network) (x1 : Light) : Option (Bool) :=
  (impl_visited fu n' x1.Route).bind fun y =>
  (if y.2 then (impl_within fu x1.Id 1 999).bind fun y2 =>
  if y2 then (impl_IsValidBlock fu x1.Block).bind fun y3 =>
  some y3
  else some false
  else some false).bind fun c5 =>
  some c5
def impl_maskOf (fu : Nat) (b' : Block) : Option (Int) :=
  (shl 1 b'.Count).bind fun q =>
  (shl (w64 (q - 1)) b'.First).bind fun q2 =>
  some q2
def math_bits_Len64 (fu : Nat) (x1 : U64) : Option (Int) :=
  if decide (x1.n ≥ 4294967296) then
    none
  else
    if decide (x1.n ≥ 65536) then
      none
    else
      if decide (x1.n ≥ 256) then
        none
      else
        (sidx (⟨#[0, 1, 2, 2, 3, 3, 3, 3, 4, 4, 4, 4, 4, 4, 4, 4, 5, 5, 5, 5, 5, 5, 5, 5, 5, 5, 5, 5, 5, 5, 5, 5, 6, 6, 6, 6, 6, 6, 6, 6, 6, 6, 6, 6, 6, 6, 6, 6, 6, 6, 6, 6, 6, 6, 6, 6, 6, 6, 6, 6, 6, 6, 6, 6, 7, 7, 7, 7, 7, 7, 7, 7, 7, 7, 7, 7, 7, 7, 7, 7, 7, 7, 7, 7, 7, 7, 7, 7, 7, 7, 7, 7, 7, 7, 7, 7, 7, 7, 7, 7, 7, 7, 7, 7, 7, 7, 7, 7, 7, 7, 7, 7, 7, 7, 7, 7, 7, 7, 7, 7, 7, 7, 7, 7, 7, 7, 7, 7, 8, 8, 8, 8, 8, 8, 8, 8, 8, 8, 8, 8, 8, 8, 8, 8, 8, 8, 8, 8, 8, 8, 8, 8, 8, 8, 8, 8, 8, 8, 8, 8, 8, 8, 8, 8, 8, 8, 8, 8, 8, 8, 8, 8, 8, 8, 8, 8, 8, 8, 8, 8, 8, 8, 8, 8, 8, 8, 8, 8, 8, 8, 8, 8, 8, 8, 8, 8, 8, 8, 8, 8, 8, 8, 8, 8, 8, 8, 8, 8, 8, 8, 8, 8, 8, 8, 8, 8, 8, 8, 8, 8, 8, 8, 8, 8, 8, 8, 8, 8, 8, 8, 8, 8, 8, 8, 8, 8, 8, 8, 8, 8, 8, 8, 8, 8, 8, 8, 8, 8, 8, 8, 8, 8, 8, 8, 8, 8]⟩ : ByteArray) (wu8 x1.n)).bind fun e =>
        some (w64 (0 + (w64 e.n)))
def math_bits_Len (fu : Nat) (x1 : U64) : Option (Int) :=
  (math_bits_Len64 fu x1).bind fun y =>
  some y
def cmp_Less_int (fu : Nat) (x1 : Int) (y : Int) : Option (Bool) :=
  ((cmp_isNaN_int fu x1).bind fun y2 =>
  if y2 then (cmp_isNaN_int fu y).bind fun y3 =>
  if !y3 then some true
  else some (decide (x1 < y))
  else some (decide (x1 < y))).bind fun c =>
  some c
def slices_insertionSortOrdered_int_L2 (fu : Nat) (a' : Int) : Nat → List Int → Int → Option (List Int × Int)
  | 0, _, _ => none
  | fk + 1, data3, j =>
    (if decide (j > a') then (idx data3 j).bind fun e =>
    (idx data3 (w64 (j - 1))).bind fun e2 =>
    (cmp_Less_int fu e e2).bind fun y =>
    some y
    else some false).bind fun c2 =>
    if c2 then
      (idx data3 (w64 (j - 1))).bind fun e3 =>
      (idx data3 j).bind fun e4 =>
      (idx data3 j).bind fun e5 =>
      (idx (data3.set (j : Int).toNat e3) (w64 (j - 1))).bind fun e6 =>
      slices_insertionSortOrdered_int_L2 fu a' fk ((data3.set (j : Int).toNat e3).set (w64 (j - 1) : Int).toNat e4) (w64 (j - 1))
    else
      some (data3, j)
def slices_insertionSortOrdered_int_L1 (fu : Nat) (a' : Int) (b' : Int) : Nat → List Int → Int → Option (List Int × Int)
  | 0, _, _ => none
  | fk + 1, data2, i =>
    if decide (i < b') then
      (slices_insertionSortOrdered_int_L2 fu a' fu data2 i).bind fun z =>
      slices_insertionSortOrdered_int_L1 fu a' b' fk z.1 (w64 (i + 1))
    else
      some (data2, i)
def slices_insertionSortOrdered_int (fu : Nat) (data : List Int) (a' : Int) (b' : Int) : Option (List Int) :=
  (slices_insertionSortOrdered_int_L1 fu a' b' fu data (w64 (a' + 1))).bind fun z2 =>
  some z2.1
def slices_pdqsortOrdered_int_L1 (fu : Nat) (data : List Int) (a' : Int) (b' : Int) : Nat → Option (Out (Unit) (List Int))
  | 0 => none
  | fk + 1 =>
    if decide ((w64 (b' - a')) ≤ 12) then
      (slices_insertionSortOrdered_int fu data a' b').bind fun y =>
      some (.ret y)
    else
      none
def slices_pdqsortOrdered_int (fu : Nat) (data : List Int) (a' : Int) (b' : Int) (limit : Int) : Option (List Int) :=
  (slices_pdqsortOrdered_int_L1 fu data a' b' fu).bind fun out => out.on some fun z =>
  some data
def slices_Sort_int_int (fu : Nat) (x1 : List Int) : Option (List Int) :=
  (math_bits_Len fu (⟨wu64 (x1.length : Int)⟩ : U64)).bind fun y =>
  (slices_pdqsortOrdered_int fu x1 0 (x1.length : Int) y).bind fun y2 =>
  some y2
def slices_Compact_int_int_L1 (fu : Nat) (s' : List Int) : Nat → Int → Option (Out (Int) (List Int))
  | 0, _ => none
  | fk + 1, k' =>
    if decide (k' < (s'.length : Int)) then
      (idx s' k').bind fun e =>
      (idx s' (w64 (k' - 1))).bind fun e2 =>
      if e == e2 then
        none
      else
        slices_Compact_int_int_L1 fu s' fk (w64 (k' + 1))
    else
      some (.next k')
def slices_Compact_int_int (fu : Nat) (s' : List Int) : Option (List Int) :=
  if decide ((s'.length : Int) < 2) then
    some s'
  else
    (slices_Compact_int_int_L1 fu s' fu 1).bind fun out => out.on some fun z =>
    some s'
def impl_common_L1 (fu : Nat) (a' : List Int) (b' : List Int) : Nat → List Int → Int → Option (List Int × Int)
  | 0, _, _ => none
  | fk + 1, out', i =>
    if decide (i < (a'.length : Int)) then
      (idx a' i).bind fun e =>
      (slices_Contains_int_int fu b' e).bind fun y =>
      if y then
        (app out' [e]).bind fun l =>
        impl_common_L1 fu a' b' fk l (w64 (i + 1))
      else
        impl_common_L1 fu a' b' fk out' (w64 (i + 1))
    else
      some (out', i)
def impl_common (fu : Nat) (a' : List Int) (b' : List Int) : Option (List Int) :=
  (impl_common_L1 fu a' b' fu ([] : List Int) 0).bind fun z =>
  (slices_Sort_int_int fu z.1).bind fun y2 =>
  (slices_Compact_int_int fu y2).bind fun y3 =>
  some y3
def impl_collide (fu : Nat) (a' : Light) (b' : Light) : Option (Bool) :=
  ((impl_maskOf fu a'.Block).bind fun y =>
  (impl_maskOf fu b'.Block).bind fun y2 =>
  if (band y y2) != 0 then (impl_common fu a'.Route.Fibers b'.Route.Fibers).bind fun y3 =>
  some (decide ((y3.length : Int) > 0))
  else some false).bind fun c3 =>
  some c3
def impl_IsValidPlan_c1 (fu : Nat) (own : Light) (cap : Light) : Option (Bool) :=
  (impl_collide fu own cap).bind fun y =>
  some y
def slices_IndexFunc_impl_Light_impl_Light_of_IsValidPlan_c1_L1 (fu : Nat) (s' : List Light) (cap : Light) : Nat → Int → Option (Out (Int) (Int))
  | 0, _ => none
  | fk + 1, i =>
    if decide (i < (s'.length : Int)) then
      (idx s' i).bind fun e =>
      (impl_IsValidPlan_c1 fu e cap).bind fun y =>
      if y then
        some (.ret i)
      else
        slices_IndexFunc_impl_Light_impl_Light_of_IsValidPlan_c1_L1 fu s' cap fk (w64 (i + 1))
    else
      some (.next i)
def slices_IndexFunc_impl_Light_impl_Light_of_IsValidPlan_c1 (fu : Nat) (s' : List Light) (cap : Light) : Option (Int) :=
  (slices_IndexFunc_impl_Light_impl_Light_of_IsValidPlan_c1_L1 fu s' cap fu 0).bind fun out => out.on some fun z =>
  some (-1)
def slices_ContainsFunc_impl_Light_impl_Light_of_IsValidPlan_c1 (fu : Nat) (s' : List Light) (cap : Light) : Option (Bool) :=
  (slices_IndexFunc_impl_Light_impl_Light_of_IsValidPlan_c1 fu s' cap).bind fun y =>
  some (decide (y ≥ 0))
def impl_IsValidPlan_L1 (fu : Nat) (p : Plan) : Nat → Int → Option (Out (Int) (Bool))
  | 0, _ => none
  | fk + 1, i =>
    if decide (i < (p.Lights.length : Int)) then
      (idx p.Lights i).bind fun e =>
      ((impl_isLight fu p.Network e).bind fun y2 =>
      if !y2 then some true
      else if decide (i > 0) then (idx p.Lights (w64 (i - 1))).bind fun e2 =>
      if decide (e2.Id ≥ e.Id) then some true
      else (sub p.Lights 0 i).bind fun l =>
      (slices_ContainsFunc_impl_Light_impl_Light_of_IsValidPlan_c1 fu l e).bind fun y3 =>
      some y3
      else (sub p.Lights 0 i).bind fun l2 =>
      (slices_ContainsFunc_impl_Light_impl_Light_of_IsValidPlan_c1 fu l2 e).bind fun y4 =>
      some y4).bind fun c6 =>
      if c6 then
        some (.ret false)
      else
        impl_IsValidPlan_L1 fu p fk (w64 (i + 1))
    else
      some (.next i)
def impl_IsValidPlan (fu : Nat) (p : Plan) : Option (Bool) :=
  ((impl_IsValidNetwork fu p.Network).bind fun y =>
  if !y then some true
  else some (decide ((p.Lights.length : Int) > 12))).bind fun c4 =>
  if c4 then
    some false
  else
    (impl_IsValidPlan_L1 fu p fu 0).bind fun out => out.on some fun z =>
    some true
def impl_requestsOf_L1 (fu : Nat) (p : Plan) : Nat → List Request → Int → Option (List Request × Int)
  | 0, _, _ => none
  | fk + 1, out', i =>
    if decide (i < (p.Lights.length : Int)) then
      (idx p.Lights i).bind fun e =>
      (app out' [({ Route := e.Route, Count := e.Block.Count } : Request)]).bind fun l =>
      impl_requestsOf_L1 fu p fk l (w64 (i + 1))
    else
      some (out', i)
def impl_requestsOf (fu : Nat) (p : Plan) : Option (List Request) :=
  (impl_requestsOf_L1 fu p fu ([] : List Request) 0).bind fun z =>
  some z.1
def impl_IsValidRequests_c1 (fu : Nat) (x1 : Request) (cap : Network) : Option (Bool) :=
  (impl_visited fu cap x1.Route).bind fun y =>
  (if !y.2 then some true
  else (impl_within fu x1.Count 1 24).bind fun y2 =>
  some (!y2)).bind fun c5 =>
  some c5
def slices_IndexFunc_impl_Request_impl_Request_of_IsValidRequests_c1_L1 (fu : Nat) (s' : List Request) (cap : Network) : Nat → Int → Option (Out (Int) (Int))
  | 0, _ => none
  | fk + 1, i =>
    if decide (i < (s'.length : Int)) then
      (idx s' i).bind fun e =>
      (impl_IsValidRequests_c1 fu e cap).bind fun y =>
      if y then
        some (.ret i)
      else
        slices_IndexFunc_impl_Request_impl_Request_of_IsValidRequests_c1_L1 fu s' cap fk (w64 (i + 1))
    else
      some (.next i)
def slices_IndexFunc_impl_Request_impl_Request_of_IsValidRequests_c1 (fu : Nat) (s' : List Request) (cap : Network) : Option (Int) :=
  (slices_IndexFunc_impl_Request_impl_Request_of_IsValidRequests_c1_L1 fu s' cap fu 0).bind fun out => out.on some fun z =>
  some (-1)
def slices_ContainsFunc_impl_Request_impl_Request_of_IsValidRequests_c1 (fu : Nat) (s' : List Request) (cap : Network) : Option (Bool) :=
  (slices_IndexFunc_impl_Request_impl_Request_of_IsValidRequests_c1 fu s' cap).bind fun y =>
  some (decide (y ≥ 0))
def impl_IsValidRequests (fu : Nat) (n' : Network) (list : List Request) : Option (Bool) :=
  ((impl_IsValidNetwork fu n').bind fun y =>
  if y then if decide ((list.length : Int) ≤ 7) then (slices_ContainsFunc_impl_Request_impl_Request_of_IsValidRequests_c1 fu list n').bind fun y2 =>
  some (!y2)
  else some false
  else some false).bind fun c4 =>
  some c4
def impl_conflict (fu : Nat) (a' : Request) (b' : Request) : Option (Bool) :=
  (impl_common fu a'.Route.Fibers b'.Route.Fibers).bind fun y =>
  some (decide ((y.length : Int) > 0))
def impl_isClique_L2 (fu : Nat) (list : List Request) (set : Int) (i : Int) : Nat → Int → Option (Out (Int) (Bool))
  | 0, _ => none
  | fk + 1, i2 =>
    if decide (i2 < i) then
      ((shr set i).bind fun q =>
      if (band q 1) == 1 then (shr set i2).bind fun q2 =>
      if (band q2 1) == 1 then (idx list i).bind fun e =>
      (idx list i2).bind fun e2 =>
      (impl_conflict fu e e2).bind fun y =>
      some (!y)
      else some false
      else some false).bind fun c2 =>
      if c2 then
        some (.ret false)
      else
        impl_isClique_L2 fu list set i fk (w64 (i2 + 1))
    else
      some (.next i2)
def impl_isClique_L1 (fu : Nat) (list : List Request) (set : Int) : Nat → Int → Option (Out (Int) (Bool))
  | 0, _ => none
  | fk + 1, i =>
    if decide (i < (list.length : Int)) then
      (impl_isClique_L2 fu list set i fu 0).bind fun out => out.on (fun r => some (.ret r)) fun z =>
      impl_isClique_L1 fu list set fk (w64 (i + 1))
    else
      some (.next i)
def impl_isClique (fu : Nat) (list : List Request) (set : Int) : Option (Bool) :=
  (impl_isClique_L1 fu list set fu 0).bind fun out => out.on some fun z2 =>
  some true
def impl_cliqueBound_L2 (fu : Nat) (list : List Request) (i : Int) : Nat → Int → Int → Option (Int × Int)
  | 0, _, _ => none
  | fk + 1, sum, i2 =>
    if decide (i2 < (list.length : Int)) then
      (idx list i2).bind fun e =>
      (shr i i2).bind fun q2 =>
      if (band q2 1) == 1 then
        impl_cliqueBound_L2 fu list i fk (w64 (sum + e.Count)) (w64 (i2 + 1))
      else
        impl_cliqueBound_L2 fu list i fk sum (w64 (i2 + 1))
    else
      some (sum, i2)
def impl_cliqueBound_L1 (fu : Nat) (list : List Request) (q : Int) : Nat → Int → Int → Int → Option (Int × Int × Int)
  | 0, _, _, _ => none
  | fk + 1, most, i, best =>
    if decide (i < q) then
      (impl_cliqueBound_L2 fu list i fu 0 0).bind fun z =>
      (if decide (z.1 > most) then (impl_isClique fu list i).bind fun y =>
      some y
      else some false).bind fun c3 =>
      if c3 then
        impl_cliqueBound_L1 fu list q fk z.1 (w64 (i + 1)) i
      else
        impl_cliqueBound_L1 fu list q fk most (w64 (i + 1)) best
    else
      some (most, i, best)
def impl_cliqueBound (fu : Nat) (list : List Request) : Option (Int × Int) :=
  (shl 1 (list.length : Int)).bind fun q =>
  (impl_cliqueBound_L1 fu list q fu 0 0 0).bind fun z2 =>
  some (z2.1, z2.2.2)
def impl_assignedTo_c1c1 (fu : Nat) (k' : Int) (cap : Int) : Option (Bool) :=
  some (decide (k' < cap))
def impl_isFree_of_assignedTo_c1c1_L1 (fu : Nat) (list : List Request) (blocks : List Block) (i : Int) (b6 : Block) (cap : Int) : Nat → Int → Option (Out (Int) (Bool))
  | 0, _ => none
  | fk + 1, i2 =>
    if decide (i2 < (list.length : Int)) then
      (if i2 != i then (impl_assignedTo_c1c1 fu i2 cap).bind fun y =>
      if y then (idx list i).bind fun e =>
      (idx list i2).bind fun e2 =>
      (impl_conflict fu e e2).bind fun y2 =>
      if y2 then (idx blocks i2).bind fun e3 =>
      (impl_maskOf fu b6).bind fun y3 =>
      (impl_maskOf fu e3).bind fun y4 =>
      some ((band y3 y4) != 0)
      else some false
      else some false
      else some false).bind fun c3 =>
      if c3 then
        some (.ret false)
      else
        impl_isFree_of_assignedTo_c1c1_L1 fu list blocks i b6 cap fk (w64 (i2 + 1))
    else
      some (.next i2)
def impl_isFree_of_assignedTo_c1c1 (fu : Nat) (list : List Request) (blocks : List Block) (i : Int) (b6 : Block) (cap : Int) : Option (Bool) :=
  (impl_isFree_of_assignedTo_c1c1_L1 fu list blocks i b6 cap fu 0).bind fun out => out.on some fun z =>
  some true
def impl_assignedTo_c1_L1 (fu : Nat) (cap : List Block) (cap2 : List Request) (cap3 : Int) (rec_ : (List Block) → (List Request) → (Int) → Option (Bool × List Block)) : Nat → Int → List Block → Option (Out (Int × List Block) (Bool × List Block))
  | 0, _, _ => none
  | fk + 1, first, m =>
    (idx cap2 (cap.length : Int)).bind fun e =>
    if decide ((w64 (first + e.Count)) ≤ cap3) then
      (idx cap2 (cap.length : Int)).bind fun e2 =>
      (impl_isFree_of_assignedTo_c1c1 fu cap2 m (cap.length : Int) ({ First := first, Count := e2.Count } : Block) (cap.length : Int)).bind fun y =>
      if !y then
        impl_assignedTo_c1_L1 fu cap cap2 cap3 rec_ fk (w64 (first + 1)) m
      else
        (app m [({ First := first, Count := e2.Count } : Block)]).bind fun l =>
        (rec_ l cap2 cap3).bind fun y2 =>
        if y2.1 then
          some (.ret (true, y2.2))
        else
          (sub y2.2 0 (cap.length : Int)).bind fun l2 =>
          impl_assignedTo_c1_L1 fu cap cap2 cap3 rec_ fk (w64 (first + 1)) l2
    else
      some (.next (first, m))
def impl_assignedTo_c1_B (fu : Nat) (rec_ : (List Block) → (List Request) → (Int) → Option (Bool × List Block)) (cap : List Block) (cap2 : List Request) (cap3 : Int) : Option (Bool × List Block) :=
  if (cap.length : Int) == (cap2.length : Int) then
    some (true, cap)
  else
    (impl_assignedTo_c1_L1 fu cap cap2 cap3 rec_ fu 0 cap).bind fun out => out.on some fun z =>
    some (false, z.2)
def impl_assignedTo_c1 : Nat → (List Block) → (List Request) → (Int) → Option (Bool × List Block)
  | 0, _, _, _ => none
  | fu + 1, cap, cap2, cap3 => impl_assignedTo_c1_B fu (fun cap cap2 cap3 => impl_assignedTo_c1 fu cap cap2 cap3) cap cap2 cap3
def impl_assignedTo (fu : Nat) (list : List Request) (height : Int) : Option (List Block × Bool) :=
  (impl_assignedTo_c1 fu ([] : List Block) list height).bind fun y =>
  some (y.2, y.1)
def impl_AssignExact_L1 (fu : Nat) (list : List Request) : Nat → Int → Option (Out (Int) (List Block × Int × Bool))
  | 0, _ => none
  | fk + 1, height =>
    if decide (height ≤ 24) then
      (impl_assignedTo fu list height).bind fun y3 =>
      if y3.2 then
        some (.ret (y3.1, height, true))
      else
        impl_AssignExact_L1 fu list fk (w64 (height + 1))
    else
      some (.next height)
def impl_AssignExact (fu : Nat) (n' : Network) (list : List Request) : Option (List Block × Int × Bool) :=
  (impl_IsValidRequests fu n' list).bind fun y =>
  if !y then
    some ([], 0, false)
  else
    (impl_cliqueBound fu list).bind fun y2 =>
    (impl_AssignExact_L1 fu list fu y2.1).bind fun out => out.on some fun z =>
    some ([], 0, false)
def laws_eqStringS_L1 (fu : Nat) (a' : List ByteArray) (b' : List ByteArray) : Nat → Int → Option (Out (Int) (Bool))
  | 0, _ => none
  | fk + 1, i =>
    if decide (i < (a'.length : Int)) then
      (idx a' i).bind fun e =>
      (idx b' i).bind fun e2 =>
      if !(e.toList == e2.toList) then
        some (.ret false)
      else
        laws_eqStringS_L1 fu a' b' fk (w64 (i + 1))
    else
      some (.next i)
def laws_eqStringS (fu : Nat) (a' : List ByteArray) (b' : List ByteArray) : Option (Bool) :=
  if (a'.length : Int) != (b'.length : Int) then
    some false
  else
    (laws_eqStringS_L1 fu a' b' fu 0).bind fun out => out.on some fun z =>
    some true
def laws_eqFiber (fu : Nat) (a' : Fiber) (b' : Fiber) : Option (Bool) :=
  if a'.A != b'.A then
    some false
  else
    if a'.B != b'.B then
      some false
    else
      if a'.Length != b'.Length then
        some false
      else
        if a'.Risk != b'.Risk then
          some false
        else
          some true
def laws_eqFiberS_L1 (fu : Nat) (a' : List Fiber) (b' : List Fiber) : Nat → Int → Option (Out (Int) (Bool))
  | 0, _ => none
  | fk + 1, i =>
    if decide (i < (a'.length : Int)) then
      (idx a' i).bind fun e =>
      (idx b' i).bind fun e2 =>
      (laws_eqFiber fu e e2).bind fun y =>
      if !y then
        some (.ret false)
      else
        laws_eqFiberS_L1 fu a' b' fk (w64 (i + 1))
    else
      some (.next i)
def laws_eqFiberS (fu : Nat) (a' : List Fiber) (b' : List Fiber) : Option (Bool) :=
  if (a'.length : Int) != (b'.length : Int) then
    some false
  else
    (laws_eqFiberS_L1 fu a' b' fu 0).bind fun out => out.on some fun z =>
    some true
def laws_eqNetwork (fu : Nat) (a' : Network) (b' : Network) : Option (Bool) :=
  (laws_eqStringS fu a'.Nodes b'.Nodes).bind fun y =>
  if !y then
    some false
  else
    (laws_eqFiberS fu a'.Fibers b'.Fibers).bind fun y2 =>
    if !y2 then
      some false
    else
      some true
def laws_eqIntS_L1 (fu : Nat) (a' : List Int) (b' : List Int) : Nat → Int → Option (Out (Int) (Bool))
  | 0, _ => none
  | fk + 1, i =>
    if decide (i < (a'.length : Int)) then
      (idx a' i).bind fun e =>
      (idx b' i).bind fun e2 =>
      if e != e2 then
        some (.ret false)
      else
        laws_eqIntS_L1 fu a' b' fk (w64 (i + 1))
    else
      some (.next i)
def laws_eqIntS (fu : Nat) (a' : List Int) (b' : List Int) : Option (Bool) :=
  if (a'.length : Int) != (b'.length : Int) then
    some false
  else
    (laws_eqIntS_L1 fu a' b' fu 0).bind fun out => out.on some fun z =>
    some true
def laws_eqRoute (fu : Nat) (a' : Route) (b' : Route) : Option (Bool) :=
  if a'.Start != b'.Start then
    some false
  else
    (laws_eqIntS fu a'.Fibers b'.Fibers).bind fun y =>
    if !y then
      some false
    else
      some true
def laws_eqBlock (fu : Nat) (a' : Block) (b' : Block) : Option (Bool) :=
  if a'.First != b'.First then
    some false
  else
    if a'.Count != b'.Count then
      some false
    else
      some true
def laws_eqLight (fu : Nat) (a' : Light) (b' : Light) : Option (Bool) :=
  if a'.Id != b'.Id then
    some false
  else
    (laws_eqRoute fu a'.Route b'.Route).bind fun y =>
    if !y then
      some false
    else
      (laws_eqBlock fu a'.Block b'.Block).bind fun y2 =>
      if !y2 then
        some false
      else
        some true
def laws_eqLightS_L1 (fu : Nat) (a' : List Light) (b' : List Light) : Nat → Int → Option (Out (Int) (Bool))
  | 0, _ => none
  | fk + 1, i =>
    if decide (i < (a'.length : Int)) then
      (idx a' i).bind fun e =>
      (idx b' i).bind fun e2 =>
      (laws_eqLight fu e e2).bind fun y =>
      if !y then
        some (.ret false)
      else
        laws_eqLightS_L1 fu a' b' fk (w64 (i + 1))
    else
      some (.next i)
def laws_eqLightS (fu : Nat) (a' : List Light) (b' : List Light) : Option (Bool) :=
  if (a'.length : Int) != (b'.length : Int) then
    some false
  else
    (laws_eqLightS_L1 fu a' b' fu 0).bind fun out => out.on some fun z =>
    some true
def laws_eqPlan (fu : Nat) (a' : Plan) (b' : Plan) : Option (Bool) :=
  (laws_eqNetwork fu a'.Network b'.Network).bind fun y =>
  if !y then
    some false
  else
    (laws_eqLightS fu a'.Lights b'.Lights).bind fun y2 =>
    if !y2 then
      some false
    else
      some true
def spec_l2Own (fu : Nat) (n' : Network) : Option (Network) :=
  (app ([] : List ByteArray) n'.Nodes).bind fun l =>
  (app ([] : List Fiber) n'.Fibers).bind fun l2 =>
  some ({ Nodes := l, Fibers := l2 } : Network)
def spec_l1Own (fu : Nat) (l : List Int) : Option (List Int) :=
  (app ([] : List Int) l).bind fun l2 =>
  some l2
def spec_l4Own (fu : Nat) (r' : Route) : Option (Route) :=
  (spec_l1Own fu r'.Fibers).bind fun y =>
  some ({ Start := r'.Start, Fibers := y } : Route)
def spec_l9Copy (fu : Nat) (x1 : Light) : Option (Light) :=
  (spec_l4Own fu x1.Route).bind fun y =>
  some ({ Id := x1.Id, Route := y, Block := x1.Block } : Light)
def spec_l9Own_L1 (fu : Nat) (p : Plan) : Nat → Int → List Light → Option (Int × List Light)
  | 0, _, _ => none
  | fk + 1, i, m =>
    if decide (i < (p.Lights.length : Int)) then
      (idx p.Lights i).bind fun e =>
      (spec_l9Copy fu e).bind fun y2 =>
      (app m [y2]).bind fun al =>
      spec_l9Own_L1 fu p fk (w64 (i + 1)) al
    else
      some (i, m)
def spec_l9Own (fu : Nat) (p : Plan) : Option (Plan) :=
  (spec_l2Own fu p.Network).bind fun y =>
  (spec_l9Own_L1 fu p fu 0 ([] : List Light)).bind fun z =>
  some ({ Network := y, Lights := z.2 } : Plan)
def spec_CompactPlan_L1 (fu : Nat) (y3 : List Block × Int × Bool) : Nat → Int → List Light → Option (Int × List Light)
  | 0, _, _ => none
  | fk + 1, i, m =>
    if decide (i < (m.length : Int)) then
      (idx m i).bind fun e =>
      (idx y3.1 i).bind fun e2 =>
      (idx m i).bind fun e3 =>
      spec_CompactPlan_L1 fu y3 fk (w64 (i + 1)) (m.set (i : Int).toNat ({ Id := e.Id, Route := e.Route, Block := e2 } : Light))
    else
      some (i, m)
def spec_CompactPlan (fu : Nat) (p : Plan) : Option (Plan × Bool) :=
  ((spec_l9Good fu p).bind fun y =>
  if !y then some true
  else some (decide ((p.Lights.length : Int) > 7))).bind fun c4 =>
  if c4 then
    some (({ Network := ({ Nodes := [], Fibers := [] } : Network), Lights := [] } : Plan), false)
  else
    (spec_l21Requests fu p).bind fun y2 =>
    (spec_l12Exact fu y2).bind fun y3 =>
    if !y3.2.2 then
      some (({ Network := ({ Nodes := [], Fibers := [] } : Network), Lights := [] } : Plan), false)
    else
      (spec_l9Own fu p).bind fun y4 =>
      (spec_CompactPlan_L1 fu y3 fu 0 y4.Lights).bind fun z =>
      some (({ Network := y4.Network, Lights := z.2 } : Plan), true)
def impl_copyNetwork (fu : Nat) (n' : Network) : Option (Network) :=
  (app ([] : List ByteArray) n'.Nodes).bind fun l =>
  (app ([] : List Fiber) n'.Fibers).bind fun l2 =>
  some ({ Nodes := l, Fibers := l2 } : Network)
def impl_copyRoute (fu : Nat) (r' : Route) : Option (Route) :=
  (app ([] : List Int) r'.Fibers).bind fun l =>
  some ({ Start := r'.Start, Fibers := l } : Route)
def impl_copyPlan_L1 (fu : Nat) (p : Plan) : Nat → Int → List Light → Option (Int × List Light)
  | 0, _, _ => none
  | fk + 1, i, m =>
    if decide (i < (p.Lights.length : Int)) then
      (idx p.Lights i).bind fun e =>
      (impl_copyRoute fu e.Route).bind fun y2 =>
      (app m [({ Id := e.Id, Route := y2, Block := e.Block } : Light)]).bind fun al =>
      impl_copyPlan_L1 fu p fk (w64 (i + 1)) al
    else
      some (i, m)
def impl_copyPlan (fu : Nat) (p : Plan) : Option (Plan) :=
  (impl_copyNetwork fu p.Network).bind fun y =>
  (impl_copyPlan_L1 fu p fu 0 ([] : List Light)).bind fun z =>
  some ({ Network := y, Lights := z.2 } : Plan)
def impl_CompactPlan_L1 (fu : Nat) (y3 : List Block × Int × Bool) : Nat → Int → List Light → Option (Int × List Light)
  | 0, _, _ => none
  | fk + 1, i, m =>
    if decide (i < (y3.1.length : Int)) then
      (idx y3.1 i).bind fun e =>
      (idx m i).bind fun e2 =>
      impl_CompactPlan_L1 fu y3 fk (w64 (i + 1)) (m.set (i : Int).toNat ({ Id := e2.Id, Route := e2.Route, Block := e } : Light))
    else
      some (i, m)
def impl_CompactPlan (fu : Nat) (p : Plan) : Option (Plan × Bool) :=
  (impl_IsValidPlan fu p).bind fun y =>
  if !y then
    some (({ Network := ({ Nodes := [], Fibers := [] } : Network), Lights := [] } : Plan), false)
  else
    (impl_requestsOf fu p).bind fun y2 =>
    (impl_AssignExact fu p.Network y2).bind fun y3 =>
    if !y3.2.2 then
      some (({ Network := ({ Nodes := [], Fibers := [] } : Network), Lights := [] } : Plan), false)
    else
      (impl_copyPlan fu p).bind fun y4 =>
      (impl_CompactPlan_L1 fu y3 fu 0 y4.Lights).bind fun z =>
      some (({ Network := y4.Network, Lights := z.2 } : Plan), true)
def laws_markText_L1 (fu : Nat) : Nat → Int → ByteArray → Option (Int × ByteArray)
  | 0, _, _ => none
  | fk + 1, k2, out' =>
    if decide (k2 > 0) then
      (rem k2 10).bind fun q =>
      (scat (bstr [(⟨wu8 (w64 (48 + q))⟩ : By)]) out').bind fun s' =>
      (quo k2 10).bind fun q2 =>
      laws_markText_L1 fu fk q2 s'
    else
      some (k2, out')
def laws_markText (fu : Nat) (k' : Int) : Option (ByteArray) :=
  if decide (k' ≤ 0) then
    some (⟨#[109, 48]⟩ : ByteArray)
  else
    (laws_markText_L1 fu fu k' ByteArray.empty).bind fun z =>
    (scat (⟨#[109]⟩ : ByteArray) z.2).bind fun s2 =>
    some s2
def laws_markStringS_L1 (fu : Nat) : Nat → List ByteArray → Int → Int → Option (List ByteArray × Int × Int)
  | 0, _, _, _ => none
  | fk + 1, a2, k2, i =>
    if decide (i < (a2.length : Int)) then
      (laws_markText fu k2).bind fun y =>
      (idx a2 i).bind fun e =>
      laws_markStringS_L1 fu fk (a2.set (i : Int).toNat y) (w64 (k2 + 1)) (w64 (i + 1))
    else
      some (a2, k2, i)
def laws_markStringS (fu : Nat) (a' : List ByteArray) (k' : Int) : Option (Int × List ByteArray) :=
  (laws_markStringS_L1 fu fu a' k' 0).bind fun z =>
  some (z.2.1, z.1)
def laws_markFiberS_L1 (fu : Nat) : Nat → List Fiber → Int → Int → Option (List Fiber × Int × Int)
  | 0, _, _, _ => none
  | fk + 1, a2, k2, i =>
    if decide (i < (a2.length : Int)) then
      (idx a2 i).bind fun e =>
      (idx (a2.set (i : Int).toNat ({ A := k2, B := e.B, Length := e.Length, Risk := e.Risk } : Fiber)) i).bind fun e2 =>
      (idx ((a2.set (i : Int).toNat ({ A := k2, B := e.B, Length := e.Length, Risk := e.Risk } : Fiber)).set (i : Int).toNat ({ A := e2.A, B := w64 (k2 + 1), Length := e2.Length, Risk := e2.Risk } : Fiber)) i).bind fun e3 =>
      (idx (((a2.set (i : Int).toNat ({ A := k2, B := e.B, Length := e.Length, Risk := e.Risk } : Fiber)).set (i : Int).toNat ({ A := e2.A, B := w64 (k2 + 1), Length := e2.Length, Risk := e2.Risk } : Fiber)).set (i : Int).toNat ({ A := e3.A, B := e3.B, Length := w64 ((w64 (k2 + 1)) + 1), Risk := e3.Risk } : Fiber)) i).bind fun e4 =>
      laws_markFiberS_L1 fu fk ((((a2.set (i : Int).toNat ({ A := k2, B := e.B, Length := e.Length, Risk := e.Risk } : Fiber)).set (i : Int).toNat ({ A := e2.A, B := w64 (k2 + 1), Length := e2.Length, Risk := e2.Risk } : Fiber)).set (i : Int).toNat ({ A := e3.A, B := e3.B, Length := w64 ((w64 (k2 + 1)) + 1), Risk := e3.Risk } : Fiber)).set (i : Int).toNat ({ A := e4.A, B := e4.B, Length := e4.Length, Risk := w64 ((w64 ((w64 (k2 + 1)) + 1)) + 1) } : Fiber)) (w64 ((w64 ((w64 ((w64 (k2 + 1)) + 1)) + 1)) + 1)) (w64 (i + 1))
    else
      some (a2, k2, i)
def laws_markFiberS (fu : Nat) (a' : List Fiber) (k' : Int) : Option (Int × List Fiber) :=
  (laws_markFiberS_L1 fu fu a' k' 0).bind fun z =>
  some (z.2.1, z.1)
def laws_markNetwork (fu : Nat) (a' : Network) (k' : Int) : Option (Int × Network) :=
  (laws_markStringS fu a'.Nodes k').bind fun y =>
  (laws_markFiberS fu a'.Fibers y.1).bind fun y2 =>
  some (y2.1, ({ Nodes := y.2, Fibers := y2.2 } : Network))
def laws_markIntS_L1 (fu : Nat) : Nat → List Int → Int → Int → Option (List Int × Int × Int)
  | 0, _, _, _ => none
  | fk + 1, a2, k2, i =>
    if decide (i < (a2.length : Int)) then
      (idx a2 i).bind fun e =>
      laws_markIntS_L1 fu fk (a2.set (i : Int).toNat k2) (w64 (k2 + 1)) (w64 (i + 1))
    else
      some (a2, k2, i)
def laws_markIntS (fu : Nat) (a' : List Int) (k' : Int) : Option (Int × List Int) :=
  (laws_markIntS_L1 fu fu a' k' 0).bind fun z =>
  some (z.2.1, z.1)
def laws_markLightS_L1 (fu : Nat) : Nat → List Light → Int → Int → Option (List Light × Int × Int)
  | 0, _, _, _ => none
  | fk + 1, a2, k2, i =>
    if decide (i < (a2.length : Int)) then
      (idx a2 i).bind fun e =>
      (idx (a2.set (i : Int).toNat ({ Id := k2, Route := e.Route, Block := e.Block } : Light)) i).bind fun e2 =>
      (idx ((a2.set (i : Int).toNat ({ Id := k2, Route := e.Route, Block := e.Block } : Light)).set (i : Int).toNat ({ Id := e2.Id, Route := ({ Start := w64 (k2 + 1), Fibers := e2.Route.Fibers } : Route), Block := e2.Block } : Light)) i).bind fun e3 =>
      (laws_markIntS fu e3.Route.Fibers (w64 ((w64 (k2 + 1)) + 1))).bind fun y =>
      (idx (((a2.set (i : Int).toNat ({ Id := k2, Route := e.Route, Block := e.Block } : Light)).set (i : Int).toNat ({ Id := e2.Id, Route := ({ Start := w64 (k2 + 1), Fibers := e2.Route.Fibers } : Route), Block := e2.Block } : Light)).set (i : Int).toNat ({ e3 with Route := { e3.Route with Fibers := y.2 } })) i).bind fun e4 =>
      (idx ((((a2.set (i : Int).toNat ({ Id := k2, Route := e.Route, Block := e.Block } : Light)).set (i : Int).toNat ({ Id := e2.Id, Route := ({ Start := w64 (k2 + 1), Fibers := e2.Route.Fibers } : Route), Block := e2.Block } : Light)).set (i : Int).toNat ({ e3 with Route := { e3.Route with Fibers := y.2 } })).set (i : Int).toNat ({ Id := e4.Id, Route := e4.Route, Block := ({ First := y.1, Count := e4.Block.Count } : Block) } : Light)) i).bind fun e5 =>
      laws_markLightS_L1 fu fk (((((a2.set (i : Int).toNat ({ Id := k2, Route := e.Route, Block := e.Block } : Light)).set (i : Int).toNat ({ Id := e2.Id, Route := ({ Start := w64 (k2 + 1), Fibers := e2.Route.Fibers } : Route), Block := e2.Block } : Light)).set (i : Int).toNat ({ e3 with Route := { e3.Route with Fibers := y.2 } })).set (i : Int).toNat ({ Id := e4.Id, Route := e4.Route, Block := ({ First := y.1, Count := e4.Block.Count } : Block) } : Light)).set (i : Int).toNat ({ Id := e5.Id, Route := e5.Route, Block := ({ First := e5.Block.First, Count := w64 (y.1 + 1) } : Block) } : Light)) (w64 ((w64 (y.1 + 1)) + 1)) (w64 (i + 1))
    else
      some (a2, k2, i)
def laws_markLightS (fu : Nat) (a' : List Light) (k' : Int) : Option (Int × List Light) :=
  (laws_markLightS_L1 fu fu a' k' 0).bind fun z =>
  some (z.2.1, z.1)
def laws_markPlan (fu : Nat) (a' : Plan) (k' : Int) : Option (Int × Plan) :=
  (laws_markNetwork fu a'.Network k').bind fun y =>
  (laws_markLightS fu a'.Lights y.1).bind fun y2 =>
  some (y2.1, ({ Network := y.2, Lights := y2.2 } : Plan))
def laws_heldStringS_L1 (fu : Nat) (a' : List ByteArray) : Nat → Int → Int → Option (Out (Int × Int) (Int))
  | 0, _, _ => none
  | fk + 1, k2, i =>
    if decide (i < (a'.length : Int)) then
      (idx a' i).bind fun e =>
      (laws_markText fu k2).bind fun y =>
      if !(e.toList == y.toList) then
        some (.ret (-1))
      else
        laws_heldStringS_L1 fu a' fk (w64 (k2 + 1)) (w64 (i + 1))
    else
      some (.next (k2, i))
def laws_heldStringS (fu : Nat) (a' : List ByteArray) (k' : Int) : Option (Int) :=
  (laws_heldStringS_L1 fu a' fu k' 0).bind fun out => out.on some fun z =>
  some z.1
def laws_heldFiberS_L1 (fu : Nat) (a' : List Fiber) : Nat → Int → Int → Option (Out (Int × Int) (Int))
  | 0, _, _ => none
  | fk + 1, k2, i =>
    if decide (i < (a'.length : Int)) then
      (idx a' i).bind fun e =>
      if e.A != k2 then
        some (.ret (-1))
      else
        (idx a' i).bind fun e2 =>
        if e2.B != (w64 (k2 + 1)) then
          some (.ret (-1))
        else
          (idx a' i).bind fun e3 =>
          if e3.Length != (w64 ((w64 (k2 + 1)) + 1)) then
            some (.ret (-1))
          else
            (idx a' i).bind fun e4 =>
            if e4.Risk != (w64 ((w64 ((w64 (k2 + 1)) + 1)) + 1)) then
              some (.ret (-1))
            else
              laws_heldFiberS_L1 fu a' fk (w64 ((w64 ((w64 ((w64 (k2 + 1)) + 1)) + 1)) + 1)) (w64 (i + 1))
    else
      some (.next (k2, i))
def laws_heldFiberS (fu : Nat) (a' : List Fiber) (k' : Int) : Option (Int) :=
  (laws_heldFiberS_L1 fu a' fu k' 0).bind fun out => out.on some fun z =>
  some z.1
def laws_heldNetwork (fu : Nat) (a' : Network) (k' : Int) : Option (Int) :=
  (laws_heldStringS fu a'.Nodes k').bind fun y =>
  if decide (y < 0) then
    some (-1)
  else
    (laws_heldFiberS fu a'.Fibers y).bind fun y2 =>
    if decide (y2 < 0) then
      some (-1)
    else
      some y2
def laws_heldIntS_L1 (fu : Nat) (a' : List Int) : Nat → Int → Int → Option (Out (Int × Int) (Int))
  | 0, _, _ => none
  | fk + 1, k2, i =>
    if decide (i < (a'.length : Int)) then
      (idx a' i).bind fun e =>
      if e != k2 then
        some (.ret (-1))
      else
        laws_heldIntS_L1 fu a' fk (w64 (k2 + 1)) (w64 (i + 1))
    else
      some (.next (k2, i))
def laws_heldIntS (fu : Nat) (a' : List Int) (k' : Int) : Option (Int) :=
  (laws_heldIntS_L1 fu a' fu k' 0).bind fun out => out.on some fun z =>
  some z.1
def laws_heldLightS_L1 (fu : Nat) (a' : List Light) : Nat → Int → Int → Option (Out (Int × Int) (Int))
  | 0, _, _ => none
  | fk + 1, k2, i =>
    if decide (i < (a'.length : Int)) then
      (idx a' i).bind fun e =>
      if e.Id != k2 then
        some (.ret (-1))
      else
        (idx a' i).bind fun e2 =>
        if e2.Route.Start != (w64 (k2 + 1)) then
          some (.ret (-1))
        else
          (idx a' i).bind fun e3 =>
          (laws_heldIntS fu e3.Route.Fibers (w64 ((w64 (k2 + 1)) + 1))).bind fun y =>
          if decide (y < 0) then
            some (.ret (-1))
          else
            (idx a' i).bind fun e4 =>
            if e4.Block.First != y then
              some (.ret (-1))
            else
              (idx a' i).bind fun e5 =>
              if e5.Block.Count != (w64 (y + 1)) then
                some (.ret (-1))
              else
                laws_heldLightS_L1 fu a' fk (w64 ((w64 (y + 1)) + 1)) (w64 (i + 1))
    else
      some (.next (k2, i))
def laws_heldLightS (fu : Nat) (a' : List Light) (k' : Int) : Option (Int) :=
  (laws_heldLightS_L1 fu a' fu k' 0).bind fun out => out.on some fun z =>
  some z.1
def laws_heldPlan (fu : Nat) (a' : Plan) (k' : Int) : Option (Int) :=
  (laws_heldNetwork fu a'.Network k').bind fun y =>
  if decide (y < 0) then
    some (-1)
  else
    (laws_heldLightS fu a'.Lights y).bind fun y2 =>
    if decide (y2 < 0) then
      some (-1)
    else
      some y2
def laws_FnExactCompactPlan (fu : Nat) (aP : Plan) : Option (Bool) :=
  (laws_szPlan fu aP 1048576).bind fun y =>
  if decide (y < 0) then
    some true
  else
    (laws_toPlan fu aP).bind fun y2 =>
    (spec_CompactPlan fu y2).bind fun y3 =>
    (laws_toPlan fu aP).bind fun y4 =>
    (impl_CompactPlan fu y4).bind fun y5 =>
    ((laws_eqPlan fu y5.1 y3.1).bind fun y6 =>
    if !y6 then some true
    else some (y5.2 != y3.2)).bind fun c16 =>
    if c16 then
      some false
    else
      (laws_toPlan fu aP).bind fun y7 =>
      (laws_eqPlan fu y4 y7).bind fun y8 =>
      if !y8 then
        some false
      else
        (laws_markPlan fu y4 1).bind fun y9 =>
        (if decide (y9.1 < 0) then some true
        else (laws_eqPlan fu y5.1 y3.1).bind fun y10 =>
        if !y10 then some true
        else some (y5.2 != y3.2)).bind fun c20 =>
        if c20 then
          some false
        else
          (laws_markPlan fu y5.1 1).bind fun y11 =>
          (laws_heldPlan fu y11.2 1).bind fun y12 =>
          if decide (y12 < 0) then
            some false
          else
            if y12 != y11.1 then
              some false
            else
              (laws_toPlan fu aP).bind fun y13 =>
              (impl_CompactPlan fu y13).bind fun y14 =>
              ((laws_eqPlan fu y14.1 y3.1).bind fun y15 =>
              if !y15 then some true
              else some (y14.2 != y3.2)).bind fun c27 =>
              if c27 then
                some false
              else
                (laws_heldPlan fu y11.2 1).bind fun y16 =>
                if decide (y16 < 0) then
                  some false
                else
                  if y16 != y11.1 then
                    some false
                  else
                    some true
end AT
