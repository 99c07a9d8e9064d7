/- The Go functions told plainly, by program (gen.py). -/
import Derived.Test.YtiedecncmihbeaaGreatAtR
set_option linter.unusedVariables false
namespace AT
structure Fiber where
  A : Int
  B : Int
  Length : Int
  Risk : Int
  deriving DecidableEq
structure Network where
  Nodes : List ByteArray
  Fibers : List Fiber
  deriving DecidableEq
structure Route where
  Start : Int
  Fibers : List Int
  deriving DecidableEq
structure Block where
  First : Int
  Count : Int
  deriving DecidableEq
structure Light where
  Id : Int
  Route : Route
  Block : Block
  deriving DecidableEq
structure Plan where
  Network : Network
  Lights : List Light
  deriving DecidableEq
structure Action where
  Kind : Int
  Light : Light
  deriving DecidableEq
structure Change where
  Plan : Plan
  Actions : List Action
  Undo : List Action
  Back : Bool
  deriving DecidableEq
structure L1CurP where
  code : List By
  at_ : Int
  seed : U64
  deriving DecidableEq
def laws_szStringS_L1 (fu : Nat) (a' : List ByteArray) : Nat → Int → Int → Option (Out (Int × Int) (Int))
  | 0, _, _ => none
  | fk + 1, left2, i =>
    if decide (i < (a'.length : Int)) then
      (idx a' i).bind fun e =>
      if decide ((w64 (left2 - (e.size : Int))) < 0) then
        some (.ret (-1))
      else
        laws_szStringS_L1 fu a' fk (w64 (left2 - (e.size : Int))) (w64 (i + 1))
    else
      some (.next (left2, i))
def laws_szStringS (fu : Nat) (a' : List ByteArray) (left : Int) : Option (Int) :=
  if decide ((w64 (left - (a'.length : Int))) < 0) then
    some (-1)
  else
    (laws_szStringS_L1 fu a' fu (w64 (left - (a'.length : Int))) 0).bind fun out => out.on some fun z =>
    some z.1
def laws_szFiberS (fu : Nat) (a' : List Fiber) (left : Int) : Option (Int) :=
  if decide ((w64 (left - (a'.length : Int))) < 0) then
    some (-1)
  else
    some (w64 (left - (a'.length : Int)))
def laws_szNetwork (fu : Nat) (a' : Network) (left : Int) : Option (Int) :=
  (laws_szStringS fu a'.Nodes left).bind fun y =>
  if decide (y < 0) then
    some (-1)
  else
    (laws_szFiberS fu a'.Fibers y).bind fun y2 =>
    if decide (y2 < 0) then
      some (-1)
    else
      some y2
def laws_szIntS (fu : Nat) (a' : List Int) (left : Int) : Option (Int) :=
  if decide ((w64 (left - (a'.length : Int))) < 0) then
    some (-1)
  else
    some (w64 (left - (a'.length : Int)))
def laws_szRoute (fu : Nat) (a' : Route) (left : Int) : Option (Int) :=
  (laws_szIntS fu a'.Fibers left).bind fun y =>
  if decide (y < 0) then
    some (-1)
  else
    some y
def laws_szLight (fu : Nat) (a' : Light) (left : Int) : Option (Int) :=
  (laws_szRoute fu a'.Route left).bind fun y =>
  if decide (y < 0) then
    some (-1)
  else
    some y
def laws_szLightS_L1 (fu : Nat) (a' : List Light) : Nat → Int → Int → Option (Out (Int × Int) (Int))
  | 0, _, _ => none
  | fk + 1, left2, i =>
    if decide (i < (a'.length : Int)) then
      (idx a' i).bind fun e =>
      (laws_szLight fu e left2).bind fun y =>
      if decide (y < 0) then
        some (.ret (-1))
      else
        laws_szLightS_L1 fu a' fk y (w64 (i + 1))
    else
      some (.next (left2, i))
def laws_szLightS (fu : Nat) (a' : List Light) (left : Int) : Option (Int) :=
  if decide ((w64 (left - (a'.length : Int))) < 0) then
    some (-1)
  else
    (laws_szLightS_L1 fu a' fu (w64 (left - (a'.length : Int))) 0).bind fun out => out.on some fun z =>
    some z.1
def laws_szPlan (fu : Nat) (a' : Plan) (left : Int) : Option (Int) :=
  (laws_szNetwork fu a'.Network left).bind fun y =>
  if decide (y < 0) then
    some (-1)
  else
    (laws_szLightS fu a'.Lights y).bind fun y2 =>
    if decide (y2 < 0) then
      some (-1)
    else
      some y2
def laws_szAction (fu : Nat) (a' : Action) (left : Int) : Option (Int) :=
  (laws_szLight fu a'.Light left).bind fun y =>
  if decide (y < 0) then
    some (-1)
  else
    some y
def laws_toStringS_L1 (fu : Nat) (a' : List ByteArray) : Nat → List ByteArray → Int → Option (List ByteArray × Int)
  | 0, _, _ => none
  | fk + 1, out', i =>
    if decide (i < (a'.length : Int)) then
      (idx a' i).bind fun e =>
      (idx out' i).bind fun e2 =>
      laws_toStringS_L1 fu a' fk (out'.set (i : Int).toNat e) (w64 (i + 1))
    else
      some (out', i)
def laws_toStringS (fu : Nat) (a' : List ByteArray) : Option (List ByteArray) :=
  (mk (ByteArray.empty : ByteArray) (a'.length : Int)).bind fun l =>
  (laws_toStringS_L1 fu a' fu l 0).bind fun z =>
  some z.1
def laws_toFiber (fu : Nat) (a' : Fiber) : Option (Fiber) :=
  some a'
def laws_toFiberS_L1 (fu : Nat) (a' : List Fiber) : Nat → List Fiber → Int → Option (List Fiber × Int)
  | 0, _, _ => none
  | fk + 1, out', i =>
    if decide (i < (a'.length : Int)) then
      (idx a' i).bind fun e =>
      (laws_toFiber fu e).bind fun y =>
      (idx out' i).bind fun e2 =>
      laws_toFiberS_L1 fu a' fk (out'.set (i : Int).toNat y) (w64 (i + 1))
    else
      some (out', i)
def laws_toFiberS (fu : Nat) (a' : List Fiber) : Option (List Fiber) :=
  (mk (({ A := 0, B := 0, Length := 0, Risk := 0 } : Fiber) : Fiber) (a'.length : Int)).bind fun l =>
  (laws_toFiberS_L1 fu a' fu l 0).bind fun z =>
  some z.1
def laws_toNetwork (fu : Nat) (a' : Network) : Option (Network) :=
  (laws_toStringS fu a'.Nodes).bind fun y =>
  (laws_toFiberS fu a'.Fibers).bind fun y2 =>
  some ({ Nodes := y, Fibers := y2 } : Network)
def laws_toIntS_L1 (fu : Nat) (a' : List Int) : Nat → List Int → Int → Option (List Int × Int)
  | 0, _, _ => none
  | fk + 1, out', i =>
    if decide (i < (a'.length : Int)) then
      (idx a' i).bind fun e =>
      (idx out' i).bind fun e2 =>
      laws_toIntS_L1 fu a' fk (out'.set (i : Int).toNat e) (w64 (i + 1))
    else
      some (out', i)
def laws_toIntS (fu : Nat) (a' : List Int) : Option (List Int) :=
  (mk (0 : Int) (a'.length : Int)).bind fun l =>
  (laws_toIntS_L1 fu a' fu l 0).bind fun z =>
  some z.1
def laws_toRoute (fu : Nat) (a' : Route) : Option (Route) :=
  (laws_toIntS fu a'.Fibers).bind fun y =>
  some ({ Start := a'.Start, Fibers := y } : Route)
def laws_toBlock (fu : Nat) (a' : Block) : Option (Block) :=
  some a'
def laws_toLight (fu : Nat) (a' : Light) : Option (Light) :=
  (laws_toRoute fu a'.Route).bind fun y =>
  (laws_toBlock fu a'.Block).bind fun y2 =>
  some ({ Id := a'.Id, Route := y, Block := y2 } : Light)
def laws_toLightS_L1 (fu : Nat) (a' : List Light) : Nat → List Light → Int → Option (List Light × Int)
  | 0, _, _ => none
  | fk + 1, out', i =>
    if decide (i < (a'.length : Int)) then
      (idx a' i).bind fun e =>
      (laws_toLight fu e).bind fun y =>
      (idx out' i).bind fun e2 =>
      laws_toLightS_L1 fu a' fk (out'.set (i : Int).toNat y) (w64 (i + 1))
    else
      some (out', i)
def laws_toLightS (fu : Nat) (a' : List Light) : Option (List Light) :=
  (mk (({ Id := 0, Route := ({ Start := 0, Fibers := [] } : Route), Block := ({ First := 0, Count := 0 } : Block) } : Light) : Light) (a'.length : Int)).bind fun l =>
  (laws_toLightS_L1 fu a' fu l 0).bind fun z =>
  some z.1
def laws_toPlan (fu : Nat) (a' : Plan) : Option (Plan) :=
  (laws_toNetwork fu a'.Network).bind fun y =>
  (laws_toLightS fu a'.Lights).bind fun y2 =>
  some ({ Network := y, Lights := y2 } : Plan)
def laws_toAction (fu : Nat) (a' : Action) : Option (Action) :=
  (laws_toLight fu a'.Light).bind fun y =>
  some ({ Kind := a'.Kind, Light := y } : Action)
def spec_l1In (fu : Nat) (x1 : Int) (a' : Int) (b' : Int) : Option (Bool) :=
  (if decide (x1 ≥ a') then some (decide (x1 ≤ b'))
  else some false).bind fun c =>
  some c
def spec_l2Sign (fu : Nat) (b' : By) : Option (Bool) :=
  (if decide (b'.n ≥ 97) then if decide (b'.n ≤ 122) then some true
  else if decide (b'.n ≥ 48) then some (decide (b'.n ≤ 57))
  else some false
  else if decide (b'.n ≥ 48) then some (decide (b'.n ≤ 57))
  else some false).bind fun c =>
  some c
def spec_l2Name_L1 (fu : Nat) (s' : ByteArray) : Nat → Int → Option (Out (Int) (Bool))
  | 0, _ => none
  | fk + 1, i =>
    if decide (i < (s'.size : Int)) then
      (sidx s' i).bind fun e3 =>
      (spec_l2Sign fu e3).bind fun y2 =>
      if !y2 then
        some (.ret false)
      else
        spec_l2Name_L1 fu s' fk (w64 (i + 1))
    else
      some (.next i)
def spec_l2Name (fu : Nat) (s' : ByteArray) : Option (Bool) :=
  ((spec_l1In fu (s'.size : Int) 1 8).bind fun y =>
  if !y then some true
  else (sidx s' 0).bind fun e =>
  if decide (e.n < 97) then some true
  else (sidx s' 0).bind fun e2 =>
  some (decide (e2.n > 122))).bind fun c =>
  if c then
    some false
  else
    (spec_l2Name_L1 fu s' fu 0).bind fun out => out.on some fun z =>
    some true
def spec_l2Find_L1 (fu : Nat) (list : List ByteArray) (name : ByteArray) : Nat → Int → Option (Out (Int) (Int))
  | 0, _ => none
  | fk + 1, i =>
    if decide (i < (list.length : Int)) then
      (idx list i).bind fun e =>
      if e.toList == name.toList then
        some (.ret i)
      else
        spec_l2Find_L1 fu list name fk (w64 (i + 1))
    else
      some (.next i)
def spec_l2Find (fu : Nat) (list : List ByteArray) (name : ByteArray) : Option (Int) :=
  (spec_l2Find_L1 fu list name fu 0).bind fun out => out.on some fun z =>
  some (-1)
def spec_l2Fiber (fu : Nat) (f : Fiber) (nodes : Int) : Option (Bool) :=
  ((spec_l1In fu f.A 0 (w64 (nodes - 1))).bind fun y =>
  if y then (spec_l1In fu f.B (w64 (f.A + 1)) (w64 (nodes - 1))).bind fun y2 =>
  if y2 then (spec_l1In fu f.Length 1 5000).bind fun y3 =>
  if y3 then (spec_l1In fu f.Risk 0 9).bind fun y4 =>
  some y4
  else some false
  else some false
  else some false).bind fun c =>
  some c
def spec_l2Before (fu : Nat) (f : Fiber) (g' : Fiber) : Option (Int) :=
  if f.A != g'.A then
    some (w64 (f.A - g'.A))
  else
    if f.B != g'.B then
      some (w64 (f.B - g'.B))
    else
      if f.Length != g'.Length then
        some (w64 (f.Length - g'.Length))
      else
        some (w64 (f.Risk - g'.Risk))
def spec_l2Good_L1 (fu : Nat) (n' : Network) : Nat → Int → Option (Out (Int) (Bool))
  | 0, _ => none
  | fk + 1, i =>
    if decide (i < (n'.Nodes.length : Int)) then
      ((idx n'.Nodes i).bind fun e =>
      (spec_l2Name fu e).bind fun y2 =>
      if !y2 then some true
      else (idx n'.Nodes i).bind fun e2 =>
      (spec_l2Find fu n'.Nodes e2).bind fun y3 =>
      some (y3 != i)).bind fun c4 =>
      if c4 then
        some (.ret false)
      else
        spec_l2Good_L1 fu n' fk (w64 (i + 1))
    else
      some (.next i)
def spec_l2Good_L2 (fu : Nat) (n' : Network) : Nat → Int → Option (Out (Int) (Bool))
  | 0, _ => none
  | fk + 1, i3 =>
    if decide (i3 < (n'.Fibers.length : Int)) then
      ((idx n'.Fibers i3).bind fun e3 =>
      (spec_l2Fiber fu e3 (n'.Nodes.length : Int)).bind fun y4 =>
      if !y4 then some true
      else if decide (i3 > 0) then (idx n'.Fibers (w64 (i3 - 1))).bind fun e4 =>
      (idx n'.Fibers i3).bind fun e5 =>
      (spec_l2Before fu e4 e5).bind fun y5 =>
      some (decide (y5 > 0))
      else some false).bind fun c5 =>
      if c5 then
        some (.ret false)
      else
        spec_l2Good_L2 fu n' fk (w64 (i3 + 1))
    else
      some (.next i3)
def spec_l2Good (fu : Nat) (n' : Network) : Option (Bool) :=
  ((spec_l1In fu (n'.Nodes.length : Int) 2 8).bind fun y =>
  if !y then some true
  else some (decide ((n'.Fibers.length : Int) > 14))).bind fun c3 =>
  if c3 then
    some false
  else
    (spec_l2Good_L1 fu n' fu 0).bind fun out => out.on some fun z2 =>
    (spec_l2Good_L2 fu n' fu 0).bind fun out => out.on some fun z =>
    some true
def spec_l2Other (fu : Nat) (n' : Network) (fiber : Int) (node : Int) : Option (Int) :=
  (idx n'.Fibers fiber).bind fun e =>
  if node == e.A then
    some e.B
  else
    if node == e.B then
      some e.A
    else
      some (-1)
def spec_l1Has_L1 (fu : Nat) (l : List Int) (n' : Int) : Nat → Int → Option (Out (Int) (Bool))
  | 0, _ => none
  | fk + 1, i =>
    if decide (i < (l.length : Int)) then
      (idx l i).bind fun e =>
      if e == n' then
        some (.ret true)
      else
        spec_l1Has_L1 fu l n' fk (w64 (i + 1))
    else
      some (.next i)
def spec_l1Has (fu : Nat) (l : List Int) (n' : Int) : Option (Bool) :=
  (spec_l1Has_L1 fu l n' fu 0).bind fun out => out.on some fun z =>
  some false
def spec_l4Walk_L1 (fu : Nat) (n' : Network) (r' : Route) : Nat → List Int → Int → Option (Out (List Int × Int) (List Int × Bool))
  | 0, _, _ => none
  | fk + 1, out', i =>
    if decide (i < (r'.Fibers.length : Int)) then
      (idx r'.Fibers i).bind fun e =>
      (spec_l1In fu e 0 (w64 ((n'.Fibers.length : Int) - 1))).bind fun y2 =>
      if !y2 then
        some (.ret (out', false))
      else
        (idx r'.Fibers i).bind fun e2 =>
        (idx out' (w64 ((out'.length : Int) - 1))).bind fun e3 =>
        (spec_l2Other fu n' e2 e3).bind fun y3 =>
        (if decide (y3 < 0) then some true
        else (spec_l1Has fu out' y3).bind fun y4 =>
        some y4).bind fun c6 =>
        if c6 then
          some (.ret (out', false))
        else
          (app out' [y3]).bind fun l =>
          spec_l4Walk_L1 fu n' r' fk l (w64 (i + 1))
    else
      some (.next (out', i))
def spec_l4Walk (fu : Nat) (n' : Network) (r' : Route) : Option (List Int × Bool) :=
  ((spec_l1In fu r'.Start 0 (w64 ((n'.Nodes.length : Int) - 1))).bind fun y =>
  if !y then some true
  else some ((r'.Fibers.length : Int) == 0)).bind fun c4 =>
  if c4 then
    some ([r'.Start], false)
  else
    (spec_l4Walk_L1 fu n' r' fu [r'.Start] 0).bind fun out => out.on some fun z =>
    some (z.1, true)
def spec_l4Good (fu : Nat) (n' : Network) (r' : Route) : Option (Bool) :=
  (spec_l2Good fu n').bind fun y =>
  if !y then
    some false
  else
    (spec_l4Walk fu n' r').bind fun y2 =>
    some y2.2
def spec_l8Good (fu : Nat) (b' : Block) : Option (Bool) :=
  ((spec_l1In fu b'.First 0 23).bind fun y =>
  if y then (spec_l1In fu b'.Count 1 (w64 (24 - b'.First))).bind fun y2 =>
  some y2
  else some false).bind fun c =>
  some c
def spec_l9Light (fu : Nat) (n' : Network) (x1 : Light) : Option (Bool) :=
  ((spec_l1In fu x1.Id 1 999).bind fun y =>
  if y then (spec_l4Good fu n' x1.Route).bind fun y2 =>
  if y2 then (spec_l8Good fu x1.Block).bind fun y3 =>
  some y3
  else some false
  else some false).bind fun c4 =>
  some c4
def spec_l4Uses_L1 (fu : Nat) (r' : Route) (group : List Int) : Nat → Int → Option (Out (Int) (Bool))
  | 0, _ => none
  | fk + 1, i =>
    if decide (i < (r'.Fibers.length : Int)) then
      (idx r'.Fibers i).bind fun e =>
      (spec_l1Has fu group e).bind fun y =>
      if y then
        some (.ret true)
      else
        spec_l4Uses_L1 fu r' group fk (w64 (i + 1))
    else
      some (.next i)
def spec_l4Uses (fu : Nat) (r' : Route) (group : List Int) : Option (Bool) :=
  (spec_l4Uses_L1 fu r' group fu 0).bind fun out => out.on some fun z =>
  some false
def spec_l8Bits (fu : Nat) (b' : Block) : Option (Int) :=
  (shl 1 (wu64 b'.Count)).bind fun q =>
  (shl (w64 (q - 1)) (wu64 b'.First)).bind fun q2 =>
  some q2
def spec_l9Collide (fu : Nat) (x1 : Light) (y : Light) : Option (Bool) :=
  ((spec_l4Uses fu x1.Route y.Route.Fibers).bind fun y2 =>
  if y2 then (spec_l8Bits fu x1.Block).bind fun y3 =>
  (spec_l8Bits fu y.Block).bind fun y4 =>
  some ((band y3 y4) != 0)
  else some false).bind fun c3 =>
  some c3
def spec_l9Good_L2 (fu : Nat) (p : Plan) (i : Int) : Nat → Int → Option (Out (Int) (Bool))
  | 0, _ => none
  | fk + 1, k' =>
    if decide (k' < i) then
      (idx p.Lights k').bind fun e4 =>
      (idx p.Lights i).bind fun e5 =>
      (spec_l9Collide fu e4 e5).bind fun y3 =>
      if y3 then
        some (.ret false)
      else
        spec_l9Good_L2 fu p i fk (w64 (k' + 1))
    else
      some (.next k')
def spec_l9Good_L1 (fu : Nat) (p : Plan) : Nat → Int → Option (Out (Int) (Bool))
  | 0, _ => none
  | fk + 1, i =>
    if decide (i < (p.Lights.length : Int)) then
      ((idx p.Lights i).bind fun e =>
      (spec_l9Light fu p.Network e).bind fun y2 =>
      if !y2 then some true
      else if decide (i > 0) then (idx p.Lights (w64 (i - 1))).bind fun e2 =>
      (idx p.Lights i).bind fun e3 =>
      some (decide (e2.Id ≥ e3.Id))
      else some false).bind fun c5 =>
      if c5 then
        some (.ret false)
      else
        (spec_l9Good_L2 fu p i fu 0).bind fun out => out.on (fun r => some (.ret r)) fun z =>
        spec_l9Good_L1 fu p fk (w64 (i + 1))
    else
      some (.next i)
def spec_l9Good (fu : Nat) (p : Plan) : Option (Bool) :=
  ((spec_l2Good fu p.Network).bind fun y =>
  if !y then some true
  else some (decide ((p.Lights.length : Int) > 12))).bind fun c4 =>
  if c4 then
    some false
  else
    (spec_l9Good_L1 fu p fu 0).bind fun out => out.on some fun z2 =>
    some true
def spec_l9Find_L1 (fu : Nat) (p : Plan) (id : Int) : Nat → Int → Option (Out (Int) (Int))
  | 0, _ => none
  | fk + 1, i =>
    if decide (i < (p.Lights.length : Int)) then
      (idx p.Lights i).bind fun e =>
      if e.Id == id then
        some (.ret i)
      else
        spec_l9Find_L1 fu p id fk (w64 (i + 1))
    else
      some (.next i)
def spec_l9Find (fu : Nat) (p : Plan) (id : Int) : Option (Int) :=
  (spec_l9Find_L1 fu p id fu 0).bind fun out => out.on some fun z =>
  some (-1)
def spec_l2Own (fu : Nat) (n' : Network) : Option (Network) :=
  (app ([] : List ByteArray) n'.Nodes).bind fun l =>
  (app ([] : List Fiber) n'.Fibers).bind fun l2 =>
  some ({ Nodes := l, Fibers := l2 } : Network)
def spec_l1Own (fu : Nat) (l : List Int) : Option (List Int) :=
  (app ([] : List Int) l).bind fun l2 =>
  some l2
def spec_l4Own (fu : Nat) (r' : Route) : Option (Route) :=
  (spec_l1Own fu r'.Fibers).bind fun y =>
  some ({ Start := r'.Start, Fibers := y } : Route)
def spec_l9Copy (fu : Nat) (x1 : Light) : Option (Light) :=
  (spec_l4Own fu x1.Route).bind fun y =>
  some ({ Id := x1.Id, Route := y, Block := x1.Block } : Light)
def spec_l9Own_L1 (fu : Nat) (p : Plan) : Nat → Int → List Light → Option (Int × List Light)
  | 0, _, _ => none
  | fk + 1, i, m =>
    if decide (i < (p.Lights.length : Int)) then
      (idx p.Lights i).bind fun e =>
      (spec_l9Copy fu e).bind fun y2 =>
      (app m [y2]).bind fun al =>
      spec_l9Own_L1 fu p fk (w64 (i + 1)) al
    else
      some (i, m)
def spec_l9Own (fu : Nat) (p : Plan) : Option (Plan) :=
  (spec_l2Own fu p.Network).bind fun y =>
  (spec_l9Own_L1 fu p fu 0 ([] : List Light)).bind fun z =>
  some ({ Network := y, Lights := z.2 } : Plan)
def spec_l9Put_L1 (fu : Nat) (x1 : Light) (y : Plan) : Nat → Int → Option (Int)
  | 0, _ => none
  | fk + 1, i =>
    (if decide (i < (y.Lights.length : Int)) then (idx y.Lights i).bind fun e =>
    some (decide (e.Id < x1.Id))
    else some false).bind fun c8 =>
    if c8 then
      spec_l9Put_L1 fu x1 y fk (w64 (i + 1))
    else
      some i
def spec_l9Put (fu : Nat) (p : Plan) (x1 : Light) : Option (Plan) :=
  (spec_l9Own fu p).bind fun y =>
  (spec_l9Put_L1 fu x1 y fu 0).bind fun z =>
  (sub y.Lights 0 z).bind fun l =>
  (sub y.Lights z (y.Lights.length : Int)).bind fun l2 =>
  (app ([] : List Light) l).bind fun l3 =>
  (spec_l9Copy fu x1).bind fun y2 =>
  (app l3 [y2]).bind fun l4 =>
  (app l4 l2).bind fun l5 =>
  some ({ Network := y.Network, Lights := l5 } : Plan)
def spec_AddLight (fu : Nat) (p : Plan) (x1 : Light) : Option (Plan × Bool) :=
  (spec_l9Good fu p).bind fun y =>
  if !y then
    some (({ Network := ({ Nodes := [], Fibers := [] } : Network), Lights := [] } : Plan), false)
  else
    (spec_l9Put fu p x1).bind fun y2 =>
    (spec_l9Good fu y2).bind fun y3 =>
    if !y3 then
      some (({ Network := ({ Nodes := [], Fibers := [] } : Network), Lights := [] } : Plan), false)
    else
      some (y2, true)
def spec_l1Same_L1 (fu : Nat) (a' : List Int) (b' : List Int) : Nat → Int → Option (Out (Int) (Bool))
  | 0, _ => none
  | fk + 1, i =>
    if decide (i < (a'.length : Int)) then
      (idx a' i).bind fun e =>
      (idx b' i).bind fun e2 =>
      if e != e2 then
        some (.ret false)
      else
        spec_l1Same_L1 fu a' b' fk (w64 (i + 1))
    else
      some (.next i)
def spec_l1Same (fu : Nat) (a' : List Int) (b' : List Int) : Option (Bool) :=
  if (a'.length : Int) != (b'.length : Int) then
    some false
  else
    (spec_l1Same_L1 fu a' b' fu 0).bind fun out => out.on some fun z =>
    some true
def spec_l4Same (fu : Nat) (a' : Route) (b' : Route) : Option (Bool) :=
  (if a'.Start == b'.Start then (spec_l1Same fu a'.Fibers b'.Fibers).bind fun y =>
  some y
  else some false).bind fun c3 =>
  some c3
def spec_l20Same (fu : Nat) (x1 : Light) (y : Light) : Option (Bool) :=
  (if x1.Id == y.Id then if ([x1.Block.First, x1.Block.Count] : List Int) == ([y.Block.First, y.Block.Count] : List Int) then (spec_l4Same fu x1.Route y.Route).bind fun y2 =>
  some y2
  else some false
  else some false).bind fun c3 =>
  some c3
def spec_l9Without (fu : Nat) (p : Plan) (i : Int) : Option (Plan) :=
  (spec_l9Own fu p).bind fun y =>
  (sub y.Lights 0 i).bind fun l =>
  (sub y.Lights (w64 (i + 1)) (y.Lights.length : Int)).bind fun l2 =>
  (app ([] : List Light) l).bind fun l3 =>
  (app l3 l2).bind fun l4 =>
  some ({ Network := y.Network, Lights := l4 } : Plan)
def spec_MoveLight (fu : Nat) (p : Plan) (id : Int) (r' : Route) (b' : Block) : Option (Plan × Bool) :=
  ((spec_l9Good fu p).bind fun y =>
  if !y then some true
  else (spec_l9Find fu p id).bind fun y2 =>
  some (decide (y2 < 0))).bind fun c5 =>
  if c5 then
    some (({ Network := ({ Nodes := [], Fibers := [] } : Network), Lights := [] } : Plan), false)
  else
    (spec_l9Find fu p id).bind fun y3 =>
    (spec_l9Without fu p y3).bind fun y4 =>
    (spec_l9Put fu y4 ({ Id := id, Route := r', Block := b' } : Light)).bind fun y5 =>
    (spec_l9Good fu y5).bind fun y6 =>
    if !y6 then
      some (({ Network := ({ Nodes := [], Fibers := [] } : Network), Lights := [] } : Plan), false)
    else
      some (y5, true)
def spec_l20Apply (fu : Nat) (p : Plan) (a' : Action) : Option (Plan × Bool) :=
  (spec_l9Find fu p a'.Light.Id).bind fun y =>
  if a'.Kind == 1 then
    (spec_AddLight fu p a'.Light).bind fun y2 =>
    some (y2.1, y2.2)
  else
    if a'.Kind == 2 then
      (if decide (y ≥ 0) then (idx p.Lights y).bind fun e =>
      (spec_l20Same fu e a'.Light).bind fun y3 =>
      some y3
      else some false).bind fun c8 =>
      if c8 then
        (spec_l9Without fu p y).bind fun y4 =>
        some (y4, true)
      else
        some (({ Network := ({ Nodes := [], Fibers := [] } : Network), Lights := [] } : Plan), false)
    else
      if a'.Kind == 3 then
        (spec_MoveLight fu p a'.Light.Id a'.Light.Route a'.Light.Block).bind fun y5 =>
        some (y5.1, y5.2)
      else
        some (({ Network := ({ Nodes := [], Fibers := [] } : Network), Lights := [] } : Plan), false)
def impl_within (fu : Nat) (n' : Int) (low : Int) (high : Int) : Option (Bool) :=
  (if decide (low ≤ n') then some (decide (n' ≤ high))
  else some false).bind fun c =>
  some c
def impl_isName_L1 (fu : Nat) (s' : ByteArray) : Nat → Int → Option (Out (Int) (Bool))
  | 0, _ => none
  | fk + 1, i =>
    if decide (i < (s'.size : Int)) then
      (sidx s' i).bind fun e =>
      (sidx s' i).bind fun e2 =>
      if decide (e.n ≥ 97) then (sidx s' i).bind fun e3 =>
      if decide (e2.n ≥ 48) then (sidx s' i).bind fun e4 =>
      (if !(decide (e3.n ≤ 122)) then if !(decide (e4.n ≤ 57)) then some true
      else some (i == 0)
      else some false).bind fun c =>
      if c then
        some (.ret false)
      else
        impl_isName_L1 fu s' fk (w64 (i + 1))
      else (if !(decide (e3.n ≤ 122)) then if !false then some true
      else some (i == 0)
      else some false).bind fun c2 =>
      if c2 then
        some (.ret false)
      else
        impl_isName_L1 fu s' fk (w64 (i + 1))
      else if decide (e2.n ≥ 48) then (sidx s' i).bind fun e5 =>
      (if !false then if !(decide (e5.n ≤ 57)) then some true
      else some (i == 0)
      else some false).bind fun c3 =>
      if c3 then
        some (.ret false)
      else
        impl_isName_L1 fu s' fk (w64 (i + 1))
      else (if !false then if !false then some true
      else some (i == 0)
      else some false).bind fun c4 =>
      if c4 then
        some (.ret false)
      else
        impl_isName_L1 fu s' fk (w64 (i + 1))
    else
      some (.next i)
def impl_isName (fu : Nat) (s' : ByteArray) : Option (Bool) :=
  (impl_isName_L1 fu s' fu 0).bind fun out => out.on some fun z =>
  (impl_within fu (s'.size : Int) 1 8).bind fun y =>
  some y
def slices_Index_string_string_L1 (fu : Nat) (s' : List ByteArray) (v : ByteArray) : Nat → Int → Option (Out (Int) (Int))
  | 0, _ => none
  | fk + 1, i =>
    if decide (i < (s'.length : Int)) then
      (idx s' i).bind fun e =>
      if v.toList == e.toList then
        some (.ret i)
      else
        slices_Index_string_string_L1 fu s' v fk (w64 (i + 1))
    else
      some (.next i)
def slices_Index_string_string (fu : Nat) (s' : List ByteArray) (v : ByteArray) : Option (Int) :=
  (slices_Index_string_string_L1 fu s' v fu 0).bind fun out => out.on some fun z =>
  some (-1)
def slices_Contains_string_string (fu : Nat) (s' : List ByteArray) (v : ByteArray) : Option (Bool) :=
  (slices_Index_string_string fu s' v).bind fun y =>
  some (decide (y ≥ 0))
def cmp_isNaN_int (fu : Nat) (x1 : Int) : Option (Bool) :=
  some (x1 != x1)
def cmp_Compare_int (fu : Nat) (x1 : Int) (y : Int) : Option (Int) :=
  (cmp_isNaN_int fu x1).bind fun y2 =>
  (cmp_isNaN_int fu y).bind fun y3 =>
  if y2 then
    if y3 then
      some 0
    else
      some (-1)
  else
    if y3 then
      some 1
    else
      if decide (x1 < y) then
        some (-1)
      else
        if decide (x1 > y) then
          some 1
        else
          some 0
def cmp_Or_int_L1 (fu : Nat) (vals : List Int) : Nat → Int → Option (Out (Int) (Int))
  | 0, _ => none
  | fk + 1, i =>
    if decide (i < (vals.length : Int)) then
      (idx vals i).bind fun e =>
      if e != 0 then
        some (.ret e)
      else
        cmp_Or_int_L1 fu vals fk (w64 (i + 1))
    else
      some (.next i)
def cmp_Or_int (fu : Nat) (vals : List Int) : Option (Int) :=
  (cmp_Or_int_L1 fu vals fu 0).bind fun out => out.on some fun z =>
  some 0
def impl_compareFibers (fu : Nat) (a' : Fiber) (b' : Fiber) : Option (Int) :=
  (cmp_Compare_int fu a'.A b'.A).bind fun y =>
  (cmp_Compare_int fu a'.B b'.B).bind fun y2 =>
  (cmp_Compare_int fu a'.Length b'.Length).bind fun y3 =>
  (cmp_Compare_int fu a'.Risk b'.Risk).bind fun y4 =>
  (cmp_Or_int fu [y, y2, y3, y4]).bind fun y5 =>
  some y5
def impl_IsValidNetwork_L1 (fu : Nat) (n' : Network) : Nat → Int → Option (Out (Int) (Bool))
  | 0, _ => none
  | fk + 1, i =>
    if decide (i < (n'.Nodes.length : Int)) then
      (idx n'.Nodes i).bind fun e =>
      ((impl_isName fu e).bind fun y =>
      if !y then some true
      else (sub n'.Nodes 0 i).bind fun l =>
      (slices_Contains_string_string fu l e).bind fun y2 =>
      some y2).bind fun c3 =>
      if c3 then
        some (.ret false)
      else
        impl_IsValidNetwork_L1 fu n' fk (w64 (i + 1))
    else
      some (.next i)
def impl_IsValidNetwork_L2 (fu : Nat) (n' : Network) : Nat → Int → Option (Out (Int) (Bool))
  | 0, _ => none
  | fk + 1, i3 =>
    if decide (i3 < (n'.Fibers.length : Int)) then
      (idx n'.Fibers i3).bind fun e2 =>
      (if decide (e2.A < 0) then some true
      else if decide (e2.A ≥ e2.B) then some true
      else if decide (e2.B ≥ (n'.Nodes.length : Int)) then some true
      else (impl_within fu e2.Length 1 5000).bind fun y3 =>
      if !y3 then some true
      else (impl_within fu e2.Risk 0 9).bind fun y4 =>
      if !y4 then some true
      else if decide (i3 > 0) then (idx n'.Fibers (w64 (i3 - 1))).bind fun e3 =>
      (impl_compareFibers fu e3 e2).bind fun y5 =>
      some (decide (y5 > 0))
      else some false).bind fun c5 =>
      if c5 then
        some (.ret false)
      else
        impl_IsValidNetwork_L2 fu n' fk (w64 (i3 + 1))
    else
      some (.next i3)
def impl_IsValidNetwork (fu : Nat) (n' : Network) : Option (Bool) :=
  (impl_IsValidNetwork_L1 fu n' fu 0).bind fun out => out.on some fun z2 =>
  (impl_IsValidNetwork_L2 fu n' fu 0).bind fun out => out.on some fun z =>
  ((impl_within fu (n'.Nodes.length : Int) 2 8).bind fun y6 =>
  if y6 then some (decide ((n'.Fibers.length : Int) ≤ 14))
  else some false).bind fun c6 =>
  some c6
def impl_otherEnd (fu : Nat) (f : Fiber) (node : Int) : Option (Int) :=
  if node == f.A then
    some f.B
  else
    if node == f.B then
      some f.A
    else
      some (-1)
def slices_Index_int_int_L1 (fu : Nat) (s' : List Int) (v : Int) : Nat → Int → Option (Out (Int) (Int))
  | 0, _ => none
  | fk + 1, i =>
    if decide (i < (s'.length : Int)) then
      (idx s' i).bind fun e =>
      if v == e then
        some (.ret i)
      else
        slices_Index_int_int_L1 fu s' v fk (w64 (i + 1))
    else
      some (.next i)
def slices_Index_int_int (fu : Nat) (s' : List Int) (v : Int) : Option (Int) :=
  (slices_Index_int_int_L1 fu s' v fu 0).bind fun out => out.on some fun z =>
  some (-1)
def slices_Contains_int_int (fu : Nat) (s' : List Int) (v : Int) : Option (Bool) :=
  (slices_Index_int_int fu s' v).bind fun y =>
  some (decide (y ≥ 0))
def impl_visited_L1 (fu : Nat) (n' : Network) (r' : Route) : Nat → List Int → Int → Int → Option (Out (List Int × Int × Int) (List Int × Bool))
  | 0, _, _, _ => none
  | fk + 1, out', at', i =>
    if decide (i < (r'.Fibers.length : Int)) then
      (idx r'.Fibers i).bind fun e =>
      (impl_within fu e 0 (w64 ((n'.Fibers.length : Int) - 1))).bind fun y2 =>
      if !y2 then
        some (.ret ([], false))
      else
        (idx n'.Fibers e).bind fun e2 =>
        (impl_otherEnd fu e2 at').bind fun y3 =>
        (if decide (y3 < 0) then some true
        else (slices_Contains_int_int fu out' y3).bind fun y4 =>
        some y4).bind fun c6 =>
        if c6 then
          some (.ret ([], false))
        else
          (app out' [y3]).bind fun l =>
          impl_visited_L1 fu n' r' fk l y3 (w64 (i + 1))
    else
      some (.next (out', at', i))
def impl_visited (fu : Nat) (n' : Network) (r' : Route) : Option (List Int × Bool) :=
  ((impl_within fu r'.Start 0 (w64 ((n'.Nodes.length : Int) - 1))).bind fun y =>
  if !y then some true
  else some ((r'.Fibers.length : Int) == 0)).bind fun c4 =>
  if c4 then
    some ([], false)
  else
    (impl_visited_L1 fu n' r' fu [r'.Start] r'.Start 0).bind fun out => out.on some fun z =>
    some (z.1, true)
def impl_IsValidBlock (fu : Nat) (b' : Block) : Option (Bool) :=
  (if decide (b'.First ≥ 0) then (impl_within fu b'.Count 1 24).bind fun y =>
  if y then some (decide (b'.First ≤ (w64 (24 - b'.Count))))
  else some false
  else some false).bind fun c =>
  some c
def impl_isLight (fu : Nat) (n' : Network) (x1 : Light) : Option (Bool) :=
  (impl_visited fu n' x1.Route).bind fun y =>
  (if y.2 then (impl_within fu x1.Id 1 999).bind fun y2 =>
  if y2 then (impl_IsValidBlock fu x1.Block).bind fun y3 =>
  some y3
  else some false
  else some false).bind fun c5 =>
  some c5
def impl_maskOf (fu : Nat) (b' : Block) : Option (Int) :=
  (shl 1 b'.Count).bind fun q =>
  (shl (w64 (q - 1)) b'.First).bind fun q2 =>
  some q2
def math_bits_Len64 (fu : Nat) (x1 : U64) : Option (Int) :=
  if decide (x1.n ≥ 4294967296) then
    none
  else
    if decide (x1.n ≥ 65536) then
      none
    else
      if decide (x1.n ≥ 256) then
        none
      else
        (sidx (⟨#[0, 1, 2, 2, 3, 3, 3, 3, 4, 4, 4, 4, 4, 4, 4, 4, 5, 5, 5, 5, 5, 5, 5, 5, 5, 5, 5, 5, 5, 5, 5, 5, 6, 6, 6, 6, 6, 6, 6, 6, 6, 6, 6, 6, 6, 6, 6, 6, 6, 6, 6, 6, 6, 6, 6, 6, 6, 6, 6, 6, 6, 6, 6, 6, 7, 7, 7, 7, 7, 7, 7, 7, 7, 7, 7, 7, 7, 7, 7, 7, 7, 7, 7, 7, 7, 7, 7, 7, 7, 7, 7, 7, 7, 7, 7, 7, 7, 7, 7, 7, 7, 7, 7, 7, 7, 7, 7, 7, 7, 7, 7, 7, 7, 7, 7, 7, 7, 7, 7, 7, 7, 7, 7, 7, 7, 7, 7, 7, 8, 8, 8, 8, 8, 8, 8, 8, 8, 8, 8, 8, 8, 8, 8, 8, 8, 8, 8, 8, 8, 8, 8, 8, 8, 8, 8, 8, 8, 8, 8, 8, 8, 8, 8, 8, 8, 8, 8, 8, 8, 8, 8, 8, 8, 8, 8, 8, 8, 8, 8, 8, 8, 8, 8, 8, 8, 8, 8, 8, 8, 8, 8, 8, 8, 8, 8, 8, 8, 8, 8, 8, 8, 8, 8, 8, 8, 8, 8, 8, 8, 8, 8, 8, 8, 8, 8, 8, 8, 8, 8, 8, 8, 8, 8, 8, 8, 8, 8, 8, 8, 8, 8, 8, 8, 8, 8, 8, 8, 8, 8, 8, 8, 8, 8, 8, 8, 8, 8, 8, 8, 8, 8, 8, 8, 8, 8, 8]⟩ : ByteArray) (wu8 x1.n)).bind fun e =>
        some (w64 (0 + (w64 e.n)))
def math_bits_Len (fu : Nat) (x1 : U64) : Option (Int) :=
  (math_bits_Len64 fu x1).bind fun y =>
  some y
def cmp_Less_int (fu : Nat) (x1 : Int) (y : Int) : Option (Bool) :=
  ((cmp_isNaN_int fu x1).bind fun y2 =>
  if y2 then (cmp_isNaN_int fu y).bind fun y3 =>
  if !y3 then some true
  else some (decide (x1 < y))
  else some (decide (x1 < y))).bind fun c =>
  some c
def slices_insertionSortOrdered_int_L2 (fu : Nat) (a' : Int) : Nat → List Int → Int → Option (List Int × Int)
  | 0, _, _ => none
  | fk + 1, data3, j =>
    (if decide (j > a') then (idx data3 j).bind fun e =>
    (idx data3 (w64 (j - 1))).bind fun e2 =>
    (cmp_Less_int fu e e2).bind fun y =>
    some y
    else some false).bind fun c2 =>
    if c2 then
      (idx data3 (w64 (j - 1))).bind fun e3 =>
      (idx data3 j).bind fun e4 =>
      (idx data3 j).bind fun e5 =>
      (idx (data3.set (j : Int).toNat e3) (w64 (j - 1))).bind fun e6 =>
      slices_insertionSortOrdered_int_L2 fu a' fk ((data3.set (j : Int).toNat e3).set (w64 (j - 1) : Int).toNat e4) (w64 (j - 1))
    else
      some (data3, j)
def slices_insertionSortOrdered_int_L1 (fu : Nat) (a' : Int) (b' : Int) : Nat → List Int → Int → Option (List Int × Int)
  | 0, _, _ => none
  | fk + 1, data2, i =>
    if decide (i < b') then
      (slices_insertionSortOrdered_int_L2 fu a' fu data2 i).bind fun z =>
      slices_insertionSortOrdered_int_L1 fu a' b' fk z.1 (w64 (i + 1))
    else
      some (data2, i)
def slices_insertionSortOrdered_int (fu : Nat) (data : List Int) (a' : Int) (b' : Int) : Option (List Int) :=
  (slices_insertionSortOrdered_int_L1 fu a' b' fu data (w64 (a' + 1))).bind fun z2 =>
  some z2.1
def slices_pdqsortOrdered_int_L1 (fu : Nat) (data : List Int) (a' : Int) (b' : Int) : Nat → Option (Out (Unit) (List Int))
  | 0 => none
  | fk + 1 =>
    if decide ((w64 (b' - a')) ≤ 12) then
      (slices_insertionSortOrdered_int fu data a' b').bind fun y =>
      some (.ret y)
    else
      none
def slices_pdqsortOrdered_int (fu : Nat) (data : List Int) (a' : Int) (b' : Int) (limit : Int) : Option (List Int) :=
  (slices_pdqsortOrdered_int_L1 fu data a' b' fu).bind fun out => out.on some fun z =>
  some data
def slices_Sort_int_int (fu : Nat) (x1 : List Int) : Option (List Int) :=
  (math_bits_Len fu (⟨wu64 (x1.length : Int)⟩ : U64)).bind fun y =>
  (slices_pdqsortOrdered_int fu x1 0 (x1.length : Int) y).bind fun y2 =>
  some y2
def slices_Compact_int_int_L1 (fu : Nat) (s' : List Int) : Nat → Int → Option (Out (Int) (List Int))
  | 0, _ => none
  | fk + 1, k' =>
    if decide (k' < (s'.length : Int)) then
      (idx s' k').bind fun e =>
      (idx s' (w64 (k' - 1))).bind fun e2 =>
      if e == e2 then
        none
      else
        slices_Compact_int_int_L1 fu s' fk (w64 (k' + 1))
    else
      some (.next k')
def slices_Compact_int_int (fu : Nat) (s' : List Int) : Option (List Int) :=
  if decide ((s'.length : Int) < 2) then
    some s'
  else
    (slices_Compact_int_int_L1 fu s' fu 1).bind fun out => out.on some fun z =>
    some s'
def impl_common_L1 (fu : Nat) (a' : List Int) (b' : List Int) : Nat → List Int → Int → Option (List Int × Int)
  | 0, _, _ => none
  | fk + 1, out', i =>
    if decide (i < (a'.length : Int)) then
      (idx a' i).bind fun e =>
      (slices_Contains_int_int fu b' e).bind fun y =>
      if y then
        (app out' [e]).bind fun l =>
        impl_common_L1 fu a' b' fk l (w64 (i + 1))
      else
        impl_common_L1 fu a' b' fk out' (w64 (i + 1))
    else
      some (out', i)
def impl_common (fu : Nat) (a' : List Int) (b' : List Int) : Option (List Int) :=
  (impl_common_L1 fu a' b' fu ([] : List Int) 0).bind fun z =>
  (slices_Sort_int_int fu z.1).bind fun y2 =>
  (slices_Compact_int_int fu y2).bind fun y3 =>
  some y3
def impl_collide (fu : Nat) (a' : Light) (b' : Light) : Option (Bool) :=
  ((impl_maskOf fu a'.Block).bind fun y =>
  (impl_maskOf fu b'.Block).bind fun y2 =>
  if (band y y2) != 0 then (impl_common fu a'.Route.Fibers b'.Route.Fibers).bind fun y3 =>
  some (decide ((y3.length : Int) > 0))
  else some false).bind fun c3 =>
  some c3
def impl_IsValidPlan_c1 (fu : Nat) (own : Light) (cap : Light) : Option (Bool) :=
  (impl_collide fu own cap).bind fun y =>
  some y
def slices_IndexFunc_impl_Light_impl_Light_of_IsValidPlan_c1_L1 (fu : Nat) (s' : List Light) (cap : Light) : Nat → Int → Option (Out (Int) (Int))
  | 0, _ => none
  | fk + 1, i =>
    if decide (i < (s'.length : Int)) then
      (idx s' i).bind fun e =>
      (impl_IsValidPlan_c1 fu e cap).bind fun y =>
      if y then
        some (.ret i)
      else
        slices_IndexFunc_impl_Light_impl_Light_of_IsValidPlan_c1_L1 fu s' cap fk (w64 (i + 1))
    else
      some (.next i)
def slices_IndexFunc_impl_Light_impl_Light_of_IsValidPlan_c1 (fu : Nat) (s' : List Light) (cap : Light) : Option (Int) :=
  (slices_IndexFunc_impl_Light_impl_Light_of_IsValidPlan_c1_L1 fu s' cap fu 0).bind fun out => out.on some fun z =>
  some (-1)
def slices_ContainsFunc_impl_Light_impl_Light_of_IsValidPlan_c1 (fu : Nat) (s' : List Light) (cap : Light) : Option (Bool) :=
  (slices_IndexFunc_impl_Light_impl_Light_of_IsValidPlan_c1 fu s' cap).bind fun y =>
  some (decide (y ≥ 0))
def impl_IsValidPlan_L1 (fu : Nat) (p : Plan) : Nat → Int → Option (Out (Int) (Bool))
  | 0, _ => none
  | fk + 1, i =>
    if decide (i < (p.Lights.length : Int)) then
      (idx p.Lights i).bind fun e =>
      ((impl_isLight fu p.Network e).bind fun y2 =>
      if !y2 then some true
      else if decide (i > 0) then (idx p.Lights (w64 (i - 1))).bind fun e2 =>
      if decide (e2.Id ≥ e.Id) then some true
      else (sub p.Lights 0 i).bind fun l =>
      (slices_ContainsFunc_impl_Light_impl_Light_of_IsValidPlan_c1 fu l e).bind fun y3 =>
      some y3
      else (sub p.Lights 0 i).bind fun l2 =>
      (slices_ContainsFunc_impl_Light_impl_Light_of_IsValidPlan_c1 fu l2 e).bind fun y4 =>
      some y4).bind fun c6 =>
      if c6 then
        some (.ret false)
      else
        impl_IsValidPlan_L1 fu p fk (w64 (i + 1))
    else
      some (.next i)
def impl_IsValidPlan (fu : Nat) (p : Plan) : Option (Bool) :=
  ((impl_IsValidNetwork fu p.Network).bind fun y =>
  if !y then some true
  else some (decide ((p.Lights.length : Int) > 12))).bind fun c4 =>
  if c4 then
    some false
  else
    (impl_IsValidPlan_L1 fu p fu 0).bind fun out => out.on some fun z =>
    some true
def impl_copyNetwork (fu : Nat) (n' : Network) : Option (Network) :=
  (app ([] : List ByteArray) n'.Nodes).bind fun l =>
  (app ([] : List Fiber) n'.Fibers).bind fun l2 =>
  some ({ Nodes := l, Fibers := l2 } : Network)
def impl_copyRoute (fu : Nat) (r' : Route) : Option (Route) :=
  (app ([] : List Int) r'.Fibers).bind fun l =>
  some ({ Start := r'.Start, Fibers := l } : Route)
def impl_copyPlan_L1 (fu : Nat) (p : Plan) : Nat → Int → List Light → Option (Int × List Light)
  | 0, _, _ => none
  | fk + 1, i, m =>
    if decide (i < (p.Lights.length : Int)) then
      (idx p.Lights i).bind fun e =>
      (impl_copyRoute fu e.Route).bind fun y2 =>
      (app m [({ Id := e.Id, Route := y2, Block := e.Block } : Light)]).bind fun al =>
      impl_copyPlan_L1 fu p fk (w64 (i + 1)) al
    else
      some (i, m)
def impl_copyPlan (fu : Nat) (p : Plan) : Option (Plan) :=
  (impl_copyNetwork fu p.Network).bind fun y =>
  (impl_copyPlan_L1 fu p fu 0 ([] : List Light)).bind fun z =>
  some ({ Network := y, Lights := z.2 } : Plan)
def impl_withLight_L1 (fu : Nat) (p : Plan) (x1 : Light) : Nat → Int → Option (Int)
  | 0, _ => none
  | fk + 1, at' =>
    (if decide (at' < (p.Lights.length : Int)) then (idx p.Lights at').bind fun e =>
    some (decide (e.Id < x1.Id))
    else some false).bind fun c8 =>
    if c8 then
      impl_withLight_L1 fu p x1 fk (w64 (at' + 1))
    else
      some at'
def impl_withLight (fu : Nat) (p : Plan) (x1 : Light) : Option (Plan) :=
  (impl_copyPlan fu p).bind fun y =>
  (impl_withLight_L1 fu p x1 fu 0).bind fun z =>
  (impl_copyRoute fu x1.Route).bind fun y2 =>
  (insl y.Lights z [({ Id := x1.Id, Route := y2, Block := x1.Block } : Light)]).bind fun l =>
  some ({ Network := y.Network, Lights := l } : Plan)
def impl_planIf (fu : Nat) (p : Plan) : Option (Plan × Bool) :=
  (impl_IsValidPlan fu p).bind fun y =>
  if !y then
    some (({ Network := ({ Nodes := [], Fibers := [] } : Network), Lights := [] } : Plan), false)
  else
    some (p, true)
def impl_AddLight (fu : Nat) (p : Plan) (x1 : Light) : Option (Plan × Bool) :=
  (impl_IsValidPlan fu p).bind fun y =>
  if !y then
    some (({ Network := ({ Nodes := [], Fibers := [] } : Network), Lights := [] } : Plan), false)
  else
    (impl_withLight fu p x1).bind fun y2 =>
    impl_planIf fu y2
def impl_lightAt_c1 (fu : Nat) (x1 : Light) (cap : Int) : Option (Bool) :=
  some (x1.Id == cap)
def slices_IndexFunc_impl_Light_impl_Light_of_lightAt_c1_L1 (fu : Nat) (s' : List Light) (cap : Int) : Nat → Int → Option (Out (Int) (Int))
  | 0, _ => none
  | fk + 1, i =>
    if decide (i < (s'.length : Int)) then
      (idx s' i).bind fun e =>
      (impl_lightAt_c1 fu e cap).bind fun y =>
      if y then
        some (.ret i)
      else
        slices_IndexFunc_impl_Light_impl_Light_of_lightAt_c1_L1 fu s' cap fk (w64 (i + 1))
    else
      some (.next i)
def slices_IndexFunc_impl_Light_impl_Light_of_lightAt_c1 (fu : Nat) (s' : List Light) (cap : Int) : Option (Int) :=
  (slices_IndexFunc_impl_Light_impl_Light_of_lightAt_c1_L1 fu s' cap fu 0).bind fun out => out.on some fun z =>
  some (-1)
def impl_lightAt (fu : Nat) (p : Plan) (id : Int) : Option (Int) :=
  (slices_IndexFunc_impl_Light_impl_Light_of_lightAt_c1 fu p.Lights id).bind fun y =>
  some y
def slices_Equal_int_int_L1 (fu : Nat) (s1 : List Int) (s2 : List Int) : Nat → Int → Option (Out (Int) (Bool))
  | 0, _ => none
  | fk + 1, i =>
    if decide (i < (s1.length : Int)) then
      (idx s1 i).bind fun e =>
      (idx s2 i).bind fun e2 =>
      if e != e2 then
        some (.ret false)
      else
        slices_Equal_int_int_L1 fu s1 s2 fk (w64 (i + 1))
    else
      some (.next i)
def slices_Equal_int_int (fu : Nat) (s1 : List Int) (s2 : List Int) : Option (Bool) :=
  if (s1.length : Int) != (s2.length : Int) then
    some false
  else
    (slices_Equal_int_int_L1 fu s1 s2 fu 0).bind fun out => out.on some fun z =>
    some true
def impl_equalLights (fu : Nat) (a' : Light) (b' : Light) : Option (Bool) :=
  (if a'.Id == b'.Id then if a'.Route.Start == b'.Route.Start then (slices_Equal_int_int fu a'.Route.Fibers b'.Route.Fibers).bind fun y =>
  if y then some (([a'.Block.First, a'.Block.Count] : List Int) == ([b'.Block.First, b'.Block.Count] : List Int))
  else some false
  else some false
  else some false).bind fun c3 =>
  some c3
def impl_LightNumber (fu : Nat) (p : Plan) (id : Int) : Option (Int × Bool) :=
  (impl_lightAt fu p id).bind fun y =>
  ((impl_IsValidPlan fu p).bind fun y2 =>
  if !y2 then some true
  else some (decide (y < 0))).bind fun c4 =>
  if c4 then
    some (0, false)
  else
    some (y, true)
def impl_withoutLight (fu : Nat) (p : Plan) (i : Int) : Option (Plan) :=
  (impl_copyPlan fu p).bind fun y =>
  (dell y.Lights i (w64 (i + 1))).bind fun l =>
  some ({ Network := y.Network, Lights := l } : Plan)
def impl_RemoveLight (fu : Nat) (p : Plan) (id : Int) : Option (Plan × Bool) :=
  (impl_LightNumber fu p id).bind fun y =>
  if !y.2 then
    some (({ Network := ({ Nodes := [], Fibers := [] } : Network), Lights := [] } : Plan), false)
  else
    (impl_withoutLight fu p y.1).bind fun y2 =>
    some (y2, true)
def impl_MoveLight (fu : Nat) (p : Plan) (id : Int) (r' : Route) (b' : Block) : Option (Plan × Bool) :=
  (impl_LightNumber fu p id).bind fun y =>
  if !y.2 then
    some (({ Network := ({ Nodes := [], Fibers := [] } : Network), Lights := [] } : Plan), false)
  else
    (impl_copyPlan fu p).bind fun y2 =>
    (impl_copyRoute fu r').bind fun y3 =>
    (idx y2.Lights y.1).bind fun e =>
    impl_planIf fu ({ Network := y2.Network, Lights := y2.Lights.set (y.1 : Int).toNat ({ Id := id, Route := y3, Block := b' } : Light) } : Plan)
def impl_ApplyAction (fu : Nat) (p : Plan) (a' : Action) : Option (Plan × Bool) :=
  if a'.Kind == 1 then
    (impl_AddLight fu p a'.Light).bind fun y =>
    some (y.1, y.2)
  else
    if a'.Kind == 2 then
      (impl_lightAt fu p a'.Light.Id).bind fun y2 =>
      (if decide (y2 ≥ 0) then (idx p.Lights y2).bind fun e =>
      (impl_equalLights fu e a'.Light).bind fun y3 =>
      some y3
      else some false).bind fun c8 =>
      if c8 then
        (impl_RemoveLight fu p a'.Light.Id).bind fun y4 =>
        some (y4.1, y4.2)
      else
        some (({ Network := ({ Nodes := [], Fibers := [] } : Network), Lights := [] } : Plan), false)
    else
      if a'.Kind == 3 then
        (impl_MoveLight fu p a'.Light.Id a'.Light.Route a'.Light.Block).bind fun y5 =>
        some (y5.1, y5.2)
      else
        some (({ Network := ({ Nodes := [], Fibers := [] } : Network), Lights := [] } : Plan), false)
def laws_eqStringS_L1 (fu : Nat) (a' : List ByteArray) (b' : List ByteArray) : Nat → Int → Option (Out (Int) (Bool))
  | 0, _ => none
  | fk + 1, i =>
    if decide (i < (a'.length : Int)) then
      (idx a' i).bind fun e =>
      (idx b' i).bind fun e2 =>
      if !(e.toList == e2.toList) then
        some (.ret false)
      else
        laws_eqStringS_L1 fu a' b' fk (w64 (i + 1))
    else
      some (.next i)
def laws_eqStringS (fu : Nat) (a' : List ByteArray) (b' : List ByteArray) : Option (Bool) :=
  if (a'.length : Int) != (b'.length : Int) then
    some false
  else
    (laws_eqStringS_L1 fu a' b' fu 0).bind fun out => out.on some fun z =>
    some true
def laws_eqFiber (fu : Nat) (a' : Fiber) (b' : Fiber) : Option (Bool) :=
  if a'.A != b'.A then
    some false
  else
    if a'.B != b'.B then
      some false
    else
      if a'.Length != b'.Length then
        some false
      else
        if a'.Risk != b'.Risk then
          some false
        else
          some true
def laws_eqFiberS_L1 (fu : Nat) (a' : List Fiber) (b' : List Fiber) : Nat → Int → Option (Out (Int) (Bool))
  | 0, _ => none
  | fk + 1, i =>
    if decide (i < (a'.length : Int)) then
      (idx a' i).bind fun e =>
      (idx b' i).bind fun e2 =>
      (laws_eqFiber fu e e2).bind fun y =>
      if !y then
        some (.ret false)
      else
        laws_eqFiberS_L1 fu a' b' fk (w64 (i + 1))
    else
      some (.next i)
def laws_eqFiberS (fu : Nat) (a' : List Fiber) (b' : List Fiber) : Option (Bool) :=
  if (a'.length : Int) != (b'.length : Int) then
    some false
  else
    (laws_eqFiberS_L1 fu a' b' fu 0).bind fun out => out.on some fun z =>
    some true
def laws_eqNetwork (fu : Nat) (a' : Network) (b' : Network) : Option (Bool) :=
  (laws_eqStringS fu a'.Nodes b'.Nodes).bind fun y =>
  if !y then
    some false
  else
    (laws_eqFiberS fu a'.Fibers b'.Fibers).bind fun y2 =>
    if !y2 then
      some false
    else
      some true
def laws_eqIntS_L1 (fu : Nat) (a' : List Int) (b' : List Int) : Nat → Int → Option (Out (Int) (Bool))
  | 0, _ => none
  | fk + 1, i =>
    if decide (i < (a'.length : Int)) then
      (idx a' i).bind fun e =>
      (idx b' i).bind fun e2 =>
      if e != e2 then
        some (.ret false)
      else
        laws_eqIntS_L1 fu a' b' fk (w64 (i + 1))
    else
      some (.next i)
def laws_eqIntS (fu : Nat) (a' : List Int) (b' : List Int) : Option (Bool) :=
  if (a'.length : Int) != (b'.length : Int) then
    some false
  else
    (laws_eqIntS_L1 fu a' b' fu 0).bind fun out => out.on some fun z =>
    some true
def laws_eqRoute (fu : Nat) (a' : Route) (b' : Route) : Option (Bool) :=
  if a'.Start != b'.Start then
    some false
  else
    (laws_eqIntS fu a'.Fibers b'.Fibers).bind fun y =>
    if !y then
      some false
    else
      some true
def laws_eqBlock (fu : Nat) (a' : Block) (b' : Block) : Option (Bool) :=
  if a'.First != b'.First then
    some false
  else
    if a'.Count != b'.Count then
      some false
    else
      some true
def laws_eqLight (fu : Nat) (a' : Light) (b' : Light) : Option (Bool) :=
  if a'.Id != b'.Id then
    some false
  else
    (laws_eqRoute fu a'.Route b'.Route).bind fun y =>
    if !y then
      some false
    else
      (laws_eqBlock fu a'.Block b'.Block).bind fun y2 =>
      if !y2 then
        some false
      else
        some true
def laws_eqLightS_L1 (fu : Nat) (a' : List Light) (b' : List Light) : Nat → Int → Option (Out (Int) (Bool))
  | 0, _ => none
  | fk + 1, i =>
    if decide (i < (a'.length : Int)) then
      (idx a' i).bind fun e =>
      (idx b' i).bind fun e2 =>
      (laws_eqLight fu e e2).bind fun y =>
      if !y then
        some (.ret false)
      else
        laws_eqLightS_L1 fu a' b' fk (w64 (i + 1))
    else
      some (.next i)
def laws_eqLightS (fu : Nat) (a' : List Light) (b' : List Light) : Option (Bool) :=
  if (a'.length : Int) != (b'.length : Int) then
    some false
  else
    (laws_eqLightS_L1 fu a' b' fu 0).bind fun out => out.on some fun z =>
    some true
def laws_eqPlan (fu : Nat) (a' : Plan) (b' : Plan) : Option (Bool) :=
  (laws_eqNetwork fu a'.Network b'.Network).bind fun y =>
  if !y then
    some false
  else
    (laws_eqLightS fu a'.Lights b'.Lights).bind fun y2 =>
    if !y2 then
      some false
    else
      some true
def laws_eqAction (fu : Nat) (a' : Action) (b' : Action) : Option (Bool) :=
  if a'.Kind != b'.Kind then
    some false
  else
    (laws_eqLight fu a'.Light b'.Light).bind fun y =>
    if !y then
      some false
    else
      some true
def laws_markText_L1 (fu : Nat) : Nat → Int → ByteArray → Option (Int × ByteArray)
  | 0, _, _ => none
  | fk + 1, k2, out' =>
    if decide (k2 > 0) then
      (rem k2 10).bind fun q =>
      (scat (bstr [(⟨wu8 (w64 (48 + q))⟩ : By)]) out').bind fun s' =>
      (quo k2 10).bind fun q2 =>
      laws_markText_L1 fu fk q2 s'
    else
      some (k2, out')
def laws_markText (fu : Nat) (k' : Int) : Option (ByteArray) :=
  if decide (k' ≤ 0) then
    some (⟨#[109, 48]⟩ : ByteArray)
  else
    (laws_markText_L1 fu fu k' ByteArray.empty).bind fun z =>
    (scat (⟨#[109]⟩ : ByteArray) z.2).bind fun s2 =>
    some s2
def laws_markStringS_L1 (fu : Nat) : Nat → List ByteArray → Int → Int → Option (List ByteArray × Int × Int)
  | 0, _, _, _ => none
  | fk + 1, a2, k2, i =>
    if decide (i < (a2.length : Int)) then
      (laws_markText fu k2).bind fun y =>
      (idx a2 i).bind fun e =>
      laws_markStringS_L1 fu fk (a2.set (i : Int).toNat y) (w64 (k2 + 1)) (w64 (i + 1))
    else
      some (a2, k2, i)
def laws_markStringS (fu : Nat) (a' : List ByteArray) (k' : Int) : Option (Int × List ByteArray) :=
  (laws_markStringS_L1 fu fu a' k' 0).bind fun z =>
  some (z.2.1, z.1)
def laws_markFiberS_L1 (fu : Nat) : Nat → List Fiber → Int → Int → Option (List Fiber × Int × Int)
  | 0, _, _, _ => none
  | fk + 1, a2, k2, i =>
    if decide (i < (a2.length : Int)) then
      (idx a2 i).bind fun e =>
      (idx (a2.set (i : Int).toNat ({ A := k2, B := e.B, Length := e.Length, Risk := e.Risk } : Fiber)) i).bind fun e2 =>
      (idx ((a2.set (i : Int).toNat ({ A := k2, B := e.B, Length := e.Length, Risk := e.Risk } : Fiber)).set (i : Int).toNat ({ A := e2.A, B := w64 (k2 + 1), Length := e2.Length, Risk := e2.Risk } : Fiber)) i).bind fun e3 =>
      (idx (((a2.set (i : Int).toNat ({ A := k2, B := e.B, Length := e.Length, Risk := e.Risk } : Fiber)).set (i : Int).toNat ({ A := e2.A, B := w64 (k2 + 1), Length := e2.Length, Risk := e2.Risk } : Fiber)).set (i : Int).toNat ({ A := e3.A, B := e3.B, Length := w64 ((w64 (k2 + 1)) + 1), Risk := e3.Risk } : Fiber)) i).bind fun e4 =>
      laws_markFiberS_L1 fu fk ((((a2.set (i : Int).toNat ({ A := k2, B := e.B, Length := e.Length, Risk := e.Risk } : Fiber)).set (i : Int).toNat ({ A := e2.A, B := w64 (k2 + 1), Length := e2.Length, Risk := e2.Risk } : Fiber)).set (i : Int).toNat ({ A := e3.A, B := e3.B, Length := w64 ((w64 (k2 + 1)) + 1), Risk := e3.Risk } : Fiber)).set (i : Int).toNat ({ A := e4.A, B := e4.B, Length := e4.Length, Risk := w64 ((w64 ((w64 (k2 + 1)) + 1)) + 1) } : Fiber)) (w64 ((w64 ((w64 ((w64 (k2 + 1)) + 1)) + 1)) + 1)) (w64 (i + 1))
    else
      some (a2, k2, i)
def laws_markFiberS (fu : Nat) (a' : List Fiber) (k' : Int) : Option (Int × List Fiber) :=
  (laws_markFiberS_L1 fu fu a' k' 0).bind fun z =>
  some (z.2.1, z.1)
def laws_markNetwork (fu : Nat) (a' : Network) (k' : Int) : Option (Int × Network) :=
  (laws_markStringS fu a'.Nodes k').bind fun y =>
  (laws_markFiberS fu a'.Fibers y.1).bind fun y2 =>
  some (y2.1, ({ Nodes := y.2, Fibers := y2.2 } : Network))
def laws_markIntS_L1 (fu : Nat) : Nat → List Int → Int → Int → Option (List Int × Int × Int)
  | 0, _, _, _ => none
  | fk + 1, a2, k2, i =>
    if decide (i < (a2.length : Int)) then
      (idx a2 i).bind fun e =>
      laws_markIntS_L1 fu fk (a2.set (i : Int).toNat k2) (w64 (k2 + 1)) (w64 (i + 1))
    else
      some (a2, k2, i)
def laws_markIntS (fu : Nat) (a' : List Int) (k' : Int) : Option (Int × List Int) :=
  (laws_markIntS_L1 fu fu a' k' 0).bind fun z =>
  some (z.2.1, z.1)
def laws_markLightS_L1 (fu : Nat) : Nat → List Light → Int → Int → Option (List Light × Int × Int)
  | 0, _, _, _ => none
  | fk + 1, a2, k2, i =>
    if decide (i < (a2.length : Int)) then
      (idx a2 i).bind fun e =>
      (idx (a2.set (i : Int).toNat ({ Id := k2, Route := e.Route, Block := e.Block } : Light)) i).bind fun e2 =>
      (idx ((a2.set (i : Int).toNat ({ Id := k2, Route := e.Route, Block := e.Block } : Light)).set (i : Int).toNat ({ Id := e2.Id, Route := ({ Start := w64 (k2 + 1), Fibers := e2.Route.Fibers } : Route), Block := e2.Block } : Light)) i).bind fun e3 =>
      (laws_markIntS fu e3.Route.Fibers (w64 ((w64 (k2 + 1)) + 1))).bind fun y =>
      (idx (((a2.set (i : Int).toNat ({ Id := k2, Route := e.Route, Block := e.Block } : Light)).set (i : Int).toNat ({ Id := e2.Id, Route := ({ Start := w64 (k2 + 1), Fibers := e2.Route.Fibers } : Route), Block := e2.Block } : Light)).set (i : Int).toNat ({ e3 with Route := { e3.Route with Fibers := y.2 } })) i).bind fun e4 =>
      (idx ((((a2.set (i : Int).toNat ({ Id := k2, Route := e.Route, Block := e.Block } : Light)).set (i : Int).toNat ({ Id := e2.Id, Route := ({ Start := w64 (k2 + 1), Fibers := e2.Route.Fibers } : Route), Block := e2.Block } : Light)).set (i : Int).toNat ({ e3 with Route := { e3.Route with Fibers := y.2 } })).set (i : Int).toNat ({ Id := e4.Id, Route := e4.Route, Block := ({ First := y.1, Count := e4.Block.Count } : Block) } : Light)) i).bind fun e5 =>
      laws_markLightS_L1 fu fk (((((a2.set (i : Int).toNat ({ Id := k2, Route := e.Route, Block := e.Block } : Light)).set (i : Int).toNat ({ Id := e2.Id, Route := ({ Start := w64 (k2 + 1), Fibers := e2.Route.Fibers } : Route), Block := e2.Block } : Light)).set (i : Int).toNat ({ e3 with Route := { e3.Route with Fibers := y.2 } })).set (i : Int).toNat ({ Id := e4.Id, Route := e4.Route, Block := ({ First := y.1, Count := e4.Block.Count } : Block) } : Light)).set (i : Int).toNat ({ Id := e5.Id, Route := e5.Route, Block := ({ First := e5.Block.First, Count := w64 (y.1 + 1) } : Block) } : Light)) (w64 ((w64 (y.1 + 1)) + 1)) (w64 (i + 1))
    else
      some (a2, k2, i)
def laws_markLightS (fu : Nat) (a' : List Light) (k' : Int) : Option (Int × List Light) :=
  (laws_markLightS_L1 fu fu a' k' 0).bind fun z =>
  some (z.2.1, z.1)
def laws_markPlan (fu : Nat) (a' : Plan) (k' : Int) : Option (Int × Plan) :=
  (laws_markNetwork fu a'.Network k').bind fun y =>
  (laws_markLightS fu a'.Lights y.1).bind fun y2 =>
  some (y2.1, ({ Network := y.2, Lights := y2.2 } : Plan))
def laws_heldStringS_L1 (fu : Nat) (a' : List ByteArray) : Nat → Int → Int → Option (Out (Int × Int) (Int))
  | 0, _, _ => none
  | fk + 1, k2, i =>
    if decide (i < (a'.length : Int)) then
      (idx a' i).bind fun e =>
      (laws_markText fu k2).bind fun y =>
      if !(e.toList == y.toList) then
        some (.ret (-1))
      else
        laws_heldStringS_L1 fu a' fk (w64 (k2 + 1)) (w64 (i + 1))
    else
      some (.next (k2, i))
def laws_heldStringS (fu : Nat) (a' : List ByteArray) (k' : Int) : Option (Int) :=
  (laws_heldStringS_L1 fu a' fu k' 0).bind fun out => out.on some fun z =>
  some z.1
def laws_heldFiberS_L1 (fu : Nat) (a' : List Fiber) : Nat → Int → Int → Option (Out (Int × Int) (Int))
  | 0, _, _ => none
  | fk + 1, k2, i =>
    if decide (i < (a'.length : Int)) then
      (idx a' i).bind fun e =>
      if e.A != k2 then
        some (.ret (-1))
      else
        (idx a' i).bind fun e2 =>
        if e2.B != (w64 (k2 + 1)) then
          some (.ret (-1))
        else
          (idx a' i).bind fun e3 =>
          if e3.Length != (w64 ((w64 (k2 + 1)) + 1)) then
            some (.ret (-1))
          else
            (idx a' i).bind fun e4 =>
            if e4.Risk != (w64 ((w64 ((w64 (k2 + 1)) + 1)) + 1)) then
              some (.ret (-1))
            else
              laws_heldFiberS_L1 fu a' fk (w64 ((w64 ((w64 ((w64 (k2 + 1)) + 1)) + 1)) + 1)) (w64 (i + 1))
    else
      some (.next (k2, i))
def laws_heldFiberS (fu : Nat) (a' : List Fiber) (k' : Int) : Option (Int) :=
  (laws_heldFiberS_L1 fu a' fu k' 0).bind fun out => out.on some fun z =>
  some z.1
def laws_heldNetwork (fu : Nat) (a' : Network) (k' : Int) : Option (Int) :=
  (laws_heldStringS fu a'.Nodes k').bind fun y =>
  if decide (y < 0) then
    some (-1)
  else
    (laws_heldFiberS fu a'.Fibers y).bind fun y2 =>
    if decide (y2 < 0) then
      some (-1)
    else
      some y2
def laws_heldIntS_L1 (fu : Nat) (a' : List Int) : Nat → Int → Int → Option (Out (Int × Int) (Int))
  | 0, _, _ => none
  | fk + 1, k2, i =>
    if decide (i < (a'.length : Int)) then
      (idx a' i).bind fun e =>
      if e != k2 then
        some (.ret (-1))
      else
        laws_heldIntS_L1 fu a' fk (w64 (k2 + 1)) (w64 (i + 1))
    else
      some (.next (k2, i))
def laws_heldIntS (fu : Nat) (a' : List Int) (k' : Int) : Option (Int) :=
  (laws_heldIntS_L1 fu a' fu k' 0).bind fun out => out.on some fun z =>
  some z.1
def laws_heldLightS_L1 (fu : Nat) (a' : List Light) : Nat → Int → Int → Option (Out (Int × Int) (Int))
  | 0, _, _ => none
  | fk + 1, k2, i =>
    if decide (i < (a'.length : Int)) then
      (idx a' i).bind fun e =>
      if e.Id != k2 then
        some (.ret (-1))
      else
        (idx a' i).bind fun e2 =>
        if e2.Route.Start != (w64 (k2 + 1)) then
          some (.ret (-1))
        else
          (idx a' i).bind fun e3 =>
          (laws_heldIntS fu e3.Route.Fibers (w64 ((w64 (k2 + 1)) + 1))).bind fun y =>
          if decide (y < 0) then
            some (.ret (-1))
          else
            (idx a' i).bind fun e4 =>
            if e4.Block.First != y then
              some (.ret (-1))
            else
              (idx a' i).bind fun e5 =>
              if e5.Block.Count != (w64 (y + 1)) then
                some (.ret (-1))
              else
                laws_heldLightS_L1 fu a' fk (w64 ((w64 (y + 1)) + 1)) (w64 (i + 1))
    else
      some (.next (k2, i))
def laws_heldLightS (fu : Nat) (a' : List Light) (k' : Int) : Option (Int) :=
  (laws_heldLightS_L1 fu a' fu k' 0).bind fun out => out.on some fun z =>
  some z.1
def laws_heldPlan (fu : Nat) (a' : Plan) (k' : Int) : Option (Int) :=
  (laws_heldNetwork fu a'.Network k').bind fun y =>
  if decide (y < 0) then
    some (-1)
  else
    (laws_heldLightS fu a'.Lights y).bind fun y2 =>
    if decide (y2 < 0) then
      some (-1)
    else
      some y2
def spec_l20Inverse (fu : Nat) (p : Plan) (a' : Action) : Option (Action) :=
  if a'.Kind == 1 then
    (spec_l9Copy fu a'.Light).bind fun y =>
    some ({ Kind := 2, Light := y } : Action)
  else
    if a'.Kind == 2 then
      (spec_l9Copy fu a'.Light).bind fun y2 =>
      some ({ Kind := 1, Light := y2 } : Action)
    else
      (spec_l9Find fu p a'.Light.Id).bind fun y3 =>
      (idx p.Lights y3).bind fun e =>
      (spec_l9Copy fu e).bind fun y4 =>
      some ({ Kind := 3, Light := y4 } : Action)
def impl_copyLight (fu : Nat) (x1 : Light) : Option (Light) :=
  (impl_copyRoute fu x1.Route).bind fun y =>
  some ({ Id := x1.Id, Route := y, Block := x1.Block } : Light)
def impl_InverseAction (fu : Nat) (p : Plan) (a' : Action) : Option (Action × Bool) :=
  (impl_ApplyAction fu p a').bind fun y =>
  if !y.2 then
    some (({ Kind := 0, Light := ({ Id := 0, Route := ({ Start := 0, Fibers := [] } : Route), Block := ({ First := 0, Count := 0 } : Block) } : Light) } : Action), false)
  else
    if a'.Kind == 1 then
      (impl_copyLight fu a'.Light).bind fun y2 =>
      some (({ Kind := 2, Light := y2 } : Action), true)
    else
      if a'.Kind == 2 then
        (impl_copyLight fu a'.Light).bind fun y3 =>
        some (({ Kind := 1, Light := y3 } : Action), true)
      else
        (impl_lightAt fu p a'.Light.Id).bind fun y4 =>
        (idx p.Lights y4).bind fun e =>
        (impl_copyLight fu e).bind fun y5 =>
        some (({ Kind := 3, Light := y5 } : Action), true)
def laws_szActionS_L1 (fu : Nat) (a' : List Action) : Nat → Int → Int → Option (Out (Int × Int) (Int))
  | 0, _, _ => none
  | fk + 1, left2, i =>
    if decide (i < (a'.length : Int)) then
      (idx a' i).bind fun e =>
      (laws_szAction fu e left2).bind fun y =>
      if decide (y < 0) then
        some (.ret (-1))
      else
        laws_szActionS_L1 fu a' fk y (w64 (i + 1))
    else
      some (.next (left2, i))
def laws_szActionS (fu : Nat) (a' : List Action) (left : Int) : Option (Int) :=
  if decide ((w64 (left - (a'.length : Int))) < 0) then
    some (-1)
  else
    (laws_szActionS_L1 fu a' fu (w64 (left - (a'.length : Int))) 0).bind fun out => out.on some fun z =>
    some z.1
def laws_toActionS_L1 (fu : Nat) (a' : List Action) : Nat → List Action → Int → Option (List Action × Int)
  | 0, _, _ => none
  | fk + 1, out', i =>
    if decide (i < (a'.length : Int)) then
      (idx a' i).bind fun e =>
      (laws_toAction fu e).bind fun y =>
      (idx out' i).bind fun e2 =>
      laws_toActionS_L1 fu a' fk (out'.set (i : Int).toNat y) (w64 (i + 1))
    else
      some (out', i)
def laws_toActionS (fu : Nat) (a' : List Action) : Option (List Action) :=
  (mk (({ Kind := 0, Light := ({ Id := 0, Route := ({ Start := 0, Fibers := [] } : Route), Block := ({ First := 0, Count := 0 } : Block) } : Light) } : Action) : Action) (a'.length : Int)).bind fun l =>
  (laws_toActionS_L1 fu a' fu l 0).bind fun z =>
  some z.1
def spec_l20All_L1 (fu : Nat) (list : List Action) : Nat → Int → List ByteArray → List Fiber → List Light → Option (Out (Int × List ByteArray × List Fiber × List Light) (Plan × Int))
  | 0, _, _, _, _ => none
  | fk + 1, i, m, m2, m3 =>
    if decide (i < (list.length : Int)) then
      (idx list i).bind fun e =>
      (spec_l20Apply fu ({ Network := ({ Nodes := m, Fibers := m2 } : Network), Lights := m3 } : Plan) e).bind fun y2 =>
      if !y2.2 then
        some (.ret (({ Network := ({ Nodes := m, Fibers := m2 } : Network), Lights := m3 } : Plan), i))
      else
        spec_l20All_L1 fu list fk (w64 (i + 1)) y2.1.Network.Nodes y2.1.Network.Fibers y2.1.Lights
    else
      some (.next (i, m, m2, m3))
def spec_l20All (fu : Nat) (p : Plan) (list : List Action) : Option (Plan × Int) :=
  (spec_l9Own fu p).bind fun y =>
  (spec_l20All_L1 fu list fu 0 y.Network.Nodes y.Network.Fibers y.Lights).bind fun out => out.on some fun z =>
  some (({ Network := ({ Nodes := z.2.1, Fibers := z.2.2.1 } : Network), Lights := z.2.2.2 } : Plan), (list.length : Int))
def impl_applied_L1 (fu : Nat) (list : List Action) : Nat → Int → List ByteArray → List Fiber → List Light → Option (Out (Int × List ByteArray × List Fiber × List Light) (Plan × Int))
  | 0, _, _, _, _ => none
  | fk + 1, i, m, m2, m3 =>
    if decide (i < (list.length : Int)) then
      (idx list i).bind fun e =>
      (impl_ApplyAction fu ({ Network := ({ Nodes := m, Fibers := m2 } : Network), Lights := m3 } : Plan) e).bind fun y2 =>
      if !y2.2 then
        some (.ret (({ Network := ({ Nodes := m, Fibers := m2 } : Network), Lights := m3 } : Plan), i))
      else
        impl_applied_L1 fu list fk (w64 (i + 1)) y2.1.Network.Nodes y2.1.Network.Fibers y2.1.Lights
    else
      some (.next (i, m, m2, m3))
def impl_applied (fu : Nat) (p : Plan) (list : List Action) : Option (Plan × Int) :=
  (impl_copyPlan fu p).bind fun y =>
  (impl_applied_L1 fu list fu 0 y.Network.Nodes y.Network.Fibers y.Lights).bind fun out => out.on some fun z =>
  some (({ Network := ({ Nodes := z.2.1, Fibers := z.2.2.1 } : Network), Lights := z.2.2.2 } : Plan), (list.length : Int))
def laws_eqActionS_L1 (fu : Nat) (a' : List Action) (b' : List Action) : Nat → Int → Option (Out (Int) (Bool))
  | 0, _ => none
  | fk + 1, i =>
    if decide (i < (a'.length : Int)) then
      (idx a' i).bind fun e =>
      (idx b' i).bind fun e2 =>
      (laws_eqAction fu e e2).bind fun y =>
      if !y then
        some (.ret false)
      else
        laws_eqActionS_L1 fu a' b' fk (w64 (i + 1))
    else
      some (.next i)
def laws_eqActionS (fu : Nat) (a' : List Action) (b' : List Action) : Option (Bool) :=
  if (a'.length : Int) != (b'.length : Int) then
    some false
  else
    (laws_eqActionS_L1 fu a' b' fu 0).bind fun out => out.on some fun z =>
    some true
def laws_markActionS_L1 (fu : Nat) : Nat → List Action → Int → Int → Option (List Action × Int × Int)
  | 0, _, _, _ => none
  | fk + 1, a2, k2, i =>
    if decide (i < (a2.length : Int)) then
      (idx a2 i).bind fun e =>
      (idx (a2.set (i : Int).toNat ({ Kind := k2, Light := e.Light } : Action)) i).bind fun e2 =>
      (idx ((a2.set (i : Int).toNat ({ Kind := k2, Light := e.Light } : Action)).set (i : Int).toNat ({ Kind := e2.Kind, Light := ({ Id := w64 (k2 + 1), Route := e2.Light.Route, Block := e2.Light.Block } : Light) } : Action)) i).bind fun e3 =>
      (idx (((a2.set (i : Int).toNat ({ Kind := k2, Light := e.Light } : Action)).set (i : Int).toNat ({ Kind := e2.Kind, Light := ({ Id := w64 (k2 + 1), Route := e2.Light.Route, Block := e2.Light.Block } : Light) } : Action)).set (i : Int).toNat ({ Kind := e3.Kind, Light := ({ Id := e3.Light.Id, Route := ({ Start := w64 ((w64 (k2 + 1)) + 1), Fibers := e3.Light.Route.Fibers } : Route), Block := e3.Light.Block } : Light) } : Action)) i).bind fun e4 =>
      (laws_markIntS fu e4.Light.Route.Fibers (w64 ((w64 ((w64 (k2 + 1)) + 1)) + 1))).bind fun y =>
      (idx ((((a2.set (i : Int).toNat ({ Kind := k2, Light := e.Light } : Action)).set (i : Int).toNat ({ Kind := e2.Kind, Light := ({ Id := w64 (k2 + 1), Route := e2.Light.Route, Block := e2.Light.Block } : Light) } : Action)).set (i : Int).toNat ({ Kind := e3.Kind, Light := ({ Id := e3.Light.Id, Route := ({ Start := w64 ((w64 (k2 + 1)) + 1), Fibers := e3.Light.Route.Fibers } : Route), Block := e3.Light.Block } : Light) } : Action)).set (i : Int).toNat ({ e4 with Light := { e4.Light with Route := { e4.Light.Route with Fibers := y.2 } } })) i).bind fun e5 =>
      (idx (((((a2.set (i : Int).toNat ({ Kind := k2, Light := e.Light } : Action)).set (i : Int).toNat ({ Kind := e2.Kind, Light := ({ Id := w64 (k2 + 1), Route := e2.Light.Route, Block := e2.Light.Block } : Light) } : Action)).set (i : Int).toNat ({ Kind := e3.Kind, Light := ({ Id := e3.Light.Id, Route := ({ Start := w64 ((w64 (k2 + 1)) + 1), Fibers := e3.Light.Route.Fibers } : Route), Block := e3.Light.Block } : Light) } : Action)).set (i : Int).toNat ({ e4 with Light := { e4.Light with Route := { e4.Light.Route with Fibers := y.2 } } })).set (i : Int).toNat ({ Kind := e5.Kind, Light := ({ Id := e5.Light.Id, Route := e5.Light.Route, Block := ({ First := y.1, Count := e5.Light.Block.Count } : Block) } : Light) } : Action)) i).bind fun e6 =>
      laws_markActionS_L1 fu fk ((((((a2.set (i : Int).toNat ({ Kind := k2, Light := e.Light } : Action)).set (i : Int).toNat ({ Kind := e2.Kind, Light := ({ Id := w64 (k2 + 1), Route := e2.Light.Route, Block := e2.Light.Block } : Light) } : Action)).set (i : Int).toNat ({ Kind := e3.Kind, Light := ({ Id := e3.Light.Id, Route := ({ Start := w64 ((w64 (k2 + 1)) + 1), Fibers := e3.Light.Route.Fibers } : Route), Block := e3.Light.Block } : Light) } : Action)).set (i : Int).toNat ({ e4 with Light := { e4.Light with Route := { e4.Light.Route with Fibers := y.2 } } })).set (i : Int).toNat ({ Kind := e5.Kind, Light := ({ Id := e5.Light.Id, Route := e5.Light.Route, Block := ({ First := y.1, Count := e5.Light.Block.Count } : Block) } : Light) } : Action)).set (i : Int).toNat ({ Kind := e6.Kind, Light := ({ Id := e6.Light.Id, Route := e6.Light.Route, Block := ({ First := e6.Light.Block.First, Count := w64 (y.1 + 1) } : Block) } : Light) } : Action)) (w64 ((w64 (y.1 + 1)) + 1)) (w64 (i + 1))
    else
      some (a2, k2, i)
def laws_markActionS (fu : Nat) (a' : List Action) (k' : Int) : Option (Int × List Action) :=
  (laws_markActionS_L1 fu fu a' k' 0).bind fun z =>
  some (z.2.1, z.1)
def laws_szChange (fu : Nat) (a' : Change) (left : Int) : Option (Int) :=
  (laws_szPlan fu a'.Plan left).bind fun y =>
  if decide (y < 0) then
    some (-1)
  else
    (laws_szActionS fu a'.Actions y).bind fun y2 =>
    if decide (y2 < 0) then
      some (-1)
    else
      (laws_szActionS fu a'.Undo y2).bind fun y3 =>
      if decide (y3 < 0) then
        some (-1)
      else
        some y3
def laws_toChange (fu : Nat) (a' : Change) : Option (Change) :=
  (laws_toPlan fu a'.Plan).bind fun y =>
  (laws_toActionS fu a'.Actions).bind fun y2 =>
  (laws_toActionS fu a'.Undo).bind fun y3 =>
  some ({ Plan := y, Actions := y2, Undo := y3, Back := a'.Back } : Change)
def spec_l20Good (fu : Nat) (c : Change) : Option (Bool) :=
  ((spec_l9Good fu c.Plan).bind fun y =>
  if !y then some true
  else if decide ((w64 ((c.Actions.length : Int) + (c.Undo.length : Int))) > 8) then some true
  else if c.Back then some (decide ((c.Actions.length : Int) > 0))
  else some false).bind fun c7 =>
  if c7 then
    some false
  else
    (spec_l20All fu c.Plan c.Undo).bind fun y2 =>
    some (y2.2 == (c.Undo.length : Int))
def spec_l20Copies_L1 (fu : Nat) (list : List Action) : Nat → List Action → Int → Option (List Action × Int)
  | 0, _, _ => none
  | fk + 1, out', i =>
    if decide (i < (list.length : Int)) then
      (idx list i).bind fun e =>
      (idx list i).bind fun e2 =>
      (spec_l9Copy fu e2.Light).bind fun y =>
      (app out' [({ Kind := e.Kind, Light := y } : Action)]).bind fun al =>
      spec_l20Copies_L1 fu list fk al (w64 (i + 1))
    else
      some (out', i)
def spec_l20Copies (fu : Nat) (list : List Action) : Option (List Action) :=
  (spec_l20Copies_L1 fu list fu ([] : List Action) 0).bind fun z =>
  some z.1
def spec_l20Step (fu : Nat) (c : Change) : Option (Change) :=
  (spec_l9Own fu c.Plan).bind fun y =>
  (spec_l20Copies fu c.Actions).bind fun y2 =>
  (spec_l20Copies fu c.Undo).bind fun y3 =>
  (if !c.Back then some (decide ((c.Actions.length : Int) > 0))
  else some false).bind fun c12 =>
  if c12 then
    (idx y2 0).bind fun e =>
    (spec_l20Apply fu y e).bind fun y4 =>
    if !y4.2 then
      some ({ Plan := y, Actions := ([] : List Action), Undo := y3, Back := true } : Change)
    else
      (spec_l20Inverse fu y e).bind fun y5 =>
      (app [y5] y3).bind fun l =>
      (sub y2 1 (y2.length : Int)).bind fun l2 =>
      some ({ Plan := y4.1, Actions := l2, Undo := l, Back := c.Back } : Change)
  else
    (if c.Back then some (decide ((c.Undo.length : Int) > 0))
    else some false).bind fun c20 =>
    if c20 then
      (idx y3 0).bind fun e2 =>
      (spec_l20Apply fu y e2).bind fun y6 =>
      (sub y3 1 (y3.length : Int)).bind fun l3 =>
      some ({ Plan := y6.1, Actions := y2, Undo := l3, Back := c.Back } : Change)
    else
      some ({ Plan := y, Actions := y2, Undo := y3, Back := c.Back } : Change)
def spec_l20State (fu : Nat) (c : Change) : Option (Int) :=
  (if !c.Back then some ((c.Actions.length : Int) == 0)
  else some false).bind fun c7 =>
  if c7 then
    some 1
  else
    (if c.Back then some ((c.Undo.length : Int) == 0)
    else some false).bind fun c8 =>
    if c8 then
      some 2
    else
      some 0
def impl_IsValidChange (fu : Nat) (c : Change) : Option (Bool) :=
  ((impl_IsValidPlan fu c.Plan).bind fun y =>
  if !y then some true
  else if decide ((w64 ((c.Actions.length : Int) + (c.Undo.length : Int))) > 8) then some true
  else if c.Back then some (decide ((c.Actions.length : Int) > 0))
  else some false).bind fun c7 =>
  if c7 then
    some false
  else
    (impl_applied fu c.Plan c.Undo).bind fun y2 =>
    some (y2.2 == (c.Undo.length : Int))
def impl_copyActions_L1 (fu : Nat) (l : List Action) : Nat → List Action → Int → Option (List Action × Int)
  | 0, _, _ => none
  | fk + 1, out', i =>
    if decide (i < (l.length : Int)) then
      (idx l i).bind fun e =>
      (impl_copyLight fu e.Light).bind fun y =>
      (app out' [({ Kind := e.Kind, Light := y } : Action)]).bind fun al =>
      impl_copyActions_L1 fu l fk al (w64 (i + 1))
    else
      some (out', i)
def impl_copyActions (fu : Nat) (l : List Action) : Option (List Action) :=
  (impl_copyActions_L1 fu l fu ([] : List Action) 0).bind fun z =>
  some z.1
def impl_copyChange (fu : Nat) (c : Change) : Option (Change) :=
  (impl_copyPlan fu c.Plan).bind fun y =>
  (impl_copyActions fu c.Actions).bind fun y2 =>
  (impl_copyActions fu c.Undo).bind fun y3 =>
  some ({ Plan := y, Actions := y2, Undo := y3, Back := c.Back } : Change)
def impl_stepped (fu : Nat) (c : Change) : Option (Change) :=
  (impl_copyChange fu c).bind fun y =>
  (if !c.Back then some (decide ((c.Actions.length : Int) > 0))
  else some false).bind fun c12 =>
  if c12 then
    (idx c.Actions 0).bind fun e =>
    (impl_InverseAction fu c.Plan e).bind fun y2 =>
    (idx c.Actions 0).bind fun e2 =>
    (impl_ApplyAction fu c.Plan e2).bind fun y3 =>
    if !y3.2 then
      some ({ Plan := y.Plan, Actions := [], Undo := y.Undo, Back := true } : Change)
    else
      (sub y.Actions 1 (y.Actions.length : Int)).bind fun cl =>
      (app [y2.1] y.Undo).bind fun al =>
      some ({ Plan := y3.1, Actions := cl, Undo := al, Back := y.Back } : Change)
  else
    (if c.Back then some (decide ((c.Undo.length : Int) > 0))
    else some false).bind fun c21 =>
    if c21 then
      (idx c.Undo 0).bind fun e3 =>
      (impl_ApplyAction fu c.Plan e3).bind fun y4 =>
      (sub y.Undo 1 (y.Undo.length : Int)).bind fun cl2 =>
      some ({ Plan := y4.1, Actions := y.Actions, Undo := cl2, Back := y.Back } : Change)
    else
      some y
def impl_stateOf (fu : Nat) (c : Change) : Option (Int) :=
  (if !c.Back then some ((c.Actions.length : Int) == 0)
  else some false).bind fun c7 =>
  if c7 then
    some 1
  else
    (if c.Back then some ((c.Undo.length : Int) == 0)
    else some false).bind fun c8 =>
    if c8 then
      some 2
    else
      some 0
def laws_eqChange (fu : Nat) (a' : Change) (b' : Change) : Option (Bool) :=
  (laws_eqPlan fu a'.Plan b'.Plan).bind fun y =>
  if !y then
    some false
  else
    (laws_eqActionS fu a'.Actions b'.Actions).bind fun y2 =>
    if !y2 then
      some false
    else
      (laws_eqActionS fu a'.Undo b'.Undo).bind fun y3 =>
      if !y3 then
        some false
      else
        if a'.Back != b'.Back then
          some false
        else
          some true
def laws_markChange (fu : Nat) (a' : Change) (k' : Int) : Option (Int × Change) :=
  (laws_markPlan fu a'.Plan k').bind fun y =>
  (laws_markActionS fu a'.Actions y.1).bind fun y2 =>
  (laws_markActionS fu a'.Undo y2.1).bind fun y3 =>
  some (y3.1, ({ Plan := y.2, Actions := y2.2, Undo := y3.2, Back := a'.Back } : Change))
def laws_heldActionS_L1 (fu : Nat) (a' : List Action) : Nat → Int → Int → Option (Out (Int × Int) (Int))
  | 0, _, _ => none
  | fk + 1, k2, i =>
    if decide (i < (a'.length : Int)) then
      (idx a' i).bind fun e =>
      if e.Kind != k2 then
        some (.ret (-1))
      else
        (idx a' i).bind fun e2 =>
        if e2.Light.Id != (w64 (k2 + 1)) then
          some (.ret (-1))
        else
          (idx a' i).bind fun e3 =>
          if e3.Light.Route.Start != (w64 ((w64 (k2 + 1)) + 1)) then
            some (.ret (-1))
          else
            (idx a' i).bind fun e4 =>
            (laws_heldIntS fu e4.Light.Route.Fibers (w64 ((w64 ((w64 (k2 + 1)) + 1)) + 1))).bind fun y =>
            if decide (y < 0) then
              some (.ret (-1))
            else
              (idx a' i).bind fun e5 =>
              if e5.Light.Block.First != y then
                some (.ret (-1))
              else
                (idx a' i).bind fun e6 =>
                if e6.Light.Block.Count != (w64 (y + 1)) then
                  some (.ret (-1))
                else
                  laws_heldActionS_L1 fu a' fk (w64 ((w64 (y + 1)) + 1)) (w64 (i + 1))
    else
      some (.next (k2, i))
def laws_heldActionS (fu : Nat) (a' : List Action) (k' : Int) : Option (Int) :=
  (laws_heldActionS_L1 fu a' fu k' 0).bind fun out => out.on some fun z =>
  some z.1
def laws_heldChange (fu : Nat) (a' : Change) (k' : Int) : Option (Int) :=
  (laws_heldPlan fu a'.Plan k').bind fun y =>
  if decide (y < 0) then
    some (-1)
  else
    (laws_heldActionS fu a'.Actions y).bind fun y2 =>
    if decide (y2 < 0) then
      some (-1)
    else
      (laws_heldActionS fu a'.Undo y2).bind fun y3 =>
      if decide (y3 < 0) then
        some (-1)
      else
        some y3
def spec_RunChange_L1 (fu : Nat) : Nat → Int → List ByteArray → List Fiber → List Light → List Action → List Action → Bool → Option (Int × List ByteArray × List Fiber × List Light × List Action × List Action × Bool)
  | 0, _, _, _, _, _, _, _ => none
  | fk + 1, steps2, m, m2, m3, m4, m5, m6 =>
    (if decide (steps2 > 0) then (spec_l20State fu ({ Plan := ({ Network := ({ Nodes := m, Fibers := m2 } : Network), Lights := m3 } : Plan), Actions := m4, Undo := m5, Back := m6 } : Change)).bind fun y6 =>
    some (y6 == 0)
    else some false).bind fun c18 =>
    if c18 then
      (spec_l20Step fu ({ Plan := ({ Network := ({ Nodes := m, Fibers := m2 } : Network), Lights := m3 } : Plan), Actions := m4, Undo := m5, Back := m6 } : Change)).bind fun y7 =>
      spec_RunChange_L1 fu fk (w64 (steps2 - 1)) y7.Plan.Network.Nodes y7.Plan.Network.Fibers y7.Plan.Lights y7.Actions y7.Undo y7.Back
    else
      some (steps2, m, m2, m3, m4, m5, m6)
def spec_RunChange (fu : Nat) (c : Change) (steps : Int) : Option (Change × Int × Bool) :=
  ((spec_l20Good fu c).bind fun y =>
  if !y then some true
  else (spec_l1In fu steps 0 20).bind fun y2 =>
  some (!y2)).bind fun c7 =>
  if c7 then
    some (({ Plan := ({ Network := ({ Nodes := [], Fibers := [] } : Network), Lights := [] } : Plan), Actions := [], Undo := [], Back := false } : Change), 0, false)
  else
    (spec_l9Own fu c.Plan).bind fun y3 =>
    (spec_l20Copies fu c.Actions).bind fun y4 =>
    (spec_l20Copies fu c.Undo).bind fun y5 =>
    (spec_RunChange_L1 fu fu steps y3.Network.Nodes y3.Network.Fibers y3.Lights y4 y5 c.Back).bind fun z =>
    (spec_l20State fu ({ Plan := ({ Network := ({ Nodes := z.2.1, Fibers := z.2.2.1 } : Network), Lights := z.2.2.2.1 } : Plan), Actions := z.2.2.2.2.1, Undo := z.2.2.2.2.2.1, Back := z.2.2.2.2.2.2 } : Change)).bind fun y8 =>
    some (({ Plan := ({ Network := ({ Nodes := z.2.1, Fibers := z.2.2.1 } : Network), Lights := z.2.2.2.1 } : Plan), Actions := z.2.2.2.2.1, Undo := z.2.2.2.2.2.1, Back := z.2.2.2.2.2.2 } : Change), y8, true)
def impl_RunChange_L1 (fu : Nat) (steps : Int) : Nat → Int → List ByteArray → List Fiber → List Light → List Action → List Action → Bool → Option (Int × List ByteArray × List Fiber × List Light × List Action × List Action × Bool)
  | 0, _, _, _, _, _, _, _ => none
  | fk + 1, i, m, m2, m3, m4, m5, m6 =>
    (if decide (i < steps) then (impl_stateOf fu ({ Plan := ({ Network := ({ Nodes := m, Fibers := m2 } : Network), Lights := m3 } : Plan), Actions := m4, Undo := m5, Back := m6 } : Change)).bind fun y4 =>
    some (y4 == 0)
    else some false).bind fun c18 =>
    if c18 then
      (impl_stepped fu ({ Plan := ({ Network := ({ Nodes := m, Fibers := m2 } : Network), Lights := m3 } : Plan), Actions := m4, Undo := m5, Back := m6 } : Change)).bind fun y5 =>
      impl_RunChange_L1 fu steps fk (w64 (i + 1)) y5.Plan.Network.Nodes y5.Plan.Network.Fibers y5.Plan.Lights y5.Actions y5.Undo y5.Back
    else
      some (i, m, m2, m3, m4, m5, m6)
def impl_RunChange (fu : Nat) (c : Change) (steps : Int) : Option (Change × Int × Bool) :=
  ((impl_IsValidChange fu c).bind fun y =>
  if !y then some true
  else (impl_within fu steps 0 20).bind fun y2 =>
  some (!y2)).bind fun c7 =>
  if c7 then
    some (({ Plan := ({ Network := ({ Nodes := [], Fibers := [] } : Network), Lights := [] } : Plan), Actions := [], Undo := [], Back := false } : Change), 0, false)
  else
    (impl_copyChange fu c).bind fun y3 =>
    (impl_RunChange_L1 fu steps fu 0 y3.Plan.Network.Nodes y3.Plan.Network.Fibers y3.Plan.Lights y3.Actions y3.Undo y3.Back).bind fun z =>
    (impl_stateOf fu ({ Plan := ({ Network := ({ Nodes := z.2.1, Fibers := z.2.2.1 } : Network), Lights := z.2.2.2.1 } : Plan), Actions := z.2.2.2.2.1, Undo := z.2.2.2.2.2.1, Back := z.2.2.2.2.2.2 } : Change)).bind fun y6 =>
    some (({ Plan := ({ Network := ({ Nodes := z.2.1, Fibers := z.2.2.1 } : Network), Lights := z.2.2.2.1 } : Plan), Actions := z.2.2.2.2.1, Undo := z.2.2.2.2.2.1, Back := z.2.2.2.2.2.2 } : Change), y6, true)
def laws_FnExactRunChange (fu : Nat) (aC : Change) (aSteps : Int) : Option (Bool) :=
  (laws_szChange fu aC 1048576).bind fun y =>
  if decide (y < 0) then
    some true
  else
    (laws_toChange fu aC).bind fun y2 =>
    (spec_RunChange fu y2 aSteps).bind fun y3 =>
    (laws_toChange fu aC).bind fun y4 =>
    (impl_RunChange fu y4 aSteps).bind fun y5 =>
    ((laws_eqChange fu y5.1 y3.1).bind fun y6 =>
    if !y6 then some true
    else if y5.2.1 != y3.2.1 then some true
    else some (y5.2.2 != y3.2.2)).bind fun c26 =>
    if c26 then
      some false
    else
      (laws_toChange fu aC).bind fun y7 =>
      (laws_eqChange fu y4 y7).bind fun y8 =>
      if !y8 then
        some false
      else
        (laws_markChange fu y4 1).bind fun y9 =>
        (if decide (y9.1 < 0) then some true
        else (laws_eqChange fu y5.1 y3.1).bind fun y10 =>
        if !y10 then some true
        else if y5.2.1 != y3.2.1 then some true
        else some (y5.2.2 != y3.2.2)).bind fun c32 =>
        if c32 then
          some false
        else
          (laws_markChange fu y5.1 1).bind fun y11 =>
          (laws_heldChange fu ({ Plan := y11.2.Plan, Actions := y11.2.Actions, Undo := y11.2.Undo, Back := y5.1.Back } : Change) 1).bind fun y12 =>
          if decide (y12 < 0) then
            some false
          else
            if y12 != y11.1 then
              some false
            else
              (laws_toChange fu aC).bind fun y13 =>
              (impl_RunChange fu y13 aSteps).bind fun y14 =>
              ((laws_eqChange fu y14.1 y3.1).bind fun y15 =>
              if !y15 then some true
              else if y14.2.1 != y3.2.1 then some true
              else some (y14.2.2 != y3.2.2)).bind fun c43 =>
              if c43 then
                some false
              else
                (laws_heldChange fu ({ Plan := y11.2.Plan, Actions := y11.2.Actions, Undo := y11.2.Undo, Back := y5.1.Back } : Change) 1).bind fun y16 =>
                if decide (y16 < 0) then
                  some false
                else
                  if y16 != y11.1 then
                    some false
                  else
                    some true
end AT
