/- The Go functions told plainly, by program (gen.py). -/
import Derived.Test.YtmokfdffnijbbaaGreatAtR
set_option linter.unusedVariables false
namespace AT
structure Fiber where
  A : Int
  B : Int
  Length : Int
  Risk : Int
  deriving DecidableEq
structure Network where
  Nodes : List ByteArray
  Fibers : List Fiber
  deriving DecidableEq
structure Route where
  Start : Int
  Fibers : List Int
  deriving DecidableEq
structure Block where
  First : Int
  Count : Int
  deriving DecidableEq
structure Light where
  Id : Int
  Route : Route
  Block : Block
  deriving DecidableEq
structure Plan where
  Network : Network
  Lights : List Light
  deriving DecidableEq
structure Request where
  Route : Route
  Count : Int
  deriving DecidableEq
structure L1CurP where
  code : List By
  at_ : Int
  seed : U64
  deriving DecidableEq
structure Action where
  Kind : Int
  Light : Light
  deriving DecidableEq
structure L20SearchP where
  list : List Action
  failed : List Bool
  deriving DecidableEq
def spec_l1In (fu : Nat) (x1 : Int) (a' : Int) (b' : Int) : Option (Bool) :=
  (if decide (x1 ≥ a') then some (decide (x1 ≤ b'))
  else some false).bind fun c =>
  some c
def spec_l2Sign (fu : Nat) (b' : By) : Option (Bool) :=
  (if decide (b'.n ≥ 97) then if decide (b'.n ≤ 122) then some true
  else if decide (b'.n ≥ 48) then some (decide (b'.n ≤ 57))
  else some false
  else if decide (b'.n ≥ 48) then some (decide (b'.n ≤ 57))
  else some false).bind fun c =>
  some c
def spec_l2Name_L1 (fu : Nat) (s' : ByteArray) : Nat → Int → Option (Out (Int) (Bool))
  | 0, _ => none
  | fk + 1, i =>
    if decide (i < (s'.size : Int)) then
      (sidx s' i).bind fun e3 =>
      (spec_l2Sign fu e3).bind fun y2 =>
      if !y2 then
        some (.ret false)
      else
        spec_l2Name_L1 fu s' fk (w64 (i + 1))
    else
      some (.next i)
def spec_l2Name (fu : Nat) (s' : ByteArray) : Option (Bool) :=
  ((spec_l1In fu (s'.size : Int) 1 8).bind fun y =>
  if !y then some true
  else (sidx s' 0).bind fun e =>
  if decide (e.n < 97) then some true
  else (sidx s' 0).bind fun e2 =>
  some (decide (e2.n > 122))).bind fun c =>
  if c then
    some false
  else
    (spec_l2Name_L1 fu s' fu 0).bind fun out => out.on some fun z =>
    some true
def spec_l2Find_L1 (fu : Nat) (list : List ByteArray) (name : ByteArray) : Nat → Int → Option (Out (Int) (Int))
  | 0, _ => none
  | fk + 1, i =>
    if decide (i < (list.length : Int)) then
      (idx list i).bind fun e =>
      if e.toList == name.toList then
        some (.ret i)
      else
        spec_l2Find_L1 fu list name fk (w64 (i + 1))
    else
      some (.next i)
def spec_l2Find (fu : Nat) (list : List ByteArray) (name : ByteArray) : Option (Int) :=
  (spec_l2Find_L1 fu list name fu 0).bind fun out => out.on some fun z =>
  some (-1)
def spec_l2Fiber (fu : Nat) (f : Fiber) (nodes : Int) : Option (Bool) :=
  ((spec_l1In fu f.A 0 (w64 (nodes - 1))).bind fun y =>
  if y then (spec_l1In fu f.B (w64 (f.A + 1)) (w64 (nodes - 1))).bind fun y2 =>
  if y2 then (spec_l1In fu f.Length 1 5000).bind fun y3 =>
  if y3 then (spec_l1In fu f.Risk 0 9).bind fun y4 =>
  some y4
  else some false
  else some false
  else some false).bind fun c =>
  some c
def spec_l2Before (fu : Nat) (f : Fiber) (g' : Fiber) : Option (Int) :=
  if f.A != g'.A then
    some (w64 (f.A - g'.A))
  else
    if f.B != g'.B then
      some (w64 (f.B - g'.B))
    else
      if f.Length != g'.Length then
        some (w64 (f.Length - g'.Length))
      else
        some (w64 (f.Risk - g'.Risk))
def spec_l2Good_L1 (fu : Nat) (n' : Network) : Nat → Int → Option (Out (Int) (Bool))
  | 0, _ => none
  | fk + 1, i =>
    if decide (i < (n'.Nodes.length : Int)) then
      ((idx n'.Nodes i).bind fun e =>
      (spec_l2Name fu e).bind fun y2 =>
      if !y2 then some true
      else (idx n'.Nodes i).bind fun e2 =>
      (spec_l2Find fu n'.Nodes e2).bind fun y3 =>
      some (y3 != i)).bind fun c4 =>
      if c4 then
        some (.ret false)
      else
        spec_l2Good_L1 fu n' fk (w64 (i + 1))
    else
      some (.next i)
def spec_l2Good_L2 (fu : Nat) (n' : Network) : Nat → Int → Option (Out (Int) (Bool))
  | 0, _ => none
  | fk + 1, i3 =>
    if decide (i3 < (n'.Fibers.length : Int)) then
      ((idx n'.Fibers i3).bind fun e3 =>
      (spec_l2Fiber fu e3 (n'.Nodes.length : Int)).bind fun y4 =>
      if !y4 then some true
      else if decide (i3 > 0) then (idx n'.Fibers (w64 (i3 - 1))).bind fun e4 =>
      (idx n'.Fibers i3).bind fun e5 =>
      (spec_l2Before fu e4 e5).bind fun y5 =>
      some (decide (y5 > 0))
      else some false).bind fun c5 =>
      if c5 then
        some (.ret false)
      else
        spec_l2Good_L2 fu n' fk (w64 (i3 + 1))
    else
      some (.next i3)
def spec_l2Good (fu : Nat) (n' : Network) : Option (Bool) :=
  ((spec_l1In fu (n'.Nodes.length : Int) 2 8).bind fun y =>
  if !y then some true
  else some (decide ((n'.Fibers.length : Int) > 14))).bind fun c3 =>
  if c3 then
    some false
  else
    (spec_l2Good_L1 fu n' fu 0).bind fun out => out.on some fun z2 =>
    (spec_l2Good_L2 fu n' fu 0).bind fun out => out.on some fun z =>
    some true
def spec_l2Other (fu : Nat) (n' : Network) (fiber : Int) (node : Int) : Option (Int) :=
  (idx n'.Fibers fiber).bind fun e =>
  if node == e.A then
    some e.B
  else
    if node == e.B then
      some e.A
    else
      some (-1)
def spec_l1Has_L1 (fu : Nat) (l : List Int) (n' : Int) : Nat → Int → Option (Out (Int) (Bool))
  | 0, _ => none
  | fk + 1, i =>
    if decide (i < (l.length : Int)) then
      (idx l i).bind fun e =>
      if e == n' then
        some (.ret true)
      else
        spec_l1Has_L1 fu l n' fk (w64 (i + 1))
    else
      some (.next i)
def spec_l1Has (fu : Nat) (l : List Int) (n' : Int) : Option (Bool) :=
  (spec_l1Has_L1 fu l n' fu 0).bind fun out => out.on some fun z =>
  some false
def spec_l4Walk_L1 (fu : Nat) (n' : Network) (r' : Route) : Nat → List Int → Int → Option (Out (List Int × Int) (List Int × Bool))
  | 0, _, _ => none
  | fk + 1, out', i =>
    if decide (i < (r'.Fibers.length : Int)) then
      (idx r'.Fibers i).bind fun e =>
      (spec_l1In fu e 0 (w64 ((n'.Fibers.length : Int) - 1))).bind fun y2 =>
      if !y2 then
        some (.ret (out', false))
      else
        (idx r'.Fibers i).bind fun e2 =>
        (idx out' (w64 ((out'.length : Int) - 1))).bind fun e3 =>
        (spec_l2Other fu n' e2 e3).bind fun y3 =>
        (if decide (y3 < 0) then some true
        else (spec_l1Has fu out' y3).bind fun y4 =>
        some y4).bind fun c6 =>
        if c6 then
          some (.ret (out', false))
        else
          (app out' [y3]).bind fun l =>
          spec_l4Walk_L1 fu n' r' fk l (w64 (i + 1))
    else
      some (.next (out', i))
def spec_l4Walk (fu : Nat) (n' : Network) (r' : Route) : Option (List Int × Bool) :=
  ((spec_l1In fu r'.Start 0 (w64 ((n'.Nodes.length : Int) - 1))).bind fun y =>
  if !y then some true
  else some ((r'.Fibers.length : Int) == 0)).bind fun c4 =>
  if c4 then
    some ([r'.Start], false)
  else
    (spec_l4Walk_L1 fu n' r' fu [r'.Start] 0).bind fun out => out.on some fun z =>
    some (z.1, true)
def spec_l4Good (fu : Nat) (n' : Network) (r' : Route) : Option (Bool) :=
  (spec_l2Good fu n').bind fun y =>
  if !y then
    some false
  else
    (spec_l4Walk fu n' r').bind fun y2 =>
    some y2.2
def spec_l4Uses_L1 (fu : Nat) (r' : Route) (group : List Int) : Nat → Int → Option (Out (Int) (Bool))
  | 0, _ => none
  | fk + 1, i =>
    if decide (i < (r'.Fibers.length : Int)) then
      (idx r'.Fibers i).bind fun e =>
      (spec_l1Has fu group e).bind fun y =>
      if y then
        some (.ret true)
      else
        spec_l4Uses_L1 fu r' group fk (w64 (i + 1))
    else
      some (.next i)
def spec_l4Uses (fu : Nat) (r' : Route) (group : List Int) : Option (Bool) :=
  (spec_l4Uses_L1 fu r' group fu 0).bind fun out => out.on some fun z =>
  some false
def spec_l8Bits (fu : Nat) (b' : Block) : Option (Int) :=
  (shl 1 (wu64 b'.Count)).bind fun q =>
  (shl (w64 (q - 1)) (wu64 b'.First)).bind fun q2 =>
  some q2
def spec_l12Conflict (fu : Nat) (a' : Request) (b' : Request) : Option (Bool) :=
  (spec_l4Uses fu a'.Route b'.Route.Fibers).bind fun y =>
  some y
def spec_l12Clique_L2 (fu : Nat) (list : List Request) (mask : Int) (i : Int) : Nat → Int → Option (Out (Int) (Int))
  | 0, _ => none
  | fk + 1, k' =>
    if decide (k' < i) then
      ((shr mask (wu64 k')).bind fun q2 =>
      if (band q2 1) == 1 then (idx list i).bind fun e2 =>
      (idx list k').bind fun e3 =>
      (spec_l12Conflict fu e2 e3).bind fun y =>
      some (!y)
      else some false).bind fun c3 =>
      if c3 then
        some (.ret (-1))
      else
        spec_l12Clique_L2 fu list mask i fk (w64 (k' + 1))
    else
      some (.next k')
def spec_l12Clique_L1 (fu : Nat) (list : List Request) (mask : Int) : Nat → Int → Int → Option (Out (Int × Int) (Int))
  | 0, _, _ => none
  | fk + 1, i, sum =>
    if decide (i < (list.length : Int)) then
      (shr mask (wu64 i)).bind fun q =>
      if (band q 1) == 0 then
        spec_l12Clique_L1 fu list mask fk (w64 (i + 1)) sum
      else
        (idx list i).bind fun e =>
        (spec_l12Clique_L2 fu list mask i fu 0).bind fun out => out.on (fun r => some (.ret r)) fun z =>
        spec_l12Clique_L1 fu list mask fk (w64 (i + 1)) (w64 (sum + e.Count))
    else
      some (.next (i, sum))
def spec_l12Clique (fu : Nat) (list : List Request) (mask : Int) : Option (Int) :=
  (spec_l12Clique_L1 fu list mask fu 0 0).bind fun out => out.on some fun z2 =>
  some z2.2
def spec_l12Bound_L1 (fu : Nat) (list : List Request) : Nat → Int → Int → Int → Option (Int × Int × Int)
  | 0, _, _, _ => none
  | fk + 1, most, best, mask =>
    (shl 1 (wu64 (list.length : Int))).bind fun q =>
    if decide (mask < q) then
      (spec_l12Clique fu list mask).bind fun y =>
      if decide (y > most) then
        spec_l12Bound_L1 fu list fk y mask (w64 (mask + 1))
      else
        spec_l12Bound_L1 fu list fk most best (w64 (mask + 1))
    else
      some (most, best, mask)
def spec_l12Bound (fu : Nat) (list : List Request) : Option (Int × Int) :=
  (spec_l12Bound_L1 fu list fu 0 0 1).bind fun z =>
  some (z.1, z.2.1)
def spec_l12Taken_L1 (fu : Nat) (list : List Request) (blocks : List Block) (i : Int) : Nat → Int → Int → Option (Int × Int)
  | 0, _, _ => none
  | fk + 1, out', k' =>
    if decide (k' < (list.length : Int)) then
      (if k' != i then (idx blocks k').bind fun e =>
      if decide (e.Count > 0) then (idx list k').bind fun e2 =>
      (idx list i).bind fun e3 =>
      (spec_l12Conflict fu e2 e3).bind fun y =>
      some y
      else some false
      else some false).bind fun c3 =>
      if c3 then
        (idx blocks k').bind fun e4 =>
        (spec_l8Bits fu e4).bind fun y2 =>
        spec_l12Taken_L1 fu list blocks i fk (bor out' y2) (w64 (k' + 1))
      else
        spec_l12Taken_L1 fu list blocks i fk out' (w64 (k' + 1))
    else
      some (out', k')
def spec_l12Taken (fu : Nat) (list : List Request) (blocks : List Block) (i : Int) : Option (Int) :=
  (spec_l12Taken_L1 fu list blocks i fu 0 0).bind fun z =>
  some z.1
def spec_l8Fits_L1 (fu : Nat) (mask : Int) (count : Int) : Nat → List Int → Int → Option (List Int × Int)
  | 0, _, _ => none
  | fk + 1, out', s' =>
    if decide ((w64 (s' + count)) ≤ 24) then
      (spec_l8Bits fu ({ First := s', Count := count } : Block)).bind fun y =>
      if (band mask y) == 0 then
        (app out' [s']).bind fun l =>
        spec_l8Fits_L1 fu mask count fk l (w64 (s' + 1))
      else
        spec_l8Fits_L1 fu mask count fk out' (w64 (s' + 1))
    else
      some (out', s')
def spec_l8Fits (fu : Nat) (mask : Int) (count : Int) : Option (List Int) :=
  (spec_l8Fits_L1 fu mask count fu ([] : List Int) 0).bind fun z =>
  some z.1
def spec_l12Extend_L1 (fu : Nat) (list : List Request) (i : Int) (height : Int) (rec_ : (List Request) → (List Block) → (Int) → (Int) → Option (Bool × List Block)) (y2 : List Int) : Nat → List Block → Int → Option (Out (List Block × Int) (Bool × List Block))
  | 0, _, _ => none
  | fk + 1, blocks2, k' =>
    (if decide (k' < (y2.length : Int)) then (idx y2 k').bind fun e2 =>
    (idx list i).bind fun e3 =>
    some (decide ((w64 (e2 + e3.Count)) ≤ height))
    else some false).bind fun c5 =>
    if c5 then
      (idx y2 k').bind fun e4 =>
      (idx list i).bind fun e5 =>
      (idx blocks2 i).bind fun e6 =>
      (rec_ list (blocks2.set (i : Int).toNat ({ First := e4, Count := e5.Count } : Block)) (w64 (i + 1)) height).bind fun y3 =>
      if y3.1 then
        some (.ret (true, y3.2))
      else
        spec_l12Extend_L1 fu list i height rec_ y2 fk y3.2 (w64 (k' + 1))
    else
      some (.next (blocks2, k'))
def spec_l12Extend_B (fu : Nat) (rec_ : (List Request) → (List Block) → (Int) → (Int) → Option (Bool × List Block)) (list : List Request) (blocks : List Block) (i : Int) (height : Int) : Option (Bool × List Block) :=
  if i == (list.length : Int) then
    some (true, blocks)
  else
    (idx list i).bind fun e =>
    (spec_l12Taken fu list blocks i).bind fun y =>
    (spec_l8Fits fu y e.Count).bind fun y2 =>
    (spec_l12Extend_L1 fu list i height rec_ y2 fu blocks 0).bind fun out => out.on some fun z =>
    (idx z.1 i).bind fun e7 =>
    some (false, z.1.set (i : Int).toNat ({ First := 0, Count := 0 } : Block))
def spec_l12Extend : Nat → (List Request) → (List Block) → (Int) → (Int) → Option (Bool × List Block)
  | 0, _, _, _, _ => none
  | fu + 1, list, blocks, i, height => spec_l12Extend_B fu (fun list blocks i height => spec_l12Extend fu list blocks i height) list blocks i height
def spec_l12Exact_L1 (fu : Nat) (list : List Request) : Nat → Int → Option (Out (Int) (List Block × Int × Bool))
  | 0, _ => none
  | fk + 1, height =>
    if decide (height ≤ 24) then
      (mk (({ First := 0, Count := 0 } : Block) : Block) (list.length : Int)).bind fun l =>
      (spec_l12Extend fu list l 0 height).bind fun y2 =>
      if y2.1 then
        some (.ret (y2.2, height, true))
      else
        spec_l12Exact_L1 fu list fk (w64 (height + 1))
    else
      some (.next height)
def spec_l12Exact (fu : Nat) (list : List Request) : Option (List Block × Int × Bool) :=
  (spec_l12Bound fu list).bind fun y =>
  (spec_l12Exact_L1 fu list fu y.1).bind fun out => out.on some fun z =>
  some (([] : List Block), 0, false)
def impl_within (fu : Nat) (n' : Int) (low : Int) (high : Int) : Option (Bool) :=
  (if decide (low ≤ n') then some (decide (n' ≤ high))
  else some false).bind fun c =>
  some c
def impl_isName_L1 (fu : Nat) (s' : ByteArray) : Nat → Int → Option (Out (Int) (Bool))
  | 0, _ => none
  | fk + 1, i =>
    if decide (i < (s'.size : Int)) then
      (sidx s' i).bind fun e =>
      (sidx s' i).bind fun e2 =>
      if decide (e.n ≥ 97) then (sidx s' i).bind fun e3 =>
      if decide (e2.n ≥ 48) then (sidx s' i).bind fun e4 =>
      (if !(decide (e3.n ≤ 122)) then if !(decide (e4.n ≤ 57)) then some true
      else some (i == 0)
      else some false).bind fun c =>
      if c then
        some (.ret false)
      else
        impl_isName_L1 fu s' fk (w64 (i + 1))
      else (if !(decide (e3.n ≤ 122)) then if !false then some true
      else some (i == 0)
      else some false).bind fun c2 =>
      if c2 then
        some (.ret false)
      else
        impl_isName_L1 fu s' fk (w64 (i + 1))
      else if decide (e2.n ≥ 48) then (sidx s' i).bind fun e5 =>
      (if !false then if !(decide (e5.n ≤ 57)) then some true
      else some (i == 0)
      else some false).bind fun c3 =>
      if c3 then
        some (.ret false)
      else
        impl_isName_L1 fu s' fk (w64 (i + 1))
      else (if !false then if !false then some true
      else some (i == 0)
      else some false).bind fun c4 =>
      if c4 then
        some (.ret false)
      else
        impl_isName_L1 fu s' fk (w64 (i + 1))
    else
      some (.next i)
def impl_isName (fu : Nat) (s' : ByteArray) : Option (Bool) :=
  (impl_isName_L1 fu s' fu 0).bind fun out => out.on some fun z =>
  (impl_within fu (s'.size : Int) 1 8).bind fun y =>
  some y
def slices_Index_string_string_L1 (fu : Nat) (s' : List ByteArray) (v : ByteArray) : Nat → Int → Option (Out (Int) (Int))
  | 0, _ => none
  | fk + 1, i =>
    if decide (i < (s'.length : Int)) then
      (idx s' i).bind fun e =>
      if v.toList == e.toList then
        some (.ret i)
      else
        slices_Index_string_string_L1 fu s' v fk (w64 (i + 1))
    else
      some (.next i)
def slices_Index_string_string (fu : Nat) (s' : List ByteArray) (v : ByteArray) : Option (Int) :=
  (slices_Index_string_string_L1 fu s' v fu 0).bind fun out => out.on some fun z =>
  some (-1)
def slices_Contains_string_string (fu : Nat) (s' : List ByteArray) (v : ByteArray) : Option (Bool) :=
  (slices_Index_string_string fu s' v).bind fun y =>
  some (decide (y ≥ 0))
def cmp_isNaN_int (fu : Nat) (x1 : Int) : Option (Bool) :=
  some (x1 != x1)
def cmp_Compare_int (fu : Nat) (x1 : Int) (y : Int) : Option (Int) :=
  (cmp_isNaN_int fu x1).bind fun y2 =>
  (cmp_isNaN_int fu y).bind fun y3 =>
  if y2 then
    if y3 then
      some 0
    else
      some (-1)
  else
    if y3 then
      some 1
    else
      if decide (x1 < y) then
        some (-1)
      else
        if decide (x1 > y) then
          some 1
        else
          some 0
def cmp_Or_int_L1 (fu : Nat) (vals : List Int) : Nat → Int → Option (Out (Int) (Int))
  | 0, _ => none
  | fk + 1, i =>
    if decide (i < (vals.length : Int)) then
      (idx vals i).bind fun e =>
      if e != 0 then
        some (.ret e)
      else
        cmp_Or_int_L1 fu vals fk (w64 (i + 1))
    else
      some (.next i)
def cmp_Or_int (fu : Nat) (vals : List Int) : Option (Int) :=
  (cmp_Or_int_L1 fu vals fu 0).bind fun out => out.on some fun z =>
  some 0
def impl_compareFibers (fu : Nat) (a' : Fiber) (b' : Fiber) : Option (Int) :=
  (cmp_Compare_int fu a'.A b'.A).bind fun y =>
  (cmp_Compare_int fu a'.B b'.B).bind fun y2 =>
  (cmp_Compare_int fu a'.Length b'.Length).bind fun y3 =>
  (cmp_Compare_int fu a'.Risk b'.Risk).bind fun y4 =>
  (cmp_Or_int fu [y, y2, y3, y4]).bind fun y5 =>
  some y5
def impl_IsValidNetwork_L1 (fu : Nat) (n' : Network) : Nat → Int → Option (Out (Int) (Bool))
  | 0, _ => none
  | fk + 1, i =>
    if decide (i < (n'.Nodes.length : Int)) then
      (idx n'.Nodes i).bind fun e =>
      ((impl_isName fu e).bind fun y =>
      if !y then some true
      else (sub n'.Nodes 0 i).bind fun l =>
      (slices_Contains_string_string fu l e).bind fun y2 =>
      some y2).bind fun c3 =>
      if c3 then
        some (.ret false)
      else
        impl_IsValidNetwork_L1 fu n' fk (w64 (i + 1))
    else
      some (.next i)
def impl_IsValidNetwork_L2 (fu : Nat) (n' : Network) : Nat → Int → Option (Out (Int) (Bool))
  | 0, _ => none
  | fk + 1, i3 =>
    if decide (i3 < (n'.Fibers.length : Int)) then
      (idx n'.Fibers i3).bind fun e2 =>
      (if decide (e2.A < 0) then some true
      else if decide (e2.A ≥ e2.B) then some true
      else if decide (e2.B ≥ (n'.Nodes.length : Int)) then some true
      else (impl_within fu e2.Length 1 5000).bind fun y3 =>
      if !y3 then some true
      else (impl_within fu e2.Risk 0 9).bind fun y4 =>
      if !y4 then some true
      else if decide (i3 > 0) then (idx n'.Fibers (w64 (i3 - 1))).bind fun e3 =>
      (impl_compareFibers fu e3 e2).bind fun y5 =>
      some (decide (y5 > 0))
      else some false).bind fun c5 =>
      if c5 then
        some (.ret false)
      else
        impl_IsValidNetwork_L2 fu n' fk (w64 (i3 + 1))
    else
      some (.next i3)
def impl_IsValidNetwork (fu : Nat) (n' : Network) : Option (Bool) :=
  (impl_IsValidNetwork_L1 fu n' fu 0).bind fun out => out.on some fun z2 =>
  (impl_IsValidNetwork_L2 fu n' fu 0).bind fun out => out.on some fun z =>
  ((impl_within fu (n'.Nodes.length : Int) 2 8).bind fun y6 =>
  if y6 then some (decide ((n'.Fibers.length : Int) ≤ 14))
  else some false).bind fun c6 =>
  some c6
def impl_otherEnd (fu : Nat) (f : Fiber) (node : Int) : Option (Int) :=
  if node == f.A then
    some f.B
  else
    if node == f.B then
      some f.A
    else
      some (-1)
def slices_Index_int_int_L1 (fu : Nat) (s' : List Int) (v : Int) : Nat → Int → Option (Out (Int) (Int))
  | 0, _ => none
  | fk + 1, i =>
    if decide (i < (s'.length : Int)) then
      (idx s' i).bind fun e =>
      if v == e then
        some (.ret i)
      else
        slices_Index_int_int_L1 fu s' v fk (w64 (i + 1))
    else
      some (.next i)
def slices_Index_int_int (fu : Nat) (s' : List Int) (v : Int) : Option (Int) :=
  (slices_Index_int_int_L1 fu s' v fu 0).bind fun out => out.on some fun z =>
  some (-1)
def slices_Contains_int_int (fu : Nat) (s' : List Int) (v : Int) : Option (Bool) :=
  (slices_Index_int_int fu s' v).bind fun y =>
  some (decide (y ≥ 0))
def impl_visited_L1 (fu : Nat) (n' : Network) (r' : Route) : Nat → List Int → Int → Int → Option (Out (List Int × Int × Int) (List Int × Bool))
  | 0, _, _, _ => none
  | fk + 1, out', at', i =>
    if decide (i < (r'.Fibers.length : Int)) then
      (idx r'.Fibers i).bind fun e =>
      (impl_within fu e 0 (w64 ((n'.Fibers.length : Int) - 1))).bind fun y2 =>
      if !y2 then
        some (.ret ([], false))
      else
        (idx n'.Fibers e).bind fun e2 =>
        (impl_otherEnd fu e2 at').bind fun y3 =>
        (if decide (y3 < 0) then some true
        else (slices_Contains_int_int fu out' y3).bind fun y4 =>
        some y4).bind fun c6 =>
        if c6 then
          some (.ret ([], false))
        else
          (app out' [y3]).bind fun l =>
          impl_visited_L1 fu n' r' fk l y3 (w64 (i + 1))
    else
      some (.next (out', at', i))
def impl_visited (fu : Nat) (n' : Network) (r' : Route) : Option (List Int × Bool) :=
  ((impl_within fu r'.Start 0 (w64 ((n'.Nodes.length : Int) - 1))).bind fun y =>
  if !y then some true
  else some ((r'.Fibers.length : Int) == 0)).bind fun c4 =>
  if c4 then
    some ([], false)
  else
    (impl_visited_L1 fu n' r' fu [r'.Start] r'.Start 0).bind fun out => out.on some fun z =>
    some (z.1, true)
def impl_IsValidBlock (fu : Nat) (b' : Block) : Option (Bool) :=
  (if decide (b'.First ≥ 0) then (impl_within fu b'.Count 1 24).bind fun y =>
  if y then some (decide (b'.First ≤ (w64 (24 - b'.Count))))
  else some false
  else some false).bind fun c =>
  some c
def impl_maskOf (fu : Nat) (b' : Block) : Option (Int) :=
  (shl 1 b'.Count).bind fun q =>
  (shl (w64 (q - 1)) b'.First).bind fun q2 =>
  some q2
def math_bits_Len64 (fu : Nat) (x1 : U64) : Option (Int) :=
  if decide (x1.n ≥ 4294967296) then
    none
  else
    if decide (x1.n ≥ 65536) then
      none
    else
      if decide (x1.n ≥ 256) then
        none
      else
        (sidx (⟨#[0, 1, 2, 2, 3, 3, 3, 3, 4, 4, 4, 4, 4, 4, 4, 4, 5, 5, 5, 5, 5, 5, 5, 5, 5, 5, 5, 5, 5, 5, 5, 5, 6, 6, 6, 6, 6, 6, 6, 6, 6, 6, 6, 6, 6, 6, 6, 6, 6, 6, 6, 6, 6, 6, 6, 6, 6, 6, 6, 6, 6, 6, 6, 6, 7, 7, 7, 7, 7, 7, 7, 7, 7, 7, 7, 7, 7, 7, 7, 7, 7, 7, 7, 7, 7, 7, 7, 7, 7, 7, 7, 7, 7, 7, 7, 7, 7, 7, 7, 7, 7, 7, 7, 7, 7, 7, 7, 7, 7, 7, 7, 7, 7, 7, 7, 7, 7, 7, 7, 7, 7, 7, 7, 7, 7, 7, 7, 7, 8, 8, 8, 8, 8, 8, 8, 8, 8, 8, 8, 8, 8, 8, 8, 8, 8, 8, 8, 8, 8, 8, 8, 8, 8, 8, 8, 8, 8, 8, 8, 8, 8, 8, 8, 8, 8, 8, 8, 8, 8, 8, 8, 8, 8, 8, 8, 8, 8, 8, 8, 8, 8, 8, 8, 8, 8, 8, 8, 8, 8, 8, 8, 8, 8, 8, 8, 8, 8, 8, 8, 8, 8, 8, 8, 8, 8, 8, 8, 8, 8, 8, 8, 8, 8, 8, 8, 8, 8, 8, 8, 8, 8, 8, 8, 8, 8, 8, 8, 8, 8, 8, 8, 8, 8, 8, 8, 8, 8, 8, 8, 8, 8, 8, 8, 8, 8, 8, 8, 8, 8, 8, 8, 8, 8, 8, 8, 8]⟩ : ByteArray) (wu8 x1.n)).bind fun e =>
        some (w64 (0 + (w64 e.n)))
def math_bits_Len (fu : Nat) (x1 : U64) : Option (Int) :=
  (math_bits_Len64 fu x1).bind fun y =>
  some y
def cmp_Less_int (fu : Nat) (x1 : Int) (y : Int) : Option (Bool) :=
  ((cmp_isNaN_int fu x1).bind fun y2 =>
  if y2 then (cmp_isNaN_int fu y).bind fun y3 =>
  if !y3 then some true
  else some (decide (x1 < y))
  else some (decide (x1 < y))).bind fun c =>
  some c
def slices_insertionSortOrdered_int_L2 (fu : Nat) (a' : Int) : Nat → List Int → Int → Option (List Int × Int)
  | 0, _, _ => none
  | fk + 1, data3, j =>
    (if decide (j > a') then (idx data3 j).bind fun e =>
    (idx data3 (w64 (j - 1))).bind fun e2 =>
    (cmp_Less_int fu e e2).bind fun y =>
    some y
    else some false).bind fun c2 =>
    if c2 then
      (idx data3 (w64 (j - 1))).bind fun e3 =>
      (idx data3 j).bind fun e4 =>
      (idx data3 j).bind fun e5 =>
      (idx (data3.set (j : Int).toNat e3) (w64 (j - 1))).bind fun e6 =>
      slices_insertionSortOrdered_int_L2 fu a' fk ((data3.set (j : Int).toNat e3).set (w64 (j - 1) : Int).toNat e4) (w64 (j - 1))
    else
      some (data3, j)
def slices_insertionSortOrdered_int_L1 (fu : Nat) (a' : Int) (b' : Int) : Nat → List Int → Int → Option (List Int × Int)
  | 0, _, _ => none
  | fk + 1, data2, i =>
    if decide (i < b') then
      (slices_insertionSortOrdered_int_L2 fu a' fu data2 i).bind fun z =>
      slices_insertionSortOrdered_int_L1 fu a' b' fk z.1 (w64 (i + 1))
    else
      some (data2, i)
def slices_insertionSortOrdered_int (fu : Nat) (data : List Int) (a' : Int) (b' : Int) : Option (List Int) :=
  (slices_insertionSortOrdered_int_L1 fu a' b' fu data (w64 (a' + 1))).bind fun z2 =>
  some z2.1
def slices_pdqsortOrdered_int_L1 (fu : Nat) (data : List Int) (a' : Int) (b' : Int) : Nat → Option (Out (Unit) (List Int))
  | 0 => none
  | fk + 1 =>
    if decide ((w64 (b' - a')) ≤ 12) then
      (slices_insertionSortOrdered_int fu data a' b').bind fun y =>
      some (.ret y)
    else
      none
def slices_pdqsortOrdered_int (fu : Nat) (data : List Int) (a' : Int) (b' : Int) (limit : Int) : Option (List Int) :=
  (slices_pdqsortOrdered_int_L1 fu data a' b' fu).bind fun out => out.on some fun z =>
  some data
def slices_Sort_int_int (fu : Nat) (x1 : List Int) : Option (List Int) :=
  (math_bits_Len fu (⟨wu64 (x1.length : Int)⟩ : U64)).bind fun y =>
  (slices_pdqsortOrdered_int fu x1 0 (x1.length : Int) y).bind fun y2 =>
  some y2
def slices_Compact_int_int_L1 (fu : Nat) (s' : List Int) : Nat → Int → Option (Out (Int) (List Int))
  | 0, _ => none
  | fk + 1, k' =>
    if decide (k' < (s'.length : Int)) then
      (idx s' k').bind fun e =>
      (idx s' (w64 (k' - 1))).bind fun e2 =>
      if e == e2 then
        none
      else
        slices_Compact_int_int_L1 fu s' fk (w64 (k' + 1))
    else
      some (.next k')
def slices_Compact_int_int (fu : Nat) (s' : List Int) : Option (List Int) :=
  if decide ((s'.length : Int) < 2) then
    some s'
  else
    (slices_Compact_int_int_L1 fu s' fu 1).bind fun out => out.on some fun z =>
    some s'
def impl_common_L1 (fu : Nat) (a' : List Int) (b' : List Int) : Nat → List Int → Int → Option (List Int × Int)
  | 0, _, _ => none
  | fk + 1, out', i =>
    if decide (i < (a'.length : Int)) then
      (idx a' i).bind fun e =>
      (slices_Contains_int_int fu b' e).bind fun y =>
      if y then
        (app out' [e]).bind fun l =>
        impl_common_L1 fu a' b' fk l (w64 (i + 1))
      else
        impl_common_L1 fu a' b' fk out' (w64 (i + 1))
    else
      some (out', i)
def impl_common (fu : Nat) (a' : List Int) (b' : List Int) : Option (List Int) :=
  (impl_common_L1 fu a' b' fu ([] : List Int) 0).bind fun z =>
  (slices_Sort_int_int fu z.1).bind fun y2 =>
  (slices_Compact_int_int fu y2).bind fun y3 =>
  some y3
def impl_IsValidRequests_c1 (fu : Nat) (x1 : Request) (cap : Network) : Option (Bool) :=
  (impl_visited fu cap x1.Route).bind fun y =>
  (if !y.2 then some true
  else (impl_within fu x1.Count 1 24).bind fun y2 =>
  some (!y2)).bind fun c5 =>
  some c5
def slices_IndexFunc_impl_Request_impl_Request_of_IsValidRequests_c1_L1 (fu : Nat) (s' : List Request) (cap : Network) : Nat → Int → Option (Out (Int) (Int))
  | 0, _ => none
  | fk + 1, i =>
    if decide (i < (s'.length : Int)) then
      (idx s' i).bind fun e =>
      (impl_IsValidRequests_c1 fu e cap).bind fun y =>
      if y then
        some (.ret i)
      else
        slices_IndexFunc_impl_Request_impl_Request_of_IsValidRequests_c1_L1 fu s' cap fk (w64 (i + 1))
    else
      some (.next i)
def slices_IndexFunc_impl_Request_impl_Request_of_IsValidRequests_c1 (fu : Nat) (s' : List Request) (cap : Network) : Option (Int) :=
  (slices_IndexFunc_impl_Request_impl_Request_of_IsValidRequests_c1_L1 fu s' cap fu 0).bind fun out => out.on some fun z =>
  some (-1)
def slices_ContainsFunc_impl_Request_impl_Request_of_IsValidRequests_c1 (fu : Nat) (s' : List Request) (cap : Network) : Option (Bool) :=
  (slices_IndexFunc_impl_Request_impl_Request_of_IsValidRequests_c1 fu s' cap).bind fun y =>
  some (decide (y ≥ 0))
def impl_IsValidRequests (fu : Nat) (n' : Network) (list : List Request) : Option (Bool) :=
  ((impl_IsValidNetwork fu n').bind fun y =>
  if y then if decide ((list.length : Int) ≤ 7) then (slices_ContainsFunc_impl_Request_impl_Request_of_IsValidRequests_c1 fu list n').bind fun y2 =>
  some (!y2)
  else some false
  else some false).bind fun c4 =>
  some c4
def impl_conflict (fu : Nat) (a' : Request) (b' : Request) : Option (Bool) :=
  (impl_common fu a'.Route.Fibers b'.Route.Fibers).bind fun y =>
  some (decide ((y.length : Int) > 0))
def impl_isClique_L2 (fu : Nat) (list : List Request) (set : Int) (i : Int) : Nat → Int → Option (Out (Int) (Bool))
  | 0, _ => none
  | fk + 1, i2 =>
    if decide (i2 < i) then
      ((shr set i).bind fun q =>
      if (band q 1) == 1 then (shr set i2).bind fun q2 =>
      if (band q2 1) == 1 then (idx list i).bind fun e =>
      (idx list i2).bind fun e2 =>
      (impl_conflict fu e e2).bind fun y =>
      some (!y)
      else some false
      else some false).bind fun c2 =>
      if c2 then
        some (.ret false)
      else
        impl_isClique_L2 fu list set i fk (w64 (i2 + 1))
    else
      some (.next i2)
def impl_isClique_L1 (fu : Nat) (list : List Request) (set : Int) : Nat → Int → Option (Out (Int) (Bool))
  | 0, _ => none
  | fk + 1, i =>
    if decide (i < (list.length : Int)) then
      (impl_isClique_L2 fu list set i fu 0).bind fun out => out.on (fun r => some (.ret r)) fun z =>
      impl_isClique_L1 fu list set fk (w64 (i + 1))
    else
      some (.next i)
def impl_isClique (fu : Nat) (list : List Request) (set : Int) : Option (Bool) :=
  (impl_isClique_L1 fu list set fu 0).bind fun out => out.on some fun z2 =>
  some true
def impl_cliqueBound_L2 (fu : Nat) (list : List Request) (i : Int) : Nat → Int → Int → Option (Int × Int)
  | 0, _, _ => none
  | fk + 1, sum, i2 =>
    if decide (i2 < (list.length : Int)) then
      (idx list i2).bind fun e =>
      (shr i i2).bind fun q2 =>
      if (band q2 1) == 1 then
        impl_cliqueBound_L2 fu list i fk (w64 (sum + e.Count)) (w64 (i2 + 1))
      else
        impl_cliqueBound_L2 fu list i fk sum (w64 (i2 + 1))
    else
      some (sum, i2)
def impl_cliqueBound_L1 (fu : Nat) (list : List Request) (q : Int) : Nat → Int → Int → Int → Option (Int × Int × Int)
  | 0, _, _, _ => none
  | fk + 1, most, i, best =>
    if decide (i < q) then
      (impl_cliqueBound_L2 fu list i fu 0 0).bind fun z =>
      (if decide (z.1 > most) then (impl_isClique fu list i).bind fun y =>
      some y
      else some false).bind fun c3 =>
      if c3 then
        impl_cliqueBound_L1 fu list q fk z.1 (w64 (i + 1)) i
      else
        impl_cliqueBound_L1 fu list q fk most (w64 (i + 1)) best
    else
      some (most, i, best)
def impl_cliqueBound (fu : Nat) (list : List Request) : Option (Int × Int) :=
  (shl 1 (list.length : Int)).bind fun q =>
  (impl_cliqueBound_L1 fu list q fu 0 0 0).bind fun z2 =>
  some (z2.1, z2.2.2)
def impl_assignedTo_c1c1 (fu : Nat) (k' : Int) (cap : Int) : Option (Bool) :=
  some (decide (k' < cap))
def impl_isFree_of_assignedTo_c1c1_L1 (fu : Nat) (list : List Request) (blocks : List Block) (i : Int) (b6 : Block) (cap : Int) : Nat → Int → Option (Out (Int) (Bool))
  | 0, _ => none
  | fk + 1, i2 =>
    if decide (i2 < (list.length : Int)) then
      (if i2 != i then (impl_assignedTo_c1c1 fu i2 cap).bind fun y =>
      if y then (idx list i).bind fun e =>
      (idx list i2).bind fun e2 =>
      (impl_conflict fu e e2).bind fun y2 =>
      if y2 then (idx blocks i2).bind fun e3 =>
      (impl_maskOf fu b6).bind fun y3 =>
      (impl_maskOf fu e3).bind fun y4 =>
      some ((band y3 y4) != 0)
      else some false
      else some false
      else some false).bind fun c3 =>
      if c3 then
        some (.ret false)
      else
        impl_isFree_of_assignedTo_c1c1_L1 fu list blocks i b6 cap fk (w64 (i2 + 1))
    else
      some (.next i2)
def impl_isFree_of_assignedTo_c1c1 (fu : Nat) (list : List Request) (blocks : List Block) (i : Int) (b6 : Block) (cap : Int) : Option (Bool) :=
  (impl_isFree_of_assignedTo_c1c1_L1 fu list blocks i b6 cap fu 0).bind fun out => out.on some fun z =>
  some true
def impl_assignedTo_c1_L1 (fu : Nat) (cap : List Block) (cap2 : List Request) (cap3 : Int) (rec_ : (List Block) → (List Request) → (Int) → Option (Bool × List Block)) : Nat → Int → List Block → Option (Out (Int × List Block) (Bool × List Block))
  | 0, _, _ => none
  | fk + 1, first, m =>
    (idx cap2 (cap.length : Int)).bind fun e =>
    if decide ((w64 (first + e.Count)) ≤ cap3) then
      (idx cap2 (cap.length : Int)).bind fun e2 =>
      (impl_isFree_of_assignedTo_c1c1 fu cap2 m (cap.length : Int) ({ First := first, Count := e2.Count } : Block) (cap.length : Int)).bind fun y =>
      if !y then
        impl_assignedTo_c1_L1 fu cap cap2 cap3 rec_ fk (w64 (first + 1)) m
      else
        (app m [({ First := first, Count := e2.Count } : Block)]).bind fun l =>
        (rec_ l cap2 cap3).bind fun y2 =>
        if y2.1 then
          some (.ret (true, y2.2))
        else
          (sub y2.2 0 (cap.length : Int)).bind fun l2 =>
          impl_assignedTo_c1_L1 fu cap cap2 cap3 rec_ fk (w64 (first + 1)) l2
    else
      some (.next (first, m))
def impl_assignedTo_c1_B (fu : Nat) (rec_ : (List Block) → (List Request) → (Int) → Option (Bool × List Block)) (cap : List Block) (cap2 : List Request) (cap3 : Int) : Option (Bool × List Block) :=
  if (cap.length : Int) == (cap2.length : Int) then
    some (true, cap)
  else
    (impl_assignedTo_c1_L1 fu cap cap2 cap3 rec_ fu 0 cap).bind fun out => out.on some fun z =>
    some (false, z.2)
def impl_assignedTo_c1 : Nat → (List Block) → (List Request) → (Int) → Option (Bool × List Block)
  | 0, _, _, _ => none
  | fu + 1, cap, cap2, cap3 => impl_assignedTo_c1_B fu (fun cap cap2 cap3 => impl_assignedTo_c1 fu cap cap2 cap3) cap cap2 cap3
def impl_assignedTo (fu : Nat) (list : List Request) (height : Int) : Option (List Block × Bool) :=
  (impl_assignedTo_c1 fu ([] : List Block) list height).bind fun y =>
  some (y.2, y.1)
def impl_AssignExact_L1 (fu : Nat) (list : List Request) : Nat → Int → Option (Out (Int) (List Block × Int × Bool))
  | 0, _ => none
  | fk + 1, height =>
    if decide (height ≤ 24) then
      (impl_assignedTo fu list height).bind fun y3 =>
      if y3.2 then
        some (.ret (y3.1, height, true))
      else
        impl_AssignExact_L1 fu list fk (w64 (height + 1))
    else
      some (.next height)
def impl_AssignExact (fu : Nat) (n' : Network) (list : List Request) : Option (List Block × Int × Bool) :=
  (impl_IsValidRequests fu n' list).bind fun y =>
  if !y then
    some ([], 0, false)
  else
    (impl_cliqueBound fu list).bind fun y2 =>
    (impl_AssignExact_L1 fu list fu y2.1).bind fun out => out.on some fun z =>
    some ([], 0, false)
def laws_vBig (fu : Nat) (code : List By) : Option (Bool) :=
  some (decide ((code.length : Int) > 65536))
def spec_l1Cur_next (fu : Nat) (c : L1CurP) : Option (Int × L1CurP) :=
  if decide (c.at_ < (c.code.length : Int)) then
    (idx c.code c.at_).bind fun e =>
    if decide ((w64 (c.at_ + 1)) ≤ (c.code.length : Int)) then
      some (w64 e.n, ({ code := c.code, at_ := w64 (c.at_ + 1), seed := (⟨wu64 ((wu64 ((wu64 (c.seed.n * 6364136223846793005)) + (wu64 (w64 e.n)))) + 897897)⟩ : U64) } : L1CurP))
    else
      (shrk 64 (wu64 ((wu64 ((wu64 (c.seed.n * 6364136223846793005)) + (wu64 (w64 e.n)))) + 897897)) 40).bind fun q =>
      some (w64 (andu64 q 255), ({ code := c.code, at_ := w64 (c.at_ + 1), seed := (⟨wu64 ((wu64 ((wu64 (c.seed.n * 6364136223846793005)) + (wu64 (w64 e.n)))) + 897897)⟩ : U64) } : L1CurP))
  else
    if decide ((w64 (c.at_ + 1)) ≤ (c.code.length : Int)) then
      some (0, ({ code := c.code, at_ := w64 (c.at_ + 1), seed := (⟨wu64 ((wu64 ((wu64 (c.seed.n * 6364136223846793005)) + (wu64 0))) + 897897)⟩ : U64) } : L1CurP))
    else
      (shrk 64 (wu64 ((wu64 ((wu64 (c.seed.n * 6364136223846793005)) + (wu64 0))) + 897897)) 40).bind fun q2 =>
      some (w64 (andu64 q2 255), ({ code := c.code, at_ := w64 (c.at_ + 1), seed := (⟨wu64 ((wu64 ((wu64 (c.seed.n * 6364136223846793005)) + (wu64 0))) + 897897)⟩ : U64) } : L1CurP))
def spec_l1Cur_pick (fu : Nat) (c : L1CurP) (n' : Int) : Option (Int × L1CurP) :=
  if decide (n' ≤ 1) then
    some (0, c)
  else
    (spec_l1Cur_next fu c).bind fun y =>
    if decide (n' > 200) then
      (spec_l1Cur_next fu y.2).bind fun y2 =>
      (rem (w64 ((w64 (y.1 * 256)) + y2.1)) n').bind fun q =>
      some (q, y2.2)
    else
      (rem y.1 n').bind fun q2 =>
      some (q2, y.2)
def spec_l1Cur_one (fu : Nat) (c : L1CurP) (n' : Int) : Option (Bool × L1CurP) :=
  (spec_l1Cur_pick fu c n').bind fun y =>
  some (y.1 == 0, y.2)
def spec_l1Least (fu : Nat) (a' : Int) (b' : Int) : Option (Int) :=
  if decide (a' < b') then
    some a'
  else
    some b'
def spec_l1Most (fu : Nat) (a' : Int) (b' : Int) : Option (Int) :=
  if decide (a' > b') then
    some a'
  else
    some b'
def spec_l1Cur_among (fu : Nat) (c : L1CurP) (list : List Int) : Option (Int × L1CurP) :=
  (spec_l1Cur_pick fu c (list.length : Int)).bind fun y =>
  (idx list y.1).bind fun e =>
  some (e, y.2)
def spec_l2Put_L1 (fu : Nat) (list : List Fiber) (f : Fiber) : Nat → Int → Option (Int)
  | 0, _ => none
  | fk + 1, i =>
    (if decide (i < (list.length : Int)) then (idx list i).bind fun e =>
    (spec_l2Before fu e f).bind fun y =>
    some (decide (y ≤ 0))
    else some false).bind fun c2 =>
    if c2 then
      spec_l2Put_L1 fu list f fk (w64 (i + 1))
    else
      some i
def spec_l2Put (fu : Nat) (list : List Fiber) (f : Fiber) : Option (List Fiber) :=
  (spec_l2Put_L1 fu list f fu 0).bind fun z =>
  (sub list 0 z).bind fun l =>
  (sub list z (list.length : Int)).bind fun l2 =>
  (app ([] : List Fiber) l).bind fun l3 =>
  (app l3 [f]).bind fun l4 =>
  (app l4 l2).bind fun l5 =>
  some l5
def spec_l1Cur_network_L1 (fu : Nat) (y : Int × L1CurP) : Nat → Int → List By → Int → U64 → List Fiber → Option (Int × List By × Int × U64 × List Fiber)
  | 0, _, _, _, _, _ => none
  | fk + 1, i, m, m2, m3, m4 =>
    if decide (i < (w64 (2 + y.1))) then
      (rem (w64 (i + 1)) (w64 (2 + y.1))).bind fun q =>
      if i == q then spec_l1Cur_network_L1 fu y fk (w64 (i + 1)) m m2 m3 m4
      else (spec_l1Cur_one fu ({ code := m, at_ := m2, seed := m3 } : L1CurP) 10).bind fun y2 =>
      if y2.1 then
        spec_l1Cur_network_L1 fu y fk (w64 (i + 1)) y2.2.code y2.2.at_ y2.2.seed m4
      else
        (spec_l1Least fu i q).bind fun y3 =>
        (spec_l1Most fu i q).bind fun y4 =>
        (spec_l1Cur_pick fu y2.2 8).bind fun y5 =>
        (spec_l1Cur_among fu y5.2 [0, 0, 0, 1, 2]).bind fun y6 =>
        (spec_l2Put fu m4 ({ A := y3, B := y4, Length := w64 (100 * (w64 (1 + y5.1))), Risk := y6.1 } : Fiber)).bind fun y7 =>
        spec_l1Cur_network_L1 fu y fk (w64 (i + 1)) y6.2.code y6.2.at_ y6.2.seed y7
    else
      some (i, m, m2, m3, m4)
def spec_l1Cur_network_L2 (fu : Nat) (y : Int × L1CurP) : Nat → Int → List Fiber → List By → Int → U64 → Option (Int × List Fiber × List By × Int × U64)
  | 0, _, _, _, _, _ => none
  | fk + 1, m9, m10, m11, m12, m13 =>
    if decide (m9 > 0) then
      (spec_l1Cur_pick fu ({ code := m11, at_ := m12, seed := m13 } : L1CurP) (w64 (2 + y.1))).bind fun y9 =>
      (spec_l1Cur_pick fu y9.2 (w64 (2 + y.1))).bind fun y10 =>
      if y9.1 != y10.1 then
        (spec_l1Least fu y9.1 y10.1).bind fun y11 =>
        (spec_l1Most fu y9.1 y10.1).bind fun y12 =>
        (spec_l1Cur_pick fu y10.2 8).bind fun y13 =>
        (spec_l1Cur_among fu y13.2 [0, 0, 0, 1, 2]).bind fun y14 =>
        (spec_l2Put fu m10 ({ A := y11, B := y12, Length := w64 (100 * (w64 (1 + y13.1))), Risk := y14.1 } : Fiber)).bind fun y15 =>
        spec_l1Cur_network_L2 fu y fk (w64 (m9 - 1)) y15 y14.2.code y14.2.at_ y14.2.seed
      else
        spec_l1Cur_network_L2 fu y fk (w64 (m9 - 1)) m10 y10.2.code y10.2.at_ y10.2.seed
    else
      some (m9, m10, m11, m12, m13)
def spec_l1Cur_network (fu : Nat) (c : L1CurP) : Option (Network × L1CurP) :=
  (spec_l1Cur_pick fu c 5).bind fun y =>
  (sub [(⟨#[97]⟩ : ByteArray), (⟨#[98]⟩ : ByteArray), (⟨#[99]⟩ : ByteArray), (⟨#[100]⟩ : ByteArray), (⟨#[101]⟩ : ByteArray), (⟨#[102]⟩ : ByteArray)] 0 (w64 (2 + y.1))).bind fun l =>
  (spec_l1Cur_network_L1 fu y fu 0 y.2.code y.2.at_ y.2.seed []).bind fun z2 =>
  (spec_l1Cur_pick fu ({ code := z2.2.1, at_ := z2.2.2.1, seed := z2.2.2.2.1 } : L1CurP) 4).bind fun y8 =>
  (spec_l1Cur_network_L2 fu y fu y8.1 z2.2.2.2.2 y8.2.code y8.2.at_ y8.2.seed).bind fun z =>
  some (({ Nodes := l, Fibers := z.2.1 } : Network), ({ code := z.2.2.1, at_ := z.2.2.2.1, seed := z.2.2.2.2 } : L1CurP))
def spec_l1Cur_linked (fu : Nat) (c : L1CurP) : Option (Network × L1CurP) :=
  (spec_l1Cur_network fu c).bind fun y =>
  if (y.1.Fibers.length : Int) == 0 then
    (app y.1.Fibers [({ A := 0, B := 1, Length := 100, Risk := 0 } : Fiber)]).bind fun l =>
    some (({ Nodes := y.1.Nodes, Fibers := l } : Network), y.2)
  else
    some (y.1, y.2)
def spec_l1Cur_route_L2 (fu : Nat) (n' : Network) (y : Int × L1CurP) (seen : List Int) : Nat → List Int → Int → Option (List Int × Int)
  | 0, _, _ => none
  | fk + 1, list, i =>
    if decide (i < (n'.Fibers.length : Int)) then
      (idx seen (w64 ((seen.length : Int) - 1))).bind fun e =>
      (spec_l2Other fu n' i e).bind fun y3 =>
      (if decide (y3 ≥ 0) then (spec_l1Has fu seen y3).bind fun y4 =>
      some (!y4)
      else some false).bind fun c10 =>
      if c10 then
        (app list [i]).bind fun l =>
        spec_l1Cur_route_L2 fu n' y seen fk l (w64 (i + 1))
      else
        spec_l1Cur_route_L2 fu n' y seen fk list (w64 (i + 1))
    else
      some (list, i)
def spec_l1Cur_route_L1 (fu : Nat) (n' : Network) (y : Int × L1CurP) : Nat → List Int → Int → List Int → List By → Int → U64 → Option (List Int × Int × List Int × List By × Int × U64)
  | 0, _, _, _, _, _, _ => none
  | fk + 1, seen, m, m2, m3, m4, m5 =>
    if decide (m > 0) then
      (spec_l1Cur_route_L2 fu n' y seen fu ([] : List Int) 0).bind fun z =>
      if (z.1.length : Int) == 0 then
        some (seen, m, m2, m3, m4, m5)
      else
        (spec_l1Cur_pick fu ({ code := m3, at_ := m4, seed := m5 } : L1CurP) (z.1.length : Int)).bind fun y5 =>
        (idx z.1 y5.1).bind fun e2 =>
        (app m2 [e2]).bind fun l2 =>
        (idx seen (w64 ((seen.length : Int) - 1))).bind fun e3 =>
        (spec_l2Other fu n' e2 e3).bind fun y6 =>
        (app seen [y6]).bind fun l3 =>
        spec_l1Cur_route_L1 fu n' y fk l3 (w64 (m - 1)) l2 y5.2.code y5.2.at_ y5.2.seed
    else
      some (seen, m, m2, m3, m4, m5)
def spec_l1Cur_route (fu : Nat) (c : L1CurP) (n' : Network) : Option (Route × L1CurP) :=
  (spec_l1Cur_pick fu c (n'.Nodes.length : Int)).bind fun y =>
  (spec_l1Cur_pick fu y.2 4).bind fun y2 =>
  (spec_l1Cur_route_L1 fu n' y fu [y.1] (w64 (1 + y2.1)) ([] : List Int) y2.2.code y2.2.at_ y2.2.seed).bind fun z2 =>
  some (({ Start := y.1, Fibers := z2.2.2.1 } : Route), ({ code := z2.2.2.2.1, at_ := z2.2.2.2.2.1, seed := z2.2.2.2.2.2 } : L1CurP))
def spec_l1Cur_routed (fu : Nat) (c : L1CurP) (n' : Network) : Option (Route × L1CurP) :=
  (spec_l1Cur_route fu c n').bind fun y =>
  if (y.1.Fibers.length : Int) == 0 then
    (idx n'.Fibers 0).bind fun e =>
    some (({ Start := e.A, Fibers := [0] } : Route), y.2)
  else
    some (y.1, y.2)
def spec_l1Cur_anyRoute (fu : Nat) (c : L1CurP) (n' : Network) : Option (Route × L1CurP) :=
  (spec_l1Cur_route fu c n').bind fun y =>
  (spec_l1Cur_pick fu y.2 16).bind fun y2 =>
  if y2.1 == 0 then
    (spec_l1Cur_pick fu y2.2 8).bind fun y3 =>
    some (({ Start := w64 (y3.1 - 1), Fibers := y.1.Fibers } : Route), y3.2)
  else
    if y2.1 == 1 then
      (spec_l1Cur_pick fu y2.2 8).bind fun y4 =>
      (app y.1.Fibers [w64 (y4.1 - 1)]).bind fun l =>
      some (({ Start := y.1.Start, Fibers := l } : Route), y4.2)
    else
      if y2.1 == 2 then
        some (({ Start := y.1.Start, Fibers := ([] : List Int) } : Route), y2.2)
      else
        if y2.1 == 3 then
          if decide ((y.1.Fibers.length : Int) > 1) then
            (idx y.1.Fibers (w64 ((y.1.Fibers.length : Int) - 1))).bind fun e =>
            (app y.1.Fibers [e]).bind fun l2 =>
            some (({ Start := y.1.Start, Fibers := l2 } : Route), y2.2)
          else
            some (y.1, y2.2)
        else
          some (y.1, y2.2)
def spec_l1Cur_requests_L1 (fu : Nat) (y : Network × L1CurP) : Nat → List Request → Int → List By → Int → U64 → Option (List Request × Int × List By × Int × U64)
  | 0, _, _, _, _, _ => none
  | fk + 1, l, k', m, m2, m3 =>
    if decide (k' > 0) then
      (spec_l1Cur_routed fu ({ code := m, at_ := m2, seed := m3 } : L1CurP) y.1).bind fun y3 =>
      (spec_l1Cur_pick fu y3.2 6).bind fun y4 =>
      (app l [({ Route := y3.1, Count := w64 (1 + y4.1) } : Request)]).bind fun l2 =>
      spec_l1Cur_requests_L1 fu y fk l2 (w64 (k' - 1)) y4.2.code y4.2.at_ y4.2.seed
    else
      some (l, k', m, m2, m3)
def spec_l1Cur_requests_L2 (fu : Nat) (e : Request) : Nat → List Request → List By → Int → U64 → Option (List Request × List By × Int × U64)
  | 0, _, _, _, _ => none
  | fk + 1, l4, m7, m8, m9 =>
    (spec_l1Cur_pick fu ({ code := m7, at_ := m8, seed := m9 } : L1CurP) 2).bind fun y10 =>
    if decide ((l4.length : Int) < (w64 (7 + y10.1))) then
      (app l4 [e]).bind fun l5 =>
      spec_l1Cur_requests_L2 fu e fk l5 y10.2.code y10.2.at_ y10.2.seed
    else
      some (l4, y10.2.code, y10.2.at_, y10.2.seed)
def spec_l1Cur_requests (fu : Nat) (c : L1CurP) : Option (Network × List Request × L1CurP) :=
  (spec_l1Cur_linked fu c).bind fun y =>
  (spec_l1Cur_pick fu y.2 6).bind fun y2 =>
  (spec_l1Cur_requests_L1 fu y fu ([] : List Request) y2.1 y2.2.code y2.2.at_ y2.2.seed).bind fun z2 =>
  if decide ((z2.1.length : Int) > 0) then (spec_l1Cur_one fu ({ code := z2.2.2.1, at_ := z2.2.2.2.1, seed := z2.2.2.2.2 } : L1CurP) 16).bind fun y5 =>
  if y5.1 then
    (spec_l1Cur_pick fu y5.2 (z2.1.length : Int)).bind fun y6 =>
    (idx z2.1 y6.1).bind fun e =>
    (spec_l1Cur_pick fu y6.2 3).bind fun y7 =>
    if y7.1 == 0 then
      (spec_l1Cur_among fu y7.2 [0, 24, 25]).bind fun y8 =>
      (idx z2.1 y6.1).bind fun e2 =>
      some (y.1, z2.1.set (y6.1 : Int).toNat ({ Route := e.Route, Count := y8.1 } : Request), y8.2)
    else
      if y7.1 == 1 then
        (spec_l1Cur_anyRoute fu y7.2 y.1).bind fun y9 =>
        (idx z2.1 y6.1).bind fun e3 =>
        some (y.1, z2.1.set (y6.1 : Int).toNat ({ Route := y9.1, Count := e.Count } : Request), y9.2)
      else
        (spec_l1Cur_requests_L2 fu e fu z2.1 y7.2.code y7.2.at_ y7.2.seed).bind fun z =>
        (idx z.1 y6.1).bind fun e4 =>
        some (y.1, z.1.set (y6.1 : Int).toNat e, ({ code := z.2.1, at_ := z.2.2.1, seed := z.2.2.2 } : L1CurP))
  else
    some (y.1, z2.1, y5.2)
  else some (y.1, z2.1, ({ code := z2.2.2.1, at_ := z2.2.2.2.1, seed := z2.2.2.2.2 } : L1CurP))
def spec_l1Cur_order_L1 (fu : Nat) (n' : Int) : Nat → List Int → Int → List By → Int → U64 → Option (List Int × Int × List By × Int × U64)
  | 0, _, _, _, _, _ => none
  | fk + 1, l, i, m, m2, m3 =>
    if decide (i < n') then
      (spec_l1Cur_pick fu ({ code := m, at_ := m2, seed := m3 } : L1CurP) (w64 (i + 1))).bind fun y =>
      (sub l 0 y.1).bind fun l2 =>
      (sub l y.1 (l.length : Int)).bind fun l3 =>
      (app ([] : List Int) l2).bind fun l4 =>
      (app l4 [i]).bind fun l5 =>
      (app l5 l3).bind fun l6 =>
      spec_l1Cur_order_L1 fu n' fk l6 (w64 (i + 1)) y.2.code y.2.at_ y.2.seed
    else
      some (l, i, m, m2, m3)
def spec_l1Cur_order (fu : Nat) (c : L1CurP) (n' : Int) : Option (List Int × L1CurP) :=
  (spec_l1Cur_order_L1 fu n' fu ([] : List Int) 0 c.code c.at_ c.seed).bind fun z =>
  if decide (n' > 0) then (spec_l1Cur_one fu ({ code := z.2.2.1, at_ := z.2.2.2.1, seed := z.2.2.2.2 } : L1CurP) 12).bind fun y2 =>
  if y2.1 then
    (spec_l1Cur_pick fu y2.2 n').bind fun y3 =>
    (spec_l1Cur_pick fu y3.2 (w64 (n' + 1))).bind fun y4 =>
    (idx z.1 y3.1).bind fun e =>
    some (z.1.set (y3.1 : Int).toNat (w64 (y4.1 - 1)), y4.2)
  else
    some (z.1, y2.2)
  else some (z.1, ({ code := z.2.2.1, at_ := z.2.2.2.1, seed := z.2.2.2.2 } : L1CurP))
def spec_DrawAssignGreedy (fu : Nat) (code : List By) : Option (Network × List Request × List Int) :=
  (spec_l1Cur_requests fu ({ code := code, at_ := 0, seed := (⟨0⟩ : U64) } : L1CurP)).bind fun y =>
  (spec_l1Cur_order fu y.2.2 (y.2.1.length : Int)).bind fun y2 =>
  some (y.1, y.2.1, y2.1)
def spec_l12Good_L1 (fu : Nat) (n' : Network) (list : List Request) : Nat → Int → Option (Out (Int) (Bool))
  | 0, _ => none
  | fk + 1, i =>
    if decide (i < (list.length : Int)) then
      ((idx list i).bind fun e =>
      (spec_l4Good fu n' e.Route).bind fun y2 =>
      if !y2 then some true
      else (idx list i).bind fun e2 =>
      (spec_l1In fu e2.Count 1 24).bind fun y3 =>
      some (!y3)).bind fun c5 =>
      if c5 then
        some (.ret false)
      else
        spec_l12Good_L1 fu n' list fk (w64 (i + 1))
    else
      some (.next i)
def spec_l12Good (fu : Nat) (n' : Network) (list : List Request) : Option (Bool) :=
  ((spec_l2Good fu n').bind fun y =>
  if !y then some true
  else some (decide ((list.length : Int) > 7))).bind fun c4 =>
  if c4 then
    some false
  else
    (spec_l12Good_L1 fu n' list fu 0).bind fun out => out.on some fun z =>
    some true
def spec_AssignExact (fu : Nat) (n' : Network) (list : List Request) : Option (List Block × Int × Bool) :=
  (spec_l12Good fu n' list).bind fun y =>
  if !y then
    some (([] : List Block), 0, false)
  else
    (spec_l12Exact fu list).bind fun y2 =>
    some (y2.1, y2.2.1, y2.2.2)
def impl_CliqueBound_L1 (fu : Nat) (list : List Request) (y2 : Int × Int) : Nat → List Int → Int → Option (List Int × Int)
  | 0, _, _ => none
  | fk + 1, out', i =>
    if decide (i < (list.length : Int)) then
      (shr y2.2 i).bind fun q =>
      if (band q 1) == 1 then
        (app out' [i]).bind fun l =>
        impl_CliqueBound_L1 fu list y2 fk l (w64 (i + 1))
      else
        impl_CliqueBound_L1 fu list y2 fk out' (w64 (i + 1))
    else
      some (out', i)
def impl_CliqueBound (fu : Nat) (n' : Network) (list : List Request) : Option (Int × List Int × Bool) :=
  (impl_IsValidRequests fu n' list).bind fun y =>
  if !y then
    some (0, [], false)
  else
    (impl_cliqueBound fu list).bind fun y2 =>
    (impl_CliqueBound_L1 fu list y2 fu ([] : List Int) 0).bind fun z =>
    some (y2.1, z.1, true)
def slices_Max_int_int_L1 (fu : Nat) (x1 : List Int) : Nat → Int → Int → Option (Int × Int)
  | 0, _, _ => none
  | fk + 1, m, i =>
    if decide (i < (x1.length : Int)) then
      (idx x1 i).bind fun e2 =>
      slices_Max_int_int_L1 fu x1 fk (gmax m e2) (w64 (i + 1))
    else
      some (m, i)
def slices_Max_int_int (fu : Nat) (x1 : List Int) : Option (Int) :=
  if decide ((x1.length : Int) < 1) then
    none
  else
    (idx x1 0).bind fun e =>
    (slices_Max_int_int_L1 fu x1 fu e 1).bind fun z =>
    some z.1
def impl_FiberBound_L2 (fu : Nat) (e : Request) : Nat → List Int → Int → Option (List Int × Int)
  | 0, _, _ => none
  | fk + 1, sums2, i2 =>
    if decide (i2 < (e.Route.Fibers.length : Int)) then
      (idx e.Route.Fibers i2).bind fun e2 =>
      (idx sums2 e2).bind fun e3 =>
      (idx sums2 e2).bind fun e4 =>
      impl_FiberBound_L2 fu e fk (sums2.set (e2 : Int).toNat (w64 (e3 + e.Count))) (w64 (i2 + 1))
    else
      some (sums2, i2)
def impl_FiberBound_L1 (fu : Nat) (list : List Request) : Nat → List Int → Int → Option (List Int × Int)
  | 0, _, _ => none
  | fk + 1, sums, i =>
    if decide (i < (list.length : Int)) then
      (idx list i).bind fun e =>
      (impl_FiberBound_L2 fu e fu sums 0).bind fun z =>
      impl_FiberBound_L1 fu list fk z.1 (w64 (i + 1))
    else
      some (sums, i)
def impl_FiberBound (fu : Nat) (n' : Network) (list : List Request) : Option (Int × Int × Bool) :=
  (impl_IsValidRequests fu n' list).bind fun y =>
  if !y then
    some (0, 0, false)
  else
    (mk (0 : Int) (n'.Fibers.length : Int)).bind fun l =>
    (impl_FiberBound_L1 fu list fu l 0).bind fun z2 =>
    if (z2.1.length : Int) == 0 then
      some (0, 0, true)
    else
      (slices_Max_int_int fu z2.1).bind fun y2 =>
      (slices_Index_int_int fu z2.1 y2).bind fun y3 =>
      some (y2, y3, true)
def spec_IsValidRequests (fu : Nat) (n' : Network) (list : List Request) : Option (Bool) :=
  (spec_l12Good fu n' list).bind fun y =>
  some y
def impl_CheckAssignment_c1 (fu : Nat) (k' : Int) (cap : Int) : Option (Bool) :=
  some (decide (k' < cap))
def impl_isFree_of_CheckAssignment_c1_L1 (fu : Nat) (list : List Request) (blocks : List Block) (i : Int) (b6 : Block) (cap : Int) : Nat → Int → Option (Out (Int) (Bool))
  | 0, _ => none
  | fk + 1, i2 =>
    if decide (i2 < (list.length : Int)) then
      (if i2 != i then (impl_CheckAssignment_c1 fu i2 cap).bind fun y =>
      if y then (idx list i).bind fun e =>
      (idx list i2).bind fun e2 =>
      (impl_conflict fu e e2).bind fun y2 =>
      if y2 then (idx blocks i2).bind fun e3 =>
      (impl_maskOf fu b6).bind fun y3 =>
      (impl_maskOf fu e3).bind fun y4 =>
      some ((band y3 y4) != 0)
      else some false
      else some false
      else some false).bind fun c3 =>
      if c3 then
        some (.ret false)
      else
        impl_isFree_of_CheckAssignment_c1_L1 fu list blocks i b6 cap fk (w64 (i2 + 1))
    else
      some (.next i2)
def impl_isFree_of_CheckAssignment_c1 (fu : Nat) (list : List Request) (blocks : List Block) (i : Int) (b6 : Block) (cap : Int) : Option (Bool) :=
  (impl_isFree_of_CheckAssignment_c1_L1 fu list blocks i b6 cap fu 0).bind fun out => out.on some fun z =>
  some true
def impl_heightOf_L1 (fu : Nat) (blocks : List Block) : Nat → Int → Int → Option (Int × Int)
  | 0, _, _ => none
  | fk + 1, height, i =>
    if decide (i < (blocks.length : Int)) then
      (idx blocks i).bind fun e =>
      impl_heightOf_L1 fu blocks fk (gmax height (w64 (e.First + e.Count))) (w64 (i + 1))
    else
      some (height, i)
def impl_heightOf (fu : Nat) (blocks : List Block) : Option (Int) :=
  (impl_heightOf_L1 fu blocks fu 0 0).bind fun z =>
  some z.1
def impl_CheckAssignment_L1 (fu : Nat) (list : List Request) (blocks : List Block) : Nat → Int → Option (Out (Int) (Int × Bool))
  | 0, _ => none
  | fk + 1, i =>
    if decide (i < (blocks.length : Int)) then
      (idx blocks i).bind fun e =>
      ((impl_IsValidBlock fu e).bind fun y2 =>
      if !y2 then some true
      else (idx list i).bind fun e2 =>
      if e.Count != e2.Count then some true
      else (impl_isFree_of_CheckAssignment_c1 fu list blocks i e i).bind fun y3 =>
      some (!y3)).bind fun c6 =>
      if c6 then
        some (.ret (0, false))
      else
        impl_CheckAssignment_L1 fu list blocks fk (w64 (i + 1))
    else
      some (.next i)
def impl_CheckAssignment (fu : Nat) (n' : Network) (list : List Request) (blocks : List Block) : Option (Int × Bool) :=
  ((impl_IsValidRequests fu n' list).bind fun y =>
  if !y then some true
  else some ((blocks.length : Int) != (list.length : Int))).bind fun c5 =>
  if c5 then
    some (0, false)
  else
    (impl_CheckAssignment_L1 fu list blocks fu 0).bind fun out => out.on some fun z =>
    (impl_heightOf fu blocks).bind fun y4 =>
    some (y4, true)
def impl_OptimalityGap (fu : Nat) (n' : Network) (list : List Request) (blocks : List Block) : Option (Int × Bool) :=
  (impl_CheckAssignment fu n' list blocks).bind fun y =>
  if !y.2 then
    some (0, false)
  else
    (impl_cliqueBound fu list).bind fun y2 =>
    some (w64 (y.1 - y2.1), true)
def slices_Clone_int_int (fu : Nat) (s' : List Int) : Option (List Int) :=
  nilCase s' (some []) ((app ([] : List Int) s').bind fun l =>
  some l)
def impl_isSet_L1 (fu : Nat) (l : List Int) (n' : Int) : Nat → Int → Option (Out (Int) (Bool))
  | 0, _ => none
  | fk + 1, i =>
    if decide (i < (l.length : Int)) then
      (idx l i).bind fun e =>
      ((impl_within fu e 0 (w64 (n' - 1))).bind fun y =>
      if !y then some true
      else if decide (i > 0) then (idx l (w64 (i - 1))).bind fun e2 =>
      some (decide (e2 ≥ e))
      else some false).bind fun c2 =>
      if c2 then
        some (.ret false)
      else
        impl_isSet_L1 fu l n' fk (w64 (i + 1))
    else
      some (.next i)
def impl_isSet (fu : Nat) (l : List Int) (n' : Int) : Option (Bool) :=
  (impl_isSet_L1 fu l n' fu 0).bind fun out => out.on some fun z =>
  some true
def impl_greedy_c1 (fu : Nat) (k' : Int) (cap : List Bool) : Option (Bool) :=
  (idx cap k').bind fun e =>
  some e
def impl_isFree_of_greedy_c1_L1 (fu : Nat) (list : List Request) (blocks : List Block) (i : Int) (b6 : Block) (cap : List Bool) : Nat → Int → Option (Out (Int) (Bool))
  | 0, _ => none
  | fk + 1, i2 =>
    if decide (i2 < (list.length : Int)) then
      (if i2 != i then (impl_greedy_c1 fu i2 cap).bind fun y =>
      if y then (idx list i).bind fun e =>
      (idx list i2).bind fun e2 =>
      (impl_conflict fu e e2).bind fun y2 =>
      if y2 then (idx blocks i2).bind fun e3 =>
      (impl_maskOf fu b6).bind fun y3 =>
      (impl_maskOf fu e3).bind fun y4 =>
      some ((band y3 y4) != 0)
      else some false
      else some false
      else some false).bind fun c4 =>
      if c4 then
        some (.ret false)
      else
        impl_isFree_of_greedy_c1_L1 fu list blocks i b6 cap fk (w64 (i2 + 1))
    else
      some (.next i2)
def impl_isFree_of_greedy_c1 (fu : Nat) (list : List Request) (blocks : List Block) (i : Int) (b6 : Block) (cap : List Bool) : Option (Bool) :=
  (impl_isFree_of_greedy_c1_L1 fu list blocks i b6 cap fu 0).bind fun out => out.on some fun z =>
  some true
def impl_greedy_L2 (fu : Nat) (list : List Request) (e : Int) : Nat → List Block → Int → List Bool → Option (Out (List Block × Int × List Bool) (List Block × Bool))
  | 0, _, _, _ => none
  | fk + 1, blocks2, first, m2 =>
    (idx m2 e).bind fun e2 =>
    if !e2 then
      (idx list e).bind fun e3 =>
      (impl_IsValidBlock fu ({ First := first, Count := e3.Count } : Block)).bind fun y =>
      if !y then
        some (.ret ([], false))
      else
        (impl_isFree_of_greedy_c1 fu list blocks2 e ({ First := first, Count := e3.Count } : Block) m2).bind fun y2 =>
        if y2 then
          (idx blocks2 e).bind fun e4 =>
          (idx m2 e).bind fun e5 =>
          impl_greedy_L2 fu list e fk (blocks2.set (e : Int).toNat ({ First := first, Count := e3.Count } : Block)) (w64 (first + 1)) (m2.set (e : Int).toNat true)
        else
          impl_greedy_L2 fu list e fk blocks2 (w64 (first + 1)) m2
    else
      some (.next (blocks2, first, m2))
def impl_greedy_L1 (fu : Nat) (list : List Request) (order : List Int) : Nat → List Block → Int → List Bool → Option (Out (List Block × Int × List Bool) (List Block × Bool))
  | 0, _, _, _ => none
  | fk + 1, blocks, i, m =>
    if decide (i < (order.length : Int)) then
      (idx order i).bind fun e =>
      (impl_greedy_L2 fu list e fu blocks 0 m).bind fun out => out.on (fun r => some (.ret r)) fun z =>
      impl_greedy_L1 fu list order fk z.1 (w64 (i + 1)) z.2.2
    else
      some (.next (blocks, i, m))
def impl_greedy (fu : Nat) (list : List Request) (order : List Int) : Option (List Block × Bool) :=
  (mk (({ First := 0, Count := 0 } : Block) : Block) (list.length : Int)).bind fun l =>
  (mk (false : Bool) (list.length : Int)).bind fun l2 =>
  (impl_greedy_L1 fu list order fu l 0 l2).bind fun out => out.on some fun z2 =>
  some (z2.1, true)
def impl_AssignGreedy (fu : Nat) (n' : Network) (list : List Request) (order : List Int) : Option (List Block × Int × Bool) :=
  (slices_Clone_int_int fu order).bind fun y =>
  (slices_Sort_int_int fu y).bind fun y2 =>
  ((impl_IsValidRequests fu n' list).bind fun y3 =>
  if !y3 then some true
  else if (order.length : Int) != (list.length : Int) then some true
  else (impl_isSet fu y2 (list.length : Int)).bind fun y4 =>
  some (!y4)).bind fun c6 =>
  if c6 then
    some ([], 0, false)
  else
    (impl_greedy fu list order).bind fun y5 =>
    if !y5.2 then
      some ([], 0, false)
    else
      (impl_heightOf fu y5.1).bind fun y6 =>
      some (y5.1, y6, true)
def spec_l12Order_L1 (fu : Nat) (order : List Int) (k' : Int) : Nat → Int → Option (Out (Int) (Bool))
  | 0, _ => none
  | fk + 1, i =>
    if decide (i < (order.length : Int)) then
      ((idx order i).bind fun e =>
      (spec_l1In fu e 0 (w64 (k' - 1))).bind fun y =>
      if !y then some true
      else (sub order 0 i).bind fun l =>
      (idx order i).bind fun e2 =>
      (spec_l1Has fu l e2).bind fun y2 =>
      some y2).bind fun c2 =>
      if c2 then
        some (.ret false)
      else
        spec_l12Order_L1 fu order k' fk (w64 (i + 1))
    else
      some (.next i)
def spec_l12Order (fu : Nat) (order : List Int) (k' : Int) : Option (Bool) :=
  (spec_l12Order_L1 fu order k' fu 0).bind fun out => out.on some fun z =>
  some ((order.length : Int) == k')
def spec_l12Height_L1 (fu : Nat) (blocks : List Block) : Nat → Int → Int → Option (Int × Int)
  | 0, _, _ => none
  | fk + 1, out', i =>
    if decide (i < (blocks.length : Int)) then
      (idx blocks i).bind fun e =>
      (idx blocks i).bind fun e2 =>
      (spec_l1Most fu out' (w64 (e.First + e2.Count))).bind fun y =>
      spec_l12Height_L1 fu blocks fk y (w64 (i + 1))
    else
      some (out', i)
def spec_l12Height (fu : Nat) (blocks : List Block) : Option (Int) :=
  (spec_l12Height_L1 fu blocks fu 0 0).bind fun z =>
  some z.1
def spec_l12Greedy_L1 (fu : Nat) (list : List Request) (order : List Int) : Nat → List Block → Int → Option (Out (List Block × Int) (List Block × Int × Bool))
  | 0, _, _ => none
  | fk + 1, blocks, m =>
    if decide (m < (order.length : Int)) then
      (idx order m).bind fun e =>
      (idx list e).bind fun e2 =>
      (spec_l12Taken fu list blocks e).bind fun y =>
      (spec_l8Fits fu y e2.Count).bind fun y2 =>
      if (y2.length : Int) == 0 then
        some (.ret (([] : List Block), 0, false))
      else
        (idx y2 0).bind fun e3 =>
        (idx list e).bind fun e4 =>
        (idx blocks e).bind fun e5 =>
        spec_l12Greedy_L1 fu list order fk (blocks.set (e : Int).toNat ({ First := e3, Count := e4.Count } : Block)) (w64 (m + 1))
    else
      some (.next (blocks, m))
def spec_l12Greedy (fu : Nat) (list : List Request) (order : List Int) : Option (List Block × Int × Bool) :=
  (mk (({ First := 0, Count := 0 } : Block) : Block) (list.length : Int)).bind fun l =>
  (spec_l12Greedy_L1 fu list order fu l 0).bind fun out => out.on some fun z =>
  (spec_l12Height fu z.1).bind fun y3 =>
  some (z.1, y3, true)
def spec_AssignGreedy (fu : Nat) (n' : Network) (list : List Request) (order : List Int) : Option (List Block × Int × Bool) :=
  ((spec_l12Good fu n' list).bind fun y =>
  if !y then some true
  else (spec_l12Order fu order (list.length : Int)).bind fun y2 =>
  some (!y2)).bind fun c5 =>
  if c5 then
    some (([] : List Block), 0, false)
  else
    (spec_l12Greedy fu list order).bind fun y3 =>
    some (y3.1, y3.2.1, y3.2.2)
def laws_FnExact_L1 (fu : Nat) (y2 : Network × List Request × List Int) (y5 : Int × List Int × Bool) : Nat → Int → Int → Option (Int × Int)
  | 0, _, _ => none
  | fk + 1, sum, i =>
    if decide (i < (y5.2.1.length : Int)) then
      (idx y5.2.1 i).bind fun e =>
      (idx y2.2.1 e).bind fun e2 =>
      laws_FnExact_L1 fu y2 y5 fk (w64 (sum + e2.Count)) (w64 (i + 1))
    else
      some (sum, i)
def laws_FnExact (fu : Nat) (code : List By) : Option (Bool) :=
  (laws_vBig fu code).bind fun y =>
  if y then
    some true
  else
    (spec_DrawAssignGreedy fu code).bind fun y2 =>
    (impl_AssignExact fu y2.1 y2.2.1).bind fun y3 =>
    (spec_AssignExact fu y2.1 y2.2.1).bind fun y4 =>
    (if y3.2.1 != y4.2.1 then some true
    else some (y3.2.2 != y4.2.2)).bind fun c8 =>
    if c8 then
      some false
    else
      (impl_CliqueBound fu y2.1 y2.2.1).bind fun y5 =>
      (impl_FiberBound fu y2.1 y2.2.1).bind fun y6 =>
      ((spec_IsValidRequests fu y2.1 y2.2.1).bind fun y7 =>
      if y5.2.2 != y7 then some true
      else if y6.2.2 != y5.2.2 then some true
      else some (decide (y6.1 > y5.1))).bind fun c10 =>
      if c10 then
        some false
      else
        (laws_FnExact_L1 fu y2 y5 fu 0 0).bind fun z =>
        if z.1 != y5.1 then
          some false
        else
          if !y3.2.2 then
            some ((y3.1.length : Int) == 0)
          else
            (impl_CheckAssignment fu y2.1 y2.2.1 y3.1).bind fun y8 =>
            (impl_OptimalityGap fu y2.1 y2.2.1 y3.1).bind fun y9 =>
            (if !y8.2 then some true
            else if !y9.2 then some true
            else if y8.1 != y3.2.1 then some true
            else if y9.1 != (w64 (y3.2.1 - y5.1)) then some true
            else some (decide (y9.1 < 0))).bind fun c12 =>
            if c12 then
              some false
            else
              (impl_AssignGreedy fu y2.1 y2.2.1 y2.2.2).bind fun y10 =>
              (spec_AssignGreedy fu y2.1 y2.2.1 y2.2.2).bind fun y11 =>
              (if y10.2.1 != y11.2.1 then some true
              else some (y10.2.2 != y11.2.2)).bind fun c15 =>
              if c15 then
                some false
              else
                (impl_CheckAssignment fu y2.1 y2.2.1 y10.1).bind fun y12 =>
                (if !y10.2.2 then some true
                else if y12.2 then if y12.1 == y10.2.1 then some (decide (y10.2.1 ≥ y3.2.1))
                else some false
                else some false).bind fun c16 =>
                some c16
end AT
