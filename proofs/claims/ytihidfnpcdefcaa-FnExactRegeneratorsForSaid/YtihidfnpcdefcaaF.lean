/- The Go functions told plainly, by program (gen.py). -/
import Derived.Test.YtihidfnpcdefcaaAtP4
set_option linter.unusedVariables false
namespace AT
structure Fiber where
  A : Int
  B : Int
  Length : Int
  Risk : Int
  deriving DecidableEq
structure Network where
  Nodes : List ByteArray
  Fibers : List Fiber
  deriving DecidableEq
structure Route where
  Start : Int
  Fibers : List Int
  deriving DecidableEq

/- loop.example/g00897/laws.szStringS -/
def laws_szStringS_L1 (fu : Nat) (a' : List ByteArray) : Nat → Int → Int → Option (Out (Int × Int) (Int))
  | 0, _, _ => none
  | fk + 1, left2, i =>
    if decide (i < (a'.length : Int)) then
      (idx a' i).bind fun e =>
      if decide ((w64 (left2 - (e.size : Int))) < 0) then
        some (.ret (-1))
      else
        laws_szStringS_L1 fu a' fk (w64 (left2 - (e.size : Int))) (w64 (i + 1))
    else
      some (.next (left2, i))
def laws_szStringS (fu : Nat) (a' : List ByteArray) (left : Int) : Option (Int) :=
  if decide ((w64 (left - (a'.length : Int))) < 0) then
    some (-1)
  else
    (laws_szStringS_L1 fu a' fu (w64 (left - (a'.length : Int))) 0).bind fun out => out.on some fun z =>
    some z.1

/- loop.example/g00897/laws.szFiberS -/
def laws_szFiberS (fu : Nat) (a' : List Fiber) (left : Int) : Option (Int) :=
  if decide ((w64 (left - (a'.length : Int))) < 0) then
    some (-1)
  else
    some (w64 (left - (a'.length : Int)))

/- loop.example/g00897/laws.szNetwork -/
def laws_szNetwork (fu : Nat) (a' : Network) (left : Int) : Option (Int) :=
  (laws_szStringS fu a'.Nodes left).bind fun y =>
  if decide (y < 0) then
    some (-1)
  else
    (laws_szFiberS fu a'.Fibers y).bind fun y2 =>
    if decide (y2 < 0) then
      some (-1)
    else
      some y2

/- loop.example/g00897/laws.szIntS -/
def laws_szIntS (fu : Nat) (a' : List Int) (left : Int) : Option (Int) :=
  if decide ((w64 (left - (a'.length : Int))) < 0) then
    some (-1)
  else
    some (w64 (left - (a'.length : Int)))

/- loop.example/g00897/laws.szRoute -/
def laws_szRoute (fu : Nat) (a' : Route) (left : Int) : Option (Int) :=
  (laws_szIntS fu a'.Fibers left).bind fun y =>
  if decide (y < 0) then
    some (-1)
  else
    some y

/- loop.example/g00897/laws.toStringS -/
def laws_toStringS_L1 (fu : Nat) (a' : List ByteArray) : Nat → List ByteArray → Int → Option (List ByteArray × Int)
  | 0, _, _ => none
  | fk + 1, out', i =>
    if decide (i < (a'.length : Int)) then
      (idx a' i).bind fun e =>
      (idx out' i).bind fun e2 =>
      laws_toStringS_L1 fu a' fk (out'.set (i).toNat e) (w64 (i + 1))
    else
      some (out', i)
def laws_toStringS (fu : Nat) (a' : List ByteArray) : Option (List ByteArray) :=
  (mk (ByteArray.empty : ByteArray) (a'.length : Int)).bind fun l =>
  (laws_toStringS_L1 fu a' fu l 0).bind fun z =>
  some z.1

/- loop.example/g00897/laws.toFiber -/
def laws_toFiber (fu : Nat) (a' : Fiber) : Option (Fiber) :=
  some a'

/- loop.example/g00897/laws.toFiberS -/
def laws_toFiberS_L1 (fu : Nat) (a' : List Fiber) : Nat → List Fiber → Int → Option (List Fiber × Int)
  | 0, _, _ => none
  | fk + 1, out', i =>
    if decide (i < (a'.length : Int)) then
      (idx a' i).bind fun e =>
      (laws_toFiber fu e).bind fun y =>
      (idx out' i).bind fun e2 =>
      laws_toFiberS_L1 fu a' fk (out'.set (i).toNat y) (w64 (i + 1))
    else
      some (out', i)
def laws_toFiberS (fu : Nat) (a' : List Fiber) : Option (List Fiber) :=
  (mk (({ A := 0, B := 0, Length := 0, Risk := 0 } : Fiber) : Fiber) (a'.length : Int)).bind fun l =>
  (laws_toFiberS_L1 fu a' fu l 0).bind fun z =>
  some z.1

/- loop.example/g00897/laws.toNetwork -/
def laws_toNetwork (fu : Nat) (a' : Network) : Option (Network) :=
  (laws_toStringS fu a'.Nodes).bind fun y =>
  (laws_toFiberS fu a'.Fibers).bind fun y2 =>
  some ({ Nodes := y, Fibers := y2 } : Network)

/- loop.example/g00897/laws.toIntS -/
def laws_toIntS_L1 (fu : Nat) (a' : List Int) : Nat → List Int → Int → Option (List Int × Int)
  | 0, _, _ => none
  | fk + 1, out', i =>
    if decide (i < (a'.length : Int)) then
      (idx a' i).bind fun e =>
      (idx out' i).bind fun e2 =>
      laws_toIntS_L1 fu a' fk (out'.set (i).toNat e) (w64 (i + 1))
    else
      some (out', i)
def laws_toIntS (fu : Nat) (a' : List Int) : Option (List Int) :=
  (mk (0 : Int) (a'.length : Int)).bind fun l =>
  (laws_toIntS_L1 fu a' fu l 0).bind fun z =>
  some z.1

/- loop.example/g00897/laws.toRoute -/
def laws_toRoute (fu : Nat) (a' : Route) : Option (Route) :=
  (laws_toIntS fu a'.Fibers).bind fun y =>
  some ({ Start := a'.Start, Fibers := y } : Route)

/- loop.example/g00897/spec.l1In -/
def spec_l1In (fu : Nat) (x1 : Int) (a' : Int) (b' : Int) : Option (Bool) :=
  (if decide (x1 ≥ a') then some (decide (x1 ≤ b'))
  else some false).bind fun c =>
  some c

/- loop.example/g00897/spec.l2Sign -/
def spec_l2Sign (fu : Nat) (b' : By) : Option (Bool) :=
  (if decide (b'.n ≥ 97) then if decide (b'.n ≤ 122) then some true
  else if decide (b'.n ≥ 48) then some (decide (b'.n ≤ 57))
  else some false
  else if decide (b'.n ≥ 48) then some (decide (b'.n ≤ 57))
  else some false).bind fun c =>
  some c

/- loop.example/g00897/spec.l2Name -/
def spec_l2Name_L1 (fu : Nat) (s' : ByteArray) : Nat → Int → Option (Out (Int) (Bool))
  | 0, _ => none
  | fk + 1, i =>
    if decide (i < (s'.size : Int)) then
      (sidx s' i).bind fun e3 =>
      (spec_l2Sign fu e3).bind fun y2 =>
      if !y2 then
        some (.ret false)
      else
        spec_l2Name_L1 fu s' fk (w64 (i + 1))
    else
      some (.next i)
def spec_l2Name (fu : Nat) (s' : ByteArray) : Option (Bool) :=
  ((spec_l1In fu (s'.size : Int) 1 8).bind fun y =>
  if !y then some true
  else (sidx s' 0).bind fun e =>
  if decide (e.n < 97) then some true
  else (sidx s' 0).bind fun e2 =>
  some (decide (e2.n > 122))).bind fun c =>
  if c then
    some false
  else
    (spec_l2Name_L1 fu s' fu 0).bind fun out => out.on some fun z =>
    some true

/- loop.example/g00897/spec.l2Find -/
def spec_l2Find_L1 (fu : Nat) (list : List ByteArray) (name : ByteArray) : Nat → Int → Option (Out (Int) (Int))
  | 0, _ => none
  | fk + 1, i =>
    if decide (i < (list.length : Int)) then
      (idx list i).bind fun e =>
      if e.toList == name.toList then
        some (.ret i)
      else
        spec_l2Find_L1 fu list name fk (w64 (i + 1))
    else
      some (.next i)
def spec_l2Find (fu : Nat) (list : List ByteArray) (name : ByteArray) : Option (Int) :=
  (spec_l2Find_L1 fu list name fu 0).bind fun out => out.on some fun z =>
  some (-1)

/- loop.example/g00897/spec.l2Fiber -/
def spec_l2Fiber (fu : Nat) (f : Fiber) (nodes : Int) : Option (Bool) :=
  ((spec_l1In fu f.A 0 (w64 (nodes - 1))).bind fun y =>
  if y then (spec_l1In fu f.B (w64 (f.A + 1)) (w64 (nodes - 1))).bind fun y2 =>
  if y2 then (spec_l1In fu f.Length 1 5000).bind fun y3 =>
  if y3 then (spec_l1In fu f.Risk 0 9).bind fun y4 =>
  some y4
  else some false
  else some false
  else some false).bind fun c =>
  some c

/- loop.example/g00897/spec.l2Before -/
def spec_l2Before (fu : Nat) (f : Fiber) (g' : Fiber) : Option (Int) :=
  if f.A != g'.A then
    some (w64 (f.A - g'.A))
  else
    if f.B != g'.B then
      some (w64 (f.B - g'.B))
    else
      if f.Length != g'.Length then
        some (w64 (f.Length - g'.Length))
      else
        some (w64 (f.Risk - g'.Risk))

/- loop.example/g00897/spec.l2Good -/
def spec_l2Good_L1 (fu : Nat) (n' : Network) : Nat → Int → Option (Out (Int) (Bool))
  | 0, _ => none
  | fk + 1, i =>
    if decide (i < (n'.Nodes.length : Int)) then
      ((idx n'.Nodes i).bind fun e =>
      (spec_l2Name fu e).bind fun y2 =>
      if !y2 then some true
      else (idx n'.Nodes i).bind fun e2 =>
      (spec_l2Find fu n'.Nodes e2).bind fun y3 =>
      some (y3 != i)).bind fun c4 =>
      if c4 then
        some (.ret false)
      else
        spec_l2Good_L1 fu n' fk (w64 (i + 1))
    else
      some (.next i)
def spec_l2Good_L2 (fu : Nat) (n' : Network) : Nat → Int → Option (Out (Int) (Bool))
  | 0, _ => none
  | fk + 1, i3 =>
    if decide (i3 < (n'.Fibers.length : Int)) then
      ((idx n'.Fibers i3).bind fun e3 =>
      (spec_l2Fiber fu e3 (n'.Nodes.length : Int)).bind fun y4 =>
      if !y4 then some true
      else if decide (i3 > 0) then (idx n'.Fibers (w64 (i3 - 1))).bind fun e4 =>
      (idx n'.Fibers i3).bind fun e5 =>
      (spec_l2Before fu e4 e5).bind fun y5 =>
      some (decide (y5 > 0))
      else some false).bind fun c5 =>
      if c5 then
        some (.ret false)
      else
        spec_l2Good_L2 fu n' fk (w64 (i3 + 1))
    else
      some (.next i3)
def spec_l2Good (fu : Nat) (n' : Network) : Option (Bool) :=
  ((spec_l1In fu (n'.Nodes.length : Int) 2 8).bind fun y =>
  if !y then some true
  else some (decide ((n'.Fibers.length : Int) > 14))).bind fun c3 =>
  if c3 then
    some false
  else
    (spec_l2Good_L1 fu n' fu 0).bind fun out => out.on some fun z2 =>
    (spec_l2Good_L2 fu n' fu 0).bind fun out => out.on some fun z =>
    some true

/- loop.example/g00897/spec.l2Other -/
def spec_l2Other (fu : Nat) (n' : Network) (fiber : Int) (node : Int) : Option (Int) :=
  (idx n'.Fibers fiber).bind fun e =>
  if node == e.A then
    some e.B
  else
    if node == e.B then
      some e.A
    else
      some (-1)

/- loop.example/g00897/spec.l1Has -/
def spec_l1Has_L1 (fu : Nat) (l : List Int) (n' : Int) : Nat → Int → Option (Out (Int) (Bool))
  | 0, _ => none
  | fk + 1, i =>
    if decide (i < (l.length : Int)) then
      (idx l i).bind fun e =>
      if e == n' then
        some (.ret true)
      else
        spec_l1Has_L1 fu l n' fk (w64 (i + 1))
    else
      some (.next i)
def spec_l1Has (fu : Nat) (l : List Int) (n' : Int) : Option (Bool) :=
  (spec_l1Has_L1 fu l n' fu 0).bind fun out => out.on some fun z =>
  some false

/- loop.example/g00897/spec.l4Walk -/
def spec_l4Walk_L1 (fu : Nat) (n' : Network) (r' : Route) : Nat → List Int → Int → Option (Out (List Int × Int) (List Int × Bool))
  | 0, _, _ => none
  | fk + 1, out', i =>
    if decide (i < (r'.Fibers.length : Int)) then
      (idx r'.Fibers i).bind fun e =>
      (spec_l1In fu e 0 (w64 ((n'.Fibers.length : Int) - 1))).bind fun y2 =>
      if !y2 then
        some (.ret (out', false))
      else
        (idx r'.Fibers i).bind fun e2 =>
        (idx out' (w64 ((out'.length : Int) - 1))).bind fun e3 =>
        (spec_l2Other fu n' e2 e3).bind fun y3 =>
        (if decide (y3 < 0) then some true
        else (spec_l1Has fu out' y3).bind fun y4 =>
        some y4).bind fun c6 =>
        if c6 then
          some (.ret (out', false))
        else
          (app out' [y3]).bind fun l =>
          spec_l4Walk_L1 fu n' r' fk l (w64 (i + 1))
    else
      some (.next (out', i))
def spec_l4Walk (fu : Nat) (n' : Network) (r' : Route) : Option (List Int × Bool) :=
  ((spec_l1In fu r'.Start 0 (w64 ((n'.Nodes.length : Int) - 1))).bind fun y =>
  if !y then some true
  else some ((r'.Fibers.length : Int) == 0)).bind fun c4 =>
  if c4 then
    some ([r'.Start], false)
  else
    (spec_l4Walk_L1 fu n' r' fu [r'.Start] 0).bind fun out => out.on some fun z =>
    some (z.1, true)

/- loop.example/g00897/spec.l4Good -/
def spec_l4Good (fu : Nat) (n' : Network) (r' : Route) : Option (Bool) :=
  (spec_l2Good fu n').bind fun y =>
  if !y then
    some false
  else
    (spec_l4Walk fu n' r').bind fun y2 =>
    some y2.2

/- loop.example/g00897/spec.l4Nodes -/
def spec_l4Nodes (fu : Nat) (n' : Network) (r' : Route) : Option (List Int) :=
  (spec_l4Walk fu n' r').bind fun y =>
  some y.1

/- loop.example/g00897/spec.RegeneratorsFor -/
def spec_RegeneratorsFor_L1 (fu : Nat) (n' : Network) (r' : Route) (reach : Int) (y3 : List Int) : Nat → List Int → Int → Int → Option (Out (List Int × Int × Int) (List Int × Bool))
  | 0, _, _, _ => none
  | fk + 1, out', sum, i =>
    if decide (i < (r'.Fibers.length : Int)) then
      (idx r'.Fibers i).bind fun e =>
      (idx n'.Fibers e).bind fun e2 =>
      if decide (e2.Length > reach) then
        some (.ret (([] : List Int), false))
      else
        if decide ((w64 (sum + e2.Length)) > reach) then
          (idx y3 i).bind fun e3 =>
          (app out' [e3]).bind fun l =>
          spec_RegeneratorsFor_L1 fu n' r' reach y3 fk l (w64 (0 + e2.Length)) (w64 (i + 1))
        else
          spec_RegeneratorsFor_L1 fu n' r' reach y3 fk out' (w64 (sum + e2.Length)) (w64 (i + 1))
    else
      some (.next (out', sum, i))
def spec_RegeneratorsFor (fu : Nat) (n' : Network) (r' : Route) (reach : Int) : Option (List Int × Bool) :=
  ((spec_l4Good fu n' r').bind fun y =>
  if !y then some true
  else (spec_l1In fu reach 1 20000).bind fun y2 =>
  some (!y2)).bind fun c4 =>
  if c4 then
    some (([] : List Int), false)
  else
    (spec_l4Nodes fu n' r').bind fun y3 =>
    (spec_RegeneratorsFor_L1 fu n' r' reach y3 fu ([] : List Int) 0 0).bind fun out => out.on some fun z =>
    some (z.1, true)

/- loop.example/g00897/impl.within -/
def impl_within (fu : Nat) (n' : Int) (low : Int) (high : Int) : Option (Bool) :=
  (if decide (low ≤ n') then some (decide (n' ≤ high))
  else some false).bind fun c =>
  some c

/- loop.example/g00897/impl.isName -/
def impl_isName_L1 (fu : Nat) (s' : ByteArray) : Nat → Int → Option (Out (Int) (Bool))
  | 0, _ => none
  | fk + 1, i =>
    if decide (i < (s'.size : Int)) then
      (sidx s' i).bind fun e =>
      (sidx s' i).bind fun e2 =>
      if decide (e.n ≥ 97) then (sidx s' i).bind fun e3 =>
      if decide (e2.n ≥ 48) then (sidx s' i).bind fun e4 =>
      (if !(decide (e3.n ≤ 122)) then if !(decide (e4.n ≤ 57)) then some true
      else some (i == 0)
      else some false).bind fun c =>
      if c then
        some (.ret false)
      else
        impl_isName_L1 fu s' fk (w64 (i + 1))
      else (if !(decide (e3.n ≤ 122)) then if !false then some true
      else some (i == 0)
      else some false).bind fun c2 =>
      if c2 then
        some (.ret false)
      else
        impl_isName_L1 fu s' fk (w64 (i + 1))
      else if decide (e2.n ≥ 48) then (sidx s' i).bind fun e5 =>
      (if !false then if !(decide (e5.n ≤ 57)) then some true
      else some (i == 0)
      else some false).bind fun c3 =>
      if c3 then
        some (.ret false)
      else
        impl_isName_L1 fu s' fk (w64 (i + 1))
      else (if !false then if !false then some true
      else some (i == 0)
      else some false).bind fun c4 =>
      if c4 then
        some (.ret false)
      else
        impl_isName_L1 fu s' fk (w64 (i + 1))
    else
      some (.next i)
def impl_isName (fu : Nat) (s' : ByteArray) : Option (Bool) :=
  (impl_isName_L1 fu s' fu 0).bind fun out => out.on some fun z =>
  (impl_within fu (s'.size : Int) 1 8).bind fun y =>
  some y

/- slices.Index[[]string,string] -/
def slices_Index_string_string_L1 (fu : Nat) (s' : List ByteArray) (v : ByteArray) : Nat → Int → Option (Out (Int) (Int))
  | 0, _ => none
  | fk + 1, i =>
    if decide (i < (s'.length : Int)) then
      (idx s' i).bind fun e =>
      if v.toList == e.toList then
        some (.ret i)
      else
        slices_Index_string_string_L1 fu s' v fk (w64 (i + 1))
    else
      some (.next i)
def slices_Index_string_string (fu : Nat) (s' : List ByteArray) (v : ByteArray) : Option (Int) :=
  (slices_Index_string_string_L1 fu s' v fu 0).bind fun out => out.on some fun z =>
  some (-1)

/- slices.Contains[[]string,string] -/
def slices_Contains_string_string (fu : Nat) (s' : List ByteArray) (v : ByteArray) : Option (Bool) :=
  (slices_Index_string_string fu s' v).bind fun y =>
  some (decide (y ≥ 0))

/- cmp.isNaN[int] -/
def cmp_isNaN_int (fu : Nat) (x1 : Int) : Option (Bool) :=
  some (x1 != x1)

/- cmp.Compare[int] -/
def cmp_Compare_int (fu : Nat) (x1 : Int) (y : Int) : Option (Int) :=
  (cmp_isNaN_int fu x1).bind fun y2 =>
  (cmp_isNaN_int fu y).bind fun y3 =>
  if y2 then
    if y3 then
      some 0
    else
      some (-1)
  else
    if y3 then
      some 1
    else
      if decide (x1 < y) then
        some (-1)
      else
        if decide (x1 > y) then
          some 1
        else
          some 0

/- cmp.Or[int] -/
def cmp_Or_int_L1 (fu : Nat) (vals : List Int) : Nat → Int → Option (Out (Int) (Int))
  | 0, _ => none
  | fk + 1, i =>
    if decide (i < (vals.length : Int)) then
      (idx vals i).bind fun e =>
      if e != 0 then
        some (.ret e)
      else
        cmp_Or_int_L1 fu vals fk (w64 (i + 1))
    else
      some (.next i)
def cmp_Or_int (fu : Nat) (vals : List Int) : Option (Int) :=
  (cmp_Or_int_L1 fu vals fu 0).bind fun out => out.on some fun z =>
  some 0

/- loop.example/g00897/impl.compareFibers -/
def impl_compareFibers (fu : Nat) (a' : Fiber) (b' : Fiber) : Option (Int) :=
  (cmp_Compare_int fu a'.A b'.A).bind fun y =>
  (cmp_Compare_int fu a'.B b'.B).bind fun y2 =>
  (cmp_Compare_int fu a'.Length b'.Length).bind fun y3 =>
  (cmp_Compare_int fu a'.Risk b'.Risk).bind fun y4 =>
  (cmp_Or_int fu [y, y2, y3, y4]).bind fun y5 =>
  some y5

/- loop.example/g00897/impl.IsValidNetwork -/
def impl_IsValidNetwork_L1 (fu : Nat) (n' : Network) : Nat → Int → Option (Out (Int) (Bool))
  | 0, _ => none
  | fk + 1, i =>
    if decide (i < (n'.Nodes.length : Int)) then
      (idx n'.Nodes i).bind fun e =>
      ((impl_isName fu e).bind fun y =>
      if !y then some true
      else (sub n'.Nodes 0 i).bind fun l =>
      (slices_Contains_string_string fu l e).bind fun y2 =>
      some y2).bind fun c3 =>
      if c3 then
        some (.ret false)
      else
        impl_IsValidNetwork_L1 fu n' fk (w64 (i + 1))
    else
      some (.next i)
def impl_IsValidNetwork_L2 (fu : Nat) (n' : Network) : Nat → Int → Option (Out (Int) (Bool))
  | 0, _ => none
  | fk + 1, i3 =>
    if decide (i3 < (n'.Fibers.length : Int)) then
      (idx n'.Fibers i3).bind fun e2 =>
      (if decide (e2.A < 0) then some true
      else if decide (e2.A ≥ e2.B) then some true
      else if decide (e2.B ≥ (n'.Nodes.length : Int)) then some true
      else (impl_within fu e2.Length 1 5000).bind fun y3 =>
      if !y3 then some true
      else (impl_within fu e2.Risk 0 9).bind fun y4 =>
      if !y4 then some true
      else if decide (i3 > 0) then (idx n'.Fibers (w64 (i3 - 1))).bind fun e3 =>
      (impl_compareFibers fu e3 e2).bind fun y5 =>
      some (decide (y5 > 0))
      else some false).bind fun c5 =>
      if c5 then
        some (.ret false)
      else
        impl_IsValidNetwork_L2 fu n' fk (w64 (i3 + 1))
    else
      some (.next i3)
def impl_IsValidNetwork (fu : Nat) (n' : Network) : Option (Bool) :=
  (impl_IsValidNetwork_L1 fu n' fu 0).bind fun out => out.on some fun z2 =>
  (impl_IsValidNetwork_L2 fu n' fu 0).bind fun out => out.on some fun z =>
  ((impl_within fu (n'.Nodes.length : Int) 2 8).bind fun y6 =>
  if y6 then some (decide ((n'.Fibers.length : Int) ≤ 14))
  else some false).bind fun c6 =>
  some c6

/- loop.example/g00897/impl.otherEnd -/
def impl_otherEnd (fu : Nat) (f : Fiber) (node : Int) : Option (Int) :=
  if node == f.A then
    some f.B
  else
    if node == f.B then
      some f.A
    else
      some (-1)

/- slices.Index[[]int,int] -/
def slices_Index_int_int_L1 (fu : Nat) (s' : List Int) (v : Int) : Nat → Int → Option (Out (Int) (Int))
  | 0, _ => none
  | fk + 1, i =>
    if decide (i < (s'.length : Int)) then
      (idx s' i).bind fun e =>
      if v == e then
        some (.ret i)
      else
        slices_Index_int_int_L1 fu s' v fk (w64 (i + 1))
    else
      some (.next i)
def slices_Index_int_int (fu : Nat) (s' : List Int) (v : Int) : Option (Int) :=
  (slices_Index_int_int_L1 fu s' v fu 0).bind fun out => out.on some fun z =>
  some (-1)

/- slices.Contains[[]int,int] -/
def slices_Contains_int_int (fu : Nat) (s' : List Int) (v : Int) : Option (Bool) :=
  (slices_Index_int_int fu s' v).bind fun y =>
  some (decide (y ≥ 0))

/- loop.example/g00897/impl.visited -/
def impl_visited_L1 (fu : Nat) (n' : Network) (r' : Route) : Nat → List Int → Int → Int → Option (Out (List Int × Int × Int) (List Int × Bool))
  | 0, _, _, _ => none
  | fk + 1, out', at', i =>
    if decide (i < (r'.Fibers.length : Int)) then
      (idx r'.Fibers i).bind fun e =>
      (impl_within fu e 0 (w64 ((n'.Fibers.length : Int) - 1))).bind fun y2 =>
      if !y2 then
        some (.ret ([], false))
      else
        (idx n'.Fibers e).bind fun e2 =>
        (impl_otherEnd fu e2 at').bind fun y3 =>
        (if decide (y3 < 0) then some true
        else (slices_Contains_int_int fu out' y3).bind fun y4 =>
        some y4).bind fun c6 =>
        if c6 then
          some (.ret ([], false))
        else
          (app out' [y3]).bind fun l =>
          impl_visited_L1 fu n' r' fk l y3 (w64 (i + 1))
    else
      some (.next (out', at', i))
def impl_visited (fu : Nat) (n' : Network) (r' : Route) : Option (List Int × Bool) :=
  ((impl_within fu r'.Start 0 (w64 ((n'.Nodes.length : Int) - 1))).bind fun y =>
  if !y then some true
  else some ((r'.Fibers.length : Int) == 0)).bind fun c4 =>
  if c4 then
    some ([], false)
  else
    (impl_visited_L1 fu n' r' fu [r'.Start] r'.Start 0).bind fun out => out.on some fun z =>
    some (z.1, true)

/- loop.example/g00897/impl.RouteNodes -/
def impl_RouteNodes (fu : Nat) (n' : Network) (r' : Route) : Option (List Int × Bool) :=
  (impl_IsValidNetwork fu n').bind fun y =>
  if !y then
    some ([], false)
  else
    (impl_visited fu n' r').bind fun y2 =>
    some (y2.1, y2.2)

/- loop.example/g00897/impl.IsValidRoute -/
def impl_IsValidRoute (fu : Nat) (n' : Network) (r' : Route) : Option (Bool) :=
  (impl_RouteNodes fu n' r').bind fun y =>
  some y.2

/- loop.example/g00897/impl.regenerators -/
def impl_regenerators_L1 (fu : Nat) (n' : Network) (r' : Route) (reach : Int) (y : List Int × Bool) : Nat → List Int → Int → Int → Option (Out (List Int × Int × Int) (List Int × Bool))
  | 0, _, _, _ => none
  | fk + 1, out', far, i =>
    if decide (i < (r'.Fibers.length : Int)) then
      (idx r'.Fibers i).bind fun e =>
      (idx n'.Fibers e).bind fun e2 =>
      if decide (e2.Length > reach) then
        some (.ret ([], false))
      else
        if decide ((w64 (far + e2.Length)) > reach) then
          (idx y.1 i).bind fun e3 =>
          (app out' [e3]).bind fun l =>
          impl_regenerators_L1 fu n' r' reach y fk l (w64 (0 + e2.Length)) (w64 (i + 1))
        else
          impl_regenerators_L1 fu n' r' reach y fk out' (w64 (far + e2.Length)) (w64 (i + 1))
    else
      some (.next (out', far, i))
def impl_regenerators (fu : Nat) (n' : Network) (r' : Route) (reach : Int) : Option (List Int × Bool) :=
  (impl_visited fu n' r').bind fun y =>
  (impl_regenerators_L1 fu n' r' reach y fu ([] : List Int) 0 0).bind fun out => out.on some fun z =>
  some (z.1, true)

/- loop.example/g00897/impl.RegeneratorsFor -/
def impl_RegeneratorsFor (fu : Nat) (n' : Network) (r' : Route) (reach : Int) : Option (List Int × Bool) :=
  ((impl_IsValidRoute fu n' r').bind fun y =>
  if !y then some true
  else (impl_within fu reach 1 20000).bind fun y2 =>
  some (!y2)).bind fun c4 =>
  if c4 then
    some ([], false)
  else
    (impl_regenerators fu n' r' reach).bind fun y3 =>
    some (y3.1, y3.2)

/- loop.example/g00897/laws.eqIntS -/
def laws_eqIntS_L1 (fu : Nat) (a' : List Int) (b' : List Int) : Nat → Int → Option (Out (Int) (Bool))
  | 0, _ => none
  | fk + 1, i =>
    if decide (i < (a'.length : Int)) then
      (idx a' i).bind fun e =>
      (idx b' i).bind fun e2 =>
      if e != e2 then
        some (.ret false)
      else
        laws_eqIntS_L1 fu a' b' fk (w64 (i + 1))
    else
      some (.next i)
def laws_eqIntS (fu : Nat) (a' : List Int) (b' : List Int) : Option (Bool) :=
  if (a'.length : Int) != (b'.length : Int) then
    some false
  else
    (laws_eqIntS_L1 fu a' b' fu 0).bind fun out => out.on some fun z =>
    some true

/- loop.example/g00897/laws.eqStringS -/
def laws_eqStringS_L1 (fu : Nat) (a' : List ByteArray) (b' : List ByteArray) : Nat → Int → Option (Out (Int) (Bool))
  | 0, _ => none
  | fk + 1, i =>
    if decide (i < (a'.length : Int)) then
      (idx a' i).bind fun e =>
      (idx b' i).bind fun e2 =>
      if !(e.toList == e2.toList) then
        some (.ret false)
      else
        laws_eqStringS_L1 fu a' b' fk (w64 (i + 1))
    else
      some (.next i)
def laws_eqStringS (fu : Nat) (a' : List ByteArray) (b' : List ByteArray) : Option (Bool) :=
  if (a'.length : Int) != (b'.length : Int) then
    some false
  else
    (laws_eqStringS_L1 fu a' b' fu 0).bind fun out => out.on some fun z =>
    some true

/- loop.example/g00897/laws.eqFiber -/
def laws_eqFiber (fu : Nat) (a' : Fiber) (b' : Fiber) : Option (Bool) :=
  if a'.A != b'.A then
    some false
  else
    if a'.B != b'.B then
      some false
    else
      if a'.Length != b'.Length then
        some false
      else
        if a'.Risk != b'.Risk then
          some false
        else
          some true

/- loop.example/g00897/laws.eqFiberS -/
def laws_eqFiberS_L1 (fu : Nat) (a' : List Fiber) (b' : List Fiber) : Nat → Int → Option (Out (Int) (Bool))
  | 0, _ => none
  | fk + 1, i =>
    if decide (i < (a'.length : Int)) then
      (idx a' i).bind fun e =>
      (idx b' i).bind fun e2 =>
      (laws_eqFiber fu e e2).bind fun y =>
      if !y then
        some (.ret false)
      else
        laws_eqFiberS_L1 fu a' b' fk (w64 (i + 1))
    else
      some (.next i)
def laws_eqFiberS (fu : Nat) (a' : List Fiber) (b' : List Fiber) : Option (Bool) :=
  if (a'.length : Int) != (b'.length : Int) then
    some false
  else
    (laws_eqFiberS_L1 fu a' b' fu 0).bind fun out => out.on some fun z =>
    some true

/- loop.example/g00897/laws.eqNetwork -/
def laws_eqNetwork (fu : Nat) (a' : Network) (b' : Network) : Option (Bool) :=
  (laws_eqStringS fu a'.Nodes b'.Nodes).bind fun y =>
  if !y then
    some false
  else
    (laws_eqFiberS fu a'.Fibers b'.Fibers).bind fun y2 =>
    if !y2 then
      some false
    else
      some true

/- loop.example/g00897/laws.eqRoute -/
def laws_eqRoute (fu : Nat) (a' : Route) (b' : Route) : Option (Bool) :=
  if a'.Start != b'.Start then
    some false
  else
    (laws_eqIntS fu a'.Fibers b'.Fibers).bind fun y =>
    if !y then
      some false
    else
      some true

/- loop.example/g00897/laws.markText -/
def laws_markText_L1 (fu : Nat) : Nat → Int → ByteArray → Option (Int × ByteArray)
  | 0, _, _ => none
  | fk + 1, k2, out' =>
    if decide (k2 > 0) then
      (rem k2 10).bind fun q =>
      (scat (bstr [(⟨wu8 (w64 (48 + q))⟩ : By)]) out').bind fun s' =>
      (quo k2 10).bind fun q2 =>
      laws_markText_L1 fu fk q2 s'
    else
      some (k2, out')
def laws_markText (fu : Nat) (k' : Int) : Option (ByteArray) :=
  if decide (k' ≤ 0) then
    some (⟨#[109, 48]⟩ : ByteArray)
  else
    (laws_markText_L1 fu fu k' ByteArray.empty).bind fun z =>
    (scat (⟨#[109]⟩ : ByteArray) z.2).bind fun s2 =>
    some s2

/- loop.example/g00897/laws.markStringS -/
def laws_markStringS_L1 (fu : Nat) : Nat → List ByteArray → Int → Int → Option (List ByteArray × Int × Int)
  | 0, _, _, _ => none
  | fk + 1, a2, k2, i =>
    if decide (i < (a2.length : Int)) then
      (laws_markText fu k2).bind fun y =>
      (idx a2 i).bind fun e =>
      laws_markStringS_L1 fu fk (a2.set (i).toNat y) (w64 (k2 + 1)) (w64 (i + 1))
    else
      some (a2, k2, i)
def laws_markStringS (fu : Nat) (a' : List ByteArray) (k' : Int) : Option (Int × List ByteArray) :=
  (laws_markStringS_L1 fu fu a' k' 0).bind fun z =>
  some (z.2.1, z.1)

/- loop.example/g00897/laws.markFiberS -/
def laws_markFiberS_L1 (fu : Nat) : Nat → List Fiber → Int → Int → Option (List Fiber × Int × Int)
  | 0, _, _, _ => none
  | fk + 1, a2, k2, i =>
    if decide (i < (a2.length : Int)) then
      (idx a2 i).bind fun e =>
      (idx (a2.set (i).toNat ({ A := k2, B := e.B, Length := e.Length, Risk := e.Risk } : Fiber)) i).bind fun e2 =>
      (idx ((a2.set (i).toNat ({ A := k2, B := e.B, Length := e.Length, Risk := e.Risk } : Fiber)).set (i).toNat ({ A := e2.A, B := w64 (k2 + 1), Length := e2.Length, Risk := e2.Risk } : Fiber)) i).bind fun e3 =>
      (idx (((a2.set (i).toNat ({ A := k2, B := e.B, Length := e.Length, Risk := e.Risk } : Fiber)).set (i).toNat ({ A := e2.A, B := w64 (k2 + 1), Length := e2.Length, Risk := e2.Risk } : Fiber)).set (i).toNat ({ A := e3.A, B := e3.B, Length := w64 ((w64 (k2 + 1)) + 1), Risk := e3.Risk } : Fiber)) i).bind fun e4 =>
      laws_markFiberS_L1 fu fk ((((a2.set (i).toNat ({ A := k2, B := e.B, Length := e.Length, Risk := e.Risk } : Fiber)).set (i).toNat ({ A := e2.A, B := w64 (k2 + 1), Length := e2.Length, Risk := e2.Risk } : Fiber)).set (i).toNat ({ A := e3.A, B := e3.B, Length := w64 ((w64 (k2 + 1)) + 1), Risk := e3.Risk } : Fiber)).set (i).toNat ({ A := e4.A, B := e4.B, Length := e4.Length, Risk := w64 ((w64 ((w64 (k2 + 1)) + 1)) + 1) } : Fiber)) (w64 ((w64 ((w64 ((w64 (k2 + 1)) + 1)) + 1)) + 1)) (w64 (i + 1))
    else
      some (a2, k2, i)
def laws_markFiberS (fu : Nat) (a' : List Fiber) (k' : Int) : Option (Int × List Fiber) :=
  (laws_markFiberS_L1 fu fu a' k' 0).bind fun z =>
  some (z.2.1, z.1)

/- loop.example/g00897/laws.markNetwork -/
def laws_markNetwork (fu : Nat) (a' : Network) (k' : Int) : Option (Int × Network) :=
  (laws_markStringS fu a'.Nodes k').bind fun y =>
  (laws_markFiberS fu a'.Fibers y.1).bind fun y2 =>
  some (y2.1, ({ Nodes := y.2, Fibers := y2.2 } : Network))

/- loop.example/g00897/laws.markIntS -/
def laws_markIntS_L1 (fu : Nat) : Nat → List Int → Int → Int → Option (List Int × Int × Int)
  | 0, _, _, _ => none
  | fk + 1, a2, k2, i =>
    if decide (i < (a2.length : Int)) then
      (idx a2 i).bind fun e =>
      laws_markIntS_L1 fu fk (a2.set (i).toNat k2) (w64 (k2 + 1)) (w64 (i + 1))
    else
      some (a2, k2, i)
def laws_markIntS (fu : Nat) (a' : List Int) (k' : Int) : Option (Int × List Int) :=
  (laws_markIntS_L1 fu fu a' k' 0).bind fun z =>
  some (z.2.1, z.1)

/- loop.example/g00897/laws.markRoute -/
def laws_markRoute (fu : Nat) (a' : Route) (k' : Int) : Option (Int × Route) :=
  (laws_markIntS fu a'.Fibers k').bind fun y =>
  some (y.1, ({ Start := a'.Start, Fibers := y.2 } : Route))

/- loop.example/g00897/laws.heldIntS -/
def laws_heldIntS_L1 (fu : Nat) (a' : List Int) : Nat → Int → Int → Option (Out (Int × Int) (Int))
  | 0, _, _ => none
  | fk + 1, k2, i =>
    if decide (i < (a'.length : Int)) then
      (idx a' i).bind fun e =>
      if e != k2 then
        some (.ret (-1))
      else
        laws_heldIntS_L1 fu a' fk (w64 (k2 + 1)) (w64 (i + 1))
    else
      some (.next (k2, i))
def laws_heldIntS (fu : Nat) (a' : List Int) (k' : Int) : Option (Int) :=
  (laws_heldIntS_L1 fu a' fu k' 0).bind fun out => out.on some fun z =>
  some z.1

/- loop.example/g00897/laws.FnExactRegeneratorsFor -/
def laws_FnExactRegeneratorsFor (fu : Nat) (aN : Network) (aR : Route) (aReach : Int) : Option (Bool) :=
  (laws_szNetwork fu aN 1048576).bind fun y =>
  if decide (y < 0) then
    some true
  else
    (laws_szRoute fu aR y).bind fun y2 =>
    if decide (y2 < 0) then
      some true
    else
      (laws_toNetwork fu aN).bind fun y3 =>
      (laws_toRoute fu aR).bind fun y4 =>
      (spec_RegeneratorsFor fu y3 y4 aReach).bind fun y5 =>
      (laws_toNetwork fu aN).bind fun y6 =>
      (laws_toRoute fu aR).bind fun y7 =>
      (impl_RegeneratorsFor fu y6 y7 aReach).bind fun y8 =>
      ((laws_eqIntS fu y8.1 y5.1).bind fun y9 =>
      if !y9 then some true
      else some (y8.2 != y5.2)).bind fun c12 =>
      if c12 then
        some false
      else
        (laws_toNetwork fu aN).bind fun y10 =>
        (laws_eqNetwork fu y6 y10).bind fun y11 =>
        if !y11 then
          some false
        else
          (laws_toRoute fu aR).bind fun y12 =>
          (laws_eqRoute fu y7 y12).bind fun y13 =>
          if !y13 then
            some false
          else
            (laws_markNetwork fu y6 1).bind fun y14 =>
            (laws_markRoute fu y7 y14.1).bind fun y15 =>
            (if decide (y15.1 < 0) then some true
            else (laws_eqIntS fu y8.1 y5.1).bind fun y16 =>
            if !y16 then some true
            else some (y8.2 != y5.2)).bind fun c16 =>
            if c16 then
              some false
            else
              (laws_markIntS fu y8.1 1).bind fun y17 =>
              (laws_heldIntS fu y17.2 1).bind fun y18 =>
              if decide (y18 < 0) then
                some false
              else
                if y18 != y17.1 then
                  some false
                else
                  (laws_toNetwork fu aN).bind fun y19 =>
                  (laws_toRoute fu aR).bind fun y20 =>
                  (impl_RegeneratorsFor fu y19 y20 aReach).bind fun y21 =>
                  ((laws_eqIntS fu y21.1 y5.1).bind fun y22 =>
                  if !y22 then some true
                  else some (y21.2 != y5.2)).bind fun c21 =>
                  if c21 then
                    some false
                  else
                    (laws_heldIntS fu y17.2 1).bind fun y23 =>
                    if decide (y23 < 0) then
                      some false
                    else
                      if y23 != y17.1 then
                        some false
                      else
                        some true
end AT
