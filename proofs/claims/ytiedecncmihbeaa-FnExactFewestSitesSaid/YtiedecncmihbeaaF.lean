/- The Go functions told plainly, by program (gen.py). -/
import Derived.Test.YtiedecncmihbeaaAtR
set_option linter.unusedVariables false
namespace AT
structure Fiber where
  A : Int
  B : Int
  Length : Int
  Risk : Int
  deriving DecidableEq
structure Network where
  Nodes : List ByteArray
  Fibers : List Fiber
  deriving DecidableEq
def laws_szStringS_L1 (fu : Nat) (a' : List ByteArray) : Nat → Int → Int → Option (Out (Int × Int) (Int))
  | 0, _, _ => none
  | fk + 1, left2, i =>
    if decide (i < (a'.length : Int)) then
      (idx a' i).bind fun e =>
      if decide ((w64 (left2 - (e.size : Int))) < 0) then
        some (.ret (-1))
      else
        laws_szStringS_L1 fu a' fk (w64 (left2 - (e.size : Int))) (w64 (i + 1))
    else
      some (.next (left2, i))
def laws_szStringS (fu : Nat) (a' : List ByteArray) (left : Int) : Option (Int) :=
  if decide ((w64 (left - (a'.length : Int))) < 0) then
    some (-1)
  else
    (laws_szStringS_L1 fu a' fu (w64 (left - (a'.length : Int))) 0).bind fun out => out.on some fun z =>
    some z.1
def laws_szFiberS (fu : Nat) (a' : List Fiber) (left : Int) : Option (Int) :=
  if decide ((w64 (left - (a'.length : Int))) < 0) then
    some (-1)
  else
    some (w64 (left - (a'.length : Int)))
def laws_szNetwork (fu : Nat) (a' : Network) (left : Int) : Option (Int) :=
  (laws_szStringS fu a'.Nodes left).bind fun y =>
  if decide (y < 0) then
    some (-1)
  else
    (laws_szFiberS fu a'.Fibers y).bind fun y2 =>
    if decide (y2 < 0) then
      some (-1)
    else
      some y2
def laws_toStringS_L1 (fu : Nat) (a' : List ByteArray) : Nat → List ByteArray → Int → Option (List ByteArray × Int)
  | 0, _, _ => none
  | fk + 1, out', i =>
    if decide (i < (a'.length : Int)) then
      (idx a' i).bind fun e =>
      (idx out' i).bind fun e2 =>
      laws_toStringS_L1 fu a' fk (out'.set (i : Int).toNat e) (w64 (i + 1))
    else
      some (out', i)
def laws_toStringS (fu : Nat) (a' : List ByteArray) : Option (List ByteArray) :=
  (mk (ByteArray.empty : ByteArray) (a'.length : Int)).bind fun l =>
  (laws_toStringS_L1 fu a' fu l 0).bind fun z =>
  some z.1
def laws_toFiber (fu : Nat) (a' : Fiber) : Option (Fiber) :=
  some a'
def laws_toFiberS_L1 (fu : Nat) (a' : List Fiber) : Nat → List Fiber → Int → Option (List Fiber × Int)
  | 0, _, _ => none
  | fk + 1, out', i =>
    if decide (i < (a'.length : Int)) then
      (idx a' i).bind fun e =>
      (laws_toFiber fu e).bind fun y =>
      (idx out' i).bind fun e2 =>
      laws_toFiberS_L1 fu a' fk (out'.set (i : Int).toNat y) (w64 (i + 1))
    else
      some (out', i)
def laws_toFiberS (fu : Nat) (a' : List Fiber) : Option (List Fiber) :=
  (mk (({ A := 0, B := 0, Length := 0, Risk := 0 } : Fiber) : Fiber) (a'.length : Int)).bind fun l =>
  (laws_toFiberS_L1 fu a' fu l 0).bind fun z =>
  some z.1
def laws_toNetwork (fu : Nat) (a' : Network) : Option (Network) :=
  (laws_toStringS fu a'.Nodes).bind fun y =>
  (laws_toFiberS fu a'.Fibers).bind fun y2 =>
  some ({ Nodes := y, Fibers := y2 } : Network)
def spec_l1In (fu : Nat) (x1 : Int) (a' : Int) (b' : Int) : Option (Bool) :=
  (if decide (x1 ≥ a') then some (decide (x1 ≤ b'))
  else some false).bind fun c =>
  some c
def spec_l2Sign (fu : Nat) (b' : By) : Option (Bool) :=
  (if decide (b'.n ≥ 97) then if decide (b'.n ≤ 122) then some true
  else if decide (b'.n ≥ 48) then some (decide (b'.n ≤ 57))
  else some false
  else if decide (b'.n ≥ 48) then some (decide (b'.n ≤ 57))
  else some false).bind fun c =>
  some c
def spec_l2Name_L1 (fu : Nat) (s' : ByteArray) : Nat → Int → Option (Out (Int) (Bool))
  | 0, _ => none
  | fk + 1, i =>
    if decide (i < (s'.size : Int)) then
      (sidx s' i).bind fun e3 =>
      (spec_l2Sign fu e3).bind fun y2 =>
      if !y2 then
        some (.ret false)
      else
        spec_l2Name_L1 fu s' fk (w64 (i + 1))
    else
      some (.next i)
def spec_l2Name (fu : Nat) (s' : ByteArray) : Option (Bool) :=
  ((spec_l1In fu (s'.size : Int) 1 8).bind fun y =>
  if !y then some true
  else (sidx s' 0).bind fun e =>
  if decide (e.n < 97) then some true
  else (sidx s' 0).bind fun e2 =>
  some (decide (e2.n > 122))).bind fun c =>
  if c then
    some false
  else
    (spec_l2Name_L1 fu s' fu 0).bind fun out => out.on some fun z =>
    some true
def spec_l2Find_L1 (fu : Nat) (list : List ByteArray) (name : ByteArray) : Nat → Int → Option (Out (Int) (Int))
  | 0, _ => none
  | fk + 1, i =>
    if decide (i < (list.length : Int)) then
      (idx list i).bind fun e =>
      if e.toList == name.toList then
        some (.ret i)
      else
        spec_l2Find_L1 fu list name fk (w64 (i + 1))
    else
      some (.next i)
def spec_l2Find (fu : Nat) (list : List ByteArray) (name : ByteArray) : Option (Int) :=
  (spec_l2Find_L1 fu list name fu 0).bind fun out => out.on some fun z =>
  some (-1)
def spec_l2Fiber (fu : Nat) (f : Fiber) (nodes : Int) : Option (Bool) :=
  ((spec_l1In fu f.A 0 (w64 (nodes - 1))).bind fun y =>
  if y then (spec_l1In fu f.B (w64 (f.A + 1)) (w64 (nodes - 1))).bind fun y2 =>
  if y2 then (spec_l1In fu f.Length 1 5000).bind fun y3 =>
  if y3 then (spec_l1In fu f.Risk 0 9).bind fun y4 =>
  some y4
  else some false
  else some false
  else some false).bind fun c =>
  some c
def spec_l2Before (fu : Nat) (f : Fiber) (g' : Fiber) : Option (Int) :=
  if f.A != g'.A then
    some (w64 (f.A - g'.A))
  else
    if f.B != g'.B then
      some (w64 (f.B - g'.B))
    else
      if f.Length != g'.Length then
        some (w64 (f.Length - g'.Length))
      else
        some (w64 (f.Risk - g'.Risk))
def spec_l2Good_L1 (fu : Nat) (n' : Network) : Nat → Int → Option (Out (Int) (Bool))
  | 0, _ => none
  | fk + 1, i =>
    if decide (i < (n'.Nodes.length : Int)) then
      ((idx n'.Nodes i).bind fun e =>
      (spec_l2Name fu e).bind fun y2 =>
      if !y2 then some true
      else (idx n'.Nodes i).bind fun e2 =>
      (spec_l2Find fu n'.Nodes e2).bind fun y3 =>
      some (y3 != i)).bind fun c4 =>
      if c4 then
        some (.ret false)
      else
        spec_l2Good_L1 fu n' fk (w64 (i + 1))
    else
      some (.next i)
def spec_l2Good_L2 (fu : Nat) (n' : Network) : Nat → Int → Option (Out (Int) (Bool))
  | 0, _ => none
  | fk + 1, i3 =>
    if decide (i3 < (n'.Fibers.length : Int)) then
      ((idx n'.Fibers i3).bind fun e3 =>
      (spec_l2Fiber fu e3 (n'.Nodes.length : Int)).bind fun y4 =>
      if !y4 then some true
      else if decide (i3 > 0) then (idx n'.Fibers (w64 (i3 - 1))).bind fun e4 =>
      (idx n'.Fibers i3).bind fun e5 =>
      (spec_l2Before fu e4 e5).bind fun y5 =>
      some (decide (y5 > 0))
      else some false).bind fun c5 =>
      if c5 then
        some (.ret false)
      else
        spec_l2Good_L2 fu n' fk (w64 (i3 + 1))
    else
      some (.next i3)
def spec_l2Good (fu : Nat) (n' : Network) : Option (Bool) :=
  ((spec_l1In fu (n'.Nodes.length : Int) 2 8).bind fun y =>
  if !y then some true
  else some (decide ((n'.Fibers.length : Int) > 14))).bind fun c3 =>
  if c3 then
    some false
  else
    (spec_l2Good_L1 fu n' fu 0).bind fun out => out.on some fun z2 =>
    (spec_l2Good_L2 fu n' fu 0).bind fun out => out.on some fun z =>
    some true
def spec_l19From_L1 (fu : Nat) (n' : Network) : Nat → List Int → Int → Option (List Int × Int)
  | 0, _, _ => none
  | fk + 1, out', i =>
    if decide (i < (n'.Nodes.length : Int)) then
      (app out' [(-1)]).bind fun l =>
      spec_l19From_L1 fu n' fk l (w64 (i + 1))
    else
      some (out', i)
def spec_l19From_L3 (fu : Nat) (n' : Network) : Nat → List Int → Bool → Int → Option (List Int × Bool × Int)
  | 0, _, _, _ => none
  | fk + 1, out6, more2, i3 =>
    if decide (i3 < (n'.Fibers.length : Int)) then
      (idx n'.Fibers i3).bind fun e2 =>
      ((idx out6 e2.A).bind fun e3 =>
      if decide (e3 ≥ 0) then (idx out6 e2.B).bind fun e4 =>
      if decide (e4 < 0) then some true
      else (idx out6 e2.A).bind fun e5 =>
      (idx out6 e2.B).bind fun e6 =>
      some (decide ((w64 (e5 + e2.Length)) < e6))
      else some false).bind fun c8 =>
      if c8 then
        (idx out6 e2.A).bind fun e7 =>
        (idx out6 e2.B).bind fun e8 =>
        ((idx (out6.set (e2.B : Int).toNat (w64 (e7 + e2.Length))) e2.B).bind fun e9 =>
        if decide (e9 ≥ 0) then (idx (out6.set (e2.B : Int).toNat (w64 (e7 + e2.Length))) e2.A).bind fun e10 =>
        if decide (e10 < 0) then some true
        else (idx (out6.set (e2.B : Int).toNat (w64 (e7 + e2.Length))) e2.B).bind fun e11 =>
        (idx (out6.set (e2.B : Int).toNat (w64 (e7 + e2.Length))) e2.A).bind fun e12 =>
        some (decide ((w64 (e11 + e2.Length)) < e12))
        else some false).bind fun c9 =>
        if c9 then
          (idx (out6.set (e2.B : Int).toNat (w64 (e7 + e2.Length))) e2.B).bind fun e13 =>
          (idx (out6.set (e2.B : Int).toNat (w64 (e7 + e2.Length))) e2.A).bind fun e14 =>
          spec_l19From_L3 fu n' fk ((out6.set (e2.B : Int).toNat (w64 (e7 + e2.Length))).set (e2.A : Int).toNat (w64 (e13 + e2.Length))) true (w64 (i3 + 1))
        else
          spec_l19From_L3 fu n' fk (out6.set (e2.B : Int).toNat (w64 (e7 + e2.Length))) true (w64 (i3 + 1))
      else
        ((idx out6 e2.B).bind fun e15 =>
        if decide (e15 ≥ 0) then (idx out6 e2.A).bind fun e16 =>
        if decide (e16 < 0) then some true
        else (idx out6 e2.B).bind fun e17 =>
        (idx out6 e2.A).bind fun e18 =>
        some (decide ((w64 (e17 + e2.Length)) < e18))
        else some false).bind fun c10 =>
        if c10 then
          (idx out6 e2.B).bind fun e19 =>
          (idx out6 e2.A).bind fun e20 =>
          spec_l19From_L3 fu n' fk (out6.set (e2.A : Int).toNat (w64 (e19 + e2.Length))) true (w64 (i3 + 1))
        else
          spec_l19From_L3 fu n' fk out6 more2 (w64 (i3 + 1))
    else
      some (out6, more2, i3)
def spec_l19From_L2 (fu : Nat) (n' : Network) : Nat → List Int → Bool → Option (List Int × Bool)
  | 0, _, _ => none
  | fk + 1, out4, more =>
    if more then
      (spec_l19From_L3 fu n' fu out4 false 0).bind fun z =>
      spec_l19From_L2 fu n' fk z.1 z.2.1
    else
      some (out4, more)
def spec_l19From (fu : Nat) (n' : Network) (node : Int) : Option (List Int) :=
  (spec_l19From_L1 fu n' fu ([] : List Int) 0).bind fun z3 =>
  (idx z3.1 node).bind fun e =>
  (spec_l19From_L2 fu n' fu (z3.1.set (node : Int).toNat 0) true).bind fun z2 =>
  some z2.1
def spec_l1Has_L1 (fu : Nat) (l : List Int) (n' : Int) : Nat → Int → Option (Out (Int) (Bool))
  | 0, _ => none
  | fk + 1, i =>
    if decide (i < (l.length : Int)) then
      (idx l i).bind fun e =>
      if e == n' then
        some (.ret true)
      else
        spec_l1Has_L1 fu l n' fk (w64 (i + 1))
    else
      some (.next i)
def spec_l1Has (fu : Nat) (l : List Int) (n' : Int) : Option (Bool) :=
  (spec_l1Has_L1 fu l n' fu 0).bind fun out => out.on some fun z =>
  some false
def spec_l19Connect_L1 (fu : Nat) (n' : Network) : Nat → List (List Int) → Int → Option (List (List Int) × Int)
  | 0, _, _ => none
  | fk + 1, far, a' =>
    if decide (a' < (n'.Nodes.length : Int)) then
      (spec_l19From fu n' a').bind fun y =>
      (app far [y]).bind fun l =>
      spec_l19Connect_L1 fu n' fk l (w64 (a' + 1))
    else
      some (far, a')
def spec_l19Connect_L4 (fu : Nat) (n' : Network) (sites : List Int) (reach : Int) (far2 : List (List Int)) (i : Int) : Nat → List Int → Int → Option (List Int × Int)
  | 0, _, _ => none
  | fk + 1, seen2, b2 =>
    if decide (b2 < (n'.Nodes.length : Int)) then
      (if i == 0 then (spec_l1Has fu seen2 b2).bind fun y2 =>
      if !y2 then (idx seen2 i).bind fun e =>
      (idx far2 e).bind fun e2 =>
      (idx e2 b2).bind fun e3 =>
      (spec_l1In fu e3 0 reach).bind fun y3 =>
      some y3
      else some false
      else (idx seen2 i).bind fun e4 =>
      (spec_l1Has fu sites e4).bind fun y4 =>
      if y4 then (spec_l1Has fu seen2 b2).bind fun y5 =>
      if !y5 then (idx seen2 i).bind fun e5 =>
      (idx far2 e5).bind fun e6 =>
      (idx e6 b2).bind fun e7 =>
      (spec_l1In fu e7 0 reach).bind fun y6 =>
      some y6
      else some false
      else some false).bind fun c10 =>
      if c10 then
        (app seen2 [b2]).bind fun l2 =>
        spec_l19Connect_L4 fu n' sites reach far2 i fk l2 (w64 (b2 + 1))
      else
        spec_l19Connect_L4 fu n' sites reach far2 i fk seen2 (w64 (b2 + 1))
    else
      some (seen2, b2)
def spec_l19Connect_L3 (fu : Nat) (n' : Network) (sites : List Int) (reach : Int) (far2 : List (List Int)) : Nat → List Int → Int → Option (List Int × Int)
  | 0, _, _ => none
  | fk + 1, seen, i =>
    if decide (i < (seen.length : Int)) then
      (spec_l19Connect_L4 fu n' sites reach far2 i fu seen 0).bind fun z =>
      spec_l19Connect_L3 fu n' sites reach far2 fk z.1 (w64 (i + 1))
    else
      some (seen, i)
def spec_l19Connect_L5 (fu : Nat) (n' : Network) (far2 : List (List Int)) (seen4 : List Int) (a3 : Int) : Nat → Int → Option (Out (Int) (Bool))
  | 0, _ => none
  | fk + 1, b4 =>
    if decide (b4 < (n'.Nodes.length : Int)) then
      ((idx far2 a3).bind fun e8 =>
      (idx e8 b4).bind fun e9 =>
      if decide (e9 ≥ 0) then (spec_l1Has fu seen4 b4).bind fun y7 =>
      some (!y7)
      else some false).bind fun c16 =>
      if c16 then
        some (.ret false)
      else
        spec_l19Connect_L5 fu n' far2 seen4 a3 fk (w64 (b4 + 1))
    else
      some (.next b4)
def spec_l19Connect_L2 (fu : Nat) (n' : Network) (sites : List Int) (reach : Int) (far2 : List (List Int)) : Nat → Int → Option (Out (Int) (Bool))
  | 0, _ => none
  | fk + 1, a3 =>
    if decide (a3 < (n'.Nodes.length : Int)) then
      (spec_l19Connect_L3 fu n' sites reach far2 fu [a3] 0).bind fun z3 =>
      (spec_l19Connect_L5 fu n' far2 z3.1 a3 fu 0).bind fun out => out.on (fun r => some (.ret r)) fun z2 =>
      spec_l19Connect_L2 fu n' sites reach far2 fk (w64 (a3 + 1))
    else
      some (.next a3)
def spec_l19Connect (fu : Nat) (n' : Network) (sites : List Int) (reach : Int) : Option (Bool) :=
  (spec_l19Connect_L1 fu n' fu ([] : List (List Int)) 0).bind fun z5 =>
  (spec_l19Connect_L2 fu n' sites reach z5.1 fu 0).bind fun out => out.on some fun z4 =>
  some true
def impl_within (fu : Nat) (n' : Int) (low : Int) (high : Int) : Option (Bool) :=
  (if decide (low ≤ n') then some (decide (n' ≤ high))
  else some false).bind fun c =>
  some c
def impl_isName_L1 (fu : Nat) (s' : ByteArray) : Nat → Int → Option (Out (Int) (Bool))
  | 0, _ => none
  | fk + 1, i =>
    if decide (i < (s'.size : Int)) then
      (sidx s' i).bind fun e =>
      (sidx s' i).bind fun e2 =>
      if decide (e.n ≥ 97) then (sidx s' i).bind fun e3 =>
      if decide (e2.n ≥ 48) then (sidx s' i).bind fun e4 =>
      (if !(decide (e3.n ≤ 122)) then if !(decide (e4.n ≤ 57)) then some true
      else some (i == 0)
      else some false).bind fun c =>
      if c then
        some (.ret false)
      else
        impl_isName_L1 fu s' fk (w64 (i + 1))
      else (if !(decide (e3.n ≤ 122)) then if !false then some true
      else some (i == 0)
      else some false).bind fun c2 =>
      if c2 then
        some (.ret false)
      else
        impl_isName_L1 fu s' fk (w64 (i + 1))
      else if decide (e2.n ≥ 48) then (sidx s' i).bind fun e5 =>
      (if !false then if !(decide (e5.n ≤ 57)) then some true
      else some (i == 0)
      else some false).bind fun c3 =>
      if c3 then
        some (.ret false)
      else
        impl_isName_L1 fu s' fk (w64 (i + 1))
      else (if !false then if !false then some true
      else some (i == 0)
      else some false).bind fun c4 =>
      if c4 then
        some (.ret false)
      else
        impl_isName_L1 fu s' fk (w64 (i + 1))
    else
      some (.next i)
def impl_isName (fu : Nat) (s' : ByteArray) : Option (Bool) :=
  (impl_isName_L1 fu s' fu 0).bind fun out => out.on some fun z =>
  (impl_within fu (s'.size : Int) 1 8).bind fun y =>
  some y
def slices_Index_string_string_L1 (fu : Nat) (s' : List ByteArray) (v : ByteArray) : Nat → Int → Option (Out (Int) (Int))
  | 0, _ => none
  | fk + 1, i =>
    if decide (i < (s'.length : Int)) then
      (idx s' i).bind fun e =>
      if v.toList == e.toList then
        some (.ret i)
      else
        slices_Index_string_string_L1 fu s' v fk (w64 (i + 1))
    else
      some (.next i)
def slices_Index_string_string (fu : Nat) (s' : List ByteArray) (v : ByteArray) : Option (Int) :=
  (slices_Index_string_string_L1 fu s' v fu 0).bind fun out => out.on some fun z =>
  some (-1)
def slices_Contains_string_string (fu : Nat) (s' : List ByteArray) (v : ByteArray) : Option (Bool) :=
  (slices_Index_string_string fu s' v).bind fun y =>
  some (decide (y ≥ 0))
def cmp_isNaN_int (fu : Nat) (x1 : Int) : Option (Bool) :=
  some (x1 != x1)
def cmp_Compare_int (fu : Nat) (x1 : Int) (y : Int) : Option (Int) :=
  (cmp_isNaN_int fu x1).bind fun y2 =>
  (cmp_isNaN_int fu y).bind fun y3 =>
  if y2 then
    if y3 then
      some 0
    else
      some (-1)
  else
    if y3 then
      some 1
    else
      if decide (x1 < y) then
        some (-1)
      else
        if decide (x1 > y) then
          some 1
        else
          some 0
def cmp_Or_int_L1 (fu : Nat) (vals : List Int) : Nat → Int → Option (Out (Int) (Int))
  | 0, _ => none
  | fk + 1, i =>
    if decide (i < (vals.length : Int)) then
      (idx vals i).bind fun e =>
      if e != 0 then
        some (.ret e)
      else
        cmp_Or_int_L1 fu vals fk (w64 (i + 1))
    else
      some (.next i)
def cmp_Or_int (fu : Nat) (vals : List Int) : Option (Int) :=
  (cmp_Or_int_L1 fu vals fu 0).bind fun out => out.on some fun z =>
  some 0
def impl_compareFibers (fu : Nat) (a' : Fiber) (b' : Fiber) : Option (Int) :=
  (cmp_Compare_int fu a'.A b'.A).bind fun y =>
  (cmp_Compare_int fu a'.B b'.B).bind fun y2 =>
  (cmp_Compare_int fu a'.Length b'.Length).bind fun y3 =>
  (cmp_Compare_int fu a'.Risk b'.Risk).bind fun y4 =>
  (cmp_Or_int fu [y, y2, y3, y4]).bind fun y5 =>
  some y5
def impl_IsValidNetwork_L1 (fu : Nat) (n' : Network) : Nat → Int → Option (Out (Int) (Bool))
  | 0, _ => none
  | fk + 1, i =>
    if decide (i < (n'.Nodes.length : Int)) then
      (idx n'.Nodes i).bind fun e =>
      ((impl_isName fu e).bind fun y =>
      if !y then some true
      else (sub n'.Nodes 0 i).bind fun l =>
      (slices_Contains_string_string fu l e).bind fun y2 =>
      some y2).bind fun c3 =>
      if c3 then
        some (.ret false)
      else
        impl_IsValidNetwork_L1 fu n' fk (w64 (i + 1))
    else
      some (.next i)
def impl_IsValidNetwork_L2 (fu : Nat) (n' : Network) : Nat → Int → Option (Out (Int) (Bool))
  | 0, _ => none
  | fk + 1, i3 =>
    if decide (i3 < (n'.Fibers.length : Int)) then
      (idx n'.Fibers i3).bind fun e2 =>
      (if decide (e2.A < 0) then some true
      else if decide (e2.A ≥ e2.B) then some true
      else if decide (e2.B ≥ (n'.Nodes.length : Int)) then some true
      else (impl_within fu e2.Length 1 5000).bind fun y3 =>
      if !y3 then some true
      else (impl_within fu e2.Risk 0 9).bind fun y4 =>
      if !y4 then some true
      else if decide (i3 > 0) then (idx n'.Fibers (w64 (i3 - 1))).bind fun e3 =>
      (impl_compareFibers fu e3 e2).bind fun y5 =>
      some (decide (y5 > 0))
      else some false).bind fun c5 =>
      if c5 then
        some (.ret false)
      else
        impl_IsValidNetwork_L2 fu n' fk (w64 (i3 + 1))
    else
      some (.next i3)
def impl_IsValidNetwork (fu : Nat) (n' : Network) : Option (Bool) :=
  (impl_IsValidNetwork_L1 fu n' fu 0).bind fun out => out.on some fun z2 =>
  (impl_IsValidNetwork_L2 fu n' fu 0).bind fun out => out.on some fun z =>
  ((impl_within fu (n'.Nodes.length : Int) 2 8).bind fun y6 =>
  if y6 then some (decide ((n'.Fibers.length : Int) ≤ 14))
  else some false).bind fun c6 =>
  some c6
def slices_Index_int_int_L1 (fu : Nat) (s' : List Int) (v : Int) : Nat → Int → Option (Out (Int) (Int))
  | 0, _ => none
  | fk + 1, i =>
    if decide (i < (s'.length : Int)) then
      (idx s' i).bind fun e =>
      if v == e then
        some (.ret i)
      else
        slices_Index_int_int_L1 fu s' v fk (w64 (i + 1))
    else
      some (.next i)
def slices_Index_int_int (fu : Nat) (s' : List Int) (v : Int) : Option (Int) :=
  (slices_Index_int_int_L1 fu s' v fu 0).bind fun out => out.on some fun z =>
  some (-1)
def slices_Contains_int_int (fu : Nat) (s' : List Int) (v : Int) : Option (Bool) :=
  (slices_Index_int_int fu s' v).bind fun y =>
  some (decide (y ≥ 0))
def math_bits_Mul64 (fu : Nat) (x1 : U64) (y : U64) : Option (U64 × U64) :=
  (shrk 64 x1.n 32).bind fun q =>
  (shrk 64 y.n 32).bind fun q2 =>
  (shrk 64 (wu64 ((andu64 x1.n 4294967295) * (andu64 y.n 4294967295))) 32).bind fun q3 =>
  (shrk 64 (wu64 ((wu64 (q * (andu64 y.n 4294967295))) + q3)) 32).bind fun q4 =>
  (shrk 64 (wu64 ((andu64 (wu64 ((wu64 (q * (andu64 y.n 4294967295))) + q3)) 4294967295) + (wu64 ((andu64 x1.n 4294967295) * q2)))) 32).bind fun q5 =>
  some ((⟨wu64 ((wu64 ((wu64 (q * q2)) + q4)) + q5)⟩ : U64), (⟨wu64 (x1.n * y.n)⟩ : U64))
def math_bits_Mul (fu : Nat) (x1 : U64) (y : U64) : Option (U64 × U64) :=
  (math_bits_Mul64 fu x1 y).bind fun y2 =>
  some (y2.1, y2.2)
def slices_Repeat_int_int_L1 (fu : Nat) : Nat → List Int → Int → Option (List Int × Int)
  | 0, _, _ => none
  | fk + 1, newslice, n' =>
    if decide (n' < (newslice.length : Int)) then
      (selfcp newslice n').bind fun y3 =>
      slices_Repeat_int_int_L1 fu fk y3.1 y3.2
    else
      some (newslice, n')
def slices_Repeat_int_int (fu : Nat) (x1 : List Int) (count : Int) : Option (List Int) :=
  if decide (count < 0) then
    none
  else
    (math_bits_Mul fu (⟨wu64 (x1.length : Int)⟩ : U64) (⟨wu64 count⟩ : U64)).bind fun y =>
    (if decide (y.1.n > 0) then some true
    else some (decide (y.2.n > 9223372036854775807))).bind fun c2 =>
    if c2 then
      none
    else
      (mk (0 : Int) (w64 y.2.n)).bind fun l =>
      (cpy l x1).bind fun y2 =>
      (slices_Repeat_int_int_L1 fu fu y2.1 y2.2).bind fun z =>
      some z.1
def impl_lengthsFrom_L3 (fu : Nat) (e2 : Fiber) : Nat → List Int → Bool → Int → Option (List Int × Bool × Int)
  | 0, _, _, _ => none
  | fk + 1, out5, changed3, i2 =>
    if decide (i2 < ([(⟨[e2.A, e2.B], rfl⟩ : IA 2), (⟨[e2.B, e2.A], rfl⟩ : IA 2)].length : Int)) then
      (idx [(⟨[e2.A, e2.B], rfl⟩ : IA 2), (⟨[e2.B, e2.A], rfl⟩ : IA 2)] i2).bind fun e3 =>
      (chk 0 2).bind fun q =>
      (e3.get (0 + q * 1)).bind fun e4 =>
      (idx out5 e4).bind fun e5 =>
      (if decide (e5 ≥ 0) then (chk 1 2).bind fun q2 =>
      (e3.get (0 + q2 * 1)).bind fun e6 =>
      (idx out5 e6).bind fun e7 =>
      if decide (e7 < 0) then some true
      else (chk 1 2).bind fun q3 =>
      (e3.get (0 + q3 * 1)).bind fun e8 =>
      (idx out5 e8).bind fun e9 =>
      some (decide (e9 > (w64 (e5 + e2.Length))))
      else some false).bind fun c7 =>
      if c7 then
        (chk 1 2).bind fun q4 =>
        (e3.get (0 + q4 * 1)).bind fun e10 =>
        (idx out5 e10).bind fun e11 =>
        impl_lengthsFrom_L3 fu e2 fk (out5.set (e10 : Int).toNat (w64 (e5 + e2.Length))) true (w64 (i2 + 1))
      else
        impl_lengthsFrom_L3 fu e2 fk out5 changed3 (w64 (i2 + 1))
    else
      some (out5, changed3, i2)
def impl_lengthsFrom_L2 (fu : Nat) (n' : Network) : Nat → List Int → Bool → Int → Option (List Int × Bool × Int)
  | 0, _, _, _ => none
  | fk + 1, out3, changed2, i =>
    if decide (i < (n'.Fibers.length : Int)) then
      (idx n'.Fibers i).bind fun e2 =>
      (impl_lengthsFrom_L3 fu e2 fu out3 changed2 0).bind fun z =>
      impl_lengthsFrom_L2 fu n' fk z.1 z.2.1 (w64 (i + 1))
    else
      some (out3, changed2, i)
def impl_lengthsFrom_L1 (fu : Nat) (n' : Network) : Nat → List Int → Bool → Option (List Int × Bool)
  | 0, _, _ => none
  | fk + 1, out', changed =>
    if changed then
      (impl_lengthsFrom_L2 fu n' fu out' false 0).bind fun z2 =>
      impl_lengthsFrom_L1 fu n' fk z2.1 z2.2.1
    else
      some (out', changed)
def impl_lengthsFrom (fu : Nat) (n' : Network) (from' : Int) : Option (List Int) :=
  (slices_Repeat_int_int fu [(-1)] (n'.Nodes.length : Int)).bind fun y =>
  (idx y from').bind fun e =>
  (impl_lengthsFrom_L1 fu n' fu (y.set (from' : Int).toNat 0) true).bind fun z3 =>
  some z3.1
def impl_sitesConnect_L3 (fu : Nat) (reach : Int) (y2 : List Int) : Nat → List Bool → List Int → Int → Option (List Bool × List Int × Int)
  | 0, _, _, _ => none
  | fk + 1, reached2, queue2, i2 =>
    if decide (i2 < (y2.length : Int)) then
      (idx y2 i2).bind fun e4 =>
      ((impl_within fu e4 0 reach).bind fun y3 =>
      if y3 then (idx reached2 i2).bind fun e5 =>
      some (!e5)
      else some false).bind fun c11 =>
      if c11 then
        (idx reached2 i2).bind fun e6 =>
        (app queue2 [i2]).bind fun l2 =>
        impl_sitesConnect_L3 fu reach y2 fk (reached2.set (i2 : Int).toNat true) l2 (w64 (i2 + 1))
      else
        impl_sitesConnect_L3 fu reach y2 fk reached2 queue2 (w64 (i2 + 1))
    else
      some (reached2, queue2, i2)
def impl_sitesConnect_L2 (fu : Nat) (n' : Network) (sites : List Int) (reach : Int) : Nat → Int → List Bool → List Int → Option (Int × List Bool × List Int)
  | 0, _, _, _ => none
  | fk + 1, at', reached, queue =>
    if decide (at' < (queue.length : Int)) then
      (if decide (at' > 0) then (idx queue at').bind fun e2 =>
      (slices_Contains_int_int fu sites e2).bind fun y =>
      some (!y)
      else some false).bind fun c7 =>
      if c7 then
        impl_sitesConnect_L2 fu n' sites reach fk (w64 (at' + 1)) reached queue
      else
        (idx queue at').bind fun e3 =>
        (impl_lengthsFrom fu n' e3).bind fun y2 =>
        (impl_sitesConnect_L3 fu reach y2 fu reached queue 0).bind fun z =>
        impl_sitesConnect_L2 fu n' sites reach fk (w64 (at' + 1)) z.1 z.2.1
    else
      some (at', reached, queue)
def impl_sitesConnect_L4 (fu : Nat) (reached4 : List Bool) (y4 : List Int) : Nat → Int → Option (Out (Int) (Bool))
  | 0, _ => none
  | fk + 1, i4 =>
    if decide (i4 < (y4.length : Int)) then
      (idx y4 i4).bind fun e7 =>
      (if decide (e7 ≥ 0) then (idx reached4 i4).bind fun e8 =>
      some (!e8)
      else some false).bind fun c18 =>
      if c18 then
        some (.ret false)
      else
        impl_sitesConnect_L4 fu reached4 y4 fk (w64 (i4 + 1))
    else
      some (.next i4)
def impl_sitesConnect_L1 (fu : Nat) (n' : Network) (sites : List Int) (reach : Int) : Nat → Int → Option (Out (Int) (Bool))
  | 0, _ => none
  | fk + 1, i =>
    if decide (i < (n'.Nodes.length : Int)) then
      (mk (false : Bool) (n'.Nodes.length : Int)).bind fun l =>
      (idx l i).bind fun e =>
      (impl_sitesConnect_L2 fu n' sites reach fu 0 (l.set (i : Int).toNat true) [i]).bind fun z3 =>
      (impl_lengthsFrom fu n' i).bind fun y4 =>
      (impl_sitesConnect_L4 fu z3.2.1 y4 fu 0).bind fun out => out.on (fun r => some (.ret r)) fun z2 =>
      impl_sitesConnect_L1 fu n' sites reach fk (w64 (i + 1))
    else
      some (.next i)
def impl_sitesConnect (fu : Nat) (n' : Network) (sites : List Int) (reach : Int) : Option (Bool) :=
  (impl_sitesConnect_L1 fu n' sites reach fu 0).bind fun out => out.on some fun z4 =>
  some true
def laws_eqStringS_L1 (fu : Nat) (a' : List ByteArray) (b' : List ByteArray) : Nat → Int → Option (Out (Int) (Bool))
  | 0, _ => none
  | fk + 1, i =>
    if decide (i < (a'.length : Int)) then
      (idx a' i).bind fun e =>
      (idx b' i).bind fun e2 =>
      if !(e.toList == e2.toList) then
        some (.ret false)
      else
        laws_eqStringS_L1 fu a' b' fk (w64 (i + 1))
    else
      some (.next i)
def laws_eqStringS (fu : Nat) (a' : List ByteArray) (b' : List ByteArray) : Option (Bool) :=
  if (a'.length : Int) != (b'.length : Int) then
    some false
  else
    (laws_eqStringS_L1 fu a' b' fu 0).bind fun out => out.on some fun z =>
    some true
def laws_eqFiber (fu : Nat) (a' : Fiber) (b' : Fiber) : Option (Bool) :=
  if a'.A != b'.A then
    some false
  else
    if a'.B != b'.B then
      some false
    else
      if a'.Length != b'.Length then
        some false
      else
        if a'.Risk != b'.Risk then
          some false
        else
          some true
def laws_eqFiberS_L1 (fu : Nat) (a' : List Fiber) (b' : List Fiber) : Nat → Int → Option (Out (Int) (Bool))
  | 0, _ => none
  | fk + 1, i =>
    if decide (i < (a'.length : Int)) then
      (idx a' i).bind fun e =>
      (idx b' i).bind fun e2 =>
      (laws_eqFiber fu e e2).bind fun y =>
      if !y then
        some (.ret false)
      else
        laws_eqFiberS_L1 fu a' b' fk (w64 (i + 1))
    else
      some (.next i)
def laws_eqFiberS (fu : Nat) (a' : List Fiber) (b' : List Fiber) : Option (Bool) :=
  if (a'.length : Int) != (b'.length : Int) then
    some false
  else
    (laws_eqFiberS_L1 fu a' b' fu 0).bind fun out => out.on some fun z =>
    some true
def laws_eqNetwork (fu : Nat) (a' : Network) (b' : Network) : Option (Bool) :=
  (laws_eqStringS fu a'.Nodes b'.Nodes).bind fun y =>
  if !y then
    some false
  else
    (laws_eqFiberS fu a'.Fibers b'.Fibers).bind fun y2 =>
    if !y2 then
      some false
    else
      some true
def laws_eqIntS_L1 (fu : Nat) (a' : List Int) (b' : List Int) : Nat → Int → Option (Out (Int) (Bool))
  | 0, _ => none
  | fk + 1, i =>
    if decide (i < (a'.length : Int)) then
      (idx a' i).bind fun e =>
      (idx b' i).bind fun e2 =>
      if e != e2 then
        some (.ret false)
      else
        laws_eqIntS_L1 fu a' b' fk (w64 (i + 1))
    else
      some (.next i)
def laws_eqIntS (fu : Nat) (a' : List Int) (b' : List Int) : Option (Bool) :=
  if (a'.length : Int) != (b'.length : Int) then
    some false
  else
    (laws_eqIntS_L1 fu a' b' fu 0).bind fun out => out.on some fun z =>
    some true
def spec_l1Own (fu : Nat) (l : List Int) : Option (List Int) :=
  (app ([] : List Int) l).bind fun l2 =>
  some l2
def spec_l19Choose_L1 (fu : Nat) (n' : Network) (reach : Int) (sites : List Int) (k' : Int) (rec_ : (Network) → (Int) → (List Int) → (Int) → (Int) → Option (List Int × Bool)) : Nat → Int → Option (Out (Int) (List Int × Bool))
  | 0, _ => none
  | fk + 1, i =>
    if decide ((w64 (i + k')) ≤ (n'.Nodes.length : Int)) then
      (spec_l1Own fu sites).bind fun y2 =>
      (app y2 [i]).bind fun l =>
      (rec_ n' reach l (w64 (i + 1)) (w64 (k' - 1))).bind fun y3 =>
      if y3.2 then
        some (.ret (y3.1, true))
      else
        spec_l19Choose_L1 fu n' reach sites k' rec_ fk (w64 (i + 1))
    else
      some (.next i)
def spec_l19Choose_B (fu : Nat) (rec_ : (Network) → (Int) → (List Int) → (Int) → (Int) → Option (List Int × Bool)) (n' : Network) (reach : Int) (sites : List Int) (from' : Int) (k' : Int) : Option (List Int × Bool) :=
  if k' == 0 then
    (spec_l19Connect fu n' sites reach).bind fun y =>
    some (sites, y)
  else
    (spec_l19Choose_L1 fu n' reach sites k' rec_ fu from').bind fun out => out.on some fun z =>
    some (([] : List Int), false)
def spec_l19Choose : Nat → (Network) → (Int) → (List Int) → (Int) → (Int) → Option (List Int × Bool)
  | 0, _, _, _, _, _ => none
  | fu + 1, n', reach, sites, from', k' => spec_l19Choose_B fu (fun n' reach sites from' k' => spec_l19Choose fu n' reach sites from' k') n' reach sites from' k'
def spec_FewestSites_L1 (fu : Nat) (n' : Network) (reach : Int) : Nat → Int → Option (Out (Int) (List Int × Bool × Bool))
  | 0, _ => none
  | fk + 1, k' =>
    if decide (k' ≤ (n'.Nodes.length : Int)) then
      (spec_l19Choose fu n' reach ([] : List Int) 0 k').bind fun y3 =>
      if y3.2 then
        some (.ret (y3.1, true, true))
      else
        spec_FewestSites_L1 fu n' reach fk (w64 (k' + 1))
    else
      some (.next k')
def spec_FewestSites (fu : Nat) (n' : Network) (reach : Int) : Option (List Int × Bool × Bool) :=
  ((spec_l2Good fu n').bind fun y =>
  if !y then some true
  else (spec_l1In fu reach 1 20000).bind fun y2 =>
  some (!y2)).bind fun c3 =>
  if c3 then
    some (([] : List Int), false, false)
  else
    (spec_FewestSites_L1 fu n' reach fu 0).bind fun out => out.on some fun z =>
    some (([] : List Int), false, true)
def slices_Clone_int_int (fu : Nat) (s' : List Int) : Option (List Int) :=
  nilCase s' (some []) ((app ([] : List Int) s').bind fun l =>
  some l)
def impl_FewestSites_c1 (fu : Nat) (list : List Int) (cap : Network) (cap2 : Int) : Option (Bool) :=
  (impl_sitesConnect fu cap list cap2).bind fun y =>
  some y
def impl_fewest_c1 (fu : Nat) (list : List Int) (cap : List Int) (cap2 : Network) (cap3 : Int) : Option (Bool × List Int) :=
  (slices_Clone_int_int fu list).bind fun y =>
  (impl_FewestSites_c1 fu list cap2 cap3).bind fun y2 =>
  some (y2, y)
def impl_choices_of_fewest_c1_L1 (fu : Nat) (n' : Int) (count : Int) (list : List Int) (cap2 : Network) (cap3 : Int) (rec_ : (Int) → (Int) → (Int) → (List Int) → (List Int) → (Network) → (Int) → Option (Bool × List Int)) : Nat → Int → List Int → Option (Out (Int × List Int) (Bool × List Int))
  | 0, _, _ => none
  | fk + 1, k', m =>
    if decide (k' < n') then
      (app list [k']).bind fun l =>
      (rec_ (w64 (k' + 1)) n' (w64 (count - 1)) l m cap2 cap3).bind fun y2 =>
      if y2.1 then
        some (.ret (true, y2.2))
      else
        impl_choices_of_fewest_c1_L1 fu n' count list cap2 cap3 rec_ fk (w64 (k' + 1)) y2.2
    else
      some (.next (k', m))
def impl_choices_of_fewest_c1_B (fu : Nat) (rec_ : (Int) → (Int) → (Int) → (List Int) → (List Int) → (Network) → (Int) → Option (Bool × List Int)) (from' : Int) (n' : Int) (count : Int) (list : List Int) (cap : List Int) (cap2 : Network) (cap3 : Int) : Option (Bool × List Int) :=
  if count == 0 then
    (impl_fewest_c1 fu list cap cap2 cap3).bind fun y =>
    some (y.1, y.2)
  else
    (impl_choices_of_fewest_c1_L1 fu n' count list cap2 cap3 rec_ fu from' cap).bind fun out => out.on some fun z =>
    some (false, z.2)
def impl_choices_of_fewest_c1 : Nat → (Int) → (Int) → (Int) → (List Int) → (List Int) → (Network) → (Int) → Option (Bool × List Int)
  | 0, _, _, _, _, _, _, _ => none
  | fu + 1, from', n', count, list, cap, cap2, cap3 => impl_choices_of_fewest_c1_B fu (fun from' n' count list cap cap2 cap3 => impl_choices_of_fewest_c1 fu from' n' count list cap cap2 cap3) from' n' count list cap cap2 cap3
def impl_fewest_of_FewestSites_c1_L1 (fu : Nat) (n' : Int) (cap : Network) (cap2 : Int) : Nat → Int → List Int → Option (Out (Int × List Int) (List Int × Bool))
  | 0, _, _ => none
  | fk + 1, i, m =>
    if decide (i < (w64 (n' + 1))) then
      (impl_choices_of_fewest_c1 fu 0 n' i [] m cap cap2).bind fun y =>
      if y.1 then
        some (.ret (y.2, true))
      else
        impl_fewest_of_FewestSites_c1_L1 fu n' cap cap2 fk (w64 (i + 1)) y.2
    else
      some (.next (i, m))
def impl_fewest_of_FewestSites_c1 (fu : Nat) (n' : Int) (cap : Network) (cap2 : Int) : Option (List Int × Bool) :=
  (impl_fewest_of_FewestSites_c1_L1 fu n' cap cap2 fu 0 ([] : List Int)).bind fun out => out.on some fun z =>
  some ([], false)
def impl_FewestSites (fu : Nat) (n' : Network) (reach : Int) : Option (List Int × Bool × Bool) :=
  ((impl_IsValidNetwork fu n').bind fun y =>
  if !y then some true
  else (impl_within fu reach 1 20000).bind fun y2 =>
  some (!y2)).bind fun c3 =>
  if c3 then
    some ([], false, false)
  else
    (impl_fewest_of_FewestSites_c1 fu (n'.Nodes.length : Int) n' reach).bind fun y3 =>
    some (y3.1, y3.2, true)
def laws_markText_L1 (fu : Nat) : Nat → Int → ByteArray → Option (Int × ByteArray)
  | 0, _, _ => none
  | fk + 1, k2, out' =>
    if decide (k2 > 0) then
      (rem k2 10).bind fun q =>
      (scat (bstr [(⟨wu8 (w64 (48 + q))⟩ : By)]) out').bind fun s' =>
      (quo k2 10).bind fun q2 =>
      laws_markText_L1 fu fk q2 s'
    else
      some (k2, out')
def laws_markText (fu : Nat) (k' : Int) : Option (ByteArray) :=
  if decide (k' ≤ 0) then
    some (⟨#[109, 48]⟩ : ByteArray)
  else
    (laws_markText_L1 fu fu k' ByteArray.empty).bind fun z =>
    (scat (⟨#[109]⟩ : ByteArray) z.2).bind fun s2 =>
    some s2
def laws_markStringS_L1 (fu : Nat) : Nat → List ByteArray → Int → Int → Option (List ByteArray × Int × Int)
  | 0, _, _, _ => none
  | fk + 1, a2, k2, i =>
    if decide (i < (a2.length : Int)) then
      (laws_markText fu k2).bind fun y =>
      (idx a2 i).bind fun e =>
      laws_markStringS_L1 fu fk (a2.set (i : Int).toNat y) (w64 (k2 + 1)) (w64 (i + 1))
    else
      some (a2, k2, i)
def laws_markStringS (fu : Nat) (a' : List ByteArray) (k' : Int) : Option (Int × List ByteArray) :=
  (laws_markStringS_L1 fu fu a' k' 0).bind fun z =>
  some (z.2.1, z.1)
def laws_markFiberS_L1 (fu : Nat) : Nat → List Fiber → Int → Int → Option (List Fiber × Int × Int)
  | 0, _, _, _ => none
  | fk + 1, a2, k2, i =>
    if decide (i < (a2.length : Int)) then
      (idx a2 i).bind fun e =>
      (idx (a2.set (i : Int).toNat ({ A := k2, B := e.B, Length := e.Length, Risk := e.Risk } : Fiber)) i).bind fun e2 =>
      (idx ((a2.set (i : Int).toNat ({ A := k2, B := e.B, Length := e.Length, Risk := e.Risk } : Fiber)).set (i : Int).toNat ({ A := e2.A, B := w64 (k2 + 1), Length := e2.Length, Risk := e2.Risk } : Fiber)) i).bind fun e3 =>
      (idx (((a2.set (i : Int).toNat ({ A := k2, B := e.B, Length := e.Length, Risk := e.Risk } : Fiber)).set (i : Int).toNat ({ A := e2.A, B := w64 (k2 + 1), Length := e2.Length, Risk := e2.Risk } : Fiber)).set (i : Int).toNat ({ A := e3.A, B := e3.B, Length := w64 ((w64 (k2 + 1)) + 1), Risk := e3.Risk } : Fiber)) i).bind fun e4 =>
      laws_markFiberS_L1 fu fk ((((a2.set (i : Int).toNat ({ A := k2, B := e.B, Length := e.Length, Risk := e.Risk } : Fiber)).set (i : Int).toNat ({ A := e2.A, B := w64 (k2 + 1), Length := e2.Length, Risk := e2.Risk } : Fiber)).set (i : Int).toNat ({ A := e3.A, B := e3.B, Length := w64 ((w64 (k2 + 1)) + 1), Risk := e3.Risk } : Fiber)).set (i : Int).toNat ({ A := e4.A, B := e4.B, Length := e4.Length, Risk := w64 ((w64 ((w64 (k2 + 1)) + 1)) + 1) } : Fiber)) (w64 ((w64 ((w64 ((w64 (k2 + 1)) + 1)) + 1)) + 1)) (w64 (i + 1))
    else
      some (a2, k2, i)
def laws_markFiberS (fu : Nat) (a' : List Fiber) (k' : Int) : Option (Int × List Fiber) :=
  (laws_markFiberS_L1 fu fu a' k' 0).bind fun z =>
  some (z.2.1, z.1)
def laws_markNetwork (fu : Nat) (a' : Network) (k' : Int) : Option (Int × Network) :=
  (laws_markStringS fu a'.Nodes k').bind fun y =>
  (laws_markFiberS fu a'.Fibers y.1).bind fun y2 =>
  some (y2.1, ({ Nodes := y.2, Fibers := y2.2 } : Network))
def laws_markIntS_L1 (fu : Nat) : Nat → List Int → Int → Int → Option (List Int × Int × Int)
  | 0, _, _, _ => none
  | fk + 1, a2, k2, i =>
    if decide (i < (a2.length : Int)) then
      (idx a2 i).bind fun e =>
      laws_markIntS_L1 fu fk (a2.set (i : Int).toNat k2) (w64 (k2 + 1)) (w64 (i + 1))
    else
      some (a2, k2, i)
def laws_markIntS (fu : Nat) (a' : List Int) (k' : Int) : Option (Int × List Int) :=
  (laws_markIntS_L1 fu fu a' k' 0).bind fun z =>
  some (z.2.1, z.1)
def laws_heldIntS_L1 (fu : Nat) (a' : List Int) : Nat → Int → Int → Option (Out (Int × Int) (Int))
  | 0, _, _ => none
  | fk + 1, k2, i =>
    if decide (i < (a'.length : Int)) then
      (idx a' i).bind fun e =>
      if e != k2 then
        some (.ret (-1))
      else
        laws_heldIntS_L1 fu a' fk (w64 (k2 + 1)) (w64 (i + 1))
    else
      some (.next (k2, i))
def laws_heldIntS (fu : Nat) (a' : List Int) (k' : Int) : Option (Int) :=
  (laws_heldIntS_L1 fu a' fu k' 0).bind fun out => out.on some fun z =>
  some z.1
def laws_FnExactFewestSites (fu : Nat) (aN : Network) (aReach : Int) : Option (Bool) :=
  (laws_szNetwork fu aN 1048576).bind fun y =>
  if decide (y < 0) then
    some true
  else
    (laws_toNetwork fu aN).bind fun y2 =>
    (spec_FewestSites fu y2 aReach).bind fun y3 =>
    (laws_toNetwork fu aN).bind fun y4 =>
    (impl_FewestSites fu y4 aReach).bind fun y5 =>
    ((laws_eqIntS fu y5.1 y3.1).bind fun y6 =>
    if !y6 then some true
    else if y5.2.1 != y3.2.1 then some true
    else some (y5.2.2 != y3.2.2)).bind fun c9 =>
    if c9 then
      some false
    else
      (laws_toNetwork fu aN).bind fun y7 =>
      (laws_eqNetwork fu y4 y7).bind fun y8 =>
      if !y8 then
        some false
      else
        (laws_markNetwork fu y4 1).bind fun y9 =>
        (if decide (y9.1 < 0) then some true
        else (laws_eqIntS fu y5.1 y3.1).bind fun y10 =>
        if !y10 then some true
        else if y5.2.1 != y3.2.1 then some true
        else some (y5.2.2 != y3.2.2)).bind fun c12 =>
        if c12 then
          some false
        else
          (laws_markIntS fu y5.1 1).bind fun y11 =>
          (laws_heldIntS fu y11.2 1).bind fun y12 =>
          if decide (y12 < 0) then
            some false
          else
            if y12 != y11.1 then
              some false
            else
              (laws_toNetwork fu aN).bind fun y13 =>
              (impl_FewestSites fu y13 aReach).bind fun y14 =>
              ((laws_eqIntS fu y14.1 y3.1).bind fun y15 =>
              if !y15 then some true
              else if y14.2.1 != y3.2.1 then some true
              else some (y14.2.2 != y3.2.2)).bind fun c16 =>
              if c16 then
                some false
              else
                (laws_heldIntS fu y11.2 1).bind fun y16 =>
                if decide (y16 < 0) then
                  some false
                else
                  if y16 != y11.1 then
                    some false
                  else
                    some true
end AT
