/- The Go functions told plainly, by program (gen.py). -/
import Derived.Test.YtmokfdffnijbbaaAtR
set_option linter.unusedVariables false
namespace AT
structure L1CurP where
  code : List By
  at_ : Int
  seed : U64
  deriving DecidableEq
structure Fiber where
  A : Int
  B : Int
  Length : Int
  Risk : Int
  deriving DecidableEq
structure Network where
  Nodes : List ByteArray
  Fibers : List Fiber
  deriving DecidableEq
structure Route where
  Start : Int
  Fibers : List Int
  deriving DecidableEq
structure Request where
  Route : Route
  Count : Int
  deriving DecidableEq
structure Block where
  First : Int
  Count : Int
  deriving DecidableEq
def laws_vBig (fu : Nat) (code : List By) : Option (Bool) :=
  some (decide ((code.length : Int) > 65536))
def spec_l1Cur_next (fu : Nat) (c : L1CurP) : Option (Int × L1CurP) :=
  if decide (c.at_ < (c.code.length : Int)) then
    (idx c.code c.at_).bind fun e =>
    if decide ((w64 (c.at_ + 1)) ≤ (c.code.length : Int)) then
      some (w64 e.n, ({ code := c.code, at_ := w64 (c.at_ + 1), seed := (⟨wu64 ((wu64 ((wu64 (c.seed.n * 6364136223846793005)) + (wu64 (w64 e.n)))) + 897897)⟩ : U64) } : L1CurP))
    else
      (shrk 64 (wu64 ((wu64 ((wu64 (c.seed.n * 6364136223846793005)) + (wu64 (w64 e.n)))) + 897897)) 40).bind fun q =>
      some (w64 (andu64 q 255), ({ code := c.code, at_ := w64 (c.at_ + 1), seed := (⟨wu64 ((wu64 ((wu64 (c.seed.n * 6364136223846793005)) + (wu64 (w64 e.n)))) + 897897)⟩ : U64) } : L1CurP))
  else
    if decide ((w64 (c.at_ + 1)) ≤ (c.code.length : Int)) then
      some (0, ({ code := c.code, at_ := w64 (c.at_ + 1), seed := (⟨wu64 ((wu64 ((wu64 (c.seed.n * 6364136223846793005)) + (wu64 0))) + 897897)⟩ : U64) } : L1CurP))
    else
      (shrk 64 (wu64 ((wu64 ((wu64 (c.seed.n * 6364136223846793005)) + (wu64 0))) + 897897)) 40).bind fun q2 =>
      some (w64 (andu64 q2 255), ({ code := c.code, at_ := w64 (c.at_ + 1), seed := (⟨wu64 ((wu64 ((wu64 (c.seed.n * 6364136223846793005)) + (wu64 0))) + 897897)⟩ : U64) } : L1CurP))
def spec_l1Cur_pick (fu : Nat) (c : L1CurP) (n' : Int) : Option (Int × L1CurP) :=
  if decide (n' ≤ 1) then
    some (0, c)
  else
    (spec_l1Cur_next fu c).bind fun y =>
    if decide (n' > 200) then
      (spec_l1Cur_next fu y.2).bind fun y2 =>
      (rem (w64 ((w64 (y.1 * 256)) + y2.1)) n').bind fun q =>
      some (q, y2.2)
    else
      (rem y.1 n').bind fun q2 =>
      some (q2, y.2)
def spec_l1Cur_one (fu : Nat) (c : L1CurP) (n' : Int) : Option (Bool × L1CurP) :=
  (spec_l1Cur_pick fu c n').bind fun y =>
  some (y.1 == 0, y.2)
def spec_l1Least (fu : Nat) (a' : Int) (b' : Int) : Option (Int) :=
  if decide (a' < b') then
    some a'
  else
    some b'
def spec_l1Most (fu : Nat) (a' : Int) (b' : Int) : Option (Int) :=
  if decide (a' > b') then
    some a'
  else
    some b'
def spec_l1Cur_among (fu : Nat) (c : L1CurP) (list : List Int) : Option (Int × L1CurP) :=
  (spec_l1Cur_pick fu c (list.length : Int)).bind fun y =>
  (idx list y.1).bind fun e =>
  some (e, y.2)
def spec_l2Before (fu : Nat) (f : Fiber) (g' : Fiber) : Option (Int) :=
  if f.A != g'.A then
    some (w64 (f.A - g'.A))
  else
    if f.B != g'.B then
      some (w64 (f.B - g'.B))
    else
      if f.Length != g'.Length then
        some (w64 (f.Length - g'.Length))
      else
        some (w64 (f.Risk - g'.Risk))
def spec_l2Put_L1 (fu : Nat) (list : List Fiber) (f : Fiber) : Nat → Int → Option (Int)
  | 0, _ => none
  | fk + 1, i =>
    (if decide (i < (list.length : Int)) then (idx list i).bind fun e =>
    (spec_l2Before fu e f).bind fun y =>
    some (decide (y ≤ 0))
    else some false).bind fun c2 =>
    if c2 then
      spec_l2Put_L1 fu list f fk (w64 (i + 1))
    else
      some i
def spec_l2Put (fu : Nat) (list : List Fiber) (f : Fiber) : Option (List Fiber) :=
  (spec_l2Put_L1 fu list f fu 0).bind fun z =>
  (sub list 0 z).bind fun l =>
  (sub list z (list.length : Int)).bind fun l2 =>
  (app ([] : List Fiber) l).bind fun l3 =>
  (app l3 [f]).bind fun l4 =>
  (app l4 l2).bind fun l5 =>
  some l5
def spec_l1Cur_network_L1 (fu : Nat) (y : Int × L1CurP) : Nat → Int → List By → Int → U64 → List Fiber → Option (Int × List By × Int × U64 × List Fiber)
  | 0, _, _, _, _, _ => none
  | fk + 1, i, m, m2, m3, m4 =>
    if decide (i < (w64 (2 + y.1))) then
      (rem (w64 (i + 1)) (w64 (2 + y.1))).bind fun q =>
      if i == q then spec_l1Cur_network_L1 fu y fk (w64 (i + 1)) m m2 m3 m4
      else (spec_l1Cur_one fu ({ code := m, at_ := m2, seed := m3 } : L1CurP) 10).bind fun y2 =>
      if y2.1 then
        spec_l1Cur_network_L1 fu y fk (w64 (i + 1)) y2.2.code y2.2.at_ y2.2.seed m4
      else
        (spec_l1Least fu i q).bind fun y3 =>
        (spec_l1Most fu i q).bind fun y4 =>
        (spec_l1Cur_pick fu y2.2 8).bind fun y5 =>
        (spec_l1Cur_among fu y5.2 [0, 0, 0, 1, 2]).bind fun y6 =>
        (spec_l2Put fu m4 ({ A := y3, B := y4, Length := w64 (100 * (w64 (1 + y5.1))), Risk := y6.1 } : Fiber)).bind fun y7 =>
        spec_l1Cur_network_L1 fu y fk (w64 (i + 1)) y6.2.code y6.2.at_ y6.2.seed y7
    else
      some (i, m, m2, m3, m4)
def spec_l1Cur_network_L2 (fu : Nat) (y : Int × L1CurP) : Nat → Int → List Fiber → List By → Int → U64 → Option (Int × List Fiber × List By × Int × U64)
  | 0, _, _, _, _, _ => none
  | fk + 1, m9, m10, m11, m12, m13 =>
    if decide (m9 > 0) then
      (spec_l1Cur_pick fu ({ code := m11, at_ := m12, seed := m13 } : L1CurP) (w64 (2 + y.1))).bind fun y9 =>
      (spec_l1Cur_pick fu y9.2 (w64 (2 + y.1))).bind fun y10 =>
      if y9.1 != y10.1 then
        (spec_l1Least fu y9.1 y10.1).bind fun y11 =>
        (spec_l1Most fu y9.1 y10.1).bind fun y12 =>
        (spec_l1Cur_pick fu y10.2 8).bind fun y13 =>
        (spec_l1Cur_among fu y13.2 [0, 0, 0, 1, 2]).bind fun y14 =>
        (spec_l2Put fu m10 ({ A := y11, B := y12, Length := w64 (100 * (w64 (1 + y13.1))), Risk := y14.1 } : Fiber)).bind fun y15 =>
        spec_l1Cur_network_L2 fu y fk (w64 (m9 - 1)) y15 y14.2.code y14.2.at_ y14.2.seed
      else
        spec_l1Cur_network_L2 fu y fk (w64 (m9 - 1)) m10 y10.2.code y10.2.at_ y10.2.seed
    else
      some (m9, m10, m11, m12, m13)
def spec_l1Cur_network (fu : Nat) (c : L1CurP) : Option (Network × L1CurP) :=
  (spec_l1Cur_pick fu c 5).bind fun y =>
  (sub [(⟨#[97]⟩ : ByteArray), (⟨#[98]⟩ : ByteArray), (⟨#[99]⟩ : ByteArray), (⟨#[100]⟩ : ByteArray), (⟨#[101]⟩ : ByteArray), (⟨#[102]⟩ : ByteArray)] 0 (w64 (2 + y.1))).bind fun l =>
  (spec_l1Cur_network_L1 fu y fu 0 y.2.code y.2.at_ y.2.seed []).bind fun z2 =>
  (spec_l1Cur_pick fu ({ code := z2.2.1, at_ := z2.2.2.1, seed := z2.2.2.2.1 } : L1CurP) 4).bind fun y8 =>
  (spec_l1Cur_network_L2 fu y fu y8.1 z2.2.2.2.2 y8.2.code y8.2.at_ y8.2.seed).bind fun z =>
  some (({ Nodes := l, Fibers := z.2.1 } : Network), ({ code := z.2.2.1, at_ := z.2.2.2.1, seed := z.2.2.2.2 } : L1CurP))
def spec_l2Other (fu : Nat) (n' : Network) (fiber : Int) (node : Int) : Option (Int) :=
  (idx n'.Fibers fiber).bind fun e =>
  if node == e.A then
    some e.B
  else
    if node == e.B then
      some e.A
    else
      some (-1)
def spec_l1Has_L1 (fu : Nat) (l : List Int) (n' : Int) : Nat → Int → Option (Out (Int) (Bool))
  | 0, _ => none
  | fk + 1, i =>
    if decide (i < (l.length : Int)) then
      (idx l i).bind fun e =>
      if e == n' then
        some (.ret true)
      else
        spec_l1Has_L1 fu l n' fk (w64 (i + 1))
    else
      some (.next i)
def spec_l1Has (fu : Nat) (l : List Int) (n' : Int) : Option (Bool) :=
  (spec_l1Has_L1 fu l n' fu 0).bind fun out => out.on some fun z =>
  some false
def spec_l1Cur_route_L2 (fu : Nat) (n' : Network) (y : Int × L1CurP) (seen : List Int) : Nat → List Int → Int → Option (List Int × Int)
  | 0, _, _ => none
  | fk + 1, list, i =>
    if decide (i < (n'.Fibers.length : Int)) then
      (idx seen (w64 ((seen.length : Int) - 1))).bind fun e =>
      (spec_l2Other fu n' i e).bind fun y3 =>
      (if decide (y3 ≥ 0) then (spec_l1Has fu seen y3).bind fun y4 =>
      some (!y4)
      else some false).bind fun c10 =>
      if c10 then
        (app list [i]).bind fun l =>
        spec_l1Cur_route_L2 fu n' y seen fk l (w64 (i + 1))
      else
        spec_l1Cur_route_L2 fu n' y seen fk list (w64 (i + 1))
    else
      some (list, i)
def spec_l1Cur_route_L1 (fu : Nat) (n' : Network) (y : Int × L1CurP) : Nat → List Int → Int → List Int → List By → Int → U64 → Option (List Int × Int × List Int × List By × Int × U64)
  | 0, _, _, _, _, _, _ => none
  | fk + 1, seen, m, m2, m3, m4, m5 =>
    if decide (m > 0) then
      (spec_l1Cur_route_L2 fu n' y seen fu ([] : List Int) 0).bind fun z =>
      if (z.1.length : Int) == 0 then
        some (seen, m, m2, m3, m4, m5)
      else
        (spec_l1Cur_pick fu ({ code := m3, at_ := m4, seed := m5 } : L1CurP) (z.1.length : Int)).bind fun y5 =>
        (idx z.1 y5.1).bind fun e2 =>
        (app m2 [e2]).bind fun l2 =>
        (idx seen (w64 ((seen.length : Int) - 1))).bind fun e3 =>
        (spec_l2Other fu n' e2 e3).bind fun y6 =>
        (app seen [y6]).bind fun l3 =>
        spec_l1Cur_route_L1 fu n' y fk l3 (w64 (m - 1)) l2 y5.2.code y5.2.at_ y5.2.seed
    else
      some (seen, m, m2, m3, m4, m5)
def spec_l1Cur_route (fu : Nat) (c : L1CurP) (n' : Network) : Option (Route × L1CurP) :=
  (spec_l1Cur_pick fu c (n'.Nodes.length : Int)).bind fun y =>
  (spec_l1Cur_pick fu y.2 4).bind fun y2 =>
  (spec_l1Cur_route_L1 fu n' y fu [y.1] (w64 (1 + y2.1)) ([] : List Int) y2.2.code y2.2.at_ y2.2.seed).bind fun z2 =>
  some (({ Start := y.1, Fibers := z2.2.2.1 } : Route), ({ code := z2.2.2.2.1, at_ := z2.2.2.2.2.1, seed := z2.2.2.2.2.2 } : L1CurP))
def spec_l1Cur_anyRoute (fu : Nat) (c : L1CurP) (n' : Network) : Option (Route × L1CurP) :=
  (spec_l1Cur_route fu c n').bind fun y =>
  (spec_l1Cur_pick fu y.2 16).bind fun y2 =>
  if y2.1 == 0 then
    (spec_l1Cur_pick fu y2.2 8).bind fun y3 =>
    some (({ Start := w64 (y3.1 - 1), Fibers := y.1.Fibers } : Route), y3.2)
  else
    if y2.1 == 1 then
      (spec_l1Cur_pick fu y2.2 8).bind fun y4 =>
      (app y.1.Fibers [w64 (y4.1 - 1)]).bind fun l =>
      some (({ Start := y.1.Start, Fibers := l } : Route), y4.2)
    else
      if y2.1 == 2 then
        some (({ Start := y.1.Start, Fibers := ([] : List Int) } : Route), y2.2)
      else
        if y2.1 == 3 then
          if decide ((y.1.Fibers.length : Int) > 1) then
            (idx y.1.Fibers (w64 ((y.1.Fibers.length : Int) - 1))).bind fun e =>
            (app y.1.Fibers [e]).bind fun l2 =>
            some (({ Start := y.1.Start, Fibers := l2 } : Route), y2.2)
          else
            some (y.1, y2.2)
        else
          some (y.1, y2.2)
def impl_within (fu : Nat) (n' : Int) (low : Int) (high : Int) : Option (Bool) :=
  (if decide (low ≤ n') then some (decide (n' ≤ high))
  else some false).bind fun c =>
  some c
def impl_isName_L1 (fu : Nat) (s' : ByteArray) : Nat → Int → Option (Out (Int) (Bool))
  | 0, _ => none
  | fk + 1, i =>
    if decide (i < (s'.size : Int)) then
      (sidx s' i).bind fun e =>
      (sidx s' i).bind fun e2 =>
      if decide (e.n ≥ 97) then (sidx s' i).bind fun e3 =>
      if decide (e2.n ≥ 48) then (sidx s' i).bind fun e4 =>
      (if !(decide (e3.n ≤ 122)) then if !(decide (e4.n ≤ 57)) then some true
      else some (i == 0)
      else some false).bind fun c =>
      if c then
        some (.ret false)
      else
        impl_isName_L1 fu s' fk (w64 (i + 1))
      else (if !(decide (e3.n ≤ 122)) then if !false then some true
      else some (i == 0)
      else some false).bind fun c2 =>
      if c2 then
        some (.ret false)
      else
        impl_isName_L1 fu s' fk (w64 (i + 1))
      else if decide (e2.n ≥ 48) then (sidx s' i).bind fun e5 =>
      (if !false then if !(decide (e5.n ≤ 57)) then some true
      else some (i == 0)
      else some false).bind fun c3 =>
      if c3 then
        some (.ret false)
      else
        impl_isName_L1 fu s' fk (w64 (i + 1))
      else (if !false then if !false then some true
      else some (i == 0)
      else some false).bind fun c4 =>
      if c4 then
        some (.ret false)
      else
        impl_isName_L1 fu s' fk (w64 (i + 1))
    else
      some (.next i)
def impl_isName (fu : Nat) (s' : ByteArray) : Option (Bool) :=
  (impl_isName_L1 fu s' fu 0).bind fun out => out.on some fun z =>
  (impl_within fu (s'.size : Int) 1 8).bind fun y =>
  some y
def slices_Index_string_string_L1 (fu : Nat) (s' : List ByteArray) (v : ByteArray) : Nat → Int → Option (Out (Int) (Int))
  | 0, _ => none
  | fk + 1, i =>
    if decide (i < (s'.length : Int)) then
      (idx s' i).bind fun e =>
      if v.toList == e.toList then
        some (.ret i)
      else
        slices_Index_string_string_L1 fu s' v fk (w64 (i + 1))
    else
      some (.next i)
def slices_Index_string_string (fu : Nat) (s' : List ByteArray) (v : ByteArray) : Option (Int) :=
  (slices_Index_string_string_L1 fu s' v fu 0).bind fun out => out.on some fun z =>
  some (-1)
def slices_Contains_string_string (fu : Nat) (s' : List ByteArray) (v : ByteArray) : Option (Bool) :=
  (slices_Index_string_string fu s' v).bind fun y =>
  some (decide (y ≥ 0))
def cmp_isNaN_int (fu : Nat) (x1 : Int) : Option (Bool) :=
  some (x1 != x1)
def cmp_Compare_int (fu : Nat) (x1 : Int) (y : Int) : Option (Int) :=
  (cmp_isNaN_int fu x1).bind fun y2 =>
  (cmp_isNaN_int fu y).bind fun y3 =>
  if y2 then
    if y3 then
      some 0
    else
      some (-1)
  else
    if y3 then
      some 1
    else
      if decide (x1 < y) then
        some (-1)
      else
        if decide (x1 > y) then
          some 1
        else
          some 0
def cmp_Or_int_L1 (fu : Nat) (vals : List Int) : Nat → Int → Option (Out (Int) (Int))
  | 0, _ => none
  | fk + 1, i =>
    if decide (i < (vals.length : Int)) then
      (idx vals i).bind fun e =>
      if e != 0 then
        some (.ret e)
      else
        cmp_Or_int_L1 fu vals fk (w64 (i + 1))
    else
      some (.next i)
def cmp_Or_int (fu : Nat) (vals : List Int) : Option (Int) :=
  (cmp_Or_int_L1 fu vals fu 0).bind fun out => out.on some fun z =>
  some 0
def impl_compareFibers (fu : Nat) (a' : Fiber) (b' : Fiber) : Option (Int) :=
  (cmp_Compare_int fu a'.A b'.A).bind fun y =>
  (cmp_Compare_int fu a'.B b'.B).bind fun y2 =>
  (cmp_Compare_int fu a'.Length b'.Length).bind fun y3 =>
  (cmp_Compare_int fu a'.Risk b'.Risk).bind fun y4 =>
  (cmp_Or_int fu [y, y2, y3, y4]).bind fun y5 =>
  some y5
def impl_IsValidNetwork_L1 (fu : Nat) (n' : Network) : Nat → Int → Option (Out (Int) (Bool))
  | 0, _ => none
  | fk + 1, i =>
    if decide (i < (n'.Nodes.length : Int)) then
      (idx n'.Nodes i).bind fun e =>
      ((impl_isName fu e).bind fun y =>
      if !y then some true
      else (sub n'.Nodes 0 i).bind fun l =>
      (slices_Contains_string_string fu l e).bind fun y2 =>
      some y2).bind fun c3 =>
      if c3 then
        some (.ret false)
      else
        impl_IsValidNetwork_L1 fu n' fk (w64 (i + 1))
    else
      some (.next i)
def impl_IsValidNetwork_L2 (fu : Nat) (n' : Network) : Nat → Int → Option (Out (Int) (Bool))
  | 0, _ => none
  | fk + 1, i3 =>
    if decide (i3 < (n'.Fibers.length : Int)) then
      (idx n'.Fibers i3).bind fun e2 =>
      (if decide (e2.A < 0) then some true
      else if decide (e2.A ≥ e2.B) then some true
      else if decide (e2.B ≥ (n'.Nodes.length : Int)) then some true
      else (impl_within fu e2.Length 1 5000).bind fun y3 =>
      if !y3 then some true
      else (impl_within fu e2.Risk 0 9).bind fun y4 =>
      if !y4 then some true
      else if decide (i3 > 0) then (idx n'.Fibers (w64 (i3 - 1))).bind fun e3 =>
      (impl_compareFibers fu e3 e2).bind fun y5 =>
      some (decide (y5 > 0))
      else some false).bind fun c5 =>
      if c5 then
        some (.ret false)
      else
        impl_IsValidNetwork_L2 fu n' fk (w64 (i3 + 1))
    else
      some (.next i3)
def impl_IsValidNetwork (fu : Nat) (n' : Network) : Option (Bool) :=
  (impl_IsValidNetwork_L1 fu n' fu 0).bind fun out => out.on some fun z2 =>
  (impl_IsValidNetwork_L2 fu n' fu 0).bind fun out => out.on some fun z =>
  ((impl_within fu (n'.Nodes.length : Int) 2 8).bind fun y6 =>
  if y6 then some (decide ((n'.Fibers.length : Int) ≤ 14))
  else some false).bind fun c6 =>
  some c6
def impl_otherEnd (fu : Nat) (f : Fiber) (node : Int) : Option (Int) :=
  if node == f.A then
    some f.B
  else
    if node == f.B then
      some f.A
    else
      some (-1)
def slices_Index_int_int_L1 (fu : Nat) (s' : List Int) (v : Int) : Nat → Int → Option (Out (Int) (Int))
  | 0, _ => none
  | fk + 1, i =>
    if decide (i < (s'.length : Int)) then
      (idx s' i).bind fun e =>
      if v == e then
        some (.ret i)
      else
        slices_Index_int_int_L1 fu s' v fk (w64 (i + 1))
    else
      some (.next i)
def slices_Index_int_int (fu : Nat) (s' : List Int) (v : Int) : Option (Int) :=
  (slices_Index_int_int_L1 fu s' v fu 0).bind fun out => out.on some fun z =>
  some (-1)
def slices_Contains_int_int (fu : Nat) (s' : List Int) (v : Int) : Option (Bool) :=
  (slices_Index_int_int fu s' v).bind fun y =>
  some (decide (y ≥ 0))
def impl_visited_L1 (fu : Nat) (n' : Network) (r' : Route) : Nat → List Int → Int → Int → Option (Out (List Int × Int × Int) (List Int × Bool))
  | 0, _, _, _ => none
  | fk + 1, out', at', i =>
    if decide (i < (r'.Fibers.length : Int)) then
      (idx r'.Fibers i).bind fun e =>
      (impl_within fu e 0 (w64 ((n'.Fibers.length : Int) - 1))).bind fun y2 =>
      if !y2 then
        some (.ret ([], false))
      else
        (idx n'.Fibers e).bind fun e2 =>
        (impl_otherEnd fu e2 at').bind fun y3 =>
        (if decide (y3 < 0) then some true
        else (slices_Contains_int_int fu out' y3).bind fun y4 =>
        some y4).bind fun c6 =>
        if c6 then
          some (.ret ([], false))
        else
          (app out' [y3]).bind fun l =>
          impl_visited_L1 fu n' r' fk l y3 (w64 (i + 1))
    else
      some (.next (out', at', i))
def impl_visited (fu : Nat) (n' : Network) (r' : Route) : Option (List Int × Bool) :=
  ((impl_within fu r'.Start 0 (w64 ((n'.Nodes.length : Int) - 1))).bind fun y =>
  if !y then some true
  else some ((r'.Fibers.length : Int) == 0)).bind fun c4 =>
  if c4 then
    some ([], false)
  else
    (impl_visited_L1 fu n' r' fu [r'.Start] r'.Start 0).bind fun out => out.on some fun z =>
    some (z.1, true)
def spec_l1Cur_of (fu : Nat) (c : L1CurP) (list : List ByteArray) : Option (ByteArray × L1CurP) :=
  (spec_l1Cur_pick fu c (list.length : Int)).bind fun y =>
  (idx list y.1).bind fun e =>
  some (e, y.2)
def spec_l1Cur_anyNetwork_L1 (fu : Nat) : Nat → List Fiber → List By → Int → U64 → Option (List Fiber × List By × Int × U64)
  | 0, _, _, _, _ => none
  | fk + 1, m, m2, m3, m4 =>
    (spec_l1Cur_pick fu ({ code := m2, at_ := m3, seed := m4 } : L1CurP) 2).bind fun y9 =>
    if decide ((m.length : Int) < (w64 (14 + y9.1))) then
      (idx m (w64 ((m.length : Int) - 1))).bind fun e10 =>
      (app m [e10]).bind fun l2 =>
      spec_l1Cur_anyNetwork_L1 fu fk l2 y9.2.code y9.2.at_ y9.2.seed
    else
      some (m, y9.2.code, y9.2.at_, y9.2.seed)
def spec_l1Cur_anyNetwork (fu : Nat) (c : L1CurP) : Option (Network × L1CurP) :=
  (spec_l1Cur_network fu c).bind fun y =>
  if (y.1.Fibers.length : Int) == 0 then
    some (y.1, y.2)
  else
    (spec_l1Cur_pick fu y.2 (y.1.Fibers.length : Int)).bind fun y2 =>
    (idx y.1.Fibers y2.1).bind fun e =>
    (spec_l1Cur_pick fu y2.2 24).bind fun y3 =>
    if y3.1 == 0 then
      (spec_l1Cur_of fu y3.2 [(⟨#[98]⟩ : ByteArray), ByteArray.empty, (⟨#[65]⟩ : ByteArray), (⟨#[97, 98, 99, 100, 101, 102, 103, 104]⟩ : ByteArray), (⟨#[97, 98, 99, 100, 101, 102, 103, 104, 105]⟩ : ByteArray), (⟨#[120, 49]⟩ : ByteArray)]).bind fun y4 =>
      (idx y.1.Nodes 0).bind fun e2 =>
      (idx y.1.Fibers y2.1).bind fun e3 =>
      some (({ Nodes := y.1.Nodes.set (0 : Int).toNat y4.1, Fibers := y.1.Fibers.set (y2.1 : Int).toNat e } : Network), y4.2)
    else
      if y3.1 == 1 then
        (spec_l1Cur_pick fu y3.2 8).bind fun y5 =>
        (idx y.1.Fibers y2.1).bind fun e4 =>
        some (({ Nodes := y.1.Nodes, Fibers := y.1.Fibers.set (y2.1 : Int).toNat ({ A := w64 (y5.1 - 1), B := e.B, Length := e.Length, Risk := e.Risk } : Fiber) } : Network), y5.2)
      else
        if y3.1 == 2 then
          (spec_l1Cur_pick fu y3.2 10).bind fun y6 =>
          (idx y.1.Fibers y2.1).bind fun e5 =>
          some (({ Nodes := y.1.Nodes, Fibers := y.1.Fibers.set (y2.1 : Int).toNat ({ A := e.A, B := w64 (y6.1 - 1), Length := e.Length, Risk := e.Risk } : Fiber) } : Network), y6.2)
        else
          if y3.1 == 3 then
            (spec_l1Cur_among fu y3.2 [0, 1, 5000, 5001]).bind fun y7 =>
            (idx y.1.Fibers y2.1).bind fun e6 =>
            some (({ Nodes := y.1.Nodes, Fibers := y.1.Fibers.set (y2.1 : Int).toNat ({ A := e.A, B := e.B, Length := y7.1, Risk := e.Risk } : Fiber) } : Network), y7.2)
          else
            if y3.1 == 4 then
              (spec_l1Cur_among fu y3.2 [(-1), 9, 10]).bind fun y8 =>
              (idx y.1.Fibers y2.1).bind fun e7 =>
              some (({ Nodes := y.1.Nodes, Fibers := y.1.Fibers.set (y2.1 : Int).toNat ({ A := e.A, B := e.B, Length := e.Length, Risk := y8.1 } : Fiber) } : Network), y8.2)
            else
              if y3.1 == 5 then
                (idx y.1.Fibers 0).bind fun e8 =>
                (app y.1.Fibers [e8]).bind fun l =>
                (idx l y2.1).bind fun e9 =>
                some (({ Nodes := y.1.Nodes, Fibers := l.set (y2.1 : Int).toNat e } : Network), y3.2)
              else
                if y3.1 == 6 then
                  (spec_l1Cur_anyNetwork_L1 fu fu y.1.Fibers y3.2.code y3.2.at_ y3.2.seed).bind fun z =>
                  some (({ Nodes := y.1.Nodes, Fibers := z.1 } : Network), ({ code := z.2.1, at_ := z.2.2.1, seed := z.2.2.2 } : L1CurP))
                else
                  if y3.1 == 7 then
                    (app y.1.Nodes [(⟨#[112]⟩ : ByteArray), (⟨#[113]⟩ : ByteArray), (⟨#[114]⟩ : ByteArray), (⟨#[115]⟩ : ByteArray)]).bind fun l3 =>
                    (idx y.1.Fibers y2.1).bind fun e11 =>
                    some (({ Nodes := l3, Fibers := y.1.Fibers.set (y2.1 : Int).toNat e } : Network), y3.2)
                  else
                    (idx y.1.Fibers y2.1).bind fun e12 =>
                    some (({ Nodes := y.1.Nodes, Fibers := y.1.Fibers.set (y2.1 : Int).toNat e } : Network), y3.2)
def spec_l1Cur_reach19 (fu : Nat) (c : L1CurP) : Option (Int × L1CurP) :=
  (spec_l1Cur_pick fu c 40).bind fun y =>
  (quo y.1 20).bind fun q =>
  (sub [500, 700, 800, 1000, 1500, 400, 200, 20000, 0, 20001] 0 (w64 (8 + q))).bind fun l =>
  (spec_l1Cur_among fu y.2 l).bind fun y2 =>
  some (y2.1, y2.2)
def spec_DrawRegeneratorsFor (fu : Nat) (code : List By) : Option (Network × Route × Int) :=
  (spec_l1Cur_anyNetwork fu ({ code := code, at_ := 0, seed := (⟨0⟩ : U64) } : L1CurP)).bind fun y =>
  (spec_l1Cur_anyRoute fu y.2 y.1).bind fun y2 =>
  (spec_l1Cur_reach19 fu y2.2).bind fun y3 =>
  some (y.1, y2.1, y3.1)
def impl_RouteNodes (fu : Nat) (n' : Network) (r' : Route) : Option (List Int × Bool) :=
  (impl_IsValidNetwork fu n').bind fun y =>
  if !y then
    some ([], false)
  else
    (impl_visited fu n' r').bind fun y2 =>
    some (y2.1, y2.2)
def impl_IsValidRoute (fu : Nat) (n' : Network) (r' : Route) : Option (Bool) :=
  (impl_RouteNodes fu n' r').bind fun y =>
  some y.2
def impl_regenerators_L1 (fu : Nat) (n' : Network) (r' : Route) (reach : Int) (y : List Int × Bool) : Nat → List Int → Int → Int → Option (Out (List Int × Int × Int) (List Int × Bool))
  | 0, _, _, _ => none
  | fk + 1, out', far, i =>
    if decide (i < (r'.Fibers.length : Int)) then
      (idx r'.Fibers i).bind fun e =>
      (idx n'.Fibers e).bind fun e2 =>
      if decide (e2.Length > reach) then
        some (.ret ([], false))
      else
        if decide ((w64 (far + e2.Length)) > reach) then
          (idx y.1 i).bind fun e3 =>
          (app out' [e3]).bind fun l =>
          impl_regenerators_L1 fu n' r' reach y fk l (w64 (0 + e2.Length)) (w64 (i + 1))
        else
          impl_regenerators_L1 fu n' r' reach y fk out' (w64 (far + e2.Length)) (w64 (i + 1))
    else
      some (.next (out', far, i))
def impl_regenerators (fu : Nat) (n' : Network) (r' : Route) (reach : Int) : Option (List Int × Bool) :=
  (impl_visited fu n' r').bind fun y =>
  (impl_regenerators_L1 fu n' r' reach y fu ([] : List Int) 0 0).bind fun out => out.on some fun z =>
  some (z.1, true)
def impl_RegeneratorsFor (fu : Nat) (n' : Network) (r' : Route) (reach : Int) : Option (List Int × Bool) :=
  ((impl_IsValidRoute fu n' r').bind fun y =>
  if !y then some true
  else (impl_within fu reach 1 20000).bind fun y2 =>
  some (!y2)).bind fun c4 =>
  if c4 then
    some ([], false)
  else
    (impl_regenerators fu n' r' reach).bind fun y3 =>
    some (y3.1, y3.2)
def spec_l1In (fu : Nat) (x1 : Int) (a' : Int) (b' : Int) : Option (Bool) :=
  (if decide (x1 ≥ a') then some (decide (x1 ≤ b'))
  else some false).bind fun c =>
  some c
def spec_l2Sign (fu : Nat) (b' : By) : Option (Bool) :=
  (if decide (b'.n ≥ 97) then if decide (b'.n ≤ 122) then some true
  else if decide (b'.n ≥ 48) then some (decide (b'.n ≤ 57))
  else some false
  else if decide (b'.n ≥ 48) then some (decide (b'.n ≤ 57))
  else some false).bind fun c =>
  some c
def spec_l2Name_L1 (fu : Nat) (s' : ByteArray) : Nat → Int → Option (Out (Int) (Bool))
  | 0, _ => none
  | fk + 1, i =>
    if decide (i < (s'.size : Int)) then
      (sidx s' i).bind fun e3 =>
      (spec_l2Sign fu e3).bind fun y2 =>
      if !y2 then
        some (.ret false)
      else
        spec_l2Name_L1 fu s' fk (w64 (i + 1))
    else
      some (.next i)
def spec_l2Name (fu : Nat) (s' : ByteArray) : Option (Bool) :=
  ((spec_l1In fu (s'.size : Int) 1 8).bind fun y =>
  if !y then some true
  else (sidx s' 0).bind fun e =>
  if decide (e.n < 97) then some true
  else (sidx s' 0).bind fun e2 =>
  some (decide (e2.n > 122))).bind fun c =>
  if c then
    some false
  else
    (spec_l2Name_L1 fu s' fu 0).bind fun out => out.on some fun z =>
    some true
def spec_l2Find_L1 (fu : Nat) (list : List ByteArray) (name : ByteArray) : Nat → Int → Option (Out (Int) (Int))
  | 0, _ => none
  | fk + 1, i =>
    if decide (i < (list.length : Int)) then
      (idx list i).bind fun e =>
      if e.toList == name.toList then
        some (.ret i)
      else
        spec_l2Find_L1 fu list name fk (w64 (i + 1))
    else
      some (.next i)
def spec_l2Find (fu : Nat) (list : List ByteArray) (name : ByteArray) : Option (Int) :=
  (spec_l2Find_L1 fu list name fu 0).bind fun out => out.on some fun z =>
  some (-1)
def spec_l2Fiber (fu : Nat) (f : Fiber) (nodes : Int) : Option (Bool) :=
  ((spec_l1In fu f.A 0 (w64 (nodes - 1))).bind fun y =>
  if y then (spec_l1In fu f.B (w64 (f.A + 1)) (w64 (nodes - 1))).bind fun y2 =>
  if y2 then (spec_l1In fu f.Length 1 5000).bind fun y3 =>
  if y3 then (spec_l1In fu f.Risk 0 9).bind fun y4 =>
  some y4
  else some false
  else some false
  else some false).bind fun c =>
  some c
def spec_l2Good_L1 (fu : Nat) (n' : Network) : Nat → Int → Option (Out (Int) (Bool))
  | 0, _ => none
  | fk + 1, i =>
    if decide (i < (n'.Nodes.length : Int)) then
      ((idx n'.Nodes i).bind fun e =>
      (spec_l2Name fu e).bind fun y2 =>
      if !y2 then some true
      else (idx n'.Nodes i).bind fun e2 =>
      (spec_l2Find fu n'.Nodes e2).bind fun y3 =>
      some (y3 != i)).bind fun c4 =>
      if c4 then
        some (.ret false)
      else
        spec_l2Good_L1 fu n' fk (w64 (i + 1))
    else
      some (.next i)
def spec_l2Good_L2 (fu : Nat) (n' : Network) : Nat → Int → Option (Out (Int) (Bool))
  | 0, _ => none
  | fk + 1, i3 =>
    if decide (i3 < (n'.Fibers.length : Int)) then
      ((idx n'.Fibers i3).bind fun e3 =>
      (spec_l2Fiber fu e3 (n'.Nodes.length : Int)).bind fun y4 =>
      if !y4 then some true
      else if decide (i3 > 0) then (idx n'.Fibers (w64 (i3 - 1))).bind fun e4 =>
      (idx n'.Fibers i3).bind fun e5 =>
      (spec_l2Before fu e4 e5).bind fun y5 =>
      some (decide (y5 > 0))
      else some false).bind fun c5 =>
      if c5 then
        some (.ret false)
      else
        spec_l2Good_L2 fu n' fk (w64 (i3 + 1))
    else
      some (.next i3)
def spec_l2Good (fu : Nat) (n' : Network) : Option (Bool) :=
  ((spec_l1In fu (n'.Nodes.length : Int) 2 8).bind fun y =>
  if !y then some true
  else some (decide ((n'.Fibers.length : Int) > 14))).bind fun c3 =>
  if c3 then
    some false
  else
    (spec_l2Good_L1 fu n' fu 0).bind fun out => out.on some fun z2 =>
    (spec_l2Good_L2 fu n' fu 0).bind fun out => out.on some fun z =>
    some true
def spec_l4Walk_L1 (fu : Nat) (n' : Network) (r' : Route) : Nat → List Int → Int → Option (Out (List Int × Int) (List Int × Bool))
  | 0, _, _ => none
  | fk + 1, out', i =>
    if decide (i < (r'.Fibers.length : Int)) then
      (idx r'.Fibers i).bind fun e =>
      (spec_l1In fu e 0 (w64 ((n'.Fibers.length : Int) - 1))).bind fun y2 =>
      if !y2 then
        some (.ret (out', false))
      else
        (idx r'.Fibers i).bind fun e2 =>
        (idx out' (w64 ((out'.length : Int) - 1))).bind fun e3 =>
        (spec_l2Other fu n' e2 e3).bind fun y3 =>
        (if decide (y3 < 0) then some true
        else (spec_l1Has fu out' y3).bind fun y4 =>
        some y4).bind fun c6 =>
        if c6 then
          some (.ret (out', false))
        else
          (app out' [y3]).bind fun l =>
          spec_l4Walk_L1 fu n' r' fk l (w64 (i + 1))
    else
      some (.next (out', i))
def spec_l4Walk (fu : Nat) (n' : Network) (r' : Route) : Option (List Int × Bool) :=
  ((spec_l1In fu r'.Start 0 (w64 ((n'.Nodes.length : Int) - 1))).bind fun y =>
  if !y then some true
  else some ((r'.Fibers.length : Int) == 0)).bind fun c4 =>
  if c4 then
    some ([r'.Start], false)
  else
    (spec_l4Walk_L1 fu n' r' fu [r'.Start] 0).bind fun out => out.on some fun z =>
    some (z.1, true)
def spec_l4Good (fu : Nat) (n' : Network) (r' : Route) : Option (Bool) :=
  (spec_l2Good fu n').bind fun y =>
  if !y then
    some false
  else
    (spec_l4Walk fu n' r').bind fun y2 =>
    some y2.2
def spec_l4Nodes (fu : Nat) (n' : Network) (r' : Route) : Option (List Int) :=
  (spec_l4Walk fu n' r').bind fun y =>
  some y.1
def spec_RegeneratorsFor_L1 (fu : Nat) (n' : Network) (r' : Route) (reach : Int) (y3 : List Int) : Nat → List Int → Int → Int → Option (Out (List Int × Int × Int) (List Int × Bool))
  | 0, _, _, _ => none
  | fk + 1, out', sum, i =>
    if decide (i < (r'.Fibers.length : Int)) then
      (idx r'.Fibers i).bind fun e =>
      (idx n'.Fibers e).bind fun e2 =>
      if decide (e2.Length > reach) then
        some (.ret (([] : List Int), false))
      else
        if decide ((w64 (sum + e2.Length)) > reach) then
          (idx y3 i).bind fun e3 =>
          (app out' [e3]).bind fun l =>
          spec_RegeneratorsFor_L1 fu n' r' reach y3 fk l (w64 (0 + e2.Length)) (w64 (i + 1))
        else
          spec_RegeneratorsFor_L1 fu n' r' reach y3 fk out' (w64 (sum + e2.Length)) (w64 (i + 1))
    else
      some (.next (out', sum, i))
def spec_RegeneratorsFor (fu : Nat) (n' : Network) (r' : Route) (reach : Int) : Option (List Int × Bool) :=
  ((spec_l4Good fu n' r').bind fun y =>
  if !y then some true
  else (spec_l1In fu reach 1 20000).bind fun y2 =>
  some (!y2)).bind fun c4 =>
  if c4 then
    some (([] : List Int), false)
  else
    (spec_l4Nodes fu n' r').bind fun y3 =>
    (spec_RegeneratorsFor_L1 fu n' r' reach y3 fu ([] : List Int) 0 0).bind fun out => out.on some fun z =>
    some (z.1, true)
def laws_vInts_L1 (fu : Nat) (a' : List Int) (b' : List Int) : Nat → Int → Option (Out (Int) (Bool))
  | 0, _ => none
  | fk + 1, i =>
    if decide (i < (a'.length : Int)) then
      (idx a' i).bind fun e =>
      (idx b' i).bind fun e2 =>
      if e != e2 then
        some (.ret false)
      else
        laws_vInts_L1 fu a' b' fk (w64 (i + 1))
    else
      some (.next i)
def laws_vInts (fu : Nat) (a' : List Int) (b' : List Int) : Option (Bool) :=
  if (a'.length : Int) != (b'.length : Int) then
    some false
  else
    (laws_vInts_L1 fu a' b' fu 0).bind fun out => out.on some fun z =>
    some true
def impl_SegmentLengths_L1 (fu : Nat) (n' : Network) (r' : Route) (nodes : List Int) (y : List Int × Bool) : Nat → List Int → Int → Int → Int → Option (List Int × Int × Int × Int)
  | 0, _, _, _, _ => none
  | fk + 1, out', far, k', i =>
    if decide (i < (r'.Fibers.length : Int)) then
      (idx r'.Fibers i).bind fun e =>
      (if decide (i > 0) then if decide (k' < (nodes.length : Int)) then (idx nodes k').bind fun e2 =>
      (idx y.1 i).bind fun e3 =>
      some (e2 == e3)
      else some false
      else some false).bind fun c7 =>
      if c7 then
        (app out' [far]).bind fun l =>
        (idx n'.Fibers e).bind fun e4 =>
        impl_SegmentLengths_L1 fu n' r' nodes y fk l (w64 (0 + e4.Length)) (w64 (k' + 1)) (w64 (i + 1))
      else
        (idx n'.Fibers e).bind fun e5 =>
        impl_SegmentLengths_L1 fu n' r' nodes y fk out' (w64 (far + e5.Length)) k' (w64 (i + 1))
    else
      some (out', far, k', i)
def impl_SegmentLengths (fu : Nat) (n' : Network) (r' : Route) (nodes : List Int) : Option (List Int × Bool) :=
  (impl_RouteNodes fu n' r').bind fun y =>
  if !y.2 then
    some ([], false)
  else
    (impl_SegmentLengths_L1 fu n' r' nodes y fu ([] : List Int) 0 0 0).bind fun z =>
    if decide (z.2.2.1 < (nodes.length : Int)) then
      some ([], false)
    else
      (app z.1 [z.2.1]).bind fun l2 =>
      some (l2, true)
def spec_l4Length_L1 (fu : Nat) (n' : Network) (r' : Route) : Nat → Int → Int → Option (Int × Int)
  | 0, _, _ => none
  | fk + 1, sum, i =>
    if decide (i < (r'.Fibers.length : Int)) then
      (idx r'.Fibers i).bind fun e =>
      (idx n'.Fibers e).bind fun e2 =>
      spec_l4Length_L1 fu n' r' fk (w64 (sum + e2.Length)) (w64 (i + 1))
    else
      some (sum, i)
def spec_l4Length (fu : Nat) (n' : Network) (r' : Route) : Option (Int) :=
  (spec_l4Length_L1 fu n' r' fu 0 0).bind fun z =>
  some z.1
def spec_RouteLength (fu : Nat) (n' : Network) (r' : Route) : Option (Int × Bool) :=
  (spec_l4Good fu n' r').bind fun y =>
  if !y then
    some (0, false)
  else
    (spec_l4Length fu n' r').bind fun y2 =>
    some (y2, true)
def laws_rWithout (fu : Nat) (list : List Int) (i : Int) : Option (List Int) :=
  (sub list 0 i).bind fun l =>
  (sub list (w64 (i + 1)) (list.length : Int)).bind fun l2 =>
  (app ([] : List Int) l).bind fun l3 =>
  (app l3 l2).bind fun l4 =>
  some l4
def spec_DrawFewestSites (fu : Nat) (code : List By) : Option (Network × Int) :=
  (spec_l1Cur_anyNetwork fu ({ code := code, at_ := 0, seed := (⟨0⟩ : U64) } : L1CurP)).bind fun y =>
  (spec_l1Cur_reach19 fu y.2).bind fun y2 =>
  some (y.1, y2.1)
def slices_Clone_int_int (fu : Nat) (s' : List Int) : Option (List Int) :=
  nilCase s' (some []) ((app ([] : List Int) s').bind fun l =>
  some l)
def math_bits_Mul64 (fu : Nat) (x1 : U64) (y : U64) : Option (U64 × U64) :=
  (shrk 64 x1.n 32).bind fun q =>
  (shrk 64 y.n 32).bind fun q2 =>
  (shrk 64 (wu64 ((andu64 x1.n 4294967295) * (andu64 y.n 4294967295))) 32).bind fun q3 =>
  (shrk 64 (wu64 ((wu64 (q * (andu64 y.n 4294967295))) + q3)) 32).bind fun q4 =>
  (shrk 64 (wu64 ((andu64 (wu64 ((wu64 (q * (andu64 y.n 4294967295))) + q3)) 4294967295) + (wu64 ((andu64 x1.n 4294967295) * q2)))) 32).bind fun q5 =>
  some ((⟨wu64 ((wu64 ((wu64 (q * q2)) + q4)) + q5)⟩ : U64), (⟨wu64 (x1.n * y.n)⟩ : U64))
def math_bits_Mul (fu : Nat) (x1 : U64) (y : U64) : Option (U64 × U64) :=
  (math_bits_Mul64 fu x1 y).bind fun y2 =>
  some (y2.1, y2.2)
def slices_Repeat_int_int_L1 (fu : Nat) : Nat → List Int → Int → Option (List Int × Int)
  | 0, _, _ => none
  | fk + 1, newslice, n' =>
    if decide (n' < (newslice.length : Int)) then
      (selfcp newslice n').bind fun y3 =>
      slices_Repeat_int_int_L1 fu fk y3.1 y3.2
    else
      some (newslice, n')
def slices_Repeat_int_int (fu : Nat) (x1 : List Int) (count : Int) : Option (List Int) :=
  if decide (count < 0) then
    none
  else
    (math_bits_Mul fu (⟨wu64 (x1.length : Int)⟩ : U64) (⟨wu64 count⟩ : U64)).bind fun y =>
    (if decide (y.1.n > 0) then some true
    else some (decide (y.2.n > 9223372036854775807))).bind fun c2 =>
    if c2 then
      none
    else
      (mk (0 : Int) (w64 y.2.n)).bind fun l =>
      (cpy l x1).bind fun y2 =>
      (slices_Repeat_int_int_L1 fu fu y2.1 y2.2).bind fun z =>
      some z.1
def impl_lengthsFrom_L3 (fu : Nat) (e2 : Fiber) : Nat → List Int → Bool → Int → Option (List Int × Bool × Int)
  | 0, _, _, _ => none
  | fk + 1, out5, changed3, i2 =>
    if decide (i2 < ([(⟨[e2.A, e2.B], rfl⟩ : IA 2), (⟨[e2.B, e2.A], rfl⟩ : IA 2)].length : Int)) then
      (idx [(⟨[e2.A, e2.B], rfl⟩ : IA 2), (⟨[e2.B, e2.A], rfl⟩ : IA 2)] i2).bind fun e3 =>
      (chk 0 2).bind fun q =>
      (e3.get (0 + q * 1)).bind fun e4 =>
      (idx out5 e4).bind fun e5 =>
      (if decide (e5 ≥ 0) then (chk 1 2).bind fun q2 =>
      (e3.get (0 + q2 * 1)).bind fun e6 =>
      (idx out5 e6).bind fun e7 =>
      if decide (e7 < 0) then some true
      else (chk 1 2).bind fun q3 =>
      (e3.get (0 + q3 * 1)).bind fun e8 =>
      (idx out5 e8).bind fun e9 =>
      some (decide (e9 > (w64 (e5 + e2.Length))))
      else some false).bind fun c7 =>
      if c7 then
        (chk 1 2).bind fun q4 =>
        (e3.get (0 + q4 * 1)).bind fun e10 =>
        (idx out5 e10).bind fun e11 =>
        impl_lengthsFrom_L3 fu e2 fk (out5.set (e10 : Int).toNat (w64 (e5 + e2.Length))) true (w64 (i2 + 1))
      else
        impl_lengthsFrom_L3 fu e2 fk out5 changed3 (w64 (i2 + 1))
    else
      some (out5, changed3, i2)
def impl_lengthsFrom_L2 (fu : Nat) (n' : Network) : Nat → List Int → Bool → Int → Option (List Int × Bool × Int)
  | 0, _, _, _ => none
  | fk + 1, out3, changed2, i =>
    if decide (i < (n'.Fibers.length : Int)) then
      (idx n'.Fibers i).bind fun e2 =>
      (impl_lengthsFrom_L3 fu e2 fu out3 changed2 0).bind fun z =>
      impl_lengthsFrom_L2 fu n' fk z.1 z.2.1 (w64 (i + 1))
    else
      some (out3, changed2, i)
def impl_lengthsFrom_L1 (fu : Nat) (n' : Network) : Nat → List Int → Bool → Option (List Int × Bool)
  | 0, _, _ => none
  | fk + 1, out', changed =>
    if changed then
      (impl_lengthsFrom_L2 fu n' fu out' false 0).bind fun z2 =>
      impl_lengthsFrom_L1 fu n' fk z2.1 z2.2.1
    else
      some (out', changed)
def impl_lengthsFrom (fu : Nat) (n' : Network) (from' : Int) : Option (List Int) :=
  (slices_Repeat_int_int fu [(-1)] (n'.Nodes.length : Int)).bind fun y =>
  (idx y from').bind fun e =>
  (impl_lengthsFrom_L1 fu n' fu (y.set (from' : Int).toNat 0) true).bind fun z3 =>
  some z3.1
def impl_sitesConnect_L3 (fu : Nat) (reach : Int) (y2 : List Int) : Nat → List Bool → List Int → Int → Option (List Bool × List Int × Int)
  | 0, _, _, _ => none
  | fk + 1, reached2, queue2, i2 =>
    if decide (i2 < (y2.length : Int)) then
      (idx y2 i2).bind fun e4 =>
      ((impl_within fu e4 0 reach).bind fun y3 =>
      if y3 then (idx reached2 i2).bind fun e5 =>
      some (!e5)
      else some false).bind fun c11 =>
      if c11 then
        (idx reached2 i2).bind fun e6 =>
        (app queue2 [i2]).bind fun l2 =>
        impl_sitesConnect_L3 fu reach y2 fk (reached2.set (i2 : Int).toNat true) l2 (w64 (i2 + 1))
      else
        impl_sitesConnect_L3 fu reach y2 fk reached2 queue2 (w64 (i2 + 1))
    else
      some (reached2, queue2, i2)
def impl_sitesConnect_L2 (fu : Nat) (n' : Network) (sites : List Int) (reach : Int) : Nat → Int → List Bool → List Int → Option (Int × List Bool × List Int)
  | 0, _, _, _ => none
  | fk + 1, at', reached, queue =>
    if decide (at' < (queue.length : Int)) then
      (if decide (at' > 0) then (idx queue at').bind fun e2 =>
      (slices_Contains_int_int fu sites e2).bind fun y =>
      some (!y)
      else some false).bind fun c7 =>
      if c7 then
        impl_sitesConnect_L2 fu n' sites reach fk (w64 (at' + 1)) reached queue
      else
        (idx queue at').bind fun e3 =>
        (impl_lengthsFrom fu n' e3).bind fun y2 =>
        (impl_sitesConnect_L3 fu reach y2 fu reached queue 0).bind fun z =>
        impl_sitesConnect_L2 fu n' sites reach fk (w64 (at' + 1)) z.1 z.2.1
    else
      some (at', reached, queue)
def impl_sitesConnect_L4 (fu : Nat) (reached4 : List Bool) (y4 : List Int) : Nat → Int → Option (Out (Int) (Bool))
  | 0, _ => none
  | fk + 1, i4 =>
    if decide (i4 < (y4.length : Int)) then
      (idx y4 i4).bind fun e7 =>
      (if decide (e7 ≥ 0) then (idx reached4 i4).bind fun e8 =>
      some (!e8)
      else some false).bind fun c18 =>
      if c18 then
        some (.ret false)
      else
        impl_sitesConnect_L4 fu reached4 y4 fk (w64 (i4 + 1))
    else
      some (.next i4)
def impl_sitesConnect_L1 (fu : Nat) (n' : Network) (sites : List Int) (reach : Int) : Nat → Int → Option (Out (Int) (Bool))
  | 0, _ => none
  | fk + 1, i =>
    if decide (i < (n'.Nodes.length : Int)) then
      (mk (false : Bool) (n'.Nodes.length : Int)).bind fun l =>
      (idx l i).bind fun e =>
      (impl_sitesConnect_L2 fu n' sites reach fu 0 (l.set (i : Int).toNat true) [i]).bind fun z3 =>
      (impl_lengthsFrom fu n' i).bind fun y4 =>
      (impl_sitesConnect_L4 fu z3.2.1 y4 fu 0).bind fun out => out.on (fun r => some (.ret r)) fun z2 =>
      impl_sitesConnect_L1 fu n' sites reach fk (w64 (i + 1))
    else
      some (.next i)
def impl_sitesConnect (fu : Nat) (n' : Network) (sites : List Int) (reach : Int) : Option (Bool) :=
  (impl_sitesConnect_L1 fu n' sites reach fu 0).bind fun out => out.on some fun z4 =>
  some true
def impl_FewestSites_c1 (fu : Nat) (list : List Int) (cap : Network) (cap2 : Int) : Option (Bool) :=
  (impl_sitesConnect fu cap list cap2).bind fun y =>
  some y
def impl_fewest_c1 (fu : Nat) (list : List Int) (cap : List Int) (cap2 : Network) (cap3 : Int) : Option (Bool × List Int) :=
  (slices_Clone_int_int fu list).bind fun y =>
  (impl_FewestSites_c1 fu list cap2 cap3).bind fun y2 =>
  some (y2, y)
def impl_choices_of_fewest_c1_L1 (fu : Nat) (n' : Int) (count : Int) (list : List Int) (cap2 : Network) (cap3 : Int) (rec_ : (Int) → (Int) → (Int) → (List Int) → (List Int) → (Network) → (Int) → Option (Bool × List Int)) : Nat → Int → List Int → Option (Out (Int × List Int) (Bool × List Int))
  | 0, _, _ => none
  | fk + 1, k', m =>
    if decide (k' < n') then
      (app list [k']).bind fun l =>
      (rec_ (w64 (k' + 1)) n' (w64 (count - 1)) l m cap2 cap3).bind fun y2 =>
      if y2.1 then
        some (.ret (true, y2.2))
      else
        impl_choices_of_fewest_c1_L1 fu n' count list cap2 cap3 rec_ fk (w64 (k' + 1)) y2.2
    else
      some (.next (k', m))
def impl_choices_of_fewest_c1_B (fu : Nat) (rec_ : (Int) → (Int) → (Int) → (List Int) → (List Int) → (Network) → (Int) → Option (Bool × List Int)) (from' : Int) (n' : Int) (count : Int) (list : List Int) (cap : List Int) (cap2 : Network) (cap3 : Int) : Option (Bool × List Int) :=
  if count == 0 then
    (impl_fewest_c1 fu list cap cap2 cap3).bind fun y =>
    some (y.1, y.2)
  else
    (impl_choices_of_fewest_c1_L1 fu n' count list cap2 cap3 rec_ fu from' cap).bind fun out => out.on some fun z =>
    some (false, z.2)
def impl_choices_of_fewest_c1 : Nat → (Int) → (Int) → (Int) → (List Int) → (List Int) → (Network) → (Int) → Option (Bool × List Int)
  | 0, _, _, _, _, _, _, _ => none
  | fu + 1, from', n', count, list, cap, cap2, cap3 => impl_choices_of_fewest_c1_B fu (fun from' n' count list cap cap2 cap3 => impl_choices_of_fewest_c1 fu from' n' count list cap cap2 cap3) from' n' count list cap cap2 cap3
def impl_fewest_of_FewestSites_c1_L1 (fu : Nat) (n' : Int) (cap : Network) (cap2 : Int) : Nat → Int → List Int → Option (Out (Int × List Int) (List Int × Bool))
  | 0, _, _ => none
  | fk + 1, i, m =>
    if decide (i < (w64 (n' + 1))) then
      (impl_choices_of_fewest_c1 fu 0 n' i [] m cap cap2).bind fun y =>
      if y.1 then
        some (.ret (y.2, true))
      else
        impl_fewest_of_FewestSites_c1_L1 fu n' cap cap2 fk (w64 (i + 1)) y.2
    else
      some (.next (i, m))
def impl_fewest_of_FewestSites_c1 (fu : Nat) (n' : Int) (cap : Network) (cap2 : Int) : Option (List Int × Bool) :=
  (impl_fewest_of_FewestSites_c1_L1 fu n' cap cap2 fu 0 ([] : List Int)).bind fun out => out.on some fun z =>
  some ([], false)
def impl_FewestSites (fu : Nat) (n' : Network) (reach : Int) : Option (List Int × Bool × Bool) :=
  ((impl_IsValidNetwork fu n').bind fun y =>
  if !y then some true
  else (impl_within fu reach 1 20000).bind fun y2 =>
  some (!y2)).bind fun c3 =>
  if c3 then
    some ([], false, false)
  else
    (impl_fewest_of_FewestSites_c1 fu (n'.Nodes.length : Int) n' reach).bind fun y3 =>
    some (y3.1, y3.2, true)
def spec_l19From_L1 (fu : Nat) (n' : Network) : Nat → List Int → Int → Option (List Int × Int)
  | 0, _, _ => none
  | fk + 1, out', i =>
    if decide (i < (n'.Nodes.length : Int)) then
      (app out' [(-1)]).bind fun l =>
      spec_l19From_L1 fu n' fk l (w64 (i + 1))
    else
      some (out', i)
def spec_l19From_L3 (fu : Nat) (n' : Network) : Nat → List Int → Bool → Int → Option (List Int × Bool × Int)
  | 0, _, _, _ => none
  | fk + 1, out6, more2, i3 =>
    if decide (i3 < (n'.Fibers.length : Int)) then
      (idx n'.Fibers i3).bind fun e2 =>
      ((idx out6 e2.A).bind fun e3 =>
      if decide (e3 ≥ 0) then (idx out6 e2.B).bind fun e4 =>
      if decide (e4 < 0) then some true
      else (idx out6 e2.A).bind fun e5 =>
      (idx out6 e2.B).bind fun e6 =>
      some (decide ((w64 (e5 + e2.Length)) < e6))
      else some false).bind fun c8 =>
      if c8 then
        (idx out6 e2.A).bind fun e7 =>
        (idx out6 e2.B).bind fun e8 =>
        ((idx (out6.set (e2.B : Int).toNat (w64 (e7 + e2.Length))) e2.B).bind fun e9 =>
        if decide (e9 ≥ 0) then (idx (out6.set (e2.B : Int).toNat (w64 (e7 + e2.Length))) e2.A).bind fun e10 =>
        if decide (e10 < 0) then some true
        else (idx (out6.set (e2.B : Int).toNat (w64 (e7 + e2.Length))) e2.B).bind fun e11 =>
        (idx (out6.set (e2.B : Int).toNat (w64 (e7 + e2.Length))) e2.A).bind fun e12 =>
        some (decide ((w64 (e11 + e2.Length)) < e12))
        else some false).bind fun c9 =>
        if c9 then
          (idx (out6.set (e2.B : Int).toNat (w64 (e7 + e2.Length))) e2.B).bind fun e13 =>
          (idx (out6.set (e2.B : Int).toNat (w64 (e7 + e2.Length))) e2.A).bind fun e14 =>
          spec_l19From_L3 fu n' fk ((out6.set (e2.B : Int).toNat (w64 (e7 + e2.Length))).set (e2.A : Int).toNat (w64 (e13 + e2.Length))) true (w64 (i3 + 1))
        else
          spec_l19From_L3 fu n' fk (out6.set (e2.B : Int).toNat (w64 (e7 + e2.Length))) true (w64 (i3 + 1))
      else
        ((idx out6 e2.B).bind fun e15 =>
        if decide (e15 ≥ 0) then (idx out6 e2.A).bind fun e16 =>
        if decide (e16 < 0) then some true
        else (idx out6 e2.B).bind fun e17 =>
        (idx out6 e2.A).bind fun e18 =>
        some (decide ((w64 (e17 + e2.Length)) < e18))
        else some false).bind fun c10 =>
        if c10 then
          (idx out6 e2.B).bind fun e19 =>
          (idx out6 e2.A).bind fun e20 =>
          spec_l19From_L3 fu n' fk (out6.set (e2.A : Int).toNat (w64 (e19 + e2.Length))) true (w64 (i3 + 1))
        else
          spec_l19From_L3 fu n' fk out6 more2 (w64 (i3 + 1))
    else
      some (out6, more2, i3)
def spec_l19From_L2 (fu : Nat) (n' : Network) : Nat → List Int → Bool → Option (List Int × Bool)
  | 0, _, _ => none
  | fk + 1, out4, more =>
    if more then
      (spec_l19From_L3 fu n' fu out4 false 0).bind fun z =>
      spec_l19From_L2 fu n' fk z.1 z.2.1
    else
      some (out4, more)
def spec_l19From (fu : Nat) (n' : Network) (node : Int) : Option (List Int) :=
  (spec_l19From_L1 fu n' fu ([] : List Int) 0).bind fun z3 =>
  (idx z3.1 node).bind fun e =>
  (spec_l19From_L2 fu n' fu (z3.1.set (node : Int).toNat 0) true).bind fun z2 =>
  some z2.1
def spec_l19Connect_L1 (fu : Nat) (n' : Network) : Nat → List (List Int) → Int → Option (List (List Int) × Int)
  | 0, _, _ => none
  | fk + 1, far, a' =>
    if decide (a' < (n'.Nodes.length : Int)) then
      (spec_l19From fu n' a').bind fun y =>
      (app far [y]).bind fun l =>
      spec_l19Connect_L1 fu n' fk l (w64 (a' + 1))
    else
      some (far, a')
def spec_l19Connect_L4 (fu : Nat) (n' : Network) (sites : List Int) (reach : Int) (far2 : List (List Int)) (i : Int) : Nat → List Int → Int → Option (List Int × Int)
  | 0, _, _ => none
  | fk + 1, seen2, b2 =>
    if decide (b2 < (n'.Nodes.length : Int)) then
      (if i == 0 then (spec_l1Has fu seen2 b2).bind fun y2 =>
      if !y2 then (idx seen2 i).bind fun e =>
      (idx far2 e).bind fun e2 =>
      (idx e2 b2).bind fun e3 =>
      (spec_l1In fu e3 0 reach).bind fun y3 =>
      some y3
      else some false
      else (idx seen2 i).bind fun e4 =>
      (spec_l1Has fu sites e4).bind fun y4 =>
      if y4 then (spec_l1Has fu seen2 b2).bind fun y5 =>
      if !y5 then (idx seen2 i).bind fun e5 =>
      (idx far2 e5).bind fun e6 =>
      (idx e6 b2).bind fun e7 =>
      (spec_l1In fu e7 0 reach).bind fun y6 =>
      some y6
      else some false
      else some false).bind fun c10 =>
      if c10 then
        (app seen2 [b2]).bind fun l2 =>
        spec_l19Connect_L4 fu n' sites reach far2 i fk l2 (w64 (b2 + 1))
      else
        spec_l19Connect_L4 fu n' sites reach far2 i fk seen2 (w64 (b2 + 1))
    else
      some (seen2, b2)
def spec_l19Connect_L3 (fu : Nat) (n' : Network) (sites : List Int) (reach : Int) (far2 : List (List Int)) : Nat → List Int → Int → Option (List Int × Int)
  | 0, _, _ => none
  | fk + 1, seen, i =>
    if decide (i < (seen.length : Int)) then
      (spec_l19Connect_L4 fu n' sites reach far2 i fu seen 0).bind fun z =>
      spec_l19Connect_L3 fu n' sites reach far2 fk z.1 (w64 (i + 1))
    else
      some (seen, i)
def spec_l19Connect_L5 (fu : Nat) (n' : Network) (far2 : List (List Int)) (seen4 : List Int) (a3 : Int) : Nat → Int → Option (Out (Int) (Bool))
  | 0, _ => none
  | fk + 1, b4 =>
    if decide (b4 < (n'.Nodes.length : Int)) then
      ((idx far2 a3).bind fun e8 =>
      (idx e8 b4).bind fun e9 =>
      if decide (e9 ≥ 0) then (spec_l1Has fu seen4 b4).bind fun y7 =>
      some (!y7)
      else some false).bind fun c16 =>
      if c16 then
        some (.ret false)
      else
        spec_l19Connect_L5 fu n' far2 seen4 a3 fk (w64 (b4 + 1))
    else
      some (.next b4)
def spec_l19Connect_L2 (fu : Nat) (n' : Network) (sites : List Int) (reach : Int) (far2 : List (List Int)) : Nat → Int → Option (Out (Int) (Bool))
  | 0, _ => none
  | fk + 1, a3 =>
    if decide (a3 < (n'.Nodes.length : Int)) then
      (spec_l19Connect_L3 fu n' sites reach far2 fu [a3] 0).bind fun z3 =>
      (spec_l19Connect_L5 fu n' far2 z3.1 a3 fu 0).bind fun out => out.on (fun r => some (.ret r)) fun z2 =>
      spec_l19Connect_L2 fu n' sites reach far2 fk (w64 (a3 + 1))
    else
      some (.next a3)
def spec_l19Connect (fu : Nat) (n' : Network) (sites : List Int) (reach : Int) : Option (Bool) :=
  (spec_l19Connect_L1 fu n' fu ([] : List (List Int)) 0).bind fun z5 =>
  (spec_l19Connect_L2 fu n' sites reach z5.1 fu 0).bind fun out => out.on some fun z4 =>
  some true
def spec_l1Own (fu : Nat) (l : List Int) : Option (List Int) :=
  (app ([] : List Int) l).bind fun l2 =>
  some l2
def spec_l19Choose_L1 (fu : Nat) (n' : Network) (reach : Int) (sites : List Int) (k' : Int) (rec_ : (Network) → (Int) → (List Int) → (Int) → (Int) → Option (List Int × Bool)) : Nat → Int → Option (Out (Int) (List Int × Bool))
  | 0, _ => none
  | fk + 1, i =>
    if decide ((w64 (i + k')) ≤ (n'.Nodes.length : Int)) then
      (spec_l1Own fu sites).bind fun y2 =>
      (app y2 [i]).bind fun l =>
      (rec_ n' reach l (w64 (i + 1)) (w64 (k' - 1))).bind fun y3 =>
      if y3.2 then
        some (.ret (y3.1, true))
      else
        spec_l19Choose_L1 fu n' reach sites k' rec_ fk (w64 (i + 1))
    else
      some (.next i)
def spec_l19Choose_B (fu : Nat) (rec_ : (Network) → (Int) → (List Int) → (Int) → (Int) → Option (List Int × Bool)) (n' : Network) (reach : Int) (sites : List Int) (from' : Int) (k' : Int) : Option (List Int × Bool) :=
  if k' == 0 then
    (spec_l19Connect fu n' sites reach).bind fun y =>
    some (sites, y)
  else
    (spec_l19Choose_L1 fu n' reach sites k' rec_ fu from').bind fun out => out.on some fun z =>
    some (([] : List Int), false)
def spec_l19Choose : Nat → (Network) → (Int) → (List Int) → (Int) → (Int) → Option (List Int × Bool)
  | 0, _, _, _, _, _ => none
  | fu + 1, n', reach, sites, from', k' => spec_l19Choose_B fu (fun n' reach sites from' k' => spec_l19Choose fu n' reach sites from' k') n' reach sites from' k'
def spec_FewestSites_L1 (fu : Nat) (n' : Network) (reach : Int) : Nat → Int → Option (Out (Int) (List Int × Bool × Bool))
  | 0, _ => none
  | fk + 1, k' =>
    if decide (k' ≤ (n'.Nodes.length : Int)) then
      (spec_l19Choose fu n' reach ([] : List Int) 0 k').bind fun y3 =>
      if y3.2 then
        some (.ret (y3.1, true, true))
      else
        spec_FewestSites_L1 fu n' reach fk (w64 (k' + 1))
    else
      some (.next k')
def spec_FewestSites (fu : Nat) (n' : Network) (reach : Int) : Option (List Int × Bool × Bool) :=
  ((spec_l2Good fu n').bind fun y =>
  if !y then some true
  else (spec_l1In fu reach 1 20000).bind fun y2 =>
  some (!y2)).bind fun c3 =>
  if c3 then
    some (([] : List Int), false, false)
  else
    (spec_FewestSites_L1 fu n' reach fu 0).bind fun out => out.on some fun z =>
    some (([] : List Int), false, true)
def impl_isSet_L1 (fu : Nat) (l : List Int) (n' : Int) : Nat → Int → Option (Out (Int) (Bool))
  | 0, _ => none
  | fk + 1, i =>
    if decide (i < (l.length : Int)) then
      (idx l i).bind fun e =>
      ((impl_within fu e 0 (w64 (n' - 1))).bind fun y =>
      if !y then some true
      else if decide (i > 0) then (idx l (w64 (i - 1))).bind fun e2 =>
      some (decide (e2 ≥ e))
      else some false).bind fun c2 =>
      if c2 then
        some (.ret false)
      else
        impl_isSet_L1 fu l n' fk (w64 (i + 1))
    else
      some (.next i)
def impl_isSet (fu : Nat) (l : List Int) (n' : Int) : Option (Bool) :=
  (impl_isSet_L1 fu l n' fu 0).bind fun out => out.on some fun z =>
  some true
def impl_SitesConnect (fu : Nat) (n' : Network) (sites : List Int) (reach : Int) : Option (Bool × Bool) :=
  ((impl_IsValidNetwork fu n').bind fun y =>
  if !y then some true
  else (impl_isSet fu sites (n'.Nodes.length : Int)).bind fun y2 =>
  if !y2 then some true
  else (impl_within fu reach 1 20000).bind fun y3 =>
  some (!y3)).bind fun c4 =>
  if c4 then
    some (false, false)
  else
    (impl_sitesConnect fu n' sites reach).bind fun y4 =>
    some (y4, true)
def laws_FnRegenerators_L1 (fu : Nat) (y2 : Network × Route × Int) (y6 : List Int × Bool) : Nat → Int → Int → Option (Out (Int × Int) (Bool))
  | 0, _, _ => none
  | fk + 1, sum, i =>
    if decide (i < (y6.1.length : Int)) then
      ((idx y6.1 i).bind fun e =>
      if decide (e > y2.2.2) then some true
      else (idx y6.1 i).bind fun e2 =>
      some (decide (e2 < 1))).bind fun c10 =>
      if c10 then
        some (.ret false)
      else
        (idx y6.1 i).bind fun e3 =>
        laws_FnRegenerators_L1 fu y2 y6 fk (w64 (sum + e3)) (w64 (i + 1))
    else
      some (.next (sum, i))
def laws_FnRegenerators_L3 (fu : Nat) (y2 : Network × Route × Int) (y9 : List Int × Bool) : Nat → Bool → Int → Option (Bool × Int)
  | 0, _, _ => none
  | fk + 1, far, k' =>
    if decide (k' < (y9.1.length : Int)) then
      (if far then some true
      else (idx y9.1 k').bind fun e4 =>
      some (decide (e4 > y2.2.2))).bind fun c13 =>
      laws_FnRegenerators_L3 fu y2 y9 fk c13 (w64 (k' + 1))
    else
      some (far, k')
def laws_FnRegenerators_L2 (fu : Nat) (y2 : Network × Route × Int) (y3 : List Int × Bool) : Nat → Int → Option (Out (Int) (Bool))
  | 0, _ => none
  | fk + 1, i3 =>
    if decide (i3 < (y3.1.length : Int)) then
      (laws_rWithout fu y3.1 i3).bind fun y8 =>
      (impl_SegmentLengths fu y2.1 y2.2.1 y8).bind fun y9 =>
      (laws_FnRegenerators_L3 fu y2 y9 fu false 0).bind fun z =>
      (if !y9.2 then some true
      else if !z.1 then if i3 == (w64 ((y3.1.length : Int) - 1)) then some ((y3.1.length : Int) == 1)
      else some false
      else some false).bind fun c14 =>
      if c14 then
        some (.ret false)
      else
        laws_FnRegenerators_L2 fu y2 y3 fk (w64 (i3 + 1))
    else
      some (.next i3)
def laws_FnRegenerators (fu : Nat) (code : List By) : Option (Bool) :=
  (laws_vBig fu code).bind fun y =>
  if y then
    some true
  else
    (spec_DrawRegeneratorsFor fu code).bind fun y2 =>
    (impl_RegeneratorsFor fu y2.1 y2.2.1 y2.2.2).bind fun y3 =>
    (spec_RegeneratorsFor fu y2.1 y2.2.1 y2.2.2).bind fun y4 =>
    (if y3.2 != y4.2 then some true
    else (laws_vInts fu y3.1 y4.1).bind fun y5 =>
    some (!y5)).bind fun c7 =>
    if c7 then
      some false
    else
      if y3.2 then
        (impl_SegmentLengths fu y2.1 y2.2.1 y3.1).bind fun y6 =>
        (spec_RouteLength fu y2.1 y2.2.1).bind fun y7 =>
        (if !y6.2 then some true
        else some ((y6.1.length : Int) != (w64 ((y3.1.length : Int) + 1)))).bind fun c9 =>
        if c9 then
          some false
        else
          (laws_FnRegenerators_L1 fu y2 y6 fu 0 0).bind fun out => out.on some fun z3 =>
          if z3.1 != y7.1 then
            some false
          else
            (laws_FnRegenerators_L2 fu y2 y3 fu 0).bind fun out => out.on some fun z2 =>
            (spec_DrawFewestSites fu code).bind fun y10 =>
            (impl_FewestSites fu y10.1 y10.2).bind fun y11 =>
            (spec_FewestSites fu y10.1 y10.2).bind fun y12 =>
            (if y11.2.1 != y12.2.1 then some true
            else if y11.2.2 != y12.2.2 then some true
            else (laws_vInts fu y11.1 y12.1).bind fun y13 =>
            if !y13 then some true
            else some (!y11.2.1)).bind fun c19 =>
            if c19 then
              (if y11.2.1 == y12.2.1 then if y11.2.2 == y12.2.2 then (laws_vInts fu y11.1 y12.1).bind fun y14 =>
              some y14
              else some false
              else some false).bind fun c20 =>
              some c20
            else
              (impl_SitesConnect fu y10.1 y11.1 y10.2).bind fun y15 =>
              (if y15.1 then some y15.2
              else some false).bind fun c21 =>
              some c21
      else
        (spec_DrawFewestSites fu code).bind fun y16 =>
        (impl_FewestSites fu y16.1 y16.2).bind fun y17 =>
        (spec_FewestSites fu y16.1 y16.2).bind fun y18 =>
        (if y17.2.1 != y18.2.1 then some true
        else if y17.2.2 != y18.2.2 then some true
        else (laws_vInts fu y17.1 y18.1).bind fun y19 =>
        if !y19 then some true
        else some (!y17.2.1)).bind fun c26 =>
        if c26 then
          (if y17.2.1 == y18.2.1 then if y17.2.2 == y18.2.2 then (laws_vInts fu y17.1 y18.1).bind fun y20 =>
          some y20
          else some false
          else some false).bind fun c27 =>
          some c27
        else
          (impl_SitesConnect fu y16.1 y17.1 y16.2).bind fun y21 =>
          (if y21.1 then some y21.2
          else some false).bind fun c28 =>
          some c28
end AT
