/- The Go functions told plainly, by program (gen.py). -/
import Derived.Test.YtlemonjnolciiaaGreatDoorAtPX
set_option linter.unusedVariables false
namespace AT
structure L1CurP where
  code : List By
  at_ : Int
  seed : U64
  deriving DecidableEq
structure Fiber where
  A : Int
  B : Int
  Length : Int
  Risk : Int
  deriving DecidableEq
structure Network where
  Nodes : List ByteArray
  Fibers : List Fiber
  deriving DecidableEq
structure Route where
  Start : Int
  Fibers : List Int
  deriving DecidableEq
structure Block where
  First : Int
  Count : Int
  deriving DecidableEq
structure Light where
  Id : Int
  Route : Route
  Block : Block
  deriving DecidableEq
structure Plan where
  Network : Network
  Lights : List Light
  deriving DecidableEq
def laws_vBig (fu : Nat) (code : List By) : Option (Bool) :=
  some (decide ((code.length : Int) > 65536))
def spec_l1Cur_next (fu : Nat) (c : L1CurP) : Option (Int × L1CurP) :=
  if decide (c.at_ < (c.code.length : Int)) then
    (idx c.code c.at_).bind fun e =>
    if decide ((w64 (c.at_ + 1)) ≤ (c.code.length : Int)) then
      some (w64 e.n, ({ code := c.code, at_ := w64 (c.at_ + 1), seed := (⟨wu64 ((wu64 ((wu64 (c.seed.n * 6364136223846793005)) + (wu64 (w64 e.n)))) + 897897)⟩ : U64) } : L1CurP))
    else
      (shrk 64 (wu64 ((wu64 ((wu64 (c.seed.n * 6364136223846793005)) + (wu64 (w64 e.n)))) + 897897)) 40).bind fun q =>
      some (w64 (andu64 q 255), ({ code := c.code, at_ := w64 (c.at_ + 1), seed := (⟨wu64 ((wu64 ((wu64 (c.seed.n * 6364136223846793005)) + (wu64 (w64 e.n)))) + 897897)⟩ : U64) } : L1CurP))
  else
    if decide ((w64 (c.at_ + 1)) ≤ (c.code.length : Int)) then
      some (0, ({ code := c.code, at_ := w64 (c.at_ + 1), seed := (⟨wu64 ((wu64 ((wu64 (c.seed.n * 6364136223846793005)) + (wu64 0))) + 897897)⟩ : U64) } : L1CurP))
    else
      (shrk 64 (wu64 ((wu64 ((wu64 (c.seed.n * 6364136223846793005)) + (wu64 0))) + 897897)) 40).bind fun q2 =>
      some (w64 (andu64 q2 255), ({ code := c.code, at_ := w64 (c.at_ + 1), seed := (⟨wu64 ((wu64 ((wu64 (c.seed.n * 6364136223846793005)) + (wu64 0))) + 897897)⟩ : U64) } : L1CurP))
def spec_l1Cur_pick (fu : Nat) (c : L1CurP) (n' : Int) : Option (Int × L1CurP) :=
  if decide (n' ≤ 1) then
    some (0, c)
  else
    (spec_l1Cur_next fu c).bind fun y =>
    if decide (n' > 200) then
      (spec_l1Cur_next fu y.2).bind fun y2 =>
      (rem (w64 ((w64 (y.1 * 256)) + y2.1)) n').bind fun q =>
      some (q, y2.2)
    else
      (rem y.1 n').bind fun q2 =>
      some (q2, y.2)
def spec_l1Cur_one (fu : Nat) (c : L1CurP) (n' : Int) : Option (Bool × L1CurP) :=
  (spec_l1Cur_pick fu c n').bind fun y =>
  some (y.1 == 0, y.2)
def spec_l1Least (fu : Nat) (a' : Int) (b' : Int) : Option (Int) :=
  if decide (a' < b') then
    some a'
  else
    some b'
def spec_l1Most (fu : Nat) (a' : Int) (b' : Int) : Option (Int) :=
  if decide (a' > b') then
    some a'
  else
    some b'
def spec_l1Cur_among (fu : Nat) (c : L1CurP) (list : List Int) : Option (Int × L1CurP) :=
  (spec_l1Cur_pick fu c (list.length : Int)).bind fun y =>
  (idx list y.1).bind fun e =>
  some (e, y.2)
def spec_l2Before (fu : Nat) (f : Fiber) (g' : Fiber) : Option (Int) :=
  if f.A != g'.A then
    some (w64 (f.A - g'.A))
  else
    if f.B != g'.B then
      some (w64 (f.B - g'.B))
    else
      if f.Length != g'.Length then
        some (w64 (f.Length - g'.Length))
      else
        some (w64 (f.Risk - g'.Risk))
def spec_l2Put_L1 (fu : Nat) (list : List Fiber) (f : Fiber) : Nat → Int → Option (Int)
  | 0, _ => none
  | fk + 1, i =>
    (if decide (i < (list.length : Int)) then (idx list i).bind fun e =>
    (spec_l2Before fu e f).bind fun y =>
    some (decide (y ≤ 0))
    else some false).bind fun c2 =>
    if c2 then
      spec_l2Put_L1 fu list f fk (w64 (i + 1))
    else
      some i
def spec_l2Put (fu : Nat) (list : List Fiber) (f : Fiber) : Option (List Fiber) :=
  (spec_l2Put_L1 fu list f fu 0).bind fun z =>
  (sub list 0 z).bind fun l =>
  (sub list z (list.length : Int)).bind fun l2 =>
  (app ([] : List Fiber) l).bind fun l3 =>
  (app l3 [f]).bind fun l4 =>
  (app l4 l2).bind fun l5 =>
  some l5
def spec_l1Cur_network_L1 (fu : Nat) (y : Int × L1CurP) : Nat → Int → List By → Int → U64 → List Fiber → Option (Int × List By × Int × U64 × List Fiber)
  | 0, _, _, _, _, _ => none
  | fk + 1, i, m, m2, m3, m4 =>
    if decide (i < (w64 (2 + y.1))) then
      (rem (w64 (i + 1)) (w64 (2 + y.1))).bind fun q =>
      if i == q then spec_l1Cur_network_L1 fu y fk (w64 (i + 1)) m m2 m3 m4
      else (spec_l1Cur_one fu ({ code := m, at_ := m2, seed := m3 } : L1CurP) 10).bind fun y2 =>
      if y2.1 then
        spec_l1Cur_network_L1 fu y fk (w64 (i + 1)) y2.2.code y2.2.at_ y2.2.seed m4
      else
        (spec_l1Least fu i q).bind fun y3 =>
        (spec_l1Most fu i q).bind fun y4 =>
        (spec_l1Cur_pick fu y2.2 8).bind fun y5 =>
        (spec_l1Cur_among fu y5.2 [0, 0, 0, 1, 2]).bind fun y6 =>
        (spec_l2Put fu m4 ({ A := y3, B := y4, Length := w64 (100 * (w64 (1 + y5.1))), Risk := y6.1 } : Fiber)).bind fun y7 =>
        spec_l1Cur_network_L1 fu y fk (w64 (i + 1)) y6.2.code y6.2.at_ y6.2.seed y7
    else
      some (i, m, m2, m3, m4)
def spec_l1Cur_network_L2 (fu : Nat) (y : Int × L1CurP) : Nat → Int → List Fiber → List By → Int → U64 → Option (Int × List Fiber × List By × Int × U64)
  | 0, _, _, _, _, _ => none
  | fk + 1, m9, m10, m11, m12, m13 =>
    if decide (m9 > 0) then
      (spec_l1Cur_pick fu ({ code := m11, at_ := m12, seed := m13 } : L1CurP) (w64 (2 + y.1))).bind fun y9 =>
      (spec_l1Cur_pick fu y9.2 (w64 (2 + y.1))).bind fun y10 =>
      if y9.1 != y10.1 then
        (spec_l1Least fu y9.1 y10.1).bind fun y11 =>
        (spec_l1Most fu y9.1 y10.1).bind fun y12 =>
        (spec_l1Cur_pick fu y10.2 8).bind fun y13 =>
        (spec_l1Cur_among fu y13.2 [0, 0, 0, 1, 2]).bind fun y14 =>
        (spec_l2Put fu m10 ({ A := y11, B := y12, Length := w64 (100 * (w64 (1 + y13.1))), Risk := y14.1 } : Fiber)).bind fun y15 =>
        spec_l1Cur_network_L2 fu y fk (w64 (m9 - 1)) y15 y14.2.code y14.2.at_ y14.2.seed
      else
        spec_l1Cur_network_L2 fu y fk (w64 (m9 - 1)) m10 y10.2.code y10.2.at_ y10.2.seed
    else
      some (m9, m10, m11, m12, m13)
def spec_l1Cur_network (fu : Nat) (c : L1CurP) : Option (Network × L1CurP) :=
  (spec_l1Cur_pick fu c 5).bind fun y =>
  (sub [(⟨#[97]⟩ : ByteArray), (⟨#[98]⟩ : ByteArray), (⟨#[99]⟩ : ByteArray), (⟨#[100]⟩ : ByteArray), (⟨#[101]⟩ : ByteArray), (⟨#[102]⟩ : ByteArray)] 0 (w64 (2 + y.1))).bind fun l =>
  (spec_l1Cur_network_L1 fu y fu 0 y.2.code y.2.at_ y.2.seed []).bind fun z2 =>
  (spec_l1Cur_pick fu ({ code := z2.2.1, at_ := z2.2.2.1, seed := z2.2.2.2.1 } : L1CurP) 4).bind fun y8 =>
  (spec_l1Cur_network_L2 fu y fu y8.1 z2.2.2.2.2 y8.2.code y8.2.at_ y8.2.seed).bind fun z =>
  some (({ Nodes := l, Fibers := z.2.1 } : Network), ({ code := z.2.2.1, at_ := z.2.2.2.1, seed := z.2.2.2.2 } : L1CurP))
def spec_l1Cur_of (fu : Nat) (c : L1CurP) (list : List ByteArray) : Option (ByteArray × L1CurP) :=
  (spec_l1Cur_pick fu c (list.length : Int)).bind fun y =>
  (idx list y.1).bind fun e =>
  some (e, y.2)
def spec_l1Cur_anyNetwork_L1 (fu : Nat) : Nat → List Fiber → List By → Int → U64 → Option (List Fiber × List By × Int × U64)
  | 0, _, _, _, _ => none
  | fk + 1, m10, m11, m12, m13 =>
    (spec_l1Cur_pick fu ({ code := m11, at_ := m12, seed := m13 } : L1CurP) 2).bind fun y9 =>
    if decide ((m10.length : Int) < (w64 (14 + y9.1))) then
      (idx m10 (w64 ((m10.length : Int) - 1))).bind fun e4 =>
      (app m10 [e4]).bind fun l2 =>
      spec_l1Cur_anyNetwork_L1 fu fk l2 y9.2.code y9.2.at_ y9.2.seed
    else
      some (m10, y9.2.code, y9.2.at_, y9.2.seed)
def spec_l1Cur_anyNetwork (fu : Nat) (c : L1CurP) : Option (Network × L1CurP) :=
  (spec_l1Cur_network fu c).bind fun y =>
  if (y.1.Fibers.length : Int) == 0 then
    some (y.1, y.2)
  else
    (spec_l1Cur_pick fu y.2 (y.1.Fibers.length : Int)).bind fun y2 =>
    (idx y.1.Fibers y2.1).bind fun e =>
    (spec_l1Cur_pick fu y2.2 24).bind fun y3 =>
    (if y3.1 == 0 then
      (spec_l1Cur_of fu y3.2 [(⟨#[98]⟩ : ByteArray), ByteArray.empty, (⟨#[65]⟩ : ByteArray), (⟨#[97, 98, 99, 100, 101, 102, 103, 104]⟩ : ByteArray), (⟨#[97, 98, 99, 100, 101, 102, 103, 104, 105]⟩ : ByteArray), (⟨#[120, 49]⟩ : ByteArray)]).bind fun y4 =>
      (idx y.1.Nodes 0).bind fun e2 =>
      some (.next (y.1.Nodes.set (0 : Int).toNat y4.1, y4.2.code, y4.2.at_, y4.2.seed, e.A, e.B, e.Length, e.Risk, y.1.Fibers))
    else
      if y3.1 == 1 then
        (spec_l1Cur_pick fu y3.2 8).bind fun y5 =>
        some (.next (y.1.Nodes, y5.2.code, y5.2.at_, y5.2.seed, w64 (y5.1 - 1), e.B, e.Length, e.Risk, y.1.Fibers))
      else
        if y3.1 == 2 then
          (spec_l1Cur_pick fu y3.2 10).bind fun y6 =>
          some (.next (y.1.Nodes, y6.2.code, y6.2.at_, y6.2.seed, e.A, w64 (y6.1 - 1), e.Length, e.Risk, y.1.Fibers))
        else
          if y3.1 == 3 then
            (spec_l1Cur_among fu y3.2 [0, 1, 5000, 5001]).bind fun y7 =>
            some (.next (y.1.Nodes, y7.2.code, y7.2.at_, y7.2.seed, e.A, e.B, y7.1, e.Risk, y.1.Fibers))
          else
            if y3.1 == 4 then
              (spec_l1Cur_among fu y3.2 [(-1), 9, 10]).bind fun y8 =>
              some (.next (y.1.Nodes, y8.2.code, y8.2.at_, y8.2.seed, e.A, e.B, e.Length, y8.1, y.1.Fibers))
            else
              if y3.1 == 5 then
                (idx y.1.Fibers 0).bind fun e3 =>
                (app y.1.Fibers [e3]).bind fun l =>
                some (.next (y.1.Nodes, y3.2.code, y3.2.at_, y3.2.seed, e.A, e.B, e.Length, e.Risk, l))
              else
                if y3.1 == 6 then
                  (spec_l1Cur_anyNetwork_L1 fu fu y.1.Fibers y3.2.code y3.2.at_ y3.2.seed).bind fun z =>
                  some (.ret (({ Nodes := y.1.Nodes, Fibers := z.1 } : Network), ({ code := z.2.1, at_ := z.2.2.1, seed := z.2.2.2 } : L1CurP)))
                else
                  if y3.1 == 7 then
                    (app y.1.Nodes [(⟨#[112]⟩ : ByteArray), (⟨#[113]⟩ : ByteArray), (⟨#[114]⟩ : ByteArray), (⟨#[115]⟩ : ByteArray)]).bind fun l3 =>
                    some (.next (l3, y3.2.code, y3.2.at_, y3.2.seed, e.A, e.B, e.Length, e.Risk, y.1.Fibers))
                  else
                    some (.next (y.1.Nodes, y3.2.code, y3.2.at_, y3.2.seed, e.A, e.B, e.Length, e.Risk, y.1.Fibers)) : Option (Out (List ByteArray × List By × Int × U64 × Int × Int × Int × Int × List Fiber) (Network × L1CurP))).bind fun out => out.on some fun z2 =>
    (idx z2.2.2.2.2.2.2.2.2 y2.1).bind fun e5 =>
    some (({ Nodes := z2.1, Fibers := z2.2.2.2.2.2.2.2.2.set (y2.1 : Int).toNat ({ A := z2.2.2.2.2.1, B := z2.2.2.2.2.2.1, Length := z2.2.2.2.2.2.2.1, Risk := z2.2.2.2.2.2.2.2.1 } : Fiber) } : Network), ({ code := z2.2.1, at_ := z2.2.2.1, seed := z2.2.2.2.1 } : L1CurP))
def spec_l2Other (fu : Nat) (n' : Network) (fiber : Int) (node : Int) : Option (Int) :=
  (idx n'.Fibers fiber).bind fun e =>
  if node == e.A then
    some e.B
  else
    if node == e.B then
      some e.A
    else
      some (-1)
def spec_l1Has_L1 (fu : Nat) (l : List Int) (n' : Int) : Nat → Int → Option (Out (Int) (Bool))
  | 0, _ => none
  | fk + 1, i =>
    if decide (i < (l.length : Int)) then
      (idx l i).bind fun e =>
      if e == n' then
        some (.ret true)
      else
        spec_l1Has_L1 fu l n' fk (w64 (i + 1))
    else
      some (.next i)
def spec_l1Has (fu : Nat) (l : List Int) (n' : Int) : Option (Bool) :=
  (spec_l1Has_L1 fu l n' fu 0).bind fun out => out.on some fun z =>
  some false
def spec_l1Cur_route_L2 (fu : Nat) (n' : Network) (y : Int × L1CurP) (seen : List Int) : Nat → List Int → Int → Option (List Int × Int)
  | 0, _, _ => none
  | fk + 1, list, i =>
    if decide (i < (n'.Fibers.length : Int)) then
      (idx seen (w64 ((seen.length : Int) - 1))).bind fun e =>
      (spec_l2Other fu n' i e).bind fun y3 =>
      (if decide (y3 ≥ 0) then (spec_l1Has fu seen y3).bind fun y4 =>
      some (!y4)
      else some false).bind fun c10 =>
      if c10 then
        (app list [i]).bind fun l =>
        spec_l1Cur_route_L2 fu n' y seen fk l (w64 (i + 1))
      else
        spec_l1Cur_route_L2 fu n' y seen fk list (w64 (i + 1))
    else
      some (list, i)
def spec_l1Cur_route_L1 (fu : Nat) (n' : Network) (y : Int × L1CurP) : Nat → List Int → Int → List Int → List By → Int → U64 → Option (List Int × Int × List Int × List By × Int × U64)
  | 0, _, _, _, _, _, _ => none
  | fk + 1, seen, m, m2, m3, m4, m5 =>
    if decide (m > 0) then
      (spec_l1Cur_route_L2 fu n' y seen fu ([] : List Int) 0).bind fun z =>
      if (z.1.length : Int) == 0 then
        some (seen, m, m2, m3, m4, m5)
      else
        (spec_l1Cur_pick fu ({ code := m3, at_ := m4, seed := m5 } : L1CurP) (z.1.length : Int)).bind fun y5 =>
        (idx z.1 y5.1).bind fun e2 =>
        (app m2 [e2]).bind fun l2 =>
        (idx seen (w64 ((seen.length : Int) - 1))).bind fun e3 =>
        (spec_l2Other fu n' e2 e3).bind fun y6 =>
        (app seen [y6]).bind fun l3 =>
        spec_l1Cur_route_L1 fu n' y fk l3 (w64 (m - 1)) l2 y5.2.code y5.2.at_ y5.2.seed
    else
      some (seen, m, m2, m3, m4, m5)
def spec_l1Cur_route (fu : Nat) (c : L1CurP) (n' : Network) : Option (Route × L1CurP) :=
  (spec_l1Cur_pick fu c (n'.Nodes.length : Int)).bind fun y =>
  (spec_l1Cur_pick fu y.2 4).bind fun y2 =>
  (spec_l1Cur_route_L1 fu n' y fu [y.1] (w64 (1 + y2.1)) ([] : List Int) y2.2.code y2.2.at_ y2.2.seed).bind fun z2 =>
  some (({ Start := y.1, Fibers := z2.2.2.1 } : Route), ({ code := z2.2.2.2.1, at_ := z2.2.2.2.2.1, seed := z2.2.2.2.2.2 } : L1CurP))
def spec_l1Cur_anyRoute (fu : Nat) (c : L1CurP) (n' : Network) : Option (Route × L1CurP) :=
  (spec_l1Cur_route fu c n').bind fun y =>
  (spec_l1Cur_pick fu y.2 16).bind fun y2 =>
  if y2.1 == 0 then
    (spec_l1Cur_pick fu y2.2 8).bind fun y3 =>
    some (({ Start := w64 (y3.1 - 1), Fibers := y.1.Fibers } : Route), y3.2)
  else
    if y2.1 == 1 then
      (spec_l1Cur_pick fu y2.2 8).bind fun y4 =>
      (app y.1.Fibers [w64 (y4.1 - 1)]).bind fun l =>
      some (({ Start := y.1.Start, Fibers := l } : Route), y4.2)
    else
      if y2.1 == 2 then
        some (({ Start := y.1.Start, Fibers := ([] : List Int) } : Route), y2.2)
      else
        if y2.1 == 3 then
          if decide ((y.1.Fibers.length : Int) > 1) then
            (idx y.1.Fibers (w64 ((y.1.Fibers.length : Int) - 1))).bind fun e =>
            (app y.1.Fibers [e]).bind fun l2 =>
            some (({ Start := y.1.Start, Fibers := l2 } : Route), y2.2)
          else
            some (y.1, y2.2)
        else
          some (y.1, y2.2)
def spec_DrawIsValidRoute (fu : Nat) (code : List By) : Option (Network × Route) :=
  (spec_l1Cur_anyNetwork fu ({ code := code, at_ := 0, seed := (⟨0⟩ : U64) } : L1CurP)).bind fun y =>
  (spec_l1Cur_anyRoute fu y.2 y.1).bind fun y2 =>
  some (y.1, y2.1)
def spec_DrawFormatRoute (fu : Nat) (code : List By) : Option (Network × Route) :=
  (spec_DrawIsValidRoute fu code).bind fun y =>
  some (y.1, y.2)
def impl_within (fu : Nat) (n' : Int) (low : Int) (high : Int) : Option (Bool) :=
  (if decide (low ≤ n') then some (decide (n' ≤ high))
  else some false).bind fun c =>
  some c
def impl_isName_L1 (fu : Nat) (s' : ByteArray) : Nat → Int → Option (Out (Int) (Bool))
  | 0, _ => none
  | fk + 1, i =>
    if decide (i < (s'.size : Int)) then
      (sidx s' i).bind fun e =>
      (sidx s' i).bind fun e2 =>
      if decide (e.n ≥ 97) then (sidx s' i).bind fun e3 =>
      if decide (e2.n ≥ 48) then (sidx s' i).bind fun e4 =>
      (if !(decide (e3.n ≤ 122)) then if !(decide (e4.n ≤ 57)) then some true
      else some (i == 0)
      else some false).bind fun c =>
      if c then
        some (.ret false)
      else
        impl_isName_L1 fu s' fk (w64 (i + 1))
      else (if !(decide (e3.n ≤ 122)) then if !false then some true
      else some (i == 0)
      else some false).bind fun c2 =>
      if c2 then
        some (.ret false)
      else
        impl_isName_L1 fu s' fk (w64 (i + 1))
      else if decide (e2.n ≥ 48) then (sidx s' i).bind fun e5 =>
      (if !false then if !(decide (e5.n ≤ 57)) then some true
      else some (i == 0)
      else some false).bind fun c3 =>
      if c3 then
        some (.ret false)
      else
        impl_isName_L1 fu s' fk (w64 (i + 1))
      else (if !false then if !false then some true
      else some (i == 0)
      else some false).bind fun c4 =>
      if c4 then
        some (.ret false)
      else
        impl_isName_L1 fu s' fk (w64 (i + 1))
    else
      some (.next i)
def impl_isName (fu : Nat) (s' : ByteArray) : Option (Bool) :=
  (impl_isName_L1 fu s' fu 0).bind fun out => out.on some fun z =>
  (impl_within fu (s'.size : Int) 1 8).bind fun y =>
  some y
def slices_Index_string_string_L1 (fu : Nat) (s' : List ByteArray) (v : ByteArray) : Nat → Int → Option (Out (Int) (Int))
  | 0, _ => none
  | fk + 1, i =>
    if decide (i < (s'.length : Int)) then
      (idx s' i).bind fun e =>
      if v.toList == e.toList then
        some (.ret i)
      else
        slices_Index_string_string_L1 fu s' v fk (w64 (i + 1))
    else
      some (.next i)
def slices_Index_string_string (fu : Nat) (s' : List ByteArray) (v : ByteArray) : Option (Int) :=
  (slices_Index_string_string_L1 fu s' v fu 0).bind fun out => out.on some fun z =>
  some (-1)
def slices_Contains_string_string (fu : Nat) (s' : List ByteArray) (v : ByteArray) : Option (Bool) :=
  (slices_Index_string_string fu s' v).bind fun y =>
  some (decide (y ≥ 0))
def cmp_isNaN_int (fu : Nat) (x1 : Int) : Option (Bool) :=
  some (x1 != x1)
def cmp_Compare_int (fu : Nat) (x1 : Int) (y : Int) : Option (Int) :=
  (cmp_isNaN_int fu x1).bind fun y2 =>
  (cmp_isNaN_int fu y).bind fun y3 =>
  if y2 then
    if y3 then
      some 0
    else
      some (-1)
  else
    if y3 then
      some 1
    else
      if decide (x1 < y) then
        some (-1)
      else
        if decide (x1 > y) then
          some 1
        else
          some 0
def cmp_Or_int_L1 (fu : Nat) (vals : List Int) : Nat → Int → Option (Out (Int) (Int))
  | 0, _ => none
  | fk + 1, i =>
    if decide (i < (vals.length : Int)) then
      (idx vals i).bind fun e =>
      if e != 0 then
        some (.ret e)
      else
        cmp_Or_int_L1 fu vals fk (w64 (i + 1))
    else
      some (.next i)
def cmp_Or_int (fu : Nat) (vals : List Int) : Option (Int) :=
  (cmp_Or_int_L1 fu vals fu 0).bind fun out => out.on some fun z =>
  some 0
def impl_compareFibers (fu : Nat) (a' : Fiber) (b' : Fiber) : Option (Int) :=
  (cmp_Compare_int fu a'.A b'.A).bind fun y =>
  (cmp_Compare_int fu a'.B b'.B).bind fun y2 =>
  (cmp_Compare_int fu a'.Length b'.Length).bind fun y3 =>
  (cmp_Compare_int fu a'.Risk b'.Risk).bind fun y4 =>
  (cmp_Or_int fu [y, y2, y3, y4]).bind fun y5 =>
  some y5
def impl_IsValidNetwork_L1 (fu : Nat) (n' : Network) : Nat → Int → Option (Out (Int) (Bool))
  | 0, _ => none
  | fk + 1, i =>
    if decide (i < (n'.Nodes.length : Int)) then
      (idx n'.Nodes i).bind fun e =>
      ((impl_isName fu e).bind fun y =>
      if !y then some true
      else (sub n'.Nodes 0 i).bind fun l =>
      (slices_Contains_string_string fu l e).bind fun y2 =>
      some y2).bind fun c3 =>
      if c3 then
        some (.ret false)
      else
        impl_IsValidNetwork_L1 fu n' fk (w64 (i + 1))
    else
      some (.next i)
def impl_IsValidNetwork_L2 (fu : Nat) (n' : Network) : Nat → Int → Option (Out (Int) (Bool))
  | 0, _ => none
  | fk + 1, i3 =>
    if decide (i3 < (n'.Fibers.length : Int)) then
      (idx n'.Fibers i3).bind fun e2 =>
      (if decide (e2.A < 0) then some true
      else if decide (e2.A ≥ e2.B) then some true
      else if decide (e2.B ≥ (n'.Nodes.length : Int)) then some true
      else (impl_within fu e2.Length 1 5000).bind fun y3 =>
      if !y3 then some true
      else (impl_within fu e2.Risk 0 9).bind fun y4 =>
      if !y4 then some true
      else if decide (i3 > 0) then (idx n'.Fibers (w64 (i3 - 1))).bind fun e3 =>
      (impl_compareFibers fu e3 e2).bind fun y5 =>
      some (decide (y5 > 0))
      else some false).bind fun c5 =>
      if c5 then
        some (.ret false)
      else
        impl_IsValidNetwork_L2 fu n' fk (w64 (i3 + 1))
    else
      some (.next i3)
def impl_IsValidNetwork (fu : Nat) (n' : Network) : Option (Bool) :=
  (impl_IsValidNetwork_L1 fu n' fu 0).bind fun out => out.on some fun z2 =>
  (impl_IsValidNetwork_L2 fu n' fu 0).bind fun out => out.on some fun z =>
  ((impl_within fu (n'.Nodes.length : Int) 2 8).bind fun y6 =>
  if y6 then some (decide ((n'.Fibers.length : Int) ≤ 14))
  else some false).bind fun c6 =>
  some c6
def strings_Join (fu : Nat) (elems : List ByteArray) (sep : ByteArray) : Option (ByteArray) := joinO elems sep
def strconv_Itoa (fu : Nat) (i : Int) : Option (ByteArray) := itoaO i
def impl_FormatNetwork_L1 (fu : Nat) (n' : Network) : Nat → ByteArray → Int → Option (ByteArray × Int)
  | 0, _, _ => none
  | fk + 1, out', i =>
    if decide (i < (n'.Fibers.length : Int)) then
      (idx n'.Fibers i).bind fun e =>
      (idx n'.Nodes e.A).bind fun e2 =>
      (scat (⟨#[102, 105, 98, 101, 114, 32]⟩ : ByteArray) e2).bind fun s3 =>
      (scat s3 (⟨#[32]⟩ : ByteArray)).bind fun s4 =>
      (idx n'.Nodes e.B).bind fun e3 =>
      (scat s4 e3).bind fun s5 =>
      (scat s5 (⟨#[32]⟩ : ByteArray)).bind fun s6 =>
      (strconv_Itoa fu e.Length).bind fun y3 =>
      (scat s6 y3).bind fun s7 =>
      (scat out' s7).bind fun s8 =>
      if decide (e.Risk > 0) then
        (strconv_Itoa fu e.Risk).bind fun y4 =>
        (scat (⟨#[32, 114, 105, 115, 107, 32]⟩ : ByteArray) y4).bind fun s9 =>
        (scat s8 s9).bind fun s10 =>
        (scat s10 (⟨#[10]⟩ : ByteArray)).bind fun s11 =>
        impl_FormatNetwork_L1 fu n' fk s11 (w64 (i + 1))
      else
        (scat s8 (⟨#[10]⟩ : ByteArray)).bind fun s12 =>
        impl_FormatNetwork_L1 fu n' fk s12 (w64 (i + 1))
    else
      some (out', i)
def impl_FormatNetwork (fu : Nat) (n' : Network) : Option (ByteArray × Bool) :=
  (impl_IsValidNetwork fu n').bind fun y =>
  if !y then
    some (ByteArray.empty, false)
  else
    (strings_Join fu n'.Nodes (⟨#[32]⟩ : ByteArray)).bind fun y2 =>
    (scat (⟨#[110, 111, 100, 101, 115, 32]⟩ : ByteArray) y2).bind fun s' =>
    (scat s' (⟨#[10]⟩ : ByteArray)).bind fun s2 =>
    (impl_FormatNetwork_L1 fu n' fu s2 0).bind fun z =>
    some (z.1, true)
def internal_stringslite_HasSuffix (fu : Nat) (s' : ByteArray) (suffix : ByteArray) : Option (Bool) :=
  (if decide ((s'.size : Int) ≥ (suffix.size : Int)) then (ssub s' (w64 ((s'.size : Int) - (suffix.size : Int))) (s'.size : Int)).bind fun s2 =>
  some (s2.toList == suffix.toList)
  else some false).bind fun c =>
  some c
def strings_HasSuffix (fu : Nat) (s' : ByteArray) (suffix : ByteArray) : Option (Bool) :=
  (internal_stringslite_HasSuffix fu s' suffix).bind fun y =>
  some y
def strings_Split (fu : Nat) (s : ByteArray) (sep : ByteArray) : Option (List ByteArray) := splitO s sep
def impl_linesOf (fu : Nat) (s' : ByteArray) : Option (List ByteArray × Bool) :=
  (if decide ((s'.size : Int) > 4000) then some true
  else (strings_HasSuffix fu s' (⟨#[10]⟩ : ByteArray)).bind fun y =>
  some (!y)).bind fun c =>
  if c then
    some ([], false)
  else
    (ssub s' 0 (w64 ((s'.size : Int) - 1))).bind fun s2 =>
    (strings_Split fu s2 (⟨#[10]⟩ : ByteArray)).bind fun y2 =>
    some (y2, true)
def impl_indexOf_L1 (fu : Nat) (l : List ByteArray) (name : ByteArray) : Nat → Int → Option (Out (Int) (Int × Bool))
  | 0, _ => none
  | fk + 1, i =>
    if decide (i < (l.length : Int)) then
      (idx l i).bind fun e =>
      if e.toList == name.toList then
        some (.ret (i, true))
      else
        impl_indexOf_L1 fu l name fk (w64 (i + 1))
    else
      some (.next i)
def impl_indexOf (fu : Nat) (l : List ByteArray) (name : ByteArray) : Option (Int × Bool) :=
  (impl_indexOf_L1 fu l name fu 0).bind fun out => out.on some fun z =>
  some (0, false)
def impl_ParseInt (fu : Nat) (s : ByteArray) : Option (Int × Bool) := parseO s
def impl_readFiber (fu : Nat) (n' : Network) (line : ByteArray) : Option (Fiber × Bool) :=
  (strings_Split fu line (⟨#[32]⟩ : ByteArray)).bind fun y =>
  (if (y.length : Int) != 4 then some ((y.length : Int) != 6)
  else some false).bind fun c4 =>
  if c4 then
    some (({ A := 0, B := 0, Length := 0, Risk := 0 } : Fiber), false)
  else
    (idx y 1).bind fun e =>
    (impl_indexOf fu n'.Nodes e).bind fun y2 =>
    (idx y 2).bind fun e2 =>
    (impl_indexOf fu n'.Nodes e2).bind fun y3 =>
    (idx y 3).bind fun e3 =>
    (impl_ParseInt fu e3).bind fun y4 =>
    if (y.length : Int) == 6 then
      (idx y 5).bind fun e4 =>
      (impl_ParseInt fu e4).bind fun y5 =>
      if y4.2 then if y2.2 then if y3.2 then some (({ A := y2.1, B := y3.1, Length := y4.1, Risk := y5.1 } : Fiber), y5.2)
      else some (({ A := y2.1, B := y3.1, Length := y4.1, Risk := y5.1 } : Fiber), false)
      else some (({ A := y2.1, B := y3.1, Length := y4.1, Risk := y5.1 } : Fiber), false)
      else if y2.2 then if y3.2 then some (({ A := y2.1, B := y3.1, Length := y4.1, Risk := y5.1 } : Fiber), false)
      else some (({ A := y2.1, B := y3.1, Length := y4.1, Risk := y5.1 } : Fiber), false)
      else some (({ A := y2.1, B := y3.1, Length := y4.1, Risk := y5.1 } : Fiber), false)
    else
      if y2.2 then if y3.2 then some (({ A := y2.1, B := y3.1, Length := y4.1, Risk := 0 } : Fiber), y4.2)
      else some (({ A := y2.1, B := y3.1, Length := y4.1, Risk := 0 } : Fiber), false)
      else some (({ A := y2.1, B := y3.1, Length := y4.1, Risk := 0 } : Fiber), false)
def impl_copyNetwork (fu : Nat) (n' : Network) : Option (Network) :=
  (app ([] : List ByteArray) n'.Nodes).bind fun l =>
  (app ([] : List Fiber) n'.Fibers).bind fun l2 =>
  some ({ Nodes := l, Fibers := l2 } : Network)
def impl_ParseNetwork_L1 (fu : Nat) (l : List ByteArray) (l2 : List ByteArray) : Nat → Int → List Fiber → Option (Out (Int × List Fiber) (Network × Bool))
  | 0, _, _ => none
  | fk + 1, i, m =>
    if decide (i < (l2.length : Int)) then
      (idx l2 i).bind fun e2 =>
      (impl_readFiber fu ({ Nodes := l, Fibers := m } : Network) e2).bind fun y3 =>
      if !y3.2 then
        some (.ret (({ Nodes := [], Fibers := [] } : Network), false))
      else
        (app m [y3.1]).bind fun l3 =>
        impl_ParseNetwork_L1 fu l l2 fk (w64 (i + 1)) l3
    else
      some (.next (i, m))
def impl_ParseNetwork (fu : Nat) (s' : ByteArray) : Option (Network × Bool) :=
  (impl_linesOf fu s').bind fun y =>
  if !y.2 then
    some (({ Nodes := [], Fibers := [] } : Network), false)
  else
    (idx y.1 0).bind fun e =>
    (strings_Split fu e (⟨#[32]⟩ : ByteArray)).bind fun y2 =>
    (sub y2 1 (y2.length : Int)).bind fun l =>
    (sub y.1 1 (y.1.length : Int)).bind fun l2 =>
    (impl_ParseNetwork_L1 fu l l2 fu 0 ([] : List Fiber)).bind fun out => out.on some fun z =>
    (impl_FormatNetwork fu ({ Nodes := l, Fibers := z.2 } : Network)).bind fun y4 =>
    (if !y4.2 then some true
    else some (!(y4.1.toList == s'.toList))).bind fun c8 =>
    if c8 then
      some (({ Nodes := [], Fibers := [] } : Network), false)
    else
      (impl_copyNetwork fu ({ Nodes := l, Fibers := z.2 } : Network)).bind fun y5 =>
      some (y5, true)
def spec_l1In (fu : Nat) (x1 : Int) (a' : Int) (b' : Int) : Option (Bool) :=
  (if decide (x1 ≥ a') then some (decide (x1 ≤ b'))
  else some false).bind fun c =>
  some c
def spec_l2Sign (fu : Nat) (b' : By) : Option (Bool) :=
  (if decide (b'.n ≥ 97) then if decide (b'.n ≤ 122) then some true
  else if decide (b'.n ≥ 48) then some (decide (b'.n ≤ 57))
  else some false
  else if decide (b'.n ≥ 48) then some (decide (b'.n ≤ 57))
  else some false).bind fun c =>
  some c
def spec_l2Name_L1 (fu : Nat) (s' : ByteArray) : Nat → Int → Option (Out (Int) (Bool))
  | 0, _ => none
  | fk + 1, i =>
    if decide (i < (s'.size : Int)) then
      (sidx s' i).bind fun e3 =>
      (spec_l2Sign fu e3).bind fun y2 =>
      if !y2 then
        some (.ret false)
      else
        spec_l2Name_L1 fu s' fk (w64 (i + 1))
    else
      some (.next i)
def spec_l2Name (fu : Nat) (s' : ByteArray) : Option (Bool) :=
  ((spec_l1In fu (s'.size : Int) 1 8).bind fun y =>
  if !y then some true
  else (sidx s' 0).bind fun e =>
  if decide (e.n < 97) then some true
  else (sidx s' 0).bind fun e2 =>
  some (decide (e2.n > 122))).bind fun c =>
  if c then
    some false
  else
    (spec_l2Name_L1 fu s' fu 0).bind fun out => out.on some fun z =>
    some true
def spec_l2Find_L1 (fu : Nat) (list : List ByteArray) (name : ByteArray) : Nat → Int → Option (Out (Int) (Int))
  | 0, _ => none
  | fk + 1, i =>
    if decide (i < (list.length : Int)) then
      (idx list i).bind fun e =>
      if e.toList == name.toList then
        some (.ret i)
      else
        spec_l2Find_L1 fu list name fk (w64 (i + 1))
    else
      some (.next i)
def spec_l2Find (fu : Nat) (list : List ByteArray) (name : ByteArray) : Option (Int) :=
  (spec_l2Find_L1 fu list name fu 0).bind fun out => out.on some fun z =>
  some (-1)
def spec_l2Fiber (fu : Nat) (f : Fiber) (nodes : Int) : Option (Bool) :=
  ((spec_l1In fu f.A 0 (w64 (nodes - 1))).bind fun y =>
  if y then (spec_l1In fu f.B (w64 (f.A + 1)) (w64 (nodes - 1))).bind fun y2 =>
  if y2 then (spec_l1In fu f.Length 1 5000).bind fun y3 =>
  if y3 then (spec_l1In fu f.Risk 0 9).bind fun y4 =>
  some y4
  else some false
  else some false
  else some false).bind fun c =>
  some c
def spec_l2Good_L1 (fu : Nat) (n' : Network) : Nat → Int → Option (Out (Int) (Bool))
  | 0, _ => none
  | fk + 1, i =>
    if decide (i < (n'.Nodes.length : Int)) then
      ((idx n'.Nodes i).bind fun e =>
      (spec_l2Name fu e).bind fun y2 =>
      if !y2 then some true
      else (idx n'.Nodes i).bind fun e2 =>
      (spec_l2Find fu n'.Nodes e2).bind fun y3 =>
      some (y3 != i)).bind fun c4 =>
      if c4 then
        some (.ret false)
      else
        spec_l2Good_L1 fu n' fk (w64 (i + 1))
    else
      some (.next i)
def spec_l2Good_L2 (fu : Nat) (n' : Network) : Nat → Int → Option (Out (Int) (Bool))
  | 0, _ => none
  | fk + 1, i3 =>
    if decide (i3 < (n'.Fibers.length : Int)) then
      ((idx n'.Fibers i3).bind fun e3 =>
      (spec_l2Fiber fu e3 (n'.Nodes.length : Int)).bind fun y4 =>
      if !y4 then some true
      else if decide (i3 > 0) then (idx n'.Fibers (w64 (i3 - 1))).bind fun e4 =>
      (idx n'.Fibers i3).bind fun e5 =>
      (spec_l2Before fu e4 e5).bind fun y5 =>
      some (decide (y5 > 0))
      else some false).bind fun c5 =>
      if c5 then
        some (.ret false)
      else
        spec_l2Good_L2 fu n' fk (w64 (i3 + 1))
    else
      some (.next i3)
def spec_l2Good (fu : Nat) (n' : Network) : Option (Bool) :=
  ((spec_l1In fu (n'.Nodes.length : Int) 2 8).bind fun y =>
  if !y then some true
  else some (decide ((n'.Fibers.length : Int) > 14))).bind fun c3 =>
  if c3 then
    some false
  else
    (spec_l2Good_L1 fu n' fu 0).bind fun out => out.on some fun z2 =>
    (spec_l2Good_L2 fu n' fu 0).bind fun out => out.on some fun z =>
    some true
def spec_IsValidNetwork (fu : Nat) (n' : Network) : Option (Bool) :=
  (spec_l2Good fu n').bind fun y =>
  some y
def laws_vNetworks_L1 (fu : Nat) (a' : Network) (b' : Network) : Nat → Int → Option (Out (Int) (Bool))
  | 0, _ => none
  | fk + 1, i =>
    if decide (i < (a'.Nodes.length : Int)) then
      (idx a'.Nodes i).bind fun e =>
      (idx b'.Nodes i).bind fun e2 =>
      if !(e.toList == e2.toList) then
        some (.ret false)
      else
        laws_vNetworks_L1 fu a' b' fk (w64 (i + 1))
    else
      some (.next i)
def laws_vNetworks_L2 (fu : Nat) (a' : Network) (b' : Network) : Nat → Int → Option (Out (Int) (Bool))
  | 0, _ => none
  | fk + 1, i3 =>
    if decide (i3 < (a'.Fibers.length : Int)) then
      (idx a'.Fibers i3).bind fun e3 =>
      (idx b'.Fibers i3).bind fun e4 =>
      if !(([e3.A, e3.B, e3.Length, e3.Risk] : List Int) == ([e4.A, e4.B, e4.Length, e4.Risk] : List Int)) then
        some (.ret false)
      else
        laws_vNetworks_L2 fu a' b' fk (w64 (i3 + 1))
    else
      some (.next i3)
def laws_vNetworks (fu : Nat) (a' : Network) (b' : Network) : Option (Bool) :=
  (if (a'.Nodes.length : Int) != (b'.Nodes.length : Int) then some true
  else some ((a'.Fibers.length : Int) != (b'.Fibers.length : Int))).bind fun c5 =>
  if c5 then
    some false
  else
    (laws_vNetworks_L1 fu a' b' fu 0).bind fun out => out.on some fun z2 =>
    (laws_vNetworks_L2 fu a' b' fu 0).bind fun out => out.on some fun z =>
    some true
def impl_otherEnd (fu : Nat) (f : Fiber) (node : Int) : Option (Int) :=
  if node == f.A then
    some f.B
  else
    if node == f.B then
      some f.A
    else
      some (-1)
def slices_Index_int_int_L1 (fu : Nat) (s' : List Int) (v : Int) : Nat → Int → Option (Out (Int) (Int))
  | 0, _ => none
  | fk + 1, i =>
    if decide (i < (s'.length : Int)) then
      (idx s' i).bind fun e =>
      if v == e then
        some (.ret i)
      else
        slices_Index_int_int_L1 fu s' v fk (w64 (i + 1))
    else
      some (.next i)
def slices_Index_int_int (fu : Nat) (s' : List Int) (v : Int) : Option (Int) :=
  (slices_Index_int_int_L1 fu s' v fu 0).bind fun out => out.on some fun z =>
  some (-1)
def slices_Contains_int_int (fu : Nat) (s' : List Int) (v : Int) : Option (Bool) :=
  (slices_Index_int_int fu s' v).bind fun y =>
  some (decide (y ≥ 0))
def impl_visited_L1 (fu : Nat) (n' : Network) (r' : Route) : Nat → List Int → Int → Int → Option (Out (List Int × Int × Int) (List Int × Bool))
  | 0, _, _, _ => none
  | fk + 1, out', at', i =>
    if decide (i < (r'.Fibers.length : Int)) then
      (idx r'.Fibers i).bind fun e =>
      (impl_within fu e 0 (w64 ((n'.Fibers.length : Int) - 1))).bind fun y2 =>
      if !y2 then
        some (.ret ([], false))
      else
        (idx n'.Fibers e).bind fun e2 =>
        (impl_otherEnd fu e2 at').bind fun y3 =>
        (if decide (y3 < 0) then some true
        else (slices_Contains_int_int fu out' y3).bind fun y4 =>
        some y4).bind fun c6 =>
        if c6 then
          some (.ret ([], false))
        else
          (app out' [y3]).bind fun l =>
          impl_visited_L1 fu n' r' fk l y3 (w64 (i + 1))
    else
      some (.next (out', at', i))
def impl_visited (fu : Nat) (n' : Network) (r' : Route) : Option (List Int × Bool) :=
  ((impl_within fu r'.Start 0 (w64 ((n'.Nodes.length : Int) - 1))).bind fun y =>
  if !y then some true
  else some ((r'.Fibers.length : Int) == 0)).bind fun c4 =>
  if c4 then
    some ([], false)
  else
    (impl_visited_L1 fu n' r' fu [r'.Start] r'.Start 0).bind fun out => out.on some fun z =>
    some (z.1, true)
def impl_RouteNodes (fu : Nat) (n' : Network) (r' : Route) : Option (List Int × Bool) :=
  (impl_IsValidNetwork fu n').bind fun y =>
  if !y then
    some ([], false)
  else
    (impl_visited fu n' r').bind fun y2 =>
    some (y2.1, y2.2)
def impl_IsValidRoute (fu : Nat) (n' : Network) (r' : Route) : Option (Bool) :=
  (impl_RouteNodes fu n' r').bind fun y =>
  some y.2
def impl_routeText_L1 (fu : Nat) (n' : Network) (r' : Route) (y : List Int × Bool) : Nat → ByteArray → Int → Option (ByteArray × Int)
  | 0, _, _ => none
  | fk + 1, out', i =>
    if decide (i < (r'.Fibers.length : Int)) then
      (idx r'.Fibers i).bind fun e3 =>
      (idx y.1 (w64 (i + 1))).bind fun e4 =>
      (idx n'.Nodes e4).bind fun e5 =>
      (strconv_Itoa fu e3).bind fun y2 =>
      (scat (⟨#[46]⟩ : ByteArray) y2).bind fun s' =>
      (scat s' (⟨#[46]⟩ : ByteArray)).bind fun s2 =>
      (scat s2 e5).bind fun s3 =>
      (scat out' s3).bind fun s4 =>
      impl_routeText_L1 fu n' r' y fk s4 (w64 (i + 1))
    else
      some (out', i)
def impl_routeText (fu : Nat) (n' : Network) (r' : Route) : Option (ByteArray) :=
  (impl_visited fu n' r').bind fun y =>
  (idx y.1 0).bind fun e =>
  (idx n'.Nodes e).bind fun e2 =>
  (impl_routeText_L1 fu n' r' y fu e2 0).bind fun z =>
  some z.1
def impl_FormatRoute (fu : Nat) (n' : Network) (r' : Route) : Option (ByteArray × Bool) :=
  (impl_IsValidRoute fu n' r').bind fun y =>
  if !y then
    some (ByteArray.empty, false)
  else
    (impl_routeText fu n' r').bind fun y2 =>
    some (y2, true)
def impl_ParseRoute_L1 (fu : Nat) (y : List ByteArray) : Nat → Int → List Int → Option (Out (Int × List Int) (Route × Bool))
  | 0, _, _ => none
  | fk + 1, k', m =>
    if decide (k' < (y.length : Int)) then
      (idx y k').bind fun e2 =>
      (impl_ParseInt fu e2).bind fun y3 =>
      if !y3.2 then
        some (.ret (({ Start := 0, Fibers := [] } : Route), false))
      else
        (app m [y3.1]).bind fun l =>
        impl_ParseRoute_L1 fu y fk (w64 (k' + 2)) l
    else
      some (.next (k', m))
def impl_ParseRoute (fu : Nat) (n' : Network) (s' : ByteArray) : Option (Route × Bool) :=
  (strings_Split fu s' (⟨#[46]⟩ : ByteArray)).bind fun y =>
  (idx y 0).bind fun e =>
  (impl_indexOf fu n'.Nodes e).bind fun y2 =>
  (if !y2.2 then some true
  else some (decide ((s'.size : Int) > 4000))).bind fun c4 =>
  if c4 then
    some (({ Start := 0, Fibers := [] } : Route), false)
  else
    (impl_ParseRoute_L1 fu y fu 1 ([] : List Int)).bind fun out => out.on some fun z =>
    (impl_FormatRoute fu n' ({ Start := y2.1, Fibers := z.2 } : Route)).bind fun y4 =>
    (if !y4.2 then some true
    else some (!(y4.1.toList == s'.toList))).bind fun c8 =>
    if c8 then
      some (({ Start := 0, Fibers := [] } : Route), false)
    else
      some (({ Start := y2.1, Fibers := z.2 } : Route), true)
def spec_l4Walk_L1 (fu : Nat) (n' : Network) (r' : Route) : Nat → List Int → Int → Option (Out (List Int × Int) (List Int × Bool))
  | 0, _, _ => none
  | fk + 1, out', i =>
    if decide (i < (r'.Fibers.length : Int)) then
      (idx r'.Fibers i).bind fun e =>
      (spec_l1In fu e 0 (w64 ((n'.Fibers.length : Int) - 1))).bind fun y2 =>
      if !y2 then
        some (.ret (out', false))
      else
        (idx r'.Fibers i).bind fun e2 =>
        (idx out' (w64 ((out'.length : Int) - 1))).bind fun e3 =>
        (spec_l2Other fu n' e2 e3).bind fun y3 =>
        (if decide (y3 < 0) then some true
        else (spec_l1Has fu out' y3).bind fun y4 =>
        some y4).bind fun c6 =>
        if c6 then
          some (.ret (out', false))
        else
          (app out' [y3]).bind fun l =>
          spec_l4Walk_L1 fu n' r' fk l (w64 (i + 1))
    else
      some (.next (out', i))
def spec_l4Walk (fu : Nat) (n' : Network) (r' : Route) : Option (List Int × Bool) :=
  ((spec_l1In fu r'.Start 0 (w64 ((n'.Nodes.length : Int) - 1))).bind fun y =>
  if !y then some true
  else some ((r'.Fibers.length : Int) == 0)).bind fun c4 =>
  if c4 then
    some ([r'.Start], false)
  else
    (spec_l4Walk_L1 fu n' r' fu [r'.Start] 0).bind fun out => out.on some fun z =>
    some (z.1, true)
def spec_l4Good (fu : Nat) (n' : Network) (r' : Route) : Option (Bool) :=
  (spec_l2Good fu n').bind fun y =>
  if !y then
    some false
  else
    (spec_l4Walk fu n' r').bind fun y2 =>
    some y2.2
def spec_IsValidRoute (fu : Nat) (n' : Network) (r' : Route) : Option (Bool) :=
  (spec_l4Good fu n' r').bind fun y =>
  some y
def laws_vInts_L1 (fu : Nat) (a' : List Int) (b' : List Int) : Nat → Int → Option (Out (Int) (Bool))
  | 0, _ => none
  | fk + 1, i =>
    if decide (i < (a'.length : Int)) then
      (idx a' i).bind fun e =>
      (idx b' i).bind fun e2 =>
      if e != e2 then
        some (.ret false)
      else
        laws_vInts_L1 fu a' b' fk (w64 (i + 1))
    else
      some (.next i)
def laws_vInts (fu : Nat) (a' : List Int) (b' : List Int) : Option (Bool) :=
  if (a'.length : Int) != (b'.length : Int) then
    some false
  else
    (laws_vInts_L1 fu a' b' fu 0).bind fun out => out.on some fun z =>
    some true
def laws_vRoutes (fu : Nat) (a' : Route) (b' : Route) : Option (Bool) :=
  (if a'.Start == b'.Start then (laws_vInts fu a'.Fibers b'.Fibers).bind fun y =>
  some y
  else some false).bind fun c3 =>
  some c3
def spec_l1Cur_block (fu : Nat) (c : L1CurP) : Option (Block × L1CurP) :=
  (spec_l1Cur_one fu c 12).bind fun y =>
  if y.1 then
    (spec_l1Cur_pick fu y.2 26).bind fun y2 =>
    (spec_l1Cur_pick fu y2.2 27).bind fun y3 =>
    some (({ First := w64 (y2.1 - 1), Count := w64 (y3.1 - 1) } : Block), y3.2)
  else
    (spec_l1Cur_pick fu y.2 6).bind fun y4 =>
    (spec_l1Cur_pick fu y4.2 (w64 ((w64 (24 - (w64 (1 + y4.1)))) + 1))).bind fun y5 =>
    some (({ First := y5.1, Count := w64 (1 + y4.1) } : Block), y5.2)
def spec_DrawIsValidBlock (fu : Nat) (code : List By) : Option (Block) :=
  (spec_l1Cur_one fu ({ code := code, at_ := 0, seed := (⟨0⟩ : U64) } : L1CurP) 3).bind fun y =>
  if y.1 then
    (spec_l1Cur_pick fu y.2 26).bind fun y2 =>
    (spec_l1Cur_pick fu y2.2 27).bind fun y3 =>
    some ({ First := w64 (y2.1 - 1), Count := w64 (y3.1 - 1) } : Block)
  else
    (spec_l1Cur_block fu y.2).bind fun y4 =>
    some y4.1
def spec_DrawFormatBlock (fu : Nat) (code : List By) : Option (Block) :=
  (spec_DrawIsValidBlock fu code).bind fun y =>
  some y
def impl_IsValidBlock (fu : Nat) (b' : Block) : Option (Bool) :=
  (if decide (b'.First ≥ 0) then (impl_within fu b'.Count 1 24).bind fun y =>
  if y then some (decide (b'.First ≤ (w64 (24 - b'.Count))))
  else some false
  else some false).bind fun c =>
  some c
def impl_blockText (fu : Nat) (b' : Block) : Option (ByteArray) :=
  (strconv_Itoa fu b'.First).bind fun y =>
  (scat y (⟨#[43]⟩ : ByteArray)).bind fun s' =>
  (strconv_Itoa fu b'.Count).bind fun y2 =>
  (scat s' y2).bind fun s2 =>
  some s2
def impl_FormatBlock (fu : Nat) (b' : Block) : Option (ByteArray × Bool) :=
  (impl_IsValidBlock fu b').bind fun y =>
  if !y then
    some (ByteArray.empty, false)
  else
    (impl_blockText fu b').bind fun y2 =>
    some (y2, true)
def strings_Cut (fu : Nat) (s : ByteArray) (sep : ByteArray) : Option (ByteArray × ByteArray × Bool) := cutO s sep
def impl_ParseBlock (fu : Nat) (s' : ByteArray) : Option (Block × Bool) :=
  (strings_Cut fu s' (⟨#[43]⟩ : ByteArray)).bind fun y =>
  (impl_ParseInt fu y.1).bind fun y2 =>
  (impl_ParseInt fu y.2.1).bind fun y3 =>
  (if !y2.2 then some true
  else if !y3.2 then some true
  else (impl_IsValidBlock fu ({ First := y2.1, Count := y3.1 } : Block)).bind fun y4 =>
  if !y4 then some true
  else (impl_blockText fu ({ First := y2.1, Count := y3.1 } : Block)).bind fun y5 =>
  some (!(y5.toList == s'.toList))).bind fun c =>
  if c then
    some (({ First := 0, Count := 0 } : Block), false)
  else
    some (({ First := y2.1, Count := y3.1 } : Block), true)
def spec_l8Good (fu : Nat) (b' : Block) : Option (Bool) :=
  ((spec_l1In fu b'.First 0 23).bind fun y =>
  if y then (spec_l1In fu b'.Count 1 (w64 (24 - b'.First))).bind fun y2 =>
  some y2
  else some false).bind fun c =>
  some c
def spec_IsValidBlock (fu : Nat) (b' : Block) : Option (Bool) :=
  (spec_l8Good fu b').bind fun y =>
  some y
def spec_l1Cur_linked (fu : Nat) (c : L1CurP) : Option (Network × L1CurP) :=
  (spec_l1Cur_network fu c).bind fun y =>
  if (y.1.Fibers.length : Int) == 0 then
    (app y.1.Fibers [({ A := 0, B := 1, Length := 100, Risk := 0 } : Fiber)]).bind fun l =>
    some (({ Nodes := y.1.Nodes, Fibers := l } : Network), y.2)
  else
    some (y.1, y.2)
def spec_l1Cur_routed (fu : Nat) (c : L1CurP) (n' : Network) : Option (Route × L1CurP) :=
  (spec_l1Cur_route fu c n').bind fun y =>
  if (y.1.Fibers.length : Int) == 0 then
    (idx n'.Fibers 0).bind fun e =>
    some (({ Start := e.A, Fibers := [0] } : Route), y.2)
  else
    some (y.1, y.2)
def spec_l8Bits (fu : Nat) (b' : Block) : Option (Int) :=
  (shl 1 (wu64 b'.Count)).bind fun q =>
  (shl (w64 (q - 1)) (wu64 b'.First)).bind fun q2 =>
  some q2
def spec_l9Used_L1 (fu : Nat) (p : Plan) (fiber : Int) : Nat → Int → Int → Option (Int × Int)
  | 0, _, _ => none
  | fk + 1, out', i =>
    if decide (i < (p.Lights.length : Int)) then
      (idx p.Lights i).bind fun e =>
      (spec_l1Has fu e.Route.Fibers fiber).bind fun y =>
      if y then
        (idx p.Lights i).bind fun e2 =>
        (spec_l8Bits fu e2.Block).bind fun y2 =>
        spec_l9Used_L1 fu p fiber fk (bor out' y2) (w64 (i + 1))
      else
        spec_l9Used_L1 fu p fiber fk out' (w64 (i + 1))
    else
      some (out', i)
def spec_l9Used (fu : Nat) (p : Plan) (fiber : Int) : Option (Int) :=
  (spec_l9Used_L1 fu p fiber fu 0 0).bind fun z =>
  some z.1
def spec_l9Along_L1 (fu : Nat) (p : Plan) (r' : Route) : Nat → Int → Int → Option (Int × Int)
  | 0, _, _ => none
  | fk + 1, out', i =>
    if decide (i < (r'.Fibers.length : Int)) then
      (idx r'.Fibers i).bind fun e =>
      (spec_l9Used fu p e).bind fun y =>
      spec_l9Along_L1 fu p r' fk (bor out' y) (w64 (i + 1))
    else
      some (out', i)
def spec_l9Along (fu : Nat) (p : Plan) (r' : Route) : Option (Int) :=
  (spec_l9Along_L1 fu p r' fu 0 0).bind fun z =>
  some z.1
def spec_l8Fits_L1 (fu : Nat) (mask : Int) (count : Int) : Nat → List Int → Int → Option (List Int × Int)
  | 0, _, _ => none
  | fk + 1, out', s' =>
    if decide ((w64 (s' + count)) ≤ 24) then
      (spec_l8Bits fu ({ First := s', Count := count } : Block)).bind fun y =>
      if (band mask y) == 0 then
        (app out' [s']).bind fun l =>
        spec_l8Fits_L1 fu mask count fk l (w64 (s' + 1))
      else
        spec_l8Fits_L1 fu mask count fk out' (w64 (s' + 1))
    else
      some (out', s')
def spec_l8Fits (fu : Nat) (mask : Int) (count : Int) : Option (List Int) :=
  (spec_l8Fits_L1 fu mask count fu ([] : List Int) 0).bind fun z =>
  some z.1
def spec_l2Own (fu : Nat) (n' : Network) : Option (Network) :=
  (app ([] : List ByteArray) n'.Nodes).bind fun l =>
  (app ([] : List Fiber) n'.Fibers).bind fun l2 =>
  some ({ Nodes := l, Fibers := l2 } : Network)
def spec_l1Own (fu : Nat) (l : List Int) : Option (List Int) :=
  (app ([] : List Int) l).bind fun l2 =>
  some l2
def spec_l4Own (fu : Nat) (r' : Route) : Option (Route) :=
  (spec_l1Own fu r'.Fibers).bind fun y =>
  some ({ Start := r'.Start, Fibers := y } : Route)
def spec_l9Copy (fu : Nat) (x1 : Light) : Option (Light) :=
  (spec_l4Own fu x1.Route).bind fun y =>
  some ({ Id := x1.Id, Route := y, Block := x1.Block } : Light)
def spec_l9Own_L1 (fu : Nat) (p : Plan) : Nat → Int → List Light → Option (Int × List Light)
  | 0, _, _ => none
  | fk + 1, i, m =>
    if decide (i < (p.Lights.length : Int)) then
      (idx p.Lights i).bind fun e =>
      (spec_l9Copy fu e).bind fun y2 =>
      (app m [y2]).bind fun al =>
      spec_l9Own_L1 fu p fk (w64 (i + 1)) al
    else
      some (i, m)
def spec_l9Own (fu : Nat) (p : Plan) : Option (Plan) :=
  (spec_l2Own fu p.Network).bind fun y =>
  (spec_l9Own_L1 fu p fu 0 ([] : List Light)).bind fun z =>
  some ({ Network := y, Lights := z.2 } : Plan)
def spec_l9Put_L1 (fu : Nat) (x1 : Light) (y : Plan) : Nat → Int → Option (Int)
  | 0, _ => none
  | fk + 1, i =>
    (if decide (i < (y.Lights.length : Int)) then (idx y.Lights i).bind fun e =>
    some (decide (e.Id < x1.Id))
    else some false).bind fun c8 =>
    if c8 then
      spec_l9Put_L1 fu x1 y fk (w64 (i + 1))
    else
      some i
def spec_l9Put (fu : Nat) (p : Plan) (x1 : Light) : Option (Plan) :=
  (spec_l9Own fu p).bind fun y =>
  (spec_l9Put_L1 fu x1 y fu 0).bind fun z =>
  (sub y.Lights 0 z).bind fun l =>
  (sub y.Lights z (y.Lights.length : Int)).bind fun l2 =>
  (app ([] : List Light) l).bind fun l3 =>
  (spec_l9Copy fu x1).bind fun y2 =>
  (app l3 [y2]).bind fun l4 =>
  (app l4 l2).bind fun l5 =>
  some ({ Network := y.Network, Lights := l5 } : Plan)
def spec_l1Cur_plan_L1 (fu : Nat) : Nat → Int → List ByteArray → List Fiber → List Light → List By → Int → U64 → Option (Int × List ByteArray × List Fiber × List Light × List By × Int × U64)
  | 0, _, _, _, _, _, _, _ => none
  | fk + 1, n', m, m2, m3, m4, m5, m6 =>
    if decide (n' > 0) then
      (spec_l1Cur_routed fu ({ code := m4, at_ := m5, seed := m6 } : L1CurP) ({ Nodes := m, Fibers := m2 } : Network)).bind fun y3 =>
      (spec_l1Cur_pick fu y3.2 5).bind fun y4 =>
      (spec_l9Along fu ({ Network := ({ Nodes := m, Fibers := m2 } : Network), Lights := m3 } : Plan) y3.1).bind fun y5 =>
      (spec_l8Fits fu y5 (w64 (1 + y4.1))).bind fun y6 =>
      if decide ((y6.length : Int) > 0) then
        (idx y6 0).bind fun e =>
        (spec_l1Cur_one fu y4.2 2).bind fun y7 =>
        if y7.1 then
          (spec_l1Cur_pick fu y7.2 (y6.length : Int)).bind fun y8 =>
          (idx y6 y8.1).bind fun e2 =>
          (spec_l1Cur_pick fu y8.2 3).bind fun y9 =>
          (spec_l9Put fu ({ Network := ({ Nodes := m, Fibers := m2 } : Network), Lights := m3 } : Plan) ({ Id := w64 ((w64 ((w64 ((m3.length : Int) * 3)) + 1)) + y9.1), Route := y3.1, Block := ({ First := e2, Count := w64 (1 + y4.1) } : Block) } : Light)).bind fun y10 =>
          spec_l1Cur_plan_L1 fu fk (w64 (n' - 1)) y10.Network.Nodes y10.Network.Fibers y10.Lights y9.2.code y9.2.at_ y9.2.seed
        else
          (spec_l1Cur_pick fu y7.2 3).bind fun y11 =>
          (spec_l9Put fu ({ Network := ({ Nodes := m, Fibers := m2 } : Network), Lights := m3 } : Plan) ({ Id := w64 ((w64 ((w64 ((m3.length : Int) * 3)) + 1)) + y11.1), Route := y3.1, Block := ({ First := e, Count := w64 (1 + y4.1) } : Block) } : Light)).bind fun y12 =>
          spec_l1Cur_plan_L1 fu fk (w64 (n' - 1)) y12.Network.Nodes y12.Network.Fibers y12.Lights y11.2.code y11.2.at_ y11.2.seed
      else
        spec_l1Cur_plan_L1 fu fk (w64 (n' - 1)) m m2 m3 y4.2.code y4.2.at_ y4.2.seed
    else
      some (n', m, m2, m3, m4, m5, m6)
def spec_l1Cur_plan (fu : Nat) (c : L1CurP) : Option (Plan × L1CurP) :=
  (spec_l1Cur_linked fu c).bind fun y =>
  (spec_l1Cur_pick fu y.2 9).bind fun y2 =>
  (spec_l1Cur_plan_L1 fu fu y2.1 y.1.Nodes y.1.Fibers ([] : List Light) y2.2.code y2.2.at_ y2.2.seed).bind fun z =>
  some (({ Network := ({ Nodes := z.2.1, Fibers := z.2.2.1 } : Network), Lights := z.2.2.2.1 } : Plan), ({ code := z.2.2.2.2.1, at_ := z.2.2.2.2.2.1, seed := z.2.2.2.2.2.2 } : L1CurP))
def spec_l1Cur_anyPlan_L1 (fu : Nat) (y : Plan × L1CurP) : Nat → Int → List Light → List By → Int → U64 → Option (Int × List Light × List By × Int × U64)
  | 0, _, _, _, _, _ => none
  | fk + 1, n', m12, m13, m14, m15 =>
    (spec_l1Cur_pick fu ({ code := m13, at_ := m14, seed := m15 } : L1CurP) 2).bind fun y8 =>
    if decide ((m12.length : Int) < (w64 (12 + y8.1))) then if decide (n' < 14) then
      (idx y.1.Network.Fibers 0).bind fun e2 =>
      (app m12 [({ Id := w64 (500 + n'), Route := ({ Start := e2.A, Fibers := [0] } : Route), Block := ({ First := w64 (23 - n'), Count := 1 } : Block) } : Light)]).bind fun l2 =>
      spec_l1Cur_anyPlan_L1 fu y fk (w64 (n' + 1)) l2 y8.2.code y8.2.at_ y8.2.seed
    else
      some (n', m12, y8.2.code, y8.2.at_, y8.2.seed)
    else some (n', m12, y8.2.code, y8.2.at_, y8.2.seed)
def spec_l1Cur_anyPlan (fu : Nat) (c : L1CurP) : Option (Plan × L1CurP) :=
  (spec_l1Cur_plan fu c).bind fun y =>
  if (y.1.Lights.length : Int) == 0 then
    some (y.1, y.2)
  else
    (spec_l1Cur_pick fu y.2 (y.1.Lights.length : Int)).bind fun y2 =>
    (idx y.1.Lights y2.1).bind fun e =>
    (spec_l1Cur_pick fu y2.2 24).bind fun y3 =>
    (if y3.1 == 0 then
      (spec_l1Cur_among fu y3.2 [0, 999, 1000, 1, 4]).bind fun y4 =>
      some (.next (y4.1, y4.2.code, y4.2.at_, y4.2.seed, e.Block.First, e.Block.Count, e.Route.Start, e.Route.Fibers, y.1.Lights, y.1.Network.Nodes, y.1.Network.Fibers))
    else
      if y3.1 == 1 then
        (spec_l1Cur_block fu y3.2).bind fun y5 =>
        some (.next (e.Id, y5.2.code, y5.2.at_, y5.2.seed, y5.1.First, y5.1.Count, e.Route.Start, e.Route.Fibers, y.1.Lights, y.1.Network.Nodes, y.1.Network.Fibers))
      else
        if y3.1 == 2 then
          (spec_l1Cur_anyRoute fu y3.2 y.1.Network).bind fun y6 =>
          some (.next (e.Id, y6.2.code, y6.2.at_, y6.2.seed, e.Block.First, e.Block.Count, y6.1.Start, y6.1.Fibers, y.1.Lights, y.1.Network.Nodes, y.1.Network.Fibers))
        else
          if y3.1 == 3 then
            (app y.1.Lights [e]).bind fun l =>
            some (.next (e.Id, y3.2.code, y3.2.at_, y3.2.seed, e.Block.First, e.Block.Count, e.Route.Start, e.Route.Fibers, l, y.1.Network.Nodes, y.1.Network.Fibers))
          else
            if y3.1 == 4 then
              (spec_l1Cur_anyNetwork fu y3.2).bind fun y7 =>
              some (.next (e.Id, y7.2.code, y7.2.at_, y7.2.seed, e.Block.First, e.Block.Count, e.Route.Start, e.Route.Fibers, y.1.Lights, y7.1.Nodes, y7.1.Fibers))
            else
              if y3.1 == 5 then
                (spec_l1Cur_anyPlan_L1 fu y fu 0 y.1.Lights y3.2.code y3.2.at_ y3.2.seed).bind fun z =>
                some (.ret (({ Network := y.1.Network, Lights := z.2.1 } : Plan), ({ code := z.2.2.1, at_ := z.2.2.2.1, seed := z.2.2.2.2 } : L1CurP)))
              else
                some (.next (e.Id, y3.2.code, y3.2.at_, y3.2.seed, e.Block.First, e.Block.Count, e.Route.Start, e.Route.Fibers, y.1.Lights, y.1.Network.Nodes, y.1.Network.Fibers)) : Option (Out (Int × List By × Int × U64 × Int × Int × Int × List Int × List Light × List ByteArray × List Fiber) (Plan × L1CurP))).bind fun out => out.on some fun z2 =>
    (idx z2.2.2.2.2.2.2.2.2.1 y2.1).bind fun e3 =>
    some (({ Network := ({ Nodes := z2.2.2.2.2.2.2.2.2.2.1, Fibers := z2.2.2.2.2.2.2.2.2.2.2 } : Network), Lights := z2.2.2.2.2.2.2.2.2.1.set (y2.1 : Int).toNat ({ Id := z2.1, Route := ({ Start := z2.2.2.2.2.2.2.1, Fibers := z2.2.2.2.2.2.2.2.1 } : Route), Block := ({ First := z2.2.2.2.2.1, Count := z2.2.2.2.2.2.1 } : Block) } : Light) } : Plan), ({ code := z2.2.1, at_ := z2.2.2.1, seed := z2.2.2.2.1 } : L1CurP))
def spec_DrawIsValidPlan (fu : Nat) (code : List By) : Option (Plan) :=
  (spec_l1Cur_anyPlan fu ({ code := code, at_ := 0, seed := (⟨0⟩ : U64) } : L1CurP)).bind fun y =>
  some y.1
def spec_DrawFormatPlan (fu : Nat) (code : List By) : Option (Plan) :=
  (spec_DrawIsValidPlan fu code).bind fun y =>
  some y
def impl_isLight (fu : Nat) (n' : Network) (x1 : Light) : Option (Bool) :=
  (impl_visited fu n' x1.Route).bind fun y =>
  (if y.2 then (impl_within fu x1.Id 1 999).bind fun y2 =>
  if y2 then (impl_IsValidBlock fu x1.Block).bind fun y3 =>
  some y3
  else some false
  else some false).bind fun c5 =>
  some c5
def impl_maskOf (fu : Nat) (b' : Block) : Option (Int) :=
  (shl 1 b'.Count).bind fun q =>
  (shl (w64 (q - 1)) b'.First).bind fun q2 =>
  some q2
def slices_Sort_int_int (fu : Nat) (x : List Int) : Option (List Int) := sortI x
def slices_Compact_int_int (fu : Nat) (x : List Int) : Option (List Int) := some (compI x)
def impl_common_L1 (fu : Nat) (a' : List Int) (b' : List Int) : Nat → List Int → Int → Option (List Int × Int)
  | 0, _, _ => none
  | fk + 1, out', i =>
    if decide (i < (a'.length : Int)) then
      (idx a' i).bind fun e =>
      (slices_Contains_int_int fu b' e).bind fun y =>
      if y then
        (app out' [e]).bind fun l =>
        impl_common_L1 fu a' b' fk l (w64 (i + 1))
      else
        impl_common_L1 fu a' b' fk out' (w64 (i + 1))
    else
      some (out', i)
def impl_common (fu : Nat) (a' : List Int) (b' : List Int) : Option (List Int) :=
  (impl_common_L1 fu a' b' fu ([] : List Int) 0).bind fun z =>
  (slices_Sort_int_int fu z.1).bind fun y2 =>
  (slices_Compact_int_int fu y2).bind fun y3 =>
  some y3
def impl_collide (fu : Nat) (a' : Light) (b' : Light) : Option (Bool) :=
  ((impl_maskOf fu a'.Block).bind fun y =>
  (impl_maskOf fu b'.Block).bind fun y2 =>
  if (band y y2) != 0 then (impl_common fu a'.Route.Fibers b'.Route.Fibers).bind fun y3 =>
  some (decide ((y3.length : Int) > 0))
  else some false).bind fun c3 =>
  some c3
def impl_IsValidPlan_c1 (fu : Nat) (own : Light) (cap : Light) : Option (Bool) :=
  (impl_collide fu own cap).bind fun y =>
  some y
def slices_IndexFunc_impl_Light_impl_Light_of_IsValidPlan_c1_L1 (fu : Nat) (s' : List Light) (cap : Light) : Nat → Int → Option (Out (Int) (Int))
  | 0, _ => none
  | fk + 1, i =>
    if decide (i < (s'.length : Int)) then
      (idx s' i).bind fun e =>
      (impl_IsValidPlan_c1 fu e cap).bind fun y =>
      if y then
        some (.ret i)
      else
        slices_IndexFunc_impl_Light_impl_Light_of_IsValidPlan_c1_L1 fu s' cap fk (w64 (i + 1))
    else
      some (.next i)
def slices_IndexFunc_impl_Light_impl_Light_of_IsValidPlan_c1 (fu : Nat) (s' : List Light) (cap : Light) : Option (Int) :=
  (slices_IndexFunc_impl_Light_impl_Light_of_IsValidPlan_c1_L1 fu s' cap fu 0).bind fun out => out.on some fun z =>
  some (-1)
def slices_ContainsFunc_impl_Light_impl_Light_of_IsValidPlan_c1 (fu : Nat) (s' : List Light) (cap : Light) : Option (Bool) :=
  (slices_IndexFunc_impl_Light_impl_Light_of_IsValidPlan_c1 fu s' cap).bind fun y =>
  some (decide (y ≥ 0))
def impl_IsValidPlan_L1 (fu : Nat) (p : Plan) : Nat → Int → Option (Out (Int) (Bool))
  | 0, _ => none
  | fk + 1, i =>
    if decide (i < (p.Lights.length : Int)) then
      (idx p.Lights i).bind fun e =>
      ((impl_isLight fu p.Network e).bind fun y2 =>
      if !y2 then some true
      else if decide (i > 0) then (idx p.Lights (w64 (i - 1))).bind fun e2 =>
      if decide (e2.Id ≥ e.Id) then some true
      else (sub p.Lights 0 i).bind fun l =>
      (slices_ContainsFunc_impl_Light_impl_Light_of_IsValidPlan_c1 fu l e).bind fun y3 =>
      some y3
      else (sub p.Lights 0 i).bind fun l2 =>
      (slices_ContainsFunc_impl_Light_impl_Light_of_IsValidPlan_c1 fu l2 e).bind fun y4 =>
      some y4).bind fun c6 =>
      if c6 then
        some (.ret false)
      else
        impl_IsValidPlan_L1 fu p fk (w64 (i + 1))
    else
      some (.next i)
def impl_IsValidPlan (fu : Nat) (p : Plan) : Option (Bool) :=
  ((impl_IsValidNetwork fu p.Network).bind fun y =>
  if !y then some true
  else some (decide ((p.Lights.length : Int) > 12))).bind fun c4 =>
  if c4 then
    some false
  else
    (impl_IsValidPlan_L1 fu p fu 0).bind fun out => out.on some fun z =>
    some true
def impl_FormatPlan_L1 (fu : Nat) (p : Plan) : Nat → ByteArray → Int → Option (ByteArray × Int)
  | 0, _, _ => none
  | fk + 1, out', i =>
    if decide (i < (p.Lights.length : Int)) then
      (idx p.Lights i).bind fun e =>
      (strconv_Itoa fu e.Id).bind fun y3 =>
      (scat (⟨#[108, 105, 103, 104, 116, 32]⟩ : ByteArray) y3).bind fun s' =>
      (scat s' (⟨#[32]⟩ : ByteArray)).bind fun s2 =>
      (impl_routeText fu p.Network e.Route).bind fun y4 =>
      (scat s2 y4).bind fun s3 =>
      (scat s3 (⟨#[32]⟩ : ByteArray)).bind fun s4 =>
      (impl_blockText fu e.Block).bind fun y5 =>
      (scat s4 y5).bind fun s5 =>
      (scat s5 (⟨#[10]⟩ : ByteArray)).bind fun s6 =>
      (scat out' s6).bind fun s7 =>
      impl_FormatPlan_L1 fu p fk s7 (w64 (i + 1))
    else
      some (out', i)
def impl_FormatPlan (fu : Nat) (p : Plan) : Option (ByteArray × Bool) :=
  (impl_IsValidPlan fu p).bind fun y =>
  if !y then
    some (ByteArray.empty, false)
  else
    (impl_FormatNetwork fu p.Network).bind fun y2 =>
    (impl_FormatPlan_L1 fu p fu y2.1 0).bind fun z =>
    some (z.1, true)
def impl_readLight (fu : Nat) (n' : Network) (line : ByteArray) : Option (Light × Bool) :=
  (strings_Split fu line (⟨#[32]⟩ : ByteArray)).bind fun y =>
  if (y.length : Int) != 4 then
    some (({ Id := 0, Route := ({ Start := 0, Fibers := [] } : Route), Block := ({ First := 0, Count := 0 } : Block) } : Light), false)
  else
    (idx y 1).bind fun e =>
    (impl_ParseInt fu e).bind fun y2 =>
    (idx y 2).bind fun e2 =>
    (impl_ParseRoute fu n' e2).bind fun y3 =>
    (idx y 3).bind fun e3 =>
    (impl_ParseBlock fu e3).bind fun y4 =>
    if y2.2 then if y3.2 then some (({ Id := y2.1, Route := y3.1, Block := y4.1 } : Light), y4.2)
    else some (({ Id := y2.1, Route := y3.1, Block := y4.1 } : Light), false)
    else some (({ Id := y2.1, Route := y3.1, Block := y4.1 } : Light), false)
def impl_ParsePlan_L1 (fu : Nat) (y2 : Network × Bool) (y3 : List ByteArray × Bool) : Nat → Int → List Light → Option (Out (Int × List Light) (Plan × Bool))
  | 0, _, _ => none
  | fk + 1, i, m =>
    if decide (i < (y3.1.length : Int)) then
      (idx y3.1 i).bind fun e =>
      (impl_readLight fu y2.1 e).bind fun y4 =>
      if !y4.2 then
        some (.ret (({ Network := ({ Nodes := [], Fibers := [] } : Network), Lights := [] } : Plan), false))
      else
        (app m [y4.1]).bind fun al =>
        impl_ParsePlan_L1 fu y2 y3 fk (w64 (i + 1)) al
    else
      some (.next (i, m))
def impl_ParsePlan_L2 (fu : Nat) (y7 : Network × Bool) (y8 : List ByteArray × Bool) : Nat → Int → List Light → Option (Out (Int × List Light) (Plan × Bool))
  | 0, _, _ => none
  | fk + 1, i3, m3 =>
    if decide (i3 < (y8.1.length : Int)) then
      (idx y8.1 i3).bind fun e2 =>
      (impl_readLight fu y7.1 e2).bind fun y9 =>
      if !y9.2 then
        some (.ret (({ Network := ({ Nodes := [], Fibers := [] } : Network), Lights := [] } : Plan), false))
      else
        (app m3 [y9.1]).bind fun al2 =>
        impl_ParsePlan_L2 fu y7 y8 fk (w64 (i3 + 1)) al2
    else
      some (.next (i3, m3))
def impl_ParsePlan (fu : Nat) (s' : ByteArray) : Option (Plan × Bool) :=
  (strings_Cut fu s' (⟨#[10, 108, 105, 103, 104, 116, 32]⟩ : ByteArray)).bind fun y =>
  if y.2.2 then
    (scat y.1 (⟨#[10]⟩ : ByteArray)).bind fun s2 =>
    (scat (⟨#[108, 105, 103, 104, 116, 32]⟩ : ByteArray) y.2.1).bind fun s3 =>
    (impl_ParseNetwork fu s2).bind fun y2 =>
    (if !y2.2 then some true
    else some (decide ((s'.size : Int) > 4000))).bind fun c3 =>
    if c3 then
      some (({ Network := ({ Nodes := [], Fibers := [] } : Network), Lights := [] } : Plan), false)
    else
      if y.2.2 then
        (impl_linesOf fu s3).bind fun y3 =>
        if !y3.2 then
          some (({ Network := ({ Nodes := [], Fibers := [] } : Network), Lights := [] } : Plan), false)
        else
          (impl_ParsePlan_L1 fu y2 y3 fu 0 ([] : List Light)).bind fun out => out.on some fun z =>
          (impl_FormatPlan fu ({ Network := y2.1, Lights := z.2 } : Plan)).bind fun y5 =>
          (if !y5.2 then some true
          else some (!(y5.1.toList == s'.toList))).bind fun c9 =>
          if c9 then
            some (({ Network := ({ Nodes := [], Fibers := [] } : Network), Lights := [] } : Plan), false)
          else
            some (({ Network := y2.1, Lights := z.2 } : Plan), true)
      else
        (impl_FormatPlan fu ({ Network := y2.1, Lights := [] } : Plan)).bind fun y6 =>
        (if !y6.2 then some true
        else some (!(y6.1.toList == s'.toList))).bind fun c10 =>
        if c10 then
          some (({ Network := ({ Nodes := [], Fibers := [] } : Network), Lights := [] } : Plan), false)
        else
          some (({ Network := y2.1, Lights := [] } : Plan), true)
  else
    (impl_ParseNetwork fu y.1).bind fun y7 =>
    (if !y7.2 then some true
    else some (decide ((s'.size : Int) > 4000))).bind fun c13 =>
    if c13 then
      some (({ Network := ({ Nodes := [], Fibers := [] } : Network), Lights := [] } : Plan), false)
    else
      if y.2.2 then
        (impl_linesOf fu y.2.1).bind fun y8 =>
        if !y8.2 then
          some (({ Network := ({ Nodes := [], Fibers := [] } : Network), Lights := [] } : Plan), false)
        else
          (impl_ParsePlan_L2 fu y7 y8 fu 0 ([] : List Light)).bind fun out => out.on some fun z2 =>
          (impl_FormatPlan fu ({ Network := y7.1, Lights := z2.2 } : Plan)).bind fun y10 =>
          (if !y10.2 then some true
          else some (!(y10.1.toList == s'.toList))).bind fun c19 =>
          if c19 then
            some (({ Network := ({ Nodes := [], Fibers := [] } : Network), Lights := [] } : Plan), false)
          else
            some (({ Network := y7.1, Lights := z2.2 } : Plan), true)
      else
        (impl_FormatPlan fu ({ Network := y7.1, Lights := [] } : Plan)).bind fun y11 =>
        (if !y11.2 then some true
        else some (!(y11.1.toList == s'.toList))).bind fun c20 =>
        if c20 then
          some (({ Network := ({ Nodes := [], Fibers := [] } : Network), Lights := [] } : Plan), false)
        else
          some (({ Network := y7.1, Lights := [] } : Plan), true)
def spec_l9Light (fu : Nat) (n' : Network) (x1 : Light) : Option (Bool) :=
  ((spec_l1In fu x1.Id 1 999).bind fun y =>
  if y then (spec_l4Good fu n' x1.Route).bind fun y2 =>
  if y2 then (spec_l8Good fu x1.Block).bind fun y3 =>
  some y3
  else some false
  else some false).bind fun c4 =>
  some c4
def spec_l4Uses_L1 (fu : Nat) (r' : Route) (group : List Int) : Nat → Int → Option (Out (Int) (Bool))
  | 0, _ => none
  | fk + 1, i =>
    if decide (i < (r'.Fibers.length : Int)) then
      (idx r'.Fibers i).bind fun e =>
      (spec_l1Has fu group e).bind fun y =>
      if y then
        some (.ret true)
      else
        spec_l4Uses_L1 fu r' group fk (w64 (i + 1))
    else
      some (.next i)
def spec_l4Uses (fu : Nat) (r' : Route) (group : List Int) : Option (Bool) :=
  (spec_l4Uses_L1 fu r' group fu 0).bind fun out => out.on some fun z =>
  some false
def spec_l9Collide (fu : Nat) (x1 : Light) (y : Light) : Option (Bool) :=
  ((spec_l4Uses fu x1.Route y.Route.Fibers).bind fun y2 =>
  if y2 then (spec_l8Bits fu x1.Block).bind fun y3 =>
  (spec_l8Bits fu y.Block).bind fun y4 =>
  some ((band y3 y4) != 0)
  else some false).bind fun c3 =>
  some c3
def spec_l9Good_L2 (fu : Nat) (p : Plan) (i : Int) : Nat → Int → Option (Out (Int) (Bool))
  | 0, _ => none
  | fk + 1, k' =>
    if decide (k' < i) then
      (idx p.Lights k').bind fun e4 =>
      (idx p.Lights i).bind fun e5 =>
      (spec_l9Collide fu e4 e5).bind fun y3 =>
      if y3 then
        some (.ret false)
      else
        spec_l9Good_L2 fu p i fk (w64 (k' + 1))
    else
      some (.next k')
def spec_l9Good_L1 (fu : Nat) (p : Plan) : Nat → Int → Option (Out (Int) (Bool))
  | 0, _ => none
  | fk + 1, i =>
    if decide (i < (p.Lights.length : Int)) then
      ((idx p.Lights i).bind fun e =>
      (spec_l9Light fu p.Network e).bind fun y2 =>
      if !y2 then some true
      else if decide (i > 0) then (idx p.Lights (w64 (i - 1))).bind fun e2 =>
      (idx p.Lights i).bind fun e3 =>
      some (decide (e2.Id ≥ e3.Id))
      else some false).bind fun c5 =>
      if c5 then
        some (.ret false)
      else
        (spec_l9Good_L2 fu p i fu 0).bind fun out => out.on (fun r => some (.ret r)) fun z =>
        spec_l9Good_L1 fu p fk (w64 (i + 1))
    else
      some (.next i)
def spec_l9Good (fu : Nat) (p : Plan) : Option (Bool) :=
  ((spec_l2Good fu p.Network).bind fun y =>
  if !y then some true
  else some (decide ((p.Lights.length : Int) > 12))).bind fun c4 =>
  if c4 then
    some false
  else
    (spec_l9Good_L1 fu p fu 0).bind fun out => out.on some fun z2 =>
    some true
def spec_IsValidPlan (fu : Nat) (p : Plan) : Option (Bool) :=
  (spec_l9Good fu p).bind fun y =>
  some y
def laws_vLights (fu : Nat) (a' : Light) (b' : Light) : Option (Bool) :=
  (if a'.Id == b'.Id then if ([a'.Block.First, a'.Block.Count] : List Int) == ([b'.Block.First, b'.Block.Count] : List Int) then (laws_vRoutes fu a'.Route b'.Route).bind fun y =>
  some y
  else some false
  else some false).bind fun c3 =>
  some c3
def laws_vPlans_L1 (fu : Nat) (a' : Plan) (b' : Plan) : Nat → Int → Option (Out (Int) (Bool))
  | 0, _ => none
  | fk + 1, i =>
    if decide (i < (a'.Lights.length : Int)) then
      (idx a'.Lights i).bind fun e =>
      (idx b'.Lights i).bind fun e2 =>
      (laws_vLights fu e e2).bind fun y2 =>
      if !y2 then
        some (.ret false)
      else
        laws_vPlans_L1 fu a' b' fk (w64 (i + 1))
    else
      some (.next i)
def laws_vPlans (fu : Nat) (a' : Plan) (b' : Plan) : Option (Bool) :=
  ((laws_vNetworks fu a'.Network b'.Network).bind fun y =>
  if !y then some true
  else some ((a'.Lights.length : Int) != (b'.Lights.length : Int))).bind fun c7 =>
  if c7 then
    some false
  else
    (laws_vPlans_L1 fu a' b' fu 0).bind fun out => out.on some fun z =>
    some true
def spec_l1Num_B (fu : Nat) (rec_ : (Int) → Option (ByteArray)) (n' : Int) : Option (ByteArray) :=
  if decide (n' < 0) then
    (rec_ (w64 (0 - n'))).bind fun y =>
    (scat (⟨#[45]⟩ : ByteArray) y).bind fun s' =>
    some s'
  else
    if decide (n' < 10) then
      (ssub (⟨#[48, 49, 50, 51, 52, 53, 54, 55, 56, 57]⟩ : ByteArray) n' (w64 (n' + 1))).bind fun s2 =>
      some s2
    else
      (quo n' 10).bind fun q =>
      (rem n' 10).bind fun q2 =>
      (rem n' 10).bind fun q3 =>
      (ssub (⟨#[48, 49, 50, 51, 52, 53, 54, 55, 56, 57]⟩ : ByteArray) q2 (w64 (q3 + 1))).bind fun s3 =>
      (rec_ q).bind fun y2 =>
      (scat y2 s3).bind fun s4 =>
      some s4
def spec_l1Num : Nat → (Int) → Option (ByteArray)
  | 0, _ => none
  | fu + 1, n' => spec_l1Num_B fu (fun n' => spec_l1Num fu n') n'
def spec_l3Network_L1 (fu : Nat) (n' : Network) : Nat → ByteArray → Int → Option (ByteArray × Int)
  | 0, _, _ => none
  | fk + 1, s', i =>
    if decide (i < (n'.Nodes.length : Int)) then
      (scat s' (⟨#[32]⟩ : ByteArray)).bind fun s2 =>
      (idx n'.Nodes i).bind fun e =>
      (scat s2 e).bind fun s3 =>
      spec_l3Network_L1 fu n' fk s3 (w64 (i + 1))
    else
      some (s', i)
def spec_l3Network_L2 (fu : Nat) (n' : Network) : Nat → ByteArray → Int → Option (ByteArray × Int)
  | 0, _, _ => none
  | fk + 1, s6, i3 =>
    if decide (i3 < (n'.Fibers.length : Int)) then
      (idx n'.Fibers i3).bind fun e2 =>
      (scat s6 (⟨#[102, 105, 98, 101, 114, 32]⟩ : ByteArray)).bind fun s7 =>
      (idx n'.Nodes e2.A).bind fun e3 =>
      (scat s7 e3).bind fun s8 =>
      (scat s8 (⟨#[32]⟩ : ByteArray)).bind fun s9 =>
      (idx n'.Nodes e2.B).bind fun e4 =>
      (scat s9 e4).bind fun s10 =>
      (scat s10 (⟨#[32]⟩ : ByteArray)).bind fun s11 =>
      (spec_l1Num fu e2.Length).bind fun y =>
      (scat s11 y).bind fun s12 =>
      if decide (e2.Risk > 0) then
        (scat s12 (⟨#[32, 114, 105, 115, 107, 32]⟩ : ByteArray)).bind fun s13 =>
        (spec_l1Num fu e2.Risk).bind fun y2 =>
        (scat s13 y2).bind fun s14 =>
        (scat s14 (⟨#[10]⟩ : ByteArray)).bind fun s15 =>
        spec_l3Network_L2 fu n' fk s15 (w64 (i3 + 1))
      else
        (scat s12 (⟨#[10]⟩ : ByteArray)).bind fun s16 =>
        spec_l3Network_L2 fu n' fk s16 (w64 (i3 + 1))
    else
      some (s6, i3)
def spec_l3Network (fu : Nat) (n' : Network) : Option (ByteArray) :=
  (spec_l3Network_L1 fu n' fu (⟨#[110, 111, 100, 101, 115]⟩ : ByteArray) 0).bind fun z2 =>
  (scat z2.1 (⟨#[10]⟩ : ByteArray)).bind fun s5 =>
  (spec_l3Network_L2 fu n' fu s5 0).bind fun z =>
  some z.1
def spec_l4Nodes (fu : Nat) (n' : Network) (r' : Route) : Option (List Int) :=
  (spec_l4Walk fu n' r').bind fun y =>
  some y.1
def spec_l3Route_L1 (fu : Nat) (n' : Network) (r' : Route) (y : List Int) : Nat → ByteArray → Int → Option (ByteArray × Int)
  | 0, _, _ => none
  | fk + 1, s', i =>
    if decide (i < (r'.Fibers.length : Int)) then
      (scat s' (⟨#[46]⟩ : ByteArray)).bind fun s2 =>
      (idx r'.Fibers i).bind fun e2 =>
      (idx y (w64 (i + 1))).bind fun e3 =>
      (idx n'.Nodes e3).bind fun e4 =>
      (spec_l1Num fu e2).bind fun y2 =>
      (scat s2 y2).bind fun s3 =>
      (scat s3 (⟨#[46]⟩ : ByteArray)).bind fun s4 =>
      (scat s4 e4).bind fun s5 =>
      spec_l3Route_L1 fu n' r' y fk s5 (w64 (i + 1))
    else
      some (s', i)
def spec_l3Route (fu : Nat) (n' : Network) (r' : Route) : Option (ByteArray) :=
  (spec_l4Nodes fu n' r').bind fun y =>
  (idx n'.Nodes r'.Start).bind fun e =>
  (spec_l3Route_L1 fu n' r' y fu e 0).bind fun z =>
  some z.1
def spec_l3Block (fu : Nat) (b' : Block) : Option (ByteArray) :=
  (spec_l1Num fu b'.First).bind fun y =>
  (scat y (⟨#[43]⟩ : ByteArray)).bind fun s' =>
  (spec_l1Num fu b'.Count).bind fun y2 =>
  (scat s' y2).bind fun s2 =>
  some s2
def spec_l3Light (fu : Nat) (n' : Network) (x1 : Light) : Option (ByteArray) :=
  (spec_l1Num fu x1.Id).bind fun y =>
  (scat y (⟨#[32]⟩ : ByteArray)).bind fun s' =>
  (spec_l3Route fu n' x1.Route).bind fun y2 =>
  (scat s' y2).bind fun s2 =>
  (scat s2 (⟨#[32]⟩ : ByteArray)).bind fun s3 =>
  (spec_l3Block fu x1.Block).bind fun y3 =>
  (scat s3 y3).bind fun s4 =>
  some s4
def spec_l3Plan_L1 (fu : Nat) (p : Plan) : Nat → ByteArray → Int → Option (ByteArray × Int)
  | 0, _, _ => none
  | fk + 1, s', i =>
    if decide (i < (p.Lights.length : Int)) then
      (scat s' (⟨#[108, 105, 103, 104, 116, 32]⟩ : ByteArray)).bind fun s2 =>
      (idx p.Lights i).bind fun e =>
      (spec_l3Light fu p.Network e).bind fun y2 =>
      (scat s2 y2).bind fun s3 =>
      (scat s3 (⟨#[10]⟩ : ByteArray)).bind fun s4 =>
      spec_l3Plan_L1 fu p fk s4 (w64 (i + 1))
    else
      some (s', i)
def spec_l3Plan (fu : Nat) (p : Plan) : Option (ByteArray) :=
  (spec_l3Network fu p.Network).bind fun y =>
  (spec_l3Plan_L1 fu p fu y 0).bind fun z =>
  some z.1
def spec_l1Cur_spoilt (fu : Nat) (c : L1CurP) (t : ByteArray) (with' : ByteArray) : Option (ByteArray × L1CurP) :=
  if t.toList == ByteArray.empty.toList then
    (ssub with' 0 1).bind fun s' =>
    some (s', c)
  else
    (spec_l1Cur_pick fu c (t.size : Int)).bind fun y =>
    (spec_l1Cur_pick fu y.2 (with'.size : Int)).bind fun y2 =>
    (ssub with' y2.1 (with'.size : Int)).bind fun s2 =>
    (ssub s2 0 1).bind fun s3 =>
    (spec_l1Cur_pick fu y2.2 3).bind fun y3 =>
    if y3.1 == 0 then
      (ssub t 0 y.1).bind fun s4 =>
      (scat s4 s3).bind fun s5 =>
      (ssub t y.1 (t.size : Int)).bind fun s6 =>
      (scat s5 s6).bind fun s7 =>
      some (s7, y3.2)
    else
      if y3.1 == 1 then
        (ssub t 0 y.1).bind fun s8 =>
        (scat s8 s3).bind fun s9 =>
        (ssub t (w64 (y.1 + 1)) (t.size : Int)).bind fun s10 =>
        (scat s9 s10).bind fun s11 =>
        some (s11, y3.2)
      else
        (ssub t 0 y.1).bind fun s12 =>
        (ssub t (w64 (y.1 + 1)) (t.size : Int)).bind fun s13 =>
        (scat s12 s13).bind fun s14 =>
        some (s14, y3.2)
def spec_DrawParsePlan (fu : Nat) (code : List By) : Option (ByteArray) :=
  (spec_l1Cur_plan fu ({ code := code, at_ := 0, seed := (⟨0⟩ : U64) } : L1CurP)).bind fun y =>
  (spec_l3Plan fu y.1).bind fun y2 =>
  (spec_l1Cur_one fu y.2 3).bind fun y3 =>
  if y3.1 then
    (spec_l1Cur_spoilt fu y3.2 y2 (⟨#[97, 98, 32, 49, 48, 46, 43, 108, 10]⟩ : ByteArray)).bind fun y4 =>
    some y4.1
  else
    some y2
def laws_FnTexts (fu : Nat) (code : List By) : Option (Bool) :=
  (laws_vBig fu code).bind fun y =>
  if y then
    some true
  else
    (spec_DrawFormatRoute fu code).bind fun y2 =>
    (impl_FormatNetwork fu y2.1).bind fun y3 =>
    (impl_ParseNetwork fu y3.1).bind fun y4 =>
    ((spec_IsValidNetwork fu y2.1).bind fun y5 =>
    if y3.2 != y5 then some true
    else if y3.2 then if !y4.2 then some true
    else (laws_vNetworks fu y4.1 y2.1).bind fun y6 =>
    some (!y6)
    else some false).bind fun c7 =>
    if c7 then
      some false
    else
      (impl_FormatRoute fu y2.1 y2.2).bind fun y7 =>
      (impl_ParseRoute fu y2.1 y7.1).bind fun y8 =>
      ((spec_IsValidRoute fu y2.1 y2.2).bind fun y9 =>
      if y7.2 != y9 then some true
      else if y7.2 then if !y8.2 then some true
      else (laws_vRoutes fu y8.1 y2.2).bind fun y10 =>
      some (!y10)
      else some false).bind fun c9 =>
      if c9 then
        some false
      else
        (spec_DrawFormatBlock fu code).bind fun y11 =>
        (impl_FormatBlock fu y11).bind fun y12 =>
        (impl_ParseBlock fu y12.1).bind fun y13 =>
        ((spec_IsValidBlock fu y11).bind fun y14 =>
        if y12.2 != y14 then some true
        else if y12.2 then if !y13.2 then some true
        else some (!(([y13.1.First, y13.1.Count] : List Int) == ([y11.First, y11.Count] : List Int)))
        else some false).bind fun c10 =>
        if c10 then
          some false
        else
          (spec_DrawFormatPlan fu code).bind fun y15 =>
          (impl_FormatPlan fu y15).bind fun y16 =>
          (impl_ParsePlan fu y16.1).bind fun y17 =>
          ((spec_IsValidPlan fu y15).bind fun y18 =>
          if y16.2 != y18 then some true
          else if y16.2 then if !y17.2 then some true
          else (laws_vPlans fu y17.1 y15).bind fun y19 =>
          some (!y19)
          else some false).bind fun c17 =>
          if c17 then
            some false
          else
            (spec_DrawParsePlan fu code).bind fun y20 =>
            (impl_ParsePlan fu y20).bind fun y21 =>
            (impl_FormatPlan fu y21.1).bind fun y22 =>
            (if !y21.2 then some true
            else if y22.2 then some (y22.1.toList == y20.toList)
            else some false).bind fun c21 =>
            some c21
end AT
