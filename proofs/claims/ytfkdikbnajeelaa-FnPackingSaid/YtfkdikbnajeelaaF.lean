/- The Go functions told plainly, by program (gen.py). -/
import Derived.Test.YtfkdikbnajeelaaAtR
set_option linter.unusedVariables false
namespace AT
structure L1CurP where
  code : List By
  at_ : Int
  seed : U64
  deriving DecidableEq
def laws_vBig (fu : Nat) (code : List By) : Option (Bool) :=
  some (decide ((code.length : Int) > 65536))
def spec_l1Cur_next (fu : Nat) (c : L1CurP) : Option (Int × L1CurP) :=
  if decide (c.at_ < (c.code.length : Int)) then
    (idx c.code c.at_).bind fun e =>
    if decide ((w64 (c.at_ + 1)) ≤ (c.code.length : Int)) then
      some (w64 e.n, ({ code := c.code, at_ := w64 (c.at_ + 1), seed := (⟨wu64 ((wu64 ((wu64 (c.seed.n * 6364136223846793005)) + (wu64 (w64 e.n)))) + 897897)⟩ : U64) } : L1CurP))
    else
      (shrk 64 (wu64 ((wu64 ((wu64 (c.seed.n * 6364136223846793005)) + (wu64 (w64 e.n)))) + 897897)) 40).bind fun q =>
      some (w64 (andu64 q 255), ({ code := c.code, at_ := w64 (c.at_ + 1), seed := (⟨wu64 ((wu64 ((wu64 (c.seed.n * 6364136223846793005)) + (wu64 (w64 e.n)))) + 897897)⟩ : U64) } : L1CurP))
  else
    if decide ((w64 (c.at_ + 1)) ≤ (c.code.length : Int)) then
      some (0, ({ code := c.code, at_ := w64 (c.at_ + 1), seed := (⟨wu64 ((wu64 ((wu64 (c.seed.n * 6364136223846793005)) + (wu64 0))) + 897897)⟩ : U64) } : L1CurP))
    else
      (shrk 64 (wu64 ((wu64 ((wu64 (c.seed.n * 6364136223846793005)) + (wu64 0))) + 897897)) 40).bind fun q2 =>
      some (w64 (andu64 q2 255), ({ code := c.code, at_ := w64 (c.at_ + 1), seed := (⟨wu64 ((wu64 ((wu64 (c.seed.n * 6364136223846793005)) + (wu64 0))) + 897897)⟩ : U64) } : L1CurP))
def spec_l1Cur_pick (fu : Nat) (c : L1CurP) (n' : Int) : Option (Int × L1CurP) :=
  if decide (n' ≤ 1) then
    some (0, c)
  else
    (spec_l1Cur_next fu c).bind fun y =>
    if decide (n' > 200) then
      (spec_l1Cur_next fu y.2).bind fun y2 =>
      (rem (w64 ((w64 (y.1 * 256)) + y2.1)) n').bind fun q =>
      some (q, y2.2)
    else
      (rem y.1 n').bind fun q2 =>
      some (q2, y.2)
def spec_l1Cur_among (fu : Nat) (c : L1CurP) (list : List Int) : Option (Int × L1CurP) :=
  (spec_l1Cur_pick fu c (list.length : Int)).bind fun y =>
  (idx list y.1).bind fun e =>
  some (e, y.2)
def spec_DrawPackInOrder_L1 (fu : Nat) (code : List By) : Nat → List Int → Int → List By → Int → U64 → Option (List Int × Int × List By × Int × U64)
  | 0, _, _, _, _, _ => none
  | fk + 1, rates, n', m, m2, m3 =>
    if decide (n' > 0) then
      (spec_l1Cur_pick fu ({ code := m, at_ := m2, seed := m3 } : L1CurP) 10).bind fun y2 =>
      (app rates [w64 (1 + y2.1)]).bind fun l =>
      spec_DrawPackInOrder_L1 fu code fk l (w64 (n' - 1)) y2.2.code y2.2.at_ y2.2.seed
    else
      some (rates, n', m, m2, m3)
def spec_DrawPackInOrder_L2 (fu : Nat) (code : List By) : Nat → List Int → List By → Int → U64 → Option (List Int × List By × Int × U64)
  | 0, _, _, _, _ => none
  | fk + 1, rates3, m7, m8, m9 =>
    (spec_l1Cur_pick fu ({ code := m7, at_ := m8, seed := m9 } : L1CurP) 4).bind fun y7 =>
    if decide ((rates3.length : Int) < (w64 (10 + y7.1))) then
      (app rates3 [3]).bind fun l4 =>
      spec_DrawPackInOrder_L2 fu code fk l4 y7.2.code y7.2.at_ y7.2.seed
    else
      some (rates3, y7.2.code, y7.2.at_, y7.2.seed)
def spec_DrawPackInOrder (fu : Nat) (code : List By) : Option (List Int × Int) :=
  (spec_l1Cur_pick fu ({ code := code, at_ := 0, seed := (⟨0⟩ : U64) } : L1CurP) 10).bind fun y =>
  (spec_DrawPackInOrder_L1 fu code fu ([] : List Int) y.1 y.2.code y.2.at_ y.2.seed).bind fun z2 =>
  (spec_l1Cur_pick fu ({ code := z2.2.2.1, at_ := z2.2.2.2.1, seed := z2.2.2.2.2 } : L1CurP) 40).bind fun y3 =>
  if y3.1 == 0 then
    (spec_l1Cur_among fu y3.2 [0, 11, 12]).bind fun y4 =>
    (app z2.1 [y4.1]).bind fun l2 =>
    (spec_l1Cur_pick fu y4.2 40).bind fun y5 =>
    (quo y5.1 20).bind fun q =>
    (sub [10, 10, 12, 11, 20, 0, 10001] 0 (w64 (5 + q))).bind fun l3 =>
    (spec_l1Cur_among fu y5.2 l3).bind fun y6 =>
    some (l2, y6.1)
  else
    if y3.1 == 1 then
      (spec_DrawPackInOrder_L2 fu code fu z2.1 y3.2.code y3.2.at_ y3.2.seed).bind fun z =>
      (spec_l1Cur_pick fu ({ code := z.2.1, at_ := z.2.2.1, seed := z.2.2.2 } : L1CurP) 40).bind fun y8 =>
      (quo y8.1 20).bind fun q2 =>
      (sub [10, 10, 12, 11, 20, 0, 10001] 0 (w64 (5 + q2))).bind fun l5 =>
      (spec_l1Cur_among fu y8.2 l5).bind fun y9 =>
      some (z.1, y9.1)
    else
      (spec_l1Cur_pick fu y3.2 40).bind fun y10 =>
      (quo y10.1 20).bind fun q3 =>
      (sub [10, 10, 12, 11, 20, 0, 10001] 0 (w64 (5 + q3))).bind fun l6 =>
      (spec_l1Cur_among fu y10.2 l6).bind fun y11 =>
      some (z2.1, y11.1)
def impl_within (fu : Nat) (n' : Int) (low : Int) (high : Int) : Option (Bool) :=
  (if decide (low ≤ n') then some (decide (n' ≤ high))
  else some false).bind fun c =>
  some c
def impl_isPacking_c1 (fu : Nat) (rate : Int) (cap : Int) : Option (Bool) :=
  (impl_within fu rate 1 cap).bind fun y =>
  some (!y)
def slices_IndexFunc_int_int_of_isPacking_c1_L1 (fu : Nat) (s' : List Int) (cap : Int) : Nat → Int → Option (Out (Int) (Int))
  | 0, _ => none
  | fk + 1, i =>
    if decide (i < (s'.length : Int)) then
      (idx s' i).bind fun e =>
      (impl_isPacking_c1 fu e cap).bind fun y =>
      if y then
        some (.ret i)
      else
        slices_IndexFunc_int_int_of_isPacking_c1_L1 fu s' cap fk (w64 (i + 1))
    else
      some (.next i)
def slices_IndexFunc_int_int_of_isPacking_c1 (fu : Nat) (s' : List Int) (cap : Int) : Option (Int) :=
  (slices_IndexFunc_int_int_of_isPacking_c1_L1 fu s' cap fu 0).bind fun out => out.on some fun z =>
  some (-1)
def slices_ContainsFunc_int_int_of_isPacking_c1 (fu : Nat) (s' : List Int) (cap : Int) : Option (Bool) :=
  (slices_IndexFunc_int_int_of_isPacking_c1 fu s' cap).bind fun y =>
  some (decide (y ≥ 0))
def impl_isPacking (fu : Nat) (rates : List Int) (capacity : Int) (most : Int) : Option (Bool) :=
  ((impl_within fu capacity 1 10000).bind fun y =>
  if y then if decide ((rates.length : Int) ≤ most) then (slices_ContainsFunc_int_int_of_isPacking_c1 fu rates capacity).bind fun y2 =>
  some (!y2)
  else some false
  else some false).bind fun c2 =>
  some c2
def impl_numbered_L1 (fu : Nat) (n' : Int) : Nat → List Int → Int → Option (List Int × Int)
  | 0, _, _ => none
  | fk + 1, out', i =>
    if decide (i < n') then
      (app out' [i]).bind fun l =>
      impl_numbered_L1 fu n' fk l (w64 (i + 1))
    else
      some (out', i)
def impl_numbered (fu : Nat) (n' : Int) : Option (List Int) :=
  (impl_numbered_L1 fu n' fu ([] : List Int) 0).bind fun z =>
  some z.1
def impl_packed_c1 (fu : Nat) (room : Int) (cap : List Int) (cap2 : Int) : Option (Bool) :=
  (idx cap cap2).bind fun e =>
  some (decide (room ≥ e))
def slices_IndexFunc_int_int_of_packed_c1_L1 (fu : Nat) (s' : List Int) (cap : List Int) (cap2 : Int) : Nat → Int → Option (Out (Int) (Int))
  | 0, _ => none
  | fk + 1, i =>
    if decide (i < (s'.length : Int)) then
      (idx s' i).bind fun e =>
      (impl_packed_c1 fu e cap cap2).bind fun y =>
      if y then
        some (.ret i)
      else
        slices_IndexFunc_int_int_of_packed_c1_L1 fu s' cap cap2 fk (w64 (i + 1))
    else
      some (.next i)
def slices_IndexFunc_int_int_of_packed_c1 (fu : Nat) (s' : List Int) (cap : List Int) (cap2 : Int) : Option (Int) :=
  (slices_IndexFunc_int_int_of_packed_c1_L1 fu s' cap cap2 fu 0).bind fun out => out.on some fun z =>
  some (-1)
def impl_packed_L1 (fu : Nat) (rates : List Int) (capacity : Int) (order : List Int) : Nat → List Int → List Int → Int → Option (List Int × List Int × Int)
  | 0, _, _, _ => none
  | fk + 1, out', free, i =>
    if decide (i < (order.length : Int)) then
      (idx order i).bind fun e =>
      (slices_IndexFunc_int_int_of_packed_c1 fu free rates e).bind fun y =>
      if decide (y < 0) then
        (app free [capacity]).bind fun l2 =>
        (idx l2 (free.length : Int)).bind fun e2 =>
        (idx rates e).bind fun e3 =>
        (idx l2 (free.length : Int)).bind fun e4 =>
        (idx out' e).bind fun e5 =>
        impl_packed_L1 fu rates capacity order fk (out'.set (e : Int).toNat (free.length : Int)) (l2.set ((free.length : Int) : Int).toNat (w64 (e2 - e3))) (w64 (i + 1))
      else
        (idx free y).bind fun e6 =>
        (idx rates e).bind fun e7 =>
        (idx free y).bind fun e8 =>
        (idx out' e).bind fun e9 =>
        impl_packed_L1 fu rates capacity order fk (out'.set (e : Int).toNat y) (free.set (y : Int).toNat (w64 (e6 - e7))) (w64 (i + 1))
    else
      some (out', free, i)
def impl_packed (fu : Nat) (rates : List Int) (capacity : Int) (order : List Int) : Option (List Int) :=
  (mk (0 : Int) (rates.length : Int)).bind fun l =>
  (impl_packed_L1 fu rates capacity order fu l ([] : List Int) 0).bind fun z =>
  some z.1
def impl_PackInOrder (fu : Nat) (rates : List Int) (capacity : Int) : Option (List Int × Bool) :=
  (impl_isPacking fu rates capacity 12).bind fun y =>
  if !y then
    some ([], false)
  else
    (impl_numbered fu (rates.length : Int)).bind fun y2 =>
    (impl_packed fu rates capacity y2).bind fun y3 =>
    some (y3, true)
def cmp_isNaN_int (fu : Nat) (x1 : Int) : Option (Bool) :=
  some (x1 != x1)
def cmp_Compare_int (fu : Nat) (x1 : Int) (y : Int) : Option (Int) :=
  (cmp_isNaN_int fu x1).bind fun y2 =>
  (cmp_isNaN_int fu y).bind fun y3 =>
  if y2 then
    if y3 then
      some 0
    else
      some (-1)
  else
    if y3 then
      some 1
    else
      if decide (x1 < y) then
        some (-1)
      else
        if decide (x1 > y) then
          some 1
        else
          some 0
def impl_descending_c1 (fu : Nat) (a' : Int) (b4 : Int) (cap : List Int) : Option (Int) :=
  (idx cap b4).bind fun e =>
  (idx cap a').bind fun e2 =>
  (cmp_Compare_int fu e e2).bind fun y =>
  some y
def slices_insertionSortCmpFunc_int_of_descending_c1_L2 (fu : Nat) (a' : Int) (cap : List Int) : Nat → List Int → Int → Option (List Int × Int)
  | 0, _, _ => none
  | fk + 1, data3, j =>
    (if decide (j > a') then (idx data3 j).bind fun e =>
    (idx data3 (w64 (j - 1))).bind fun e2 =>
    (impl_descending_c1 fu e e2 cap).bind fun y =>
    some (decide (y < 0))
    else some false).bind fun c3 =>
    if c3 then
      (idx data3 (w64 (j - 1))).bind fun e3 =>
      (idx data3 j).bind fun e4 =>
      (idx data3 j).bind fun e5 =>
      (idx (data3.set (j : Int).toNat e3) (w64 (j - 1))).bind fun e6 =>
      slices_insertionSortCmpFunc_int_of_descending_c1_L2 fu a' cap fk ((data3.set (j : Int).toNat e3).set (w64 (j - 1) : Int).toNat e4) (w64 (j - 1))
    else
      some (data3, j)
def slices_insertionSortCmpFunc_int_of_descending_c1_L1 (fu : Nat) (a' : Int) (b5 : Int) (cap : List Int) : Nat → List Int → Int → Option (List Int × Int)
  | 0, _, _ => none
  | fk + 1, data2, i =>
    if decide (i < b5) then
      (slices_insertionSortCmpFunc_int_of_descending_c1_L2 fu a' cap fu data2 i).bind fun z =>
      slices_insertionSortCmpFunc_int_of_descending_c1_L1 fu a' b5 cap fk z.1 (w64 (i + 1))
    else
      some (data2, i)
def slices_insertionSortCmpFunc_int_of_descending_c1 (fu : Nat) (data : List Int) (a' : Int) (b5 : Int) (cap : List Int) : Option (List Int) :=
  (slices_insertionSortCmpFunc_int_of_descending_c1_L1 fu a' b5 cap fu data (w64 (a' + 1))).bind fun z2 =>
  some z2.1
def slices_stableCmpFunc_int_of_descending_c1_L1 (fu : Nat) (n' : Int) (cap : List Int) : Nat → List Int → Int → Int → Option (List Int × Int × Int)
  | 0, _, _, _ => none
  | fk + 1, data2, a', b4 =>
    if decide (b4 ≤ n') then
      (slices_insertionSortCmpFunc_int_of_descending_c1 fu data2 a' b4 cap).bind fun y =>
      slices_stableCmpFunc_int_of_descending_c1_L1 fu n' cap fk y b4 (w64 (b4 + 20))
    else
      some (data2, a', b4)
def slices_stableCmpFunc_int_of_descending_c1_L3 (fu : Nat) (n' : Int) (blockSize : Int) : Nat → Option (Unit)
  | 0 => none
  | fk + 1 =>
    if decide ((w64 (2 * blockSize)) ≤ n') then
      none
    else
      some ()
def slices_stableCmpFunc_int_of_descending_c1_L2 (fu : Nat) (n' : Int) : Nat → Int → Option (Int)
  | 0, _ => none
  | fk + 1, blockSize =>
    if decide (blockSize < n') then
      (slices_stableCmpFunc_int_of_descending_c1_L3 fu n' blockSize fu).bind fun z =>
      if decide ((w64 (0 + blockSize)) < n') then
        none
      else
        slices_stableCmpFunc_int_of_descending_c1_L2 fu n' fk (w64 (blockSize * 2))
    else
      some blockSize
def slices_stableCmpFunc_int_of_descending_c1 (fu : Nat) (data : List Int) (n' : Int) (cap : List Int) : Option (List Int) :=
  (slices_stableCmpFunc_int_of_descending_c1_L1 fu n' cap fu data 0 20).bind fun z3 =>
  (slices_insertionSortCmpFunc_int_of_descending_c1 fu z3.1 z3.2.1 n' cap).bind fun y2 =>
  (slices_stableCmpFunc_int_of_descending_c1_L2 fu n' fu 20).bind fun z2 =>
  some y2
def slices_SortStableFunc_int_int_of_descending_c1 (fu : Nat) (x1 : List Int) (cap : List Int) : Option (List Int) :=
  (slices_stableCmpFunc_int_of_descending_c1 fu x1 (x1.length : Int) cap).bind fun y =>
  some y
def impl_descending (fu : Nat) (rates : List Int) (capacity : Int) : Option (List Int) :=
  (impl_numbered fu (rates.length : Int)).bind fun y =>
  (slices_SortStableFunc_int_int_of_descending_c1 fu y rates).bind fun y2 =>
  (impl_packed fu rates capacity y2).bind fun y3 =>
  some y3
def impl_PackDescending (fu : Nat) (rates : List Int) (capacity : Int) : Option (List Int × Bool) :=
  (impl_isPacking fu rates capacity 12).bind fun y =>
  if !y then
    some ([], false)
  else
    (impl_descending fu rates capacity).bind fun y2 =>
    some (y2, true)
def spec_l1In (fu : Nat) (x1 : Int) (a' : Int) (b' : Int) : Option (Bool) :=
  (if decide (x1 ≥ a') then some (decide (x1 ≤ b'))
  else some false).bind fun c =>
  some c
def spec_l18Rates_L1 (fu : Nat) (rates : List Int) (capacity : Int) : Nat → Int → Option (Out (Int) (Bool))
  | 0, _ => none
  | fk + 1, i =>
    (if decide (i < (rates.length : Int)) then some (decide (i ≤ 12))
    else some false).bind fun c2 =>
    if c2 then
      (idx rates i).bind fun e =>
      (spec_l1In fu e 1 capacity).bind fun y =>
      if !y then
        some (.ret false)
      else
        spec_l18Rates_L1 fu rates capacity fk (w64 (i + 1))
    else
      some (.next i)
def spec_l18Rates (fu : Nat) (rates : List Int) (capacity : Int) : Option (Bool) :=
  (spec_l18Rates_L1 fu rates capacity fu 0).bind fun out => out.on some fun z =>
  (if decide ((rates.length : Int) ≤ 12) then (spec_l1In fu capacity 1 10000).bind fun y2 =>
  some y2
  else some false).bind fun c3 =>
  some c3
def spec_l18Order_L2 (fu : Nat) (rates : List Int) (descending : Bool) (out' : List Int) (i : Int) : Nat → Int → Option (Int)
  | 0, _ => none
  | fk + 1, k' =>
    (if descending then if decide (k' > 0) then (idx out' (w64 (k' - 1))).bind fun e =>
    (idx rates e).bind fun e2 =>
    (idx rates i).bind fun e3 =>
    some (decide (e2 < e3))
    else some false
    else some false).bind fun c3 =>
    if c3 then
      spec_l18Order_L2 fu rates descending out' i fk (w64 (k' - 1))
    else
      some k'
def spec_l18Order_L1 (fu : Nat) (rates : List Int) (descending : Bool) : Nat → List Int → Int → Option (List Int × Int)
  | 0, _, _ => none
  | fk + 1, out', i =>
    if decide (i < (rates.length : Int)) then
      (spec_l18Order_L2 fu rates descending out' i fu (out'.length : Int)).bind fun z =>
      (sub out' 0 z).bind fun l =>
      (sub out' z (out'.length : Int)).bind fun l2 =>
      (app ([] : List Int) l).bind fun l3 =>
      (app l3 [i]).bind fun l4 =>
      (app l4 l2).bind fun l5 =>
      spec_l18Order_L1 fu rates descending fk l5 (w64 (i + 1))
    else
      some (out', i)
def spec_l18Order (fu : Nat) (rates : List Int) (descending : Bool) : Option (List Int) :=
  (spec_l18Order_L1 fu rates descending fu ([] : List Int) 0).bind fun z2 =>
  some z2.1
def spec_l18Pack_L2 (fu : Nat) (e2 : Int) (room : List Int) : Nat → Int → Option (Int)
  | 0, _ => none
  | fk + 1, k' =>
    (if decide (k' < (room.length : Int)) then (idx room k').bind fun e3 =>
    some (decide (e3 < e2))
    else some false).bind fun c6 =>
    if c6 then
      spec_l18Pack_L2 fu e2 room fk (w64 (k' + 1))
    else
      some k'
def spec_l18Pack_L1 (fu : Nat) (rates : List Int) (order : List Int) (capacity : Int) : Nat → List Int → List Int → Int → Option (List Int × List Int × Int)
  | 0, _, _, _ => none
  | fk + 1, out', room, i =>
    if decide (i < (order.length : Int)) then
      (idx order i).bind fun e =>
      (idx rates e).bind fun e2 =>
      (spec_l18Pack_L2 fu e2 room fu 0).bind fun z =>
      if z == (room.length : Int) then
        (app room [capacity]).bind fun l2 =>
        (idx l2 z).bind fun e4 =>
        (idx l2 z).bind fun e5 =>
        (idx order i).bind fun e6 =>
        (idx out' e6).bind fun e7 =>
        spec_l18Pack_L1 fu rates order capacity fk (out'.set (e6 : Int).toNat z) (l2.set (z : Int).toNat (w64 (e4 - e2))) (w64 (i + 1))
      else
        (idx room z).bind fun e8 =>
        (idx room z).bind fun e9 =>
        (idx order i).bind fun e10 =>
        (idx out' e10).bind fun e11 =>
        spec_l18Pack_L1 fu rates order capacity fk (out'.set (e10 : Int).toNat z) (room.set (z : Int).toNat (w64 (e8 - e2))) (w64 (i + 1))
    else
      some (out', room, i)
def spec_l18Pack (fu : Nat) (rates : List Int) (order : List Int) (capacity : Int) : Option (List Int × Int) :=
  (mk (0 : Int) (rates.length : Int)).bind fun l =>
  (spec_l18Pack_L1 fu rates order capacity fu l ([] : List Int) 0).bind fun z2 =>
  some (z2.1, (z2.2.1.length : Int))
def spec_PackInOrder (fu : Nat) (rates : List Int) (capacity : Int) : Option (List Int × Bool) :=
  (spec_l18Rates fu rates capacity).bind fun y =>
  if !y then
    some (([] : List Int), false)
  else
    (spec_l18Order fu rates false).bind fun y2 =>
    (spec_l18Pack fu rates y2 capacity).bind fun y3 =>
    some (y3.1, true)
def laws_vInts_L1 (fu : Nat) (a' : List Int) (b' : List Int) : Nat → Int → Option (Out (Int) (Bool))
  | 0, _ => none
  | fk + 1, i =>
    if decide (i < (a'.length : Int)) then
      (idx a' i).bind fun e =>
      (idx b' i).bind fun e2 =>
      if e != e2 then
        some (.ret false)
      else
        laws_vInts_L1 fu a' b' fk (w64 (i + 1))
    else
      some (.next i)
def laws_vInts (fu : Nat) (a' : List Int) (b' : List Int) : Option (Bool) :=
  if (a'.length : Int) != (b'.length : Int) then
    some false
  else
    (laws_vInts_L1 fu a' b' fu 0).bind fun out => out.on some fun z =>
    some true
def laws_rPacked_L1 (fu : Nat) (rates : List Int) (units : List Int) (capacity : Int) : Nat → List Int → Int → Int → Option (Out (List Int × Int × Int) (Int))
  | 0, _, _, _ => none
  | fk + 1, load, most, i =>
    if decide (i < (units.length : Int)) then
      ((idx units i).bind fun e =>
      if decide (e < 0) then some true
      else (idx units i).bind fun e2 =>
      some (decide (e2 ≥ (rates.length : Int)))).bind fun c5 =>
      if c5 then
        some (.ret (-1))
      else
        (idx units i).bind fun e3 =>
        (idx units i).bind fun e4 =>
        (idx load e4).bind fun e5 =>
        (idx rates i).bind fun e6 =>
        (idx load e3).bind fun e7 =>
        (idx units i).bind fun e8 =>
        (idx (load.set (e3 : Int).toNat (w64 (e5 + e6))) e8).bind fun e9 =>
        if decide (e9 > capacity) then
          some (.ret (-1))
        else
          (idx units i).bind fun e10 =>
          if decide ((w64 (e10 + 1)) > most) then
            (idx units i).bind fun e11 =>
            laws_rPacked_L1 fu rates units capacity fk (load.set (e3 : Int).toNat (w64 (e5 + e6))) (w64 (e11 + 1)) (w64 (i + 1))
          else
            laws_rPacked_L1 fu rates units capacity fk (load.set (e3 : Int).toNat (w64 (e5 + e6))) most (w64 (i + 1))
    else
      some (.next (load, most, i))
def laws_rPacked (fu : Nat) (rates : List Int) (units : List Int) (capacity : Int) : Option (Int) :=
  if (units.length : Int) != (rates.length : Int) then
    some (-1)
  else
    (mk (0 : Int) (w64 ((rates.length : Int) + 1))).bind fun l =>
    (laws_rPacked_L1 fu rates units capacity fu l 0 0).bind fun out => out.on some fun z =>
    some z.2.1
def slices_Clone_int_int (fu : Nat) (s' : List Int) : Option (List Int) :=
  nilCase s' (some []) ((app ([] : List Int) s').bind fun l =>
  some l)
def math_bits_Len64 (fu : Nat) (x1 : U64) : Option (Int) :=
  if decide (x1.n ≥ 4294967296) then
    none
  else
    if decide (x1.n ≥ 65536) then
      none
    else
      if decide (x1.n ≥ 256) then
        none
      else
        (sidx (⟨#[0, 1, 2, 2, 3, 3, 3, 3, 4, 4, 4, 4, 4, 4, 4, 4, 5, 5, 5, 5, 5, 5, 5, 5, 5, 5, 5, 5, 5, 5, 5, 5, 6, 6, 6, 6, 6, 6, 6, 6, 6, 6, 6, 6, 6, 6, 6, 6, 6, 6, 6, 6, 6, 6, 6, 6, 6, 6, 6, 6, 6, 6, 6, 6, 7, 7, 7, 7, 7, 7, 7, 7, 7, 7, 7, 7, 7, 7, 7, 7, 7, 7, 7, 7, 7, 7, 7, 7, 7, 7, 7, 7, 7, 7, 7, 7, 7, 7, 7, 7, 7, 7, 7, 7, 7, 7, 7, 7, 7, 7, 7, 7, 7, 7, 7, 7, 7, 7, 7, 7, 7, 7, 7, 7, 7, 7, 7, 7, 8, 8, 8, 8, 8, 8, 8, 8, 8, 8, 8, 8, 8, 8, 8, 8, 8, 8, 8, 8, 8, 8, 8, 8, 8, 8, 8, 8, 8, 8, 8, 8, 8, 8, 8, 8, 8, 8, 8, 8, 8, 8, 8, 8, 8, 8, 8, 8, 8, 8, 8, 8, 8, 8, 8, 8, 8, 8, 8, 8, 8, 8, 8, 8, 8, 8, 8, 8, 8, 8, 8, 8, 8, 8, 8, 8, 8, 8, 8, 8, 8, 8, 8, 8, 8, 8, 8, 8, 8, 8, 8, 8, 8, 8, 8, 8, 8, 8, 8, 8, 8, 8, 8, 8, 8, 8, 8, 8, 8, 8, 8, 8, 8, 8, 8, 8, 8, 8, 8, 8, 8, 8, 8, 8, 8, 8, 8, 8]⟩ : ByteArray) (wu8 x1.n)).bind fun e =>
        some (w64 (0 + (w64 e.n)))
def math_bits_Len (fu : Nat) (x1 : U64) : Option (Int) :=
  (math_bits_Len64 fu x1).bind fun y =>
  some y
def impl_FewestUnits_c1 (fu : Nat) (a' : Int) (b' : Int) : Option (Int) :=
  (cmp_Compare_int fu b' a').bind fun y =>
  some y
def slices_insertionSortCmpFunc_int_of_FewestUnits_c1_L2 (fu : Nat) (a' : Int) : Nat → List Int → Int → Option (List Int × Int)
  | 0, _, _ => none
  | fk + 1, data3, j =>
    (if decide (j > a') then (idx data3 j).bind fun e =>
    (idx data3 (w64 (j - 1))).bind fun e2 =>
    (impl_FewestUnits_c1 fu e e2).bind fun y =>
    some (decide (y < 0))
    else some false).bind fun c2 =>
    if c2 then
      (idx data3 (w64 (j - 1))).bind fun e3 =>
      (idx data3 j).bind fun e4 =>
      (idx data3 j).bind fun e5 =>
      (idx (data3.set (j : Int).toNat e3) (w64 (j - 1))).bind fun e6 =>
      slices_insertionSortCmpFunc_int_of_FewestUnits_c1_L2 fu a' fk ((data3.set (j : Int).toNat e3).set (w64 (j - 1) : Int).toNat e4) (w64 (j - 1))
    else
      some (data3, j)
def slices_insertionSortCmpFunc_int_of_FewestUnits_c1_L1 (fu : Nat) (a' : Int) (b5 : Int) : Nat → List Int → Int → Option (List Int × Int)
  | 0, _, _ => none
  | fk + 1, data2, i =>
    if decide (i < b5) then
      (slices_insertionSortCmpFunc_int_of_FewestUnits_c1_L2 fu a' fu data2 i).bind fun z =>
      slices_insertionSortCmpFunc_int_of_FewestUnits_c1_L1 fu a' b5 fk z.1 (w64 (i + 1))
    else
      some (data2, i)
def slices_insertionSortCmpFunc_int_of_FewestUnits_c1 (fu : Nat) (data : List Int) (a' : Int) (b5 : Int) : Option (List Int) :=
  (slices_insertionSortCmpFunc_int_of_FewestUnits_c1_L1 fu a' b5 fu data (w64 (a' + 1))).bind fun z2 =>
  some z2.1
def slices_pdqsortCmpFunc_int_of_FewestUnits_c1_L1 (fu : Nat) (data : List Int) (a' : Int) (b6 : Int) : Nat → Option (Out (Unit) (List Int))
  | 0 => none
  | fk + 1 =>
    if decide ((w64 (b6 - a')) ≤ 12) then
      (slices_insertionSortCmpFunc_int_of_FewestUnits_c1 fu data a' b6).bind fun y =>
      some (.ret y)
    else
      none
def slices_pdqsortCmpFunc_int_of_FewestUnits_c1 (fu : Nat) (data : List Int) (a' : Int) (b6 : Int) (limit : Int) : Option (List Int) :=
  (slices_pdqsortCmpFunc_int_of_FewestUnits_c1_L1 fu data a' b6 fu).bind fun out => out.on some fun z =>
  some data
def slices_SortFunc_int_int_of_FewestUnits_c1 (fu : Nat) (x1 : List Int) : Option (List Int) :=
  (math_bits_Len fu (⟨wu64 (x1.length : Int)⟩ : U64)).bind fun y =>
  (slices_pdqsortCmpFunc_int_of_FewestUnits_c1 fu x1 0 (x1.length : Int) y).bind fun y2 =>
  some y2
def math_bits_Mul64 (fu : Nat) (x1 : U64) (y : U64) : Option (U64 × U64) :=
  (shrk 64 x1.n 32).bind fun q =>
  (shrk 64 y.n 32).bind fun q2 =>
  (shrk 64 (wu64 ((andu64 x1.n 4294967295) * (andu64 y.n 4294967295))) 32).bind fun q3 =>
  (shrk 64 (wu64 ((wu64 (q * (andu64 y.n 4294967295))) + q3)) 32).bind fun q4 =>
  (shrk 64 (wu64 ((andu64 (wu64 ((wu64 (q * (andu64 y.n 4294967295))) + q3)) 4294967295) + (wu64 ((andu64 x1.n 4294967295) * q2)))) 32).bind fun q5 =>
  some ((⟨wu64 ((wu64 ((wu64 (q * q2)) + q4)) + q5)⟩ : U64), (⟨wu64 (x1.n * y.n)⟩ : U64))
def math_bits_Mul (fu : Nat) (x1 : U64) (y : U64) : Option (U64 × U64) :=
  (math_bits_Mul64 fu x1 y).bind fun y2 =>
  some (y2.1, y2.2)
def slices_Repeat_int_int_L1 (fu : Nat) : Nat → List Int → Int → Option (List Int × Int)
  | 0, _, _ => none
  | fk + 1, newslice, n' =>
    if decide (n' < (newslice.length : Int)) then
      (selfcp newslice n').bind fun y3 =>
      slices_Repeat_int_int_L1 fu fk y3.1 y3.2
    else
      some (newslice, n')
def slices_Repeat_int_int (fu : Nat) (x1 : List Int) (count : Int) : Option (List Int) :=
  if decide (count < 0) then
    none
  else
    (math_bits_Mul fu (⟨wu64 (x1.length : Int)⟩ : U64) (⟨wu64 count⟩ : U64)).bind fun y =>
    (if decide (y.1.n > 0) then some true
    else some (decide (y.2.n > 9223372036854775807))).bind fun c2 =>
    if c2 then
      none
    else
      (mk (0 : Int) (w64 y.2.n)).bind fun l =>
      (cpy l x1).bind fun y2 =>
      (slices_Repeat_int_int_L1 fu fu y2.1 y2.2).bind fun z =>
      some z.1
def slices_Index_int_int_L1 (fu : Nat) (s' : List Int) (v : Int) : Nat → Int → Option (Out (Int) (Int))
  | 0, _ => none
  | fk + 1, i =>
    if decide (i < (s'.length : Int)) then
      (idx s' i).bind fun e =>
      if v == e then
        some (.ret i)
      else
        slices_Index_int_int_L1 fu s' v fk (w64 (i + 1))
    else
      some (.next i)
def slices_Index_int_int (fu : Nat) (s' : List Int) (v : Int) : Option (Int) :=
  (slices_Index_int_int_L1 fu s' v fu 0).bind fun out => out.on some fun z =>
  some (-1)
def slices_Contains_int_int (fu : Nat) (s' : List Int) (v : Int) : Option (Bool) :=
  (slices_Index_int_int fu s' v).bind fun y =>
  some (decide (y ≥ 0))
def impl_fits_L1 (fu : Nat) (rates : List Int) (free : List Int) (rec_ : (List Int) → (List Int) → Option (Bool × List Int)) : Nat → Int → List Int → Option (Out (Int × List Int) (Bool × List Int))
  | 0, _, _ => none
  | fk + 1, i, free2 =>
    if decide (i < (free.length : Int)) then
      (idx free2 i).bind fun e =>
      ((idx rates 0).bind fun e2 =>
      if decide (e < e2) then some true
      else (sub free2 0 i).bind fun l =>
      (slices_Contains_int_int fu l e).bind fun y =>
      some y).bind fun c3 =>
      if c3 then
        impl_fits_L1 fu rates free rec_ fk (w64 (i + 1)) free2
      else
        (idx free2 i).bind fun e3 =>
        (idx rates 0).bind fun e4 =>
        (idx free2 i).bind fun e5 =>
        (sub rates 1 (rates.length : Int)).bind fun l2 =>
        (rec_ l2 (free2.set (i : Int).toNat (w64 (e3 - e4)))).bind fun y2 =>
        (idx y2.2 i).bind fun e6 =>
        if y2.1 then
          some (.ret (true, y2.2.set (i : Int).toNat e))
        else
          impl_fits_L1 fu rates free rec_ fk (w64 (i + 1)) (y2.2.set (i : Int).toNat e)
    else
      some (.next (i, free2))
def impl_fits_B (fu : Nat) (rec_ : (List Int) → (List Int) → Option (Bool × List Int)) (rates : List Int) (free : List Int) : Option (Bool × List Int) :=
  if (rates.length : Int) == 0 then
    some (true, free)
  else
    (impl_fits_L1 fu rates free rec_ fu 0 free).bind fun out => out.on some fun z =>
    some (false, z.2)
def impl_fits : Nat → (List Int) → (List Int) → Option (Bool × List Int)
  | 0, _, _ => none
  | fu + 1, rates, free => impl_fits_B fu (fun rates free => impl_fits fu rates free) rates free
def impl_FewestUnits_L1 (fu : Nat) (capacity : Int) (y3 : List Int) : Nat → Int → Option (Int)
  | 0, _ => none
  | fk + 1, units =>
    (slices_Repeat_int_int fu [capacity] units).bind fun y4 =>
    (impl_fits fu y3 y4).bind fun y5 =>
    if !y5.1 then
      impl_FewestUnits_L1 fu capacity y3 fk (w64 (units + 1))
    else
      some units
def impl_FewestUnits (fu : Nat) (rates : List Int) (capacity : Int) : Option (Int × Bool) :=
  (impl_isPacking fu rates capacity 10).bind fun y =>
  if !y then
    some (0, false)
  else
    (slices_Clone_int_int fu rates).bind fun y2 =>
    (slices_SortFunc_int_int_of_FewestUnits_c1 fu y2).bind fun y3 =>
    (impl_FewestUnits_L1 fu capacity y3 fu 0).bind fun z =>
    some (z, true)
def spec_FewestUnits_L2 (fu : Nat) (rates : List Int) (capacity : Int) (l : List Int) (l2 : List Int) (units : List Int) (rest : List Int) (mask : Int) : Nat → Int → Int → Int → Option (Int × Int × Int)
  | 0, _, _, _ => none
  | fk + 1, i, best, used =>
    if decide (i < (rates.length : Int)) then
      (shr mask (wu64 i)).bind fun q2 =>
      if (band q2 1) == 0 then
        spec_FewestUnits_L2 fu rates capacity l l2 units rest mask fk (w64 (i + 1)) best used
      else
        (idx rates i).bind fun e =>
        (shl 1 (wu64 i)).bind fun q3 =>
        (idx units (bxor mask q3)).bind fun e2 =>
        (shl 1 (wu64 i)).bind fun q4 =>
        (idx rest (bxor mask q4)).bind fun e3 =>
        if decide ((w64 (e3 + e)) > capacity) then
          (idx rates i).bind fun e4 =>
          (if decide ((w64 (e2 + 1)) < best) then some true
          else if (w64 (e2 + 1)) == best then some (decide (e4 < used))
          else some false).bind fun c7 =>
          if c7 then
            spec_FewestUnits_L2 fu rates capacity l l2 units rest mask fk (w64 (i + 1)) (w64 (e2 + 1)) e4
          else
            spec_FewestUnits_L2 fu rates capacity l l2 units rest mask fk (w64 (i + 1)) best used
        else
          (if decide (e2 < best) then some true
          else if e2 == best then some (decide ((w64 (e3 + e)) < used))
          else some false).bind fun c8 =>
          if c8 then
            spec_FewestUnits_L2 fu rates capacity l l2 units rest mask fk (w64 (i + 1)) e2 (w64 (e3 + e))
          else
            spec_FewestUnits_L2 fu rates capacity l l2 units rest mask fk (w64 (i + 1)) best used
    else
      some (i, best, used)
def spec_FewestUnits_L1 (fu : Nat) (rates : List Int) (capacity : Int) (q : Int) (l : List Int) (l2 : List Int) : Nat → List Int → List Int → Int → Option (List Int × List Int × Int)
  | 0, _, _, _ => none
  | fk + 1, units, rest, mask =>
    if decide (mask < q) then
      (spec_FewestUnits_L2 fu rates capacity l l2 units rest mask fu 0 1000 0).bind fun z =>
      (idx units mask).bind fun e5 =>
      (idx rest mask).bind fun e6 =>
      spec_FewestUnits_L1 fu rates capacity q l l2 fk (units.set (mask : Int).toNat z.2.1) (rest.set (mask : Int).toNat z.2.2) (w64 (mask + 1))
    else
      some (units, rest, mask)
def spec_FewestUnits (fu : Nat) (rates : List Int) (capacity : Int) : Option (Int × Bool) :=
  ((spec_l18Rates fu rates capacity).bind fun y =>
  if !y then some true
  else some (decide ((rates.length : Int) > 10))).bind fun c2 =>
  if c2 then
    some (0, false)
  else
    (shl 1 (wu64 (rates.length : Int))).bind fun q =>
    (mk (0 : Int) q).bind fun l =>
    (mk (0 : Int) q).bind fun l2 =>
    (spec_FewestUnits_L1 fu rates capacity q l l2 fu l l2 1).bind fun z2 =>
    if (rates.length : Int) == 0 then
      some (0, true)
    else
      (idx z2.1 (w64 (q - 1))).bind fun e7 =>
      some (w64 (e7 + 1), true)
def laws_FnPacking_L1 (fu : Nat) (y2 : List Int × Int) : Nat → Int → Int → Option (Int × Int)
  | 0, _, _ => none
  | fk + 1, sum, i =>
    if decide (i < (y2.1.length : Int)) then
      (idx y2.1 i).bind fun e =>
      laws_FnPacking_L1 fu y2 fk (w64 (sum + e)) (w64 (i + 1))
    else
      some (sum, i)
def laws_FnPacking (fu : Nat) (code : List By) : Option (Bool) :=
  (laws_vBig fu code).bind fun y =>
  if y then
    some true
  else
    (spec_DrawPackInOrder fu code).bind fun y2 =>
    (impl_PackInOrder fu y2.1 y2.2).bind fun y3 =>
    (impl_PackDescending fu y2.1 y2.2).bind fun y4 =>
    (spec_PackInOrder fu y2.1 y2.2).bind fun y5 =>
    (if y3.2 != y5.2 then some true
    else if y4.2 != y5.2 then some true
    else (laws_vInts fu y3.1 y5.1).bind fun y6 =>
    if !y6 then some true
    else some (!y3.2)).bind fun c6 =>
    if c6 then
      (if y3.2 == y5.2 then if y4.2 == y5.2 then (laws_vInts fu y3.1 y5.1).bind fun y7 =>
      some y7
      else some false
      else some false).bind fun c7 =>
      some c7
    else
      (laws_rPacked fu y2.1 y3.1 y2.2).bind fun y8 =>
      (laws_rPacked fu y2.1 y4.1 y2.2).bind fun y9 =>
      (if decide (y8 < 0) then some true
      else some (decide (y9 < 0))).bind fun c8 =>
      if c8 then
        some false
      else
        (impl_FewestUnits fu y2.1 y2.2).bind fun y10 =>
        (spec_FewestUnits fu y2.1 y2.2).bind fun y11 =>
        (if y10.1 != y11.1 then some true
        else if y10.2 != y11.2 then some true
        else some (!y10.2)).bind fun c9 =>
        if c9 then
          (if y10.1 == y11.1 then some (y10.2 == y11.2)
          else some false).bind fun c10 =>
          some c10
        else
          (laws_FnPacking_L1 fu y2 fu 0 0).bind fun z =>
          (if decide (y10.1 ≤ y8) then if decide (y10.1 ≤ y9) then some (decide ((w64 (y10.1 * y2.2)) ≥ z.1))
          else some false
          else some false).bind fun c11 =>
          some c11
end AT
