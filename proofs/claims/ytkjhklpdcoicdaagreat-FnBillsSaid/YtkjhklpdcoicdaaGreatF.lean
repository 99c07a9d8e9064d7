/- The Go functions told plainly, by program (gen.py). -/
import Derived.Test.YtkjhklpdcoicdaaGreatAtR
set_option linter.unusedVariables false
namespace AT
structure L1CurP where
  code : List By
  at_ : Int
  seed : U64
  deriving DecidableEq
structure Item where
  Kind : Int
  Node : Int
  Count : Int
  deriving DecidableEq
structure Fiber where
  A : Int
  B : Int
  Length : Int
  Risk : Int
  deriving DecidableEq
structure Network where
  Nodes : List ByteArray
  Fibers : List Fiber
  deriving DecidableEq
structure Route where
  Start : Int
  Fibers : List Int
  deriving DecidableEq
structure Block where
  First : Int
  Count : Int
  deriving DecidableEq
structure Light where
  Id : Int
  Route : Route
  Block : Block
  deriving DecidableEq
structure Plan where
  Network : Network
  Lights : List Light
  deriving DecidableEq
structure Restoration where
  Plan : Plan
  Home : List Light
  Down : List Int
  deriving DecidableEq
structure L4SearchP where
  n : Network
  to : Int
  list : List Route
  deriving DecidableEq
structure FiberEvent where
  Fail : Bool
  Fibers : List Int
  deriving DecidableEq
structure Action where
  Kind : Int
  Light : Light
  deriving DecidableEq
structure L20SearchP where
  list : List Action
  failed : List Bool
  deriving DecidableEq
def laws_vBig (fu : Nat) (code : List By) : Option (Bool) :=
  some (decide ((code.length : Int) > 65536))
def spec_l1Cur_next (fu : Nat) (c : L1CurP) : Option (Int × L1CurP) :=
  if decide (c.at_ < (c.code.length : Int)) then
    (idx c.code c.at_).bind fun e =>
    if decide ((w64 (c.at_ + 1)) ≤ (c.code.length : Int)) then
      some (w64 e.n, ({ code := c.code, at_ := w64 (c.at_ + 1), seed := (⟨wu64 ((wu64 ((wu64 (c.seed.n * 6364136223846793005)) + (wu64 (w64 e.n)))) + 897897)⟩ : U64) } : L1CurP))
    else
      (shrk 64 (wu64 ((wu64 ((wu64 (c.seed.n * 6364136223846793005)) + (wu64 (w64 e.n)))) + 897897)) 40).bind fun q =>
      some (w64 (andu64 q 255), ({ code := c.code, at_ := w64 (c.at_ + 1), seed := (⟨wu64 ((wu64 ((wu64 (c.seed.n * 6364136223846793005)) + (wu64 (w64 e.n)))) + 897897)⟩ : U64) } : L1CurP))
  else
    if decide ((w64 (c.at_ + 1)) ≤ (c.code.length : Int)) then
      some (0, ({ code := c.code, at_ := w64 (c.at_ + 1), seed := (⟨wu64 ((wu64 ((wu64 (c.seed.n * 6364136223846793005)) + (wu64 0))) + 897897)⟩ : U64) } : L1CurP))
    else
      (shrk 64 (wu64 ((wu64 ((wu64 (c.seed.n * 6364136223846793005)) + (wu64 0))) + 897897)) 40).bind fun q2 =>
      some (w64 (andu64 q2 255), ({ code := c.code, at_ := w64 (c.at_ + 1), seed := (⟨wu64 ((wu64 ((wu64 (c.seed.n * 6364136223846793005)) + (wu64 0))) + 897897)⟩ : U64) } : L1CurP))
def spec_l1Cur_pick (fu : Nat) (c : L1CurP) (n' : Int) : Option (Int × L1CurP) :=
  if decide (n' ≤ 1) then
    some (0, c)
  else
    (spec_l1Cur_next fu c).bind fun y =>
    if decide (n' > 200) then
      (spec_l1Cur_next fu y.2).bind fun y2 =>
      (rem (w64 ((w64 (y.1 * 256)) + y2.1)) n').bind fun q =>
      some (q, y2.2)
    else
      (rem y.1 n').bind fun q2 =>
      some (q2, y.2)
def spec_l1Cur_one (fu : Nat) (c : L1CurP) (n' : Int) : Option (Bool × L1CurP) :=
  (spec_l1Cur_pick fu c n').bind fun y =>
  some (y.1 == 0, y.2)
def spec_l1Cur_among (fu : Nat) (c : L1CurP) (list : List Int) : Option (Int × L1CurP) :=
  (spec_l1Cur_pick fu c (list.length : Int)).bind fun y =>
  (idx list y.1).bind fun e =>
  some (e, y.2)
def spec_l1Cur_bill_L2 (fu : Nat) (kind : Int) : Nat → List Item → Int → List By → Int → U64 → Option (List Item × Int × List By × Int × U64)
  | 0, _, _, _, _, _ => none
  | fk + 1, out3, node, m4, m5, m6 =>
    if decide (node < 4) then
      (spec_l1Cur_one fu ({ code := m4, at_ := m5, seed := m6 } : L1CurP) 3).bind fun y =>
      if y.1 then
        (spec_l1Cur_among fu y.2 [1, 2, 3, 10, 500]).bind fun y2 =>
        (app out3 [({ Kind := kind, Node := node, Count := y2.1 } : Item)]).bind fun l =>
        spec_l1Cur_bill_L2 fu kind fk l (w64 (node + 1)) y2.2.code y2.2.at_ y2.2.seed
      else
        spec_l1Cur_bill_L2 fu kind fk out3 (w64 (node + 1)) y.2.code y.2.at_ y.2.seed
    else
      some (out3, node, m4, m5, m6)
def spec_l1Cur_bill_L1 (fu : Nat) : Nat → List Item → Int → List By → Int → U64 → Option (List Item × Int × List By × Int × U64)
  | 0, _, _, _, _, _ => none
  | fk + 1, out', kind, m, m2, m3 =>
    if decide (kind ≤ 4) then
      (spec_l1Cur_bill_L2 fu kind fu out' 0 m m2 m3).bind fun z =>
      spec_l1Cur_bill_L1 fu fk z.1 (w64 (kind + 1)) z.2.2.1 z.2.2.2.1 z.2.2.2.2
    else
      some (out', kind, m, m2, m3)
def spec_l1Cur_bill (fu : Nat) (c : L1CurP) : Option (List Item × L1CurP) :=
  (spec_l1Cur_bill_L1 fu fu ([] : List Item) 1 c.code c.at_ c.seed).bind fun z2 =>
  (spec_l1Cur_pick fu ({ code := z2.2.2.1, at_ := z2.2.2.2.1, seed := z2.2.2.2.2 } : L1CurP) 40).bind fun y3 =>
  if y3.1 == 0 then
    (spec_l1Cur_among fu y3.2 [4, 5, 0]).bind fun y4 =>
    (spec_l1Cur_among fu y4.2 [7, 8, 0]).bind fun y5 =>
    (app z2.1 [({ Kind := y4.1, Node := y5.1, Count := 1 } : Item)]).bind fun l2 =>
    some (l2, y5.2)
  else
    if y3.1 == 1 then
      (spec_l1Cur_among fu y3.2 [0, 1000, 1001]).bind fun y6 =>
      (app z2.1 [({ Kind := 4, Node := 7, Count := y6.1 } : Item)]).bind fun l3 =>
      some (l3, y6.2)
    else
      some (z2.1, y3.2)
def spec_DrawMergeBills (fu : Nat) (code : List By) : Option (List Item × List Item) :=
  (spec_l1Cur_bill fu ({ code := code, at_ := 0, seed := (⟨0⟩ : U64) } : L1CurP)).bind fun y =>
  (spec_l1Cur_bill fu y.2).bind fun y2 =>
  some (y.1, y2.1)
def impl_within (fu : Nat) (n' : Int) (low : Int) (high : Int) : Option (Bool) :=
  (if decide (low ≤ n') then some (decide (n' ≤ high))
  else some false).bind fun c =>
  some c
def impl_isBill_L1 (fu : Nat) (bill : List Item) : Nat → Int → Option (Out (Int) (Bool))
  | 0, _ => none
  | fk + 1, i =>
    if decide (i < (bill.length : Int)) then
      (idx bill i).bind fun e =>
      ((impl_within fu e.Kind 1 4).bind fun y =>
      if !y then some true
      else (impl_within fu e.Node 0 7).bind fun y2 =>
      if !y2 then some true
      else (impl_within fu e.Count 1 1000).bind fun y3 =>
      some (!y3)).bind fun c2 =>
      if c2 then
        some (.ret false)
      else
        (if decide (i > 0) then (idx bill (w64 (i - 1))).bind fun e2 =>
        (idx bill (w64 (i - 1))).bind fun e3 =>
        some (decide ((w64 ((w64 (e2.Kind * 8)) + e3.Node)) ≥ (w64 ((w64 (e.Kind * 8)) + e.Node))))
        else some false).bind fun c3 =>
        if c3 then
          some (.ret false)
        else
          impl_isBill_L1 fu bill fk (w64 (i + 1))
    else
      some (.next i)
def impl_isBill (fu : Nat) (bill : List Item) : Option (Bool) :=
  (impl_isBill_L1 fu bill fu 0).bind fun out => out.on some fun z =>
  some (decide ((bill.length : Int) ≤ 32))
def impl_tally_add_L1 (fu : Nat) (bill : List Item) (factor : Int) : Nat → Int → IA 40 → Option (Int × IA 40)
  | 0, _, _ => none
  | fk + 1, i, m =>
    if decide (i < (bill.length : Int)) then
      (idx bill i).bind fun e =>
      (chk e.Kind 5).bind fun q =>
      (chk e.Node 8).bind fun q2 =>
      (m.get (0 + q * 8 + q2 * 1)).bind fun e2 =>
      (chk e.Kind 5).bind fun q3 =>
      (chk e.Node 8).bind fun q4 =>
      (m.put (0 + q3 * 8 + q4 * 1) (w64 (e2 + (w64 (factor * e.Count))))).bind fun x1 =>
      impl_tally_add_L1 fu bill factor fk (w64 (i + 1)) x1
    else
      some (i, m)
def impl_tally_add (fu : Nat) (t : IA 40) (bill : List Item) (factor : Int) : Option (IA 40) :=
  (impl_tally_add_L1 fu bill factor fu 0 t).bind fun z =>
  some z.2
def impl_tally_bill_L2 (fu : Nat) (z : IA 8) (kind : Int) : Nat → List Item → Int → Option (List Item × Int)
  | 0, _, _ => none
  | fk + 1, out3, i =>
    if decide (i < 8) then
      (idx z.l i).bind fun e =>
      if decide (e > 0) then
        (app out3 [({ Kind := kind, Node := i, Count := e } : Item)]).bind fun l =>
        impl_tally_bill_L2 fu z kind fk l (w64 (i + 1))
      else
        impl_tally_bill_L2 fu z kind fk out3 (w64 (i + 1))
    else
      some (out3, i)
def impl_tally_bill_L1 (fu : Nat) (t : IA 40) : Nat → List Item → Int → Option (List Item × Int)
  | 0, _, _ => none
  | fk + 1, out', kind =>
    if decide (kind ≤ 4) then
      (chk kind 5).bind fun q =>
      (t.part (q * 8) 8).bind fun z =>
      (impl_tally_bill_L2 fu z kind fu out' 0).bind fun z2 =>
      impl_tally_bill_L1 fu t fk z2.1 (w64 (kind + 1))
    else
      some (out', kind)
def impl_tally_bill (fu : Nat) (t : IA 40) : Option (List Item × Bool) :=
  (impl_tally_bill_L1 fu t fu ([] : List Item) 1).bind fun z3 =>
  (impl_isBill fu z3.1).bind fun y =>
  if !y then
    some ([], false)
  else
    some (z3.1, true)
def impl_MergeBills (fu : Nat) (a' : List Item) (b' : List Item) : Option (List Item × Bool) :=
  ((impl_isBill fu a').bind fun y =>
  if !y then some true
  else (impl_isBill fu b').bind fun y2 =>
  some (!y2)).bind fun c3 =>
  if c3 then
    some ([], false)
  else
    (impl_tally_add fu (⟨[0, 0, 0, 0, 0, 0, 0, 0, 0, 0, 0, 0, 0, 0, 0, 0, 0, 0, 0, 0, 0, 0, 0, 0, 0, 0, 0, 0, 0, 0, 0, 0, 0, 0, 0, 0, 0, 0, 0, 0], rfl⟩ : IA 40) a' 1).bind fun y3 =>
    (impl_tally_add fu y3 b' 1).bind fun y4 =>
    (impl_tally_bill fu y4).bind fun y5 =>
    some (y5.1, y5.2)
def spec_l1In (fu : Nat) (x1 : Int) (a' : Int) (b' : Int) : Option (Bool) :=
  (if decide (x1 ≥ a') then some (decide (x1 ≤ b'))
  else some false).bind fun c =>
  some c
def spec_l19Before (fu : Nat) (a' : Item) (b' : Item) : Option (Bool) :=
  (if decide (a'.Kind < b'.Kind) then some true
  else if a'.Kind == b'.Kind then some (decide (a'.Node < b'.Node))
  else some false).bind fun c =>
  some c
def spec_l19Bill_L1 (fu : Nat) (bill : List Item) : Nat → Int → Option (Out (Int) (Bool))
  | 0, _ => none
  | fk + 1, i =>
    if decide (i < (bill.length : Int)) then
      (idx bill i).bind fun e =>
      ((spec_l1In fu e.Kind 1 4).bind fun y =>
      if !y then some true
      else (spec_l1In fu e.Node 0 7).bind fun y2 =>
      if !y2 then some true
      else (spec_l1In fu e.Count 1 1000).bind fun y3 =>
      if !y3 then some true
      else if decide (i > 0) then (idx bill (w64 (i - 1))).bind fun e2 =>
      (spec_l19Before fu e2 e).bind fun y4 =>
      some (!y4)
      else some false).bind fun c2 =>
      if c2 then
        some (.ret false)
      else
        spec_l19Bill_L1 fu bill fk (w64 (i + 1))
    else
      some (.next i)
def spec_l19Bill (fu : Nat) (bill : List Item) : Option (Bool) :=
  (spec_l19Bill_L1 fu bill fu 0).bind fun out => out.on some fun z =>
  some (decide ((bill.length : Int) ≤ 32))
def spec_l19Add_L1 (fu : Nat) (bill : List Item) (x1 : Item) : Nat → Int → Option (Int)
  | 0, _ => none
  | fk + 1, i =>
    (if decide (i < (bill.length : Int)) then (idx bill i).bind fun e =>
    (spec_l19Before fu e x1).bind fun y =>
    some y
    else some false).bind fun c2 =>
    if c2 then
      spec_l19Add_L1 fu bill x1 fk (w64 (i + 1))
    else
      some i
def spec_l19Add (fu : Nat) (bill : List Item) (x1 : Item) : Option (List Item) :=
  if x1.Count == 0 then
    some bill
  else
    (spec_l19Add_L1 fu bill x1 fu 0).bind fun z =>
    (sub bill 0 z).bind fun l =>
    (app ([] : List Item) l).bind fun l2 =>
    (if decide (z < (bill.length : Int)) then (idx bill z).bind fun e2 =>
    (spec_l19Before fu x1 e2).bind fun y2 =>
    some (!y2)
    else some false).bind fun c5 =>
    if c5 then
      (idx bill z).bind fun e3 =>
      (sub bill (w64 (z + 1)) (bill.length : Int)).bind fun l3 =>
      (app l2 [({ Kind := x1.Kind, Node := x1.Node, Count := w64 (x1.Count + e3.Count) } : Item)]).bind fun l4 =>
      (app l4 l3).bind fun l5 =>
      some l5
    else
      (sub bill z (bill.length : Int)).bind fun l6 =>
      (app l2 [x1]).bind fun l7 =>
      (app l7 l6).bind fun l8 =>
      some l8
def spec_MergeBills_L1 (fu : Nat) (b' : List Item) : Nat → List Item → Int → Option (List Item × Int)
  | 0, _, _ => none
  | fk + 1, out', i =>
    if decide (i < (b'.length : Int)) then
      (idx b' i).bind fun e =>
      (spec_l19Add fu out' e).bind fun y3 =>
      spec_MergeBills_L1 fu b' fk y3 (w64 (i + 1))
    else
      some (out', i)
def spec_MergeBills (fu : Nat) (a' : List Item) (b' : List Item) : Option (List Item × Bool) :=
  ((spec_l19Bill fu a').bind fun y =>
  if !y then some true
  else (spec_l19Bill fu b').bind fun y2 =>
  some (!y2)).bind fun c3 =>
  if c3 then
    some (([] : List Item), false)
  else
    (app ([] : List Item) a').bind fun l =>
    (spec_MergeBills_L1 fu b' fu l 0).bind fun z =>
    (spec_l19Bill fu z.1).bind fun y4 =>
    if !y4 then
      some (([] : List Item), false)
    else
      some (z.1, true)
def impl_MissingItems (fu : Nat) (need : List Item) (stock : List Item) : Option (List Item × Bool) :=
  ((impl_isBill fu need).bind fun y =>
  if !y then some true
  else (impl_isBill fu stock).bind fun y2 =>
  some (!y2)).bind fun c3 =>
  if c3 then
    some ([], false)
  else
    (impl_tally_add fu (⟨[0, 0, 0, 0, 0, 0, 0, 0, 0, 0, 0, 0, 0, 0, 0, 0, 0, 0, 0, 0, 0, 0, 0, 0, 0, 0, 0, 0, 0, 0, 0, 0, 0, 0, 0, 0, 0, 0, 0, 0], rfl⟩ : IA 40) need 1).bind fun y3 =>
    (impl_tally_add fu y3 stock (-1)).bind fun y4 =>
    (impl_tally_bill fu y4).bind fun y5 =>
    some (y5.1, y5.2)
def spec_MissingItems_L2 (fu : Nat) (stock : List Item) (e : Item) : Nat → Int → Int → Option (Int × Int)
  | 0, _, _ => none
  | fk + 1, k', m =>
    if decide (k' < (stock.length : Int)) then
      ((idx stock k').bind fun e2 =>
      if e2.Kind == e.Kind then (idx stock k').bind fun e3 =>
      some (e3.Node == e.Node)
      else some false).bind fun c5 =>
      if c5 then
        (idx stock k').bind fun e4 =>
        spec_MissingItems_L2 fu stock e fk (w64 (k' + 1)) (w64 (m - e4.Count))
      else
        spec_MissingItems_L2 fu stock e fk (w64 (k' + 1)) m
    else
      some (k', m)
def spec_MissingItems_L1 (fu : Nat) (need : List Item) (stock : List Item) : Nat → List Item → Int → Option (List Item × Int)
  | 0, _, _ => none
  | fk + 1, out', i =>
    if decide (i < (need.length : Int)) then
      (idx need i).bind fun e =>
      (spec_MissingItems_L2 fu stock e fu 0 e.Count).bind fun z =>
      if decide (z.2 > 0) then
        (app out' [({ Kind := e.Kind, Node := e.Node, Count := z.2 } : Item)]).bind fun l =>
        spec_MissingItems_L1 fu need stock fk l (w64 (i + 1))
      else
        spec_MissingItems_L1 fu need stock fk out' (w64 (i + 1))
    else
      some (out', i)
def spec_MissingItems (fu : Nat) (need : List Item) (stock : List Item) : Option (List Item × Bool) :=
  ((spec_l19Bill fu need).bind fun y =>
  if !y then some true
  else (spec_l19Bill fu stock).bind fun y2 =>
  some (!y2)).bind fun c3 =>
  if c3 then
    some (([] : List Item), false)
  else
    (spec_MissingItems_L1 fu need stock fu ([] : List Item) 0).bind fun z2 =>
    some (z2.1, true)
def impl_CostOf_c1 (fu : Nat) (price : Int) : Option (Bool) :=
  (impl_within fu price 0 100000).bind fun y =>
  some (!y)
def slices_IndexFunc_int_int_of_CostOf_c1_L1 (fu : Nat) (s' : List Int) : Nat → Int → Option (Out (Int) (Int))
  | 0, _ => none
  | fk + 1, i =>
    if decide (i < (s'.length : Int)) then
      (idx s' i).bind fun e =>
      (impl_CostOf_c1 fu e).bind fun y =>
      if y then
        some (.ret i)
      else
        slices_IndexFunc_int_int_of_CostOf_c1_L1 fu s' fk (w64 (i + 1))
    else
      some (.next i)
def slices_IndexFunc_int_int_of_CostOf_c1 (fu : Nat) (s' : List Int) : Option (Int) :=
  (slices_IndexFunc_int_int_of_CostOf_c1_L1 fu s' fu 0).bind fun out => out.on some fun z =>
  some (-1)
def slices_ContainsFunc_int_int_of_CostOf_c1 (fu : Nat) (s' : List Int) : Option (Bool) :=
  (slices_IndexFunc_int_int_of_CostOf_c1 fu s').bind fun y =>
  some (decide (y ≥ 0))
def impl_CostOf_L1 (fu : Nat) (bill : List Item) (prices : List Int) : Nat → Int → Int → Option (Int × Int)
  | 0, _, _ => none
  | fk + 1, sum, i =>
    if decide (i < (bill.length : Int)) then
      (idx bill i).bind fun e =>
      (idx prices (w64 (e.Kind - 1))).bind fun e2 =>
      impl_CostOf_L1 fu bill prices fk (w64 (sum + (w64 (e.Count * e2)))) (w64 (i + 1))
    else
      some (sum, i)
def impl_CostOf (fu : Nat) (bill : List Item) (prices : List Int) : Option (Int × Bool) :=
  ((impl_isBill fu bill).bind fun y =>
  if !y then some true
  else if (prices.length : Int) != 4 then some true
  else (slices_ContainsFunc_int_int_of_CostOf_c1 fu prices).bind fun y2 =>
  some y2).bind fun c3 =>
  if c3 then
    some (0, false)
  else
    (impl_CostOf_L1 fu bill prices fu 0 0).bind fun z =>
    some (z.1, true)
def spec_l1Least (fu : Nat) (a' : Int) (b' : Int) : Option (Int) :=
  if decide (a' < b') then
    some a'
  else
    some b'
def spec_l1Most (fu : Nat) (a' : Int) (b' : Int) : Option (Int) :=
  if decide (a' > b') then
    some a'
  else
    some b'
def spec_l2Before (fu : Nat) (f : Fiber) (g' : Fiber) : Option (Int) :=
  if f.A != g'.A then
    some (w64 (f.A - g'.A))
  else
    if f.B != g'.B then
      some (w64 (f.B - g'.B))
    else
      if f.Length != g'.Length then
        some (w64 (f.Length - g'.Length))
      else
        some (w64 (f.Risk - g'.Risk))
def spec_l2Put_L1 (fu : Nat) (list : List Fiber) (f : Fiber) : Nat → Int → Option (Int)
  | 0, _ => none
  | fk + 1, i =>
    (if decide (i < (list.length : Int)) then (idx list i).bind fun e =>
    (spec_l2Before fu e f).bind fun y =>
    some (decide (y ≤ 0))
    else some false).bind fun c2 =>
    if c2 then
      spec_l2Put_L1 fu list f fk (w64 (i + 1))
    else
      some i
def spec_l2Put (fu : Nat) (list : List Fiber) (f : Fiber) : Option (List Fiber) :=
  (spec_l2Put_L1 fu list f fu 0).bind fun z =>
  (sub list 0 z).bind fun l =>
  (sub list z (list.length : Int)).bind fun l2 =>
  (app ([] : List Fiber) l).bind fun l3 =>
  (app l3 [f]).bind fun l4 =>
  (app l4 l2).bind fun l5 =>
  some l5
def spec_l1Cur_network_L1 (fu : Nat) (y : Int × L1CurP) : Nat → Int → List By → Int → U64 → List Fiber → Option (Int × List By × Int × U64 × List Fiber)
  | 0, _, _, _, _, _ => none
  | fk + 1, i, m, m2, m3, m4 =>
    if decide (i < (w64 (2 + y.1))) then
      (rem (w64 (i + 1)) (w64 (2 + y.1))).bind fun q =>
      if i == q then spec_l1Cur_network_L1 fu y fk (w64 (i + 1)) m m2 m3 m4
      else (spec_l1Cur_one fu ({ code := m, at_ := m2, seed := m3 } : L1CurP) 10).bind fun y2 =>
      if y2.1 then
        spec_l1Cur_network_L1 fu y fk (w64 (i + 1)) y2.2.code y2.2.at_ y2.2.seed m4
      else
        (spec_l1Least fu i q).bind fun y3 =>
        (spec_l1Most fu i q).bind fun y4 =>
        (spec_l1Cur_pick fu y2.2 8).bind fun y5 =>
        (spec_l1Cur_among fu y5.2 [0, 0, 0, 1, 2]).bind fun y6 =>
        (spec_l2Put fu m4 ({ A := y3, B := y4, Length := w64 (100 * (w64 (1 + y5.1))), Risk := y6.1 } : Fiber)).bind fun y7 =>
        spec_l1Cur_network_L1 fu y fk (w64 (i + 1)) y6.2.code y6.2.at_ y6.2.seed y7
    else
      some (i, m, m2, m3, m4)
def spec_l1Cur_network_L2 (fu : Nat) (y : Int × L1CurP) : Nat → Int → List Fiber → List By → Int → U64 → Option (Int × List Fiber × List By × Int × U64)
  | 0, _, _, _, _, _ => none
  | fk + 1, m9, m10, m11, m12, m13 =>
    if decide (m9 > 0) then
      (spec_l1Cur_pick fu ({ code := m11, at_ := m12, seed := m13 } : L1CurP) (w64 (2 + y.1))).bind fun y9 =>
      (spec_l1Cur_pick fu y9.2 (w64 (2 + y.1))).bind fun y10 =>
      if y9.1 != y10.1 then
        (spec_l1Least fu y9.1 y10.1).bind fun y11 =>
        (spec_l1Most fu y9.1 y10.1).bind fun y12 =>
        (spec_l1Cur_pick fu y10.2 8).bind fun y13 =>
        (spec_l1Cur_among fu y13.2 [0, 0, 0, 1, 2]).bind fun y14 =>
        (spec_l2Put fu m10 ({ A := y11, B := y12, Length := w64 (100 * (w64 (1 + y13.1))), Risk := y14.1 } : Fiber)).bind fun y15 =>
        spec_l1Cur_network_L2 fu y fk (w64 (m9 - 1)) y15 y14.2.code y14.2.at_ y14.2.seed
      else
        spec_l1Cur_network_L2 fu y fk (w64 (m9 - 1)) m10 y10.2.code y10.2.at_ y10.2.seed
    else
      some (m9, m10, m11, m12, m13)
def spec_l1Cur_network (fu : Nat) (c : L1CurP) : Option (Network × L1CurP) :=
  (spec_l1Cur_pick fu c 5).bind fun y =>
  (sub [(⟨#[97]⟩ : ByteArray), (⟨#[98]⟩ : ByteArray), (⟨#[99]⟩ : ByteArray), (⟨#[100]⟩ : ByteArray), (⟨#[101]⟩ : ByteArray), (⟨#[102]⟩ : ByteArray)] 0 (w64 (2 + y.1))).bind fun l =>
  (spec_l1Cur_network_L1 fu y fu 0 y.2.code y.2.at_ y.2.seed []).bind fun z2 =>
  (spec_l1Cur_pick fu ({ code := z2.2.1, at_ := z2.2.2.1, seed := z2.2.2.2.1 } : L1CurP) 4).bind fun y8 =>
  (spec_l1Cur_network_L2 fu y fu y8.1 z2.2.2.2.2 y8.2.code y8.2.at_ y8.2.seed).bind fun z =>
  some (({ Nodes := l, Fibers := z.2.1 } : Network), ({ code := z.2.2.1, at_ := z.2.2.2.1, seed := z.2.2.2.2 } : L1CurP))
def spec_l1Cur_linked (fu : Nat) (c : L1CurP) : Option (Network × L1CurP) :=
  (spec_l1Cur_network fu c).bind fun y =>
  if (y.1.Fibers.length : Int) == 0 then
    (app y.1.Fibers [({ A := 0, B := 1, Length := 100, Risk := 0 } : Fiber)]).bind fun l =>
    some (({ Nodes := y.1.Nodes, Fibers := l } : Network), y.2)
  else
    some (y.1, y.2)
def spec_l2Other (fu : Nat) (n' : Network) (fiber : Int) (node : Int) : Option (Int) :=
  (idx n'.Fibers fiber).bind fun e =>
  if node == e.A then
    some e.B
  else
    if node == e.B then
      some e.A
    else
      some (-1)
def spec_l1Has_L1 (fu : Nat) (l : List Int) (n' : Int) : Nat → Int → Option (Out (Int) (Bool))
  | 0, _ => none
  | fk + 1, i =>
    if decide (i < (l.length : Int)) then
      (idx l i).bind fun e =>
      if e == n' then
        some (.ret true)
      else
        spec_l1Has_L1 fu l n' fk (w64 (i + 1))
    else
      some (.next i)
def spec_l1Has (fu : Nat) (l : List Int) (n' : Int) : Option (Bool) :=
  (spec_l1Has_L1 fu l n' fu 0).bind fun out => out.on some fun z =>
  some false
def spec_l1Cur_route_L2 (fu : Nat) (n' : Network) (y : Int × L1CurP) (seen : List Int) : Nat → List Int → Int → Option (List Int × Int)
  | 0, _, _ => none
  | fk + 1, list, i =>
    if decide (i < (n'.Fibers.length : Int)) then
      (idx seen (w64 ((seen.length : Int) - 1))).bind fun e =>
      (spec_l2Other fu n' i e).bind fun y3 =>
      (if decide (y3 ≥ 0) then (spec_l1Has fu seen y3).bind fun y4 =>
      some (!y4)
      else some false).bind fun c10 =>
      if c10 then
        (app list [i]).bind fun l =>
        spec_l1Cur_route_L2 fu n' y seen fk l (w64 (i + 1))
      else
        spec_l1Cur_route_L2 fu n' y seen fk list (w64 (i + 1))
    else
      some (list, i)
def spec_l1Cur_route_L1 (fu : Nat) (n' : Network) (y : Int × L1CurP) : Nat → List Int → Int → List Int → List By → Int → U64 → Option (List Int × Int × List Int × List By × Int × U64)
  | 0, _, _, _, _, _, _ => none
  | fk + 1, seen, m, m2, m3, m4, m5 =>
    if decide (m > 0) then
      (spec_l1Cur_route_L2 fu n' y seen fu ([] : List Int) 0).bind fun z =>
      if (z.1.length : Int) == 0 then
        some (seen, m, m2, m3, m4, m5)
      else
        (spec_l1Cur_pick fu ({ code := m3, at_ := m4, seed := m5 } : L1CurP) (z.1.length : Int)).bind fun y5 =>
        (idx z.1 y5.1).bind fun e2 =>
        (app m2 [e2]).bind fun l2 =>
        (idx seen (w64 ((seen.length : Int) - 1))).bind fun e3 =>
        (spec_l2Other fu n' e2 e3).bind fun y6 =>
        (app seen [y6]).bind fun l3 =>
        spec_l1Cur_route_L1 fu n' y fk l3 (w64 (m - 1)) l2 y5.2.code y5.2.at_ y5.2.seed
    else
      some (seen, m, m2, m3, m4, m5)
def spec_l1Cur_route (fu : Nat) (c : L1CurP) (n' : Network) : Option (Route × L1CurP) :=
  (spec_l1Cur_pick fu c (n'.Nodes.length : Int)).bind fun y =>
  (spec_l1Cur_pick fu y.2 4).bind fun y2 =>
  (spec_l1Cur_route_L1 fu n' y fu [y.1] (w64 (1 + y2.1)) ([] : List Int) y2.2.code y2.2.at_ y2.2.seed).bind fun z2 =>
  some (({ Start := y.1, Fibers := z2.2.2.1 } : Route), ({ code := z2.2.2.2.1, at_ := z2.2.2.2.2.1, seed := z2.2.2.2.2.2 } : L1CurP))
def spec_l1Cur_routed (fu : Nat) (c : L1CurP) (n' : Network) : Option (Route × L1CurP) :=
  (spec_l1Cur_route fu c n').bind fun y =>
  if (y.1.Fibers.length : Int) == 0 then
    (idx n'.Fibers 0).bind fun e =>
    some (({ Start := e.A, Fibers := [0] } : Route), y.2)
  else
    some (y.1, y.2)
def spec_l8Bits (fu : Nat) (b' : Block) : Option (Int) :=
  (shl 1 (wu64 b'.Count)).bind fun q =>
  (shl (w64 (q - 1)) (wu64 b'.First)).bind fun q2 =>
  some q2
def spec_l9Used_L1 (fu : Nat) (p : Plan) (fiber : Int) : Nat → Int → Int → Option (Int × Int)
  | 0, _, _ => none
  | fk + 1, out', i =>
    if decide (i < (p.Lights.length : Int)) then
      (idx p.Lights i).bind fun e =>
      (spec_l1Has fu e.Route.Fibers fiber).bind fun y =>
      if y then
        (idx p.Lights i).bind fun e2 =>
        (spec_l8Bits fu e2.Block).bind fun y2 =>
        spec_l9Used_L1 fu p fiber fk (bor out' y2) (w64 (i + 1))
      else
        spec_l9Used_L1 fu p fiber fk out' (w64 (i + 1))
    else
      some (out', i)
def spec_l9Used (fu : Nat) (p : Plan) (fiber : Int) : Option (Int) :=
  (spec_l9Used_L1 fu p fiber fu 0 0).bind fun z =>
  some z.1
def spec_l9Along_L1 (fu : Nat) (p : Plan) (r' : Route) : Nat → Int → Int → Option (Int × Int)
  | 0, _, _ => none
  | fk + 1, out', i =>
    if decide (i < (r'.Fibers.length : Int)) then
      (idx r'.Fibers i).bind fun e =>
      (spec_l9Used fu p e).bind fun y =>
      spec_l9Along_L1 fu p r' fk (bor out' y) (w64 (i + 1))
    else
      some (out', i)
def spec_l9Along (fu : Nat) (p : Plan) (r' : Route) : Option (Int) :=
  (spec_l9Along_L1 fu p r' fu 0 0).bind fun z =>
  some z.1
def spec_l8Fits_L1 (fu : Nat) (mask : Int) (count : Int) : Nat → List Int → Int → Option (List Int × Int)
  | 0, _, _ => none
  | fk + 1, out', s' =>
    if decide ((w64 (s' + count)) ≤ 24) then
      (spec_l8Bits fu ({ First := s', Count := count } : Block)).bind fun y =>
      if (band mask y) == 0 then
        (app out' [s']).bind fun l =>
        spec_l8Fits_L1 fu mask count fk l (w64 (s' + 1))
      else
        spec_l8Fits_L1 fu mask count fk out' (w64 (s' + 1))
    else
      some (out', s')
def spec_l8Fits (fu : Nat) (mask : Int) (count : Int) : Option (List Int) :=
  (spec_l8Fits_L1 fu mask count fu ([] : List Int) 0).bind fun z =>
  some z.1
def spec_l2Own (fu : Nat) (n' : Network) : Option (Network) :=
  (app ([] : List ByteArray) n'.Nodes).bind fun l =>
  (app ([] : List Fiber) n'.Fibers).bind fun l2 =>
  some ({ Nodes := l, Fibers := l2 } : Network)
def spec_l1Own (fu : Nat) (l : List Int) : Option (List Int) :=
  (app ([] : List Int) l).bind fun l2 =>
  some l2
def spec_l4Own (fu : Nat) (r' : Route) : Option (Route) :=
  (spec_l1Own fu r'.Fibers).bind fun y =>
  some ({ Start := r'.Start, Fibers := y } : Route)
def spec_l9Copy (fu : Nat) (x1 : Light) : Option (Light) :=
  (spec_l4Own fu x1.Route).bind fun y =>
  some ({ Id := x1.Id, Route := y, Block := x1.Block } : Light)
def spec_l9Own_L1 (fu : Nat) (p : Plan) : Nat → Int → List Light → Option (Int × List Light)
  | 0, _, _ => none
  | fk + 1, i, m =>
    if decide (i < (p.Lights.length : Int)) then
      (idx p.Lights i).bind fun e =>
      (spec_l9Copy fu e).bind fun y2 =>
      (app m [y2]).bind fun l =>
      spec_l9Own_L1 fu p fk (w64 (i + 1)) l
    else
      some (i, m)
def spec_l9Own (fu : Nat) (p : Plan) : Option (Plan) :=
  (spec_l2Own fu p.Network).bind fun y =>
  (spec_l9Own_L1 fu p fu 0 ([] : List Light)).bind fun z =>
  some ({ Network := y, Lights := z.2 } : Plan)
def spec_l9Put_L1 (fu : Nat) (x1 : Light) (y : Plan) : Nat → Int → Option (Int)
  | 0, _ => none
  | fk + 1, i =>
    (if decide (i < (y.Lights.length : Int)) then (idx y.Lights i).bind fun e =>
    some (decide (e.Id < x1.Id))
    else some false).bind fun c8 =>
    if c8 then
      spec_l9Put_L1 fu x1 y fk (w64 (i + 1))
    else
      some i
def spec_l9Put (fu : Nat) (p : Plan) (x1 : Light) : Option (Plan) :=
  (spec_l9Own fu p).bind fun y =>
  (spec_l9Put_L1 fu x1 y fu 0).bind fun z =>
  (sub y.Lights 0 z).bind fun l =>
  (sub y.Lights z (y.Lights.length : Int)).bind fun l2 =>
  (app ([] : List Light) l).bind fun l3 =>
  (spec_l9Copy fu x1).bind fun y2 =>
  (app l3 [y2]).bind fun l4 =>
  (app l4 l2).bind fun l5 =>
  some ({ Network := y.Network, Lights := l5 } : Plan)
def spec_l1Cur_plan_L1 (fu : Nat) : Nat → Int → List ByteArray → List Fiber → List Light → List By → Int → U64 → Option (Int × List ByteArray × List Fiber × List Light × List By × Int × U64)
  | 0, _, _, _, _, _, _, _ => none
  | fk + 1, n', m, m2, m3, m4, m5, m6 =>
    if decide (n' > 0) then
      (spec_l1Cur_routed fu ({ code := m4, at_ := m5, seed := m6 } : L1CurP) ({ Nodes := m, Fibers := m2 } : Network)).bind fun y3 =>
      (spec_l1Cur_pick fu y3.2 5).bind fun y4 =>
      (spec_l9Along fu ({ Network := ({ Nodes := m, Fibers := m2 } : Network), Lights := m3 } : Plan) y3.1).bind fun y5 =>
      (spec_l8Fits fu y5 (w64 (1 + y4.1))).bind fun y6 =>
      if decide ((y6.length : Int) > 0) then
        (idx y6 0).bind fun e =>
        (spec_l1Cur_one fu y4.2 2).bind fun y7 =>
        if y7.1 then
          (spec_l1Cur_pick fu y7.2 (y6.length : Int)).bind fun y8 =>
          (idx y6 y8.1).bind fun e2 =>
          (spec_l1Cur_pick fu y8.2 3).bind fun y9 =>
          (spec_l9Put fu ({ Network := ({ Nodes := m, Fibers := m2 } : Network), Lights := m3 } : Plan) ({ Id := w64 ((w64 ((w64 ((m3.length : Int) * 3)) + 1)) + y9.1), Route := y3.1, Block := ({ First := e2, Count := w64 (1 + y4.1) } : Block) } : Light)).bind fun y10 =>
          spec_l1Cur_plan_L1 fu fk (w64 (n' - 1)) y10.Network.Nodes y10.Network.Fibers y10.Lights y9.2.code y9.2.at_ y9.2.seed
        else
          (spec_l1Cur_pick fu y7.2 3).bind fun y11 =>
          (spec_l9Put fu ({ Network := ({ Nodes := m, Fibers := m2 } : Network), Lights := m3 } : Plan) ({ Id := w64 ((w64 ((w64 ((m3.length : Int) * 3)) + 1)) + y11.1), Route := y3.1, Block := ({ First := e, Count := w64 (1 + y4.1) } : Block) } : Light)).bind fun y12 =>
          spec_l1Cur_plan_L1 fu fk (w64 (n' - 1)) y12.Network.Nodes y12.Network.Fibers y12.Lights y11.2.code y11.2.at_ y11.2.seed
      else
        spec_l1Cur_plan_L1 fu fk (w64 (n' - 1)) m m2 m3 y4.2.code y4.2.at_ y4.2.seed
    else
      some (n', m, m2, m3, m4, m5, m6)
def spec_l1Cur_plan (fu : Nat) (c : L1CurP) : Option (Plan × L1CurP) :=
  (spec_l1Cur_linked fu c).bind fun y =>
  (spec_l1Cur_pick fu y.2 9).bind fun y2 =>
  (spec_l1Cur_plan_L1 fu fu y2.1 y.1.Nodes y.1.Fibers ([] : List Light) y2.2.code y2.2.at_ y2.2.seed).bind fun z =>
  some (({ Network := ({ Nodes := z.2.1, Fibers := z.2.2.1 } : Network), Lights := z.2.2.2.1 } : Plan), ({ code := z.2.2.2.2.1, at_ := z.2.2.2.2.2.1, seed := z.2.2.2.2.2.2 } : L1CurP))
def spec_l1Cur_block (fu : Nat) (c : L1CurP) : Option (Block × L1CurP) :=
  (spec_l1Cur_one fu c 12).bind fun y =>
  if y.1 then
    (spec_l1Cur_pick fu y.2 26).bind fun y2 =>
    (spec_l1Cur_pick fu y2.2 27).bind fun y3 =>
    some (({ First := w64 (y2.1 - 1), Count := w64 (y3.1 - 1) } : Block), y3.2)
  else
    (spec_l1Cur_pick fu y.2 6).bind fun y4 =>
    (spec_l1Cur_pick fu y4.2 (w64 ((w64 (24 - (w64 (1 + y4.1)))) + 1))).bind fun y5 =>
    some (({ First := y5.1, Count := w64 (1 + y4.1) } : Block), y5.2)
def spec_l1Cur_anyRoute (fu : Nat) (c : L1CurP) (n' : Network) : Option (Route × L1CurP) :=
  (spec_l1Cur_route fu c n').bind fun y =>
  (spec_l1Cur_pick fu y.2 16).bind fun y2 =>
  if y2.1 == 0 then
    (spec_l1Cur_pick fu y2.2 8).bind fun y3 =>
    some (({ Start := w64 (y3.1 - 1), Fibers := y.1.Fibers } : Route), y3.2)
  else
    if y2.1 == 1 then
      (spec_l1Cur_pick fu y2.2 8).bind fun y4 =>
      (app y.1.Fibers [w64 (y4.1 - 1)]).bind fun l =>
      some (({ Start := y.1.Start, Fibers := l } : Route), y4.2)
    else
      if y2.1 == 2 then
        some (({ Start := y.1.Start, Fibers := ([] : List Int) } : Route), y2.2)
      else
        if y2.1 == 3 then
          if decide ((y.1.Fibers.length : Int) > 1) then
            (idx y.1.Fibers (w64 ((y.1.Fibers.length : Int) - 1))).bind fun e =>
            (app y.1.Fibers [e]).bind fun l2 =>
            some (({ Start := y.1.Start, Fibers := l2 } : Route), y2.2)
          else
            some (y.1, y2.2)
        else
          some (y.1, y2.2)
def spec_l1Cur_of (fu : Nat) (c : L1CurP) (list : List ByteArray) : Option (ByteArray × L1CurP) :=
  (spec_l1Cur_pick fu c (list.length : Int)).bind fun y =>
  (idx list y.1).bind fun e =>
  some (e, y.2)
def spec_l1Cur_anyNetwork_L1 (fu : Nat) : Nat → List Fiber → List By → Int → U64 → Option (List Fiber × List By × Int × U64)
  | 0, _, _, _, _ => none
  | fk + 1, m, m2, m3, m4 =>
    (spec_l1Cur_pick fu ({ code := m2, at_ := m3, seed := m4 } : L1CurP) 2).bind fun y9 =>
    if decide ((m.length : Int) < (w64 (14 + y9.1))) then
      (idx m (w64 ((m.length : Int) - 1))).bind fun e10 =>
      (app m [e10]).bind fun l2 =>
      spec_l1Cur_anyNetwork_L1 fu fk l2 y9.2.code y9.2.at_ y9.2.seed
    else
      some (m, y9.2.code, y9.2.at_, y9.2.seed)
def spec_l1Cur_anyNetwork (fu : Nat) (c : L1CurP) : Option (Network × L1CurP) :=
  (spec_l1Cur_network fu c).bind fun y =>
  if (y.1.Fibers.length : Int) == 0 then
    some (y.1, y.2)
  else
    (spec_l1Cur_pick fu y.2 (y.1.Fibers.length : Int)).bind fun y2 =>
    (idx y.1.Fibers y2.1).bind fun e =>
    (spec_l1Cur_pick fu y2.2 24).bind fun y3 =>
    if y3.1 == 0 then
      (spec_l1Cur_of fu y3.2 [(⟨#[98]⟩ : ByteArray), ByteArray.empty, (⟨#[65]⟩ : ByteArray), (⟨#[97, 98, 99, 100, 101, 102, 103, 104]⟩ : ByteArray), (⟨#[97, 98, 99, 100, 101, 102, 103, 104, 105]⟩ : ByteArray), (⟨#[120, 49]⟩ : ByteArray)]).bind fun y4 =>
      (idx y.1.Nodes 0).bind fun e2 =>
      (idx y.1.Fibers y2.1).bind fun e3 =>
      some (({ Nodes := y.1.Nodes.set (0 : Int).toNat y4.1, Fibers := y.1.Fibers.set (y2.1 : Int).toNat e } : Network), y4.2)
    else
      if y3.1 == 1 then
        (spec_l1Cur_pick fu y3.2 8).bind fun y5 =>
        (idx y.1.Fibers y2.1).bind fun e4 =>
        some (({ Nodes := y.1.Nodes, Fibers := y.1.Fibers.set (y2.1 : Int).toNat ({ A := w64 (y5.1 - 1), B := e.B, Length := e.Length, Risk := e.Risk } : Fiber) } : Network), y5.2)
      else
        if y3.1 == 2 then
          (spec_l1Cur_pick fu y3.2 10).bind fun y6 =>
          (idx y.1.Fibers y2.1).bind fun e5 =>
          some (({ Nodes := y.1.Nodes, Fibers := y.1.Fibers.set (y2.1 : Int).toNat ({ A := e.A, B := w64 (y6.1 - 1), Length := e.Length, Risk := e.Risk } : Fiber) } : Network), y6.2)
        else
          if y3.1 == 3 then
            (spec_l1Cur_among fu y3.2 [0, 1, 5000, 5001]).bind fun y7 =>
            (idx y.1.Fibers y2.1).bind fun e6 =>
            some (({ Nodes := y.1.Nodes, Fibers := y.1.Fibers.set (y2.1 : Int).toNat ({ A := e.A, B := e.B, Length := y7.1, Risk := e.Risk } : Fiber) } : Network), y7.2)
          else
            if y3.1 == 4 then
              (spec_l1Cur_among fu y3.2 [(-1), 9, 10]).bind fun y8 =>
              (idx y.1.Fibers y2.1).bind fun e7 =>
              some (({ Nodes := y.1.Nodes, Fibers := y.1.Fibers.set (y2.1 : Int).toNat ({ A := e.A, B := e.B, Length := e.Length, Risk := y8.1 } : Fiber) } : Network), y8.2)
            else
              if y3.1 == 5 then
                (idx y.1.Fibers 0).bind fun e8 =>
                (app y.1.Fibers [e8]).bind fun l =>
                (idx l y2.1).bind fun e9 =>
                some (({ Nodes := y.1.Nodes, Fibers := l.set (y2.1 : Int).toNat e } : Network), y3.2)
              else
                if y3.1 == 6 then
                  (spec_l1Cur_anyNetwork_L1 fu fu y.1.Fibers y3.2.code y3.2.at_ y3.2.seed).bind fun z =>
                  some (({ Nodes := y.1.Nodes, Fibers := z.1 } : Network), ({ code := z.2.1, at_ := z.2.2.1, seed := z.2.2.2 } : L1CurP))
                else
                  if y3.1 == 7 then
                    (app y.1.Nodes [(⟨#[112]⟩ : ByteArray), (⟨#[113]⟩ : ByteArray), (⟨#[114]⟩ : ByteArray), (⟨#[115]⟩ : ByteArray)]).bind fun l3 =>
                    (idx y.1.Fibers y2.1).bind fun e11 =>
                    some (({ Nodes := l3, Fibers := y.1.Fibers.set (y2.1 : Int).toNat e } : Network), y3.2)
                  else
                    (idx y.1.Fibers y2.1).bind fun e12 =>
                    some (({ Nodes := y.1.Nodes, Fibers := y.1.Fibers.set (y2.1 : Int).toNat e } : Network), y3.2)
def spec_l1Cur_anyPlan_L1 (fu : Nat) (y : Plan × L1CurP) : Nat → Int → List Light → List By → Int → U64 → Option (Int × List Light × List By × Int × U64)
  | 0, _, _, _, _, _ => none
  | fk + 1, n', m, m2, m3, m4 =>
    (spec_l1Cur_pick fu ({ code := m2, at_ := m3, seed := m4 } : L1CurP) 2).bind fun y8 =>
    if decide ((m.length : Int) < (w64 (12 + y8.1))) then if decide (n' < 14) then
      (idx y.1.Network.Fibers 0).bind fun e7 =>
      (app m [({ Id := w64 (500 + n'), Route := ({ Start := e7.A, Fibers := [0] } : Route), Block := ({ First := w64 (23 - n'), Count := 1 } : Block) } : Light)]).bind fun l2 =>
      spec_l1Cur_anyPlan_L1 fu y fk (w64 (n' + 1)) l2 y8.2.code y8.2.at_ y8.2.seed
    else
      some (n', m, y8.2.code, y8.2.at_, y8.2.seed)
    else some (n', m, y8.2.code, y8.2.at_, y8.2.seed)
def spec_l1Cur_anyPlan (fu : Nat) (c : L1CurP) : Option (Plan × L1CurP) :=
  (spec_l1Cur_plan fu c).bind fun y =>
  if (y.1.Lights.length : Int) == 0 then
    some (y.1, y.2)
  else
    (spec_l1Cur_pick fu y.2 (y.1.Lights.length : Int)).bind fun y2 =>
    (idx y.1.Lights y2.1).bind fun e =>
    (spec_l1Cur_pick fu y2.2 24).bind fun y3 =>
    if y3.1 == 0 then
      (spec_l1Cur_among fu y3.2 [0, 999, 1000, 1, 4]).bind fun y4 =>
      (idx y.1.Lights y2.1).bind fun e2 =>
      some (({ Network := y.1.Network, Lights := y.1.Lights.set (y2.1 : Int).toNat ({ Id := y4.1, Route := e.Route, Block := e.Block } : Light) } : Plan), y4.2)
    else
      if y3.1 == 1 then
        (spec_l1Cur_block fu y3.2).bind fun y5 =>
        (idx y.1.Lights y2.1).bind fun e3 =>
        some (({ Network := y.1.Network, Lights := y.1.Lights.set (y2.1 : Int).toNat ({ Id := e.Id, Route := e.Route, Block := y5.1 } : Light) } : Plan), y5.2)
      else
        if y3.1 == 2 then
          (spec_l1Cur_anyRoute fu y3.2 y.1.Network).bind fun y6 =>
          (idx y.1.Lights y2.1).bind fun e4 =>
          some (({ Network := y.1.Network, Lights := y.1.Lights.set (y2.1 : Int).toNat ({ Id := e.Id, Route := y6.1, Block := e.Block } : Light) } : Plan), y6.2)
        else
          if y3.1 == 3 then
            (app y.1.Lights [e]).bind fun l =>
            (idx l y2.1).bind fun e5 =>
            some (({ Network := y.1.Network, Lights := l.set (y2.1 : Int).toNat e } : Plan), y3.2)
          else
            if y3.1 == 4 then
              (spec_l1Cur_anyNetwork fu y3.2).bind fun y7 =>
              (idx y.1.Lights y2.1).bind fun e6 =>
              some (({ Network := y7.1, Lights := y.1.Lights.set (y2.1 : Int).toNat e } : Plan), y7.2)
            else
              if y3.1 == 5 then
                (spec_l1Cur_anyPlan_L1 fu y fu 0 y.1.Lights y3.2.code y3.2.at_ y3.2.seed).bind fun z =>
                some (({ Network := y.1.Network, Lights := z.2.1 } : Plan), ({ code := z.2.2.1, at_ := z.2.2.2.1, seed := z.2.2.2.2 } : L1CurP))
              else
                (idx y.1.Lights y2.1).bind fun e8 =>
                some (({ Network := y.1.Network, Lights := y.1.Lights.set (y2.1 : Int).toNat e } : Plan), y3.2)
def spec_l1Cur_reach19 (fu : Nat) (c : L1CurP) : Option (Int × L1CurP) :=
  (spec_l1Cur_pick fu c 40).bind fun y =>
  (quo y.1 20).bind fun q =>
  (sub [500, 700, 800, 1000, 1500, 400, 200, 20000, 0, 20001] 0 (w64 (8 + q))).bind fun l =>
  (spec_l1Cur_among fu y.2 l).bind fun y2 =>
  some (y2.1, y2.2)
def spec_DrawBillOf (fu : Nat) (code : List By) : Option (Plan × Int × Int) :=
  (spec_l1Cur_anyPlan fu ({ code := code, at_ := 0, seed := (⟨0⟩ : U64) } : L1CurP)).bind fun y =>
  (spec_l1Cur_reach19 fu y.2).bind fun y2 =>
  (spec_l1Cur_pick fu y2.2 40).bind fun y3 =>
  (quo y3.1 20).bind fun q =>
  (sub [80, 100, 150, 50, 1000, 49, 1001] 0 (w64 (5 + q))).bind fun l =>
  (spec_l1Cur_among fu y3.2 l).bind fun y4 =>
  some (y.1, y2.1, y4.1)
def impl_isName_L1 (fu : Nat) (s' : ByteArray) : Nat → Int → Option (Out (Int) (Bool))
  | 0, _ => none
  | fk + 1, i =>
    if decide (i < (s'.size : Int)) then
      (sidx s' i).bind fun e =>
      (sidx s' i).bind fun e2 =>
      if decide (e.n ≥ 97) then (sidx s' i).bind fun e3 =>
      if decide (e2.n ≥ 48) then (sidx s' i).bind fun e4 =>
      (if !(decide (e3.n ≤ 122)) then if !(decide (e4.n ≤ 57)) then some true
      else some (i == 0)
      else some false).bind fun c =>
      if c then
        some (.ret false)
      else
        impl_isName_L1 fu s' fk (w64 (i + 1))
      else (if !(decide (e3.n ≤ 122)) then if !false then some true
      else some (i == 0)
      else some false).bind fun c2 =>
      if c2 then
        some (.ret false)
      else
        impl_isName_L1 fu s' fk (w64 (i + 1))
      else if decide (e2.n ≥ 48) then (sidx s' i).bind fun e5 =>
      (if !false then if !(decide (e5.n ≤ 57)) then some true
      else some (i == 0)
      else some false).bind fun c3 =>
      if c3 then
        some (.ret false)
      else
        impl_isName_L1 fu s' fk (w64 (i + 1))
      else (if !false then if !false then some true
      else some (i == 0)
      else some false).bind fun c4 =>
      if c4 then
        some (.ret false)
      else
        impl_isName_L1 fu s' fk (w64 (i + 1))
    else
      some (.next i)
def impl_isName (fu : Nat) (s' : ByteArray) : Option (Bool) :=
  (impl_isName_L1 fu s' fu 0).bind fun out => out.on some fun z =>
  (impl_within fu (s'.size : Int) 1 8).bind fun y =>
  some y
def slices_Index_string_string_L1 (fu : Nat) (s' : List ByteArray) (v : ByteArray) : Nat → Int → Option (Out (Int) (Int))
  | 0, _ => none
  | fk + 1, i =>
    if decide (i < (s'.length : Int)) then
      (idx s' i).bind fun e =>
      if v.toList == e.toList then
        some (.ret i)
      else
        slices_Index_string_string_L1 fu s' v fk (w64 (i + 1))
    else
      some (.next i)
def slices_Index_string_string (fu : Nat) (s' : List ByteArray) (v : ByteArray) : Option (Int) :=
  (slices_Index_string_string_L1 fu s' v fu 0).bind fun out => out.on some fun z =>
  some (-1)
def slices_Contains_string_string (fu : Nat) (s' : List ByteArray) (v : ByteArray) : Option (Bool) :=
  (slices_Index_string_string fu s' v).bind fun y =>
  some (decide (y ≥ 0))
def cmp_isNaN_int (fu : Nat) (x1 : Int) : Option (Bool) :=
  some (x1 != x1)
def cmp_Compare_int (fu : Nat) (x1 : Int) (y : Int) : Option (Int) :=
  (cmp_isNaN_int fu x1).bind fun y2 =>
  (cmp_isNaN_int fu y).bind fun y3 =>
  if y2 then
    if y3 then
      some 0
    else
      some (-1)
  else
    if y3 then
      some 1
    else
      if decide (x1 < y) then
        some (-1)
      else
        if decide (x1 > y) then
          some 1
        else
          some 0
def cmp_Or_int_L1 (fu : Nat) (vals : List Int) : Nat → Int → Option (Out (Int) (Int))
  | 0, _ => none
  | fk + 1, i =>
    if decide (i < (vals.length : Int)) then
      (idx vals i).bind fun e =>
      if e != 0 then
        some (.ret e)
      else
        cmp_Or_int_L1 fu vals fk (w64 (i + 1))
    else
      some (.next i)
def cmp_Or_int (fu : Nat) (vals : List Int) : Option (Int) :=
  (cmp_Or_int_L1 fu vals fu 0).bind fun out => out.on some fun z =>
  some 0
def impl_compareFibers (fu : Nat) (a' : Fiber) (b' : Fiber) : Option (Int) :=
  (cmp_Compare_int fu a'.A b'.A).bind fun y =>
  (cmp_Compare_int fu a'.B b'.B).bind fun y2 =>
  (cmp_Compare_int fu a'.Length b'.Length).bind fun y3 =>
  (cmp_Compare_int fu a'.Risk b'.Risk).bind fun y4 =>
  (cmp_Or_int fu [y, y2, y3, y4]).bind fun y5 =>
  some y5
def impl_IsValidNetwork_L1 (fu : Nat) (n' : Network) : Nat → Int → Option (Out (Int) (Bool))
  | 0, _ => none
  | fk + 1, i =>
    if decide (i < (n'.Nodes.length : Int)) then
      (idx n'.Nodes i).bind fun e =>
      ((impl_isName fu e).bind fun y =>
      if !y then some true
      else (sub n'.Nodes 0 i).bind fun l =>
      (slices_Contains_string_string fu l e).bind fun y2 =>
      some y2).bind fun c3 =>
      if c3 then
        some (.ret false)
      else
        impl_IsValidNetwork_L1 fu n' fk (w64 (i + 1))
    else
      some (.next i)
def impl_IsValidNetwork_L2 (fu : Nat) (n' : Network) : Nat → Int → Option (Out (Int) (Bool))
  | 0, _ => none
  | fk + 1, i3 =>
    if decide (i3 < (n'.Fibers.length : Int)) then
      (idx n'.Fibers i3).bind fun e2 =>
      (if decide (e2.A < 0) then some true
      else if decide (e2.A ≥ e2.B) then some true
      else if decide (e2.B ≥ (n'.Nodes.length : Int)) then some true
      else (impl_within fu e2.Length 1 5000).bind fun y3 =>
      if !y3 then some true
      else (impl_within fu e2.Risk 0 9).bind fun y4 =>
      if !y4 then some true
      else if decide (i3 > 0) then (idx n'.Fibers (w64 (i3 - 1))).bind fun e3 =>
      (impl_compareFibers fu e3 e2).bind fun y5 =>
      some (decide (y5 > 0))
      else some false).bind fun c5 =>
      if c5 then
        some (.ret false)
      else
        impl_IsValidNetwork_L2 fu n' fk (w64 (i3 + 1))
    else
      some (.next i3)
def impl_IsValidNetwork (fu : Nat) (n' : Network) : Option (Bool) :=
  (impl_IsValidNetwork_L1 fu n' fu 0).bind fun out => out.on some fun z2 =>
  (impl_IsValidNetwork_L2 fu n' fu 0).bind fun out => out.on some fun z =>
  ((impl_within fu (n'.Nodes.length : Int) 2 8).bind fun y6 =>
  if y6 then some (decide ((n'.Fibers.length : Int) ≤ 14))
  else some false).bind fun c6 =>
  some c6
def impl_otherEnd (fu : Nat) (f : Fiber) (node : Int) : Option (Int) :=
  if node == f.A then
    some f.B
  else
    if node == f.B then
      some f.A
    else
      some (-1)
def slices_Index_int_int_L1 (fu : Nat) (s' : List Int) (v : Int) : Nat → Int → Option (Out (Int) (Int))
  | 0, _ => none
  | fk + 1, i =>
    if decide (i < (s'.length : Int)) then
      (idx s' i).bind fun e =>
      if v == e then
        some (.ret i)
      else
        slices_Index_int_int_L1 fu s' v fk (w64 (i + 1))
    else
      some (.next i)
def slices_Index_int_int (fu : Nat) (s' : List Int) (v : Int) : Option (Int) :=
  (slices_Index_int_int_L1 fu s' v fu 0).bind fun out => out.on some fun z =>
  some (-1)
def slices_Contains_int_int (fu : Nat) (s' : List Int) (v : Int) : Option (Bool) :=
  (slices_Index_int_int fu s' v).bind fun y =>
  some (decide (y ≥ 0))
def impl_visited_L1 (fu : Nat) (n' : Network) (r' : Route) : Nat → List Int → Int → Int → Option (Out (List Int × Int × Int) (List Int × Bool))
  | 0, _, _, _ => none
  | fk + 1, out', at', i =>
    if decide (i < (r'.Fibers.length : Int)) then
      (idx r'.Fibers i).bind fun e =>
      (impl_within fu e 0 (w64 ((n'.Fibers.length : Int) - 1))).bind fun y2 =>
      if !y2 then
        some (.ret ([], false))
      else
        (idx n'.Fibers e).bind fun e2 =>
        (impl_otherEnd fu e2 at').bind fun y3 =>
        (if decide (y3 < 0) then some true
        else (slices_Contains_int_int fu out' y3).bind fun y4 =>
        some y4).bind fun c6 =>
        if c6 then
          some (.ret ([], false))
        else
          (app out' [y3]).bind fun l =>
          impl_visited_L1 fu n' r' fk l y3 (w64 (i + 1))
    else
      some (.next (out', at', i))
def impl_visited (fu : Nat) (n' : Network) (r' : Route) : Option (List Int × Bool) :=
  ((impl_within fu r'.Start 0 (w64 ((n'.Nodes.length : Int) - 1))).bind fun y =>
  if !y then some true
  else some ((r'.Fibers.length : Int) == 0)).bind fun c4 =>
  if c4 then
    some ([], false)
  else
    (impl_visited_L1 fu n' r' fu [r'.Start] r'.Start 0).bind fun out => out.on some fun z =>
    some (z.1, true)
def impl_IsValidBlock (fu : Nat) (b' : Block) : Option (Bool) :=
  (if decide (b'.First ≥ 0) then (impl_within fu b'.Count 1 24).bind fun y =>
  if y then some (decide (b'.First ≤ (w64 (24 - b'.Count))))
  else some false
  else some false).bind fun c =>
  some c
def impl_isLight (fu : Nat) (n' : Network) (x1 : Light) : Option (Bool) :=
  (impl_visited fu n' x1.Route).bind fun y =>
  (if y.2 then (impl_within fu x1.Id 1 999).bind fun y2 =>
  if y2 then (impl_IsValidBlock fu x1.Block).bind fun y3 =>
  some y3
  else some false
  else some false).bind fun c5 =>
  some c5
def impl_maskOf (fu : Nat) (b' : Block) : Option (Int) :=
  (shl 1 b'.Count).bind fun q =>
  (shl (w64 (q - 1)) b'.First).bind fun q2 =>
  some q2
def math_bits_Len64 (fu : Nat) (x1 : U64) : Option (Int) :=
  if decide (x1.n ≥ 4294967296) then
    none
  else
    if decide (x1.n ≥ 65536) then
      none
    else
      if decide (x1.n ≥ 256) then
        none
      else
        (sidx (⟨#[0, 1, 2, 2, 3, 3, 3, 3, 4, 4, 4, 4, 4, 4, 4, 4, 5, 5, 5, 5, 5, 5, 5, 5, 5, 5, 5, 5, 5, 5, 5, 5, 6, 6, 6, 6, 6, 6, 6, 6, 6, 6, 6, 6, 6, 6, 6, 6, 6, 6, 6, 6, 6, 6, 6, 6, 6, 6, 6, 6, 6, 6, 6, 6, 7, 7, 7, 7, 7, 7, 7, 7, 7, 7, 7, 7, 7, 7, 7, 7, 7, 7, 7, 7, 7, 7, 7, 7, 7, 7, 7, 7, 7, 7, 7, 7, 7, 7, 7, 7, 7, 7, 7, 7, 7, 7, 7, 7, 7, 7, 7, 7, 7, 7, 7, 7, 7, 7, 7, 7, 7, 7, 7, 7, 7, 7, 7, 7, 8, 8, 8, 8, 8, 8, 8, 8, 8, 8, 8, 8, 8, 8, 8, 8, 8, 8, 8, 8, 8, 8, 8, 8, 8, 8, 8, 8, 8, 8, 8, 8, 8, 8, 8, 8, 8, 8, 8, 8, 8, 8, 8, 8, 8, 8, 8, 8, 8, 8, 8, 8, 8, 8, 8, 8, 8, 8, 8, 8, 8, 8, 8, 8, 8, 8, 8, 8, 8, 8, 8, 8, 8, 8, 8, 8, 8, 8, 8, 8, 8, 8, 8, 8, 8, 8, 8, 8, 8, 8, 8, 8, 8, 8, 8, 8, 8, 8, 8, 8, 8, 8, 8, 8, 8, 8, 8, 8, 8, 8, 8, 8, 8, 8, 8, 8, 8, 8, 8, 8, 8, 8, 8, 8, 8, 8, 8, 8]⟩ : ByteArray) (wu8 x1.n)).bind fun e =>
        some (w64 (0 + (w64 e.n)))
def math_bits_Len (fu : Nat) (x1 : U64) : Option (Int) :=
  (math_bits_Len64 fu x1).bind fun y =>
  some y
def cmp_Less_int (fu : Nat) (x1 : Int) (y : Int) : Option (Bool) :=
  ((cmp_isNaN_int fu x1).bind fun y2 =>
  if y2 then (cmp_isNaN_int fu y).bind fun y3 =>
  if !y3 then some true
  else some (decide (x1 < y))
  else some (decide (x1 < y))).bind fun c =>
  some c
def slices_insertionSortOrdered_int_L2 (fu : Nat) (a' : Int) : Nat → List Int → Int → Option (List Int × Int)
  | 0, _, _ => none
  | fk + 1, data3, j =>
    (if decide (j > a') then (idx data3 j).bind fun e =>
    (idx data3 (w64 (j - 1))).bind fun e2 =>
    (cmp_Less_int fu e e2).bind fun y =>
    some y
    else some false).bind fun c2 =>
    if c2 then
      (idx data3 (w64 (j - 1))).bind fun e3 =>
      (idx data3 j).bind fun e4 =>
      (idx data3 j).bind fun e5 =>
      (idx (data3.set (j : Int).toNat e3) (w64 (j - 1))).bind fun e6 =>
      slices_insertionSortOrdered_int_L2 fu a' fk ((data3.set (j : Int).toNat e3).set (w64 (j - 1) : Int).toNat e4) (w64 (j - 1))
    else
      some (data3, j)
def slices_insertionSortOrdered_int_L1 (fu : Nat) (a' : Int) (b' : Int) : Nat → List Int → Int → Option (List Int × Int)
  | 0, _, _ => none
  | fk + 1, data2, i =>
    if decide (i < b') then
      (slices_insertionSortOrdered_int_L2 fu a' fu data2 i).bind fun z =>
      slices_insertionSortOrdered_int_L1 fu a' b' fk z.1 (w64 (i + 1))
    else
      some (data2, i)
def slices_insertionSortOrdered_int (fu : Nat) (data : List Int) (a' : Int) (b' : Int) : Option (List Int) :=
  (slices_insertionSortOrdered_int_L1 fu a' b' fu data (w64 (a' + 1))).bind fun z2 =>
  some z2.1
def slices_pdqsortOrdered_int_L1 (fu : Nat) (data : List Int) (a' : Int) (b' : Int) : Nat → Option (Out (Unit) (List Int))
  | 0 => none
  | fk + 1 =>
    if decide ((w64 (b' - a')) ≤ 12) then
      (slices_insertionSortOrdered_int fu data a' b').bind fun y =>
      some (.ret y)
    else
      none
def slices_pdqsortOrdered_int (fu : Nat) (data : List Int) (a' : Int) (b' : Int) (limit : Int) : Option (List Int) :=
  (slices_pdqsortOrdered_int_L1 fu data a' b' fu).bind fun out => out.on some fun z =>
  some data
def slices_Sort_int_int (fu : Nat) (x1 : List Int) : Option (List Int) :=
  (math_bits_Len fu (⟨wu64 (x1.length : Int)⟩ : U64)).bind fun y =>
  (slices_pdqsortOrdered_int fu x1 0 (x1.length : Int) y).bind fun y2 =>
  some y2
def slices_Compact_int_int_L1 (fu : Nat) (s' : List Int) : Nat → Int → Option (Out (Int) (List Int))
  | 0, _ => none
  | fk + 1, k' =>
    if decide (k' < (s'.length : Int)) then
      (idx s' k').bind fun e =>
      (idx s' (w64 (k' - 1))).bind fun e2 =>
      if e == e2 then
        none
      else
        slices_Compact_int_int_L1 fu s' fk (w64 (k' + 1))
    else
      some (.next k')
def slices_Compact_int_int (fu : Nat) (s' : List Int) : Option (List Int) :=
  if decide ((s'.length : Int) < 2) then
    some s'
  else
    (slices_Compact_int_int_L1 fu s' fu 1).bind fun out => out.on some fun z =>
    some s'
def impl_common_L1 (fu : Nat) (a' : List Int) (b' : List Int) : Nat → List Int → Int → Option (List Int × Int)
  | 0, _, _ => none
  | fk + 1, out', i =>
    if decide (i < (a'.length : Int)) then
      (idx a' i).bind fun e =>
      (slices_Contains_int_int fu b' e).bind fun y =>
      if y then
        (app out' [e]).bind fun l =>
        impl_common_L1 fu a' b' fk l (w64 (i + 1))
      else
        impl_common_L1 fu a' b' fk out' (w64 (i + 1))
    else
      some (out', i)
def impl_common (fu : Nat) (a' : List Int) (b' : List Int) : Option (List Int) :=
  (impl_common_L1 fu a' b' fu ([] : List Int) 0).bind fun z =>
  (slices_Sort_int_int fu z.1).bind fun y2 =>
  (slices_Compact_int_int fu y2).bind fun y3 =>
  some y3
def impl_collide (fu : Nat) (a' : Light) (b' : Light) : Option (Bool) :=
  ((impl_maskOf fu a'.Block).bind fun y =>
  (impl_maskOf fu b'.Block).bind fun y2 =>
  if (band y y2) != 0 then (impl_common fu a'.Route.Fibers b'.Route.Fibers).bind fun y3 =>
  some (decide ((y3.length : Int) > 0))
  else some false).bind fun c3 =>
  some c3
def impl_IsValidPlan_c1 (fu : Nat) (own : Light) (cap : Light) : Option (Bool) :=
  (impl_collide fu own cap).bind fun y =>
  some y
def slices_IndexFunc_impl_Light_impl_Light_of_IsValidPlan_c1_L1 (fu : Nat) (s' : List Light) (cap : Light) : Nat → Int → Option (Out (Int) (Int))
  | 0, _ => none
  | fk + 1, i =>
    if decide (i < (s'.length : Int)) then
      (idx s' i).bind fun e =>
      (impl_IsValidPlan_c1 fu e cap).bind fun y =>
      if y then
        some (.ret i)
      else
        slices_IndexFunc_impl_Light_impl_Light_of_IsValidPlan_c1_L1 fu s' cap fk (w64 (i + 1))
    else
      some (.next i)
def slices_IndexFunc_impl_Light_impl_Light_of_IsValidPlan_c1 (fu : Nat) (s' : List Light) (cap : Light) : Option (Int) :=
  (slices_IndexFunc_impl_Light_impl_Light_of_IsValidPlan_c1_L1 fu s' cap fu 0).bind fun out => out.on some fun z =>
  some (-1)
def slices_ContainsFunc_impl_Light_impl_Light_of_IsValidPlan_c1 (fu : Nat) (s' : List Light) (cap : Light) : Option (Bool) :=
  (slices_IndexFunc_impl_Light_impl_Light_of_IsValidPlan_c1 fu s' cap).bind fun y =>
  some (decide (y ≥ 0))
def impl_IsValidPlan_L1 (fu : Nat) (p : Plan) : Nat → Int → Option (Out (Int) (Bool))
  | 0, _ => none
  | fk + 1, i =>
    if decide (i < (p.Lights.length : Int)) then
      (idx p.Lights i).bind fun e =>
      ((impl_isLight fu p.Network e).bind fun y2 =>
      if !y2 then some true
      else if decide (i > 0) then (idx p.Lights (w64 (i - 1))).bind fun e2 =>
      if decide (e2.Id ≥ e.Id) then some true
      else (sub p.Lights 0 i).bind fun l =>
      (slices_ContainsFunc_impl_Light_impl_Light_of_IsValidPlan_c1 fu l e).bind fun y3 =>
      some y3
      else (sub p.Lights 0 i).bind fun l2 =>
      (slices_ContainsFunc_impl_Light_impl_Light_of_IsValidPlan_c1 fu l2 e).bind fun y4 =>
      some y4).bind fun c6 =>
      if c6 then
        some (.ret false)
      else
        impl_IsValidPlan_L1 fu p fk (w64 (i + 1))
    else
      some (.next i)
def impl_IsValidPlan (fu : Nat) (p : Plan) : Option (Bool) :=
  ((impl_IsValidNetwork fu p.Network).bind fun y =>
  if !y then some true
  else some (decide ((p.Lights.length : Int) > 12))).bind fun c4 =>
  if c4 then
    some false
  else
    (impl_IsValidPlan_L1 fu p fu 0).bind fun out => out.on some fun z =>
    some true
def impl_regenerators_L1 (fu : Nat) (n' : Network) (r' : Route) (reach : Int) (y : List Int × Bool) : Nat → List Int → Int → Int → Option (Out (List Int × Int × Int) (List Int × Bool))
  | 0, _, _, _ => none
  | fk + 1, out', far, i =>
    if decide (i < (r'.Fibers.length : Int)) then
      (idx r'.Fibers i).bind fun e =>
      (idx n'.Fibers e).bind fun e2 =>
      if decide (e2.Length > reach) then
        some (.ret ([], false))
      else
        if decide ((w64 (far + e2.Length)) > reach) then
          (idx y.1 i).bind fun e3 =>
          (app out' [e3]).bind fun l =>
          impl_regenerators_L1 fu n' r' reach y fk l (w64 (0 + e2.Length)) (w64 (i + 1))
        else
          impl_regenerators_L1 fu n' r' reach y fk out' (w64 (far + e2.Length)) (w64 (i + 1))
    else
      some (.next (out', far, i))
def impl_regenerators (fu : Nat) (n' : Network) (r' : Route) (reach : Int) : Option (List Int × Bool) :=
  (impl_visited fu n' r').bind fun y =>
  (impl_regenerators_L1 fu n' r' reach y fu ([] : List Int) 0 0).bind fun out => out.on some fun z =>
  some (z.1, true)
def impl_endOf (fu : Nat) (n' : Network) (r' : Route) : Option (Int) :=
  (impl_visited fu n' r').bind fun y =>
  (idx y.1 (w64 ((y.1.length : Int) - 1))).bind fun e =>
  some e
def impl_fiberMasks_L2 (fu : Nat) (e : Light) : Nat → List Int → Int → Option (List Int × Int)
  | 0, _, _ => none
  | fk + 1, out3, i2 =>
    if decide (i2 < (e.Route.Fibers.length : Int)) then
      (idx e.Route.Fibers i2).bind fun e2 =>
      (idx out3 e2).bind fun e3 =>
      (impl_maskOf fu e.Block).bind fun y =>
      (idx out3 e2).bind fun e4 =>
      impl_fiberMasks_L2 fu e fk (out3.set (e2 : Int).toNat (bor e3 y)) (w64 (i2 + 1))
    else
      some (out3, i2)
def impl_fiberMasks_L1 (fu : Nat) (p : Plan) : Nat → List Int → Int → Option (List Int × Int)
  | 0, _, _ => none
  | fk + 1, out', i =>
    if decide (i < (p.Lights.length : Int)) then
      (idx p.Lights i).bind fun e =>
      (impl_fiberMasks_L2 fu e fu out' 0).bind fun z =>
      impl_fiberMasks_L1 fu p fk z.1 (w64 (i + 1))
    else
      some (out', i)
def impl_fiberMasks (fu : Nat) (p : Plan) : Option (List Int) :=
  (mk (0 : Int) (p.Network.Fibers.length : Int)).bind fun l =>
  (impl_fiberMasks_L1 fu p fu l 0).bind fun z2 =>
  some z2.1
def impl_BillOf_L2 (fu : Nat) (y4 : List Int × Bool) : Nat → Int → IA 40 → Option (Int × IA 40)
  | 0, _, _ => none
  | fk + 1, i2, m2 =>
    if decide (i2 < (y4.1.length : Int)) then
      (idx y4.1 i2).bind fun e4 =>
      (chk 2 5).bind fun q9 =>
      (chk e4 8).bind fun q10 =>
      (m2.get (0 + q9 * 8 + q10 * 1)).bind fun e5 =>
      (chk 2 5).bind fun q11 =>
      (chk e4 8).bind fun q12 =>
      (m2.put (0 + q11 * 8 + q12 * 1) (w64 (e5 + 1))).bind fun x3 =>
      impl_BillOf_L2 fu y4 fk (w64 (i2 + 1)) x3
    else
      some (i2, m2)
def impl_BillOf_L1 (fu : Nat) (p : Plan) (reach : Int) : Nat → Int → IA 40 → Option (Out (Int × IA 40) (List Item × Bool))
  | 0, _, _ => none
  | fk + 1, i, m =>
    if decide (i < (p.Lights.length : Int)) then
      (idx p.Lights i).bind fun e =>
      (impl_regenerators fu p.Network e.Route reach).bind fun y4 =>
      if !y4.2 then
        some (.ret ([], false))
      else
        (chk 1 5).bind fun q =>
        (chk e.Route.Start 8).bind fun q2 =>
        (m.get (0 + q * 8 + q2 * 1)).bind fun e2 =>
        (chk 1 5).bind fun q3 =>
        (chk e.Route.Start 8).bind fun q4 =>
        (m.put (0 + q3 * 8 + q4 * 1) (w64 (e2 + 1))).bind fun x1 =>
        (chk 1 5).bind fun q5 =>
        (chk 1 5).bind fun q6 =>
        (impl_endOf fu p.Network e.Route).bind fun y5 =>
        (chk y5 8).bind fun q7 =>
        (x1.get (0 + q5 * 8 + q7 * 1)).bind fun e3 =>
        (chk y5 8).bind fun q8 =>
        (x1.put (0 + q6 * 8 + q8 * 1) (w64 (e3 + 1))).bind fun x2 =>
        (impl_BillOf_L2 fu y4 fu 0 x2).bind fun z =>
        impl_BillOf_L1 fu p reach fk (w64 (i + 1)) z.2
    else
      some (.next (i, m))
def impl_BillOf_L3 (fu : Nat) (p : Plan) (spacing : Int) (y6 : List Int) : Nat → Int → IA 40 → Option (Int × IA 40)
  | 0, _, _ => none
  | fk + 1, i5, m5 =>
    if decide (i5 < (y6.length : Int)) then
      (idx y6 i5).bind fun e6 =>
      (idx p.Network.Fibers i5).bind fun e7 =>
      if e6 != 0 then
        (chk 4 5).bind fun q13 =>
        (chk e7.A 8).bind fun q14 =>
        (m5.get (0 + q13 * 8 + q14 * 1)).bind fun e8 =>
        (chk 4 5).bind fun q15 =>
        (chk e7.A 8).bind fun q16 =>
        (m5.put (0 + q15 * 8 + q16 * 1) (w64 (e8 + 1))).bind fun x4 =>
        (chk 4 5).bind fun q17 =>
        (chk e7.B 8).bind fun q18 =>
        (x4.get (0 + q17 * 8 + q18 * 1)).bind fun e9 =>
        (chk 4 5).bind fun q19 =>
        (chk e7.B 8).bind fun q20 =>
        (x4.put (0 + q19 * 8 + q20 * 1) (w64 (e9 + 1))).bind fun x5 =>
        (chk 3 5).bind fun q21 =>
        (chk e7.A 8).bind fun q22 =>
        (x5.get (0 + q21 * 8 + q22 * 1)).bind fun e10 =>
        (quo (w64 ((w64 (e7.Length + spacing)) - 1)) spacing).bind fun q23 =>
        (chk 3 5).bind fun q24 =>
        (chk e7.A 8).bind fun q25 =>
        (x5.put (0 + q24 * 8 + q25 * 1) (w64 (e10 + (w64 (q23 - 1))))).bind fun x6 =>
        impl_BillOf_L3 fu p spacing y6 fk (w64 (i5 + 1)) x6
      else
        impl_BillOf_L3 fu p spacing y6 fk (w64 (i5 + 1)) m5
    else
      some (i5, m5)
def impl_BillOf (fu : Nat) (p : Plan) (reach : Int) (spacing : Int) : Option (List Item × Bool) :=
  ((impl_IsValidPlan fu p).bind fun y =>
  if !y then some true
  else (impl_within fu reach 1 20000).bind fun y2 =>
  if !y2 then some true
  else (impl_within fu spacing 50 1000).bind fun y3 =>
  some (!y3)).bind fun c4 =>
  if c4 then
    some ([], false)
  else
    (impl_BillOf_L1 fu p reach fu 0 (⟨[0, 0, 0, 0, 0, 0, 0, 0, 0, 0, 0, 0, 0, 0, 0, 0, 0, 0, 0, 0, 0, 0, 0, 0, 0, 0, 0, 0, 0, 0, 0, 0, 0, 0, 0, 0, 0, 0, 0, 0], rfl⟩ : IA 40)).bind fun out => out.on some fun z3 =>
    (impl_fiberMasks fu p).bind fun y6 =>
    (impl_BillOf_L3 fu p spacing y6 fu 0 z3.2).bind fun z2 =>
    (impl_tally_bill fu z2.2).bind fun y7 =>
    some (y7.1, y7.2)
def spec_l2Sign (fu : Nat) (b' : By) : Option (Bool) :=
  (if decide (b'.n ≥ 97) then if decide (b'.n ≤ 122) then some true
  else if decide (b'.n ≥ 48) then some (decide (b'.n ≤ 57))
  else some false
  else if decide (b'.n ≥ 48) then some (decide (b'.n ≤ 57))
  else some false).bind fun c =>
  some c
def spec_l2Name_L1 (fu : Nat) (s' : ByteArray) : Nat → Int → Option (Out (Int) (Bool))
  | 0, _ => none
  | fk + 1, i =>
    if decide (i < (s'.size : Int)) then
      (sidx s' i).bind fun e3 =>
      (spec_l2Sign fu e3).bind fun y2 =>
      if !y2 then
        some (.ret false)
      else
        spec_l2Name_L1 fu s' fk (w64 (i + 1))
    else
      some (.next i)
def spec_l2Name (fu : Nat) (s' : ByteArray) : Option (Bool) :=
  ((spec_l1In fu (s'.size : Int) 1 8).bind fun y =>
  if !y then some true
  else (sidx s' 0).bind fun e =>
  if decide (e.n < 97) then some true
  else (sidx s' 0).bind fun e2 =>
  some (decide (e2.n > 122))).bind fun c =>
  if c then
    some false
  else
    (spec_l2Name_L1 fu s' fu 0).bind fun out => out.on some fun z =>
    some true
def spec_l2Find_L1 (fu : Nat) (list : List ByteArray) (name : ByteArray) : Nat → Int → Option (Out (Int) (Int))
  | 0, _ => none
  | fk + 1, i =>
    if decide (i < (list.length : Int)) then
      (idx list i).bind fun e =>
      if e.toList == name.toList then
        some (.ret i)
      else
        spec_l2Find_L1 fu list name fk (w64 (i + 1))
    else
      some (.next i)
def spec_l2Find (fu : Nat) (list : List ByteArray) (name : ByteArray) : Option (Int) :=
  (spec_l2Find_L1 fu list name fu 0).bind fun out => out.on some fun z =>
  some (-1)
def spec_l2Fiber (fu : Nat) (f : Fiber) (nodes : Int) : Option (Bool) :=
  ((spec_l1In fu f.A 0 (w64 (nodes - 1))).bind fun y =>
  if y then (spec_l1In fu f.B (w64 (f.A + 1)) (w64 (nodes - 1))).bind fun y2 =>
  if y2 then (spec_l1In fu f.Length 1 5000).bind fun y3 =>
  if y3 then (spec_l1In fu f.Risk 0 9).bind fun y4 =>
  some y4
  else some false
  else some false
  else some false).bind fun c =>
  some c
def spec_l2Good_L1 (fu : Nat) (n' : Network) : Nat → Int → Option (Out (Int) (Bool))
  | 0, _ => none
  | fk + 1, i =>
    if decide (i < (n'.Nodes.length : Int)) then
      ((idx n'.Nodes i).bind fun e =>
      (spec_l2Name fu e).bind fun y2 =>
      if !y2 then some true
      else (idx n'.Nodes i).bind fun e2 =>
      (spec_l2Find fu n'.Nodes e2).bind fun y3 =>
      some (y3 != i)).bind fun c4 =>
      if c4 then
        some (.ret false)
      else
        spec_l2Good_L1 fu n' fk (w64 (i + 1))
    else
      some (.next i)
def spec_l2Good_L2 (fu : Nat) (n' : Network) : Nat → Int → Option (Out (Int) (Bool))
  | 0, _ => none
  | fk + 1, i3 =>
    if decide (i3 < (n'.Fibers.length : Int)) then
      ((idx n'.Fibers i3).bind fun e3 =>
      (spec_l2Fiber fu e3 (n'.Nodes.length : Int)).bind fun y4 =>
      if !y4 then some true
      else if decide (i3 > 0) then (idx n'.Fibers (w64 (i3 - 1))).bind fun e4 =>
      (idx n'.Fibers i3).bind fun e5 =>
      (spec_l2Before fu e4 e5).bind fun y5 =>
      some (decide (y5 > 0))
      else some false).bind fun c5 =>
      if c5 then
        some (.ret false)
      else
        spec_l2Good_L2 fu n' fk (w64 (i3 + 1))
    else
      some (.next i3)
def spec_l2Good (fu : Nat) (n' : Network) : Option (Bool) :=
  ((spec_l1In fu (n'.Nodes.length : Int) 2 8).bind fun y =>
  if !y then some true
  else some (decide ((n'.Fibers.length : Int) > 14))).bind fun c3 =>
  if c3 then
    some false
  else
    (spec_l2Good_L1 fu n' fu 0).bind fun out => out.on some fun z2 =>
    (spec_l2Good_L2 fu n' fu 0).bind fun out => out.on some fun z =>
    some true
def spec_l4Walk_L1 (fu : Nat) (n' : Network) (r' : Route) : Nat → List Int → Int → Option (Out (List Int × Int) (List Int × Bool))
  | 0, _, _ => none
  | fk + 1, out', i =>
    if decide (i < (r'.Fibers.length : Int)) then
      (idx r'.Fibers i).bind fun e =>
      (spec_l1In fu e 0 (w64 ((n'.Fibers.length : Int) - 1))).bind fun y2 =>
      if !y2 then
        some (.ret (out', false))
      else
        (idx r'.Fibers i).bind fun e2 =>
        (idx out' (w64 ((out'.length : Int) - 1))).bind fun e3 =>
        (spec_l2Other fu n' e2 e3).bind fun y3 =>
        (if decide (y3 < 0) then some true
        else (spec_l1Has fu out' y3).bind fun y4 =>
        some y4).bind fun c6 =>
        if c6 then
          some (.ret (out', false))
        else
          (app out' [y3]).bind fun l =>
          spec_l4Walk_L1 fu n' r' fk l (w64 (i + 1))
    else
      some (.next (out', i))
def spec_l4Walk (fu : Nat) (n' : Network) (r' : Route) : Option (List Int × Bool) :=
  ((spec_l1In fu r'.Start 0 (w64 ((n'.Nodes.length : Int) - 1))).bind fun y =>
  if !y then some true
  else some ((r'.Fibers.length : Int) == 0)).bind fun c4 =>
  if c4 then
    some ([r'.Start], false)
  else
    (spec_l4Walk_L1 fu n' r' fu [r'.Start] 0).bind fun out => out.on some fun z =>
    some (z.1, true)
def spec_l4Good (fu : Nat) (n' : Network) (r' : Route) : Option (Bool) :=
  (spec_l2Good fu n').bind fun y =>
  if !y then
    some false
  else
    (spec_l4Walk fu n' r').bind fun y2 =>
    some y2.2
def spec_l8Good (fu : Nat) (b' : Block) : Option (Bool) :=
  ((spec_l1In fu b'.First 0 23).bind fun y =>
  if y then (spec_l1In fu b'.Count 1 (w64 (24 - b'.First))).bind fun y2 =>
  some y2
  else some false).bind fun c =>
  some c
def spec_l9Light (fu : Nat) (n' : Network) (x1 : Light) : Option (Bool) :=
  ((spec_l1In fu x1.Id 1 999).bind fun y =>
  if y then (spec_l4Good fu n' x1.Route).bind fun y2 =>
  if y2 then (spec_l8Good fu x1.Block).bind fun y3 =>
  some y3
  else some false
  else some false).bind fun c4 =>
  some c4
def spec_l4Uses_L1 (fu : Nat) (r' : Route) (group : List Int) : Nat → Int → Option (Out (Int) (Bool))
  | 0, _ => none
  | fk + 1, i =>
    if decide (i < (r'.Fibers.length : Int)) then
      (idx r'.Fibers i).bind fun e =>
      (spec_l1Has fu group e).bind fun y =>
      if y then
        some (.ret true)
      else
        spec_l4Uses_L1 fu r' group fk (w64 (i + 1))
    else
      some (.next i)
def spec_l4Uses (fu : Nat) (r' : Route) (group : List Int) : Option (Bool) :=
  (spec_l4Uses_L1 fu r' group fu 0).bind fun out => out.on some fun z =>
  some false
def spec_l9Collide (fu : Nat) (x1 : Light) (y : Light) : Option (Bool) :=
  ((spec_l4Uses fu x1.Route y.Route.Fibers).bind fun y2 =>
  if y2 then (spec_l8Bits fu x1.Block).bind fun y3 =>
  (spec_l8Bits fu y.Block).bind fun y4 =>
  some ((band y3 y4) != 0)
  else some false).bind fun c3 =>
  some c3
def spec_l9Good_L2 (fu : Nat) (p : Plan) (i : Int) : Nat → Int → Option (Out (Int) (Bool))
  | 0, _ => none
  | fk + 1, k' =>
    if decide (k' < i) then
      (idx p.Lights k').bind fun e4 =>
      (idx p.Lights i).bind fun e5 =>
      (spec_l9Collide fu e4 e5).bind fun y3 =>
      if y3 then
        some (.ret false)
      else
        spec_l9Good_L2 fu p i fk (w64 (k' + 1))
    else
      some (.next k')
def spec_l9Good_L1 (fu : Nat) (p : Plan) : Nat → Int → Option (Out (Int) (Bool))
  | 0, _ => none
  | fk + 1, i =>
    if decide (i < (p.Lights.length : Int)) then
      ((idx p.Lights i).bind fun e =>
      (spec_l9Light fu p.Network e).bind fun y2 =>
      if !y2 then some true
      else if decide (i > 0) then (idx p.Lights (w64 (i - 1))).bind fun e2 =>
      (idx p.Lights i).bind fun e3 =>
      some (decide (e2.Id ≥ e3.Id))
      else some false).bind fun c5 =>
      if c5 then
        some (.ret false)
      else
        (spec_l9Good_L2 fu p i fu 0).bind fun out => out.on (fun r => some (.ret r)) fun z =>
        spec_l9Good_L1 fu p fk (w64 (i + 1))
    else
      some (.next i)
def spec_l9Good (fu : Nat) (p : Plan) : Option (Bool) :=
  ((spec_l2Good fu p.Network).bind fun y =>
  if !y then some true
  else some (decide ((p.Lights.length : Int) > 12))).bind fun c4 =>
  if c4 then
    some false
  else
    (spec_l9Good_L1 fu p fu 0).bind fun out => out.on some fun z2 =>
    some true
def spec_l4Nodes (fu : Nat) (n' : Network) (r' : Route) : Option (List Int) :=
  (spec_l4Walk fu n' r').bind fun y =>
  some y.1
def spec_RegeneratorsFor_L1 (fu : Nat) (n' : Network) (r' : Route) (reach : Int) (y3 : List Int) : Nat → List Int → Int → Int → Option (Out (List Int × Int × Int) (List Int × Bool))
  | 0, _, _, _ => none
  | fk + 1, out', sum, i =>
    if decide (i < (r'.Fibers.length : Int)) then
      (idx r'.Fibers i).bind fun e =>
      (idx n'.Fibers e).bind fun e2 =>
      if decide (e2.Length > reach) then
        some (.ret (([] : List Int), false))
      else
        if decide ((w64 (sum + e2.Length)) > reach) then
          (idx y3 i).bind fun e3 =>
          (app out' [e3]).bind fun l =>
          spec_RegeneratorsFor_L1 fu n' r' reach y3 fk l (w64 (0 + e2.Length)) (w64 (i + 1))
        else
          spec_RegeneratorsFor_L1 fu n' r' reach y3 fk out' (w64 (sum + e2.Length)) (w64 (i + 1))
    else
      some (.next (out', sum, i))
def spec_RegeneratorsFor (fu : Nat) (n' : Network) (r' : Route) (reach : Int) : Option (List Int × Bool) :=
  ((spec_l4Good fu n' r').bind fun y =>
  if !y then some true
  else (spec_l1In fu reach 1 20000).bind fun y2 =>
  some (!y2)).bind fun c4 =>
  if c4 then
    some (([] : List Int), false)
  else
    (spec_l4Nodes fu n' r').bind fun y3 =>
    (spec_RegeneratorsFor_L1 fu n' r' reach y3 fu ([] : List Int) 0 0).bind fun out => out.on some fun z =>
    some (z.1, true)
def spec_l4End (fu : Nat) (n' : Network) (r' : Route) : Option (Int) :=
  (spec_l4Nodes fu n' r').bind fun y =>
  (idx y (w64 ((y.length : Int) - 1))).bind fun e =>
  some e
def spec_BillOf_L2 (fu : Nat) (y4 : List Int × Bool) : Nat → List Item → Int → Option (List Item × Int)
  | 0, _, _ => none
  | fk + 1, out3, k' =>
    if decide (k' < (y4.1.length : Int)) then
      (idx y4.1 k').bind fun e2 =>
      (spec_l19Add fu out3 ({ Kind := 2, Node := e2, Count := 1 } : Item)).bind fun y8 =>
      spec_BillOf_L2 fu y4 fk y8 (w64 (k' + 1))
    else
      some (out3, k')
def spec_BillOf_L1 (fu : Nat) (p : Plan) (reach : Int) : Nat → List Item → Int → Option (Out (List Item × Int) (List Item × Bool))
  | 0, _, _ => none
  | fk + 1, out', i =>
    if decide (i < (p.Lights.length : Int)) then
      (idx p.Lights i).bind fun e =>
      (spec_RegeneratorsFor fu p.Network e.Route reach).bind fun y4 =>
      if !y4.2 then
        some (.ret (([] : List Item), false))
      else
        (spec_l19Add fu out' ({ Kind := 1, Node := e.Route.Start, Count := 1 } : Item)).bind fun y5 =>
        (spec_l4End fu p.Network e.Route).bind fun y6 =>
        (spec_l19Add fu y5 ({ Kind := 1, Node := y6, Count := 1 } : Item)).bind fun y7 =>
        (spec_BillOf_L2 fu y4 fu y7 0).bind fun z =>
        spec_BillOf_L1 fu p reach fk z.1 (w64 (i + 1))
    else
      some (.next (out', i))
def spec_BillOf_L3 (fu : Nat) (p : Plan) (spacing : Int) : Nat → Int → List Item → Option (Int × List Item)
  | 0, _, _ => none
  | fk + 1, i3, out7 =>
    if decide (i3 < (p.Network.Fibers.length : Int)) then
      (spec_l9Used fu p i3).bind fun y9 =>
      if y9 == 0 then
        spec_BillOf_L3 fu p spacing fk (w64 (i3 + 1)) out7
      else
        (idx p.Network.Fibers i3).bind fun e3 =>
        (spec_l19Add fu out7 ({ Kind := 4, Node := e3.A, Count := 1 } : Item)).bind fun y10 =>
        (spec_l19Add fu y10 ({ Kind := 4, Node := e3.B, Count := 1 } : Item)).bind fun y11 =>
        (quo (w64 ((w64 (e3.Length + spacing)) - 1)) spacing).bind fun q =>
        (spec_l19Add fu y11 ({ Kind := 3, Node := e3.A, Count := w64 (q - 1) } : Item)).bind fun y12 =>
        spec_BillOf_L3 fu p spacing fk (w64 (i3 + 1)) y12
    else
      some (i3, out7)
def spec_BillOf (fu : Nat) (p : Plan) (reach : Int) (spacing : Int) : Option (List Item × Bool) :=
  ((spec_l9Good fu p).bind fun y =>
  if !y then some true
  else (spec_l1In fu reach 1 20000).bind fun y2 =>
  if !y2 then some true
  else (spec_l1In fu spacing 50 1000).bind fun y3 =>
  some (!y3)).bind fun c4 =>
  if c4 then
    some (([] : List Item), false)
  else
    (spec_BillOf_L1 fu p reach fu ([] : List Item) 0).bind fun out => out.on some fun z3 =>
    (spec_BillOf_L3 fu p spacing fu 0 z3.1).bind fun z2 =>
    (spec_l19Bill fu z2.2).bind fun y13 =>
    if !y13 then
      some (([] : List Item), false)
    else
      some (z2.2, true)
def laws_FnBills_L1 (fu : Nat) (y12 : List Item × Bool) (y13 : List Item × Bool) : Nat → Int → Int → Option (Out (Int × Int) (Bool))
  | 0, _, _ => none
  | fk + 1, ends, i =>
    if decide (i < (y12.1.length : Int)) then
      (idx y12.1 i).bind fun e =>
      (idx y13.1 i).bind fun e2 =>
      if !(([e.Kind, e.Node, e.Count] : List Int) == ([e2.Kind, e2.Node, e2.Count] : List Int)) then
        some (.ret false)
      else
        (idx y12.1 i).bind fun e3 =>
        if e3.Kind == 1 then
          (idx y12.1 i).bind fun e4 =>
          laws_FnBills_L1 fu y12 y13 fk (w64 (ends + e4.Count)) (w64 (i + 1))
        else
          laws_FnBills_L1 fu y12 y13 fk ends (w64 (i + 1))
    else
      some (.next (ends, i))
def laws_FnBills_L2 (fu : Nat) (y15 : List Item × Bool) (y16 : List Item × Bool) : Nat → Int → Int → Option (Out (Int × Int) (Bool))
  | 0, _, _ => none
  | fk + 1, ends3, i3 =>
    if decide (i3 < (y15.1.length : Int)) then
      (idx y15.1 i3).bind fun e5 =>
      (idx y16.1 i3).bind fun e6 =>
      if !(([e5.Kind, e5.Node, e5.Count] : List Int) == ([e6.Kind, e6.Node, e6.Count] : List Int)) then
        some (.ret false)
      else
        (idx y15.1 i3).bind fun e7 =>
        if e7.Kind == 1 then
          (idx y15.1 i3).bind fun e8 =>
          laws_FnBills_L2 fu y15 y16 fk (w64 (ends3 + e8.Count)) (w64 (i3 + 1))
        else
          laws_FnBills_L2 fu y15 y16 fk ends3 (w64 (i3 + 1))
    else
      some (.next (ends3, i3))
def laws_FnBills_L3 (fu : Nat) (y19 : List Item × Bool) (y20 : List Item × Bool) : Nat → Int → Int → Option (Out (Int × Int) (Bool))
  | 0, _, _ => none
  | fk + 1, ends5, i5 =>
    if decide (i5 < (y19.1.length : Int)) then
      (idx y19.1 i5).bind fun e9 =>
      (idx y20.1 i5).bind fun e10 =>
      if !(([e9.Kind, e9.Node, e9.Count] : List Int) == ([e10.Kind, e10.Node, e10.Count] : List Int)) then
        some (.ret false)
      else
        (idx y19.1 i5).bind fun e11 =>
        if e11.Kind == 1 then
          (idx y19.1 i5).bind fun e12 =>
          laws_FnBills_L3 fu y19 y20 fk (w64 (ends5 + e12.Count)) (w64 (i5 + 1))
        else
          laws_FnBills_L3 fu y19 y20 fk ends5 (w64 (i5 + 1))
    else
      some (.next (ends5, i5))
def laws_FnBills_L4 (fu : Nat) (y22 : List Item × Bool) (y23 : List Item × Bool) : Nat → Int → Int → Option (Out (Int × Int) (Bool))
  | 0, _, _ => none
  | fk + 1, ends7, i7 =>
    if decide (i7 < (y22.1.length : Int)) then
      (idx y22.1 i7).bind fun e13 =>
      (idx y23.1 i7).bind fun e14 =>
      if !(([e13.Kind, e13.Node, e13.Count] : List Int) == ([e14.Kind, e14.Node, e14.Count] : List Int)) then
        some (.ret false)
      else
        (idx y22.1 i7).bind fun e15 =>
        if e15.Kind == 1 then
          (idx y22.1 i7).bind fun e16 =>
          laws_FnBills_L4 fu y22 y23 fk (w64 (ends7 + e16.Count)) (w64 (i7 + 1))
        else
          laws_FnBills_L4 fu y22 y23 fk ends7 (w64 (i7 + 1))
    else
      some (.next (ends7, i7))
def laws_FnBills (fu : Nat) (code : List By) : Option (Bool) :=
  (laws_vBig fu code).bind fun y =>
  if y then
    some true
  else
    (spec_DrawMergeBills fu code).bind fun y2 =>
    (impl_MergeBills fu y2.1 y2.2).bind fun y3 =>
    (spec_MergeBills fu y2.1 y2.2).bind fun y4 =>
    (if y3.2 != y4.2 then some true
    else some ((y3.1.length : Int) != (y4.1.length : Int))).bind fun c6 =>
    if c6 then
      some false
    else
      (impl_MissingItems fu y2.1 y2.2).bind fun y5 =>
      (spec_MissingItems fu y2.1 y2.2).bind fun y6 =>
      (if y5.2 != y6.2 then some true
      else some ((y5.1.length : Int) != (y6.1.length : Int))).bind fun c9 =>
      if c9 then
        some false
      else
        (impl_CostOf fu y2.1 [1, 7, 100, 3]).bind fun y7 =>
        (impl_CostOf fu y2.2 [1, 7, 100, 3]).bind fun y8 =>
        if y3.2 then
          (impl_CostOf fu y3.1 [1, 7, 100, 3]).bind fun y9 =>
          (if !y9.2 then some true
          else if !y7.2 then some true
          else if !y8.2 then some true
          else some (y9.1 != (w64 (y7.1 + y8.1)))).bind fun c10 =>
          if c10 then
            some false
          else
            if y5.2 then
              (impl_CostOf fu y5.1 [1, 7, 100, 3]).bind fun y10 =>
              (if !y10.2 then some true
              else if !y7.2 then some true
              else if !y8.2 then some true
              else if decide (y10.1 > y7.1) then some true
              else some (decide (y10.1 < (w64 (y7.1 - y8.1))))).bind fun c11 =>
              if c11 then
                some false
              else
                (spec_DrawBillOf fu code).bind fun y11 =>
                (impl_BillOf fu y11.1 y11.2.1 y11.2.2).bind fun y12 =>
                (spec_BillOf fu y11.1 y11.2.1 y11.2.2).bind fun y13 =>
                (if y12.2 != y13.2 then some true
                else if (y12.1.length : Int) != (y13.1.length : Int) then some true
                else some (!y12.2)).bind fun c17 =>
                if c17 then
                  (if y12.2 == y13.2 then some ((y12.1.length : Int) == (y13.1.length : Int))
                  else some false).bind fun c18 =>
                  some c18
                else
                  (laws_FnBills_L1 fu y12 y13 fu 0 0).bind fun out => out.on some fun z =>
                  some (z.1 == (w64 (2 * (y11.1.Lights.length : Int))))
            else
              (spec_DrawBillOf fu code).bind fun y14 =>
              (impl_BillOf fu y14.1 y14.2.1 y14.2.2).bind fun y15 =>
              (spec_BillOf fu y14.1 y14.2.1 y14.2.2).bind fun y16 =>
              (if y15.2 != y16.2 then some true
              else if (y15.1.length : Int) != (y16.1.length : Int) then some true
              else some (!y15.2)).bind fun c24 =>
              if c24 then
                (if y15.2 == y16.2 then some ((y15.1.length : Int) == (y16.1.length : Int))
                else some false).bind fun c25 =>
                some c25
              else
                (laws_FnBills_L2 fu y15 y16 fu 0 0).bind fun out => out.on some fun z2 =>
                some (z2.1 == (w64 (2 * (y14.1.Lights.length : Int))))
        else
          if y5.2 then
            (impl_CostOf fu y5.1 [1, 7, 100, 3]).bind fun y17 =>
            (if !y17.2 then some true
            else if !y7.2 then some true
            else if !y8.2 then some true
            else if decide (y17.1 > y7.1) then some true
            else some (decide (y17.1 < (w64 (y7.1 - y8.1))))).bind fun c26 =>
            if c26 then
              some false
            else
              (spec_DrawBillOf fu code).bind fun y18 =>
              (impl_BillOf fu y18.1 y18.2.1 y18.2.2).bind fun y19 =>
              (spec_BillOf fu y18.1 y18.2.1 y18.2.2).bind fun y20 =>
              (if y19.2 != y20.2 then some true
              else if (y19.1.length : Int) != (y20.1.length : Int) then some true
              else some (!y19.2)).bind fun c32 =>
              if c32 then
                (if y19.2 == y20.2 then some ((y19.1.length : Int) == (y20.1.length : Int))
                else some false).bind fun c33 =>
                some c33
              else
                (laws_FnBills_L3 fu y19 y20 fu 0 0).bind fun out => out.on some fun z3 =>
                some (z3.1 == (w64 (2 * (y18.1.Lights.length : Int))))
          else
            (spec_DrawBillOf fu code).bind fun y21 =>
            (impl_BillOf fu y21.1 y21.2.1 y21.2.2).bind fun y22 =>
            (spec_BillOf fu y21.1 y21.2.1 y21.2.2).bind fun y23 =>
            (if y22.2 != y23.2 then some true
            else if (y22.1.length : Int) != (y23.1.length : Int) then some true
            else some (!y22.2)).bind fun c39 =>
            if c39 then
              (if y22.2 == y23.2 then some ((y22.1.length : Int) == (y23.1.length : Int))
              else some false).bind fun c40 =>
              some c40
            else
              (laws_FnBills_L4 fu y22 y23 fu 0 0).bind fun out => out.on some fun z4 =>
              some (z4.1 == (w64 (2 * (y21.1.Lights.length : Int))))
end AT
