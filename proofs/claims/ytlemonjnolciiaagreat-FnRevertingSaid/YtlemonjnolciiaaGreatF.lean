/- The Go functions told plainly, by program (gen.py). -/
import Derived.Test.YtlemonjnolciiaaGreatAtR
set_option linter.unusedVariables false
namespace AT
structure L1CurP where
  code:List By
  at_:Int
  seed:U64
  deriving DecidableEq
structure Fiber where
  A:Int
  B:Int
  Length:Int
  Risk:Int
  deriving DecidableEq
structure Network where
  Nodes:List ByteArray
  Fibers:List Fiber
  deriving DecidableEq
structure Route where
  Start:Int
  Fibers:List Int
  deriving DecidableEq
structure Block where
  First:Int
  Count:Int
  deriving DecidableEq
structure Light where
  Id:Int
  Route:Route
  Block:Block
  deriving DecidableEq
structure Plan where
  Network:Network
  Lights:List Light
  deriving DecidableEq
structure Format where
  Reach:Int
  Rate:Int
  deriving DecidableEq
structure Restoration where
  Plan:Plan
  Home:List Light
  Down:List Int
  deriving DecidableEq
structure L4SearchP where
  n:Network
  to:Int
  list:List Route
  deriving DecidableEq
structure Action where
  Kind:Int
  Light:Light
  deriving DecidableEq
structure L20SearchP where
  list:List Action
  failed:List Bool
  deriving DecidableEq
structure FiberEvent where
  Fail:Bool
  Fibers:List Int
  deriving DecidableEq
structure Demand where
  From:Int
  To:Int
  Rate:Int
  Class:Int
  deriving DecidableEq
structure Served where
  Plan:Plan
  Ids:List Int
  Blocked:Int
  deriving DecidableEq
structure ChoiceP where
  route:Route
  count:Int
  deriving DecidableEq
def laws_vBig (fu:Nat) (code:List By):Option (Bool) :=
  some (decide ((code.length:Int) > 65536))
def spec_l1Cur_next (fu:Nat) (c:L1CurP):Option (Int×L1CurP) :=
  if decide (c.at_<(c.code.length:Int)) then
    (idx c.code c.at_).bind fun e =>
    if decide ((w64 (c.at_ + 1))≤(c.code.length:Int)) then
      some (w64 e.n,({ code:=c.code,at_:=w64 (c.at_ + 1),seed:=(⟨wu64 ((wu64 ((wu64 (c.seed.n * 6364136223846793005)) + (wu64 (w64 e.n)))) + 897897)⟩:U64) }:L1CurP))
    else
      (shrk 64 (wu64 ((wu64 ((wu64 (c.seed.n * 6364136223846793005)) + (wu64 (w64 e.n)))) + 897897)) 40).bind fun q =>
      some (w64 (andu64 q 255),({ code:=c.code,at_:=w64 (c.at_ + 1),seed:=(⟨wu64 ((wu64 ((wu64 (c.seed.n * 6364136223846793005)) + (wu64 (w64 e.n)))) + 897897)⟩:U64) }:L1CurP))
  else
    if decide ((w64 (c.at_ + 1))≤(c.code.length:Int)) then
      some (0,({ code:=c.code,at_:=w64 (c.at_ + 1),seed:=(⟨wu64 ((wu64 ((wu64 (c.seed.n * 6364136223846793005)) + (wu64 0))) + 897897)⟩:U64) }:L1CurP))
    else
      (shrk 64 (wu64 ((wu64 ((wu64 (c.seed.n * 6364136223846793005)) + (wu64 0))) + 897897)) 40).bind fun q2 =>
      some (w64 (andu64 q2 255),({ code:=c.code,at_:=w64 (c.at_ + 1),seed:=(⟨wu64 ((wu64 ((wu64 (c.seed.n * 6364136223846793005)) + (wu64 0))) + 897897)⟩:U64) }:L1CurP))
def spec_l1Cur_pick (fu:Nat) (c:L1CurP) (n':Int):Option (Int×L1CurP) :=
  if decide (n'≤1) then
    some (0,c)
  else
    (spec_l1Cur_next fu c).bind fun y =>
    if decide (n' > 200) then
      (spec_l1Cur_next fu y.2).bind fun y2 =>
      (rem (w64 ((w64 (y.1 * 256)) + y2.1)) n').bind fun q =>
      some (q,y2.2)
    else
      (rem y.1 n').bind fun q2 =>
      some (q2,y.2)
def spec_l1Cur_one (fu:Nat) (c:L1CurP) (n':Int):Option (Bool×L1CurP) :=
  (spec_l1Cur_pick fu c n').bind fun y =>
  some (y.1==0,y.2)
def spec_l1Least (fu:Nat) (a':Int) (b':Int):Option (Int) :=
  if decide (a'<b') then
    some a'
  else
    some b'
def spec_l1Most (fu:Nat) (a':Int) (b':Int):Option (Int) :=
  if decide (a' > b') then
    some a'
  else
    some b'
def spec_l1Cur_among (fu:Nat) (c:L1CurP) (list:List Int):Option (Int×L1CurP) :=
  (spec_l1Cur_pick fu c (list.length:Int)).bind fun y =>
  (idx list y.1).bind fun e =>
  some (e,y.2)
def spec_l2Before (fu:Nat) (f:Fiber) (g':Fiber):Option (Int) :=
  if f.A != g'.A then
    some (w64 (f.A - g'.A))
  else
    if f.B != g'.B then
      some (w64 (f.B - g'.B))
    else
      if f.Length != g'.Length then
        some (w64 (f.Length - g'.Length))
      else
        some (w64 (f.Risk - g'.Risk))
def spec_l2Put_L1 (fu:Nat) (list:List Fiber) (f:Fiber):Nat→Int→Option (Int)
  | 0,_=>none
  | fk + 1,i =>
    (if decide (i<(list.length:Int)) then (idx list i).bind fun e =>
    (spec_l2Before fu e f).bind fun y =>
    some (decide (y≤0))
    else some false).bind fun c2 =>
    if c2 then
      spec_l2Put_L1 fu list f fk (w64 (i + 1))
    else
      some i
def spec_l2Put (fu:Nat) (list:List Fiber) (f:Fiber):Option (List Fiber) :=
  (spec_l2Put_L1 fu list f fu 0).bind fun z =>
  (sub list 0 z).bind fun l =>
  (sub list z (list.length:Int)).bind fun l2 =>
  (app ([]:List Fiber) l).bind fun l3 =>
  (app l3 [f]).bind fun l4 =>
  (app l4 l2).bind fun l5 =>
  some l5
def spec_l1Cur_network_L1 (fu:Nat) (y:Int×L1CurP):Nat→Int→List By→Int→U64→List Fiber→Option (Int×List By×Int×U64×List Fiber)
  | 0,_,_,_,_,_=>none
  | fk + 1,i,m,m2,m3,m4 =>
    if decide (i<(w64 (2 + y.1))) then
      (rem (w64 (i + 1)) (w64 (2 + y.1))).bind fun q =>
      if i==q then spec_l1Cur_network_L1 fu y fk (w64 (i + 1)) m m2 m3 m4
      else (spec_l1Cur_one fu ({ code:=m,at_:=m2,seed:=m3 }:L1CurP) 10).bind fun y2 =>
      if y2.1 then
        spec_l1Cur_network_L1 fu y fk (w64 (i + 1)) y2.2.code y2.2.at_ y2.2.seed m4
      else
        (spec_l1Least fu i q).bind fun y3 =>
        (spec_l1Most fu i q).bind fun y4 =>
        (spec_l1Cur_pick fu y2.2 8).bind fun y5 =>
        (spec_l1Cur_among fu y5.2 [0,0,0,1,2]).bind fun y6 =>
        (spec_l2Put fu m4 ({ A:=y3,B:=y4,Length:=w64 (100 * (w64 (1 + y5.1))),Risk:=y6.1 }:Fiber)).bind fun y7 =>
        spec_l1Cur_network_L1 fu y fk (w64 (i + 1)) y6.2.code y6.2.at_ y6.2.seed y7
    else
      some (i,m,m2,m3,m4)
def spec_l1Cur_network_L2 (fu:Nat) (y:Int×L1CurP):Nat→Int→List Fiber→List By→Int→U64→Option (Int×List Fiber×List By×Int×U64)
  | 0,_,_,_,_,_=>none
  | fk + 1,m9,m10,m11,m12,m13 =>
    if decide (m9 > 0) then
      (spec_l1Cur_pick fu ({ code:=m11,at_:=m12,seed:=m13 }:L1CurP) (w64 (2 + y.1))).bind fun y9 =>
      (spec_l1Cur_pick fu y9.2 (w64 (2 + y.1))).bind fun y10 =>
      if y9.1 != y10.1 then
        (spec_l1Least fu y9.1 y10.1).bind fun y11 =>
        (spec_l1Most fu y9.1 y10.1).bind fun y12 =>
        (spec_l1Cur_pick fu y10.2 8).bind fun y13 =>
        (spec_l1Cur_among fu y13.2 [0,0,0,1,2]).bind fun y14 =>
        (spec_l2Put fu m10 ({ A:=y11,B:=y12,Length:=w64 (100 * (w64 (1 + y13.1))),Risk:=y14.1 }:Fiber)).bind fun y15 =>
        spec_l1Cur_network_L2 fu y fk (w64 (m9 - 1)) y15 y14.2.code y14.2.at_ y14.2.seed
      else
        spec_l1Cur_network_L2 fu y fk (w64 (m9 - 1)) m10 y10.2.code y10.2.at_ y10.2.seed
    else
      some (m9,m10,m11,m12,m13)
def spec_l1Cur_network (fu:Nat) (c:L1CurP):Option (Network×L1CurP) :=
  (spec_l1Cur_pick fu c 5).bind fun y =>
  (sub [(⟨#[97]⟩:ByteArray),(⟨#[98]⟩:ByteArray),(⟨#[99]⟩:ByteArray),(⟨#[100]⟩:ByteArray),(⟨#[101]⟩:ByteArray),(⟨#[102]⟩:ByteArray)] 0 (w64 (2 + y.1))).bind fun l =>
  (spec_l1Cur_network_L1 fu y fu 0 y.2.code y.2.at_ y.2.seed []).bind fun z2 =>
  (spec_l1Cur_pick fu ({ code:=z2.2.1,at_:=z2.2.2.1,seed:=z2.2.2.2.1 }:L1CurP) 4).bind fun y8 =>
  (spec_l1Cur_network_L2 fu y fu y8.1 z2.2.2.2.2 y8.2.code y8.2.at_ y8.2.seed).bind fun z =>
  some (({ Nodes:=l,Fibers:=z.2.1 }:Network),({ code:=z.2.2.1,at_:=z.2.2.2.1,seed:=z.2.2.2.2 }:L1CurP))
def spec_l1Cur_linked (fu:Nat) (c:L1CurP):Option (Network×L1CurP) :=
  (spec_l1Cur_network fu c).bind fun y =>
  if (y.1.Fibers.length:Int)==0 then
    (app y.1.Fibers [({ A:=0,B:=1,Length:=100,Risk:=0 }:Fiber)]).bind fun l =>
    some (({ Nodes:=y.1.Nodes,Fibers:=l }:Network),y.2)
  else
    some (y.1,y.2)
def spec_l2Other (fu:Nat) (n':Network) (fiber:Int) (node:Int):Option (Int) :=
  (idx n'.Fibers fiber).bind fun e =>
  if node==e.A then
    some e.B
  else
    if node==e.B then
      some e.A
    else
      some (-1)
def spec_l1Has_L1 (fu:Nat) (l:List Int) (n':Int):Nat→Int→Option (Out (Int) (Bool))
  | 0,_=>none
  | fk + 1,i =>
    if decide (i<(l.length:Int)) then
      (idx l i).bind fun e =>
      if e==n' then
        some (.ret true)
      else
        spec_l1Has_L1 fu l n' fk (w64 (i + 1))
    else
      some (.next i)
def spec_l1Has (fu:Nat) (l:List Int) (n':Int):Option (Bool) :=
  (spec_l1Has_L1 fu l n' fu 0).bind fun out=>out.on some fun z =>
  some false
def spec_l1Cur_route_L2 (fu:Nat) (n':Network) (y:Int×L1CurP) (seen:List Int):Nat→List Int→Int→Option (List Int×Int)
  | 0,_,_=>none
  | fk + 1,list,i =>
    if decide (i<(n'.Fibers.length:Int)) then
      (idx seen (w64 ((seen.length:Int) - 1))).bind fun e =>
      (spec_l2Other fu n' i e).bind fun y3 =>
      (if decide (y3≥0) then (spec_l1Has fu seen y3).bind fun y4 =>
      some (!y4)
      else some false).bind fun c10 =>
      if c10 then
        (app list [i]).bind fun l =>
        spec_l1Cur_route_L2 fu n' y seen fk l (w64 (i + 1))
      else
        spec_l1Cur_route_L2 fu n' y seen fk list (w64 (i + 1))
    else
      some (list,i)
def spec_l1Cur_route_L1 (fu:Nat) (n':Network) (y:Int×L1CurP):Nat→List Int→Int→List Int→List By→Int→U64→Option (List Int×Int×List Int×List By×Int×U64)
  | 0,_,_,_,_,_,_=>none
  | fk + 1,seen,m,m2,m3,m4,m5 =>
    if decide (m > 0) then
      (spec_l1Cur_route_L2 fu n' y seen fu ([]:List Int) 0).bind fun z =>
      if (z.1.length:Int)==0 then
        some (seen,m,m2,m3,m4,m5)
      else
        (spec_l1Cur_pick fu ({ code:=m3,at_:=m4,seed:=m5 }:L1CurP) (z.1.length:Int)).bind fun y5 =>
        (idx z.1 y5.1).bind fun e2 =>
        (app m2 [e2]).bind fun l2 =>
        (idx seen (w64 ((seen.length:Int) - 1))).bind fun e3 =>
        (spec_l2Other fu n' e2 e3).bind fun y6 =>
        (app seen [y6]).bind fun l3 =>
        spec_l1Cur_route_L1 fu n' y fk l3 (w64 (m - 1)) l2 y5.2.code y5.2.at_ y5.2.seed
    else
      some (seen,m,m2,m3,m4,m5)
def spec_l1Cur_route (fu:Nat) (c:L1CurP) (n':Network):Option (Route×L1CurP) :=
  (spec_l1Cur_pick fu c (n'.Nodes.length:Int)).bind fun y =>
  (spec_l1Cur_pick fu y.2 4).bind fun y2 =>
  (spec_l1Cur_route_L1 fu n' y fu [y.1] (w64 (1 + y2.1)) ([]:List Int) y2.2.code y2.2.at_ y2.2.seed).bind fun z2 =>
  some (({ Start:=y.1,Fibers:=z2.2.2.1 }:Route),({ code:=z2.2.2.2.1,at_:=z2.2.2.2.2.1,seed:=z2.2.2.2.2.2 }:L1CurP))
def spec_l1Cur_routed (fu:Nat) (c:L1CurP) (n':Network):Option (Route×L1CurP) :=
  (spec_l1Cur_route fu c n').bind fun y =>
  if (y.1.Fibers.length:Int)==0 then
    (idx n'.Fibers 0).bind fun e =>
    some (({ Start:=e.A,Fibers:=[0] }:Route),y.2)
  else
    some (y.1,y.2)
def spec_l8Bits (fu:Nat) (b':Block):Option (Int) :=
  (shl 1 (wu64 b'.Count)).bind fun q =>
  (shl (w64 (q - 1)) (wu64 b'.First)).bind fun q2 =>
  some q2
def spec_l9Used_L1 (fu:Nat) (p:Plan) (fiber:Int):Nat→Int→Int→Option (Int×Int)
  | 0,_,_=>none
  | fk + 1,out',i =>
    if decide (i<(p.Lights.length:Int)) then
      (idx p.Lights i).bind fun e =>
      (spec_l1Has fu e.Route.Fibers fiber).bind fun y =>
      if y then
        (idx p.Lights i).bind fun e2 =>
        (spec_l8Bits fu e2.Block).bind fun y2 =>
        spec_l9Used_L1 fu p fiber fk (bor out' y2) (w64 (i + 1))
      else
        spec_l9Used_L1 fu p fiber fk out' (w64 (i + 1))
    else
      some (out',i)
def spec_l9Used (fu:Nat) (p:Plan) (fiber:Int):Option (Int) :=
  (spec_l9Used_L1 fu p fiber fu 0 0).bind fun z =>
  some z.1
def spec_l9Along_L1 (fu:Nat) (p:Plan) (r':Route):Nat→Int→Int→Option (Int×Int)
  | 0,_,_=>none
  | fk + 1,out',i =>
    if decide (i<(r'.Fibers.length:Int)) then
      (idx r'.Fibers i).bind fun e =>
      (spec_l9Used fu p e).bind fun y =>
      spec_l9Along_L1 fu p r' fk (bor out' y) (w64 (i + 1))
    else
      some (out',i)
def spec_l9Along (fu:Nat) (p:Plan) (r':Route):Option (Int) :=
  (spec_l9Along_L1 fu p r' fu 0 0).bind fun z =>
  some z.1
def spec_l8Fits_L1 (fu:Nat) (mask:Int) (count:Int):Nat→List Int→Int→Option (List Int×Int)
  | 0,_,_=>none
  | fk + 1,out',s' =>
    if decide ((w64 (s' + count))≤24) then
      (spec_l8Bits fu ({ First:=s',Count:=count }:Block)).bind fun y =>
      if (band mask y)==0 then
        (app out' [s']).bind fun l =>
        spec_l8Fits_L1 fu mask count fk l (w64 (s' + 1))
      else
        spec_l8Fits_L1 fu mask count fk out' (w64 (s' + 1))
    else
      some (out',s')
def spec_l8Fits (fu:Nat) (mask:Int) (count:Int):Option (List Int) :=
  (spec_l8Fits_L1 fu mask count fu ([]:List Int) 0).bind fun z =>
  some z.1
def spec_l2Own (fu:Nat) (n':Network):Option (Network) :=
  (app ([]:List ByteArray) n'.Nodes).bind fun l =>
  (app ([]:List Fiber) n'.Fibers).bind fun l2 =>
  some ({ Nodes:=l,Fibers:=l2 }:Network)
def spec_l1Own (fu:Nat) (l:List Int):Option (List Int) :=
  (app ([]:List Int) l).bind fun l2 =>
  some l2
def spec_l4Own (fu:Nat) (r':Route):Option (Route) :=
  (spec_l1Own fu r'.Fibers).bind fun y =>
  some ({ Start:=r'.Start,Fibers:=y }:Route)
def spec_l9Copy (fu:Nat) (x1:Light):Option (Light) :=
  (spec_l4Own fu x1.Route).bind fun y =>
  some ({ Id:=x1.Id,Route:=y,Block:=x1.Block }:Light)
def spec_l9Own_L1 (fu:Nat) (p:Plan):Nat→Int→List Light→Option (Int×List Light)
  | 0,_,_=>none
  | fk + 1,i,m =>
    if decide (i<(p.Lights.length:Int)) then
      (idx p.Lights i).bind fun e =>
      (spec_l9Copy fu e).bind fun y2 =>
      (app m [y2]).bind fun al =>
      spec_l9Own_L1 fu p fk (w64 (i + 1)) al
    else
      some (i,m)
def spec_l9Own (fu:Nat) (p:Plan):Option (Plan) :=
  (spec_l2Own fu p.Network).bind fun y =>
  (spec_l9Own_L1 fu p fu 0 ([]:List Light)).bind fun z =>
  some ({ Network:=y,Lights:=z.2 }:Plan)
def spec_l9Put_L1 (fu:Nat) (x1:Light) (y:Plan):Nat→Int→Option (Int)
  | 0,_=>none
  | fk + 1,i =>
    (if decide (i<(y.Lights.length:Int)) then (idx y.Lights i).bind fun e =>
    some (decide (e.Id<x1.Id))
    else some false).bind fun c8 =>
    if c8 then
      spec_l9Put_L1 fu x1 y fk (w64 (i + 1))
    else
      some i
def spec_l9Put (fu:Nat) (p:Plan) (x1:Light):Option (Plan) :=
  (spec_l9Own fu p).bind fun y =>
  (spec_l9Put_L1 fu x1 y fu 0).bind fun z =>
  (sub y.Lights 0 z).bind fun l =>
  (sub y.Lights z (y.Lights.length:Int)).bind fun l2 =>
  (app ([]:List Light) l).bind fun l3 =>
  (spec_l9Copy fu x1).bind fun y2 =>
  (app l3 [y2]).bind fun l4 =>
  (app l4 l2).bind fun l5 =>
  some ({ Network:=y.Network,Lights:=l5 }:Plan)
def spec_l1Cur_plan_L1 (fu:Nat):Nat→Int→List ByteArray→List Fiber→List Light→List By→Int→U64→Option (Int×List ByteArray×List Fiber×List Light×List By×Int×U64)
  | 0,_,_,_,_,_,_,_=>none
  | fk + 1,n',m,m2,m3,m4,m5,m6 =>
    if decide (n' > 0) then
      (spec_l1Cur_routed fu ({ code:=m4,at_:=m5,seed:=m6 }:L1CurP) ({ Nodes:=m,Fibers:=m2 }:Network)).bind fun y3 =>
      (spec_l1Cur_pick fu y3.2 5).bind fun y4 =>
      (spec_l9Along fu ({ Network:=({ Nodes:=m,Fibers:=m2 }:Network),Lights:=m3 }:Plan) y3.1).bind fun y5 =>
      (spec_l8Fits fu y5 (w64 (1 + y4.1))).bind fun y6 =>
      if decide ((y6.length:Int) > 0) then
        (idx y6 0).bind fun e =>
        (spec_l1Cur_one fu y4.2 2).bind fun y7 =>
        if y7.1 then
          (spec_l1Cur_pick fu y7.2 (y6.length:Int)).bind fun y8 =>
          (idx y6 y8.1).bind fun e2 =>
          (spec_l1Cur_pick fu y8.2 3).bind fun y9 =>
          (spec_l9Put fu ({ Network:=({ Nodes:=m,Fibers:=m2 }:Network),Lights:=m3 }:Plan) ({ Id:=w64 ((w64 ((w64 ((m3.length:Int) * 3)) + 1)) + y9.1),Route:=y3.1,Block:=({ First:=e2,Count:=w64 (1 + y4.1) }:Block) }:Light)).bind fun y10 =>
          spec_l1Cur_plan_L1 fu fk (w64 (n' - 1)) y10.Network.Nodes y10.Network.Fibers y10.Lights y9.2.code y9.2.at_ y9.2.seed
        else
          (spec_l1Cur_pick fu y7.2 3).bind fun y11 =>
          (spec_l9Put fu ({ Network:=({ Nodes:=m,Fibers:=m2 }:Network),Lights:=m3 }:Plan) ({ Id:=w64 ((w64 ((w64 ((m3.length:Int) * 3)) + 1)) + y11.1),Route:=y3.1,Block:=({ First:=e,Count:=w64 (1 + y4.1) }:Block) }:Light)).bind fun y12 =>
          spec_l1Cur_plan_L1 fu fk (w64 (n' - 1)) y12.Network.Nodes y12.Network.Fibers y12.Lights y11.2.code y11.2.at_ y11.2.seed
      else
        spec_l1Cur_plan_L1 fu fk (w64 (n' - 1)) m m2 m3 y4.2.code y4.2.at_ y4.2.seed
    else
      some (n',m,m2,m3,m4,m5,m6)
def spec_l1Cur_plan (fu:Nat) (c:L1CurP):Option (Plan×L1CurP) :=
  (spec_l1Cur_linked fu c).bind fun y =>
  (spec_l1Cur_pick fu y.2 9).bind fun y2 =>
  (spec_l1Cur_plan_L1 fu fu y2.1 y.1.Nodes y.1.Fibers ([]:List Light) y2.2.code y2.2.at_ y2.2.seed).bind fun z =>
  some (({ Network:=({ Nodes:=z.2.1,Fibers:=z.2.2.1 }:Network),Lights:=z.2.2.2.1 }:Plan),({ code:=z.2.2.2.2.1,at_:=z.2.2.2.2.2.1,seed:=z.2.2.2.2.2.2 }:L1CurP))
def spec_l1Cur_block (fu:Nat) (c:L1CurP):Option (Block×L1CurP) :=
  (spec_l1Cur_one fu c 12).bind fun y =>
  if y.1 then
    (spec_l1Cur_pick fu y.2 26).bind fun y2 =>
    (spec_l1Cur_pick fu y2.2 27).bind fun y3 =>
    some (({ First:=w64 (y2.1 - 1),Count:=w64 (y3.1 - 1) }:Block),y3.2)
  else
    (spec_l1Cur_pick fu y.2 6).bind fun y4 =>
    (spec_l1Cur_pick fu y4.2 (w64 ((w64 (24 - (w64 (1 + y4.1)))) + 1))).bind fun y5 =>
    some (({ First:=y5.1,Count:=w64 (1 + y4.1) }:Block),y5.2)
def spec_l1Cur_anyRoute (fu:Nat) (c:L1CurP) (n':Network):Option (Route×L1CurP) :=
  (spec_l1Cur_route fu c n').bind fun y =>
  (spec_l1Cur_pick fu y.2 16).bind fun y2 =>
  if y2.1==0 then
    (spec_l1Cur_pick fu y2.2 8).bind fun y3 =>
    some (({ Start:=w64 (y3.1 - 1),Fibers:=y.1.Fibers }:Route),y3.2)
  else
    if y2.1==1 then
      (spec_l1Cur_pick fu y2.2 8).bind fun y4 =>
      (app y.1.Fibers [w64 (y4.1 - 1)]).bind fun l =>
      some (({ Start:=y.1.Start,Fibers:=l }:Route),y4.2)
    else
      if y2.1==2 then
        some (({ Start:=y.1.Start,Fibers:=([]:List Int) }:Route),y2.2)
      else
        if y2.1==3 then
          if decide ((y.1.Fibers.length:Int) > 1) then
            (idx y.1.Fibers (w64 ((y.1.Fibers.length:Int) - 1))).bind fun e =>
            (app y.1.Fibers [e]).bind fun l2 =>
            some (({ Start:=y.1.Start,Fibers:=l2 }:Route),y2.2)
          else
            some (y.1,y2.2)
        else
          some (y.1,y2.2)
def spec_l1Cur_of (fu:Nat) (c:L1CurP) (list:List ByteArray):Option (ByteArray×L1CurP) :=
  (spec_l1Cur_pick fu c (list.length:Int)).bind fun y =>
  (idx list y.1).bind fun e =>
  some (e,y.2)
def spec_l1Cur_anyNetwork_L1 (fu:Nat):Nat→List Fiber→List By→Int→U64→Option (List Fiber×List By×Int×U64)
  | 0,_,_,_,_=>none
  | fk + 1,m,m2,m3,m4 =>
    (spec_l1Cur_pick fu ({ code:=m2,at_:=m3,seed:=m4 }:L1CurP) 2).bind fun y9 =>
    if decide ((m.length:Int)<(w64 (14 + y9.1))) then
      (idx m (w64 ((m.length:Int) - 1))).bind fun e10 =>
      (app m [e10]).bind fun l2 =>
      spec_l1Cur_anyNetwork_L1 fu fk l2 y9.2.code y9.2.at_ y9.2.seed
    else
      some (m,y9.2.code,y9.2.at_,y9.2.seed)
def spec_l1Cur_anyNetwork (fu:Nat) (c:L1CurP):Option (Network×L1CurP) :=
  (spec_l1Cur_network fu c).bind fun y =>
  if (y.1.Fibers.length:Int)==0 then
    some (y.1,y.2)
  else
    (spec_l1Cur_pick fu y.2 (y.1.Fibers.length:Int)).bind fun y2 =>
    (idx y.1.Fibers y2.1).bind fun e =>
    (spec_l1Cur_pick fu y2.2 24).bind fun y3 =>
    if y3.1==0 then
      (spec_l1Cur_of fu y3.2 [(⟨#[98]⟩:ByteArray),ByteArray.empty,(⟨#[65]⟩:ByteArray),(⟨#[97,98,99,100,101,102,103,104]⟩:ByteArray),(⟨#[97,98,99,100,101,102,103,104,105]⟩:ByteArray),(⟨#[120,49]⟩:ByteArray)]).bind fun y4 =>
      (idx y.1.Nodes 0).bind fun e2 =>
      (idx y.1.Fibers y2.1).bind fun e3 =>
      some (({ Nodes:=y.1.Nodes.set (0:Int).toNat y4.1,Fibers:=y.1.Fibers.set (y2.1:Int).toNat e }:Network),y4.2)
    else
      if y3.1==1 then
        (spec_l1Cur_pick fu y3.2 8).bind fun y5 =>
        (idx y.1.Fibers y2.1).bind fun e4 =>
        some (({ Nodes:=y.1.Nodes,Fibers:=y.1.Fibers.set (y2.1:Int).toNat ({ A:=w64 (y5.1 - 1),B:=e.B,Length:=e.Length,Risk:=e.Risk }:Fiber) }:Network),y5.2)
      else
        if y3.1==2 then
          (spec_l1Cur_pick fu y3.2 10).bind fun y6 =>
          (idx y.1.Fibers y2.1).bind fun e5 =>
          some (({ Nodes:=y.1.Nodes,Fibers:=y.1.Fibers.set (y2.1:Int).toNat ({ A:=e.A,B:=w64 (y6.1 - 1),Length:=e.Length,Risk:=e.Risk }:Fiber) }:Network),y6.2)
        else
          if y3.1==3 then
            (spec_l1Cur_among fu y3.2 [0,1,5000,5001]).bind fun y7 =>
            (idx y.1.Fibers y2.1).bind fun e6 =>
            some (({ Nodes:=y.1.Nodes,Fibers:=y.1.Fibers.set (y2.1:Int).toNat ({ A:=e.A,B:=e.B,Length:=y7.1,Risk:=e.Risk }:Fiber) }:Network),y7.2)
          else
            if y3.1==4 then
              (spec_l1Cur_among fu y3.2 [(-1),9,10]).bind fun y8 =>
              (idx y.1.Fibers y2.1).bind fun e7 =>
              some (({ Nodes:=y.1.Nodes,Fibers:=y.1.Fibers.set (y2.1:Int).toNat ({ A:=e.A,B:=e.B,Length:=e.Length,Risk:=y8.1 }:Fiber) }:Network),y8.2)
            else
              if y3.1==5 then
                (idx y.1.Fibers 0).bind fun e8 =>
                (app y.1.Fibers [e8]).bind fun l =>
                (idx l y2.1).bind fun e9 =>
                some (({ Nodes:=y.1.Nodes,Fibers:=l.set (y2.1:Int).toNat e }:Network),y3.2)
              else
                if y3.1==6 then
                  (spec_l1Cur_anyNetwork_L1 fu fu y.1.Fibers y3.2.code y3.2.at_ y3.2.seed).bind fun z =>
                  some (({ Nodes:=y.1.Nodes,Fibers:=z.1 }:Network),({ code:=z.2.1,at_:=z.2.2.1,seed:=z.2.2.2 }:L1CurP))
                else
                  if y3.1==7 then
                    (app y.1.Nodes [(⟨#[112]⟩:ByteArray),(⟨#[113]⟩:ByteArray),(⟨#[114]⟩:ByteArray),(⟨#[115]⟩:ByteArray)]).bind fun l3 =>
                    (idx y.1.Fibers y2.1).bind fun e11 =>
                    some (({ Nodes:=l3,Fibers:=y.1.Fibers.set (y2.1:Int).toNat e }:Network),y3.2)
                  else
                    (idx y.1.Fibers y2.1).bind fun e12 =>
                    some (({ Nodes:=y.1.Nodes,Fibers:=y.1.Fibers.set (y2.1:Int).toNat e }:Network),y3.2)
def spec_l1Cur_anyPlan_L1 (fu:Nat) (y:Plan×L1CurP):Nat→Int→List Light→List By→Int→U64→Option (Int×List Light×List By×Int×U64)
  | 0,_,_,_,_,_=>none
  | fk + 1,n',m,m2,m3,m4 =>
    (spec_l1Cur_pick fu ({ code:=m2,at_:=m3,seed:=m4 }:L1CurP) 2).bind fun y8 =>
    if decide ((m.length:Int)<(w64 (12 + y8.1))) then if decide (n'<14) then
      (idx y.1.Network.Fibers 0).bind fun e7 =>
      (app m [({ Id:=w64 (500 + n'),Route:=({ Start:=e7.A,Fibers:=[0] }:Route),Block:=({ First:=w64 (23 - n'),Count:=1 }:Block) }:Light)]).bind fun l2 =>
      spec_l1Cur_anyPlan_L1 fu y fk (w64 (n' + 1)) l2 y8.2.code y8.2.at_ y8.2.seed
    else
      some (n',m,y8.2.code,y8.2.at_,y8.2.seed)
    else some (n',m,y8.2.code,y8.2.at_,y8.2.seed)
def spec_l1Cur_anyPlan (fu:Nat) (c:L1CurP):Option (Plan×L1CurP) :=
  (spec_l1Cur_plan fu c).bind fun y =>
  if (y.1.Lights.length:Int)==0 then
    some (y.1,y.2)
  else
    (spec_l1Cur_pick fu y.2 (y.1.Lights.length:Int)).bind fun y2 =>
    (idx y.1.Lights y2.1).bind fun e =>
    (spec_l1Cur_pick fu y2.2 24).bind fun y3 =>
    if y3.1==0 then
      (spec_l1Cur_among fu y3.2 [0,999,1000,1,4]).bind fun y4 =>
      (idx y.1.Lights y2.1).bind fun e2 =>
      some (({ Network:=y.1.Network,Lights:=y.1.Lights.set (y2.1:Int).toNat ({ Id:=y4.1,Route:=e.Route,Block:=e.Block }:Light) }:Plan),y4.2)
    else
      if y3.1==1 then
        (spec_l1Cur_block fu y3.2).bind fun y5 =>
        (idx y.1.Lights y2.1).bind fun e3 =>
        some (({ Network:=y.1.Network,Lights:=y.1.Lights.set (y2.1:Int).toNat ({ Id:=e.Id,Route:=e.Route,Block:=y5.1 }:Light) }:Plan),y5.2)
      else
        if y3.1==2 then
          (spec_l1Cur_anyRoute fu y3.2 y.1.Network).bind fun y6 =>
          (idx y.1.Lights y2.1).bind fun e4 =>
          some (({ Network:=y.1.Network,Lights:=y.1.Lights.set (y2.1:Int).toNat ({ Id:=e.Id,Route:=y6.1,Block:=e.Block }:Light) }:Plan),y6.2)
        else
          if y3.1==3 then
            (app y.1.Lights [e]).bind fun l =>
            (idx l y2.1).bind fun e5 =>
            some (({ Network:=y.1.Network,Lights:=l.set (y2.1:Int).toNat e }:Plan),y3.2)
          else
            if y3.1==4 then
              (spec_l1Cur_anyNetwork fu y3.2).bind fun y7 =>
              (idx y.1.Lights y2.1).bind fun e6 =>
              some (({ Network:=y7.1,Lights:=y.1.Lights.set (y2.1:Int).toNat e }:Plan),y7.2)
            else
              if y3.1==5 then
                (spec_l1Cur_anyPlan_L1 fu y fu 0 y.1.Lights y3.2.code y3.2.at_ y3.2.seed).bind fun z =>
                some (({ Network:=y.1.Network,Lights:=z.2.1 }:Plan),({ code:=z.2.2.1,at_:=z.2.2.2.1,seed:=z.2.2.2.2 }:L1CurP))
              else
                (idx y.1.Lights y2.1).bind fun e8 =>
                some (({ Network:=y.1.Network,Lights:=y.1.Lights.set (y2.1:Int).toNat e }:Plan),y3.2)
def spec_l1In (fu:Nat) (x1:Int) (a':Int) (b':Int):Option (Bool) :=
  (if decide (x1≥a') then some (decide (x1≤b'))
  else some false).bind fun c =>
  some c
def spec_l2Sign (fu:Nat) (b':By):Option (Bool) :=
  (if decide (b'.n≥97) then if decide (b'.n≤122) then some true
  else if decide (b'.n≥48) then some (decide (b'.n≤57))
  else some false
  else if decide (b'.n≥48) then some (decide (b'.n≤57))
  else some false).bind fun c =>
  some c
def spec_l2Name_L1 (fu:Nat) (s':ByteArray):Nat→Int→Option (Out (Int) (Bool))
  | 0,_=>none
  | fk + 1,i =>
    if decide (i<(s'.size:Int)) then
      (sidx s' i).bind fun e3 =>
      (spec_l2Sign fu e3).bind fun y2 =>
      if !y2 then
        some (.ret false)
      else
        spec_l2Name_L1 fu s' fk (w64 (i + 1))
    else
      some (.next i)
def spec_l2Name (fu:Nat) (s':ByteArray):Option (Bool) :=
  ((spec_l1In fu (s'.size:Int) 1 8).bind fun y =>
  if !y then some true
  else (sidx s' 0).bind fun e =>
  if decide (e.n<97) then some true
  else (sidx s' 0).bind fun e2 =>
  some (decide (e2.n > 122))).bind fun c =>
  if c then
    some false
  else
    (spec_l2Name_L1 fu s' fu 0).bind fun out=>out.on some fun z =>
    some true
def spec_l2Find_L1 (fu:Nat) (list:List ByteArray) (name:ByteArray):Nat→Int→Option (Out (Int) (Int))
  | 0,_=>none
  | fk + 1,i =>
    if decide (i<(list.length:Int)) then
      (idx list i).bind fun e =>
      if e.toList==name.toList then
        some (.ret i)
      else
        spec_l2Find_L1 fu list name fk (w64 (i + 1))
    else
      some (.next i)
def spec_l2Find (fu:Nat) (list:List ByteArray) (name:ByteArray):Option (Int) :=
  (spec_l2Find_L1 fu list name fu 0).bind fun out=>out.on some fun z =>
  some (-1)
def spec_l2Fiber (fu:Nat) (f:Fiber) (nodes:Int):Option (Bool) :=
  ((spec_l1In fu f.A 0 (w64 (nodes - 1))).bind fun y =>
  if y then (spec_l1In fu f.B (w64 (f.A + 1)) (w64 (nodes - 1))).bind fun y2 =>
  if y2 then (spec_l1In fu f.Length 1 5000).bind fun y3 =>
  if y3 then (spec_l1In fu f.Risk 0 9).bind fun y4 =>
  some y4
  else some false
  else some false
  else some false).bind fun c =>
  some c
def spec_l2Good_L1 (fu:Nat) (n':Network):Nat→Int→Option (Out (Int) (Bool))
  | 0,_=>none
  | fk + 1,i =>
    if decide (i<(n'.Nodes.length:Int)) then
      ((idx n'.Nodes i).bind fun e =>
      (spec_l2Name fu e).bind fun y2 =>
      if !y2 then some true
      else (idx n'.Nodes i).bind fun e2 =>
      (spec_l2Find fu n'.Nodes e2).bind fun y3 =>
      some (y3 != i)).bind fun c4 =>
      if c4 then
        some (.ret false)
      else
        spec_l2Good_L1 fu n' fk (w64 (i + 1))
    else
      some (.next i)
def spec_l2Good_L2 (fu:Nat) (n':Network):Nat→Int→Option (Out (Int) (Bool))
  | 0,_=>none
  | fk + 1,i3 =>
    if decide (i3<(n'.Fibers.length:Int)) then
      ((idx n'.Fibers i3).bind fun e3 =>
      (spec_l2Fiber fu e3 (n'.Nodes.length:Int)).bind fun y4 =>
      if !y4 then some true
      else if decide (i3 > 0) then (idx n'.Fibers (w64 (i3 - 1))).bind fun e4 =>
      (idx n'.Fibers i3).bind fun e5 =>
      (spec_l2Before fu e4 e5).bind fun y5 =>
      some (decide (y5 > 0))
      else some false).bind fun c5 =>
      if c5 then
        some (.ret false)
      else
        spec_l2Good_L2 fu n' fk (w64 (i3 + 1))
    else
      some (.next i3)
def spec_l2Good (fu:Nat) (n':Network):Option (Bool) :=
  ((spec_l1In fu (n'.Nodes.length:Int) 2 8).bind fun y =>
  if !y then some true
  else some (decide ((n'.Fibers.length:Int) > 14))).bind fun c3 =>
  if c3 then
    some false
  else
    (spec_l2Good_L1 fu n' fu 0).bind fun out=>out.on some fun z2 =>
    (spec_l2Good_L2 fu n' fu 0).bind fun out=>out.on some fun z =>
    some true
def spec_l4Walk_L1 (fu:Nat) (n':Network) (r':Route):Nat→List Int→Int→Option (Out (List Int×Int) (List Int×Bool))
  | 0,_,_=>none
  | fk + 1,out',i =>
    if decide (i<(r'.Fibers.length:Int)) then
      (idx r'.Fibers i).bind fun e =>
      (spec_l1In fu e 0 (w64 ((n'.Fibers.length:Int) - 1))).bind fun y2 =>
      if !y2 then
        some (.ret (out',false))
      else
        (idx r'.Fibers i).bind fun e2 =>
        (idx out' (w64 ((out'.length:Int) - 1))).bind fun e3 =>
        (spec_l2Other fu n' e2 e3).bind fun y3 =>
        (if decide (y3<0) then some true
        else (spec_l1Has fu out' y3).bind fun y4 =>
        some y4).bind fun c6 =>
        if c6 then
          some (.ret (out',false))
        else
          (app out' [y3]).bind fun l =>
          spec_l4Walk_L1 fu n' r' fk l (w64 (i + 1))
    else
      some (.next (out',i))
def spec_l4Walk (fu:Nat) (n':Network) (r':Route):Option (List Int×Bool) :=
  ((spec_l1In fu r'.Start 0 (w64 ((n'.Nodes.length:Int) - 1))).bind fun y =>
  if !y then some true
  else some ((r'.Fibers.length:Int)==0)).bind fun c4 =>
  if c4 then
    some ([r'.Start],false)
  else
    (spec_l4Walk_L1 fu n' r' fu [r'.Start] 0).bind fun out=>out.on some fun z =>
    some (z.1,true)
def spec_l4Good (fu:Nat) (n':Network) (r':Route):Option (Bool) :=
  (spec_l2Good fu n').bind fun y =>
  if !y then
    some false
  else
    (spec_l4Walk fu n' r').bind fun y2 =>
    some y2.2
def spec_l8Good (fu:Nat) (b':Block):Option (Bool) :=
  ((spec_l1In fu b'.First 0 23).bind fun y =>
  if y then (spec_l1In fu b'.Count 1 (w64 (24 - b'.First))).bind fun y2 =>
  some y2
  else some false).bind fun c =>
  some c
def spec_l9Light (fu:Nat) (n':Network) (x1:Light):Option (Bool) :=
  ((spec_l1In fu x1.Id 1 999).bind fun y =>
  if y then (spec_l4Good fu n' x1.Route).bind fun y2 =>
  if y2 then (spec_l8Good fu x1.Block).bind fun y3 =>
  some y3
  else some false
  else some false).bind fun c4 =>
  some c4
def spec_l4Uses_L1 (fu:Nat) (r':Route) (group:List Int):Nat→Int→Option (Out (Int) (Bool))
  | 0,_=>none
  | fk + 1,i =>
    if decide (i<(r'.Fibers.length:Int)) then
      (idx r'.Fibers i).bind fun e =>
      (spec_l1Has fu group e).bind fun y =>
      if y then
        some (.ret true)
      else
        spec_l4Uses_L1 fu r' group fk (w64 (i + 1))
    else
      some (.next i)
def spec_l4Uses (fu:Nat) (r':Route) (group:List Int):Option (Bool) :=
  (spec_l4Uses_L1 fu r' group fu 0).bind fun out=>out.on some fun z =>
  some false
def spec_l9Collide (fu:Nat) (x1:Light) (y:Light):Option (Bool) :=
  ((spec_l4Uses fu x1.Route y.Route.Fibers).bind fun y2 =>
  if y2 then (spec_l8Bits fu x1.Block).bind fun y3 =>
  (spec_l8Bits fu y.Block).bind fun y4 =>
  some ((band y3 y4) != 0)
  else some false).bind fun c3 =>
  some c3
def spec_l9Good_L2 (fu:Nat) (p:Plan) (i:Int):Nat→Int→Option (Out (Int) (Bool))
  | 0,_=>none
  | fk + 1,k' =>
    if decide (k'<i) then
      (idx p.Lights k').bind fun e4 =>
      (idx p.Lights i).bind fun e5 =>
      (spec_l9Collide fu e4 e5).bind fun y3 =>
      if y3 then
        some (.ret false)
      else
        spec_l9Good_L2 fu p i fk (w64 (k' + 1))
    else
      some (.next k')
def spec_l9Good_L1 (fu:Nat) (p:Plan):Nat→Int→Option (Out (Int) (Bool))
  | 0,_=>none
  | fk + 1,i =>
    if decide (i<(p.Lights.length:Int)) then
      ((idx p.Lights i).bind fun e =>
      (spec_l9Light fu p.Network e).bind fun y2 =>
      if !y2 then some true
      else if decide (i > 0) then (idx p.Lights (w64 (i - 1))).bind fun e2 =>
      (idx p.Lights i).bind fun e3 =>
      some (decide (e2.Id≥e3.Id))
      else some false).bind fun c5 =>
      if c5 then
        some (.ret false)
      else
        (spec_l9Good_L2 fu p i fu 0).bind fun out=>out.on (fun r=>some (.ret r)) fun z =>
        spec_l9Good_L1 fu p fk (w64 (i + 1))
    else
      some (.next i)
def spec_l9Good (fu:Nat) (p:Plan):Option (Bool) :=
  ((spec_l2Good fu p.Network).bind fun y =>
  if !y then some true
  else some (decide ((p.Lights.length:Int) > 12))).bind fun c4 =>
  if c4 then
    some false
  else
    (spec_l9Good_L1 fu p fu 0).bind fun out=>out.on some fun z2 =>
    some true
def spec_l15Copy_L1 (fu:Nat) (list:List Light):Nat→List Light→Int→Option (List Light×Int)
  | 0,_,_=>none
  | fk + 1,out',i =>
    if decide (i<(list.length:Int)) then
      (idx list i).bind fun e =>
      (spec_l9Copy fu e).bind fun y =>
      (app out' [y]).bind fun al =>
      spec_l15Copy_L1 fu list fk al (w64 (i + 1))
    else
      some (out',i)
def spec_l15Copy (fu:Nat) (list:List Light):Option (List Light) :=
  (spec_l15Copy_L1 fu list fu ([]:List Light) 0).bind fun z =>
  some z.1
def spec_StartRestoration (fu:Nat) (p:Plan):Option (Restoration×Bool) :=
  (spec_l9Good fu p).bind fun y =>
  if !y then
    some (({ Plan:=({ Network:=({ Nodes:=[],Fibers:=[] }:Network),Lights:=[] }:Plan),Home:=[],Down:=[] }:Restoration),false)
  else
    (spec_l9Own fu p).bind fun y2 =>
    (spec_l15Copy fu p.Lights).bind fun y3 =>
    some (({ Plan:=y2,Home:=y3,Down:=([]:List Int) }:Restoration),true)
def spec_l1Cur_some15_L1 (fu:Nat) (n':Network):Nat→List Int→Int→List By→Int→U64→Option (List Int×Int×List By×Int×U64)
  | 0,_,_,_,_,_=>none
  | fk + 1,out',i,m,m2,m3 =>
    if decide (i<(n'.Fibers.length:Int)) then
      (spec_l1Cur_one fu ({ code:=m,at_:=m2,seed:=m3 }:L1CurP) 4).bind fun y =>
      if y.1 then
        (app out' [i]).bind fun l =>
        spec_l1Cur_some15_L1 fu n' fk l (w64 (i + 1)) y.2.code y.2.at_ y.2.seed
      else
        spec_l1Cur_some15_L1 fu n' fk out' (w64 (i + 1)) y.2.code y.2.at_ y.2.seed
    else
      some (out',i,m,m2,m3)
def spec_l1Cur_some15 (fu:Nat) (c:L1CurP) (n':Network):Option (List Int×L1CurP) :=
  (spec_l1Cur_some15_L1 fu n' fu ([]:List Int) 0 c.code c.at_ c.seed).bind fun z =>
  (spec_l1Cur_one fu ({ code:=z.2.2.1,at_:=z.2.2.2.1,seed:=z.2.2.2.2 }:L1CurP) 40).bind fun y2 =>
  if y2.1 then
    (spec_l1Cur_pick fu y2.2 16).bind fun y3 =>
    (app z.1 [w64 (y3.1 - 1)]).bind fun l2 =>
    some (l2,y3.2)
  else
    some (z.1,y2.2)
def spec_l1Rising_L1 (fu:Nat) (l:List Int) (lo:Int) (hi:Int):Nat→Int→Option (Out (Int) (Bool))
  | 0,_=>none
  | fk + 1,i =>
    if decide (i<(l.length:Int)) then
      ((idx l i).bind fun e =>
      (spec_l1In fu e lo hi).bind fun y =>
      if !y then some true
      else if decide (i > 0) then (idx l (w64 (i - 1))).bind fun e2 =>
      (idx l i).bind fun e3 =>
      some (decide (e2≥e3))
      else some false).bind fun c2 =>
      if c2 then
        some (.ret false)
      else
        spec_l1Rising_L1 fu l lo hi fk (w64 (i + 1))
    else
      some (.next i)
def spec_l1Rising (fu:Nat) (l:List Int) (lo:Int) (hi:Int):Option (Bool) :=
  (spec_l1Rising_L1 fu l lo hi fu 0).bind fun out=>out.on some fun z =>
  some true
def spec_l15Find_L1 (fu:Nat) (list:List Light) (id:Int):Nat→Int→Option (Out (Int) (Int))
  | 0,_=>none
  | fk + 1,i =>
    if decide (i<(list.length:Int)) then
      (idx list i).bind fun e =>
      if e.Id==id then
        some (.ret i)
      else
        spec_l15Find_L1 fu list id fk (w64 (i + 1))
    else
      some (.next i)
def spec_l15Find (fu:Nat) (list:List Light) (id:Int):Option (Int) :=
  (spec_l15Find_L1 fu list id fu 0).bind fun out=>out.on some fun z =>
  some (-1)
def spec_l4Nodes (fu:Nat) (n':Network) (r':Route):Option (List Int) :=
  (spec_l4Walk fu n' r').bind fun y =>
  some y.1
def spec_l4End (fu:Nat) (n':Network) (r':Route):Option (Int) :=
  (spec_l4Nodes fu n' r').bind fun y =>
  (idx y (w64 ((y.length:Int) - 1))).bind fun e =>
  some e
def spec_l15Good_L1 (fu:Nat) (r':Restoration):Nat→Int→Option (Out (Int) (Bool))
  | 0,_=>none
  | fk + 1,i =>
    if decide (i<(r'.Plan.Lights.length:Int)) then
      (idx r'.Plan.Lights i).bind fun e =>
      (spec_l15Find fu r'.Home e.Id).bind fun y4 =>
      (if decide (y4<0) then some true
      else (spec_l4Uses fu e.Route r'.Down).bind fun y5 =>
      some y5).bind fun c8 =>
      if c8 then
        some (.ret false)
      else
        (idx r'.Home y4).bind fun e2 =>
        (if e.Route.Start != e2.Route.Start then some true
        else (spec_l4End fu r'.Plan.Network e.Route).bind fun y6 =>
        (spec_l4End fu r'.Plan.Network e2.Route).bind fun y7 =>
        if y6 != y7 then some true
        else some (e.Block.Count != e2.Block.Count)).bind fun c10 =>
        if c10 then
          some (.ret false)
        else
          spec_l15Good_L1 fu r' fk (w64 (i + 1))
    else
      some (.next i)
def spec_l15Good (fu:Nat) (r':Restoration):Option (Bool) :=
  ((spec_l9Good fu r'.Plan).bind fun y =>
  if !y then some true
  else (spec_l9Good fu ({ Network:=r'.Plan.Network,Lights:=r'.Home }:Plan)).bind fun y2 =>
  if !y2 then some true
  else (spec_l1Rising fu r'.Down 0 (w64 ((r'.Plan.Network.Fibers.length:Int) - 1))).bind fun y3 =>
  some (!y3)).bind fun c6 =>
  if c6 then
    some false
  else
    (spec_l15Good_L1 fu r' fu 0).bind fun out=>out.on some fun z =>
    some true
def spec_l15Fibers (fu:Nat) (r':Restoration) (fibers:List Int):Option (Bool) :=
  ((spec_l15Good fu r').bind fun y =>
  if y then (spec_l1Rising fu fibers 0 (w64 ((r'.Plan.Network.Fibers.length:Int) - 1))).bind fun y2 =>
  some y2
  else some false).bind fun c7 =>
  some c7
def spec_l15Own (fu:Nat) (r':Restoration):Option (Restoration) :=
  (spec_l9Own fu r'.Plan).bind fun y =>
  (spec_l15Copy fu r'.Home).bind fun y2 =>
  (spec_l1Own fu r'.Down).bind fun y3 =>
  some ({ Plan:=y,Home:=y2,Down:=y3 }:Restoration)
def spec_l15Repair_L1 (fu:Nat) (r':Restoration) (fibers:List Int):Nat→Int→List Int→Option (Int×List Int)
  | 0,_,_=>none
  | fk + 1,i,m =>
    if decide (i<(r'.Down.length:Int)) then
      (idx r'.Down i).bind fun e =>
      (spec_l1Has fu fibers e).bind fun y2 =>
      if !y2 then
        (idx r'.Down i).bind fun e2 =>
        (app m [e2]).bind fun l =>
        spec_l15Repair_L1 fu r' fibers fk (w64 (i + 1)) l
      else
        spec_l15Repair_L1 fu r' fibers fk (w64 (i + 1)) m
    else
      some (i,m)
def spec_l15Repair (fu:Nat) (r':Restoration) (fibers:List Int):Option (Restoration) :=
  (spec_l15Own fu r').bind fun y =>
  (spec_l15Repair_L1 fu r' fibers fu 0 ([]:List Int)).bind fun z =>
  some ({ Plan:=y.Plan,Home:=y.Home,Down:=z.2 }:Restoration)
def spec_l9Find_L1 (fu:Nat) (p:Plan) (id:Int):Nat→Int→Option (Out (Int) (Int))
  | 0,_=>none
  | fk + 1,i =>
    if decide (i<(p.Lights.length:Int)) then
      (idx p.Lights i).bind fun e =>
      if e.Id==id then
        some (.ret i)
      else
        spec_l9Find_L1 fu p id fk (w64 (i + 1))
    else
      some (.next i)
def spec_l9Find (fu:Nat) (p:Plan) (id:Int):Option (Int) :=
  (spec_l9Find_L1 fu p id fu 0).bind fun out=>out.on some fun z =>
  some (-1)
def spec_l15Waiting_L1 (fu:Nat) (r':Restoration):Nat→List Int→Int→Option (List Int×Int)
  | 0,_,_=>none
  | fk + 1,out',i =>
    if decide (i<(r'.Home.length:Int)) then
      (idx r'.Home i).bind fun e =>
      (spec_l9Find fu r'.Plan e.Id).bind fun y =>
      if decide (y<0) then
        (app out' [i]).bind fun l =>
        spec_l15Waiting_L1 fu r' fk l (w64 (i + 1))
      else
        spec_l15Waiting_L1 fu r' fk out' (w64 (i + 1))
    else
      some (out',i)
def spec_l15Waiting (fu:Nat) (r':Restoration):Option (List Int) :=
  (spec_l15Waiting_L1 fu r' fu ([]:List Int) 0).bind fun z =>
  some z.1
def spec_l4Pair (fu:Nat) (n':Network) (from':Int) (to:Int):Option (Bool) :=
  ((spec_l2Good fu n').bind fun y =>
  if y then (spec_l1In fu from' 0 (w64 ((n'.Nodes.length:Int) - 1))).bind fun y2 =>
  if y2 then (spec_l1In fu to 0 (w64 ((n'.Nodes.length:Int) - 1))).bind fun y3 =>
  if y3 then some (from' != to)
  else some false
  else some false
  else some false).bind fun c3 =>
  some c3
def spec_l4Length_L1 (fu:Nat) (n':Network) (r':Route):Nat→Int→Int→Option (Int×Int)
  | 0,_,_=>none
  | fk + 1,sum,i =>
    if decide (i<(r'.Fibers.length:Int)) then
      (idx r'.Fibers i).bind fun e =>
      (idx n'.Fibers e).bind fun e2 =>
      spec_l4Length_L1 fu n' r' fk (w64 (sum + e2.Length)) (w64 (i + 1))
    else
      some (sum,i)
def spec_l4Length (fu:Nat) (n':Network) (r':Route):Option (Int) :=
  (spec_l4Length_L1 fu n' r' fu 0 0).bind fun z =>
  some z.1
def spec_l4Sign (fu:Nat) (x1:Int):Option (Int) :=
  if decide (x1<0) then
    some (-1)
  else
    if decide (x1 > 0) then
      some 1
    else
      some 0
def spec_l4Compare_L1 (fu:Nat) (a':Route) (b':Route):Nat→Int→Option (Out (Int) (Int))
  | 0,_=>none
  | fk + 1,i =>
    if decide (i<(a'.Fibers.length:Int)) then
      (idx a'.Fibers i).bind fun e =>
      (idx b'.Fibers i).bind fun e2 =>
      if e != e2 then
        (idx a'.Fibers i).bind fun e3 =>
        (idx b'.Fibers i).bind fun e4 =>
        (spec_l4Sign fu (w64 (e3 - e4))).bind fun y5 =>
        some (.ret y5)
      else
        spec_l4Compare_L1 fu a' b' fk (w64 (i + 1))
    else
      some (.next i)
def spec_l4Compare (fu:Nat) (n':Network) (a':Route) (b':Route):Option (Int) :=
  (spec_l4Length fu n' a').bind fun y =>
  (spec_l4Length fu n' b').bind fun y2 =>
  if (w64 (y - y2)) != 0 then
    (spec_l4Sign fu (w64 (y - y2))).bind fun y3 =>
    some y3
  else
    if (w64 ((a'.Fibers.length:Int) - (b'.Fibers.length:Int))) != 0 then
      (spec_l4Sign fu (w64 ((a'.Fibers.length:Int) - (b'.Fibers.length:Int)))).bind fun y4 =>
      some y4
    else
      (spec_l4Compare_L1 fu a' b' fu 0).bind fun out=>out.on some fun z =>
      (spec_l4Sign fu (w64 (a'.Start - b'.Start))).bind fun y6 =>
      some y6
def spec_l4Search_put_L1 (fu:Nat) (x1:L4SearchP) (r':Route):Nat→Int→Option (Int)
  | 0,_=>none
  | fk + 1,i =>
    (if decide (i > 0) then (idx x1.list (w64 (i - 1))).bind fun e =>
    (spec_l4Compare fu x1.n r' e).bind fun y =>
    some (decide (y<0))
    else some false).bind fun c5 =>
    if c5 then
      spec_l4Search_put_L1 fu x1 r' fk (w64 (i - 1))
    else
      some i
def spec_l4Search_put (fu:Nat) (x1:L4SearchP) (r':Route):Option (L4SearchP) :=
  (spec_l4Search_put_L1 fu x1 r' fu (x1.list.length:Int)).bind fun z =>
  (sub x1.list 0 z).bind fun l =>
  (sub x1.list z (x1.list.length:Int)).bind fun l2 =>
  (app ([]:List Route) l).bind fun l3 =>
  (app l3 [r']).bind fun l4 =>
  (app l4 l2).bind fun l5 =>
  some ({ n:=x1.n,to:=x1.to,list:=l5 }:L4SearchP)
def spec_l4Search_extend_L1 (fu:Nat) (r':Route) (seen:List Int) (rec_:(L4SearchP)→(Route)→(List Int)→Option (L4SearchP)) (e:Int):Nat→Int→List ByteArray→List Fiber→Int→List Route→Option (Int×List ByteArray×List Fiber×Int×List Route)
  | 0,_,_,_,_,_=>none
  | fk + 1,i,m,m2,m3,m4 =>
    (if decide (i<(m2.length:Int)) then some (decide ((m4.length:Int)≤200))
    else some false).bind fun c12 =>
    if c12 then
      (spec_l2Other fu ({ Nodes:=m,Fibers:=m2 }:Network) i e).bind fun y2 =>
      (if decide (y2≥0) then (spec_l1Has fu seen y2).bind fun y3 =>
      some (!y3)
      else some false).bind fun c13 =>
      if c13 then
        (spec_l1Own fu r'.Fibers).bind fun y4 =>
        (app y4 [i]).bind fun l =>
        (spec_l1Own fu seen).bind fun y5 =>
        (app y5 [y2]).bind fun l2 =>
        (rec_ ({ n:=({ Nodes:=m,Fibers:=m2 }:Network),to:=m3,list:=m4 }:L4SearchP) ({ Start:=r'.Start,Fibers:=l }:Route) l2).bind fun y6 =>
        spec_l4Search_extend_L1 fu r' seen rec_ e fk (w64 (i + 1)) y6.n.Nodes y6.n.Fibers y6.to y6.list
      else
        spec_l4Search_extend_L1 fu r' seen rec_ e fk (w64 (i + 1)) m m2 m3 m4
    else
      some (i,m,m2,m3,m4)
def spec_l4Search_extend_B (fu:Nat) (rec_:(L4SearchP)→(Route)→(List Int)→Option (L4SearchP)) (x1:L4SearchP) (r':Route) (seen:List Int):Option (L4SearchP) :=
  (idx seen (w64 ((seen.length:Int) - 1))).bind fun e =>
  if e==x1.to then
    (spec_l4Search_put fu x1 r').bind fun y =>
    some y
  else
    (spec_l4Search_extend_L1 fu r' seen rec_ e fu 0 x1.n.Nodes x1.n.Fibers x1.to x1.list).bind fun z =>
    some ({ n:=({ Nodes:=z.2.1,Fibers:=z.2.2.1 }:Network),to:=z.2.2.2.1,list:=z.2.2.2.2 }:L4SearchP)
def spec_l4Search_extend:Nat→(L4SearchP)→(Route)→(List Int)→Option (L4SearchP)
  | 0,_,_,_=>none
  | fu + 1,x1,r',seen=>spec_l4Search_extend_B fu (fun x1 r' seen=>spec_l4Search_extend fu x1 r' seen) x1 r' seen
def spec_l4All (fu:Nat) (n':Network) (from':Int) (to:Int):Option (List Route×Bool) :=
  (spec_l4Search_extend fu ({ n:=n',to:=to,list:=[] }:L4SearchP) ({ Start:=from',Fibers:=[] }:Route) [from']).bind fun y =>
  if decide ((y.list.length:Int) > 200) then
    some (([]:List Route),false)
  else
    (app ([]:List Route) y.list).bind fun l =>
    some (l,true)
def spec_AllRoutes (fu:Nat) (n':Network) (from':Int) (to:Int):Option (List Route×Bool) :=
  (spec_l4Pair fu n' from' to).bind fun y =>
  if !y then
    some (([]:List Route),false)
  else
    (spec_l4All fu n' from' to).bind fun y2 =>
    some (y2.1,y2.2)
def spec_l15Place_L1 (fu:Nat) (r':Restoration) (home:Light) (y6:List Route×Bool):Nat→Int→Option (Out (Int) (Light×Bool))
  | 0,_=>none
  | fk + 1,i =>
    (if decide (i<(y6.1.length:Int)) then some y6.2
    else some false).bind fun c10 =>
    if c10 then
      (idx y6.1 i).bind fun e =>
      (spec_l4Uses fu e r'.Down).bind fun y7 =>
      if y7 then
        spec_l15Place_L1 fu r' home y6 fk (w64 (i + 1))
      else
        (idx y6.1 i).bind fun e2 =>
        (spec_l9Along fu r'.Plan e2).bind fun y8 =>
        (spec_l8Fits fu y8 home.Block.Count).bind fun y9 =>
        if decide ((y9.length:Int) > 0) then
          (idx y6.1 i).bind fun e3 =>
          (idx y9 0).bind fun e4 =>
          (spec_l4Own fu e3).bind fun y10 =>
          some (.ret (({ Id:=home.Id,Route:=y10,Block:=({ First:=e4,Count:=home.Block.Count }:Block) }:Light),true))
        else
          spec_l15Place_L1 fu r' home y6 fk (w64 (i + 1))
    else
      some (.next i)
def spec_l15Place (fu:Nat) (r':Restoration) (home:Light):Option (Light×Bool) :=
  ((spec_l4Uses fu home.Route r'.Down).bind fun y =>
  if !y then (spec_l9Along fu r'.Plan home.Route).bind fun y2 =>
  (spec_l8Bits fu home.Block).bind fun y3 =>
  some ((band y2 y3)==0)
  else some false).bind fun c7 =>
  if c7 then
    (spec_l9Copy fu home).bind fun y4 =>
    some (y4,true)
  else
    (spec_l4End fu r'.Plan.Network home.Route).bind fun y5 =>
    (spec_AllRoutes fu r'.Plan.Network home.Route.Start y5).bind fun y6 =>
    (spec_l15Place_L1 fu r' home y6 fu 0).bind fun out=>out.on some fun z =>
    some (({ Id:=0,Route:=({ Start:=0,Fibers:=[] }:Route),Block:=({ First:=0,Count:=0 }:Block) }:Light),false)
def spec_l15Restore (fu:Nat) (r':Restoration) (i:Int):Option (Restoration×Bool) :=
  (idx r'.Home i).bind fun e =>
  (spec_l15Place fu r' e).bind fun y =>
  (spec_l15Own fu r').bind fun y2 =>
  if y.2 then
    (spec_l9Put fu y2.Plan y.1).bind fun y3 =>
    some (({ Plan:=y3,Home:=y2.Home,Down:=y2.Down }:Restoration),y.2)
  else
    some (y2,y.2)
def spec_l15All_L1 (fu:Nat) (r':Restoration) (y2:List Int):Nat→List Int→Int→List ByteArray→List Fiber→List Light→List Light→List Int→Option (List Int×Int×List ByteArray×List Fiber×List Light×List Light×List Int)
  | 0,_,_,_,_,_,_,_=>none
  | fk + 1,ids,i,m,m2,m3,m4,m5 =>
    if decide (i<(y2.length:Int)) then
      (idx y2 i).bind fun e =>
      (spec_l15Restore fu ({ Plan:=({ Network:=({ Nodes:=m,Fibers:=m2 }:Network),Lights:=m3 }:Plan),Home:=m4,Down:=m5 }:Restoration) e).bind fun y3 =>
      if y3.2 then
        (idx y2 i).bind fun e2 =>
        (idx r'.Home e2).bind fun e3 =>
        (app ids [e3.Id]).bind fun l =>
        spec_l15All_L1 fu r' y2 fk l (w64 (i + 1)) y3.1.Plan.Network.Nodes y3.1.Plan.Network.Fibers y3.1.Plan.Lights y3.1.Home y3.1.Down
      else
        spec_l15All_L1 fu r' y2 fk ids (w64 (i + 1)) y3.1.Plan.Network.Nodes y3.1.Plan.Network.Fibers y3.1.Plan.Lights y3.1.Home y3.1.Down
    else
      some (ids,i,m,m2,m3,m4,m5)
def spec_l15All (fu:Nat) (r':Restoration):Option (Restoration×List Int) :=
  (spec_l15Own fu r').bind fun y =>
  (spec_l15Waiting fu r').bind fun y2 =>
  (spec_l15All_L1 fu r' y2 fu ([]:List Int) 0 y.Plan.Network.Nodes y.Plan.Network.Fibers y.Plan.Lights y.Home y.Down).bind fun z =>
  some (({ Plan:=({ Network:=({ Nodes:=z.2.2.1,Fibers:=z.2.2.2.1 }:Network),Lights:=z.2.2.2.2.1 }:Plan),Home:=z.2.2.2.2.2.1,Down:=z.2.2.2.2.2.2 }:Restoration),z.1)
def spec_l1Put_L1 (fu:Nat) (l:List Int) (n':Int):Nat→Int→Option (Int)
  | 0,_=>none
  | fk + 1,k' =>
    (if decide (k'<(l.length:Int)) then (idx l k').bind fun e =>
    some (decide (e<n'))
    else some false).bind fun c2 =>
    if c2 then
      spec_l1Put_L1 fu l n' fk (w64 (k' + 1))
    else
      some k'
def spec_l1Put (fu:Nat) (l:List Int) (n':Int):Option (List Int) :=
  (spec_l1Put_L1 fu l n' fu 0).bind fun z =>
  (if decide (z<(l.length:Int)) then (idx l z).bind fun e2 =>
  some (e2==n')
  else some false).bind fun c3 =>
  if c3 then
    some l
  else
    (sub l 0 z).bind fun l2 =>
    (sub l z (l.length:Int)).bind fun l3 =>
    (app ([]:List Int) l2).bind fun l4 =>
    (app l4 [n']).bind fun l5 =>
    (app l5 l3).bind fun l6 =>
    some l6
def spec_l9Without (fu:Nat) (p:Plan) (i:Int):Option (Plan) :=
  (spec_l9Own fu p).bind fun y =>
  (sub y.Lights 0 i).bind fun l =>
  (sub y.Lights (w64 (i + 1)) (y.Lights.length:Int)).bind fun l2 =>
  (app ([]:List Light) l).bind fun l3 =>
  (app l3 l2).bind fun l4 =>
  some ({ Network:=y.Network,Lights:=l4 }:Plan)
def spec_l15Fail_L1 (fu:Nat) (fibers:List Int):Nat→Int→List Int→Option (Int×List Int)
  | 0,_,_=>none
  | fk + 1,i,m =>
    if decide (i<(fibers.length:Int)) then
      (idx fibers i).bind fun e =>
      (spec_l1Put fu m e).bind fun y2 =>
      spec_l15Fail_L1 fu fibers fk (w64 (i + 1)) y2
    else
      some (i,m)
def spec_l15Fail_L2 (fu:Nat) (r':Restoration) (fibers:List Int):Nat→List Int→Int→List ByteArray→List Fiber→List Light→Option (List Int×Int×List ByteArray×List Fiber×List Light)
  | 0,_,_,_,_,_=>none
  | fk + 1,lost,i3,m3,m4,m5 =>
    if decide (i3<(r'.Plan.Lights.length:Int)) then
      (idx r'.Plan.Lights i3).bind fun e2 =>
      (spec_l4Uses fu e2.Route fibers).bind fun y3 =>
      if y3 then
        (app lost [e2.Id]).bind fun l =>
        (spec_l9Find fu ({ Network:=({ Nodes:=m3,Fibers:=m4 }:Network),Lights:=m5 }:Plan) e2.Id).bind fun y4 =>
        (spec_l9Without fu ({ Network:=({ Nodes:=m3,Fibers:=m4 }:Network),Lights:=m5 }:Plan) y4).bind fun y5 =>
        spec_l15Fail_L2 fu r' fibers fk l (w64 (i3 + 1)) y5.Network.Nodes y5.Network.Fibers y5.Lights
      else
        spec_l15Fail_L2 fu r' fibers fk lost (w64 (i3 + 1)) m3 m4 m5
    else
      some (lost,i3,m3,m4,m5)
def spec_l15Fail (fu:Nat) (r':Restoration) (fibers:List Int):Option (Restoration×List Int) :=
  (spec_l15Own fu r').bind fun y =>
  (spec_l15Fail_L1 fu fibers fu 0 y.Down).bind fun z2 =>
  (spec_l15Fail_L2 fu r' fibers fu ([]:List Int) 0 y.Plan.Network.Nodes y.Plan.Network.Fibers y.Plan.Lights).bind fun z =>
  some (({ Plan:=({ Network:=({ Nodes:=z.2.2.1,Fibers:=z.2.2.2.1 }:Network),Lights:=z.2.2.2.2 }:Plan),Home:=y.Home,Down:=z2.2 }:Restoration),z.1)
def spec_l1Cur_restoration_L1 (fu:Nat):Nat→Int→List By→Int→U64→List ByteArray→List Fiber→List Light→List Light→List Int→Option (Int×List By×Int×U64×List ByteArray×List Fiber×List Light×List Light×List Int)
  | 0,_,_,_,_,_,_,_,_,_=>none
  | fk + 1,k',m,m2,m3,m4,m5,m6,m7,m8 =>
    if decide (k' > 0) then
      (spec_l1Cur_some15 fu ({ code:=m,at_:=m2,seed:=m3 }:L1CurP) ({ Nodes:=m4,Fibers:=m5 }:Network)).bind fun y4 =>
      (spec_l15Fibers fu ({ Plan:=({ Network:=({ Nodes:=m4,Fibers:=m5 }:Network),Lights:=m6 }:Plan),Home:=m7,Down:=m8 }:Restoration) y4.1).bind fun y5 =>
      if !y5 then
        spec_l1Cur_restoration_L1 fu fk (w64 (k' - 1)) y4.2.code y4.2.at_ y4.2.seed m4 m5 m6 m7 m8
      else
        (spec_l1Cur_one fu y4.2 4).bind fun y6 =>
        if y6.1 then
          (spec_l15Repair fu ({ Plan:=({ Network:=({ Nodes:=m4,Fibers:=m5 }:Network),Lights:=m6 }:Plan),Home:=m7,Down:=m8 }:Restoration) y4.1).bind fun y7 =>
          (spec_l1Cur_one fu y6.2 2).bind fun y8 =>
          if y8.1 then
            (spec_l15All fu y7).bind fun y9 =>
            spec_l1Cur_restoration_L1 fu fk (w64 (k' - 1)) y8.2.code y8.2.at_ y8.2.seed y9.1.Plan.Network.Nodes y9.1.Plan.Network.Fibers y9.1.Plan.Lights y9.1.Home y9.1.Down
          else
            spec_l1Cur_restoration_L1 fu fk (w64 (k' - 1)) y8.2.code y8.2.at_ y8.2.seed y7.Plan.Network.Nodes y7.Plan.Network.Fibers y7.Plan.Lights y7.Home y7.Down
        else
          (spec_l15Fail fu ({ Plan:=({ Network:=({ Nodes:=m4,Fibers:=m5 }:Network),Lights:=m6 }:Plan),Home:=m7,Down:=m8 }:Restoration) y4.1).bind fun y10 =>
          (spec_l1Cur_one fu y6.2 2).bind fun y11 =>
          if y11.1 then
            (spec_l15All fu y10.1).bind fun y12 =>
            spec_l1Cur_restoration_L1 fu fk (w64 (k' - 1)) y11.2.code y11.2.at_ y11.2.seed y12.1.Plan.Network.Nodes y12.1.Plan.Network.Fibers y12.1.Plan.Lights y12.1.Home y12.1.Down
          else
            spec_l1Cur_restoration_L1 fu fk (w64 (k' - 1)) y11.2.code y11.2.at_ y11.2.seed y10.1.Plan.Network.Nodes y10.1.Plan.Network.Fibers y10.1.Plan.Lights y10.1.Home y10.1.Down
    else
      some (k',m,m2,m3,m4,m5,m6,m7,m8)
def spec_l1Cur_restoration (fu:Nat) (c:L1CurP):Option (Restoration×L1CurP) :=
  (spec_l1Cur_plan fu c).bind fun y =>
  (spec_StartRestoration fu y.1).bind fun y2 =>
  (spec_l1Cur_pick fu y.2 4).bind fun y3 =>
  (spec_l1Cur_restoration_L1 fu fu y3.1 y3.2.code y3.2.at_ y3.2.seed y2.1.Plan.Network.Nodes y2.1.Plan.Network.Fibers y2.1.Plan.Lights y2.1.Home y2.1.Down).bind fun z =>
  some (({ Plan:=({ Network:=({ Nodes:=z.2.2.2.2.1,Fibers:=z.2.2.2.2.2.1 }:Network),Lights:=z.2.2.2.2.2.2.1 }:Plan),Home:=z.2.2.2.2.2.2.2.1,Down:=z.2.2.2.2.2.2.2.2 }:Restoration),({ code:=z.2.1,at_:=z.2.2.1,seed:=z.2.2.2.1 }:L1CurP))
def spec_l1Cur_anyRestoration (fu:Nat) (c:L1CurP):Option (Restoration×L1CurP) :=
  (spec_l1Cur_restoration fu c).bind fun y =>
  (spec_l1Cur_pick fu y.2 30).bind fun y2 =>
  if y2.1==0 then
    (spec_l1Cur_pick fu y2.2 16).bind fun y3 =>
    (app y.1.Down [w64 (y3.1 - 1)]).bind fun l =>
    some (({ Plan:=y.1.Plan,Home:=y.1.Home,Down:=l }:Restoration),y3.2)
  else
    if y2.1==1 then
      (spec_l1Cur_anyPlan fu y2.2).bind fun y4 =>
      some (({ Plan:=y4.1,Home:=y.1.Home,Down:=y.1.Down }:Restoration),y4.2)
    else
      if y2.1==2 then
        if decide ((y.1.Home.length:Int) > 0) then
          (sub y.1.Home 1 (y.1.Home.length:Int)).bind fun l2 =>
          some (({ Plan:=y.1.Plan,Home:=l2,Down:=y.1.Down }:Restoration),y2.2)
        else
          some (y.1,y2.2)
      else
        if y2.1==3 then
          if decide ((y.1.Plan.Lights.length:Int) > 0) then
            (idx y.1.Plan.Lights 0).bind fun e =>
            (spec_l1Cur_pick fu y2.2 3).bind fun y5 =>
            (idx y.1.Plan.Lights 0).bind fun e2 =>
            some (({ Plan:=({ Network:=y.1.Plan.Network,Lights:=y.1.Plan.Lights.set (0:Int).toNat ({ Id:=e.Id,Route:=e.Route,Block:=({ First:=e.Block.First,Count:=w64 (1 + y5.1) }:Block) }:Light) }:Plan),Home:=y.1.Home,Down:=y.1.Down }:Restoration),y5.2)
          else
            some (y.1,y2.2)
        else
          some (y.1,y2.2)
def spec_DrawRevertLights (fu:Nat) (code:List By):Option (Restoration) :=
  (spec_l1Cur_anyRestoration fu ({ code:=code,at_:=0,seed:=(⟨0⟩:U64) }:L1CurP)).bind fun y =>
  (spec_l15Good fu y.1).bind fun y2 =>
  if y2 then (spec_l1Cur_one fu y.2 2).bind fun y3 =>
  if y3.1 then
    (spec_l15All fu y.1).bind fun y4 =>
    (spec_l1Cur_some15 fu y3.2 y4.1.Plan.Network).bind fun y5 =>
    (spec_l15Repair fu y4.1 y5.1).bind fun y6 =>
    some y6
  else
    some y.1
  else some y.1
def impl_within (fu:Nat) (n':Int) (low:Int) (high:Int):Option (Bool) :=
  (if decide (low≤n') then some (decide (n'≤high))
  else some false).bind fun c =>
  some c
def impl_isName_L1 (fu:Nat) (s':ByteArray):Nat→Int→Option (Out (Int) (Bool))
  | 0,_=>none
  | fk + 1,i =>
    if decide (i<(s'.size:Int)) then
      (sidx s' i).bind fun e =>
      (sidx s' i).bind fun e2 =>
      if decide (e.n≥97) then (sidx s' i).bind fun e3 =>
      if decide (e2.n≥48) then (sidx s' i).bind fun e4 =>
      (if !(decide (e3.n≤122)) then if !(decide (e4.n≤57)) then some true
      else some (i==0)
      else some false).bind fun c =>
      if c then
        some (.ret false)
      else
        impl_isName_L1 fu s' fk (w64 (i + 1))
      else (if !(decide (e3.n≤122)) then if !false then some true
      else some (i==0)
      else some false).bind fun c2 =>
      if c2 then
        some (.ret false)
      else
        impl_isName_L1 fu s' fk (w64 (i + 1))
      else if decide (e2.n≥48) then (sidx s' i).bind fun e5 =>
      (if !false then if !(decide (e5.n≤57)) then some true
      else some (i==0)
      else some false).bind fun c3 =>
      if c3 then
        some (.ret false)
      else
        impl_isName_L1 fu s' fk (w64 (i + 1))
      else (if !false then if !false then some true
      else some (i==0)
      else some false).bind fun c4 =>
      if c4 then
        some (.ret false)
      else
        impl_isName_L1 fu s' fk (w64 (i + 1))
    else
      some (.next i)
def impl_isName (fu:Nat) (s':ByteArray):Option (Bool) :=
  (impl_isName_L1 fu s' fu 0).bind fun out=>out.on some fun z =>
  (impl_within fu (s'.size:Int) 1 8).bind fun y =>
  some y
def slices_Index_string_string_L1 (fu:Nat) (s':List ByteArray) (v:ByteArray):Nat→Int→Option (Out (Int) (Int))
  | 0,_=>none
  | fk + 1,i =>
    if decide (i<(s'.length:Int)) then
      (idx s' i).bind fun e =>
      if v.toList==e.toList then
        some (.ret i)
      else
        slices_Index_string_string_L1 fu s' v fk (w64 (i + 1))
    else
      some (.next i)
def slices_Index_string_string (fu:Nat) (s':List ByteArray) (v:ByteArray):Option (Int) :=
  (slices_Index_string_string_L1 fu s' v fu 0).bind fun out=>out.on some fun z =>
  some (-1)
def slices_Contains_string_string (fu:Nat) (s':List ByteArray) (v:ByteArray):Option (Bool) :=
  (slices_Index_string_string fu s' v).bind fun y =>
  some (decide (y≥0))
def cmp_isNaN_int (fu:Nat) (x1:Int):Option (Bool) :=
  some (x1 != x1)
def cmp_Compare_int (fu:Nat) (x1:Int) (y:Int):Option (Int) :=
  (cmp_isNaN_int fu x1).bind fun y2 =>
  (cmp_isNaN_int fu y).bind fun y3 =>
  if y2 then
    if y3 then
      some 0
    else
      some (-1)
  else
    if y3 then
      some 1
    else
      if decide (x1<y) then
        some (-1)
      else
        if decide (x1 > y) then
          some 1
        else
          some 0
def cmp_Or_int_L1 (fu:Nat) (vals:List Int):Nat→Int→Option (Out (Int) (Int))
  | 0,_=>none
  | fk + 1,i =>
    if decide (i<(vals.length:Int)) then
      (idx vals i).bind fun e =>
      if e != 0 then
        some (.ret e)
      else
        cmp_Or_int_L1 fu vals fk (w64 (i + 1))
    else
      some (.next i)
def cmp_Or_int (fu:Nat) (vals:List Int):Option (Int) :=
  (cmp_Or_int_L1 fu vals fu 0).bind fun out=>out.on some fun z =>
  some 0
def impl_compareFibers (fu:Nat) (a':Fiber) (b':Fiber):Option (Int) :=
  (cmp_Compare_int fu a'.A b'.A).bind fun y =>
  (cmp_Compare_int fu a'.B b'.B).bind fun y2 =>
  (cmp_Compare_int fu a'.Length b'.Length).bind fun y3 =>
  (cmp_Compare_int fu a'.Risk b'.Risk).bind fun y4 =>
  (cmp_Or_int fu [y,y2,y3,y4]).bind fun y5 =>
  some y5
def impl_IsValidNetwork_L1 (fu:Nat) (n':Network):Nat→Int→Option (Out (Int) (Bool))
  | 0,_=>none
  | fk + 1,i =>
    if decide (i<(n'.Nodes.length:Int)) then
      (idx n'.Nodes i).bind fun e =>
      ((impl_isName fu e).bind fun y =>
      if !y then some true
      else (sub n'.Nodes 0 i).bind fun l =>
      (slices_Contains_string_string fu l e).bind fun y2 =>
      some y2).bind fun c3 =>
      if c3 then
        some (.ret false)
      else
        impl_IsValidNetwork_L1 fu n' fk (w64 (i + 1))
    else
      some (.next i)
def impl_IsValidNetwork_L2 (fu:Nat) (n':Network):Nat→Int→Option (Out (Int) (Bool))
  | 0,_=>none
  | fk + 1,i3 =>
    if decide (i3<(n'.Fibers.length:Int)) then
      (idx n'.Fibers i3).bind fun e2 =>
      (if decide (e2.A<0) then some true
      else if decide (e2.A≥e2.B) then some true
      else if decide (e2.B≥(n'.Nodes.length:Int)) then some true
      else (impl_within fu e2.Length 1 5000).bind fun y3 =>
      if !y3 then some true
      else (impl_within fu e2.Risk 0 9).bind fun y4 =>
      if !y4 then some true
      else if decide (i3 > 0) then (idx n'.Fibers (w64 (i3 - 1))).bind fun e3 =>
      (impl_compareFibers fu e3 e2).bind fun y5 =>
      some (decide (y5 > 0))
      else some false).bind fun c5 =>
      if c5 then
        some (.ret false)
      else
        impl_IsValidNetwork_L2 fu n' fk (w64 (i3 + 1))
    else
      some (.next i3)
def impl_IsValidNetwork (fu:Nat) (n':Network):Option (Bool) :=
  (impl_IsValidNetwork_L1 fu n' fu 0).bind fun out=>out.on some fun z2 =>
  (impl_IsValidNetwork_L2 fu n' fu 0).bind fun out=>out.on some fun z =>
  ((impl_within fu (n'.Nodes.length:Int) 2 8).bind fun y6 =>
  if y6 then some (decide ((n'.Fibers.length:Int)≤14))
  else some false).bind fun c6 =>
  some c6
def impl_otherEnd (fu:Nat) (f:Fiber) (node:Int):Option (Int) :=
  if node==f.A then
    some f.B
  else
    if node==f.B then
      some f.A
    else
      some (-1)
def slices_Index_int_int_L1 (fu:Nat) (s':List Int) (v:Int):Nat→Int→Option (Out (Int) (Int))
  | 0,_=>none
  | fk + 1,i =>
    if decide (i<(s'.length:Int)) then
      (idx s' i).bind fun e =>
      if v==e then
        some (.ret i)
      else
        slices_Index_int_int_L1 fu s' v fk (w64 (i + 1))
    else
      some (.next i)
def slices_Index_int_int (fu:Nat) (s':List Int) (v:Int):Option (Int) :=
  (slices_Index_int_int_L1 fu s' v fu 0).bind fun out=>out.on some fun z =>
  some (-1)
def slices_Contains_int_int (fu:Nat) (s':List Int) (v:Int):Option (Bool) :=
  (slices_Index_int_int fu s' v).bind fun y =>
  some (decide (y≥0))
def impl_visited_L1 (fu:Nat) (n':Network) (r':Route):Nat→List Int→Int→Int→Option (Out (List Int×Int×Int) (List Int×Bool))
  | 0,_,_,_=>none
  | fk + 1,out',at',i =>
    if decide (i<(r'.Fibers.length:Int)) then
      (idx r'.Fibers i).bind fun e =>
      (impl_within fu e 0 (w64 ((n'.Fibers.length:Int) - 1))).bind fun y2 =>
      if !y2 then
        some (.ret ([],false))
      else
        (idx n'.Fibers e).bind fun e2 =>
        (impl_otherEnd fu e2 at').bind fun y3 =>
        (if decide (y3<0) then some true
        else (slices_Contains_int_int fu out' y3).bind fun y4 =>
        some y4).bind fun c6 =>
        if c6 then
          some (.ret ([],false))
        else
          (app out' [y3]).bind fun l =>
          impl_visited_L1 fu n' r' fk l y3 (w64 (i + 1))
    else
      some (.next (out',at',i))
def impl_visited (fu:Nat) (n':Network) (r':Route):Option (List Int×Bool) :=
  ((impl_within fu r'.Start 0 (w64 ((n'.Nodes.length:Int) - 1))).bind fun y =>
  if !y then some true
  else some ((r'.Fibers.length:Int)==0)).bind fun c4 =>
  if c4 then
    some ([],false)
  else
    (impl_visited_L1 fu n' r' fu [r'.Start] r'.Start 0).bind fun out=>out.on some fun z =>
    some (z.1,true)
def impl_IsValidBlock (fu:Nat) (b':Block):Option (Bool) :=
  (if decide (b'.First≥0) then (impl_within fu b'.Count 1 24).bind fun y =>
  if y then some (decide (b'.First≤(w64 (24 - b'.Count))))
  else some false
  else some false).bind fun c =>
  some c
def impl_isLight (fu:Nat) (n':Network) (x1:Light):Option (Bool) :=
  (impl_visited fu n' x1.Route).bind fun y =>
  (if y.2 then (impl_within fu x1.Id 1 999).bind fun y2 =>
  if y2 then (impl_IsValidBlock fu x1.Block).bind fun y3 =>
  some y3
  else some false
  else some false).bind fun c5 =>
  some c5
def impl_maskOf (fu:Nat) (b':Block):Option (Int) :=
  (shl 1 b'.Count).bind fun q =>
  (shl (w64 (q - 1)) b'.First).bind fun q2 =>
  some q2
def math_bits_Len64 (fu:Nat) (x1:U64):Option (Int) :=
  if decide (x1.n≥4294967296) then
    none
  else
    if decide (x1.n≥65536) then
      none
    else
      if decide (x1.n≥256) then
        none
      else
        (sidx (⟨#[0,1,2,2,3,3,3,3,4,4,4,4,4,4,4,4,5,5,5,5,5,5,5,5,5,5,5,5,5,5,5,5,6,6,6,6,6,6,6,6,6,6,6,6,6,6,6,6,6,6,6,6,6,6,6,6,6,6,6,6,6,6,6,6,7,7,7,7,7,7,7,7,7,7,7,7,7,7,7,7,7,7,7,7,7,7,7,7,7,7,7,7,7,7,7,7,7,7,7,7,7,7,7,7,7,7,7,7,7,7,7,7,7,7,7,7,7,7,7,7,7,7,7,7,7,7,7,7,8,8,8,8,8,8,8,8,8,8,8,8,8,8,8,8,8,8,8,8,8,8,8,8,8,8,8,8,8,8,8,8,8,8,8,8,8,8,8,8,8,8,8,8,8,8,8,8,8,8,8,8,8,8,8,8,8,8,8,8,8,8,8,8,8,8,8,8,8,8,8,8,8,8,8,8,8,8,8,8,8,8,8,8,8,8,8,8,8,8,8,8,8,8,8,8,8,8,8,8,8,8,8,8,8,8,8,8,8,8,8,8,8,8,8,8,8,8,8,8,8,8,8,8,8,8,8,8]⟩:ByteArray) (wu8 x1.n)).bind fun e =>
        some (w64 (0 + (w64 e.n)))
def math_bits_Len (fu:Nat) (x1:U64):Option (Int) :=
  (math_bits_Len64 fu x1).bind fun y =>
  some y
def cmp_Less_int (fu:Nat) (x1:Int) (y:Int):Option (Bool) :=
  ((cmp_isNaN_int fu x1).bind fun y2 =>
  if y2 then (cmp_isNaN_int fu y).bind fun y3 =>
  if !y3 then some true
  else some (decide (x1<y))
  else some (decide (x1<y))).bind fun c =>
  some c
def slices_insertionSortOrdered_int_L2 (fu:Nat) (a':Int):Nat→List Int→Int→Option (List Int×Int)
  | 0,_,_=>none
  | fk + 1,data3,j =>
    (if decide (j > a') then (idx data3 j).bind fun e =>
    (idx data3 (w64 (j - 1))).bind fun e2 =>
    (cmp_Less_int fu e e2).bind fun y =>
    some y
    else some false).bind fun c2 =>
    if c2 then
      (idx data3 (w64 (j - 1))).bind fun e3 =>
      (idx data3 j).bind fun e4 =>
      (idx data3 j).bind fun e5 =>
      (idx (data3.set (j:Int).toNat e3) (w64 (j - 1))).bind fun e6 =>
      slices_insertionSortOrdered_int_L2 fu a' fk ((data3.set (j:Int).toNat e3).set (w64 (j - 1):Int).toNat e4) (w64 (j - 1))
    else
      some (data3,j)
def slices_insertionSortOrdered_int_L1 (fu:Nat) (a':Int) (b':Int):Nat→List Int→Int→Option (List Int×Int)
  | 0,_,_=>none
  | fk + 1,data2,i =>
    if decide (i<b') then
      (slices_insertionSortOrdered_int_L2 fu a' fu data2 i).bind fun z =>
      slices_insertionSortOrdered_int_L1 fu a' b' fk z.1 (w64 (i + 1))
    else
      some (data2,i)
def slices_insertionSortOrdered_int (fu:Nat) (data:List Int) (a':Int) (b':Int):Option (List Int) :=
  (slices_insertionSortOrdered_int_L1 fu a' b' fu data (w64 (a' + 1))).bind fun z2 =>
  some z2.1
def slices_pdqsortOrdered_int_L1 (fu:Nat) (data:List Int) (a':Int) (b':Int):Nat→Option (Out (Unit) (List Int))
  | 0=>none
  | fk + 1 =>
    if decide ((w64 (b' - a'))≤12) then
      (slices_insertionSortOrdered_int fu data a' b').bind fun y =>
      some (.ret y)
    else
      none
def slices_pdqsortOrdered_int (fu:Nat) (data:List Int) (a':Int) (b':Int) (limit:Int):Option (List Int) :=
  (slices_pdqsortOrdered_int_L1 fu data a' b' fu).bind fun out=>out.on some fun z =>
  some data
def slices_Sort_int_int (fu:Nat) (x1:List Int):Option (List Int) :=
  (math_bits_Len fu (⟨wu64 (x1.length:Int)⟩:U64)).bind fun y =>
  (slices_pdqsortOrdered_int fu x1 0 (x1.length:Int) y).bind fun y2 =>
  some y2
def slices_Compact_int_int_L1 (fu:Nat) (s':List Int):Nat→Int→Option (Out (Int) (List Int))
  | 0,_=>none
  | fk + 1,k' =>
    if decide (k'<(s'.length:Int)) then
      (idx s' k').bind fun e =>
      (idx s' (w64 (k' - 1))).bind fun e2 =>
      if e==e2 then
        none
      else
        slices_Compact_int_int_L1 fu s' fk (w64 (k' + 1))
    else
      some (.next k')
def slices_Compact_int_int (fu:Nat) (s':List Int):Option (List Int) :=
  if decide ((s'.length:Int)<2) then
    some s'
  else
    (slices_Compact_int_int_L1 fu s' fu 1).bind fun out=>out.on some fun z =>
    some s'
def impl_common_L1 (fu:Nat) (a':List Int) (b':List Int):Nat→List Int→Int→Option (List Int×Int)
  | 0,_,_=>none
  | fk + 1,out',i =>
    if decide (i<(a'.length:Int)) then
      (idx a' i).bind fun e =>
      (slices_Contains_int_int fu b' e).bind fun y =>
      if y then
        (app out' [e]).bind fun l =>
        impl_common_L1 fu a' b' fk l (w64 (i + 1))
      else
        impl_common_L1 fu a' b' fk out' (w64 (i + 1))
    else
      some (out',i)
def impl_common (fu:Nat) (a':List Int) (b':List Int):Option (List Int) :=
  (impl_common_L1 fu a' b' fu ([]:List Int) 0).bind fun z =>
  (slices_Sort_int_int fu z.1).bind fun y2 =>
  (slices_Compact_int_int fu y2).bind fun y3 =>
  some y3
def impl_collide (fu:Nat) (a':Light) (b':Light):Option (Bool) :=
  ((impl_maskOf fu a'.Block).bind fun y =>
  (impl_maskOf fu b'.Block).bind fun y2 =>
  if (band y y2) != 0 then (impl_common fu a'.Route.Fibers b'.Route.Fibers).bind fun y3 =>
  some (decide ((y3.length:Int) > 0))
  else some false).bind fun c3 =>
  some c3
def impl_IsValidPlan_c1 (fu:Nat) (own:Light) (cap:Light):Option (Bool) :=
  (impl_collide fu own cap).bind fun y =>
  some y
def slices_IndexFunc_impl_Light_impl_Light_of_IsValidPlan_c1_L1 (fu:Nat) (s':List Light) (cap:Light):Nat→Int→Option (Out (Int) (Int))
  | 0,_=>none
  | fk + 1,i =>
    if decide (i<(s'.length:Int)) then
      (idx s' i).bind fun e =>
      (impl_IsValidPlan_c1 fu e cap).bind fun y =>
      if y then
        some (.ret i)
      else
        slices_IndexFunc_impl_Light_impl_Light_of_IsValidPlan_c1_L1 fu s' cap fk (w64 (i + 1))
    else
      some (.next i)
def slices_IndexFunc_impl_Light_impl_Light_of_IsValidPlan_c1 (fu:Nat) (s':List Light) (cap:Light):Option (Int) :=
  (slices_IndexFunc_impl_Light_impl_Light_of_IsValidPlan_c1_L1 fu s' cap fu 0).bind fun out=>out.on some fun z =>
  some (-1)
def slices_ContainsFunc_impl_Light_impl_Light_of_IsValidPlan_c1 (fu:Nat) (s':List Light) (cap:Light):Option (Bool) :=
  (slices_IndexFunc_impl_Light_impl_Light_of_IsValidPlan_c1 fu s' cap).bind fun y =>
  some (decide (y≥0))
def impl_IsValidPlan_L1 (fu:Nat) (p:Plan):Nat→Int→Option (Out (Int) (Bool))
  | 0,_=>none
  | fk + 1,i =>
    if decide (i<(p.Lights.length:Int)) then
      (idx p.Lights i).bind fun e =>
      ((impl_isLight fu p.Network e).bind fun y2 =>
      if !y2 then some true
      else if decide (i > 0) then (idx p.Lights (w64 (i - 1))).bind fun e2 =>
      if decide (e2.Id≥e.Id) then some true
      else (sub p.Lights 0 i).bind fun l =>
      (slices_ContainsFunc_impl_Light_impl_Light_of_IsValidPlan_c1 fu l e).bind fun y3 =>
      some y3
      else (sub p.Lights 0 i).bind fun l2 =>
      (slices_ContainsFunc_impl_Light_impl_Light_of_IsValidPlan_c1 fu l2 e).bind fun y4 =>
      some y4).bind fun c6 =>
      if c6 then
        some (.ret false)
      else
        impl_IsValidPlan_L1 fu p fk (w64 (i + 1))
    else
      some (.next i)
def impl_IsValidPlan (fu:Nat) (p:Plan):Option (Bool) :=
  ((impl_IsValidNetwork fu p.Network).bind fun y =>
  if !y then some true
  else some (decide ((p.Lights.length:Int) > 12))).bind fun c4 =>
  if c4 then
    some false
  else
    (impl_IsValidPlan_L1 fu p fu 0).bind fun out=>out.on some fun z =>
    some true
def impl_isSet_L1 (fu:Nat) (l:List Int) (n':Int):Nat→Int→Option (Out (Int) (Bool))
  | 0,_=>none
  | fk + 1,i =>
    if decide (i<(l.length:Int)) then
      (idx l i).bind fun e =>
      ((impl_within fu e 0 (w64 (n' - 1))).bind fun y =>
      if !y then some true
      else if decide (i > 0) then (idx l (w64 (i - 1))).bind fun e2 =>
      some (decide (e2≥e))
      else some false).bind fun c2 =>
      if c2 then
        some (.ret false)
      else
        impl_isSet_L1 fu l n' fk (w64 (i + 1))
    else
      some (.next i)
def impl_isSet (fu:Nat) (l:List Int) (n':Int):Option (Bool) :=
  (impl_isSet_L1 fu l n' fu 0).bind fun out=>out.on some fun z =>
  some true
def impl_homeOf_c1 (fu:Nat) (x1:Light) (cap:Int):Option (Bool) :=
  some (x1.Id==cap)
def slices_IndexFunc_impl_Light_impl_Light_of_homeOf_c1_L1 (fu:Nat) (s':List Light) (cap:Int):Nat→Int→Option (Out (Int) (Int))
  | 0,_=>none
  | fk + 1,i =>
    if decide (i<(s'.length:Int)) then
      (idx s' i).bind fun e =>
      (impl_homeOf_c1 fu e cap).bind fun y =>
      if y then
        some (.ret i)
      else
        slices_IndexFunc_impl_Light_impl_Light_of_homeOf_c1_L1 fu s' cap fk (w64 (i + 1))
    else
      some (.next i)
def slices_IndexFunc_impl_Light_impl_Light_of_homeOf_c1 (fu:Nat) (s':List Light) (cap:Int):Option (Int) :=
  (slices_IndexFunc_impl_Light_impl_Light_of_homeOf_c1_L1 fu s' cap fu 0).bind fun out=>out.on some fun z =>
  some (-1)
def impl_homeOf (fu:Nat) (r':Restoration) (id:Int):Option (Int) :=
  (slices_IndexFunc_impl_Light_impl_Light_of_homeOf_c1 fu r'.Home id).bind fun y =>
  some y
def impl_endOf (fu:Nat) (n':Network) (r':Route):Option (Int) :=
  (impl_visited fu n' r').bind fun y =>
  (idx y.1 (w64 ((y.1.length:Int) - 1))).bind fun e =>
  some e
def impl_IsValidRestoration_c1 (fu:Nat) (x1:Light) (cap:Restoration) (cap2:Network):Option (Bool) :=
  (impl_homeOf fu cap x1.Id).bind fun y =>
  (if decide (y<0) then some true
  else (impl_common fu x1.Route.Fibers cap.Down).bind fun y2 =>
  some (decide ((y2.length:Int) > 0))).bind fun c9 =>
  if c9 then
    some true
  else
    (idx cap.Home y).bind fun e =>
    (if e.Route.Start != x1.Route.Start then some true
    else (impl_endOf fu cap2 e.Route).bind fun y3 =>
    (impl_endOf fu cap2 x1.Route).bind fun y4 =>
    if y3 != y4 then some true
    else some (e.Block.Count != x1.Block.Count)).bind fun c12 =>
    some c12
def slices_IndexFunc_impl_Light_impl_Light_of_IsValidRestoration_c1_L1 (fu:Nat) (s':List Light) (cap:Restoration) (cap2:Network):Nat→Int→Option (Out (Int) (Int))
  | 0,_=>none
  | fk + 1,i =>
    if decide (i<(s'.length:Int)) then
      (idx s' i).bind fun e =>
      (impl_IsValidRestoration_c1 fu e cap cap2).bind fun y =>
      if y then
        some (.ret i)
      else
        slices_IndexFunc_impl_Light_impl_Light_of_IsValidRestoration_c1_L1 fu s' cap cap2 fk (w64 (i + 1))
    else
      some (.next i)
def slices_IndexFunc_impl_Light_impl_Light_of_IsValidRestoration_c1 (fu:Nat) (s':List Light) (cap:Restoration) (cap2:Network):Option (Int) :=
  (slices_IndexFunc_impl_Light_impl_Light_of_IsValidRestoration_c1_L1 fu s' cap cap2 fu 0).bind fun out=>out.on some fun z =>
  some (-1)
def slices_ContainsFunc_impl_Light_impl_Light_of_IsValidRestoration_c1 (fu:Nat) (s':List Light) (cap:Restoration) (cap2:Network):Option (Bool) :=
  (slices_IndexFunc_impl_Light_impl_Light_of_IsValidRestoration_c1 fu s' cap cap2).bind fun y =>
  some (decide (y≥0))
def impl_IsValidRestoration (fu:Nat) (r':Restoration):Option (Bool) :=
  ((impl_IsValidPlan fu r'.Plan).bind fun y =>
  if !y then some true
  else (impl_IsValidPlan fu ({ Network:=r'.Plan.Network,Lights:=r'.Home }:Plan)).bind fun y2 =>
  if !y2 then some true
  else (impl_isSet fu r'.Down (r'.Plan.Network.Fibers.length:Int)).bind fun y3 =>
  some (!y3)).bind fun c6 =>
  if c6 then
    some false
  else
    (slices_ContainsFunc_impl_Light_impl_Light_of_IsValidRestoration_c1 fu r'.Plan.Lights r' r'.Plan.Network).bind fun y4 =>
    some (!y4)
def impl_copyNetwork (fu:Nat) (n':Network):Option (Network) :=
  (app ([]:List ByteArray) n'.Nodes).bind fun l =>
  (app ([]:List Fiber) n'.Fibers).bind fun l2 =>
  some ({ Nodes:=l,Fibers:=l2 }:Network)
def impl_copyRoute (fu:Nat) (r':Route):Option (Route) :=
  (app ([]:List Int) r'.Fibers).bind fun l =>
  some ({ Start:=r'.Start,Fibers:=l }:Route)
def impl_copyPlan_L1 (fu:Nat) (p:Plan):Nat→Int→List Light→Option (Int×List Light)
  | 0,_,_=>none
  | fk + 1,i,m =>
    if decide (i<(p.Lights.length:Int)) then
      (idx p.Lights i).bind fun e =>
      (impl_copyRoute fu e.Route).bind fun y2 =>
      (app m [({ Id:=e.Id,Route:=y2,Block:=e.Block }:Light)]).bind fun al =>
      impl_copyPlan_L1 fu p fk (w64 (i + 1)) al
    else
      some (i,m)
def impl_copyPlan (fu:Nat) (p:Plan):Option (Plan) :=
  (impl_copyNetwork fu p.Network).bind fun y =>
  (impl_copyPlan_L1 fu p fu 0 ([]:List Light)).bind fun z =>
  some ({ Network:=y,Lights:=z.2 }:Plan)
def impl_copyInts (fu:Nat) (l:List Int):Option (List Int) :=
  (app ([]:List Int) l).bind fun l2 =>
  some l2
def impl_copyRestoration (fu:Nat) (r':Restoration):Option (Restoration) :=
  (impl_copyPlan fu r'.Plan).bind fun y =>
  (impl_copyPlan fu ({ Network:=({ Nodes:=[],Fibers:=[] }:Network),Lights:=r'.Home }:Plan)).bind fun y2 =>
  (impl_copyInts fu r'.Down).bind fun y3 =>
  some ({ Plan:=y,Home:=y2.Lights,Down:=y3 }:Restoration)
def slices_Equal_int_int_L1 (fu:Nat) (s1:List Int) (s2:List Int):Nat→Int→Option (Out (Int) (Bool))
  | 0,_=>none
  | fk + 1,i =>
    if decide (i<(s1.length:Int)) then
      (idx s1 i).bind fun e =>
      (idx s2 i).bind fun e2 =>
      if e != e2 then
        some (.ret false)
      else
        slices_Equal_int_int_L1 fu s1 s2 fk (w64 (i + 1))
    else
      some (.next i)
def slices_Equal_int_int (fu:Nat) (s1:List Int) (s2:List Int):Option (Bool) :=
  if (s1.length:Int) != (s2.length:Int) then
    some false
  else
    (slices_Equal_int_int_L1 fu s1 s2 fu 0).bind fun out=>out.on some fun z =>
    some true
def impl_isOpen_c1 (fu:Nat) (own:Light) (cap:Light):Option (Bool) :=
  (if own.Id != cap.Id then (impl_collide fu own cap).bind fun y =>
  some y
  else some false).bind fun c3 =>
  some c3
def slices_IndexFunc_impl_Light_impl_Light_of_isOpen_c1_L1 (fu:Nat) (s':List Light) (cap:Light):Nat→Int→Option (Out (Int) (Int))
  | 0,_=>none
  | fk + 1,i =>
    if decide (i<(s'.length:Int)) then
      (idx s' i).bind fun e =>
      (impl_isOpen_c1 fu e cap).bind fun y =>
      if y then
        some (.ret i)
      else
        slices_IndexFunc_impl_Light_impl_Light_of_isOpen_c1_L1 fu s' cap fk (w64 (i + 1))
    else
      some (.next i)
def slices_IndexFunc_impl_Light_impl_Light_of_isOpen_c1 (fu:Nat) (s':List Light) (cap:Light):Option (Int) :=
  (slices_IndexFunc_impl_Light_impl_Light_of_isOpen_c1_L1 fu s' cap fu 0).bind fun out=>out.on some fun z =>
  some (-1)
def slices_ContainsFunc_impl_Light_impl_Light_of_isOpen_c1 (fu:Nat) (s':List Light) (cap:Light):Option (Bool) :=
  (slices_IndexFunc_impl_Light_impl_Light_of_isOpen_c1 fu s' cap).bind fun y =>
  some (decide (y≥0))
def impl_isOpen (fu:Nat) (r':Restoration) (x1:Light):Option (Bool) :=
  ((impl_common fu x1.Route.Fibers r'.Down).bind fun y =>
  if (y.length:Int)==0 then (slices_ContainsFunc_impl_Light_impl_Light_of_isOpen_c1 fu r'.Plan.Lights x1).bind fun y2 =>
  some (!y2)
  else some false).bind fun c7 =>
  some c7
def impl_RevertLights_L1 (fu:Nat) (y2:Restoration):Nat→List Int→Int→List Light→Option (List Int×Int×List Light)
  | 0,_,_,_=>none
  | fk + 1,ids,i,m =>
    if decide (i<(y2.Plan.Lights.length:Int)) then
      (idx m i).bind fun e =>
      (impl_homeOf fu ({ Plan:=({ Network:=y2.Plan.Network,Lights:=m }:Plan),Home:=y2.Home,Down:=y2.Down }:Restoration) e.Id).bind fun y3 =>
      (idx y2.Home y3).bind fun e2 =>
      (if e.Route.Start==e2.Route.Start then (slices_Equal_int_int fu e.Route.Fibers e2.Route.Fibers).bind fun y4 =>
      if y4 then some (([e.Block.First,e.Block.Count]:List Int)==([e2.Block.First,e2.Block.Count]:List Int))
      else some false
      else some false).bind fun c15 =>
      (if !c15 then (impl_isOpen fu ({ Plan:=({ Network:=y2.Plan.Network,Lights:=m }:Plan),Home:=y2.Home,Down:=y2.Down }:Restoration) e2).bind fun y5 =>
      some y5
      else some false).bind fun c16 =>
      if c16 then
        (impl_copyRoute fu e2.Route).bind fun y6 =>
        (idx m i).bind fun e3 =>
        (app ids [e.Id]).bind fun l =>
        impl_RevertLights_L1 fu y2 fk l (w64 (i + 1)) (m.set (i:Int).toNat ({ Id:=e.Id,Route:=y6,Block:=e2.Block }:Light))
      else
        impl_RevertLights_L1 fu y2 fk ids (w64 (i + 1)) m
    else
      some (ids,i,m)
def impl_RevertLights (fu:Nat) (r':Restoration):Option (Restoration×List Int×Bool) :=
  (impl_IsValidRestoration fu r').bind fun y =>
  if !y then
    some (({ Plan:=({ Network:=({ Nodes:=[],Fibers:=[] }:Network),Lights:=[] }:Plan),Home:=[],Down:=[] }:Restoration),[],false)
  else
    (impl_copyRestoration fu r').bind fun y2 =>
    (impl_RevertLights_L1 fu y2 fu ([]:List Int) 0 y2.Plan.Lights).bind fun z =>
    some (({ Plan:=({ Network:=y2.Plan.Network,Lights:=z.2.2 }:Plan),Home:=y2.Home,Down:=y2.Down }:Restoration),z.1,true)
def spec_l1Same_L1 (fu:Nat) (a':List Int) (b':List Int):Nat→Int→Option (Out (Int) (Bool))
  | 0,_=>none
  | fk + 1,i =>
    if decide (i<(a'.length:Int)) then
      (idx a' i).bind fun e =>
      (idx b' i).bind fun e2 =>
      if e != e2 then
        some (.ret false)
      else
        spec_l1Same_L1 fu a' b' fk (w64 (i + 1))
    else
      some (.next i)
def spec_l1Same (fu:Nat) (a':List Int) (b':List Int):Option (Bool) :=
  if (a'.length:Int) != (b'.length:Int) then
    some false
  else
    (spec_l1Same_L1 fu a' b' fu 0).bind fun out=>out.on some fun z =>
    some true
def spec_l4Same (fu:Nat) (a':Route) (b':Route):Option (Bool) :=
  (if a'.Start==b'.Start then (spec_l1Same fu a'.Fibers b'.Fibers).bind fun y =>
  some y
  else some false).bind fun c3 =>
  some c3
def spec_l15SameLight (fu:Nat) (a':Light) (b':Light):Option (Bool) :=
  (if a'.Id==b'.Id then (spec_l4Same fu a'.Route b'.Route).bind fun y =>
  if y then some (([a'.Block.First,a'.Block.Count]:List Int)==([b'.Block.First,b'.Block.Count]:List Int))
  else some false
  else some false).bind fun c3 =>
  some c3
def spec_l15Revert_L1 (fu:Nat) (r':Restoration):Nat→Int→List Int→List ByteArray→List Fiber→List Light→Option (Int×List Int×List ByteArray×List Fiber×List Light)
  | 0,_,_,_,_,_=>none
  | fk + 1,i,ids,m,m2,m3 =>
    if decide (i<(r'.Home.length:Int)) then
      (idx r'.Home i).bind fun e =>
      (spec_l9Find fu ({ Network:=({ Nodes:=m,Fibers:=m2 }:Network),Lights:=m3 }:Plan) e.Id).bind fun y2 =>
      (if decide (y2<0) then some true
      else (idx m3 y2).bind fun e2 =>
      (spec_l15SameLight fu e2 e).bind fun y3 =>
      if y3 then some true
      else (spec_l4Uses fu e.Route r'.Down).bind fun y4 =>
      some y4).bind fun c16 =>
      if c16 then
        spec_l15Revert_L1 fu r' fk (w64 (i + 1)) ids m m2 m3
      else
        (spec_l9Without fu ({ Network:=({ Nodes:=m,Fibers:=m2 }:Network),Lights:=m3 }:Plan) y2).bind fun y5 =>
        (spec_l9Along fu y5 e.Route).bind fun y6 =>
        (spec_l8Bits fu e.Block).bind fun y7 =>
        if (band y6 y7)==0 then
          (spec_l9Copy fu e).bind fun y8 =>
          (spec_l9Put fu y5 y8).bind fun y9 =>
          (app ids [e.Id]).bind fun l =>
          spec_l15Revert_L1 fu r' fk (w64 (i + 1)) l y9.Network.Nodes y9.Network.Fibers y9.Lights
        else
          spec_l15Revert_L1 fu r' fk (w64 (i + 1)) ids m m2 m3
    else
      some (i,ids,m,m2,m3)
def spec_l15Revert (fu:Nat) (r':Restoration):Option (Restoration×List Int) :=
  (spec_l15Own fu r').bind fun y =>
  (spec_l15Revert_L1 fu r' fu 0 ([]:List Int) y.Plan.Network.Nodes y.Plan.Network.Fibers y.Plan.Lights).bind fun z =>
  some (({ Plan:=({ Network:=({ Nodes:=z.2.2.1,Fibers:=z.2.2.2.1 }:Network),Lights:=z.2.2.2.2 }:Plan),Home:=y.Home,Down:=y.Down }:Restoration),z.2.1)
def spec_RevertLights (fu:Nat) (r':Restoration):Option (Restoration×List Int×Bool) :=
  (spec_l15Good fu r').bind fun y =>
  if !y then
    some (({ Plan:=({ Network:=({ Nodes:=[],Fibers:=[] }:Network),Lights:=[] }:Plan),Home:=[],Down:=[] }:Restoration),([]:List Int),false)
  else
    (spec_l15Revert fu r').bind fun y2 =>
    some (y2.1,y2.2,true)
def laws_vInts_L1 (fu:Nat) (a':List Int) (b':List Int):Nat→Int→Option (Out (Int) (Bool))
  | 0,_=>none
  | fk + 1,i =>
    if decide (i<(a'.length:Int)) then
      (idx a' i).bind fun e =>
      (idx b' i).bind fun e2 =>
      if e != e2 then
        some (.ret false)
      else
        laws_vInts_L1 fu a' b' fk (w64 (i + 1))
    else
      some (.next i)
def laws_vInts (fu:Nat) (a':List Int) (b':List Int):Option (Bool) :=
  if (a'.length:Int) != (b'.length:Int) then
    some false
  else
    (laws_vInts_L1 fu a' b' fu 0).bind fun out=>out.on some fun z =>
    some true
def laws_vHas_L1 (fu:Nat) (l:List Int) (x1:Int):Nat→Int→Option (Out (Int) (Bool))
  | 0,_=>none
  | fk + 1,i =>
    if decide (i<(l.length:Int)) then
      (idx l i).bind fun e =>
      if e==x1 then
        some (.ret true)
      else
        laws_vHas_L1 fu l x1 fk (w64 (i + 1))
    else
      some (.next i)
def laws_vHas (fu:Nat) (l:List Int) (x1:Int):Option (Bool) :=
  (laws_vHas_L1 fu l x1 fu 0).bind fun out=>out.on some fun z =>
  some false
def laws_vRoutes (fu:Nat) (a':Route) (b':Route):Option (Bool) :=
  (if a'.Start==b'.Start then (laws_vInts fu a'.Fibers b'.Fibers).bind fun y =>
  some y
  else some false).bind fun c3 =>
  some c3
def laws_vLights (fu:Nat) (a':Light) (b':Light):Option (Bool) :=
  (if a'.Id==b'.Id then if ([a'.Block.First,a'.Block.Count]:List Int)==([b'.Block.First,b'.Block.Count]:List Int) then (laws_vRoutes fu a'.Route b'.Route).bind fun y =>
  some y
  else some false
  else some false).bind fun c3 =>
  some c3
def laws_FnReverting_L2 (fu:Nat) (y2:Restoration) (e:Light):Nat→Bool→Int→Option (Bool×Int)
  | 0,_,_=>none
  | fk + 1,home,k' =>
    if decide (k'<(y2.Home.length:Int)) then
      (if home then some true
      else (idx y2.Home k').bind fun e3 =>
      (laws_vLights fu e e3).bind fun y10 =>
      some y10).bind fun c25 =>
      laws_FnReverting_L2 fu y2 e fk c25 (w64 (k' + 1))
    else
      some (home,k')
def laws_FnReverting_L1 (fu:Nat) (y2:Restoration) (y3:Restoration×List Int×Bool):Nat→Int→List Light→Option (Out (Int×List Light) (Bool))
  | 0,_,_=>none
  | fk + 1,i,m =>
    if decide (i<(y3.1.Plan.Lights.length:Int)) then
      (idx y3.1.Plan.Lights i).bind fun e =>
      (laws_vHas fu y3.2.1 e.Id).bind fun y8 =>
      if !y8 then
        (idx m i).bind fun e2 =>
        (laws_vLights fu e e2).bind fun y9 =>
        if !y9 then
          some (.ret false)
        else
          laws_FnReverting_L1 fu y2 y3 fk (w64 (i + 1)) m
      else
        (laws_FnReverting_L2 fu y2 e fu false 0).bind fun z =>
        if !z.1 then
          some (.ret false)
        else
          laws_FnReverting_L1 fu y2 y3 fk (w64 (i + 1)) m
    else
      some (.next (i,m))
def laws_FnReverting (fu:Nat) (code:List By):Option (Bool) :=
  (laws_vBig fu code).bind fun y =>
  if y then
    some true
  else
    (spec_DrawRevertLights fu code).bind fun y2 =>
    (impl_RevertLights fu y2).bind fun y3 =>
    (spec_RevertLights fu y2).bind fun y4 =>
    (if y3.2.2 != y4.2.2 then some true
    else (laws_vInts fu y3.2.1 y4.2.1).bind fun y5 =>
    if !y5 then some true
    else some (!y3.2.2)).bind fun c19 =>
    if c19 then
      (if y3.2.2==y4.2.2 then (laws_vInts fu y3.2.1 y4.2.1).bind fun y6 =>
      some y6
      else some false).bind fun c20 =>
      some c20
    else
      ((impl_IsValidRestoration fu y3.1).bind fun y7 =>
      if !y7 then some true
      else some ((y3.1.Plan.Lights.length:Int) != (y2.Plan.Lights.length:Int))).bind fun c21 =>
      if c21 then
        some false
      else
        (laws_FnReverting_L1 fu y2 y3 fu 0 y2.Plan.Lights).bind fun out=>out.on some fun z2 =>
        some true
end AT
