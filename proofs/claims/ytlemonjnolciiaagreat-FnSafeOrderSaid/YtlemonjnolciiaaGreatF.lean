/- The Go functions told plainly, by program (gen.py). -/
import Derived.Test.YtlemonjnolciiaaGreatAtPM
set_option linter.unusedVariables false
namespace AT
structure L1CurP where
  code:List By
  at_:Int
  seed:U64
  deriving DecidableEq
structure Fiber where
  A:Int
  B:Int
  Length:Int
  Risk:Int
  deriving DecidableEq
structure Network where
  Nodes:List ByteArray
  Fibers:List Fiber
  deriving DecidableEq
structure Route where
  Start:Int
  Fibers:List Int
  deriving DecidableEq
structure Block where
  First:Int
  Count:Int
  deriving DecidableEq
structure Light where
  Id:Int
  Route:Route
  Block:Block
  deriving DecidableEq
structure Plan where
  Network:Network
  Lights:List Light
  deriving DecidableEq
structure Format where
  Reach:Int
  Rate:Int
  deriving DecidableEq
structure Restoration where
  Plan:Plan
  Home:List Light
  Down:List Int
  deriving DecidableEq
structure L4SearchP where
  n:Network
  to:Int
  list:List Route
  deriving DecidableEq
structure Action where
  Kind:Int
  Light:Light
  deriving DecidableEq
structure L20SearchP where
  list:List Action
  failed:List Bool
  deriving DecidableEq
structure FiberEvent where
  Fail:Bool
  Fibers:List Int
  deriving DecidableEq
structure Demand where
  From:Int
  To:Int
  Rate:Int
  Class:Int
  deriving DecidableEq
structure Served where
  Plan:Plan
  Ids:List Int
  Blocked:Int
  deriving DecidableEq
structure ChoiceP where
  route:Route
  count:Int
  deriving DecidableEq
def gdj (fu:Nat) (code:List By):Option (Bool) :=
  some (decide ((code.length:Int) > 65536))
def yX (fu:Nat) (c:L1CurP):Option (Int×L1CurP) :=
  if decide (c.at_<(c.code.length:Int)) then
    (idx c.code c.at_).bind fun e =>
    if decide ((w64 (c.at_ + 1))≤(c.code.length:Int)) then
      some (w64 e.n,({ code:=c.code,at_:=w64 (c.at_ + 1),seed:=(⟨wu64 ((wu64 ((wu64 (c.seed.n * 6364136223846793005)) + (wu64 (w64 e.n)))) + 897897)⟩:U64) }:L1CurP))
    else
      (shrk 64 (wu64 ((wu64 ((wu64 (c.seed.n * 6364136223846793005)) + (wu64 (w64 e.n)))) + 897897)) 40).bind fun q =>
      some (w64 (gdq q 255),({ code:=c.code,at_:=w64 (c.at_ + 1),seed:=(⟨wu64 ((wu64 ((wu64 (c.seed.n * 6364136223846793005)) + (wu64 (w64 e.n)))) + 897897)⟩:U64) }:L1CurP))
  else
    if decide ((w64 (c.at_ + 1))≤(c.code.length:Int)) then
      some (0,({ code:=c.code,at_:=w64 (c.at_ + 1),seed:=(⟨wu64 ((wu64 ((wu64 (c.seed.n * 6364136223846793005)) + (wu64 0))) + 897897)⟩:U64) }:L1CurP))
    else
      (shrk 64 (wu64 ((wu64 ((wu64 (c.seed.n * 6364136223846793005)) + (wu64 0))) + 897897)) 40).bind fun q2 =>
      some (w64 (gdq q2 255),({ code:=c.code,at_:=w64 (c.at_ + 1),seed:=(⟨wu64 ((wu64 ((wu64 (c.seed.n * 6364136223846793005)) + (wu64 0))) + 897897)⟩:U64) }:L1CurP))
def ur (fu:Nat) (c:L1CurP) (n':Int):Option (Int×L1CurP) :=
  if decide (n'≤1) then
    some (0,c)
  else
    (yX fu c).bind fun y =>
    if decide (n' > 200) then
      (yX fu y.2).bind fun y2 =>
      (rem (w64 ((w64 (y.1 * 256)) + y2.1)) n').bind fun q =>
      some (q,y2.2)
    else
      (rem y.1 n').bind fun q2 =>
      some (q2,y.2)
def u3 (fu:Nat) (c:L1CurP) (n':Int):Option (Bool×L1CurP) :=
  (ur fu c n').bind fun y =>
  some (y.1==0,y.2)
def gad (fu:Nat) (a':Int) (b':Int):Option (Int) :=
  if decide (a'<b') then
    some a'
  else
    some b'
def gay (fu:Nat) (a':Int) (b':Int):Option (Int) :=
  if decide (a' > b') then
    some a'
  else
    some b'
def vf (fu:Nat) (c:L1CurP) (list:List Int):Option (Int×L1CurP) :=
  (ur fu c (list.length:Int)).bind fun y =>
  (idx list y.1).bind fun e =>
  some (e,y.2)
def zJ (fu:Nat) (f:Fiber) (g':Fiber):Option (Int) :=
  if f.A != g'.A then
    some (w64 (f.A - g'.A))
  else
    if f.B != g'.B then
      some (w64 (f.B - g'.B))
    else
      if f.Length != g'.Length then
        some (w64 (f.Length - g'.Length))
      else
        some (w64 (f.Risk - g'.Risk))
def zh (fu:Nat) (list:List Fiber) (f:Fiber):Nat→Int→Option (Int)
  | 0,_=>none
  | fk + 1,i =>
    (if decide (i<(list.length:Int)) then (idx list i).bind fun e =>
    (zJ fu e f).bind fun y =>
    some (decide (y≤0))
    else some false).bind fun c2 =>
    if c2 then
      zh fu list f fk (w64 (i + 1))
    else
      some i
def gba (fu:Nat) (list:List Fiber) (f:Fiber):Option (List Fiber) :=
  (zh fu list f fu 0).bind fun z =>
  (sub list 0 z).bind fun l =>
  (sub list z (list.length:Int)).bind fun l2 =>
  (app ([]:List Fiber) l).bind fun l3 =>
  (app l3 [f]).bind fun l4 =>
  (app l4 l2).bind fun l5 =>
  some l5
def vj (fu:Nat) (y:Int×L1CurP):Nat→Int→List By→Int→U64→List Fiber→Option (Int×List By×Int×U64×List Fiber)
  | 0,_,_,_,_,_=>none
  | fk + 1,i,m,m2,m3,m4 =>
    if decide (i<(w64 (2 + y.1))) then
      (rem (w64 (i + 1)) (w64 (2 + y.1))).bind fun q =>
      if i==q then vj fu y fk (w64 (i + 1)) m m2 m3 m4
      else (u3 fu ({ code:=m,at_:=m2,seed:=m3 }:L1CurP) 10).bind fun y2 =>
      if y2.1 then
        vj fu y fk (w64 (i + 1)) y2.2.code y2.2.at_ y2.2.seed m4
      else
        (gad fu i q).bind fun y3 =>
        (gay fu i q).bind fun y4 =>
        (ur fu y2.2 8).bind fun y5 =>
        (vf fu y5.2 [0,0,0,1,2]).bind fun y6 =>
        (gba fu m4 ({ A:=y3,B:=y4,Length:=w64 (100 * (w64 (1 + y5.1))),Risk:=y6.1 }:Fiber)).bind fun y7 =>
        vj fu y fk (w64 (i + 1)) y6.2.code y6.2.at_ y6.2.seed y7
    else
      some (i,m,m2,m3,m4)
def vz (fu:Nat) (y:Int×L1CurP):Nat→Int→List Fiber→List By→Int→U64→Option (Int×List Fiber×List By×Int×U64)
  | 0,_,_,_,_,_=>none
  | fk + 1,m9,m10,m11,m12,m13 =>
    if decide (m9 > 0) then
      (ur fu ({ code:=m11,at_:=m12,seed:=m13 }:L1CurP) (w64 (2 + y.1))).bind fun y9 =>
      (ur fu y9.2 (w64 (2 + y.1))).bind fun y10 =>
      if y9.1 != y10.1 then
        (gad fu y9.1 y10.1).bind fun y11 =>
        (gay fu y9.1 y10.1).bind fun y12 =>
        (ur fu y10.2 8).bind fun y13 =>
        (vf fu y13.2 [0,0,0,1,2]).bind fun y14 =>
        (gba fu m10 ({ A:=y11,B:=y12,Length:=w64 (100 * (w64 (1 + y13.1))),Risk:=y14.1 }:Fiber)).bind fun y15 =>
        vz fu y fk (w64 (m9 - 1)) y15 y14.2.code y14.2.at_ y14.2.seed
      else
        vz fu y fk (w64 (m9 - 1)) m10 y10.2.code y10.2.at_ y10.2.seed
    else
      some (m9,m10,m11,m12,m13)
def xJ (fu:Nat) (c:L1CurP):Option (Network×L1CurP) :=
  (ur fu c 5).bind fun y =>
  (sub [(⟨#[97]⟩:ByteArray),(⟨#[98]⟩:ByteArray),(⟨#[99]⟩:ByteArray),(⟨#[100]⟩:ByteArray),(⟨#[101]⟩:ByteArray),(⟨#[102]⟩:ByteArray)] 0 (w64 (2 + y.1))).bind fun l =>
  (vj fu y fu 0 y.2.code y.2.at_ y.2.seed []).bind fun z2 =>
  (ur fu ({ code:=z2.2.1,at_:=z2.2.2.1,seed:=z2.2.2.2.1 }:L1CurP) 4).bind fun y8 =>
  (vz fu y fu y8.1 z2.2.2.2.2 y8.2.code y8.2.at_ y8.2.seed).bind fun z =>
  some (({ Nodes:=l,Fibers:=z.2.1 }:Network),({ code:=z.2.2.1,at_:=z.2.2.2.1,seed:=z.2.2.2.2 }:L1CurP))
def yf (fu:Nat) (c:L1CurP):Option (Network×L1CurP) :=
  (xJ fu c).bind fun y =>
  if (y.1.Fibers.length:Int)==0 then
    (app y.1.Fibers [({ A:=0,B:=1,Length:=100,Risk:=0 }:Fiber)]).bind fun l =>
    some (({ Nodes:=y.1.Nodes,Fibers:=l }:Network),y.2)
  else
    some (y.1,y.2)
def yz (fu:Nat) (n':Network) (fiber:Int) (node:Int):Option (Int) :=
  (idx n'.Fibers fiber).bind fun e =>
  if node==e.A then
    some e.B
  else
    if node==e.B then
      some e.A
    else
      some (-1)
def yB (fu:Nat) (l:List Int) (n':Int):Nat→Int→Option (Out (Int) (Bool))
  | 0,_=>none
  | fk + 1,i =>
    if decide (i<(l.length:Int)) then
      (idx l i).bind fun e =>
      if e==n' then
        some (.ret true)
      else
        yB fu l n' fk (w64 (i + 1))
    else
      some (.next i)
def zL (fu:Nat) (l:List Int) (n':Int):Option (Bool) :=
  (yB fu l n' fu 0).bind fun out=>out.on some fun z =>
  some false
def vp (fu:Nat) (n':Network) (y:Int×L1CurP) (seen:List Int):Nat→List Int→Int→Option (List Int×Int)
  | 0,_,_=>none
  | fk + 1,list,i =>
    if decide (i<(n'.Fibers.length:Int)) then
      (idx seen (w64 ((seen.length:Int) - 1))).bind fun e =>
      (yz fu n' i e).bind fun y3 =>
      (if decide (y3≥0) then (zL fu seen y3).bind fun y4 =>
      some (!y4)
      else some false).bind fun c10 =>
      if c10 then
        (app list [i]).bind fun l =>
        vp fu n' y seen fk l (w64 (i + 1))
      else
        vp fu n' y seen fk list (w64 (i + 1))
    else
      some (list,i)
def xd (fu:Nat) (n':Network) (y:Int×L1CurP):Nat→List Int→Int→List Int→List By→Int→U64→Option (List Int×Int×List Int×List By×Int×U64)
  | 0,_,_,_,_,_,_=>none
  | fk + 1,seen,m,m2,m3,m4,m5 =>
    if decide (m > 0) then
      (vp fu n' y seen fu ([]:List Int) 0).bind fun z =>
      if (z.1.length:Int)==0 then
        some (seen,m,m2,m3,m4,m5)
      else
        (ur fu ({ code:=m3,at_:=m4,seed:=m5 }:L1CurP) (z.1.length:Int)).bind fun y5 =>
        (idx z.1 y5.1).bind fun e2 =>
        (app m2 [e2]).bind fun l2 =>
        (idx seen (w64 ((seen.length:Int) - 1))).bind fun e3 =>
        (yz fu n' e2 e3).bind fun y6 =>
        (app seen [y6]).bind fun l3 =>
        xd fu n' y fk l3 (w64 (m - 1)) l2 y5.2.code y5.2.at_ y5.2.seed
    else
      some (seen,m,m2,m3,m4,m5)
def yv (fu:Nat) (c:L1CurP) (n':Network):Option (Route×L1CurP) :=
  (ur fu c (n'.Nodes.length:Int)).bind fun y =>
  (ur fu y.2 4).bind fun y2 =>
  (xd fu n' y fu [y.1] (w64 (1 + y2.1)) ([]:List Int) y2.2.code y2.2.at_ y2.2.seed).bind fun z2 =>
  some (({ Start:=y.1,Fibers:=z2.2.2.1 }:Route),({ code:=z2.2.2.2.1,at_:=z2.2.2.2.2.1,seed:=z2.2.2.2.2.2 }:L1CurP))
def ye (fu:Nat) (c:L1CurP) (n':Network):Option (Route×L1CurP) :=
  (yv fu c n').bind fun y =>
  if (y.1.Fibers.length:Int)==0 then
    (idx n'.Fibers 0).bind fun e =>
    some (({ Start:=e.A,Fibers:=[0] }:Route),y.2)
  else
    some (y.1,y.2)
def zf (fu:Nat) (b':Block):Option (Int) :=
  (shl 1 (wu64 b'.Count)).bind fun q =>
  (shl (w64 (q - 1)) (wu64 b'.First)).bind fun q2 =>
  some q2
def xX (fu:Nat) (p:Plan) (fiber:Int):Nat→Int→Int→Option (Int×Int)
  | 0,_,_=>none
  | fk + 1,out',i =>
    if decide (i<(p.Lights.length:Int)) then
      (idx p.Lights i).bind fun e =>
      (zL fu e.Route.Fibers fiber).bind fun y =>
      if y then
        (idx p.Lights i).bind fun e2 =>
        (zf fu e2.Block).bind fun y2 =>
        xX fu p fiber fk (bor out' y2) (w64 (i + 1))
      else
        xX fu p fiber fk out' (w64 (i + 1))
    else
      some (out',i)
def gbc (fu:Nat) (p:Plan) (fiber:Int):Option (Int) :=
  (xX fu p fiber fu 0 0).bind fun z =>
  some z.1
def ym (fu:Nat) (p:Plan) (r':Route):Nat→Int→Int→Option (Int×Int)
  | 0,_,_=>none
  | fk + 1,out',i =>
    if decide (i<(r'.Fibers.length:Int)) then
      (idx r'.Fibers i).bind fun e =>
      (gbc fu p e).bind fun y =>
      ym fu p r' fk (bor out' y) (w64 (i + 1))
    else
      some (out',i)
def gaL (fu:Nat) (p:Plan) (r':Route):Option (Int) :=
  (ym fu p r' fu 0 0).bind fun z =>
  some z.1
def x5 (fu:Nat) (mask:Int) (count:Int):Nat→List Int→Int→Option (List Int×Int)
  | 0,_,_=>none
  | fk + 1,out',s' =>
    if decide ((w64 (s' + count))≤24) then
      (zf fu ({ First:=s',Count:=count }:Block)).bind fun y =>
      if (band mask y)==0 then
        (app out' [s']).bind fun l =>
        x5 fu mask count fk l (w64 (s' + 1))
      else
        x5 fu mask count fk out' (w64 (s' + 1))
    else
      some (out',s')
def gbe (fu:Nat) (mask:Int) (count:Int):Option (List Int) :=
  (x5 fu mask count fu ([]:List Int) 0).bind fun z =>
  some z.1
def gcu (fu:Nat) (n':Network):Option (Network) :=
  (app ([]:List ByteArray) n'.Nodes).bind fun l =>
  (app ([]:List Fiber) n'.Fibers).bind fun l2 =>
  some ({ Nodes:=l,Fibers:=l2 }:Network)
def gac (fu:Nat) (l:List Int):Option (List Int) :=
  (app ([]:List Int) l).bind fun l2 =>
  some l2
def gaw (fu:Nat) (r':Route):Option (Route) :=
  (gac fu r'.Fibers).bind fun y =>
  some ({ Start:=r'.Start,Fibers:=y }:Route)
def yM (fu:Nat) (x1:Light):Option (Light) :=
  (gaw fu x1.Route).bind fun y =>
  some ({ Id:=x1.Id,Route:=y,Block:=x1.Block }:Light)
def xz (fu:Nat) (p:Plan):Nat→Int→List Light→Option (Int×List Light)
  | 0,_,_=>none
  | fk + 1,i,m =>
    if decide (i<(p.Lights.length:Int)) then
      (idx p.Lights i).bind fun e =>
      (yM fu e).bind fun y2 =>
      (app m [y2]).bind fun al =>
      xz fu p fk (w64 (i + 1)) al
    else
      some (i,m)
def zB (fu:Nat) (p:Plan):Option (Plan) :=
  (gcu fu p.Network).bind fun y =>
  (xz fu p fu 0 ([]:List Light)).bind fun z =>
  some ({ Network:=y,Lights:=z.2 }:Plan)
def ze (fu:Nat) (x1:Light) (y:Plan):Nat→Int→Option (Int)
  | 0,_=>none
  | fk + 1,i =>
    (if decide (i<(y.Lights.length:Int)) then (idx y.Lights i).bind fun e =>
    some (decide (e.Id<x1.Id))
    else some false).bind fun c8 =>
    if c8 then
      ze fu x1 y fk (w64 (i + 1))
    else
      some i
def yW (fu:Nat) (p:Plan) (x1:Light):Option (Plan) :=
  (zB fu p).bind fun y =>
  (ze fu x1 y fu 0).bind fun z =>
  (sub y.Lights 0 z).bind fun l =>
  (sub y.Lights z (y.Lights.length:Int)).bind fun l2 =>
  (app ([]:List Light) l).bind fun l3 =>
  (yM fu x1).bind fun y2 =>
  (app l3 [y2]).bind fun l4 =>
  (app l4 l2).bind fun l5 =>
  some ({ Network:=y.Network,Lights:=l5 }:Plan)
def vy (fu:Nat):Nat→Int→List ByteArray→List Fiber→List Light→List By→Int→U64→Option (Int×List ByteArray×List Fiber×List Light×List By×Int×U64)
  | 0,_,_,_,_,_,_,_=>none
  | fk + 1,n',m,m2,m3,m4,m5,m6 =>
    if decide (n' > 0) then
      (ye fu ({ code:=m4,at_:=m5,seed:=m6 }:L1CurP) ({ Nodes:=m,Fibers:=m2 }:Network)).bind fun y3 =>
      (ur fu y3.2 5).bind fun y4 =>
      (gaL fu ({ Network:=({ Nodes:=m,Fibers:=m2 }:Network),Lights:=m3 }:Plan) y3.1).bind fun y5 =>
      (gbe fu y5 (w64 (1 + y4.1))).bind fun y6 =>
      if decide ((y6.length:Int) > 0) then
        (idx y6 0).bind fun e =>
        (u3 fu y4.2 2).bind fun y7 =>
        if y7.1 then
          (ur fu y7.2 (y6.length:Int)).bind fun y8 =>
          (idx y6 y8.1).bind fun e2 =>
          (ur fu y8.2 3).bind fun y9 =>
          (yW fu ({ Network:=({ Nodes:=m,Fibers:=m2 }:Network),Lights:=m3 }:Plan) ({ Id:=w64 ((w64 ((w64 ((m3.length:Int) * 3)) + 1)) + y9.1),Route:=y3.1,Block:=({ First:=e2,Count:=w64 (1 + y4.1) }:Block) }:Light)).bind fun y10 =>
          vy fu fk (w64 (n' - 1)) y10.Network.Nodes y10.Network.Fibers y10.Lights y9.2.code y9.2.at_ y9.2.seed
        else
          (ur fu y7.2 3).bind fun y11 =>
          (yW fu ({ Network:=({ Nodes:=m,Fibers:=m2 }:Network),Lights:=m3 }:Plan) ({ Id:=w64 ((w64 ((w64 ((m3.length:Int) * 3)) + 1)) + y11.1),Route:=y3.1,Block:=({ First:=e,Count:=w64 (1 + y4.1) }:Block) }:Light)).bind fun y12 =>
          vy fu fk (w64 (n' - 1)) y12.Network.Nodes y12.Network.Fibers y12.Lights y11.2.code y11.2.at_ y11.2.seed
      else
        vy fu fk (w64 (n' - 1)) m m2 m3 y4.2.code y4.2.at_ y4.2.seed
    else
      some (n',m,m2,m3,m4,m5,m6)
def yo (fu:Nat) (c:L1CurP):Option (Plan×L1CurP) :=
  (yf fu c).bind fun y =>
  (ur fu y.2 9).bind fun y2 =>
  (vy fu fu y2.1 y.1.Nodes y.1.Fibers ([]:List Light) y2.2.code y2.2.at_ y2.2.seed).bind fun z =>
  some (({ Network:=({ Nodes:=z.2.1,Fibers:=z.2.2.1 }:Network),Lights:=z.2.2.2.1 }:Plan),({ code:=z.2.2.2.2.1,at_:=z.2.2.2.2.2.1,seed:=z.2.2.2.2.2.2 }:L1CurP))
def xK (fu:Nat) (c:L1CurP):Option (Block×L1CurP) :=
  (u3 fu c 12).bind fun y =>
  if y.1 then
    (ur fu y.2 26).bind fun y2 =>
    (ur fu y2.2 27).bind fun y3 =>
    some (({ First:=w64 (y2.1 - 1),Count:=w64 (y3.1 - 1) }:Block),y3.2)
  else
    (ur fu y.2 6).bind fun y4 =>
    (ur fu y4.2 (w64 ((w64 (24 - (w64 (1 + y4.1)))) + 1))).bind fun y5 =>
    some (({ First:=y5.1,Count:=w64 (1 + y4.1) }:Block),y5.2)
def xf (fu:Nat) (c:L1CurP) (n':Network):Option (Route×L1CurP) :=
  (yv fu c n').bind fun y =>
  (ur fu y.2 16).bind fun y2 =>
  if y2.1==0 then
    (ur fu y2.2 8).bind fun y3 =>
    some (({ Start:=w64 (y3.1 - 1),Fibers:=y.1.Fibers }:Route),y3.2)
  else
    if y2.1==1 then
      (ur fu y2.2 8).bind fun y4 =>
      (app y.1.Fibers [w64 (y4.1 - 1)]).bind fun l =>
      some (({ Start:=y.1.Start,Fibers:=l }:Route),y4.2)
    else
      if y2.1==2 then
        some (({ Start:=y.1.Start,Fibers:=([]:List Int) }:Route),y2.2)
      else
        if y2.1==3 then
          if decide ((y.1.Fibers.length:Int) > 1) then
            (idx y.1.Fibers (w64 ((y.1.Fibers.length:Int) - 1))).bind fun e =>
            (app y.1.Fibers [e]).bind fun l2 =>
            some (({ Start:=y.1.Start,Fibers:=l2 }:Route),y2.2)
          else
            some (y.1,y2.2)
        else
          some (y.1,y2.2)
def gaj (fu:Nat) (c:L1CurP) (list:List ByteArray):Option (ByteArray×L1CurP) :=
  (ur fu c (list.length:Int)).bind fun y =>
  (idx list y.1).bind fun e =>
  some (e,y.2)
def vx (fu:Nat):Nat→List Fiber→List By→Int→U64→Option (List Fiber×List By×Int×U64)
  | 0,_,_,_,_=>none
  | fk + 1,m,m2,m3,m4 =>
    (ur fu ({ code:=m2,at_:=m3,seed:=m4 }:L1CurP) 2).bind fun y9 =>
    if decide ((m.length:Int)<(w64 (14 + y9.1))) then
      (idx m (w64 ((m.length:Int) - 1))).bind fun e10 =>
      (app m [e10]).bind fun l2 =>
      vx fu fk l2 y9.2.code y9.2.at_ y9.2.seed
    else
      some (m,y9.2.code,y9.2.at_,y9.2.seed)
def xG (fu:Nat) (c:L1CurP):Option (Network×L1CurP) :=
  (xJ fu c).bind fun y =>
  if (y.1.Fibers.length:Int)==0 then
    some (y.1,y.2)
  else
    (ur fu y.2 (y.1.Fibers.length:Int)).bind fun y2 =>
    (idx y.1.Fibers y2.1).bind fun e =>
    (ur fu y2.2 24).bind fun y3 =>
    if y3.1==0 then
      (gaj fu y3.2 [(⟨#[98]⟩:ByteArray),ByteArray.empty,(⟨#[65]⟩:ByteArray),(⟨#[97,98,99,100,101,102,103,104]⟩:ByteArray),(⟨#[97,98,99,100,101,102,103,104,105]⟩:ByteArray),(⟨#[120,49]⟩:ByteArray)]).bind fun y4 =>
      (idx y.1.Nodes 0).bind fun e2 =>
      (idx y.1.Fibers y2.1).bind fun e3 =>
      some (({ Nodes:=y.1.Nodes.set (0:Int).toNat y4.1,Fibers:=y.1.Fibers.set (y2.1:Int).toNat e }:Network),y4.2)
    else
      if y3.1==1 then
        (ur fu y3.2 8).bind fun y5 =>
        (idx y.1.Fibers y2.1).bind fun e4 =>
        some (({ Nodes:=y.1.Nodes,Fibers:=y.1.Fibers.set (y2.1:Int).toNat ({ A:=w64 (y5.1 - 1),B:=e.B,Length:=e.Length,Risk:=e.Risk }:Fiber) }:Network),y5.2)
      else
        if y3.1==2 then
          (ur fu y3.2 10).bind fun y6 =>
          (idx y.1.Fibers y2.1).bind fun e5 =>
          some (({ Nodes:=y.1.Nodes,Fibers:=y.1.Fibers.set (y2.1:Int).toNat ({ A:=e.A,B:=w64 (y6.1 - 1),Length:=e.Length,Risk:=e.Risk }:Fiber) }:Network),y6.2)
        else
          if y3.1==3 then
            (vf fu y3.2 [0,1,5000,5001]).bind fun y7 =>
            (idx y.1.Fibers y2.1).bind fun e6 =>
            some (({ Nodes:=y.1.Nodes,Fibers:=y.1.Fibers.set (y2.1:Int).toNat ({ A:=e.A,B:=e.B,Length:=y7.1,Risk:=e.Risk }:Fiber) }:Network),y7.2)
          else
            if y3.1==4 then
              (vf fu y3.2 [(-1),9,10]).bind fun y8 =>
              (idx y.1.Fibers y2.1).bind fun e7 =>
              some (({ Nodes:=y.1.Nodes,Fibers:=y.1.Fibers.set (y2.1:Int).toNat ({ A:=e.A,B:=e.B,Length:=e.Length,Risk:=y8.1 }:Fiber) }:Network),y8.2)
            else
              if y3.1==5 then
                (idx y.1.Fibers 0).bind fun e8 =>
                (app y.1.Fibers [e8]).bind fun l =>
                (idx l y2.1).bind fun e9 =>
                some (({ Nodes:=y.1.Nodes,Fibers:=l.set (y2.1:Int).toNat e }:Network),y3.2)
              else
                if y3.1==6 then
                  (vx fu fu y.1.Fibers y3.2.code y3.2.at_ y3.2.seed).bind fun z =>
                  some (({ Nodes:=y.1.Nodes,Fibers:=z.1 }:Network),({ code:=z.2.1,at_:=z.2.2.1,seed:=z.2.2.2 }:L1CurP))
                else
                  if y3.1==7 then
                    (app y.1.Nodes [(⟨#[112]⟩:ByteArray),(⟨#[113]⟩:ByteArray),(⟨#[114]⟩:ByteArray),(⟨#[115]⟩:ByteArray)]).bind fun l3 =>
                    (idx y.1.Fibers y2.1).bind fun e11 =>
                    some (({ Nodes:=l3,Fibers:=y.1.Fibers.set (y2.1:Int).toNat e }:Network),y3.2)
                  else
                    (idx y.1.Fibers y2.1).bind fun e12 =>
                    some (({ Nodes:=y.1.Nodes,Fibers:=y.1.Fibers.set (y2.1:Int).toNat e }:Network),y3.2)
def vM (fu:Nat) (y:Plan×L1CurP):Nat→Int→List Light→List By→Int→U64→Option (Int×List Light×List By×Int×U64)
  | 0,_,_,_,_,_=>none
  | fk + 1,n',m,m2,m3,m4 =>
    (ur fu ({ code:=m2,at_:=m3,seed:=m4 }:L1CurP) 2).bind fun y8 =>
    if decide ((m.length:Int)<(w64 (12 + y8.1))) then if decide (n'<14) then
      (idx y.1.Network.Fibers 0).bind fun e7 =>
      (app m [({ Id:=w64 (500 + n'),Route:=({ Start:=e7.A,Fibers:=[0] }:Route),Block:=({ First:=w64 (23 - n'),Count:=1 }:Block) }:Light)]).bind fun l2 =>
      vM fu y fk (w64 (n' + 1)) l2 y8.2.code y8.2.at_ y8.2.seed
    else
      some (n',m,y8.2.code,y8.2.at_,y8.2.seed)
    else some (n',m,y8.2.code,y8.2.at_,y8.2.seed)
def yC (fu:Nat) (c:L1CurP):Option (Plan×L1CurP) :=
  (yo fu c).bind fun y =>
  if (y.1.Lights.length:Int)==0 then
    some (y.1,y.2)
  else
    (ur fu y.2 (y.1.Lights.length:Int)).bind fun y2 =>
    (idx y.1.Lights y2.1).bind fun e =>
    (ur fu y2.2 24).bind fun y3 =>
    if y3.1==0 then
      (vf fu y3.2 [0,999,1000,1,4]).bind fun y4 =>
      (idx y.1.Lights y2.1).bind fun e2 =>
      some (({ Network:=y.1.Network,Lights:=y.1.Lights.set (y2.1:Int).toNat ({ Id:=y4.1,Route:=e.Route,Block:=e.Block }:Light) }:Plan),y4.2)
    else
      if y3.1==1 then
        (xK fu y3.2).bind fun y5 =>
        (idx y.1.Lights y2.1).bind fun e3 =>
        some (({ Network:=y.1.Network,Lights:=y.1.Lights.set (y2.1:Int).toNat ({ Id:=e.Id,Route:=e.Route,Block:=y5.1 }:Light) }:Plan),y5.2)
      else
        if y3.1==2 then
          (xf fu y3.2 y.1.Network).bind fun y6 =>
          (idx y.1.Lights y2.1).bind fun e4 =>
          some (({ Network:=y.1.Network,Lights:=y.1.Lights.set (y2.1:Int).toNat ({ Id:=e.Id,Route:=y6.1,Block:=e.Block }:Light) }:Plan),y6.2)
        else
          if y3.1==3 then
            (app y.1.Lights [e]).bind fun l =>
            (idx l y2.1).bind fun e5 =>
            some (({ Network:=y.1.Network,Lights:=l.set (y2.1:Int).toNat e }:Plan),y3.2)
          else
            if y3.1==4 then
              (xG fu y3.2).bind fun y7 =>
              (idx y.1.Lights y2.1).bind fun e6 =>
              some (({ Network:=y7.1,Lights:=y.1.Lights.set (y2.1:Int).toNat e }:Plan),y7.2)
            else
              if y3.1==5 then
                (vM fu y fu 0 y.1.Lights y3.2.code y3.2.at_ y3.2.seed).bind fun z =>
                some (({ Network:=y.1.Network,Lights:=z.2.1 }:Plan),({ code:=z.2.2.1,at_:=z.2.2.2.1,seed:=z.2.2.2.2 }:L1CurP))
              else
                (idx y.1.Lights y2.1).bind fun e8 =>
                some (({ Network:=y.1.Network,Lights:=y.1.Lights.set (y2.1:Int).toNat e }:Plan),y3.2)
def yn (fu:Nat) (x1:Int) (a':Int) (b':Int):Option (Bool) :=
  (if decide (x1≥a') then some (decide (x1≤b'))
  else some false).bind fun c =>
  some c
def gbj (fu:Nat) (b':By):Option (Bool) :=
  (if decide (b'.n≥97) then if decide (b'.n≤122) then some true
  else if decide (b'.n≥48) then some (decide (b'.n≤57))
  else some false
  else if decide (b'.n≥48) then some (decide (b'.n≤57))
  else some false).bind fun c =>
  some c
def xC (fu:Nat) (s':ByteArray):Nat→Int→Option (Out (Int) (Bool))
  | 0,_=>none
  | fk + 1,i =>
    if decide (i<(s'.size:Int)) then
      (sidx s' i).bind fun e3 =>
      (gbj fu e3).bind fun y2 =>
      if !y2 then
        some (.ret false)
      else
        xC fu s' fk (w64 (i + 1))
    else
      some (.next i)
def gbl (fu:Nat) (s':ByteArray):Option (Bool) :=
  ((yn fu (s'.size:Int) 1 8).bind fun y =>
  if !y then some true
  else (sidx s' 0).bind fun e =>
  if decide (e.n<97) then some true
  else (sidx s' 0).bind fun e2 =>
  some (decide (e2.n > 122))).bind fun c =>
  if c then
    some false
  else
    (xC fu s' fu 0).bind fun out=>out.on some fun z =>
    some true
def x9 (fu:Nat) (list:List ByteArray) (name:ByteArray):Nat→Int→Option (Out (Int) (Int))
  | 0,_=>none
  | fk + 1,i =>
    if decide (i<(list.length:Int)) then
      (idx list i).bind fun e =>
      if e.toList==name.toList then
        some (.ret i)
      else
        x9 fu list name fk (w64 (i + 1))
    else
      some (.next i)
def gbm (fu:Nat) (list:List ByteArray) (name:ByteArray):Option (Int) :=
  (x9 fu list name fu 0).bind fun out=>out.on some fun z =>
  some (-1)
def gaM (fu:Nat) (f:Fiber) (nodes:Int):Option (Bool) :=
  ((yn fu f.A 0 (w64 (nodes - 1))).bind fun y =>
  if y then (yn fu f.B (w64 (f.A + 1)) (w64 (nodes - 1))).bind fun y2 =>
  if y2 then (yn fu f.Length 1 5000).bind fun y3 =>
  if y3 then (yn fu f.Risk 0 9).bind fun y4 =>
  some y4
  else some false
  else some false
  else some false).bind fun c =>
  some c
def x8 (fu:Nat) (n':Network):Nat→Int→Option (Out (Int) (Bool))
  | 0,_=>none
  | fk + 1,i =>
    if decide (i<(n'.Nodes.length:Int)) then
      ((idx n'.Nodes i).bind fun e =>
      (gbl fu e).bind fun y2 =>
      if !y2 then some true
      else (idx n'.Nodes i).bind fun e2 =>
      (gbm fu n'.Nodes e2).bind fun y3 =>
      some (y3 != i)).bind fun c4 =>
      if c4 then
        some (.ret false)
      else
        x8 fu n' fk (w64 (i + 1))
    else
      some (.next i)
def x7 (fu:Nat) (n':Network):Nat→Int→Option (Out (Int) (Bool))
  | 0,_=>none
  | fk + 1,i3 =>
    if decide (i3<(n'.Fibers.length:Int)) then
      ((idx n'.Fibers i3).bind fun e3 =>
      (gaM fu e3 (n'.Nodes.length:Int)).bind fun y4 =>
      if !y4 then some true
      else if decide (i3 > 0) then (idx n'.Fibers (w64 (i3 - 1))).bind fun e4 =>
      (idx n'.Fibers i3).bind fun e5 =>
      (zJ fu e4 e5).bind fun y5 =>
      some (decide (y5 > 0))
      else some false).bind fun c5 =>
      if c5 then
        some (.ret false)
      else
        x7 fu n' fk (w64 (i3 + 1))
    else
      some (.next i3)
def gax (fu:Nat) (n':Network):Option (Bool) :=
  ((yn fu (n'.Nodes.length:Int) 2 8).bind fun y =>
  if !y then some true
  else some (decide ((n'.Fibers.length:Int) > 14))).bind fun c3 =>
  if c3 then
    some false
  else
    (x8 fu n' fu 0).bind fun out=>out.on some fun z2 =>
    (x7 fu n' fu 0).bind fun out=>out.on some fun z =>
    some true
def yN (fu:Nat) (n':Network) (r':Route):Nat→List Int→Int→Option (Out (List Int×Int) (List Int×Bool))
  | 0,_,_=>none
  | fk + 1,out',i =>
    if decide (i<(r'.Fibers.length:Int)) then
      (idx r'.Fibers i).bind fun e =>
      (yn fu e 0 (w64 ((n'.Fibers.length:Int) - 1))).bind fun y2 =>
      if !y2 then
        some (.ret (out',false))
      else
        (idx r'.Fibers i).bind fun e2 =>
        (idx out' (w64 ((out'.length:Int) - 1))).bind fun e3 =>
        (yz fu n' e2 e3).bind fun y3 =>
        (if decide (y3<0) then some true
        else (zL fu out' y3).bind fun y4 =>
        some y4).bind fun c6 =>
        if c6 then
          some (.ret (out',false))
        else
          (app out' [y3]).bind fun l =>
          yN fu n' r' fk l (w64 (i + 1))
    else
      some (.next (out',i))
def gbf (fu:Nat) (n':Network) (r':Route):Option (List Int×Bool) :=
  ((yn fu r'.Start 0 (w64 ((n'.Nodes.length:Int) - 1))).bind fun y =>
  if !y then some true
  else some ((r'.Fibers.length:Int)==0)).bind fun c4 =>
  if c4 then
    some ([r'.Start],false)
  else
    (yN fu n' r' fu [r'.Start] 0).bind fun out=>out.on some fun z =>
    some (z.1,true)
def gbi (fu:Nat) (n':Network) (r':Route):Option (Bool) :=
  (gax fu n').bind fun y =>
  if !y then
    some false
  else
    (gbf fu n' r').bind fun y2 =>
    some y2.2
def gbd (fu:Nat) (b':Block):Option (Bool) :=
  ((yn fu b'.First 0 23).bind fun y =>
  if y then (yn fu b'.Count 1 (w64 (24 - b'.First))).bind fun y2 =>
  some y2
  else some false).bind fun c =>
  some c
def gaK (fu:Nat) (n':Network) (x1:Light):Option (Bool) :=
  ((yn fu x1.Id 1 999).bind fun y =>
  if y then (gbi fu n' x1.Route).bind fun y2 =>
  if y2 then (gbd fu x1.Block).bind fun y3 =>
  some y3
  else some false
  else some false).bind fun c4 =>
  some c4
def x6 (fu:Nat) (r':Route) (group:List Int):Nat→Int→Option (Out (Int) (Bool))
  | 0,_=>none
  | fk + 1,i =>
    if decide (i<(r'.Fibers.length:Int)) then
      (idx r'.Fibers i).bind fun e =>
      (zL fu group e).bind fun y =>
      if y then
        some (.ret true)
      else
        x6 fu r' group fk (w64 (i + 1))
    else
      some (.next i)
def gbg (fu:Nat) (r':Route) (group:List Int):Option (Bool) :=
  (x6 fu r' group fu 0).bind fun out=>out.on some fun z =>
  some false
def zT (fu:Nat) (x1:Light) (y:Light):Option (Bool) :=
  ((gbg fu x1.Route y.Route.Fibers).bind fun y2 =>
  if y2 then (zf fu x1.Block).bind fun y3 =>
  (zf fu y.Block).bind fun y4 =>
  some ((band y3 y4) != 0)
  else some false).bind fun c3 =>
  some c3
def xB (fu:Nat) (p:Plan) (i:Int):Nat→Int→Option (Out (Int) (Bool))
  | 0,_=>none
  | fk + 1,k' =>
    if decide (k'<i) then
      (idx p.Lights k').bind fun e4 =>
      (idx p.Lights i).bind fun e5 =>
      (zT fu e4 e5).bind fun y3 =>
      if y3 then
        some (.ret false)
      else
        xB fu p i fk (w64 (k' + 1))
    else
      some (.next k')
def x2 (fu:Nat) (p:Plan):Nat→Int→Option (Out (Int) (Bool))
  | 0,_=>none
  | fk + 1,i =>
    if decide (i<(p.Lights.length:Int)) then
      ((idx p.Lights i).bind fun e =>
      (gaK fu p.Network e).bind fun y2 =>
      if !y2 then some true
      else if decide (i > 0) then (idx p.Lights (w64 (i - 1))).bind fun e2 =>
      (idx p.Lights i).bind fun e3 =>
      some (decide (e2.Id≥e3.Id))
      else some false).bind fun c5 =>
      if c5 then
        some (.ret false)
      else
        (xB fu p i fu 0).bind fun out=>out.on (fun r=>some (.ret r)) fun z =>
        x2 fu p fk (w64 (i + 1))
    else
      some (.next i)
def xr (fu:Nat) (p:Plan):Option (Bool) :=
  ((gax fu p.Network).bind fun y =>
  if !y then some true
  else some (decide ((p.Lights.length:Int) > 12))).bind fun c4 =>
  if c4 then
    some false
  else
    (x2 fu p fu 0).bind fun out=>out.on some fun z2 =>
    some true
def x4 (fu:Nat) (p:Plan) (id:Int):Nat→Int→Option (Out (Int) (Int))
  | 0,_=>none
  | fk + 1,i =>
    if decide (i<(p.Lights.length:Int)) then
      (idx p.Lights i).bind fun e =>
      if e.Id==id then
        some (.ret i)
      else
        x4 fu p id fk (w64 (i + 1))
    else
      some (.next i)
def yl (fu:Nat) (p:Plan) (id:Int):Option (Int) :=
  (x4 fu p id fu 0).bind fun out=>out.on some fun z =>
  some (-1)
def zA (fu:Nat) (p:Plan) (i:Int):Option (Plan) :=
  (zB fu p).bind fun y =>
  (sub y.Lights 0 i).bind fun l =>
  (sub y.Lights (w64 (i + 1)) (y.Lights.length:Int)).bind fun l2 =>
  (app ([]:List Light) l).bind fun l3 =>
  (app l3 l2).bind fun l4 =>
  some ({ Network:=y.Network,Lights:=l4 }:Plan)
def xM (fu:Nat) (n':Int) (low:Int) (high:Int):Option (Bool) :=
  (if decide (low≤n') then some (decide (n'≤high))
  else some false).bind fun c =>
  some c
def v1 (fu:Nat) (s':ByteArray):Nat→Int→Option (Out (Int) (Bool))
  | 0,_=>none
  | fk + 1,i =>
    if decide (i<(s'.size:Int)) then
      (sidx s' i).bind fun e =>
      (sidx s' i).bind fun e2 =>
      if decide (e.n≥97) then (sidx s' i).bind fun e3 =>
      if decide (e2.n≥48) then (sidx s' i).bind fun e4 =>
      (if !(decide (e3.n≤122)) then if !(decide (e4.n≤57)) then some true
      else some (i==0)
      else some false).bind fun c =>
      if c then
        some (.ret false)
      else
        v1 fu s' fk (w64 (i + 1))
      else (if !(decide (e3.n≤122)) then if !false then some true
      else some (i==0)
      else some false).bind fun c2 =>
      if c2 then
        some (.ret false)
      else
        v1 fu s' fk (w64 (i + 1))
      else if decide (e2.n≥48) then (sidx s' i).bind fun e5 =>
      (if !false then if !(decide (e5.n≤57)) then some true
      else some (i==0)
      else some false).bind fun c3 =>
      if c3 then
        some (.ret false)
      else
        v1 fu s' fk (w64 (i + 1))
      else (if !false then if !false then some true
      else some (i==0)
      else some false).bind fun c4 =>
      if c4 then
        some (.ret false)
      else
        v1 fu s' fk (w64 (i + 1))
    else
      some (.next i)
def gbv (fu:Nat) (s':ByteArray):Option (Bool) :=
  (v1 fu s' fu 0).bind fun out=>out.on some fun z =>
  (xM fu (s'.size:Int) 1 8).bind fun y =>
  some y
def uW (fu:Nat) (s':List ByteArray) (v:ByteArray):Nat→Int→Option (Out (Int) (Int))
  | 0,_=>none
  | fk + 1,i =>
    if decide (i<(s'.length:Int)) then
      (idx s' i).bind fun e =>
      if v.toList==e.toList then
        some (.ret i)
      else
        uW fu s' v fk (w64 (i + 1))
    else
      some (.next i)
def vT (fu:Nat) (s':List ByteArray) (v:ByteArray):Option (Int) :=
  (uW fu s' v fu 0).bind fun out=>out.on some fun z =>
  some (-1)
def vC (fu:Nat) (s':List ByteArray) (v:ByteArray):Option (Bool) :=
  (vT fu s' v).bind fun y =>
  some (decide (y≥0))
def cmp_isNaN_int (fu:Nat) (x1:Int):Option (Bool) :=
  some (x1 != x1)
def cmp_Compare_int (fu:Nat) (x1:Int) (y:Int):Option (Int) :=
  (cmp_isNaN_int fu x1).bind fun y2 =>
  (cmp_isNaN_int fu y).bind fun y3 =>
  if y2 then
    if y3 then
      some 0
    else
      some (-1)
  else
    if y3 then
      some 1
    else
      if decide (x1<y) then
        some (-1)
      else
        if decide (x1 > y) then
          some 1
        else
          some 0
def yI (fu:Nat) (vals:List Int):Nat→Int→Option (Out (Int) (Int))
  | 0,_=>none
  | fk + 1,i =>
    if decide (i<(vals.length:Int)) then
      (idx vals i).bind fun e =>
      if e != 0 then
        some (.ret e)
      else
        yI fu vals fk (w64 (i + 1))
    else
      some (.next i)
def gbV (fu:Nat) (vals:List Int):Option (Int) :=
  (yI fu vals fu 0).bind fun out=>out.on some fun z =>
  some 0
def yH (fu:Nat) (a':Fiber) (b':Fiber):Option (Int) :=
  (cmp_Compare_int fu a'.A b'.A).bind fun y =>
  (cmp_Compare_int fu a'.B b'.B).bind fun y2 =>
  (cmp_Compare_int fu a'.Length b'.Length).bind fun y3 =>
  (cmp_Compare_int fu a'.Risk b'.Risk).bind fun y4 =>
  (gbV fu [y,y2,y3,y4]).bind fun y5 =>
  some y5
def vv (fu:Nat) (n':Network):Nat→Int→Option (Out (Int) (Bool))
  | 0,_=>none
  | fk + 1,i =>
    if decide (i<(n'.Nodes.length:Int)) then
      (idx n'.Nodes i).bind fun e =>
      ((gbv fu e).bind fun y =>
      if !y then some true
      else (sub n'.Nodes 0 i).bind fun l =>
      (vC fu l e).bind fun y2 =>
      some y2).bind fun c3 =>
      if c3 then
        some (.ret false)
      else
        vv fu n' fk (w64 (i + 1))
    else
      some (.next i)
def vu (fu:Nat) (n':Network):Nat→Int→Option (Out (Int) (Bool))
  | 0,_=>none
  | fk + 1,i3 =>
    if decide (i3<(n'.Fibers.length:Int)) then
      (idx n'.Fibers i3).bind fun e2 =>
      (if decide (e2.A<0) then some true
      else if decide (e2.A≥e2.B) then some true
      else if decide (e2.B≥(n'.Nodes.length:Int)) then some true
      else (xM fu e2.Length 1 5000).bind fun y3 =>
      if !y3 then some true
      else (xM fu e2.Risk 0 9).bind fun y4 =>
      if !y4 then some true
      else if decide (i3 > 0) then (idx n'.Fibers (w64 (i3 - 1))).bind fun e3 =>
      (yH fu e3 e2).bind fun y5 =>
      some (decide (y5 > 0))
      else some false).bind fun c5 =>
      if c5 then
        some (.ret false)
      else
        vu fu n' fk (w64 (i3 + 1))
    else
      some (.next i3)
def yt (fu:Nat) (n':Network):Option (Bool) :=
  (vv fu n' fu 0).bind fun out=>out.on some fun z2 =>
  (vu fu n' fu 0).bind fun out=>out.on some fun z =>
  ((xM fu (n'.Nodes.length:Int) 2 8).bind fun y6 =>
  if y6 then some (decide ((n'.Fibers.length:Int)≤14))
  else some false).bind fun c6 =>
  some c6
def ga5 (fu:Nat) (f:Fiber) (node:Int):Option (Int) :=
  if node==f.A then
    some f.B
  else
    if node==f.B then
      some f.A
    else
      some (-1)
def vk (fu:Nat) (s':List Int) (v:Int):Nat→Int→Option (Out (Int) (Int))
  | 0,_=>none
  | fk + 1,i =>
    if decide (i<(s'.length:Int)) then
      (idx s' i).bind fun e =>
      if v==e then
        some (.ret i)
      else
        vk fu s' v fk (w64 (i + 1))
    else
      some (.next i)
def xS (fu:Nat) (s':List Int) (v:Int):Option (Int) :=
  (vk fu s' v fu 0).bind fun out=>out.on some fun z =>
  some (-1)
def vS (fu:Nat) (s':List Int) (v:Int):Option (Bool) :=
  (xS fu s' v).bind fun y =>
  some (decide (y≥0))
def yq (fu:Nat) (n':Network) (r':Route):Nat→List Int→Int→Int→Option (Out (List Int×Int×Int) (List Int×Bool))
  | 0,_,_,_=>none
  | fk + 1,out',at',i =>
    if decide (i<(r'.Fibers.length:Int)) then
      (idx r'.Fibers i).bind fun e =>
      (xM fu e 0 (w64 ((n'.Fibers.length:Int) - 1))).bind fun y2 =>
      if !y2 then
        some (.ret ([],false))
      else
        (idx n'.Fibers e).bind fun e2 =>
        (ga5 fu e2 at').bind fun y3 =>
        (if decide (y3<0) then some true
        else (vS fu out' y3).bind fun y4 =>
        some y4).bind fun c6 =>
        if c6 then
          some (.ret ([],false))
        else
          (app out' [y3]).bind fun l =>
          yq fu n' r' fk l y3 (w64 (i + 1))
    else
      some (.next (out',at',i))
def gaT (fu:Nat) (n':Network) (r':Route):Option (List Int×Bool) :=
  ((xM fu r'.Start 0 (w64 ((n'.Nodes.length:Int) - 1))).bind fun y =>
  if !y then some true
  else some ((r'.Fibers.length:Int)==0)).bind fun c4 =>
  if c4 then
    some ([],false)
  else
    (yq fu n' r' fu [r'.Start] r'.Start 0).bind fun out=>out.on some fun z =>
    some (z.1,true)
def yZ (fu:Nat) (b':Block):Option (Bool) :=
  (if decide (b'.First≥0) then (xM fu b'.Count 1 24).bind fun y =>
  if y then some (decide (b'.First≤(w64 (24 - b'.Count))))
  else some false
  else some false).bind fun c =>
  some c
def gaU (fu:Nat) (n':Network) (x1:Light):Option (Bool) :=
  (gaT fu n' x1.Route).bind fun y =>
  (if y.2 then (xM fu x1.Id 1 999).bind fun y2 =>
  if y2 then (yZ fu x1.Block).bind fun y3 =>
  some y3
  else some false
  else some false).bind fun c5 =>
  some c5
def gbu (fu:Nat) (b':Block):Option (Int) :=
  (shl 1 b'.Count).bind fun q =>
  (shl (w64 (q - 1)) b'.First).bind fun q2 =>
  some q2
def gam (fu:Nat) (x1:U64):Option (Int) :=
  if decide (x1.n≥4294967296) then
    none
  else
    if decide (x1.n≥65536) then
      none
    else
      if decide (x1.n≥256) then
        none
      else
        (sidx (⟨#[0,1,2,2,3,3,3,3,4,4,4,4,4,4,4,4,5,5,5,5,5,5,5,5,5,5,5,5,5,5,5,5,6,6,6,6,6,6,6,6,6,6,6,6,6,6,6,6,6,6,6,6,6,6,6,6,6,6,6,6,6,6,6,6,7,7,7,7,7,7,7,7,7,7,7,7,7,7,7,7,7,7,7,7,7,7,7,7,7,7,7,7,7,7,7,7,7,7,7,7,7,7,7,7,7,7,7,7,7,7,7,7,7,7,7,7,7,7,7,7,7,7,7,7,7,7,7,7,8,8,8,8,8,8,8,8,8,8,8,8,8,8,8,8,8,8,8,8,8,8,8,8,8,8,8,8,8,8,8,8,8,8,8,8,8,8,8,8,8,8,8,8,8,8,8,8,8,8,8,8,8,8,8,8,8,8,8,8,8,8,8,8,8,8,8,8,8,8,8,8,8,8,8,8,8,8,8,8,8,8,8,8,8,8,8,8,8,8,8,8,8,8,8,8,8,8,8,8,8,8,8,8,8,8,8,8,8,8,8,8,8,8,8,8,8,8,8,8,8,8,8,8,8,8,8,8]⟩:ByteArray) (wu8 x1.n)).bind fun e =>
        some (w64 (0 + (w64 e.n)))
def gan (fu:Nat) (x1:U64):Option (Int) :=
  (gam fu x1).bind fun y =>
  some y
def cmp_Less_int (fu:Nat) (x1:Int) (y:Int):Option (Bool) :=
  ((cmp_isNaN_int fu x1).bind fun y2 =>
  if y2 then (cmp_isNaN_int fu y).bind fun y3 =>
  if !y3 then some true
  else some (decide (x1<y))
  else some (decide (x1<y))).bind fun c =>
  some c
def uN (fu:Nat) (a':Int):Nat→List Int→Int→Option (List Int×Int)
  | 0,_,_=>none
  | fk + 1,data3,j =>
    (if decide (j > a') then (idx data3 j).bind fun e =>
    (idx data3 (w64 (j - 1))).bind fun e2 =>
    (cmp_Less_int fu e e2).bind fun y =>
    some y
    else some false).bind fun c2 =>
    if c2 then
      (idx data3 (w64 (j - 1))).bind fun e3 =>
      (idx data3 j).bind fun e4 =>
      (idx data3 j).bind fun e5 =>
      (idx (data3.set (j:Int).toNat e3) (w64 (j - 1))).bind fun e6 =>
      uN fu a' fk ((data3.set (j:Int).toNat e3).set (w64 (j - 1):Int).toNat e4) (w64 (j - 1))
    else
      some (data3,j)
def uO (fu:Nat) (a':Int) (b':Int):Nat→List Int→Int→Option (List Int×Int)
  | 0,_,_=>none
  | fk + 1,data2,i =>
    if decide (i<b') then
      (uN fu a' fu data2 i).bind fun z =>
      uO fu a' b' fk z.1 (w64 (i + 1))
    else
      some (data2,i)
def vR (fu:Nat) (data:List Int) (a':Int) (b':Int):Option (List Int) :=
  (uO fu a' b' fu data (w64 (a' + 1))).bind fun z2 =>
  some z2.1
def vI (fu:Nat) (data:List Int) (a':Int) (b':Int):Nat→Option (Out (Unit) (List Int))
  | 0=>none
  | fk + 1 =>
    if decide ((w64 (b' - a'))≤12) then
      (vR fu data a' b').bind fun y =>
      some (.ret y)
    else
      none
def xD (fu:Nat) (data:List Int) (a':Int) (b':Int) (limit:Int):Option (List Int) :=
  (vI fu data a' b' fu).bind fun out=>out.on some fun z =>
  some data
def yp (fu:Nat) (x1:List Int):Option (List Int) :=
  (gan fu (⟨wu64 (x1.length:Int)⟩:U64)).bind fun y =>
  (xD fu x1 0 (x1.length:Int) y).bind fun y2 =>
  some y2
def vq (fu:Nat) (s':List Int):Nat→Int→Option (Out (Int) (List Int))
  | 0,_=>none
  | fk + 1,k' =>
    if decide (k'<(s'.length:Int)) then
      (idx s' k').bind fun e =>
      (idx s' (w64 (k' - 1))).bind fun e2 =>
      if e==e2 then
        none
      else
        vq fu s' fk (w64 (k' + 1))
    else
      some (.next k')
def xq (fu:Nat) (s':List Int):Option (List Int) :=
  if decide ((s'.length:Int)<2) then
    some s'
  else
    (vq fu s' fu 1).bind fun out=>out.on some fun z =>
    some s'
def yd (fu:Nat) (a':List Int) (b':List Int):Nat→List Int→Int→Option (List Int×Int)
  | 0,_,_=>none
  | fk + 1,out',i =>
    if decide (i<(a'.length:Int)) then
      (idx a' i).bind fun e =>
      (vS fu b' e).bind fun y =>
      if y then
        (app out' [e]).bind fun l =>
        yd fu a' b' fk l (w64 (i + 1))
      else
        yd fu a' b' fk out' (w64 (i + 1))
    else
      some (out',i)
def gbx (fu:Nat) (a':List Int) (b':List Int):Option (List Int) :=
  (yd fu a' b' fu ([]:List Int) 0).bind fun z =>
  (yp fu z.1).bind fun y2 =>
  (xq fu y2).bind fun y3 =>
  some y3
def gaV (fu:Nat) (a':Light) (b':Light):Option (Bool) :=
  ((gbu fu a'.Block).bind fun y =>
  (gbu fu b'.Block).bind fun y2 =>
  if (band y y2) != 0 then (gbx fu a'.Route.Fibers b'.Route.Fibers).bind fun y3 =>
  some (decide ((y3.length:Int) > 0))
  else some false).bind fun c3 =>
  some c3
def zn (fu:Nat) (own:Light) (cap:Light):Option (Bool) :=
  (gaV fu own cap).bind fun y =>
  some y
def ut (fu:Nat) (s':List Light) (cap:Light):Nat→Int→Option (Out (Int) (Int))
  | 0,_=>none
  | fk + 1,i =>
    if decide (i<(s'.length:Int)) then
      (idx s' i).bind fun e =>
      (zn fu e cap).bind fun y =>
      if y then
        some (.ret i)
      else
        ut fu s' cap fk (w64 (i + 1))
    else
      some (.next i)
def uL (fu:Nat) (s':List Light) (cap:Light):Option (Int) :=
  (ut fu s' cap fu 0).bind fun out=>out.on some fun z =>
  some (-1)
def uC (fu:Nat) (s':List Light) (cap:Light):Option (Bool) :=
  (uL fu s' cap).bind fun y =>
  some (decide (y≥0))
def vO (fu:Nat) (p:Plan):Nat→Int→Option (Out (Int) (Bool))
  | 0,_=>none
  | fk + 1,i =>
    if decide (i<(p.Lights.length:Int)) then
      (idx p.Lights i).bind fun e =>
      ((gaU fu p.Network e).bind fun y2 =>
      if !y2 then some true
      else if decide (i > 0) then (idx p.Lights (w64 (i - 1))).bind fun e2 =>
      if decide (e2.Id≥e.Id) then some true
      else (sub p.Lights 0 i).bind fun l =>
      (uC fu l e).bind fun y3 =>
      some y3
      else (sub p.Lights 0 i).bind fun l2 =>
      (uC fu l2 e).bind fun y4 =>
      some y4).bind fun c6 =>
      if c6 then
        some (.ret false)
      else
        vO fu p fk (w64 (i + 1))
    else
      some (.next i)
def vP (fu:Nat) (p:Plan):Option (Bool) :=
  ((yt fu p.Network).bind fun y =>
  if !y then some true
  else some (decide ((p.Lights.length:Int) > 12))).bind fun c4 =>
  if c4 then
    some false
  else
    (vO fu p fu 0).bind fun out=>out.on some fun z =>
    some true
def z6 (fu:Nat) (n':Network):Option (Network) :=
  (app ([]:List ByteArray) n'.Nodes).bind fun l =>
  (app ([]:List Fiber) n'.Fibers).bind fun l2 =>
  some ({ Nodes:=l,Fibers:=l2 }:Network)
def yc (fu:Nat) (r':Route):Option (Route) :=
  (app ([]:List Int) r'.Fibers).bind fun l =>
  some ({ Start:=r'.Start,Fibers:=l }:Route)
def xN (fu:Nat) (p:Plan):Nat→Int→List Light→Option (Int×List Light)
  | 0,_,_=>none
  | fk + 1,i,m =>
    if decide (i<(p.Lights.length:Int)) then
      (idx p.Lights i).bind fun e =>
      (yc fu e.Route).bind fun y2 =>
      (app m [({ Id:=e.Id,Route:=y2,Block:=e.Block }:Light)]).bind fun al =>
      xN fu p fk (w64 (i + 1)) al
    else
      some (i,m)
def xW (fu:Nat) (p:Plan):Option (Plan) :=
  (z6 fu p.Network).bind fun y =>
  (xN fu p fu 0 ([]:List Light)).bind fun z =>
  some ({ Network:=y,Lights:=z.2 }:Plan)
def vl (fu:Nat) (s1:List Int) (s2:List Int):Nat→Int→Option (Out (Int) (Bool))
  | 0,_=>none
  | fk + 1,i =>
    if decide (i<(s1.length:Int)) then
      (idx s1 i).bind fun e =>
      (idx s2 i).bind fun e2 =>
      if e != e2 then
        some (.ret false)
      else
        vl fu s1 s2 fk (w64 (i + 1))
    else
      some (.next i)
def xT (fu:Nat) (s1:List Int) (s2:List Int):Option (Bool) :=
  if (s1.length:Int) != (s2.length:Int) then
    some false
  else
    (vl fu s1 s2 fu 0).bind fun out=>out.on some fun z =>
    some true
def ya (fu:Nat) (a':List Int) (b':List Int):Nat→Int→Option (Out (Int) (Bool))
  | 0,_=>none
  | fk + 1,i =>
    if decide (i<(a'.length:Int)) then
      (idx a' i).bind fun e =>
      (idx b' i).bind fun e2 =>
      if e != e2 then
        some (.ret false)
      else
        ya fu a' b' fk (w64 (i + 1))
    else
      some (.next i)
def gbp (fu:Nat) (a':List Int) (b':List Int):Option (Bool) :=
  if (a'.length:Int) != (b'.length:Int) then
    some false
  else
    (ya fu a' b' fu 0).bind fun out=>out.on some fun z =>
    some true
def gbh (fu:Nat) (a':Route) (b':Route):Option (Bool) :=
  (if a'.Start==b'.Start then (gbp fu a'.Fibers b'.Fibers).bind fun y =>
  some y
  else some false).bind fun c3 =>
  some c3
def zm (fu:Nat) (a':List Int) (b':List Int):Nat→Int→Option (Out (Int) (Bool))
  | 0,_=>none
  | fk + 1,i =>
    if decide (i<(a'.length:Int)) then
      (idx a' i).bind fun e =>
      (idx b' i).bind fun e2 =>
      if e != e2 then
        some (.ret false)
      else
        zm fu a' b' fk (w64 (i + 1))
    else
      some (.next i)
def gbT (fu:Nat) (a':List Int) (b':List Int):Option (Bool) :=
  if (a'.length:Int) != (b'.length:Int) then
    some false
  else
    (zm fu a' b' fu 0).bind fun out=>out.on some fun z =>
    some true
def gbK (fu:Nat) (a':Route) (b':Route):Option (Bool) :=
  (if a'.Start==b'.Start then (gbT fu a'.Fibers b'.Fibers).bind fun y =>
  some y
  else some false).bind fun c3 =>
  some c3
def gae (fu:Nat) (a':Light) (b':Light):Option (Bool) :=
  (if a'.Id==b'.Id then if ([a'.Block.First,a'.Block.Count]:List Int)==([b'.Block.First,b'.Block.Count]:List Int) then (gbK fu a'.Route b'.Route).bind fun y =>
  some y
  else some false
  else some false).bind fun c3 =>
  some c3
def zu (fu:Nat) (c:L1CurP) (p:Plan):Option (Light×L1CurP) :=
  (vf fu c [30,31,1,2,4,5,999]).bind fun y =>
  (xf fu y.2 p.Network).bind fun y2 =>
  (xK fu y2.2).bind fun y3 =>
  (u3 fu y3.2 24).bind fun y4 =>
  if y4.1 then
    (vf fu y4.2 [0,1000]).bind fun y5 =>
    some (({ Id:=y5.1,Route:=y2.1,Block:=y3.1 }:Light),y5.2)
  else
    some (({ Id:=y.1,Route:=y2.1,Block:=y3.1 }:Light),y4.2)
def yg (fu:Nat) (c:L1CurP) (p:Plan):Option (Action×L1CurP) :=
  (zu fu c p).bind fun y =>
  if decide ((p.Lights.length:Int) > 0) then (u3 fu y.2 3).bind fun y2 =>
  if !y2.1 then
    (ur fu y2.2 (p.Lights.length:Int)).bind fun y3 =>
    (idx p.Lights y3.1).bind fun e =>
    (ur fu y3.2 3).bind fun y4 =>
    if y4.1==0 then
      (yM fu e).bind fun y5 =>
      some (({ Kind:=2,Light:=y5 }:Action),y4.2)
    else
      if y4.1==1 then
        (gaw fu e.Route).bind fun y6 =>
        (xK fu y4.2).bind fun y7 =>
        some (({ Kind:=3,Light:=({ Id:=e.Id,Route:=y6,Block:=y7.1 }:Light) }:Action),y7.2)
      else
        (xf fu y4.2 p.Network).bind fun y8 =>
        (ur fu y8.2 20).bind fun y9 =>
        some (({ Kind:=3,Light:=({ Id:=e.Id,Route:=y8.1,Block:=({ First:=y9.1,Count:=e.Block.Count }:Block) }:Light) }:Action),y9.2)
  else
    (vf fu y2.2 [1,1,1,2,3,0,4]).bind fun y10 =>
    some (({ Kind:=y10.1,Light:=y.1 }:Action),y10.2)
  else (vf fu y.2 [1,1,1,2,3,0,4]).bind fun y11 =>
  some (({ Kind:=y11.1,Light:=y.1 }:Action),y11.2)
def gak (fu:Nat) (p:Plan) (x1:Light):Option (Plan×Bool) :=
  (xr fu p).bind fun y =>
  if !y then
    some (({ Network:=({ Nodes:=[],Fibers:=[] }:Network),Lights:=[] }:Plan),false)
  else
    (yW fu p x1).bind fun y2 =>
    (xr fu y2).bind fun y3 =>
    if !y3 then
      some (({ Network:=({ Nodes:=[],Fibers:=[] }:Network),Lights:=[] }:Plan),false)
    else
      some (y2,true)
def gab (fu:Nat) (x1:Light) (y:Light):Option (Bool) :=
  (if x1.Id==y.Id then if ([x1.Block.First,x1.Block.Count]:List Int)==([y.Block.First,y.Block.Count]:List Int) then (gbh fu x1.Route y.Route).bind fun y2 =>
  some y2
  else some false
  else some false).bind fun c3 =>
  some c3
def zW (fu:Nat) (p:Plan) (id:Int) (r':Route) (b':Block):Option (Plan×Bool) :=
  ((xr fu p).bind fun y =>
  if !y then some true
  else (yl fu p id).bind fun y2 =>
  some (decide (y2<0))).bind fun c5 =>
  if c5 then
    some (({ Network:=({ Nodes:=[],Fibers:=[] }:Network),Lights:=[] }:Plan),false)
  else
    (yl fu p id).bind fun y3 =>
    (zA fu p y3).bind fun y4 =>
    (yW fu y4 ({ Id:=id,Route:=r',Block:=b' }:Light)).bind fun y5 =>
    (xr fu y5).bind fun y6 =>
    if !y6 then
      some (({ Network:=({ Nodes:=[],Fibers:=[] }:Network),Lights:=[] }:Plan),false)
    else
      some (y5,true)
def vH (fu:Nat) (p:Plan) (a':Action):Option (Plan×Bool) :=
  (yl fu p a'.Light.Id).bind fun y =>
  if a'.Kind==1 then
    (gak fu p a'.Light).bind fun y2 =>
    some (y2.1,y2.2)
  else
    if a'.Kind==2 then
      (if decide (y≥0) then (idx p.Lights y).bind fun e =>
      (gab fu e a'.Light).bind fun y3 =>
      some y3
      else some false).bind fun c8 =>
      if c8 then
        (zA fu p y).bind fun y4 =>
        some (y4,true)
      else
        some (({ Network:=({ Nodes:=[],Fibers:=[] }:Network),Lights:=[] }:Plan),false)
    else
      if a'.Kind==3 then
        (zW fu p a'.Light.Id a'.Light.Route a'.Light.Block).bind fun y5 =>
        some (y5.1,y5.2)
      else
        some (({ Network:=({ Nodes:=[],Fibers:=[] }:Network),Lights:=[] }:Plan),false)
def u5 (fu:Nat) (y:Bool):Nat→List Action→Int→List ByteArray→List Fiber→List Light→List By→Int→U64→Option (List Action×Int×List ByteArray×List Fiber×List Light×List By×Int×U64)
  | 0,_,_,_,_,_,_,_,_=>none
  | fk + 1,l,n',m,m2,m3,m4,m5,m6 =>
    if decide (n' > 0) then
      (yg fu ({ code:=m4,at_:=m5,seed:=m6 }:L1CurP) ({ Network:=({ Nodes:=m,Fibers:=m2 }:Network),Lights:=m3 }:Plan)).bind fun y3 =>
      (vH fu ({ Network:=({ Nodes:=m,Fibers:=m2 }:Network),Lights:=m3 }:Plan) y3.1).bind fun y4 =>
      (if y then some y4.2
      else some false).bind fun c16 =>
      if c16 then
        (app l [y3.1]).bind fun al =>
        u5 fu y fk al (w64 (n' - 1)) y4.1.Network.Nodes y4.1.Network.Fibers y4.1.Lights y3.2.code y3.2.at_ y3.2.seed
      else
        (u3 fu y3.2 8).bind fun y5 =>
        if y5.1 then
          (app l [y3.1]).bind fun al2 =>
          u5 fu y fk al2 (w64 (n' - 1)) m m2 m3 y5.2.code y5.2.at_ y5.2.seed
        else
          u5 fu y fk l (w64 (n' - 1)) m m2 m3 y5.2.code y5.2.at_ y5.2.seed
    else
      some (l,n',m,m2,m3,m4,m5,m6)
def vN (fu:Nat):Nat→List Action→List By→Int→U64→Option (List Action×List By×Int×U64)
  | 0,_,_,_,_=>none
  | fk + 1,l3,m13,m14,m15 =>
    (ur fu ({ code:=m13,at_:=m14,seed:=m15 }:L1CurP) 2).bind fun y7 =>
    if decide ((l3.length:Int)<(w64 (8 + y7.1))) then
      (yf fu y7.2).bind fun y8 =>
      (ye fu y8.2 y8.1).bind fun y9 =>
      (app l3 [({ Kind:=1,Light:=({ Id:=w64 (900 + (l3.length:Int)),Route:=y9.1,Block:=({ First:=23,Count:=1 }:Block) }:Light) }:Action)]).bind fun al3 =>
      vN fu fk al3 y9.2.code y9.2.at_ y9.2.seed
    else
      some (l3,y7.2.code,y7.2.at_,y7.2.seed)
def yD (fu:Nat) (c:L1CurP) (p:Plan):Option (List Action×L1CurP) :=
  (xr fu p).bind fun y =>
  (ur fu c 6).bind fun y2 =>
  (u5 fu y fu ([]:List Action) y2.1 p.Network.Nodes p.Network.Fibers p.Lights y2.2.code y2.2.at_ y2.2.seed).bind fun z2 =>
  (u3 fu ({ code:=z2.2.2.2.2.2.1,at_:=z2.2.2.2.2.2.2.1,seed:=z2.2.2.2.2.2.2.2 }:L1CurP) 24).bind fun y6 =>
  if y6.1 then
    (vN fu fu z2.1 y6.2.code y6.2.at_ y6.2.seed).bind fun z =>
    some (z.1,({ code:=z.2.1,at_:=z.2.2.1,seed:=z.2.2.2 }:L1CurP))
  else
    some (z2.1,y6.2)
def yO (fu:Nat) (list:List Action):Nat→Int→List ByteArray→List Fiber→List Light→Option (Out (Int×List ByteArray×List Fiber×List Light) (Plan×Int))
  | 0,_,_,_,_=>none
  | fk + 1,i,m,m2,m3 =>
    if decide (i<(list.length:Int)) then
      (idx list i).bind fun e =>
      (vH fu ({ Network:=({ Nodes:=m,Fibers:=m2 }:Network),Lights:=m3 }:Plan) e).bind fun y2 =>
      if !y2.2 then
        some (.ret (({ Network:=({ Nodes:=m,Fibers:=m2 }:Network),Lights:=m3 }:Plan),i))
      else
        yO fu list fk (w64 (i + 1)) y2.1.Network.Nodes y2.1.Network.Fibers y2.1.Lights
    else
      some (.next (i,m,m2,m3))
def gbo (fu:Nat) (p:Plan) (list:List Action):Option (Plan×Int) :=
  (zB fu p).bind fun y =>
  (yO fu list fu 0 y.Network.Nodes y.Network.Fibers y.Lights).bind fun out=>out.on some fun z =>
  some (({ Network:=({ Nodes:=z.2.1,Fibers:=z.2.2.1 }:Network),Lights:=z.2.2.2 }:Plan),(list.length:Int))
def zj (fu:Nat) (c:L1CurP):Option (Plan×Plan×L1CurP) :=
  (yC fu c).bind fun y =>
  (xr fu y.1).bind fun y2 =>
  if !y2 then (yo fu y.2).bind fun y3 =>
  some (y.1,y3.1,y3.2)
  else (u3 fu y.2 16).bind fun y4 =>
  if y4.1 then
    (yo fu y4.2).bind fun y5 =>
    some (y.1,y5.1,y5.2)
  else
    (yD fu y4.2 y.1).bind fun y6 =>
    (gbo fu y.1 y6.1).bind fun y7 =>
    if decide ((y7.1.Lights.length:Int) > 1) then (u3 fu y6.2 3).bind fun y8 =>
    if y8.1 then
      (idx y7.1.Lights 0).bind fun e =>
      (idx y7.1.Lights 1).bind fun e2 =>
      (zB fu y7.1).bind fun y9 =>
      (idx y9.Lights 0).bind fun e3 =>
      (idx (y9.Lights.set (0:Int).toNat ({ Id:=e.Id,Route:=e.Route,Block:=e2.Block }:Light)) 1).bind fun e4 =>
      (xr fu ({ Network:=y9.Network,Lights:=(y9.Lights.set (0:Int).toNat ({ Id:=e.Id,Route:=e.Route,Block:=e2.Block }:Light)).set (1:Int).toNat ({ Id:=e2.Id,Route:=e2.Route,Block:=e.Block }:Light) }:Plan)).bind fun y10 =>
      if y10 then
        some (y.1,({ Network:=y9.Network,Lights:=(y9.Lights.set (0:Int).toNat ({ Id:=e.Id,Route:=e.Route,Block:=e2.Block }:Light)).set (1:Int).toNat ({ Id:=e2.Id,Route:=e2.Route,Block:=e.Block }:Light) }:Plan),y8.2)
      else
        some (y.1,y7.1,y8.2)
    else
      some (y.1,y7.1,y8.2)
    else some (y.1,y7.1,y6.2)
def xV (fu:Nat) (code:List By):Option (Plan×Plan) :=
  (zj fu ({ code:=code,at_:=0,seed:=(⟨0⟩:U64) }:L1CurP)).bind fun y =>
  some (y.1,y.2.1)
def yE (fu:Nat) (code:List By):Option (Plan×Plan) :=
  (xV fu code).bind fun y =>
  some (y.1,y.2)
def uX (fu:Nat) (s1:List ByteArray) (s2:List ByteArray):Nat→Int→Option (Out (Int) (Bool))
  | 0,_=>none
  | fk + 1,i =>
    if decide (i<(s1.length:Int)) then
      (idx s1 i).bind fun e =>
      (idx s2 i).bind fun e2 =>
      if !(e.toList==e2.toList) then
        some (.ret false)
      else
        uX fu s1 s2 fk (w64 (i + 1))
    else
      some (.next i)
def xp (fu:Nat) (s1:List ByteArray) (s2:List ByteArray):Option (Bool) :=
  if (s1.length:Int) != (s2.length:Int) then
    some false
  else
    (uX fu s1 s2 fu 0).bind fun out=>out.on some fun z =>
    some true
def uF (fu:Nat) (s1:List Fiber) (s2:List Fiber):Nat→Int→Option (Out (Int) (Bool))
  | 0,_=>none
  | fk + 1,i =>
    if decide (i<(s1.length:Int)) then
      (idx s1 i).bind fun e =>
      (idx s2 i).bind fun e2 =>
      if !(([e.A,e.B,e.Length,e.Risk]:List Int)==([e2.A,e2.B,e2.Length,e2.Risk]:List Int)) then
        some (.ret false)
      else
        uF fu s1 s2 fk (w64 (i + 1))
    else
      some (.next i)
def vE (fu:Nat) (s1:List Fiber) (s2:List Fiber):Option (Bool) :=
  if (s1.length:Int) != (s2.length:Int) then
    some false
  else
    (uF fu s1 s2 fu 0).bind fun out=>out.on some fun z =>
    some true
def yG (fu:Nat) (a':Network) (b':Network):Option (Bool) :=
  ((xp fu a'.Nodes b'.Nodes).bind fun y =>
  if y then (vE fu a'.Fibers b'.Fibers).bind fun y2 =>
  some y2
  else some false).bind fun c5 =>
  some c5
def gap (fu:Nat) (x1:Light) (cap:Int):Option (Bool) :=
  some (x1.Id==cap)
def uw (fu:Nat) (s':List Light) (cap:Int):Nat→Int→Option (Out (Int) (Int))
  | 0,_=>none
  | fk + 1,i =>
    if decide (i<(s'.length:Int)) then
      (idx s' i).bind fun e =>
      (gap fu e cap).bind fun y =>
      if y then
        some (.ret i)
      else
        uw fu s' cap fk (w64 (i + 1))
    else
      some (.next i)
def uR (fu:Nat) (s':List Light) (cap:Int):Option (Int) :=
  (uw fu s' cap fu 0).bind fun out=>out.on some fun z =>
  some (-1)
def yF (fu:Nat) (p:Plan) (id:Int):Option (Int) :=
  (uR fu p.Lights id).bind fun y =>
  some y
def yw (fu:Nat) (a':Light) (b':Light):Option (Bool) :=
  (if a'.Id==b'.Id then if a'.Route.Start==b'.Route.Start then (xT fu a'.Route.Fibers b'.Route.Fibers).bind fun y =>
  if y then some (([a'.Block.First,a'.Block.Count]:List Int)==([b'.Block.First,b'.Block.Count]:List Int))
  else some false
  else some false
  else some false).bind fun c3 =>
  some c3
def uH (fu:Nat) (slices:List (List Action)):Nat→Int→Int→Option (Int×Int)
  | 0,_,_=>none
  | fk + 1,size,i =>
    if decide (i<(slices.length:Int)) then
      (idx slices i).bind fun e =>
      if decide ((w64 (size + (e.length:Int)))<0) then
        none
      else
        uH fu slices fk (w64 (size + (e.length:Int))) (w64 (i + 1))
    else
      some (size,i)
def uG (fu:Nat) (slices:List (List Action)):Nat→List Action→Int→Option (List Action×Int)
  | 0,_,_=>none
  | fk + 1,newslice,i3 =>
    if decide (i3<(slices.length:Int)) then
      (idx slices i3).bind fun e2 =>
      (app newslice e2).bind fun l2 =>
      uG fu slices fk l2 (w64 (i3 + 1))
    else
      some (newslice,i3)
def uU (fu:Nat) (slices:List (List Action)):Option (List Action) :=
  (uH fu slices fu 0 0).bind fun z2 =>
  ((giD z2.1:Option (List Action))).bind fun l =>
  (uG fu slices fu l 0).bind fun z =>
  some z.1
def zY (fu:Nat) (x1:Light):Option (Light) :=
  (yc fu x1.Route).bind fun y =>
  some ({ Id:=x1.Id,Route:=y,Block:=x1.Block }:Light)
def xh (fu:Nat) (l:List Action):Nat→List Action→Int→Option (List Action×Int)
  | 0,_,_=>none
  | fk + 1,out',i =>
    if decide (i<(l.length:Int)) then
      (idx l i).bind fun e =>
      (zY fu e.Light).bind fun y =>
      (app out' [({ Kind:=e.Kind,Light:=y }:Action)]).bind fun al =>
      xh fu l fk al (w64 (i + 1))
    else
      some (out',i)
def zx (fu:Nat) (l:List Action):Option (List Action) :=
  (xh fu l fu ([]:List Action) 0).bind fun z =>
  some z.1
def ve (fu:Nat) (p:Plan) (q:Plan):Nat→List Action→Int→Option (List Action×Int)
  | 0,_,_=>none
  | fk + 1,removes,i =>
    if decide (i<(p.Lights.length:Int)) then
      (idx p.Lights i).bind fun e =>
      (yF fu q e.Id).bind fun y4 =>
      if decide (y4<0) then
        (app removes [({ Kind:=2,Light:=e }:Action)]).bind fun l =>
        ve fu p q fk l (w64 (i + 1))
      else
        ve fu p q fk removes (w64 (i + 1))
    else
      some (removes,i)
def vd (fu:Nat) (p:Plan) (q:Plan):Nat→List Action→Int→List Action→Option (List Action×Int×List Action)
  | 0,_,_,_=>none
  | fk + 1,adds,i3,moves =>
    if decide (i3<(q.Lights.length:Int)) then
      (idx q.Lights i3).bind fun e2 =>
      (yF fu p e2.Id).bind fun y5 =>
      if decide (y5<0) then
        (app adds [({ Kind:=1,Light:=e2 }:Action)]).bind fun l2 =>
        vd fu p q fk l2 (w64 (i3 + 1)) moves
      else
        (idx p.Lights y5).bind fun e3 =>
        (yw fu e3 e2).bind fun y6 =>
        if !y6 then
          (app moves [({ Kind:=3,Light:=e2 }:Action)]).bind fun l3 =>
          vd fu p q fk adds (w64 (i3 + 1)) l3
        else
          vd fu p q fk adds (w64 (i3 + 1)) moves
    else
      some (adds,i3,moves)
def xx (fu:Nat) (p:Plan) (q:Plan):Option (List Action×Bool) :=
  ((vP fu p).bind fun y =>
  if !y then some true
  else (vP fu q).bind fun y2 =>
  if !y2 then some true
  else (yG fu p.Network q.Network).bind fun y3 =>
  some (!y3)).bind fun c7 =>
  if c7 then
    some ([],false)
  else
    (ve fu p q fu ([]:List Action) 0).bind fun z2 =>
    (vd fu p q fu ([]:List Action) 0 ([]:List Action)).bind fun z =>
    (uU fu [z2.1,z.2.2,z.1]).bind fun y7 =>
    (zx fu y7).bind fun y8 =>
    if decide ((y8.length:Int) > 8) then
      some ([],false)
    else
      some (y8,true)
def xw (fu:Nat) (p:Plan) (x1:Light):Nat→Int→Option (Int)
  | 0,_=>none
  | fk + 1,at' =>
    (if decide (at'<(p.Lights.length:Int)) then (idx p.Lights at').bind fun e =>
    some (decide (e.Id<x1.Id))
    else some false).bind fun c8 =>
    if c8 then
      xw fu p x1 fk (w64 (at' + 1))
    else
      some at'
def zX (fu:Nat) (p:Plan) (x1:Light):Option (Plan) :=
  (xW fu p).bind fun y =>
  (xw fu p x1 fu 0).bind fun z =>
  (yc fu x1.Route).bind fun y2 =>
  (insl y.Lights z [({ Id:=x1.Id,Route:=y2,Block:=x1.Block }:Light)]).bind fun l =>
  some ({ Network:=y.Network,Lights:=l }:Plan)
def gaa (fu:Nat) (p:Plan):Option (Plan×Bool) :=
  (vP fu p).bind fun y =>
  if !y then
    some (({ Network:=({ Nodes:=[],Fibers:=[] }:Network),Lights:=[] }:Plan),false)
  else
    some (p,true)
def ga6 (fu:Nat) (p:Plan) (x1:Light):Option (Plan×Bool) :=
  (vP fu p).bind fun y =>
  if !y then
    some (({ Network:=({ Nodes:=[],Fibers:=[] }:Network),Lights:=[] }:Plan),false)
  else
    (zX fu p x1).bind fun y2 =>
    gaa fu y2
def yx (fu:Nat) (p:Plan) (id:Int):Option (Int×Bool) :=
  (yF fu p id).bind fun y =>
  ((vP fu p).bind fun y2 =>
  if !y2 then some true
  else some (decide (y<0))).bind fun c4 =>
  if c4 then
    some (0,false)
  else
    some (y,true)
def yY (fu:Nat) (p:Plan) (i:Int):Option (Plan) :=
  (xW fu p).bind fun y =>
  (dell y.Lights i (w64 (i + 1))).bind fun l =>
  some ({ Network:=y.Network,Lights:=l }:Plan)
def z7 (fu:Nat) (p:Plan) (id:Int):Option (Plan×Bool) :=
  (yx fu p id).bind fun y =>
  if !y.2 then
    some (({ Network:=({ Nodes:=[],Fibers:=[] }:Network),Lights:=[] }:Plan),false)
  else
    (yY fu p y.1).bind fun y2 =>
    some (y2,true)
def gaJ (fu:Nat) (p:Plan) (id:Int) (r':Route) (b':Block):Option (Plan×Bool) :=
  (yx fu p id).bind fun y =>
  if !y.2 then
    some (({ Network:=({ Nodes:=[],Fibers:=[] }:Network),Lights:=[] }:Plan),false)
  else
    (xW fu p).bind fun y2 =>
    (yc fu r').bind fun y3 =>
    (idx y2.Lights y.1).bind fun e =>
    gaa fu ({ Network:=y2.Network,Lights:=y2.Lights.set (y.1:Int).toNat ({ Id:=id,Route:=y3,Block:=b' }:Light) }:Plan)
def xO (fu:Nat) (p:Plan) (a':Action):Option (Plan×Bool) :=
  if a'.Kind==1 then
    (ga6 fu p a'.Light).bind fun y =>
    some (y.1,y.2)
  else
    if a'.Kind==2 then
      (yF fu p a'.Light.Id).bind fun y2 =>
      (if decide (y2≥0) then (idx p.Lights y2).bind fun e =>
      (yw fu e a'.Light).bind fun y3 =>
      some y3
      else some false).bind fun c8 =>
      if c8 then
        (z7 fu p a'.Light.Id).bind fun y4 =>
        some (y4.1,y4.2)
      else
        some (({ Network:=({ Nodes:=[],Fibers:=[] }:Network),Lights:=[] }:Plan),false)
    else
      if a'.Kind==3 then
        (gaJ fu p a'.Light.Id a'.Light.Route a'.Light.Block).bind fun y5 =>
        some (y5.1,y5.2)
      else
        some (({ Network:=({ Nodes:=[],Fibers:=[] }:Network),Lights:=[] }:Plan),false)
def vF (fu:Nat) (p:Plan) (list:List Action) (left:Int) (rec_:(Plan)→(List Action)→(Int)→(List (Int×Bool))→Option (List Action×Bool×(List (Int×Bool)))):Nat→Int→List (Int×Bool)→Option (Out (Int×(List (Int×Bool))) (List Action×Bool×(List (Int×Bool))))
  | 0,_,_=>none
  | fk + 1,i,dead2 =>
    if decide (i<(list.length:Int)) then
      (idx list i).bind fun e =>
      (shr left i).bind fun q =>
      if (band q 1)==0 then
        vF fu p list left rec_ fk (w64 (i + 1)) dead2
      else
        (xO fu p e).bind fun y =>
        if !y.2 then
          vF fu p list left rec_ fk (w64 (i + 1)) dead2
        else
          (shl 1 i).bind fun q2 =>
          (rec_ y.1 list (ggF left q2) dead2).bind fun y2 =>
          if y2.2.1 then
            (app [e] y2.1).bind fun l =>
            some (.ret (l,true,y2.2.2))
          else
            vF fu p list left rec_ fk (w64 (i + 1)) y2.2.2
    else
      some (.next (i,dead2))
def zy (fu:Nat) (rec_:(Plan)→(List Action)→(Int)→(List (Int×Bool))→Option (List Action×Bool×(List (Int×Bool)))) (p:Plan) (list:List Action) (left:Int) (dead:List (Int×Bool)):Option (List Action×Bool×(List (Int×Bool))) :=
  if left==0 then
    some (([]:List Action),true,dead)
  else
    (gil dead left).bind fun b2 =>
    if b2 then
      some ([],false,dead)
    else
      (vF fu p list left rec_ fu 0 dead).bind fun out=>out.on some fun z =>
      (gii z.2 left true).bind fun m =>
      some ([],false,m)
def xm:Nat→(Plan)→(List Action)→(Int)→(List (Int×Bool))→Option (List Action×Bool×(List (Int×Bool)))
  | 0,_,_,_,_=>none
  | fu + 1,p,list,left,dead=>zy fu (fun p list left dead=>xm fu p list left dead) p list left dead
def gaI (fu:Nat) (p:Plan) (q:Plan):Option (List Action×Bool) :=
  (xx fu p q).bind fun y =>
  if !y.2 then
    some ([],false)
  else
    (shl 1 (y.1.length:Int)).bind fun q2 =>
    (xm fu p y.1 (w64 (q2 - 1)) []).bind fun y2 =>
    some (y2.1,y2.2.1)
def xZ (fu:Nat) (p:Plan) (q:Plan):Nat→Int→Option (Out (Int) (Bool))
  | 0,_=>none
  | fk + 1,i =>
    if decide (i<(p.Network.Nodes.length:Int)) then
      (idx p.Network.Nodes i).bind fun e =>
      (idx q.Network.Nodes i).bind fun e2 =>
      if !(e.toList==e2.toList) then
        some (.ret false)
      else
        xZ fu p q fk (w64 (i + 1))
    else
      some (.next i)
def xY (fu:Nat) (p:Plan) (q:Plan):Nat→Int→Option (Out (Int) (Bool))
  | 0,_=>none
  | fk + 1,i3 =>
    if decide (i3<(p.Network.Fibers.length:Int)) then
      (idx p.Network.Fibers i3).bind fun e3 =>
      (idx q.Network.Fibers i3).bind fun e4 =>
      if !(([e3.A,e3.B,e3.Length,e3.Risk]:List Int)==([e4.A,e4.B,e4.Length,e4.Risk]:List Int)) then
        some (.ret false)
      else
        xY fu p q fk (w64 (i3 + 1))
    else
      some (.next i3)
def yK (fu:Nat) (p:Plan) (q:Plan):Nat→Int→Option (Out (Int) (Bool))
  | 0,_=>none
  | fk + 1,i5 =>
    if decide (i5<(p.Lights.length:Int)) then
      ((idx p.Lights i5).bind fun e5 =>
      (idx q.Lights i5).bind fun e6 =>
      if e5.Id != e6.Id then some true
      else (idx p.Lights i5).bind fun e7 =>
      (idx q.Lights i5).bind fun e8 =>
      if !(([e7.Block.First,e7.Block.Count]:List Int)==([e8.Block.First,e8.Block.Count]:List Int)) then some true
      else (idx p.Lights i5).bind fun e9 =>
      (idx q.Lights i5).bind fun e10 =>
      (gbh fu e9.Route e10.Route).bind fun y =>
      some (!y)).bind fun c8 =>
      if c8 then
        some (.ret false)
      else
        yK fu p q fk (w64 (i5 + 1))
    else
      some (.next i5)
def gbY (fu:Nat) (p:Plan) (q:Plan):Option (Bool) :=
  (if (p.Lights.length:Int) != (q.Lights.length:Int) then some true
  else if (p.Network.Nodes.length:Int) != (q.Network.Nodes.length:Int) then some true
  else some ((p.Network.Fibers.length:Int) != (q.Network.Fibers.length:Int))).bind fun c7 =>
  if c7 then
    some false
  else
    (xZ fu p q fu 0).bind fun out=>out.on some fun z3 =>
    (xY fu p q fu 0).bind fun out=>out.on some fun z2 =>
    (yK fu p q fu 0).bind fun out=>out.on some fun z =>
    some true
def zt (fu:Nat) (p:Plan) (q:Plan):Option (Bool) :=
  (gbY fu ({ Network:=p.Network,Lights:=[] }:Plan) ({ Network:=q.Network,Lights:=[] }:Plan)).bind fun y =>
  some y
def vi (fu:Nat) (p:Plan) (q:Plan):Nat→List Action→Int→Option (List Action×Int)
  | 0,_,_=>none
  | fk + 1,out',i =>
    if decide (i<(p.Lights.length:Int)) then
      (idx p.Lights i).bind fun e =>
      (yl fu q e.Id).bind fun y =>
      if decide (y<0) then
        (idx p.Lights i).bind fun e2 =>
        (yM fu e2).bind fun y2 =>
        (app out' [({ Kind:=2,Light:=y2 }:Action)]).bind fun al =>
        vi fu p q fk al (w64 (i + 1))
      else
        vi fu p q fk out' (w64 (i + 1))
    else
      some (out',i)
def vb (fu:Nat) (p:Plan) (q:Plan):Nat→List Action→Int→Option (List Action×Int)
  | 0,_,_=>none
  | fk + 1,out4,i3 =>
    if decide (i3<(q.Lights.length:Int)) then
      (idx q.Lights i3).bind fun e3 =>
      (yl fu p e3.Id).bind fun y3 =>
      (if decide (y3≥0) then (idx p.Lights y3).bind fun e4 =>
      (idx q.Lights i3).bind fun e5 =>
      (gab fu e4 e5).bind fun y4 =>
      some (!y4)
      else some false).bind fun c15 =>
      if c15 then
        (idx q.Lights i3).bind fun e6 =>
        (yM fu e6).bind fun y5 =>
        (app out4 [({ Kind:=3,Light:=y5 }:Action)]).bind fun al2 =>
        vb fu p q fk al2 (w64 (i3 + 1))
      else
        vb fu p q fk out4 (w64 (i3 + 1))
    else
      some (out4,i3)
def va (fu:Nat) (p:Plan) (q:Plan):Nat→List Action→Int→Option (List Action×Int)
  | 0,_,_=>none
  | fk + 1,out7,i5 =>
    if decide (i5<(q.Lights.length:Int)) then
      (idx q.Lights i5).bind fun e7 =>
      (yl fu p e7.Id).bind fun y6 =>
      if decide (y6<0) then
        (idx q.Lights i5).bind fun e8 =>
        (yM fu e8).bind fun y7 =>
        (app out7 [({ Kind:=1,Light:=y7 }:Action)]).bind fun al3 =>
        va fu p q fk al3 (w64 (i5 + 1))
      else
        va fu p q fk out7 (w64 (i5 + 1))
    else
      some (out7,i5)
def yA (fu:Nat) (p:Plan) (q:Plan):Option (List Action) :=
  (vi fu p q fu ([]:List Action) 0).bind fun z3 =>
  (vb fu p q fu z3.1 0).bind fun z2 =>
  (va fu p q fu z2.1 0).bind fun z =>
  some z.1
def xu (fu:Nat) (p:Plan) (q:Plan):Option (List Action×Bool) :=
  ((xr fu p).bind fun y =>
  if !y then some true
  else (xr fu q).bind fun y2 =>
  if !y2 then some true
  else (zt fu p q).bind fun y3 =>
  some (!y3)).bind fun c7 =>
  if c7 then
    some (([]:List Action),false)
  else
    (yA fu p q).bind fun y4 =>
    if decide ((y4.length:Int) > 8) then
      some (([]:List Action),false)
    else
      some (y4,true)
def uM (fu:Nat) (x1:L20SearchP) (p:Plan) (order:List Int) (used:Int) (rec_:(L20SearchP)→(Plan)→(List Int)→(Int)→Option (List Int×Bool×List Bool)):Nat→Int→List Bool→Option (Out (Int×List Bool) (List Int×Bool×List Bool))
  | 0,_,_=>none
  | fk + 1,i,m =>
    if decide (i<(x1.list.length:Int)) then
      (shr used (wu64 i)).bind fun q =>
      if (band q 1)==1 then
        uM fu x1 p order used rec_ fk (w64 (i + 1)) m
      else
        (idx x1.list i).bind fun e2 =>
        (vH fu p e2).bind fun y =>
        if !y.2 then
          uM fu x1 p order used rec_ fk (w64 (i + 1)) m
        else
          (gac fu order).bind fun y2 =>
          (app y2 [i]).bind fun l =>
          (shl 1 (wu64 i)).bind fun q2 =>
          (rec_ ({ list:=x1.list,failed:=m }:L20SearchP) y.1 l (bor used q2)).bind fun y3 =>
          if y3.2.1 then
            some (.ret (y3.1,true,y3.2.2))
          else
            uM fu x1 p order used rec_ fk (w64 (i + 1)) y3.2.2
    else
      some (.next (i,m))
def vY (fu:Nat) (rec_:(L20SearchP)→(Plan)→(List Int)→(Int)→Option (List Int×Bool×List Bool)) (x1:L20SearchP) (p:Plan) (order:List Int) (used:Int):Option (List Int×Bool×List Bool) :=
  if (order.length:Int)==(x1.list.length:Int) then
    some (order,true,x1.failed)
  else
    (idx x1.failed used).bind fun e =>
    if e then
      some (order,false,x1.failed)
    else
      (uM fu x1 p order used rec_ fu 0 x1.failed).bind fun out=>out.on some fun z =>
      (idx z.2 used).bind fun e3 =>
      some (order,false,z.2.set (used:Int).toNat true)
def uS:Nat→(L20SearchP)→(Plan)→(List Int)→(Int)→Option (List Int×Bool×List Bool)
  | 0,_,_,_,_=>none
  | fu + 1,x1,p,order,used=>vY fu (fun x1 p order used=>uS fu x1 p order used) x1 p order used
def xt (fu:Nat) (y:List Action×Bool) (y2:List Int×Bool×List Bool):Nat→List Action→Int→Option (List Action×Int)
  | 0,_,_=>none
  | fk + 1,out',i =>
    if decide (i<(y2.1.length:Int)) then
      (idx y2.1 i).bind fun e =>
      (idx y.1 e).bind fun e2 =>
      (app out' [e2]).bind fun l2 =>
      xt fu y y2 fk l2 (w64 (i + 1))
    else
      some (out',i)
def gaH (fu:Nat) (p:Plan) (q:Plan):Option (List Action×Bool) :=
  (xu fu p q).bind fun y =>
  if !y.2 then
    some (([]:List Action),false)
  else
    (shl 1 (wu64 (y.1.length:Int))).bind fun q2 =>
    (mk (false:Bool) q2).bind fun l =>
    (uS fu ({ list:=y.1,failed:=l }:L20SearchP) p ([]:List Int) 0).bind fun y2 =>
    if !y2.2.1 then
      some (([]:List Action),false)
    else
      (xt fu y y2 fu ([]:List Action) 0).bind fun z =>
      some (z.1,true)
def yr (fu:Nat) (list:List Action):Nat→Int→List ByteArray→List Fiber→List Light→Option (Out (Int×List ByteArray×List Fiber×List Light) (Plan×Int))
  | 0,_,_,_,_=>none
  | fk + 1,i,m,m2,m3 =>
    if decide (i<(list.length:Int)) then
      (idx list i).bind fun e =>
      (xO fu ({ Network:=({ Nodes:=m,Fibers:=m2 }:Network),Lights:=m3 }:Plan) e).bind fun y2 =>
      if !y2.2 then
        some (.ret (({ Network:=({ Nodes:=m,Fibers:=m2 }:Network),Lights:=m3 }:Plan),i))
      else
        yr fu list fk (w64 (i + 1)) y2.1.Network.Nodes y2.1.Network.Fibers y2.1.Lights
    else
      some (.next (i,m,m2,m3))
def gaW (fu:Nat) (p:Plan) (list:List Action):Option (Plan×Int) :=
  (xW fu p).bind fun y =>
  (yr fu list fu 0 y.Network.Nodes y.Network.Fibers y.Lights).bind fun out=>out.on some fun z =>
  some (({ Network:=({ Nodes:=z.2.1,Fibers:=z.2.2.1 }:Network),Lights:=z.2.2.2 }:Plan),(list.length:Int))
def za (fu:Nat) (p:Plan) (list:List Action):Option (Plan×Int×Bool) :=
  ((vP fu p).bind fun y =>
  if !y then some true
  else some (decide ((list.length:Int) > 8))).bind fun c5 =>
  if c5 then
    some (({ Network:=({ Nodes:=[],Fibers:=[] }:Network),Lights:=[] }:Plan),0,false)
  else
    (gaW fu p list).bind fun y2 =>
    if decide (y2.2<(list.length:Int)) then
      (xW fu p).bind fun y3 =>
      some (y3,y2.2,true)
    else
      some (y2.1,y2.2,true)
def vh (fu:Nat) (a':Network) (b':Network):Nat→Int→Option (Out (Int) (Bool))
  | 0,_=>none
  | fk + 1,i =>
    if decide (i<(a'.Nodes.length:Int)) then
      (idx a'.Nodes i).bind fun e =>
      (idx b'.Nodes i).bind fun e2 =>
      if !(e.toList==e2.toList) then
        some (.ret false)
      else
        vh fu a' b' fk (w64 (i + 1))
    else
      some (.next i)
def vg (fu:Nat) (a':Network) (b':Network):Nat→Int→Option (Out (Int) (Bool))
  | 0,_=>none
  | fk + 1,i3 =>
    if decide (i3<(a'.Fibers.length:Int)) then
      (idx a'.Fibers i3).bind fun e3 =>
      (idx b'.Fibers i3).bind fun e4 =>
      if !(([e3.A,e3.B,e3.Length,e3.Risk]:List Int)==([e4.A,e4.B,e4.Length,e4.Risk]:List Int)) then
        some (.ret false)
      else
        vg fu a' b' fk (w64 (i3 + 1))
    else
      some (.next i3)
def yQ (fu:Nat) (a':Network) (b':Network):Option (Bool) :=
  (if (a'.Nodes.length:Int) != (b'.Nodes.length:Int) then some true
  else some ((a'.Fibers.length:Int) != (b'.Fibers.length:Int))).bind fun c5 =>
  if c5 then
    some false
  else
    (vh fu a' b' fu 0).bind fun out=>out.on some fun z2 =>
    (vg fu a' b' fu 0).bind fun out=>out.on some fun z =>
    some true
def vZ (fu:Nat) (a':Plan) (b':Plan):Nat→Int→Option (Out (Int) (Bool))
  | 0,_=>none
  | fk + 1,i =>
    if decide (i<(a'.Lights.length:Int)) then
      (idx a'.Lights i).bind fun e =>
      (idx b'.Lights i).bind fun e2 =>
      (gae fu e e2).bind fun y2 =>
      if !y2 then
        some (.ret false)
      else
        vZ fu a' b' fk (w64 (i + 1))
    else
      some (.next i)
def z9 (fu:Nat) (a':Plan) (b':Plan):Option (Bool) :=
  ((yQ fu a'.Network b'.Network).bind fun y =>
  if !y then some true
  else some ((a'.Lights.length:Int) != (b'.Lights.length:Int))).bind fun c7 =>
  if c7 then
    some false
  else
    (vZ fu a' b' fu 0).bind fun out=>out.on some fun z =>
    some true
def z5 (fu:Nat) (code:List By):Option (Bool) :=
  (gdj fu code).bind fun y =>
  if y then
    some true
  else
    (yE fu code).bind fun y2 =>
    (gaI fu y2.1 y2.2).bind fun y3 =>
    (gaH fu y2.1 y2.2).bind fun y4 =>
    if y3.2 != y4.2 then
      some false
    else
      (xx fu y2.1 y2.2).bind fun y5 =>
      (xu fu y2.1 y2.2).bind fun y6 =>
      if y5.2 != y6.2 then
        some false
      else
        if !y3.2 then
          some ((y3.1.length:Int)==0)
        else
          (za fu y2.1 y3.1).bind fun y7 =>
          (if y7.2.2 then if y5.2 then if y7.2.1==(y3.1.length:Int) then if (y3.1.length:Int)==(y5.1.length:Int) then (z9 fu y7.1 y2.2).bind fun y8 =>
          some y8
          else some false
          else some false
          else some false
          else some false).bind fun c15 =>
          some c15
end AT
