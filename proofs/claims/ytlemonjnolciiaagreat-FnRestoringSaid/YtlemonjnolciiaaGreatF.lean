/- The Go functions told plainly, by program (gen.py). -/
import Derived.Test.YtlemonjnolciiaaGreatAtPS
import Derived.Test.YtlemonjnolciiaaGreatAtPI
set_option linter.unusedVariables false
namespace AT
structure Pz where
  code:List By
  at_:Int
  seed:U64
  deriving DecidableEq
structure Nt where
  A:Int
  B:Int
  Pk:Int
  Pg:Int
  deriving DecidableEq
structure Nq where
  Nx:List ByteArray
  Nw:List Nt
  deriving DecidableEq
structure Nv where
  Pq:Int
  Nw:List Int
  deriving DecidableEq
structure Nd where
  Pj:Int
  Px:Int
  deriving DecidableEq
structure Nh where
  Id:Int
  Nv:Nv
  Nd:Nd
  deriving DecidableEq
structure Nz where
  Nq:Nq
  Nk:List Nh
  deriving DecidableEq
structure Format where
  Reach:Int
  Rate:Int
  deriving DecidableEq
structure Nj where
  Nz:Nz
  Ng:List Nh
  Np:List Int
  deriving DecidableEq
structure Ph where
  n:Nq
  to:Int
  list:List Nv
  deriving DecidableEq
structure Action where
  Kind:Int
  Nh:Nh
  deriving DecidableEq
structure L20SearchP where
  list:List Action
  failed:List Bool
  deriving DecidableEq
structure FiberEvent where
  Fail:Bool
  Nw:List Int
  deriving DecidableEq
structure Demand where
  From:Int
  To:Int
  Rate:Int
  Class:Int
  deriving DecidableEq
structure Served where
  Nz:Nz
  Ids:List Int
  Blocked:Int
  deriving DecidableEq
structure ChoiceP where
  route:Nv
  count:Int
  deriving DecidableEq
def ii (fu:Nat) (code:List By):Option (Bool) :=
  some (decide ((code.length:Int) > 65536))
def zO (fu:Nat) (c:Pz):Option (Int×Pz) :=
  if decide (c.at_<(c.code.length:Int)) then
    (idx c.code c.at_).bind λe =>
    if decide ((w64 (c.at_ + 1))≤(c.code.length:Int)) then
      some (w64 e.n,({ code:=c.code,at_:=w64 (c.at_ + 1),seed:=(⟨wu64 ((wu64 ((wu64 (c.seed.n * 6364136223846793005)) + (wu64 (w64 e.n)))) + 897897)⟩:U64) }:Pz))
    else
      (shrk 64 (wu64 ((wu64 ((wu64 (c.seed.n * 6364136223846793005)) + (wu64 (w64 e.n)))) + 897897)) 40).bind λq =>
      some (w64 (iw q 255),({ code:=c.code,at_:=w64 (c.at_ + 1),seed:=(⟨wu64 ((wu64 ((wu64 (c.seed.n * 6364136223846793005)) + (wu64 (w64 e.n)))) + 897897)⟩:U64) }:Pz))
  else
    if decide ((w64 (c.at_ + 1))≤(c.code.length:Int)) then
      some (0,({ code:=c.code,at_:=w64 (c.at_ + 1),seed:=(⟨wu64 ((wu64 ((wu64 (c.seed.n * 6364136223846793005)) + (wu64 0))) + 897897)⟩:U64) }:Pz))
    else
      (shrk 64 (wu64 ((wu64 ((wu64 (c.seed.n * 6364136223846793005)) + (wu64 0))) + 897897)) 40).bind λq2 =>
      some (w64 (iw q2 255),({ code:=c.code,at_:=w64 (c.at_ + 1),seed:=(⟨wu64 ((wu64 ((wu64 (c.seed.n * 6364136223846793005)) + (wu64 0))) + 897897)⟩:U64) }:Pz))
def uo (fu:Nat) (c:Pz) (n':Int):Option (Int×Pz) :=
  if decide (n'≤1) then
    some (0,c)
  else
    (zO fu c).bind λy =>
    if decide (n' > 200) then
      (zO fu y.2).bind λy2 =>
      (rem (w64 ((w64 (y.1 * 256)) + y2.1)) n').bind λq =>
      some (q,y2.2)
    else
      (rem y.1 n').bind λq2 =>
      some (q2,y.2)
def vB (fu:Nat) (c:Pz) (n':Int):Option (Bool×Pz) :=
  (uo fu c n').bind λy =>
  some (y.1==0,y.2)
def bW (fu:Nat) (a':Int) (b':Int):Option (Int) :=
  if decide (a'<b') then
    some a'
  else
    some b'
def cG (fu:Nat) (a':Int) (b':Int):Option (Int) :=
  if decide (a' > b') then
    some a'
  else
    some b'
def xz (fu:Nat) (c:Pz) (list:List Int):Option (Int×Pz) :=
  (uo fu c (list.length:Int)).bind λy =>
  (idx list y.1).bind λe =>
  some (e,y.2)
def bg (fu:Nat) (f:Nt) (g':Nt):Option (Int) :=
  if f.A != g'.A then
    some (w64 (f.A - g'.A))
  else
    if f.B != g'.B then
      some (w64 (f.B - g'.B))
    else
      if f.Pk != g'.Pk then
        some (w64 (f.Pk - g'.Pk))
      else
        some (w64 (f.Pg - g'.Pg))
def ab (fu:Nat) (list:List Nt) (f:Nt):Nat→Int→Option (Int)
  | 0,_=>none
  | fk + 1,i =>
    (if decide (i<(list.length:Int)) then (idx list i).bind λe =>
    (bg fu e f).bind λy =>
    some (decide (y≤0))
    else some false).bind λc2 =>
    if c2 then
      ab fu list f fk (w64 (i + 1))
    else
      some i
def dE (fu:Nat) (list:List Nt) (f:Nt):Option (List Nt) :=
  (ab fu list f fu 0).bind λz =>
  (sub list 0 z).bind λl =>
  (sub list z (list.length:Int)).bind λl2 =>
  (app ([]:List Nt) l).bind λl3 =>
  (app l3 [f]).bind λl4 =>
  (app l4 l2).bind λl5 =>
  some l5
def vt (fu:Nat) (y:Int×Pz):Nat→Int→List By→Int→U64→List Nt→Option (Int×List By×Int×U64×List Nt)
  | 0,_,_,_,_,_=>none
  | fk + 1,i,m,m2,m3,m4 =>
    if decide (i<(w64 (2 + y.1))) then
      (rem (w64 (i + 1)) (w64 (2 + y.1))).bind λq =>
      if i==q then vt fu y fk (w64 (i + 1)) m m2 m3 m4
      else (vB fu ({ code:=m,at_:=m2,seed:=m3 }:Pz) 10).bind λy2 =>
      if y2.1 then
        vt fu y fk (w64 (i + 1)) y2.2.code y2.2.at_ y2.2.seed m4
      else
        (bW fu i q).bind λy3 =>
        (cG fu i q).bind λy4 =>
        (uo fu y2.2 8).bind λy5 =>
        (xz fu y5.2 [0,0,0,1,2]).bind λy6 =>
        (dE fu m4 ({ A:=y3,B:=y4,Pk:=w64 (100 * (w64 (1 + y5.1))),Pg:=y6.1 }:Nt)).bind λy7 =>
        vt fu y fk (w64 (i + 1)) y6.2.code y6.2.at_ y6.2.seed y7
    else
      some (i,m,m2,m3,m4)
def vS (fu:Nat) (y:Int×Pz):Nat→Int→List Nt→List By→Int→U64→Option (Int×List Nt×List By×Int×U64)
  | 0,_,_,_,_,_=>none
  | fk + 1,m9,m10,m11,m12,m13 =>
    if decide (m9 > 0) then
      (uo fu ({ code:=m11,at_:=m12,seed:=m13 }:Pz) (w64 (2 + y.1))).bind λy9 =>
      (uo fu y9.2 (w64 (2 + y.1))).bind λy10 =>
      if y9.1 != y10.1 then
        (bW fu y9.1 y10.1).bind λy11 =>
        (cG fu y9.1 y10.1).bind λy12 =>
        (uo fu y10.2 8).bind λy13 =>
        (xz fu y13.2 [0,0,0,1,2]).bind λy14 =>
        (dE fu m10 ({ A:=y11,B:=y12,Pk:=w64 (100 * (w64 (1 + y13.1))),Pg:=y14.1 }:Nt)).bind λy15 =>
        vS fu y fk (w64 (m9 - 1)) y15 y14.2.code y14.2.at_ y14.2.seed
      else
        vS fu y fk (w64 (m9 - 1)) m10 y10.2.code y10.2.at_ y10.2.seed
    else
      some (m9,m10,m11,m12,m13)
def yp (fu:Nat) (c:Pz):Option (Nq×Pz) :=
  (uo fu c 5).bind λy =>
  (sub [(⟨#[97]⟩:ByteArray),(⟨#[98]⟩:ByteArray),(⟨#[99]⟩:ByteArray),(⟨#[100]⟩:ByteArray),(⟨#[101]⟩:ByteArray),(⟨#[102]⟩:ByteArray)] 0 (w64 (2 + y.1))).bind λl =>
  (vt fu y fu 0 y.2.code y.2.at_ y.2.seed []).bind λz2 =>
  (uo fu ({ code:=z2.2.1,at_:=z2.2.2.1,seed:=z2.2.2.2.1 }:Pz) 4).bind λy8 =>
  (vS fu y fu y8.1 z2.2.2.2.2 y8.2.code y8.2.at_ y8.2.seed).bind λz =>
  some (({ Nx:=l,Nw:=z.2.1 }:Nq),({ code:=z.2.2.1,at_:=z.2.2.2.1,seed:=z.2.2.2.2 }:Pz))
def zQ (fu:Nat) (c:Pz):Option (Nq×Pz) :=
  (yp fu c).bind λy =>
  if (y.1.Nw.length:Int)==0 then
    (app y.1.Nw [({ A:=0,B:=1,Pk:=100,Pg:=0 }:Nt)]).bind λl =>
    some (({ Nx:=y.1.Nx,Nw:=l }:Nq),y.2)
  else
    some (y.1,y.2)
def yh (fu:Nat) (n':Nq) (fiber:Int) (node:Int):Option (Int) :=
  (idx n'.Nw fiber).bind λe =>
  if node==e.A then
    some e.B
  else
    if node==e.B then
      some e.A
    else
      some (-1)
def zl (fu:Nat) (l:List Int) (n':Int):Nat→Int→Option (Out (Int) (Bool))
  | 0,_=>none
  | fk + 1,i =>
    if decide (i<(l.length:Int)) then
      (idx l i).bind λe =>
      if e==n' then
        some (.ret true)
      else
        zl fu l n' fk (w64 (i + 1))
    else
      some (.next i)
def zK (fu:Nat) (l:List Int) (n':Int):Option (Bool) :=
  (zl fu l n' fu 0).bind λout=>out.on some λz =>
  some false
def vA (fu:Nat) (n':Nq) (y:Int×Pz) (seen:List Int):Nat→List Int→Int→Option (List Int×Int)
  | 0,_,_=>none
  | fk + 1,list,i =>
    if decide (i<(n'.Nw.length:Int)) then
      (idx seen (w64 ((seen.length:Int) - 1))).bind λe =>
      (yh fu n' i e).bind λy3 =>
      (if decide (y3≥0) then (zK fu seen y3).bind λy4 =>
      some (!y4)
      else some false).bind λc10 =>
      if c10 then
        (app list [i]).bind λl =>
        vA fu n' y seen fk l (w64 (i + 1))
      else
        vA fu n' y seen fk list (w64 (i + 1))
    else
      some (list,i)
def xB (fu:Nat) (n':Nq) (y:Int×Pz):Nat→List Int→Int→List Int→List By→Int→U64→Option (List Int×Int×List Int×List By×Int×U64)
  | 0,_,_,_,_,_,_=>none
  | fk + 1,seen,m,m2,m3,m4,m5 =>
    if decide (m > 0) then
      (vA fu n' y seen fu ([]:List Int) 0).bind λz =>
      if (z.1.length:Int)==0 then
        some (seen,m,m2,m3,m4,m5)
      else
        (uo fu ({ code:=m3,at_:=m4,seed:=m5 }:Pz) (z.1.length:Int)).bind λy5 =>
        (idx z.1 y5.1).bind λe2 =>
        (app m2 [e2]).bind λl2 =>
        (idx seen (w64 ((seen.length:Int) - 1))).bind λe3 =>
        (yh fu n' e2 e3).bind λy6 =>
        (app seen [y6]).bind λl3 =>
        xB fu n' y fk l3 (w64 (m - 1)) l2 y5.2.code y5.2.at_ y5.2.seed
    else
      some (seen,m,m2,m3,m4,m5)
def ze (fu:Nat) (c:Pz) (n':Nq):Option (Nv×Pz) :=
  (uo fu c (n'.Nx.length:Int)).bind λy =>
  (uo fu y.2 4).bind λy2 =>
  (xB fu n' y fu [y.1] (w64 (1 + y2.1)) ([]:List Int) y2.2.code y2.2.at_ y2.2.seed).bind λz2 =>
  some (({ Pq:=y.1,Nw:=z2.2.2.1 }:Nv),({ code:=z2.2.2.2.1,at_:=z2.2.2.2.2.1,seed:=z2.2.2.2.2.2 }:Pz))
def zM (fu:Nat) (c:Pz) (n':Nq):Option (Nv×Pz) :=
  (ze fu c n').bind λy =>
  if (y.1.Nw.length:Int)==0 then
    (idx n'.Nw 0).bind λe =>
    some (({ Pq:=e.A,Nw:=[0] }:Nv),y.2)
  else
    some (y.1,y.2)
def yV (fu:Nat) (b':Nd):Option (Int) :=
  (shl 1 (wu64 b'.Px)).bind λq =>
  (shl (w64 (q - 1)) (wu64 b'.Pj)).bind λq2 =>
  some q2
def yJ (fu:Nat) (p:Nz) (fiber:Int):Nat→Int→Int→Option (Int×Int)
  | 0,_,_=>none
  | fk + 1,out',i =>
    if decide (i<(p.Nk.length:Int)) then
      (idx p.Nk i).bind λe =>
      (zK fu e.Nv.Nw fiber).bind λy =>
      if y then
        (idx p.Nk i).bind λe2 =>
        (yV fu e2.Nd).bind λy2 =>
        yJ fu p fiber fk (bor out' y2) (w64 (i + 1))
      else
        yJ fu p fiber fk out' (w64 (i + 1))
    else
      some (out',i)
def dK (fu:Nat) (p:Nz) (fiber:Int):Option (Int) :=
  (yJ fu p fiber fu 0 0).bind λz =>
  some z.1
def yU (fu:Nat) (p:Nz) (r':Nv):Nat→Int→Int→Option (Int×Int)
  | 0,_,_=>none
  | fk + 1,out',i =>
    if decide (i<(r'.Nw.length:Int)) then
      (idx r'.Nw i).bind λe =>
      (dK fu p e).bind λy =>
      yU fu p r' fk (bor out' y) (w64 (i + 1))
    else
      some (out',i)
def z6 (fu:Nat) (p:Nz) (r':Nv):Option (Int) :=
  (yU fu p r' fu 0 0).bind λz =>
  some z.1
def yM (fu:Nat) (mask:Int) (count:Int):Nat→List Int→Int→Option (List Int×Int)
  | 0,_,_=>none
  | fk + 1,out',s' =>
    if decide ((w64 (s' + count))≤24) then
      (yV fu ({ Pj:=s',Px:=count }:Nd)).bind λy =>
      if (band mask y)==0 then
        (app out' [s']).bind λl =>
        yM fu mask count fk l (w64 (s' + 1))
      else
        yM fu mask count fk out' (w64 (s' + 1))
    else
      some (out',s')
def cD (fu:Nat) (mask:Int) (count:Int):Option (List Int) :=
  (yM fu mask count fu ([]:List Int) 0).bind λz =>
  some z.1
def f5 (fu:Nat) (n':Nq):Option (Nq) :=
  (app ([]:List ByteArray) n'.Nx).bind λl =>
  (app ([]:List Nt) n'.Nw).bind λl2 =>
  some ({ Nx:=l,Nw:=l2 }:Nq)
def ax (fu:Nat) (l:List Int):Option (List Int) :=
  (app ([]:List Int) l).bind λl2 =>
  some l2
def cF (fu:Nat) (r':Nv):Option (Nv) :=
  (ax fu r'.Nw).bind λy =>
  some ({ Pq:=r'.Pq,Nw:=y }:Nv)
def aP (fu:Nat) (x1:Nh):Option (Nh) :=
  (cF fu x1.Nv).bind λy =>
  some ({ Id:=x1.Id,Nv:=y,Nd:=x1.Nd }:Nh)
def aa (fu:Nat) (p:Nz):Nat→Int→List Nh→Option (Int×List Nh)
  | 0,_,_=>none
  | fk + 1,i,m =>
    if decide (i<(p.Nk.length:Int)) then
      (idx p.Nk i).bind λe =>
      (aP fu e).bind λy2 =>
      (app m [y2]).bind λal =>
      aa fu p fk (w64 (i + 1)) al
    else
      some (i,m)
def bV (fu:Nat) (p:Nz):Option (Nz) :=
  (f5 fu p.Nq).bind λy =>
  (aa fu p fu 0 ([]:List Nh)).bind λz =>
  some ({ Nq:=y,Nk:=z.2 }:Nz)
def z8 (fu:Nat) (x1:Nh) (y:Nz):Nat→Int→Option (Int)
  | 0,_=>none
  | fk + 1,i =>
    (if decide (i<(y.Nk.length:Int)) then (idx y.Nk i).bind λe =>
    some (decide (e.Id<x1.Id))
    else some false).bind λc8 =>
    if c8 then
      z8 fu x1 y fk (w64 (i + 1))
    else
      some i
def ba (fu:Nat) (p:Nz) (x1:Nh):Option (Nz) :=
  (bV fu p).bind λy =>
  (z8 fu x1 y fu 0).bind λz =>
  (sub y.Nk 0 z).bind λl =>
  (sub y.Nk z (y.Nk.length:Int)).bind λl2 =>
  (app ([]:List Nh) l).bind λl3 =>
  (aP fu x1).bind λy2 =>
  (app l3 [y2]).bind λl4 =>
  (app l4 l2).bind λl5 =>
  some ({ Nq:=y.Nq,Nk:=l5 }:Nz)
def vN (fu:Nat):Nat→Int→List ByteArray→List Nt→List Nh→List By→Int→U64→Option (Int×List ByteArray×List Nt×List Nh×List By×Int×U64)
  | 0,_,_,_,_,_,_,_=>none
  | fk + 1,n',m,m2,m3,m4,m5,m6 =>
    if decide (n' > 0) then
      (zM fu ({ code:=m4,at_:=m5,seed:=m6 }:Pz) ({ Nx:=m,Nw:=m2 }:Nq)).bind λy3 =>
      (uo fu y3.2 5).bind λy4 =>
      (z6 fu ({ Nq:=({ Nx:=m,Nw:=m2 }:Nq),Nk:=m3 }:Nz) y3.1).bind λy5 =>
      (cD fu y5 (w64 (1 + y4.1))).bind λy6 =>
      if decide ((y6.length:Int) > 0) then
        (idx y6 0).bind λe =>
        (vB fu y4.2 2).bind λy7 =>
        if y7.1 then
          (uo fu y7.2 (y6.length:Int)).bind λy8 =>
          (idx y6 y8.1).bind λe2 =>
          (uo fu y8.2 3).bind λy9 =>
          (ba fu ({ Nq:=({ Nx:=m,Nw:=m2 }:Nq),Nk:=m3 }:Nz) ({ Id:=w64 ((w64 ((w64 ((m3.length:Int) * 3)) + 1)) + y9.1),Nv:=y3.1,Nd:=({ Pj:=e2,Px:=w64 (1 + y4.1) }:Nd) }:Nh)).bind λy10 =>
          vN fu fk (w64 (n' - 1)) y10.Nq.Nx y10.Nq.Nw y10.Nk y9.2.code y9.2.at_ y9.2.seed
        else
          (uo fu y7.2 3).bind λy11 =>
          (ba fu ({ Nq:=({ Nx:=m,Nw:=m2 }:Nq),Nk:=m3 }:Nz) ({ Id:=w64 ((w64 ((w64 ((m3.length:Int) * 3)) + 1)) + y11.1),Nv:=y3.1,Nd:=({ Pj:=e,Px:=w64 (1 + y4.1) }:Nd) }:Nh)).bind λy12 =>
          vN fu fk (w64 (n' - 1)) y12.Nq.Nx y12.Nq.Nw y12.Nk y11.2.code y11.2.at_ y11.2.seed
      else
        vN fu fk (w64 (n' - 1)) m m2 m3 y4.2.code y4.2.at_ y4.2.seed
    else
      some (n',m,m2,m3,m4,m5,m6)
def zN (fu:Nat) (c:Pz):Option (Nz×Pz) :=
  (zQ fu c).bind λy =>
  (uo fu y.2 9).bind λy2 =>
  (vN fu fu y2.1 y.1.Nx y.1.Nw ([]:List Nh) y2.2.code y2.2.at_ y2.2.seed).bind λz =>
  some (({ Nq:=({ Nx:=z.2.1,Nw:=z.2.2.1 }:Nq),Nk:=z.2.2.2.1 }:Nz),({ code:=z.2.2.2.2.1,at_:=z.2.2.2.2.2.1,seed:=z.2.2.2.2.2.2 }:Pz))
def ap (fu:Nat) (c:Pz):Option (Nd×Pz) :=
  (vB fu c 12).bind λy =>
  if y.1 then
    (uo fu y.2 26).bind λy2 =>
    (uo fu y2.2 27).bind λy3 =>
    some (({ Pj:=w64 (y2.1 - 1),Px:=w64 (y3.1 - 1) }:Nd),y3.2)
  else
    (uo fu y.2 6).bind λy4 =>
    (uo fu y4.2 (w64 ((w64 (24 - (w64 (1 + y4.1)))) + 1))).bind λy5 =>
    some (({ Pj:=y5.1,Px:=w64 (1 + y4.1) }:Nd),y5.2)
def yX (fu:Nat) (c:Pz) (n':Nq):Option (Nv×Pz) :=
  (ze fu c n').bind λy =>
  (uo fu y.2 16).bind λy2 =>
  if y2.1==0 then
    (uo fu y2.2 8).bind λy3 =>
    some (({ Pq:=w64 (y3.1 - 1),Nw:=y.1.Nw }:Nv),y3.2)
  else
    if y2.1==1 then
      (uo fu y2.2 8).bind λy4 =>
      (app y.1.Nw [w64 (y4.1 - 1)]).bind λl =>
      some (({ Pq:=y.1.Pq,Nw:=l }:Nv),y4.2)
    else
      if y2.1==2 then
        some (({ Pq:=y.1.Pq,Nw:=([]:List Int) }:Nv),y2.2)
      else
        if y2.1==3 then
          if decide ((y.1.Nw.length:Int) > 1) then
            (idx y.1.Nw (w64 ((y.1.Nw.length:Int) - 1))).bind λe =>
            (app y.1.Nw [e]).bind λl2 =>
            some (({ Pq:=y.1.Pq,Nw:=l2 }:Nv),y2.2)
          else
            some (y.1,y2.2)
        else
          some (y.1,y2.2)
def ck (fu:Nat) (c:Pz) (list:List ByteArray):Option (ByteArray×Pz) :=
  (uo fu c (list.length:Int)).bind λy =>
  (idx list y.1).bind λe =>
  some (e,y.2)
def vK (fu:Nat):Nat→List Nt→List By→Int→U64→Option (List Nt×List By×Int×U64)
  | 0,_,_,_,_=>none
  | fk + 1,m,m2,m3,m4 =>
    (uo fu ({ code:=m2,at_:=m3,seed:=m4 }:Pz) 2).bind λy9 =>
    if decide ((m.length:Int)<(w64 (14 + y9.1))) then
      (idx m (w64 ((m.length:Int) - 1))).bind λe10 =>
      (app m [e10]).bind λl2 =>
      vK fu fk l2 y9.2.code y9.2.at_ y9.2.seed
    else
      some (m,y9.2.code,y9.2.at_,y9.2.seed)
def yi (fu:Nat) (c:Pz):Option (Nq×Pz) :=
  (yp fu c).bind λy =>
  if (y.1.Nw.length:Int)==0 then
    some (y.1,y.2)
  else
    (uo fu y.2 (y.1.Nw.length:Int)).bind λy2 =>
    (idx y.1.Nw y2.1).bind λe =>
    (uo fu y2.2 24).bind λy3 =>
    if y3.1==0 then
      (ck fu y3.2 [(⟨#[98]⟩:ByteArray),ByteArray.empty,(⟨#[65]⟩:ByteArray),(⟨#[97,98,99,100,101,102,103,104]⟩:ByteArray),(⟨#[97,98,99,100,101,102,103,104,105]⟩:ByteArray),(⟨#[120,49]⟩:ByteArray)]).bind λy4 =>
      (idx y.1.Nx 0).bind λe2 =>
      (idx y.1.Nw y2.1).bind λe3 =>
      some (({ Nx:=y.1.Nx.set (0:Int).toNat y4.1,Nw:=y.1.Nw.set (y2.1:Int).toNat e }:Nq),y4.2)
    else
      if y3.1==1 then
        (uo fu y3.2 8).bind λy5 =>
        (idx y.1.Nw y2.1).bind λe4 =>
        some (({ Nx:=y.1.Nx,Nw:=y.1.Nw.set (y2.1:Int).toNat ({ A:=w64 (y5.1 - 1),B:=e.B,Pk:=e.Pk,Pg:=e.Pg }:Nt) }:Nq),y5.2)
      else
        if y3.1==2 then
          (uo fu y3.2 10).bind λy6 =>
          (idx y.1.Nw y2.1).bind λe5 =>
          some (({ Nx:=y.1.Nx,Nw:=y.1.Nw.set (y2.1:Int).toNat ({ A:=e.A,B:=w64 (y6.1 - 1),Pk:=e.Pk,Pg:=e.Pg }:Nt) }:Nq),y6.2)
        else
          if y3.1==3 then
            (xz fu y3.2 [0,1,5000,5001]).bind λy7 =>
            (idx y.1.Nw y2.1).bind λe6 =>
            some (({ Nx:=y.1.Nx,Nw:=y.1.Nw.set (y2.1:Int).toNat ({ A:=e.A,B:=e.B,Pk:=y7.1,Pg:=e.Pg }:Nt) }:Nq),y7.2)
          else
            if y3.1==4 then
              (xz fu y3.2 [(-1),9,10]).bind λy8 =>
              (idx y.1.Nw y2.1).bind λe7 =>
              some (({ Nx:=y.1.Nx,Nw:=y.1.Nw.set (y2.1:Int).toNat ({ A:=e.A,B:=e.B,Pk:=e.Pk,Pg:=y8.1 }:Nt) }:Nq),y8.2)
            else
              if y3.1==5 then
                (idx y.1.Nw 0).bind λe8 =>
                (app y.1.Nw [e8]).bind λl =>
                (idx l y2.1).bind λe9 =>
                some (({ Nx:=y.1.Nx,Nw:=l.set (y2.1:Int).toNat e }:Nq),y3.2)
              else
                if y3.1==6 then
                  (vK fu fu y.1.Nw y3.2.code y3.2.at_ y3.2.seed).bind λz =>
                  some (({ Nx:=y.1.Nx,Nw:=z.1 }:Nq),({ code:=z.2.1,at_:=z.2.2.1,seed:=z.2.2.2 }:Pz))
                else
                  if y3.1==7 then
                    (app y.1.Nx [(⟨#[112]⟩:ByteArray),(⟨#[113]⟩:ByteArray),(⟨#[114]⟩:ByteArray),(⟨#[115]⟩:ByteArray)]).bind λl3 =>
                    (idx y.1.Nw y2.1).bind λe11 =>
                    some (({ Nx:=l3,Nw:=y.1.Nw.set (y2.1:Int).toNat e }:Nq),y3.2)
                  else
                    (idx y.1.Nw y2.1).bind λe12 =>
                    some (({ Nx:=y.1.Nx,Nw:=y.1.Nw.set (y2.1:Int).toNat e }:Nq),y3.2)
def xd (fu:Nat) (y:Nz×Pz):Nat→Int→List Nh→List By→Int→U64→Option (Int×List Nh×List By×Int×U64)
  | 0,_,_,_,_,_=>none
  | fk + 1,n',m,m2,m3,m4 =>
    (uo fu ({ code:=m2,at_:=m3,seed:=m4 }:Pz) 2).bind λy8 =>
    if decide ((m.length:Int)<(w64 (12 + y8.1))) then if decide (n'<14) then
      (idx y.1.Nq.Nw 0).bind λe7 =>
      (app m [({ Id:=w64 (500 + n'),Nv:=({ Pq:=e7.A,Nw:=[0] }:Nv),Nd:=({ Pj:=w64 (23 - n'),Px:=1 }:Nd) }:Nh)]).bind λl2 =>
      xd fu y fk (w64 (n' + 1)) l2 y8.2.code y8.2.at_ y8.2.seed
    else
      some (n',m,y8.2.code,y8.2.at_,y8.2.seed)
    else some (n',m,y8.2.code,y8.2.at_,y8.2.seed)
def zm (fu:Nat) (c:Pz):Option (Nz×Pz) :=
  (zN fu c).bind λy =>
  if (y.1.Nk.length:Int)==0 then
    some (y.1,y.2)
  else
    (uo fu y.2 (y.1.Nk.length:Int)).bind λy2 =>
    (idx y.1.Nk y2.1).bind λe =>
    (uo fu y2.2 24).bind λy3 =>
    if y3.1==0 then
      (xz fu y3.2 [0,999,1000,1,4]).bind λy4 =>
      (idx y.1.Nk y2.1).bind λe2 =>
      some (({ Nq:=y.1.Nq,Nk:=y.1.Nk.set (y2.1:Int).toNat ({ Id:=y4.1,Nv:=e.Nv,Nd:=e.Nd }:Nh) }:Nz),y4.2)
    else
      if y3.1==1 then
        (ap fu y3.2).bind λy5 =>
        (idx y.1.Nk y2.1).bind λe3 =>
        some (({ Nq:=y.1.Nq,Nk:=y.1.Nk.set (y2.1:Int).toNat ({ Id:=e.Id,Nv:=e.Nv,Nd:=y5.1 }:Nh) }:Nz),y5.2)
      else
        if y3.1==2 then
          (yX fu y3.2 y.1.Nq).bind λy6 =>
          (idx y.1.Nk y2.1).bind λe4 =>
          some (({ Nq:=y.1.Nq,Nk:=y.1.Nk.set (y2.1:Int).toNat ({ Id:=e.Id,Nv:=y6.1,Nd:=e.Nd }:Nh) }:Nz),y6.2)
        else
          if y3.1==3 then
            (app y.1.Nk [e]).bind λl =>
            (idx l y2.1).bind λe5 =>
            some (({ Nq:=y.1.Nq,Nk:=l.set (y2.1:Int).toNat e }:Nz),y3.2)
          else
            if y3.1==4 then
              (yi fu y3.2).bind λy7 =>
              (idx y.1.Nk y2.1).bind λe6 =>
              some (({ Nq:=y7.1,Nk:=y.1.Nk.set (y2.1:Int).toNat e }:Nz),y7.2)
            else
              if y3.1==5 then
                (xd fu y fu 0 y.1.Nk y3.2.code y3.2.at_ y3.2.seed).bind λz =>
                some (({ Nq:=y.1.Nq,Nk:=z.2.1 }:Nz),({ code:=z.2.2.1,at_:=z.2.2.2.1,seed:=z.2.2.2.2 }:Pz))
              else
                (idx y.1.Nk y2.1).bind λe8 =>
                some (({ Nq:=y.1.Nq,Nk:=y.1.Nk.set (y2.1:Int).toNat e }:Nz),y3.2)
def xX (fu:Nat) (x1:Int) (a':Int) (b':Int):Option (Bool) :=
  (if decide (x1≥a') then some (decide (x1≤b'))
  else some false).bind λc =>
  some c
def dP (fu:Nat) (b':By):Option (Bool) :=
  (if decide (b'.n≥97) then if decide (b'.n≤122) then some true
  else if decide (b'.n≥48) then some (decide (b'.n≤57))
  else some false
  else if decide (b'.n≥48) then some (decide (b'.n≤57))
  else some false).bind λc =>
  some c
def ye (fu:Nat) (s':ByteArray):Nat→Int→Option (Out (Int) (Bool))
  | 0,_=>none
  | fk + 1,i =>
    if decide (i<(s'.size:Int)) then
      (sidx s' i).bind λe3 =>
      (dP fu e3).bind λy2 =>
      if !y2 then
        some (.ret false)
      else
        ye fu s' fk (w64 (i + 1))
    else
      some (.next i)
def dQ (fu:Nat) (s':ByteArray):Option (Bool) :=
  ((xX fu (s'.size:Int) 1 8).bind λy =>
  if !y then some true
  else (sidx s' 0).bind λe =>
  if decide (e.n<97) then some true
  else (sidx s' 0).bind λe2 =>
  some (decide (e2.n > 122))).bind λc =>
  if c then
    some false
  else
    (ye fu s' fu 0).bind λout=>out.on some λz =>
    some true
def yQ (fu:Nat) (list:List ByteArray) (name:ByteArray):Nat→Int→Option (Out (Int) (Int))
  | 0,_=>none
  | fk + 1,i =>
    if decide (i<(list.length:Int)) then
      (idx list i).bind λe =>
      if e.toList==name.toList then
        some (.ret i)
      else
        yQ fu list name fk (w64 (i + 1))
    else
      some (.next i)
def dR (fu:Nat) (list:List ByteArray) (name:ByteArray):Option (Int) :=
  (yQ fu list name fu 0).bind λout=>out.on some λz =>
  some (-1)
def cX (fu:Nat) (f:Nt) (nodes:Int):Option (Bool) :=
  ((xX fu f.A 0 (w64 (nodes - 1))).bind λy =>
  if y then (xX fu f.B (w64 (f.A + 1)) (w64 (nodes - 1))).bind λy2 =>
  if y2 then (xX fu f.Pk 1 5000).bind λy3 =>
  if y3 then (xX fu f.Pg 0 9).bind λy4 =>
  some y4
  else some false
  else some false
  else some false).bind λc =>
  some c
def yP (fu:Nat) (n':Nq):Nat→Int→Option (Out (Int) (Bool))
  | 0,_=>none
  | fk + 1,i =>
    if decide (i<(n'.Nx.length:Int)) then
      ((idx n'.Nx i).bind λe =>
      (dQ fu e).bind λy2 =>
      if !y2 then some true
      else (idx n'.Nx i).bind λe2 =>
      (dR fu n'.Nx e2).bind λy3 =>
      some (y3 != i)).bind λc4 =>
      if c4 then
        some (.ret false)
      else
        yP fu n' fk (w64 (i + 1))
    else
      some (.next i)
def yO (fu:Nat) (n':Nq):Nat→Int→Option (Out (Int) (Bool))
  | 0,_=>none
  | fk + 1,i3 =>
    if decide (i3<(n'.Nw.length:Int)) then
      ((idx n'.Nw i3).bind λe3 =>
      (cX fu e3 (n'.Nx.length:Int)).bind λy4 =>
      if !y4 then some true
      else if decide (i3 > 0) then (idx n'.Nw (w64 (i3 - 1))).bind λe4 =>
      (idx n'.Nw i3).bind λe5 =>
      (bg fu e4 e5).bind λy5 =>
      some (decide (y5 > 0))
      else some false).bind λc5 =>
      if c5 then
        some (.ret false)
      else
        yO fu n' fk (w64 (i3 + 1))
    else
      some (.next i3)
def bQ (fu:Nat) (n':Nq):Option (Bool) :=
  ((xX fu (n'.Nx.length:Int) 2 8).bind λy =>
  if !y then some true
  else some (decide ((n'.Nw.length:Int) > 14))).bind λc3 =>
  if c3 then
    some false
  else
    (yP fu n' fu 0).bind λout=>out.on some λz2 =>
    (yO fu n' fu 0).bind λout=>out.on some λz =>
    some true
def zx (fu:Nat) (n':Nq) (r':Nv):Nat→List Int→Int→Option (Out (List Int×Int) (List Int×Bool))
  | 0,_,_=>none
  | fk + 1,out',i =>
    if decide (i<(r'.Nw.length:Int)) then
      (idx r'.Nw i).bind λe =>
      (xX fu e 0 (w64 ((n'.Nw.length:Int) - 1))).bind λy2 =>
      if !y2 then
        some (.ret (out',false))
      else
        (idx r'.Nw i).bind λe2 =>
        (idx out' (w64 ((out'.length:Int) - 1))).bind λe3 =>
        (yh fu n' e2 e3).bind λy3 =>
        (if decide (y3<0) then some true
        else (zK fu out' y3).bind λy4 =>
        some y4).bind λc6 =>
        if c6 then
          some (.ret (out',false))
        else
          (app out' [y3]).bind λl =>
          zx fu n' r' fk l (w64 (i + 1))
    else
      some (.next (out',i))
def cE (fu:Nat) (n':Nq) (r':Nv):Option (List Int×Bool) :=
  ((xX fu r'.Pq 0 (w64 ((n'.Nx.length:Int) - 1))).bind λy =>
  if !y then some true
  else some ((r'.Nw.length:Int)==0)).bind λc4 =>
  if c4 then
    some ([r'.Pq],false)
  else
    (zx fu n' r' fu [r'.Pq] 0).bind λout=>out.on some λz =>
    some (z.1,true)
def dO (fu:Nat) (n':Nq) (r':Nv):Option (Bool) :=
  (bQ fu n').bind λy =>
  if !y then
    some false
  else
    (cE fu n' r').bind λy2 =>
    some y2.2
def dM (fu:Nat) (b':Nd):Option (Bool) :=
  ((xX fu b'.Pj 0 23).bind λy =>
  if y then (xX fu b'.Px 1 (w64 (24 - b'.Pj))).bind λy2 =>
  some y2
  else some false).bind λc =>
  some c
def cW (fu:Nat) (n':Nq) (x1:Nh):Option (Bool) :=
  ((xX fu x1.Id 1 999).bind λy =>
  if y then (dO fu n' x1.Nv).bind λy2 =>
  if y2 then (dM fu x1.Nd).bind λy3 =>
  some y3
  else some false
  else some false).bind λc4 =>
  some c4
def yN (fu:Nat) (r':Nv) (group:List Int):Nat→Int→Option (Out (Int) (Bool))
  | 0,_=>none
  | fk + 1,i =>
    if decide (i<(r'.Nw.length:Int)) then
      (idx r'.Nw i).bind λe =>
      (zK fu group e).bind λy =>
      if y then
        some (.ret true)
      else
        yN fu r' group fk (w64 (i + 1))
    else
      some (.next i)
def yW (fu:Nat) (r':Nv) (group:List Int):Option (Bool) :=
  (yN fu r' group fu 0).bind λout=>out.on some λz =>
  some false
def bB (fu:Nat) (x1:Nh) (y:Nh):Option (Bool) :=
  ((yW fu x1.Nv y.Nv.Nw).bind λy2 =>
  if y2 then (yV fu x1.Nd).bind λy3 =>
  (yV fu y.Nd).bind λy4 =>
  some ((band y3 y4) != 0)
  else some false).bind λc3 =>
  some c3
def yd (fu:Nat) (p:Nz) (i:Int):Nat→Int→Option (Out (Int) (Bool))
  | 0,_=>none
  | fk + 1,k' =>
    if decide (k'<i) then
      (idx p.Nk k').bind λe4 =>
      (idx p.Nk i).bind λe5 =>
      (bB fu e4 e5).bind λy3 =>
      if y3 then
        some (.ret false)
      else
        yd fu p i fk (w64 (k' + 1))
    else
      some (.next k')
def yK (fu:Nat) (p:Nz):Nat→Int→Option (Out (Int) (Bool))
  | 0,_=>none
  | fk + 1,i =>
    if decide (i<(p.Nk.length:Int)) then
      ((idx p.Nk i).bind λe =>
      (cW fu p.Nq e).bind λy2 =>
      if !y2 then some true
      else if decide (i > 0) then (idx p.Nk (w64 (i - 1))).bind λe2 =>
      (idx p.Nk i).bind λe3 =>
      some (decide (e2.Id≥e3.Id))
      else some false).bind λc5 =>
      if c5 then
        some (.ret false)
      else
        (yd fu p i fu 0).bind λout=>out.on (λr=>some (.ret r)) λz =>
        yK fu p fk (w64 (i + 1))
    else
      some (.next i)
def bP (fu:Nat) (p:Nz):Option (Bool) :=
  ((bQ fu p.Nq).bind λy =>
  if !y then some true
  else some (decide ((p.Nk.length:Int) > 12))).bind λc4 =>
  if c4 then
    some false
  else
    (yK fu p fu 0).bind λout=>out.on some λz2 =>
    some true
def yZ (fu:Nat) (list:List Nh):Nat→List Nh→Int→Option (List Nh×Int)
  | 0,_,_=>none
  | fk + 1,out',i =>
    if decide (i<(list.length:Int)) then
      (idx list i).bind λe =>
      (aP fu e).bind λy =>
      (app out' [y]).bind λal =>
      yZ fu list fk al (w64 (i + 1))
    else
      some (out',i)
def bX (fu:Nat) (list:List Nh):Option (List Nh) :=
  (yZ fu list fu ([]:List Nh) 0).bind λz =>
  some z.1
def zn (fu:Nat) (p:Nz):Option (Nj×Bool) :=
  (bP fu p).bind λy =>
  if !y then
    some (({ Nz:=({ Nq:=({ Nx:=[],Nw:=[] }:Nq),Nk:=[] }:Nz),Ng:=[],Np:=[] }:Nj),false)
  else
    (bV fu p).bind λy2 =>
    (bX fu p.Nk).bind λy3 =>
    some (({ Nz:=y2,Ng:=y3,Np:=([]:List Int) }:Nj),true)
def vZ (fu:Nat) (n':Nq):Nat→List Int→Int→List By→Int→U64→Option (List Int×Int×List By×Int×U64)
  | 0,_,_,_,_,_=>none
  | fk + 1,out',i,m,m2,m3 =>
    if decide (i<(n'.Nw.length:Int)) then
      (vB fu ({ code:=m,at_:=m2,seed:=m3 }:Pz) 4).bind λy =>
      if y.1 then
        (app out' [i]).bind λl =>
        vZ fu n' fk l (w64 (i + 1)) y.2.code y.2.at_ y.2.seed
      else
        vZ fu n' fk out' (w64 (i + 1)) y.2.code y.2.at_ y.2.seed
    else
      some (out',i,m,m2,m3)
def x3 (fu:Nat) (c:Pz) (n':Nq):Option (List Int×Pz) :=
  (vZ fu n' fu ([]:List Int) 0 c.code c.at_ c.seed).bind λz =>
  (vB fu ({ code:=z.2.2.1,at_:=z.2.2.2.1,seed:=z.2.2.2.2 }:Pz) 40).bind λy2 =>
  if y2.1 then
    (uo fu y2.2 16).bind λy3 =>
    (app z.1 [w64 (y3.1 - 1)]).bind λl2 =>
    some (l2,y3.2)
  else
    some (z.1,y2.2)
def xS (fu:Nat) (l:List Int) (lo:Int) (hi:Int):Nat→Int→Option (Out (Int) (Bool))
  | 0,_=>none
  | fk + 1,i =>
    if decide (i<(l.length:Int)) then
      ((idx l i).bind λe =>
      (xX fu e lo hi).bind λy =>
      if !y then some true
      else if decide (i > 0) then (idx l (w64 (i - 1))).bind λe2 =>
      (idx l i).bind λe3 =>
      some (decide (e2≥e3))
      else some false).bind λc2 =>
      if c2 then
        some (.ret false)
      else
        xS fu l lo hi fk (w64 (i + 1))
    else
      some (.next i)
def bh (fu:Nat) (l:List Int) (lo:Int) (hi:Int):Option (Bool) :=
  (xS fu l lo hi fu 0).bind λout=>out.on some λz =>
  some true
def yl (fu:Nat) (list:List Nh) (id:Int):Nat→Int→Option (Out (Int) (Int))
  | 0,_=>none
  | fk + 1,i =>
    if decide (i<(list.length:Int)) then
      (idx list i).bind λe =>
      if e.Id==id then
        some (.ret i)
      else
        yl fu list id fk (w64 (i + 1))
    else
      some (.next i)
def da (fu:Nat) (list:List Nh) (id:Int):Option (Int) :=
  (yl fu list id fu 0).bind λout=>out.on some λz =>
  some (-1)
def d7 (fu:Nat) (n':Nq) (r':Nv):Option (List Int) :=
  (cE fu n' r').bind λy =>
  some y.1
def bf (fu:Nat) (n':Nq) (r':Nv):Option (Int) :=
  (d7 fu n' r').bind λy =>
  (idx y (w64 ((y.length:Int) - 1))).bind λe =>
  some e
def yj (fu:Nat) (r':Nj):Nat→Int→Option (Out (Int) (Bool))
  | 0,_=>none
  | fk + 1,i =>
    if decide (i<(r'.Nz.Nk.length:Int)) then
      (idx r'.Nz.Nk i).bind λe =>
      (da fu r'.Ng e.Id).bind λy4 =>
      (if decide (y4<0) then some true
      else (yW fu e.Nv r'.Np).bind λy5 =>
      some y5).bind λc8 =>
      if c8 then
        some (.ret false)
      else
        (idx r'.Ng y4).bind λe2 =>
        (if e.Nv.Pq != e2.Nv.Pq then some true
        else (bf fu r'.Nz.Nq e.Nv).bind λy6 =>
        (bf fu r'.Nz.Nq e2.Nv).bind λy7 =>
        if y6 != y7 then some true
        else some (e.Nd.Px != e2.Nd.Px)).bind λc10 =>
        if c10 then
          some (.ret false)
        else
          yj fu r' fk (w64 (i + 1))
    else
      some (.next i)
def cZ (fu:Nat) (r':Nj):Option (Bool) :=
  ((bP fu r'.Nz).bind λy =>
  if !y then some true
  else (bP fu ({ Nq:=r'.Nz.Nq,Nk:=r'.Ng }:Nz)).bind λy2 =>
  if !y2 then some true
  else (bh fu r'.Np 0 (w64 ((r'.Nz.Nq.Nw.length:Int) - 1))).bind λy3 =>
  some (!y3)).bind λc6 =>
  if c6 then
    some false
  else
    (yj fu r' fu 0).bind λout=>out.on some λz =>
    some true
def zy (fu:Nat) (r':Nj) (fibers:List Int):Option (Bool) :=
  ((cZ fu r').bind λy =>
  if y then (bh fu fibers 0 (w64 ((r'.Nz.Nq.Nw.length:Int) - 1))).bind λy2 =>
  some y2
  else some false).bind λc7 =>
  some c7
def aR (fu:Nat) (r':Nj):Option (Nj) :=
  (bV fu r'.Nz).bind λy =>
  (bX fu r'.Ng).bind λy2 =>
  (ax fu r'.Np).bind λy3 =>
  some ({ Nz:=y,Ng:=y2,Np:=y3 }:Nj)
def xF (fu:Nat) (r':Nj) (fibers:List Int):Nat→Int→List Int→Option (Int×List Int)
  | 0,_,_=>none
  | fk + 1,i,m =>
    if decide (i<(r'.Np.length:Int)) then
      (idx r'.Np i).bind λe =>
      (zK fu fibers e).bind λy2 =>
      if !y2 then
        (idx r'.Np i).bind λe2 =>
        (app m [e2]).bind λl =>
        xF fu r' fibers fk (w64 (i + 1)) l
      else
        xF fu r' fibers fk (w64 (i + 1)) m
    else
      some (i,m)
def az (fu:Nat) (r':Nj) (fibers:List Int):Option (Nj) :=
  (aR fu r').bind λy =>
  (xF fu r' fibers fu 0 ([]:List Int)).bind λz =>
  some ({ Nz:=y.Nz,Ng:=y.Ng,Np:=z.2 }:Nj)
def yL (fu:Nat) (p:Nz) (id:Int):Nat→Int→Option (Out (Int) (Int))
  | 0,_=>none
  | fk + 1,i =>
    if decide (i<(p.Nk.length:Int)) then
      (idx p.Nk i).bind λe =>
      if e.Id==id then
        some (.ret i)
      else
        yL fu p id fk (w64 (i + 1))
    else
      some (.next i)
def aO (fu:Nat) (p:Nz) (id:Int):Option (Int) :=
  (yL fu p id fu 0).bind λout=>out.on some λz =>
  some (-1)
def xq (fu:Nat) (r':Nj):Nat→List Int→Int→Option (List Int×Int)
  | 0,_,_=>none
  | fk + 1,out',i =>
    if decide (i<(r'.Ng.length:Int)) then
      (idx r'.Ng i).bind λe =>
      (aO fu r'.Nz e.Id).bind λy =>
      if decide (y<0) then
        (app out' [i]).bind λl =>
        xq fu r' fk l (w64 (i + 1))
      else
        xq fu r' fk out' (w64 (i + 1))
    else
      some (out',i)
def cm (fu:Nat) (r':Nj):Option (List Int) :=
  (xq fu r' fu ([]:List Int) 0).bind λz =>
  some z.1
def dN (fu:Nat) (n':Nq) (from':Int) (to:Int):Option (Bool) :=
  ((bQ fu n').bind λy =>
  if y then (xX fu from' 0 (w64 ((n'.Nx.length:Int) - 1))).bind λy2 =>
  if y2 then (xX fu to 0 (w64 ((n'.Nx.length:Int) - 1))).bind λy3 =>
  if y3 then some (from' != to)
  else some false
  else some false
  else some false).bind λc3 =>
  some c3
def yv (fu:Nat) (n':Nq) (r':Nv):Nat→Int→Int→Option (Int×Int)
  | 0,_,_=>none
  | fk + 1,sum,i =>
    if decide (i<(r'.Nw.length:Int)) then
      (idx r'.Nw i).bind λe =>
      (idx n'.Nw e).bind λe2 =>
      yv fu n' r' fk (w64 (sum + e2.Pk)) (w64 (i + 1))
    else
      some (sum,i)
def bc (fu:Nat) (n':Nq) (r':Nv):Option (Int) :=
  (yv fu n' r' fu 0 0).bind λz =>
  some z.1
def aQ (fu:Nat) (x1:Int):Option (Int) :=
  if decide (x1<0) then
    some (-1)
  else
    if decide (x1 > 0) then
      some 1
    else
      some 0
def xZ (fu:Nat) (a':Nv) (b':Nv):Nat→Int→Option (Out (Int) (Int))
  | 0,_=>none
  | fk + 1,i =>
    if decide (i<(a'.Nw.length:Int)) then
      (idx a'.Nw i).bind λe =>
      (idx b'.Nw i).bind λe2 =>
      if e != e2 then
        (idx a'.Nw i).bind λe3 =>
        (idx b'.Nw i).bind λe4 =>
        (aQ fu (w64 (e3 - e4))).bind λy5 =>
        some (.ret y5)
      else
        xZ fu a' b' fk (w64 (i + 1))
    else
      some (.next i)
def bE (fu:Nat) (n':Nq) (a':Nv) (b':Nv):Option (Int) :=
  (bc fu n' a').bind λy =>
  (bc fu n' b').bind λy2 =>
  if (w64 (y - y2)) != 0 then
    (aQ fu (w64 (y - y2))).bind λy3 =>
    some y3
  else
    if (w64 ((a'.Nw.length:Int) - (b'.Nw.length:Int))) != 0 then
      (aQ fu (w64 ((a'.Nw.length:Int) - (b'.Nw.length:Int)))).bind λy4 =>
      some y4
    else
      (xZ fu a' b' fu 0).bind λout=>out.on some λz =>
      (aQ fu (w64 (a'.Pq - b'.Pq))).bind λy6 =>
      some y6
def xn (fu:Nat) (x1:Ph) (r':Nv):Nat→Int→Option (Int)
  | 0,_=>none
  | fk + 1,i =>
    (if decide (i > 0) then (idx x1.list (w64 (i - 1))).bind λe =>
    (bE fu x1.n r' e).bind λy =>
    some (decide (y<0))
    else some false).bind λc5 =>
    if c5 then
      xn fu x1 r' fk (w64 (i - 1))
    else
      some i
def zJ (fu:Nat) (x1:Ph) (r':Nv):Option (Ph) :=
  (xn fu x1 r' fu (x1.list.length:Int)).bind λz =>
  (sub x1.list 0 z).bind λl =>
  (sub x1.list z (x1.list.length:Int)).bind λl2 =>
  (app ([]:List Nv) l).bind λl3 =>
  (app l3 [r']).bind λl4 =>
  (app l4 l2).bind λl5 =>
  some ({ n:=x1.n,to:=x1.to,list:=l5 }:Ph)
def vh (fu:Nat) (r':Nv) (seen:List Int) (rec_:(Ph)→(Nv)→(List Int)→Option (Ph)) (e:Int):Nat→Int→List ByteArray→List Nt→Int→List Nv→Option (Int×List ByteArray×List Nt×Int×List Nv)
  | 0,_,_,_,_,_=>none
  | fk + 1,i,m,m2,m3,m4 =>
    (if decide (i<(m2.length:Int)) then some (decide ((m4.length:Int)≤200))
    else some false).bind λc12 =>
    if c12 then
      (yh fu ({ Nx:=m,Nw:=m2 }:Nq) i e).bind λy2 =>
      (if decide (y2≥0) then (zK fu seen y2).bind λy3 =>
      some (!y3)
      else some false).bind λc13 =>
      if c13 then
        (ax fu r'.Nw).bind λy4 =>
        (app y4 [i]).bind λl =>
        (ax fu seen).bind λy5 =>
        (app y5 [y2]).bind λl2 =>
        (rec_ ({ n:=({ Nx:=m,Nw:=m2 }:Nq),to:=m3,list:=m4 }:Ph) ({ Pq:=r'.Pq,Nw:=l }:Nv) l2).bind λy6 =>
        vh fu r' seen rec_ e fk (w64 (i + 1)) y6.n.Nx y6.n.Nw y6.to y6.list
      else
        vh fu r' seen rec_ e fk (w64 (i + 1)) m m2 m3 m4
    else
      some (i,m,m2,m3,m4)
def zc (fu:Nat) (rec_:(Ph)→(Nv)→(List Int)→Option (Ph)) (x1:Ph) (r':Nv) (seen:List Int):Option (Ph) :=
  (idx seen (w64 ((seen.length:Int) - 1))).bind λe =>
  if e==x1.to then
    (zJ fu x1 r').bind λy =>
    some y
  else
    (vh fu r' seen rec_ e fu 0 x1.n.Nx x1.n.Nw x1.to x1.list).bind λz =>
    some ({ n:=({ Nx:=z.2.1,Nw:=z.2.2.1 }:Nq),to:=z.2.2.2.1,list:=z.2.2.2.2 }:Ph)
def vn:Nat→(Ph)→(Nv)→(List Int)→Option (Ph)
  | 0,_,_,_=>none
  | fu + 1,x1,r',seen=>zc fu (λx1 r' seen=>vn fu x1 r' seen) x1 r' seen
def ew (fu:Nat) (n':Nq) (from':Int) (to:Int):Option (List Nv×Bool) :=
  (vn fu ({ n:=n',to:=to,list:=[] }:Ph) ({ Pq:=from',Nw:=[] }:Nv) [from']).bind λy =>
  if decide ((y.list.length:Int) > 200) then
    some (([]:List Nv),false)
  else
    (app ([]:List Nv) y.list).bind λl =>
    some (l,true)
def aA (fu:Nat) (n':Nq) (from':Int) (to:Int):Option (List Nv×Bool) :=
  (dN fu n' from' to).bind λy =>
  if !y then
    some (([]:List Nv),false)
  else
    (ew fu n' from' to).bind λy2 =>
    some (y2.1,y2.2)
def xA (fu:Nat) (r':Nj) (home:Nh) (y6:List Nv×Bool):Nat→Int→Option (Out (Int) (Nh×Bool))
  | 0,_=>none
  | fk + 1,i =>
    (if decide (i<(y6.1.length:Int)) then some y6.2
    else some false).bind λc10 =>
    if c10 then
      (idx y6.1 i).bind λe =>
      (yW fu e r'.Np).bind λy7 =>
      if y7 then
        xA fu r' home y6 fk (w64 (i + 1))
      else
        (idx y6.1 i).bind λe2 =>
        (z6 fu r'.Nz e2).bind λy8 =>
        (cD fu y8 home.Nd.Px).bind λy9 =>
        if decide ((y9.length:Int) > 0) then
          (idx y6.1 i).bind λe3 =>
          (idx y9 0).bind λe4 =>
          (cF fu e3).bind λy10 =>
          some (.ret (({ Id:=home.Id,Nv:=y10,Nd:=({ Pj:=e4,Px:=home.Nd.Px }:Nd) }:Nh),true))
        else
          xA fu r' home y6 fk (w64 (i + 1))
    else
      some (.next i)
def cn (fu:Nat) (r':Nj) (home:Nh):Option (Nh×Bool) :=
  ((yW fu home.Nv r'.Np).bind λy =>
  if !y then (z6 fu r'.Nz home.Nv).bind λy2 =>
  (yV fu home.Nd).bind λy3 =>
  some ((band y2 y3)==0)
  else some false).bind λc7 =>
  if c7 then
    (aP fu home).bind λy4 =>
    some (y4,true)
  else
    (bf fu r'.Nz.Nq home.Nv).bind λy5 =>
    (aA fu r'.Nz.Nq home.Nv.Pq y5).bind λy6 =>
    (xA fu r' home y6 fu 0).bind λout=>out.on some λz =>
    some (({ Id:=0,Nv:=({ Pq:=0,Nw:=[] }:Nv),Nd:=({ Pj:=0,Px:=0 }:Nd) }:Nh),false)
def zR (fu:Nat) (r':Nj) (i:Int):Option (Nj×Bool) :=
  (idx r'.Ng i).bind λe =>
  (cn fu r' e).bind λy =>
  (aR fu r').bind λy2 =>
  if y.2 then
    (ba fu y2.Nz y.1).bind λy3 =>
    some (({ Nz:=y3,Ng:=y2.Ng,Np:=y2.Np }:Nj),y.2)
  else
    some (y2,y.2)
def yf (fu:Nat) (r':Nj) (y2:List Int):Nat→List Int→Int→List ByteArray→List Nt→List Nh→List Nh→List Int→Option (List Int×Int×List ByteArray×List Nt×List Nh×List Nh×List Int)
  | 0,_,_,_,_,_,_,_=>none
  | fk + 1,ids,i,m,m2,m3,m4,m5 =>
    if decide (i<(y2.length:Int)) then
      (idx y2 i).bind λe =>
      (zR fu ({ Nz:=({ Nq:=({ Nx:=m,Nw:=m2 }:Nq),Nk:=m3 }:Nz),Ng:=m4,Np:=m5 }:Nj) e).bind λy3 =>
      if y3.2 then
        (idx y2 i).bind λe2 =>
        (idx r'.Ng e2).bind λe3 =>
        (app ids [e3.Id]).bind λl =>
        yf fu r' y2 fk l (w64 (i + 1)) y3.1.Nz.Nq.Nx y3.1.Nz.Nq.Nw y3.1.Nz.Nk y3.1.Ng y3.1.Np
      else
        yf fu r' y2 fk ids (w64 (i + 1)) y3.1.Nz.Nq.Nx y3.1.Nz.Nq.Nw y3.1.Nz.Nk y3.1.Ng y3.1.Np
    else
      some (ids,i,m,m2,m3,m4,m5)
def aU (fu:Nat) (r':Nj):Option (Nj×List Int) :=
  (aR fu r').bind λy =>
  (cm fu r').bind λy2 =>
  (yf fu r' y2 fu ([]:List Int) 0 y.Nz.Nq.Nx y.Nz.Nq.Nw y.Nz.Nk y.Ng y.Np).bind λz =>
  some (({ Nz:=({ Nq:=({ Nx:=z.2.2.1,Nw:=z.2.2.2.1 }:Nq),Nk:=z.2.2.2.2.1 }:Nz),Ng:=z.2.2.2.2.2.1,Np:=z.2.2.2.2.2.2 }:Nj),z.1)
def ac (fu:Nat) (l:List Int) (n':Int):Nat→Int→Option (Int)
  | 0,_=>none
  | fk + 1,k' =>
    (if decide (k'<(l.length:Int)) then (idx l k').bind λe =>
    some (decide (e<n'))
    else some false).bind λc2 =>
    if c2 then
      ac fu l n' fk (w64 (k' + 1))
    else
      some k'
def ey (fu:Nat) (l:List Int) (n':Int):Option (List Int) :=
  (ac fu l n' fu 0).bind λz =>
  (if decide (z<(l.length:Int)) then (idx l z).bind λe2 =>
  some (e2==n')
  else some false).bind λc3 =>
  if c3 then
    some l
  else
    (sub l 0 z).bind λl2 =>
    (sub l z (l.length:Int)).bind λl3 =>
    (app ([]:List Int) l2).bind λl4 =>
    (app l4 [n']).bind λl5 =>
    (app l5 l3).bind λl6 =>
    some l6
def aw (fu:Nat) (p:Nz) (i:Int):Option (Nz) :=
  (bV fu p).bind λy =>
  (sub y.Nk 0 i).bind λl =>
  (sub y.Nk (w64 (i + 1)) (y.Nk.length:Int)).bind λl2 =>
  (app ([]:List Nh) l).bind λl3 =>
  (app l3 l2).bind λl4 =>
  some ({ Nq:=y.Nq,Nk:=l4 }:Nz)
def yY (fu:Nat) (fibers:List Int):Nat→Int→List Int→Option (Int×List Int)
  | 0,_,_=>none
  | fk + 1,i,m =>
    if decide (i<(fibers.length:Int)) then
      (idx fibers i).bind λe =>
      (ey fu m e).bind λy2 =>
      yY fu fibers fk (w64 (i + 1)) y2
    else
      some (i,m)
def xL (fu:Nat) (r':Nj) (fibers:List Int):Nat→List Int→Int→List ByteArray→List Nt→List Nh→Option (List Int×Int×List ByteArray×List Nt×List Nh)
  | 0,_,_,_,_,_=>none
  | fk + 1,lost,i3,m3,m4,m5 =>
    if decide (i3<(r'.Nz.Nk.length:Int)) then
      (idx r'.Nz.Nk i3).bind λe2 =>
      (yW fu e2.Nv fibers).bind λy3 =>
      if y3 then
        (app lost [e2.Id]).bind λl =>
        (aO fu ({ Nq:=({ Nx:=m3,Nw:=m4 }:Nq),Nk:=m5 }:Nz) e2.Id).bind λy4 =>
        (aw fu ({ Nq:=({ Nx:=m3,Nw:=m4 }:Nq),Nk:=m5 }:Nz) y4).bind λy5 =>
        xL fu r' fibers fk l (w64 (i3 + 1)) y5.Nq.Nx y5.Nq.Nw y5.Nk
      else
        xL fu r' fibers fk lost (w64 (i3 + 1)) m3 m4 m5
    else
      some (lost,i3,m3,m4,m5)
def aT (fu:Nat) (r':Nj) (fibers:List Int):Option (Nj×List Int) :=
  (aR fu r').bind λy =>
  (yY fu fibers fu 0 y.Np).bind λz2 =>
  (xL fu r' fibers fu ([]:List Int) 0 y.Nz.Nq.Nx y.Nz.Nq.Nw y.Nz.Nk).bind λz =>
  some (({ Nz:=({ Nq:=({ Nx:=z.2.2.1,Nw:=z.2.2.2.1 }:Nq),Nk:=z.2.2.2.2 }:Nz),Ng:=y.Ng,Np:=z2.2 }:Nj),z.1)
def uK (fu:Nat):Nat→Int→List By→Int→U64→List ByteArray→List Nt→List Nh→List Nh→List Int→Option (Int×List By×Int×U64×List ByteArray×List Nt×List Nh×List Nh×List Int)
  | 0,_,_,_,_,_,_,_,_,_=>none
  | fk + 1,k',m,m2,m3,m4,m5,m6,m7,m8 =>
    if decide (k' > 0) then
      (x3 fu ({ code:=m,at_:=m2,seed:=m3 }:Pz) ({ Nx:=m4,Nw:=m5 }:Nq)).bind λy4 =>
      (zy fu ({ Nz:=({ Nq:=({ Nx:=m4,Nw:=m5 }:Nq),Nk:=m6 }:Nz),Ng:=m7,Np:=m8 }:Nj) y4.1).bind λy5 =>
      if !y5 then
        uK fu fk (w64 (k' - 1)) y4.2.code y4.2.at_ y4.2.seed m4 m5 m6 m7 m8
      else
        (vB fu y4.2 4).bind λy6 =>
        if y6.1 then
          (az fu ({ Nz:=({ Nq:=({ Nx:=m4,Nw:=m5 }:Nq),Nk:=m6 }:Nz),Ng:=m7,Np:=m8 }:Nj) y4.1).bind λy7 =>
          (vB fu y6.2 2).bind λy8 =>
          if y8.1 then
            (aU fu y7).bind λy9 =>
            uK fu fk (w64 (k' - 1)) y8.2.code y8.2.at_ y8.2.seed y9.1.Nz.Nq.Nx y9.1.Nz.Nq.Nw y9.1.Nz.Nk y9.1.Ng y9.1.Np
          else
            uK fu fk (w64 (k' - 1)) y8.2.code y8.2.at_ y8.2.seed y7.Nz.Nq.Nx y7.Nz.Nq.Nw y7.Nz.Nk y7.Ng y7.Np
        else
          (aT fu ({ Nz:=({ Nq:=({ Nx:=m4,Nw:=m5 }:Nq),Nk:=m6 }:Nz),Ng:=m7,Np:=m8 }:Nj) y4.1).bind λy10 =>
          (vB fu y6.2 2).bind λy11 =>
          if y11.1 then
            (aU fu y10.1).bind λy12 =>
            uK fu fk (w64 (k' - 1)) y11.2.code y11.2.at_ y11.2.seed y12.1.Nz.Nq.Nx y12.1.Nz.Nq.Nw y12.1.Nz.Nk y12.1.Ng y12.1.Np
          else
            uK fu fk (w64 (k' - 1)) y11.2.code y11.2.at_ y11.2.seed y10.1.Nz.Nq.Nx y10.1.Nz.Nq.Nw y10.1.Nz.Nk y10.1.Ng y10.1.Np
    else
      some (k',m,m2,m3,m4,m5,m6,m7,m8)
def xY (fu:Nat) (c:Pz):Option (Nj×Pz) :=
  (zN fu c).bind λy =>
  (zn fu y.1).bind λy2 =>
  (uo fu y.2 4).bind λy3 =>
  (uK fu fu y3.1 y3.2.code y3.2.at_ y3.2.seed y2.1.Nz.Nq.Nx y2.1.Nz.Nq.Nw y2.1.Nz.Nk y2.1.Ng y2.1.Np).bind λz =>
  some (({ Nz:=({ Nq:=({ Nx:=z.2.2.2.2.1,Nw:=z.2.2.2.2.2.1 }:Nq),Nk:=z.2.2.2.2.2.2.1 }:Nz),Ng:=z.2.2.2.2.2.2.2.1,Np:=z.2.2.2.2.2.2.2.2 }:Nj),({ code:=z.2.1,at_:=z.2.2.1,seed:=z.2.2.2.1 }:Pz))
def xw (fu:Nat) (c:Pz):Option (Nj×Pz) :=
  (xY fu c).bind λy =>
  (uo fu y.2 30).bind λy2 =>
  if y2.1==0 then
    (uo fu y2.2 16).bind λy3 =>
    (app y.1.Np [w64 (y3.1 - 1)]).bind λl =>
    some (({ Nz:=y.1.Nz,Ng:=y.1.Ng,Np:=l }:Nj),y3.2)
  else
    if y2.1==1 then
      (zm fu y2.2).bind λy4 =>
      some (({ Nz:=y4.1,Ng:=y.1.Ng,Np:=y.1.Np }:Nj),y4.2)
    else
      if y2.1==2 then
        if decide ((y.1.Ng.length:Int) > 0) then
          (sub y.1.Ng 1 (y.1.Ng.length:Int)).bind λl2 =>
          some (({ Nz:=y.1.Nz,Ng:=l2,Np:=y.1.Np }:Nj),y2.2)
        else
          some (y.1,y2.2)
      else
        if y2.1==3 then
          if decide ((y.1.Nz.Nk.length:Int) > 0) then
            (idx y.1.Nz.Nk 0).bind λe =>
            (uo fu y2.2 3).bind λy5 =>
            (idx y.1.Nz.Nk 0).bind λe2 =>
            some (({ Nz:=({ Nq:=y.1.Nz.Nq,Nk:=y.1.Nz.Nk.set (0:Int).toNat ({ Id:=e.Id,Nv:=e.Nv,Nd:=({ Pj:=e.Nd.Pj,Px:=w64 (1 + y5.1) }:Nd) }:Nh) }:Nz),Ng:=y.1.Ng,Np:=y.1.Np }:Nj),y5.2)
          else
            some (y.1,y2.2)
        else
          some (y.1,y2.2)
def xo (fu:Nat) (n':Int) (low:Int) (high:Int):Option (Bool) :=
  (if decide (low≤n') then some (decide (n'≤high))
  else some false).bind λc =>
  some c
def xy (fu:Nat) (s':ByteArray):Nat→Int→Option (Out (Int) (Bool))
  | 0,_=>none
  | fk + 1,i =>
    if decide (i<(s'.size:Int)) then
      (sidx s' i).bind λe =>
      (sidx s' i).bind λe2 =>
      if decide (e.n≥97) then (sidx s' i).bind λe3 =>
      if decide (e2.n≥48) then (sidx s' i).bind λe4 =>
      (if !(decide (e3.n≤122)) then if !(decide (e4.n≤57)) then some true
      else some (i==0)
      else some false).bind λc =>
      if c then
        some (.ret false)
      else
        xy fu s' fk (w64 (i + 1))
      else (if !(decide (e3.n≤122)) then if !false then some true
      else some (i==0)
      else some false).bind λc2 =>
      if c2 then
        some (.ret false)
      else
        xy fu s' fk (w64 (i + 1))
      else if decide (e2.n≥48) then (sidx s' i).bind λe5 =>
      (if !false then if !(decide (e5.n≤57)) then some true
      else some (i==0)
      else some false).bind λc3 =>
      if c3 then
        some (.ret false)
      else
        xy fu s' fk (w64 (i + 1))
      else (if !false then if !false then some true
      else some (i==0)
      else some false).bind λc4 =>
      if c4 then
        some (.ret false)
      else
        xy fu s' fk (w64 (i + 1))
    else
      some (.next i)
def dZ (fu:Nat) (s':ByteArray):Option (Bool) :=
  (xy fu s' fu 0).bind λout=>out.on some λz =>
  (xo fu (s'.size:Int) 1 8).bind λy =>
  some y
def u7 (fu:Nat) (s':List ByteArray) (v:ByteArray):Nat→Int→Option (Out (Int) (Int))
  | 0,_=>none
  | fk + 1,i =>
    if decide (i<(s'.length:Int)) then
      (idx s' i).bind λe =>
      if v.toList==e.toList then
        some (.ret i)
      else
        u7 fu s' v fk (w64 (i + 1))
    else
      some (.next i)
def xm (fu:Nat) (s':List ByteArray) (v:ByteArray):Option (Int) :=
  (u7 fu s' v fu 0).bind λout=>out.on some λz =>
  some (-1)
def vY (fu:Nat) (s':List ByteArray) (v:ByteArray):Option (Bool) :=
  (xm fu s' v).bind λy =>
  some (decide (y≥0))
def cmp_isNaN_int (fu:Nat) (x1:Int):Option (Bool) :=
  some (x1 != x1)
def cmp_Compare_int (fu:Nat) (x1:Int) (y:Int):Option (Int) :=
  (cmp_isNaN_int fu x1).bind λy2 =>
  (cmp_isNaN_int fu y).bind λy3 =>
  if y2 then
    if y3 then
      some 0
    else
      some (-1)
  else
    if y3 then
      some 1
    else
      if decide (x1<y) then
        some (-1)
      else
        if decide (x1 > y) then
          some 1
        else
          some 0
def zu (fu:Nat) (vals:List Int):Nat→Int→Option (Out (Int) (Int))
  | 0,_=>none
  | fk + 1,i =>
    if decide (i<(vals.length:Int)) then
      (idx vals i).bind λe =>
      if e != 0 then
        some (.ret e)
      else
        zu fu vals fk (w64 (i + 1))
    else
      some (.next i)
def dH (fu:Nat) (vals:List Int):Option (Int) :=
  (zu fu vals fu 0).bind λout=>out.on some λz =>
  some 0
def zr (fu:Nat) (a':Nt) (b':Nt):Option (Int) :=
  (cmp_Compare_int fu a'.A b'.A).bind λy =>
  (cmp_Compare_int fu a'.B b'.B).bind λy2 =>
  (cmp_Compare_int fu a'.Pk b'.Pk).bind λy3 =>
  (cmp_Compare_int fu a'.Pg b'.Pg).bind λy4 =>
  (dH fu [y,y2,y3,y4]).bind λy5 =>
  some y5
def vG (fu:Nat) (n':Nq):Nat→Int→Option (Out (Int) (Bool))
  | 0,_=>none
  | fk + 1,i =>
    if decide (i<(n'.Nx.length:Int)) then
      (idx n'.Nx i).bind λe =>
      ((dZ fu e).bind λy =>
      if !y then some true
      else (sub n'.Nx 0 i).bind λl =>
      (vY fu l e).bind λy2 =>
      some y2).bind λc3 =>
      if c3 then
        some (.ret false)
      else
        vG fu n' fk (w64 (i + 1))
    else
      some (.next i)
def vF (fu:Nat) (n':Nq):Nat→Int→Option (Out (Int) (Bool))
  | 0,_=>none
  | fk + 1,i3 =>
    if decide (i3<(n'.Nw.length:Int)) then
      (idx n'.Nw i3).bind λe2 =>
      (if decide (e2.A<0) then some true
      else if decide (e2.A≥e2.B) then some true
      else if decide (e2.B≥(n'.Nx.length:Int)) then some true
      else (xo fu e2.Pk 1 5000).bind λy3 =>
      if !y3 then some true
      else (xo fu e2.Pg 0 9).bind λy4 =>
      if !y4 then some true
      else if decide (i3 > 0) then (idx n'.Nw (w64 (i3 - 1))).bind λe3 =>
      (zr fu e3 e2).bind λy5 =>
      some (decide (y5 > 0))
      else some false).bind λc5 =>
      if c5 then
        some (.ret false)
      else
        vF fu n' fk (w64 (i3 + 1))
    else
      some (.next i3)
def x9 (fu:Nat) (n':Nq):Option (Bool) :=
  (vG fu n' fu 0).bind λout=>out.on some λz2 =>
  (vF fu n' fu 0).bind λout=>out.on some λz =>
  ((xo fu (n'.Nx.length:Int) 2 8).bind λy6 =>
  if y6 then some (decide ((n'.Nw.length:Int)≤14))
  else some false).bind λc6 =>
  some c6
def cr (fu:Nat) (f:Nt) (node:Int):Option (Int) :=
  if node==f.A then
    some f.B
  else
    if node==f.B then
      some f.A
    else
      some (-1)
def vu (fu:Nat) (s':List Int) (v:Int):Nat→Int→Option (Out (Int) (Int))
  | 0,_=>none
  | fk + 1,i =>
    if decide (i<(s'.length:Int)) then
      (idx s' i).bind λe =>
      if v==e then
        some (.ret i)
      else
        vu fu s' v fk (w64 (i + 1))
    else
      some (.next i)
def yB (fu:Nat) (s':List Int) (v:Int):Option (Int) :=
  (vu fu s' v fu 0).bind λout=>out.on some λz =>
  some (-1)
def vv (fu:Nat) (s':List Int) (v:Int):Option (Bool) :=
  (yB fu s' v).bind λy =>
  some (decide (y≥0))
def zb (fu:Nat) (n':Nq) (r':Nv):Nat→List Int→Int→Int→Option (Out (List Int×Int×Int) (List Int×Bool))
  | 0,_,_,_=>none
  | fk + 1,out',at',i =>
    if decide (i<(r'.Nw.length:Int)) then
      (idx r'.Nw i).bind λe =>
      (xo fu e 0 (w64 ((n'.Nw.length:Int) - 1))).bind λy2 =>
      if !y2 then
        some (.ret ([],false))
      else
        (idx n'.Nw e).bind λe2 =>
        (cr fu e2 at').bind λy3 =>
        (if decide (y3<0) then some true
        else (vv fu out' y3).bind λy4 =>
        some y4).bind λc6 =>
        if c6 then
          some (.ret ([],false))
        else
          (app out' [y3]).bind λl =>
          zb fu n' r' fk l y3 (w64 (i + 1))
    else
      some (.next (out',at',i))
def cc (fu:Nat) (n':Nq) (r':Nv):Option (List Int×Bool) :=
  ((xo fu r'.Pq 0 (w64 ((n'.Nx.length:Int) - 1))).bind λy =>
  if !y then some true
  else some ((r'.Nw.length:Int)==0)).bind λc4 =>
  if c4 then
    some ([],false)
  else
    (zb fu n' r' fu [r'.Pq] r'.Pq 0).bind λout=>out.on some λz =>
    some (z.1,true)
def zX (fu:Nat) (b':Nd):Option (Bool) :=
  (if decide (b'.Pj≥0) then (xo fu b'.Px 1 24).bind λy =>
  if y then some (decide (b'.Pj≤(w64 (24 - b'.Px))))
  else some false
  else some false).bind λc =>
  some c
def dj (fu:Nat) (n':Nq) (x1:Nh):Option (Bool) :=
  (cc fu n' x1.Nv).bind λy =>
  (if y.2 then (xo fu x1.Id 1 999).bind λy2 =>
  if y2 then (zX fu x1.Nd).bind λy3 =>
  some y3
  else some false
  else some false).bind λc5 =>
  some c5
def aX (fu:Nat) (b':Nd):Option (Int) :=
  (shl 1 b'.Px).bind λq =>
  (shl (w64 (q - 1)) b'.Pj).bind λq2 =>
  some q2
def x4 (fu:Nat) (x:List Int):Option (List Int):=rZ x
def xv (fu:Nat) (x:List Int):Option (List Int):=some (i8 x)
def yS (fu:Nat) (a':List Int) (b':List Int):Nat→List Int→Int→Option (List Int×Int)
  | 0,_,_=>none
  | fk + 1,out',i =>
    if decide (i<(a'.length:Int)) then
      (idx a' i).bind λe =>
      (vv fu b' e).bind λy =>
      if y then
        (app out' [e]).bind λl =>
        yS fu a' b' fk l (w64 (i + 1))
      else
        yS fu a' b' fk out' (w64 (i + 1))
    else
      some (out',i)
def zD (fu:Nat) (a':List Int) (b':List Int):Option (List Int) :=
  (yS fu a' b' fu ([]:List Int) 0).bind λz =>
  (x4 fu z.1).bind λy2 =>
  (xv fu y2).bind λy3 =>
  some y3
def cd (fu:Nat) (a':Nh) (b':Nh):Option (Bool) :=
  ((aX fu a'.Nd).bind λy =>
  (aX fu b'.Nd).bind λy2 =>
  if (band y y2) != 0 then (zD fu a'.Nv.Nw b'.Nv.Nw).bind λy3 =>
  some (decide ((y3.length:Int) > 0))
  else some false).bind λc3 =>
  some c3
def am (fu:Nat) (own:Nh) (cap:Nh):Option (Bool) :=
  (cd fu own cap).bind λy =>
  some y
def uq (fu:Nat) (s':List Nh) (cap:Nh):Nat→Int→Option (Out (Int) (Int))
  | 0,_=>none
  | fk + 1,i =>
    if decide (i<(s'.length:Int)) then
      (idx s' i).bind λe =>
      (am fu e cap).bind λy =>
      if y then
        some (.ret i)
      else
        uq fu s' cap fk (w64 (i + 1))
    else
      some (.next i)
def uP (fu:Nat) (s':List Nh) (cap:Nh):Option (Int) :=
  (uq fu s' cap fu 0).bind λout=>out.on some λz =>
  some (-1)
def uA (fu:Nat) (s':List Nh) (cap:Nh):Option (Bool) :=
  (uP fu s' cap).bind λy =>
  some (decide (y≥0))
def xf (fu:Nat) (p:Nz):Nat→Int→Option (Out (Int) (Bool))
  | 0,_=>none
  | fk + 1,i =>
    if decide (i<(p.Nk.length:Int)) then
      (idx p.Nk i).bind λe =>
      ((dj fu p.Nq e).bind λy2 =>
      if !y2 then some true
      else if decide (i > 0) then (idx p.Nk (w64 (i - 1))).bind λe2 =>
      if decide (e2.Id≥e.Id) then some true
      else (sub p.Nk 0 i).bind λl =>
      (uA fu l e).bind λy3 =>
      some y3
      else (sub p.Nk 0 i).bind λl2 =>
      (uA fu l2 e).bind λy4 =>
      some y4).bind λc6 =>
      if c6 then
        some (.ret false)
      else
        xf fu p fk (w64 (i + 1))
    else
      some (.next i)
def zh (fu:Nat) (p:Nz):Option (Bool) :=
  ((x9 fu p.Nq).bind λy =>
  if !y then some true
  else some (decide ((p.Nk.length:Int) > 12))).bind λc4 =>
  if c4 then
    some false
  else
    (xf fu p fu 0).bind λout=>out.on some λz =>
    some true
def zo (fu:Nat) (l:List Int) (n':Int):Nat→Int→Option (Out (Int) (Bool))
  | 0,_=>none
  | fk + 1,i =>
    if decide (i<(l.length:Int)) then
      (idx l i).bind λe =>
      ((xo fu e 0 (w64 (n' - 1))).bind λy =>
      if !y then some true
      else if decide (i > 0) then (idx l (w64 (i - 1))).bind λe2 =>
      some (decide (e2≥e))
      else some false).bind λc2 =>
      if c2 then
        some (.ret false)
      else
        zo fu l n' fk (w64 (i + 1))
    else
      some (.next i)
def dG (fu:Nat) (l:List Int) (n':Int):Option (Bool) :=
  (zo fu l n' fu 0).bind λout=>out.on some λz =>
  some true
def cU (fu:Nat) (x1:Nh) (cap:Int):Option (Bool) :=
  some (x1.Id==cap)
def uv (fu:Nat) (s':List Nh) (cap:Int):Nat→Int→Option (Out (Int) (Int))
  | 0,_=>none
  | fk + 1,i =>
    if decide (i<(s'.length:Int)) then
      (idx s' i).bind λe =>
      (cU fu e cap).bind λy =>
      if y then
        some (.ret i)
      else
        uv fu s' cap fk (w64 (i + 1))
    else
      some (.next i)
def uX (fu:Nat) (s':List Nh) (cap:Int):Option (Int) :=
  (uv fu s' cap fu 0).bind λout=>out.on some λz =>
  some (-1)
def cK (fu:Nat) (r':Nj) (id:Int):Option (Int) :=
  (uX fu r'.Ng id).bind λy =>
  some y
def cL (fu:Nat) (n':Nq) (r':Nv):Option (Int) :=
  (cc fu n' r').bind λy =>
  (idx y.1 (w64 ((y.1.length:Int) - 1))).bind λe =>
  some e
def xW (fu:Nat) (x1:Nh) (cap:Nj) (cap2:Nq):Option (Bool) :=
  (cK fu cap x1.Id).bind λy =>
  (if decide (y<0) then some true
  else (zD fu x1.Nv.Nw cap.Np).bind λy2 =>
  some (decide ((y2.length:Int) > 0))).bind λc9 =>
  if c9 then
    some true
  else
    (idx cap.Ng y).bind λe =>
    (if e.Nv.Pq != x1.Nv.Pq then some true
    else (cL fu cap2 e.Nv).bind λy3 =>
    (cL fu cap2 x1.Nv).bind λy4 =>
    if y3 != y4 then some true
    else some (e.Nd.Px != x1.Nd.Px)).bind λc12 =>
    some c12
def uk (fu:Nat) (s':List Nh) (cap:Nj) (cap2:Nq):Nat→Int→Option (Out (Int) (Int))
  | 0,_=>none
  | fk + 1,i =>
    if decide (i<(s'.length:Int)) then
      (idx s' i).bind λe =>
      (xW fu e cap cap2).bind λy =>
      if y then
        some (.ret i)
      else
        uk fu s' cap cap2 fk (w64 (i + 1))
    else
      some (.next i)
def uH (fu:Nat) (s':List Nh) (cap:Nj) (cap2:Nq):Option (Int) :=
  (uk fu s' cap cap2 fu 0).bind λout=>out.on some λz =>
  some (-1)
def uF (fu:Nat) (s':List Nh) (cap:Nj) (cap2:Nq):Option (Bool) :=
  (uH fu s' cap cap2).bind λy =>
  some (decide (y≥0))
def uQ (fu:Nat) (r':Nj):Option (Bool) :=
  ((zh fu r'.Nz).bind λy =>
  if !y then some true
  else (zh fu ({ Nq:=r'.Nz.Nq,Nk:=r'.Ng }:Nz)).bind λy2 =>
  if !y2 then some true
  else (dG fu r'.Np (r'.Nz.Nq.Nw.length:Int)).bind λy3 =>
  some (!y3)).bind λc6 =>
  if c6 then
    some false
  else
    (uF fu r'.Nz.Nk r' r'.Nz.Nq).bind λy4 =>
    some (!y4)
def bO (fu:Nat) (n':Nq):Option (Nq) :=
  (app ([]:List ByteArray) n'.Nx).bind λl =>
  (app ([]:List Nt) n'.Nw).bind λl2 =>
  some ({ Nx:=l,Nw:=l2 }:Nq)
def aC (fu:Nat) (r':Nv):Option (Nv) :=
  (app ([]:List Int) r'.Nw).bind λl =>
  some ({ Pq:=r'.Pq,Nw:=l }:Nv)
def yz (fu:Nat) (p:Nz):Nat→Int→List Nh→Option (Int×List Nh)
  | 0,_,_=>none
  | fk + 1,i,m =>
    if decide (i<(p.Nk.length:Int)) then
      (idx p.Nk i).bind λe =>
      (aC fu e.Nv).bind λy2 =>
      (app m [({ Id:=e.Id,Nv:=y2,Nd:=e.Nd }:Nh)]).bind λal =>
      yz fu p fk (w64 (i + 1)) al
    else
      some (i,m)
def ak (fu:Nat) (p:Nz):Option (Nz) :=
  (bO fu p.Nq).bind λy =>
  (yz fu p fu 0 ([]:List Nh)).bind λz =>
  some ({ Nq:=y,Nk:=z.2 }:Nz)
def dA (fu:Nat) (l:List Int):Option (List Int) :=
  (app ([]:List Int) l).bind λl2 =>
  some l2
def xa (fu:Nat) (r':Nj):Option (Nj) :=
  (ak fu r'.Nz).bind λy =>
  (ak fu ({ Nq:=({ Nx:=[],Nw:=[] }:Nq),Nk:=r'.Ng }:Nz)).bind λy2 =>
  (dA fu r'.Np).bind λy3 =>
  some ({ Nz:=y,Ng:=y2.Nk,Np:=y3 }:Nj)
def cS (fu:Nat) (own:Nh) (cap:Nh):Option (Bool) :=
  (if own.Id != cap.Id then (cd fu own cap).bind λy =>
  some y
  else some false).bind λc3 =>
  some c3
def uu (fu:Nat) (s':List Nh) (cap:Nh):Nat→Int→Option (Out (Int) (Int))
  | 0,_=>none
  | fk + 1,i =>
    if decide (i<(s'.length:Int)) then
      (idx s' i).bind λe =>
      (cS fu e cap).bind λy =>
      if y then
        some (.ret i)
      else
        uu fu s' cap fk (w64 (i + 1))
    else
      some (.next i)
def uW (fu:Nat) (s':List Nh) (cap:Nh):Option (Int) :=
  (uu fu s' cap fu 0).bind λout=>out.on some λz =>
  some (-1)
def uR (fu:Nat) (s':List Nh) (cap:Nh):Option (Bool) :=
  (uW fu s' cap).bind λy =>
  some (decide (y≥0))
def dX (fu:Nat) (r':Nj) (x1:Nh):Option (Bool) :=
  ((zD fu x1.Nv.Nw r'.Np).bind λy =>
  if (y.length:Int)==0 then (uR fu r'.Nz.Nk x1).bind λy2 =>
  some (!y2)
  else some false).bind λc7 =>
  some c7
def aj (fu:Nat) (a':List Int) (b':List Int):Nat→Int→Option (Out (Int) (Bool))
  | 0,_=>none
  | fk + 1,i =>
    if decide (i<(a'.length:Int)) then
      (idx a' i).bind λe =>
      (idx b' i).bind λe2 =>
      if e != e2 then
        some (.ret false)
      else
        aj fu a' b' fk (w64 (i + 1))
    else
      some (.next i)
def cI (fu:Nat) (a':List Int) (b':List Int):Option (Bool) :=
  if (a'.length:Int) != (b'.length:Int) then
    some false
  else
    (aj fu a' b' fu 0).bind λout=>out.on some λz =>
    some true
def z7 (fu:Nat) (l:List Int) (x1:Int):Nat→Int→Option (Out (Int) (Bool))
  | 0,_=>none
  | fk + 1,i =>
    if decide (i<(l.length:Int)) then
      (idx l i).bind λe =>
      if e==x1 then
        some (.ret true)
      else
        z7 fu l x1 fk (w64 (i + 1))
    else
      some (.next i)
def eH (fu:Nat) (l:List Int) (x1:Int):Option (Bool) :=
  (z7 fu l x1 fu 0).bind λout=>out.on some λz =>
  some false
def ec (fu:Nat) (a':Nv) (b':Nv):Option (Bool) :=
  (if a'.Pq==b'.Pq then (cI fu a'.Nw b'.Nw).bind λy =>
  some y
  else some false).bind λc3 =>
  some c3
def bZ (fu:Nat) (a':Nh) (b':Nh):Option (Bool) :=
  (if a'.Id==b'.Id then if ([a'.Nd.Pj,a'.Nd.Px]:List Int)==([b'.Nd.Pj,b'.Nd.Px]:List Int) then (ec fu a'.Nv b'.Nv).bind λy =>
  some y
  else some false
  else some false).bind λc3 =>
  some c3
def ct (fu:Nat) (x1:Nh) (cap:Int):Option (Bool) :=
  some (x1.Id==cap)
def ut (fu:Nat) (s':List Nh) (cap:Int):Nat→Int→Option (Out (Int) (Int))
  | 0,_=>none
  | fk + 1,i =>
    if decide (i<(s'.length:Int)) then
      (idx s' i).bind λe =>
      (ct fu e cap).bind λy =>
      if y then
        some (.ret i)
      else
        ut fu s' cap fk (w64 (i + 1))
    else
      some (.next i)
def uU (fu:Nat) (s':List Nh) (cap:Int):Option (Int) :=
  (ut fu s' cap fu 0).bind λout=>out.on some λz =>
  some (-1)
def di (fu:Nat) (p:Nz) (id:Int):Option (Int) :=
  (uU fu p.Nk id).bind λy =>
  some y
def x7 (fu:Nat) (p:Nz) (x1:Nh):Nat→Int→Option (Int)
  | 0,_=>none
  | fk + 1,at' =>
    (if decide (at'<(p.Nk.length:Int)) then (idx p.Nk at').bind λe =>
    some (decide (e.Id<x1.Id))
    else some false).bind λc8 =>
    if c8 then
      x7 fu p x1 fk (w64 (at' + 1))
    else
      some at'
def aB (fu:Nat) (p:Nz) (x1:Nh):Option (Nz) :=
  (ak fu p).bind λy =>
  (x7 fu p x1 fu 0).bind λz =>
  (aC fu x1.Nv).bind λy2 =>
  (insl y.Nk z [({ Id:=x1.Id,Nv:=y2,Nd:=x1.Nd }:Nh)]).bind λl =>
  some ({ Nq:=y.Nq,Nk:=l }:Nz)
def xk (fu:Nat) (a':Nq) (b':Nq):Nat→Int→Option (Out (Int) (Bool))
  | 0,_=>none
  | fk + 1,i =>
    if decide (i<(a'.Nx.length:Int)) then
      (idx a'.Nx i).bind λe =>
      (idx b'.Nx i).bind λe2 =>
      if !(e.toList==e2.toList) then
        some (.ret false)
      else
        xk fu a' b' fk (w64 (i + 1))
    else
      some (.next i)
def xj (fu:Nat) (a':Nq) (b':Nq):Nat→Int→Option (Out (Int) (Bool))
  | 0,_=>none
  | fk + 1,i3 =>
    if decide (i3<(a'.Nw.length:Int)) then
      (idx a'.Nw i3).bind λe3 =>
      (idx b'.Nw i3).bind λe4 =>
      if !(([e3.A,e3.B,e3.Pk,e3.Pg]:List Int)==([e4.A,e4.B,e4.Pk,e4.Pg]:List Int)) then
        some (.ret false)
      else
        xj fu a' b' fk (w64 (i3 + 1))
    else
      some (.next i3)
def bH (fu:Nat) (a':Nq) (b':Nq):Option (Bool) :=
  (if (a'.Nx.length:Int) != (b'.Nx.length:Int) then some true
  else some ((a'.Nw.length:Int) != (b'.Nw.length:Int))).bind λc5 =>
  if c5 then
    some false
  else
    (xk fu a' b' fu 0).bind λout=>out.on some λz2 =>
    (xj fu a' b' fu 0).bind λout=>out.on some λz =>
    some true
def zA (fu:Nat) (a':Nz) (b':Nz):Nat→Int→Option (Out (Int) (Bool))
  | 0,_=>none
  | fk + 1,i =>
    if decide (i<(a'.Nk.length:Int)) then
      (idx a'.Nk i).bind λe =>
      (idx b'.Nk i).bind λe2 =>
      (bZ fu e e2).bind λy2 =>
      if !y2 then
        some (.ret false)
      else
        zA fu a' b' fk (w64 (i + 1))
    else
      some (.next i)
def bR (fu:Nat) (a':Nz) (b':Nz):Option (Bool) :=
  ((bH fu a'.Nq b'.Nq).bind λy =>
  if !y then some true
  else some ((a'.Nk.length:Int) != (b'.Nk.length:Int))).bind λc7 =>
  if c7 then
    some false
  else
    (zA fu a' b' fu 0).bind λout=>out.on some λz =>
    some true
def bv (fu:Nat) (r':Nj) (fibers:List Int):Option (Bool) :=
  ((uQ fu r').bind λy =>
  if y then (dG fu fibers (r'.Nz.Nq.Nw.length:Int)).bind λy2 =>
  some y2
  else some false).bind λc7 =>
  some c7
def vl (fu:Nat) (slices:List (List Int)):Nat→Int→Int→Option (Int×Int)
  | 0,_,_=>none
  | fk + 1,size,i =>
    if decide (i<(slices.length:Int)) then
      (idx slices i).bind λe =>
      if decide ((w64 (size + (e.length:Int)))<0) then
        none
      else
        vl fu slices fk (w64 (size + (e.length:Int))) (w64 (i + 1))
    else
      some (size,i)
def vk (fu:Nat) (slices:List (List Int)):Nat→List Int→Int→Option (List Int×Int)
  | 0,_,_=>none
  | fk + 1,newslice,i3 =>
    if decide (i3<(slices.length:Int)) then
      (idx slices i3).bind λe2 =>
      (app newslice e2).bind λl2 =>
      vk fu slices fk l2 (w64 (i3 + 1))
    else
      some (newslice,i3)
def xH (fu:Nat) (slices:List (List Int)):Option (List Int) :=
  (vl fu slices fu 0 0).bind λz2 =>
  ((ru z2.1:Option (List Int))).bind λl =>
  (vk fu slices fu l 0).bind λz =>
  some z.1
def yt (fu:Nat) (x1:Nh) (cap:List Int) (cap2:List Int):Option (Bool×List Int) :=
  (zD fu x1.Nv.Nw cap).bind λy =>
  if decide ((y.length:Int) > 0) then
    (app cap2 [x1.Id]).bind λl =>
    some (decide ((y.length:Int) > 0),l)
  else
    some (decide ((y.length:Int) > 0),cap2)
def vf (fu:Nat) (x:List Nh) (cap0:List Int) (cap1:List Int):Option ((List Nh)×(List Int)):=delO (λa s=>yt fu a cap0 s) x cap1
def zY (fu:Nat) (r':Nj) (fibers:List Int):Option (Nj×List Int×Bool) :=
  (bv fu r' fibers).bind λy =>
  if !y then
    some (({ Nz:=({ Nq:=({ Nx:=[],Nw:=[] }:Nq),Nk:=[] }:Nz),Ng:=[],Np:=[] }:Nj),[],false)
  else
    (xa fu r').bind λy2 =>
    (xH fu [r'.Np,fibers]).bind λy3 =>
    (x4 fu y3).bind λy4 =>
    (xv fu y4).bind λy5 =>
    (vf fu y2.Nz.Nk fibers ([]:List Int)).bind λy6 =>
    some (({ Nz:=({ Nq:=y2.Nz.Nq,Nk:=y6.1 }:Nz),Ng:=y2.Ng,Np:=y5 }:Nj),y6.2,true)
def yn (fu:Nat) (r':Nj):Nat→List Int→Int→Option (List Int×Int)
  | 0,_,_=>none
  | fk + 1,out',i =>
    if decide (i<(r'.Ng.length:Int)) then
      (idx r'.Ng i).bind λe =>
      (di fu r'.Nz e.Id).bind λy =>
      if decide (y<0) then
        (app out' [e.Id]).bind λl =>
        yn fu r' fk l (w64 (i + 1))
      else
        yn fu r' fk out' (w64 (i + 1))
    else
      some (out',i)
def aW (fu:Nat) (r':Nj):Option (List Int) :=
  (yn fu r' fu ([]:List Int) 0).bind λz =>
  some z.1
def cT (fu:Nat) (v:Int) (cap:Nq):Option (Bool) :=
  (xo fu v 0 (w64 ((cap.Nx.length:Int) - 1))).bind λy =>
  some (!y)
def uE (fu:Nat) (s':List Int) (cap:Nq):Nat→Int→Option (Out (Int) (Int))
  | 0,_=>none
  | fk + 1,i =>
    if decide (i<(s'.length:Int)) then
      (idx s' i).bind λe =>
      (cT fu e cap).bind λy =>
      if y then
        some (.ret i)
      else
        uE fu s' cap fk (w64 (i + 1))
    else
      some (.next i)
def vH (fu:Nat) (s':List Int) (cap:Nq):Option (Int) :=
  (uE fu s' cap fu 0).bind λout=>out.on some λz =>
  some (-1)
def vc (fu:Nat) (s':List Int) (cap:Nq):Option (Bool) :=
  (vH fu s' cap).bind λy =>
  some (decide (y≥0))
def dY (fu:Nat) (n':Nq) (nodes:List Int):Option (Bool) :=
  ((x9 fu n').bind λy =>
  if y then (vc fu nodes n').bind λy2 =>
  some (!y2)
  else some false).bind λc4 =>
  some c4
def yE (fu:Nat) (s':List Int):Option (List Int) :=
  iN s' (some []) ((app ([]:List Int) s').bind λl =>
  some l)
def vm (fu:Nat) (at':Int) (seen:Int) (fibers:List Int) (cap:Int) (cap3:Int) (cap4:Nq) (rec_:(Int)→(Int)→(List Int)→(Int)→(List Nv)→(Int)→(Nq)→Option (List Nv)):Nat→Int→List Nv→Option (Int×List Nv)
  | 0,_,_=>none
  | fk + 1,i,m =>
    if decide (i<(cap4.Nw.length:Int)) then
      (idx cap4.Nw i).bind λe =>
      (cr fu e at').bind λy2 =>
      (if decide (y2≥0) then (shr seen y2).bind λq =>
      some ((band q 1)==0)
      else some false).bind λc8 =>
      if c8 then
        (shl 1 y2).bind λq2 =>
        (app fibers [i]).bind λl =>
        (rec_ y2 (bor seen q2) l cap m cap3 cap4).bind λy3 =>
        vm fu at' seen fibers cap cap3 cap4 rec_ fk (w64 (i + 1)) y3
      else
        vm fu at' seen fibers cap cap3 cap4 rec_ fk (w64 (i + 1)) m
    else
      some (i,m)
def yI (fu:Nat) (rec_:(Int)→(Int)→(List Int)→(Int)→(List Nv)→(Int)→(Nq)→Option (List Nv)) (at':Int) (seen:Int) (fibers:List Int) (cap:Int) (cap2:List Nv) (cap3:Int) (cap4:Nq):Option (List Nv) :=
  if at'==cap then
    (yE fu fibers).bind λy =>
    (app cap2 [({ Pq:=cap3,Nw:=y }:Nv)]).bind λal =>
    some al
  else
    (vm fu at' seen fibers cap cap3 cap4 rec_ fu 0 cap2).bind λz =>
    some z.2
def vi:Nat→(Int)→(Int)→(List Int)→(Int)→(List Nv)→(Int)→(Nq)→Option (List Nv)
  | 0,_,_,_,_,_,_,_=>none
  | fu + 1,at',seen,fibers,cap,cap2,cap3,cap4=>yI fu (λat' seen fibers cap cap2 cap3 cap4=>vi fu at' seen fibers cap cap2 cap3 cap4) at' seen fibers cap cap2 cap3 cap4
def yy (fu:Nat) (n':Nq) (r':Nv):Nat→Int→Int→Option (Int×Int)
  | 0,_,_=>none
  | fk + 1,sum,i =>
    if decide (i<(r'.Nw.length:Int)) then
      (idx r'.Nw i).bind λe =>
      (idx n'.Nw e).bind λe2 =>
      yy fu n' r' fk (w64 (sum + e2.Pk)) (w64 (i + 1))
    else
      some (sum,i)
def bu (fu:Nat) (n':Nq) (r':Nv):Option (Int) :=
  (yy fu n' r' fu 0 0).bind λz =>
  some z.1
def vC (fu:Nat) (s1:List Int) (s2:List Int):Nat→Int→Option (Out (Int) (Int))
  | 0,_=>none
  | fk + 1,i =>
    if decide (i<(s1.length:Int)) then
      (idx s1 i).bind λe =>
      if decide (i≥(s2.length:Int)) then
        some (.ret 1)
      else
        (idx s2 i).bind λe2 =>
        (cmp_Compare_int fu e e2).bind λy =>
        if y != 0 then
          some (.ret y)
        else
          vC fu s1 s2 fk (w64 (i + 1))
    else
      some (.next i)
def zd (fu:Nat) (s1:List Int) (s2:List Int):Option (Int) :=
  (vC fu s1 s2 fu 0).bind λout=>out.on some λz =>
  if decide ((s1.length:Int)<(s2.length:Int)) then
    some (-1)
  else
    some 0
def aI (fu:Nat) (n':Nq) (a':Nv) (b':Nv):Option (Int) :=
  (bu fu n' a').bind λy =>
  (bu fu n' b').bind λy2 =>
  (cmp_Compare_int fu y y2).bind λy3 =>
  (cmp_Compare_int fu (a'.Nw.length:Int) (b'.Nw.length:Int)).bind λy4 =>
  (zd fu a'.Nw b'.Nw).bind λy5 =>
  (cmp_Compare_int fu a'.Pq b'.Pq).bind λy6 =>
  (dH fu [y3,y4,y5,y6]).bind λy7 =>
  some y7
def vw (fu:Nat) (a':Nv) (b4:Nv) (cap:Nq):Option (Int) :=
  (aI fu cap a' b4).bind λy =>
  some y
def uN (fu:Nat) (x:List Nv) (cap0:Nq):Option (List Nv):=jI (λa b=>vw fu a b cap0) x
def aH (fu:Nat) (n':Nq) (from':Int) (to:Int):Option (List Nv) :=
  if from' != to then
    (shl 1 from').bind λq =>
    (vi fu from' q [] to ([]:List Nv) from' n').bind λy =>
    (uN fu y n').bind λy2 =>
    some y2
  else
    (uN fu ([]:List Nv) n').bind λy3 =>
    some y3
def bL (fu:Nat) (n':Nq) (from':Int) (to:Int):Option (List Nv×Bool) :=
  ((dY fu n' [from',to]).bind λy =>
  if !y then some true
  else some (from'==to)).bind λc3 =>
  if c3 then
    some ([],false)
  else
    (aH fu n' from' to).bind λy2 =>
    if decide ((y2.length:Int) > 200) then
      some ([],false)
    else
      some (y2,true)
def xN (fu:Nat) (e:Nh):Nat→List Int→Int→Option (List Int×Int)
  | 0,_,_=>none
  | fk + 1,out3,i2 =>
    if decide (i2<(e.Nv.Nw.length:Int)) then
      (idx e.Nv.Nw i2).bind λe2 =>
      (idx out3 e2).bind λe3 =>
      (aX fu e.Nd).bind λy =>
      (idx out3 e2).bind λe4 =>
      xN fu e fk (out3.set (e2:Int).toNat (bor e3 y)) (w64 (i2 + 1))
    else
      some (out3,i2)
def xO (fu:Nat) (p:Nz):Nat→List Int→Int→Option (List Int×Int)
  | 0,_,_=>none
  | fk + 1,out',i =>
    if decide (i<(p.Nk.length:Int)) then
      (idx p.Nk i).bind λe =>
      (xN fu e fu out' 0).bind λz =>
      xO fu p fk z.1 (w64 (i + 1))
    else
      some (out',i)
def aY (fu:Nat) (p:Nz):Option (List Int) :=
  (mk (0:Int) (p.Nq.Nw.length:Int)).bind λl =>
  (xO fu p fu l 0).bind λz2 =>
  some z2.1
def x8 (fu:Nat) (r':Nv) (y:List Int):Nat→Int→Int→Option (Int×Int)
  | 0,_,_=>none
  | fk + 1,out',i =>
    if decide (i<(r'.Nw.length:Int)) then
      (idx r'.Nw i).bind λe =>
      (idx y e).bind λe2 =>
      x8 fu r' y fk (bor out' e2) (w64 (i + 1))
    else
      some (out',i)
def bI (fu:Nat) (p:Nz) (r':Nv):Option (Int) :=
  (aY fu p).bind λy =>
  (x8 fu r' y fu 0 0).bind λz =>
  some z.1
def eZ (fu:Nat) (mask:Int):Option (Bool) :=
  (xo fu mask 0 16777215).bind λy =>
  some y
def ga (fu:Nat) (mask:Int) (count:Int):Option (Bool) :=
  ((eZ fu mask).bind λy =>
  if y then (xo fu count 1 24).bind λy2 =>
  some y2
  else some false).bind λc =>
  some c
def xJ (fu:Nat) (mask:Int) (count:Int):Nat→List Int→Int→Option (List Int×Int)
  | 0,_,_=>none
  | fk + 1,out',first =>
    if decide ((w64 (first + count))≤24) then
      (aX fu ({ Pj:=first,Px:=count }:Nd)).bind λy =>
      if (band mask y)==0 then
        (app out' [first]).bind λl =>
        xJ fu mask count fk l (w64 (first + 1))
      else
        xJ fu mask count fk out' (w64 (first + 1))
    else
      some (out',first)
def bJ (fu:Nat) (mask:Int) (count:Int):Option (List Int) :=
  (xJ fu mask count fu ([]:List Int) 0).bind λz =>
  some z.1
def cu (fu:Nat) (mask:Int) (count:Int):Option (Nd×Bool) :=
  (ga fu mask count).bind λy =>
  if !y then
    some (({ Pj:=0,Px:=0 }:Nd),false)
  else
    (bJ fu mask count).bind λy2 =>
    if (y2.length:Int)==0 then
      some (({ Pj:=0,Px:=0 }:Nd),false)
    else
      (idx y2 0).bind λe =>
      some (({ Pj:=e,Px:=count }:Nd),true)
def xU (fu:Nat) (r':Nj) (id:Int) (y:Nj) (e:Nh) (y6:List Nv×Bool):Nat→Int→Option (Out (Int) (Nj×Bool))
  | 0,_=>none
  | fk + 1,i =>
    if decide (i<(y6.1.length:Int)) then
      (idx y6.1 i).bind λe2 =>
      (zD fu e2.Nw r'.Np).bind λy7 =>
      if decide ((y7.length:Int) > 0) then
        xU fu r' id y e y6 fk (w64 (i + 1))
      else
        (bI fu r'.Nz e2).bind λy8 =>
        (cu fu y8 e.Nd.Px).bind λy9 =>
        if y9.2 then
          (aB fu r'.Nz ({ Id:=id,Nv:=e2,Nd:=y9.1 }:Nh)).bind λy10 =>
          some (.ret (({ Nz:=y10,Ng:=y.Ng,Np:=y.Np }:Nj),true))
        else
          xU fu r' id y e y6 fk (w64 (i + 1))
    else
      some (.next i)
def bq (fu:Nat) (r':Nj) (id:Int):Option (Nj×Bool) :=
  (xa fu r').bind λy =>
  (cK fu r' id).bind λy2 =>
  (idx r'.Ng y2).bind λe =>
  (dX fu r' e).bind λy3 =>
  if y3 then
    (aB fu r'.Nz e).bind λy4 =>
    some (({ Nz:=y4,Ng:=y.Ng,Np:=y.Np }:Nj),true)
  else
    (cL fu r'.Nz.Nq e.Nv).bind λy5 =>
    (bL fu r'.Nz.Nq e.Nv.Pq y5).bind λy6 =>
    if !y6.2 then
      some (y,false)
    else
      (xU fu r' id y e y6 fu 0).bind λout=>out.on some λz =>
      some (y,false)
def xt (fu:Nat) (y3:List Int):Nat→List Int→Int→List ByteArray→List Nt→List Nh→List Nh→List Int→Option (List Int×Int×List ByteArray×List Nt×List Nh×List Nh×List Int)
  | 0,_,_,_,_,_,_,_=>none
  | fk + 1,ids,i,m,m2,m3,m4,m5 =>
    if decide (i<(y3.length:Int)) then
      (idx y3 i).bind λe =>
      (bq fu ({ Nz:=({ Nq:=({ Nx:=m,Nw:=m2 }:Nq),Nk:=m3 }:Nz),Ng:=m4,Np:=m5 }:Nj) e).bind λy4 =>
      if y4.2 then
        (app ids [e]).bind λl =>
        xt fu y3 fk l (w64 (i + 1)) y4.1.Nz.Nq.Nx y4.1.Nz.Nq.Nw y4.1.Nz.Nk y4.1.Ng y4.1.Np
      else
        xt fu y3 fk ids (w64 (i + 1)) y4.1.Nz.Nq.Nx y4.1.Nz.Nq.Nw y4.1.Nz.Nk y4.1.Ng y4.1.Np
    else
      some (ids,i,m,m2,m3,m4,m5)
def a7 (fu:Nat) (r':Nj):Option (Nj×List Int×Bool) :=
  (uQ fu r').bind λy =>
  if !y then
    some (({ Nz:=({ Nq:=({ Nx:=[],Nw:=[] }:Nq),Nk:=[] }:Nz),Ng:=[],Np:=[] }:Nj),[],false)
  else
    (xa fu r').bind λy2 =>
    (aW fu r').bind λy3 =>
    (xt fu y3 fu ([]:List Int) 0 y2.Nz.Nq.Nx y2.Nz.Nq.Nw y2.Nz.Nk y2.Ng y2.Np).bind λz =>
    some (({ Nz:=({ Nq:=({ Nx:=z.2.2.1,Nw:=z.2.2.2.1 }:Nq),Nk:=z.2.2.2.2.1 }:Nz),Ng:=z.2.2.2.2.2.1,Np:=z.2.2.2.2.2.2 }:Nj),z.1,true)
def xR (fu:Nat) (i:Int) (cap:List Int):Option (Bool) :=
  (vv fu cap i).bind λy =>
  some y
def vP (fu:Nat) (x:List Int) (cap0:List Int):Option (List Int):=sZ (λa=>xR fu a cap0) x
def yT (fu:Nat) (r':Nj) (fibers:List Int):Option (Nj×Bool) :=
  (bv fu r' fibers).bind λy =>
  if !y then
    some (({ Nz:=({ Nq:=({ Nx:=[],Nw:=[] }:Nq),Nk:=[] }:Nz),Ng:=[],Np:=[] }:Nj),false)
  else
    (xa fu r').bind λy2 =>
    (vP fu y2.Np fibers).bind λy3 =>
    some (({ Nz:=y2.Nz,Ng:=y2.Ng,Np:=y3 }:Nj),true)
def xP (fu:Nat) (r':Nj):Option (List Int×Bool) :=
  (uQ fu r').bind λy =>
  if !y then
    some ([],false)
  else
    (aW fu r').bind λy2 =>
    some (y2,true)
def za (fu:Nat) (code:List By):Option (Nj×List Int) :=
  (xw fu ({ code:=code,at_:=0,seed:=(⟨0⟩:U64) }:Pz)).bind λy =>
  (x3 fu y.2 y.1.Nz.Nq).bind λy2 =>
  some (y.1,y2.1)
def cp (fu:Nat) (r':Nj) (fibers:List Int):Option (Nj×List Int×Bool) :=
  (zy fu r' fibers).bind λy =>
  if !y then
    some (({ Nz:=({ Nq:=({ Nx:=[],Nw:=[] }:Nq),Nk:=[] }:Nz),Ng:=[],Np:=[] }:Nj),([]:List Int),false)
  else
    (aT fu r' fibers).bind λy2 =>
    some (y2.1,y2.2,true)
def zW (fu:Nat) (r':Nj) (id:Int):Option (Nj×Bool×Bool) :=
  ((uQ fu r').bind λy =>
  if !y then some true
  else (aW fu r').bind λy2 =>
  (vv fu y2 id).bind λy3 =>
  some (!y3)).bind λc6 =>
  if c6 then
    some (({ Nz:=({ Nq:=({ Nx:=[],Nw:=[] }:Nq),Nk:=[] }:Nz),Ng:=[],Np:=[] }:Nj),false,false)
  else
    (bq fu r' id).bind λy4 =>
    some (y4.1,y4.2,true)
def xD (fu:Nat) (y10:Nj×List Int×Bool) (y11:List Int×Bool):Nat→Int→Option (Out (Int) (Bool))
  | 0,_=>none
  | fk + 1,i =>
    if decide (i<(y11.1.length:Int)) then
      (idx y11.1 i).bind λe =>
      (zW fu y10.1 e).bind λy13 =>
      (if y13.2.1 then some true
      else some (!y13.2.2)).bind λc38 =>
      if c38 then
        some (.ret false)
      else
        xD fu y10 y11 fk (w64 (i + 1))
    else
      some (.next i)
def xC (fu:Nat) (y2:Nj×List Int) (y14:Nj×Bool):Nat→Int→Option (Out (Int) (Bool))
  | 0,_=>none
  | fk + 1,i3 =>
    if decide (i3<(y2.2.length:Int)) then
      (idx y2.2 i3).bind λe2 =>
      (eH fu y14.1.Np e2).bind λy15 =>
      if y15 then
        some (.ret false)
      else
        xC fu y2 y14 fk (w64 (i3 + 1))
    else
      some (.next i3)
def bN (fu:Nat) (code:List By):Option (Bool) :=
  (ii fu code).bind λy =>
  if y then
    some true
  else
    (za fu code).bind λy2 =>
    (zY fu y2.1 y2.2).bind λy3 =>
    (cp fu y2.1 y2.2).bind λy4 =>
    (if y3.2.2 != y4.2.2 then some true
    else (cI fu y3.2.1 y4.2.1).bind λy5 =>
    if !y5 then some true
    else some (!y3.2.2)).bind λc20 =>
    if c20 then
      (if y3.2.2==y4.2.2 then (cI fu y3.2.1 y4.2.1).bind λy6 =>
      some y6
      else some false).bind λc21 =>
      some c21
    else
      (xP fu y2.1).bind λy7 =>
      (xP fu y3.1).bind λy8 =>
      (if !y7.2 then some true
      else if !y8.2 then some true
      else (uQ fu y3.1).bind λy9 =>
      if !y9 then some true
      else some ((y8.1.length:Int) != (w64 ((y7.1.length:Int) + (y3.2.1.length:Int))))).bind λc24 =>
      if c24 then
        some false
      else
        (a7 fu y3.1).bind λy10 =>
        (xP fu y10.1).bind λy11 =>
        (if !y10.2.2 then some true
        else if !y11.2 then some true
        else (uQ fu y10.1).bind λy12 =>
        if !y12 then some true
        else some ((w64 ((y11.1.length:Int) + (y10.2.1.length:Int))) != (y8.1.length:Int))).bind λc32 =>
        if c32 then
          some false
        else
          (xD fu y10 y11 fu 0).bind λout=>out.on some λz2 =>
          (yT fu y10.1 y2.2).bind λy14 =>
          (xC fu y2 y14 fu 0).bind λout=>out.on some λz =>
          (if y14.2 then (uQ fu y14.1).bind λy16 =>
          if y16 then (bR fu y14.1.Nz y10.1.Nz).bind λy17 =>
          some y17
          else some false
          else some false).bind λc44 =>
          some c44
end AT
