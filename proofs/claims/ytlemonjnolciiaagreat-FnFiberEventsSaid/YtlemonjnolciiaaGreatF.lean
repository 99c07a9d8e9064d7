/- The Go functions told plainly, by program (gen.py). -/
import Derived.Test.YtlemonjnolciiaaGreatAtPS
import Derived.Test.YtlemonjnolciiaaGreatAtPI
set_option linter.unusedVariables false
namespace AT
structure Pz where
  code:List By
  at_:Int
  seed:U64
  deriving DecidableEq
structure Nt where
  A:Int
  B:Int
  Pk:Int
  Pd:Int
  deriving DecidableEq
structure Nq where
  Nx:List ByteArray
  Nw:List Nt
  deriving DecidableEq
structure Nv where
  Pq:Int
  Nw:List Int
  deriving DecidableEq
structure Nd where
  Pj:Int
  Px:Int
  deriving DecidableEq
structure Nh where
  Id:Int
  Nv:Nv
  Nd:Nd
  deriving DecidableEq
structure Nz where
  Nq:Nq
  Nk:List Nh
  deriving DecidableEq
structure Format where
  Reach:Int
  Rate:Int
  deriving DecidableEq
structure Nj where
  Nz:Nz
  Ng:List Nh
  Np:List Int
  deriving DecidableEq
structure Ph where
  n:Nq
  to:Int
  list:List Nv
  deriving DecidableEq
structure Action where
  Kind:Int
  Nh:Nh
  deriving DecidableEq
structure L20SearchP where
  list:List Action
  failed:List Bool
  deriving DecidableEq
structure Pg where
  Pp:Bool
  Nw:List Int
  deriving DecidableEq
structure Demand where
  From:Int
  To:Int
  Rate:Int
  Class:Int
  deriving DecidableEq
structure Served where
  Nz:Nz
  Ids:List Int
  Blocked:Int
  deriving DecidableEq
structure ChoiceP where
  route:Nv
  count:Int
  deriving DecidableEq
def it (fu:Nat) (code:List By):Option (Bool) :=
  some (decide ((code.length:Int) > 65536))
def am (fu:Nat) (c:Pz):Option (Int×Pz) :=
  if decide (c.at_<(c.code.length:Int)) then
    (idx c.code c.at_).bind λe =>
    if decide ((w64 (c.at_ + 1))≤(c.code.length:Int)) then
      some (w64 e.n,({ code:=c.code,at_:=w64 (c.at_ + 1),seed:=(⟨wu64 ((wu64 ((wu64 (c.seed.n * 6364136223846793005)) + (wu64 (w64 e.n)))) + 897897)⟩:U64) }:Pz))
    else
      (shrk 64 (wu64 ((wu64 ((wu64 (c.seed.n * 6364136223846793005)) + (wu64 (w64 e.n)))) + 897897)) 40).bind λq =>
      some (w64 (iE q 255),({ code:=c.code,at_:=w64 (c.at_ + 1),seed:=(⟨wu64 ((wu64 ((wu64 (c.seed.n * 6364136223846793005)) + (wu64 (w64 e.n)))) + 897897)⟩:U64) }:Pz))
  else
    if decide ((w64 (c.at_ + 1))≤(c.code.length:Int)) then
      some (0,({ code:=c.code,at_:=w64 (c.at_ + 1),seed:=(⟨wu64 ((wu64 ((wu64 (c.seed.n * 6364136223846793005)) + (wu64 0))) + 897897)⟩:U64) }:Pz))
    else
      (shrk 64 (wu64 ((wu64 ((wu64 (c.seed.n * 6364136223846793005)) + (wu64 0))) + 897897)) 40).bind λq2 =>
      some (w64 (iE q2 255),({ code:=c.code,at_:=w64 (c.at_ + 1),seed:=(⟨wu64 ((wu64 ((wu64 (c.seed.n * 6364136223846793005)) + (wu64 0))) + 897897)⟩:U64) }:Pz))
def uq (fu:Nat) (c:Pz) (n':Int):Option (Int×Pz) :=
  if decide (n'≤1) then
    some (0,c)
  else
    (am fu c).bind λy =>
    if decide (n' > 200) then
      (am fu y.2).bind λy2 =>
      (rem (w64 ((w64 (y.1 * 256)) + y2.1)) n').bind λq =>
      some (q,y2.2)
    else
      (rem y.1 n').bind λq2 =>
      some (q2,y.2)
def xa (fu:Nat) (c:Pz) (n':Int):Option (Bool×Pz) :=
  (uq fu c n').bind λy =>
  some (y.1==0,y.2)
def cd (fu:Nat) (a':Int) (b':Int):Option (Int) :=
  if decide (a'<b') then
    some a'
  else
    some b'
def cP (fu:Nat) (a':Int) (b':Int):Option (Int) :=
  if decide (a' > b') then
    some a'
  else
    some b'
def xF (fu:Nat) (c:Pz) (list:List Int):Option (Int×Pz) :=
  (uq fu c (list.length:Int)).bind λy =>
  (idx list y.1).bind λe =>
  some (e,y.2)
def bz (fu:Nat) (f:Nt) (g':Nt):Option (Int) :=
  if f.A != g'.A then
    some (w64 (f.A - g'.A))
  else
    if f.B != g'.B then
      some (w64 (f.B - g'.B))
    else
      if f.Pk != g'.Pk then
        some (w64 (f.Pk - g'.Pk))
      else
        some (w64 (f.Pd - g'.Pd))
def ax (fu:Nat) (list:List Nt) (f:Nt):Nat→Int→Option (Int)
  | 0,_=>none
  | fk + 1,i =>
    (if decide (i<(list.length:Int)) then (idx list i).bind λe =>
    (bz fu e f).bind λy =>
    some (decide (y≤0))
    else some false).bind λc2 =>
    if c2 then
      ax fu list f fk (w64 (i + 1))
    else
      some i
def dK (fu:Nat) (list:List Nt) (f:Nt):Option (List Nt) :=
  (ax fu list f fu 0).bind λz =>
  (sub list 0 z).bind λl =>
  (sub list z (list.length:Int)).bind λl2 =>
  (app ([]:List Nt) l).bind λl3 =>
  (app l3 [f]).bind λl4 =>
  (app l4 l2).bind λl5 =>
  some l5
def vv (fu:Nat) (y:Int×Pz):Nat→Int→List By→Int→U64→List Nt→Option (Int×List By×Int×U64×List Nt)
  | 0,_,_,_,_,_=>none
  | fk + 1,i,m,m2,m3,m4 =>
    if decide (i<(w64 (2 + y.1))) then
      (rem (w64 (i + 1)) (w64 (2 + y.1))).bind λq =>
      if i==q then vv fu y fk (w64 (i + 1)) m m2 m3 m4
      else (xa fu ({ code:=m,at_:=m2,seed:=m3 }:Pz) 10).bind λy2 =>
      if y2.1 then
        vv fu y fk (w64 (i + 1)) y2.2.code y2.2.at_ y2.2.seed m4
      else
        (cd fu i q).bind λy3 =>
        (cP fu i q).bind λy4 =>
        (uq fu y2.2 8).bind λy5 =>
        (xF fu y5.2 [0,0,0,1,2]).bind λy6 =>
        (dK fu m4 ({ A:=y3,B:=y4,Pk:=w64 (100 * (w64 (1 + y5.1))),Pd:=y6.1 }:Nt)).bind λy7 =>
        vv fu y fk (w64 (i + 1)) y6.2.code y6.2.at_ y6.2.seed y7
    else
      some (i,m,m2,m3,m4)
def vU (fu:Nat) (y:Int×Pz):Nat→Int→List Nt→List By→Int→U64→Option (Int×List Nt×List By×Int×U64)
  | 0,_,_,_,_,_=>none
  | fk + 1,m9,m10,m11,m12,m13 =>
    if decide (m9 > 0) then
      (uq fu ({ code:=m11,at_:=m12,seed:=m13 }:Pz) (w64 (2 + y.1))).bind λy9 =>
      (uq fu y9.2 (w64 (2 + y.1))).bind λy10 =>
      if y9.1 != y10.1 then
        (cd fu y9.1 y10.1).bind λy11 =>
        (cP fu y9.1 y10.1).bind λy12 =>
        (uq fu y10.2 8).bind λy13 =>
        (xF fu y13.2 [0,0,0,1,2]).bind λy14 =>
        (dK fu m10 ({ A:=y11,B:=y12,Pk:=w64 (100 * (w64 (1 + y13.1))),Pd:=y14.1 }:Nt)).bind λy15 =>
        vU fu y fk (w64 (m9 - 1)) y15 y14.2.code y14.2.at_ y14.2.seed
      else
        vU fu y fk (w64 (m9 - 1)) m10 y10.2.code y10.2.at_ y10.2.seed
    else
      some (m9,m10,m11,m12,m13)
def yz (fu:Nat) (c:Pz):Option (Nq×Pz) :=
  (uq fu c 5).bind λy =>
  (sub [(⟨#[97]⟩:ByteArray),(⟨#[98]⟩:ByteArray),(⟨#[99]⟩:ByteArray),(⟨#[100]⟩:ByteArray),(⟨#[101]⟩:ByteArray),(⟨#[102]⟩:ByteArray)] 0 (w64 (2 + y.1))).bind λl =>
  (vv fu y fu 0 y.2.code y.2.at_ y.2.seed []).bind λz2 =>
  (uq fu ({ code:=z2.2.1,at_:=z2.2.2.1,seed:=z2.2.2.2.1 }:Pz) 4).bind λy8 =>
  (vU fu y fu y8.1 z2.2.2.2.2 y8.2.code y8.2.at_ y8.2.seed).bind λz =>
  some (({ Nx:=l,Nw:=z.2.1 }:Nq),({ code:=z.2.2.1,at_:=z.2.2.2.1,seed:=z.2.2.2.2 }:Pz))
def ao (fu:Nat) (c:Pz):Option (Nq×Pz) :=
  (yz fu c).bind λy =>
  if (y.1.Nw.length:Int)==0 then
    (app y.1.Nw [({ A:=0,B:=1,Pk:=100,Pd:=0 }:Nt)]).bind λl =>
    some (({ Nx:=y.1.Nx,Nw:=l }:Nq),y.2)
  else
    some (y.1,y.2)
def yp (fu:Nat) (n':Nq) (fiber:Int) (node:Int):Option (Int) :=
  (idx n'.Nw fiber).bind λe =>
  if node==e.A then
    some e.B
  else
    if node==e.B then
      some e.A
    else
      some (-1)
def zA (fu:Nat) (l:List Int) (n':Int):Nat→Int→Option (Out (Int) (Bool))
  | 0,_=>none
  | fk + 1,i =>
    if decide (i<(l.length:Int)) then
      (idx l i).bind λe =>
      if e==n' then
        some (.ret true)
      else
        zA fu l n' fk (w64 (i + 1))
    else
      some (.next i)
def ah (fu:Nat) (l:List Int) (n':Int):Option (Bool) :=
  (zA fu l n' fu 0).bind λout=>out.on some λz =>
  some false
def vD (fu:Nat) (n':Nq) (y:Int×Pz) (seen:List Int):Nat→List Int→Int→Option (List Int×Int)
  | 0,_,_=>none
  | fk + 1,list,i =>
    if decide (i<(n'.Nw.length:Int)) then
      (idx seen (w64 ((seen.length:Int) - 1))).bind λe =>
      (yp fu n' i e).bind λy3 =>
      (if decide (y3≥0) then (ah fu seen y3).bind λy4 =>
      some (!y4)
      else some false).bind λc10 =>
      if c10 then
        (app list [i]).bind λl =>
        vD fu n' y seen fk l (w64 (i + 1))
      else
        vD fu n' y seen fk list (w64 (i + 1))
    else
      some (list,i)
def xI (fu:Nat) (n':Nq) (y:Int×Pz):Nat→List Int→Int→List Int→List By→Int→U64→Option (List Int×Int×List Int×List By×Int×U64)
  | 0,_,_,_,_,_,_=>none
  | fk + 1,seen,m,m2,m3,m4,m5 =>
    if decide (m > 0) then
      (vD fu n' y seen fu ([]:List Int) 0).bind λz =>
      if (z.1.length:Int)==0 then
        some (seen,m,m2,m3,m4,m5)
      else
        (uq fu ({ code:=m3,at_:=m4,seed:=m5 }:Pz) (z.1.length:Int)).bind λy5 =>
        (idx z.1 y5.1).bind λe2 =>
        (app m2 [e2]).bind λl2 =>
        (idx seen (w64 ((seen.length:Int) - 1))).bind λe3 =>
        (yp fu n' e2 e3).bind λy6 =>
        (app seen [y6]).bind λl3 =>
        xI fu n' y fk l3 (w64 (m - 1)) l2 y5.2.code y5.2.at_ y5.2.seed
    else
      some (seen,m,m2,m3,m4,m5)
def zv (fu:Nat) (c:Pz) (n':Nq):Option (Nv×Pz) :=
  (uq fu c (n'.Nx.length:Int)).bind λy =>
  (uq fu y.2 4).bind λy2 =>
  (xI fu n' y fu [y.1] (w64 (1 + y2.1)) ([]:List Int) y2.2.code y2.2.at_ y2.2.seed).bind λz2 =>
  some (({ Pq:=y.1,Nw:=z2.2.2.1 }:Nv),({ code:=z2.2.2.2.1,at_:=z2.2.2.2.2.1,seed:=z2.2.2.2.2.2 }:Pz))
def ak (fu:Nat) (c:Pz) (n':Nq):Option (Nv×Pz) :=
  (zv fu c n').bind λy =>
  if (y.1.Nw.length:Int)==0 then
    (idx n'.Nw 0).bind λe =>
    some (({ Pq:=e.A,Nw:=[0] }:Nv),y.2)
  else
    some (y.1,y.2)
def xP (fu:Nat) (b':Nd):Option (Int) :=
  (shl 1 (wu64 b'.Px)).bind λq =>
  (shl (w64 (q - 1)) (wu64 b'.Pj)).bind λq2 =>
  some q2
def yO (fu:Nat) (p:Nz) (fiber:Int):Nat→Int→Int→Option (Int×Int)
  | 0,_,_=>none
  | fk + 1,out',i =>
    if decide (i<(p.Nk.length:Int)) then
      (idx p.Nk i).bind λe =>
      (ah fu e.Nv.Nw fiber).bind λy =>
      if y then
        (idx p.Nk i).bind λe2 =>
        (xP fu e2.Nd).bind λy2 =>
        yO fu p fiber fk (bor out' y2) (w64 (i + 1))
      else
        yO fu p fiber fk out' (w64 (i + 1))
    else
      some (out',i)
def dR (fu:Nat) (p:Nz) (fiber:Int):Option (Int) :=
  (yO fu p fiber fu 0 0).bind λz =>
  some z.1
def zh (fu:Nat) (p:Nz) (r':Nv):Nat→Int→Int→Option (Int×Int)
  | 0,_,_=>none
  | fk + 1,out',i =>
    if decide (i<(r'.Nw.length:Int)) then
      (idx r'.Nw i).bind λe =>
      (dR fu p e).bind λy =>
      zh fu p r' fk (bor out' y) (w64 (i + 1))
    else
      some (out',i)
def yo (fu:Nat) (p:Nz) (r':Nv):Option (Int) :=
  (zh fu p r' fu 0 0).bind λz =>
  some z.1
def yS (fu:Nat) (mask:Int) (count:Int):Nat→List Int→Int→Option (List Int×Int)
  | 0,_,_=>none
  | fk + 1,out',s' =>
    if decide ((w64 (s' + count))≤24) then
      (xP fu ({ Pj:=s',Px:=count }:Nd)).bind λy =>
      if (band mask y)==0 then
        (app out' [s']).bind λl =>
        yS fu mask count fk l (w64 (s' + 1))
      else
        yS fu mask count fk out' (w64 (s' + 1))
    else
      some (out',s')
def cM (fu:Nat) (mask:Int) (count:Int):Option (List Int) :=
  (yS fu mask count fu ([]:List Int) 0).bind λz =>
  some z.1
def gh (fu:Nat) (n':Nq):Option (Nq) :=
  (app ([]:List ByteArray) n'.Nx).bind λl =>
  (app ([]:List Nt) n'.Nw).bind λl2 =>
  some ({ Nx:=l,Nw:=l2 }:Nq)
def aT (fu:Nat) (l:List Int):Option (List Int) :=
  (app ([]:List Int) l).bind λl2 =>
  some l2
def cO (fu:Nat) (r':Nv):Option (Nv) :=
  (aT fu r'.Nw).bind λy =>
  some ({ Pq:=r'.Pq,Nw:=y }:Nv)
def zR (fu:Nat) (x1:Nh):Option (Nh) :=
  (cO fu x1.Nv).bind λy =>
  some ({ Id:=x1.Id,Nv:=y,Nd:=x1.Nd }:Nh)
def aw (fu:Nat) (p:Nz):Nat→Int→List Nh→Option (Int×List Nh)
  | 0,_,_=>none
  | fk + 1,i,m =>
    if decide (i<(p.Nk.length:Int)) then
      (idx p.Nk i).bind λe =>
      (zR fu e).bind λy2 =>
      (app m [y2]).bind λal =>
      aw fu p fk (w64 (i + 1)) al
    else
      some (i,m)
def cc (fu:Nat) (p:Nz):Option (Nz) :=
  (gh fu p.Nq).bind λy =>
  (aw fu p fu 0 ([]:List Nh)).bind λz =>
  some ({ Nq:=y,Nk:=z.2 }:Nz)
def av (fu:Nat) (x1:Nh) (y:Nz):Nat→Int→Option (Int)
  | 0,_=>none
  | fk + 1,i =>
    (if decide (i<(y.Nk.length:Int)) then (idx y.Nk i).bind λe =>
    some (decide (e.Id<x1.Id))
    else some false).bind λc8 =>
    if c8 then
      av fu x1 y fk (w64 (i + 1))
    else
      some i
def za (fu:Nat) (p:Nz) (x1:Nh):Option (Nz) :=
  (cc fu p).bind λy =>
  (av fu x1 y fu 0).bind λz =>
  (sub y.Nk 0 z).bind λl =>
  (sub y.Nk z (y.Nk.length:Int)).bind λl2 =>
  (app ([]:List Nh) l).bind λl3 =>
  (zR fu x1).bind λy2 =>
  (app l3 [y2]).bind λl4 =>
  (app l4 l2).bind λl5 =>
  some ({ Nq:=y.Nq,Nk:=l5 }:Nz)
def vQ (fu:Nat):Nat→Int→List ByteArray→List Nt→List Nh→List By→Int→U64→Option (Int×List ByteArray×List Nt×List Nh×List By×Int×U64)
  | 0,_,_,_,_,_,_,_=>none
  | fk + 1,n',m,m2,m3,m4,m5,m6 =>
    if decide (n' > 0) then
      (ak fu ({ code:=m4,at_:=m5,seed:=m6 }:Pz) ({ Nx:=m,Nw:=m2 }:Nq)).bind λy3 =>
      (uq fu y3.2 5).bind λy4 =>
      (yo fu ({ Nq:=({ Nx:=m,Nw:=m2 }:Nq),Nk:=m3 }:Nz) y3.1).bind λy5 =>
      (cM fu y5 (w64 (1 + y4.1))).bind λy6 =>
      if decide ((y6.length:Int) > 0) then
        (idx y6 0).bind λe =>
        (xa fu y4.2 2).bind λy7 =>
        if y7.1 then
          (uq fu y7.2 (y6.length:Int)).bind λy8 =>
          (idx y6 y8.1).bind λe2 =>
          (uq fu y8.2 3).bind λy9 =>
          (za fu ({ Nq:=({ Nx:=m,Nw:=m2 }:Nq),Nk:=m3 }:Nz) ({ Id:=w64 ((w64 ((w64 ((m3.length:Int) * 3)) + 1)) + y9.1),Nv:=y3.1,Nd:=({ Pj:=e2,Px:=w64 (1 + y4.1) }:Nd) }:Nh)).bind λy10 =>
          vQ fu fk (w64 (n' - 1)) y10.Nq.Nx y10.Nq.Nw y10.Nk y9.2.code y9.2.at_ y9.2.seed
        else
          (uq fu y7.2 3).bind λy11 =>
          (za fu ({ Nq:=({ Nx:=m,Nw:=m2 }:Nq),Nk:=m3 }:Nz) ({ Id:=w64 ((w64 ((w64 ((m3.length:Int) * 3)) + 1)) + y11.1),Nv:=y3.1,Nd:=({ Pj:=e,Px:=w64 (1 + y4.1) }:Nd) }:Nh)).bind λy12 =>
          vQ fu fk (w64 (n' - 1)) y12.Nq.Nx y12.Nq.Nw y12.Nk y11.2.code y11.2.at_ y11.2.seed
      else
        vQ fu fk (w64 (n' - 1)) m m2 m3 y4.2.code y4.2.at_ y4.2.seed
    else
      some (n',m,m2,m3,m4,m5,m6)
def bh (fu:Nat) (c:Pz):Option (Nz×Pz) :=
  (ao fu c).bind λy =>
  (uq fu y.2 9).bind λy2 =>
  (vQ fu fu y2.1 y.1.Nx y.1.Nw ([]:List Nh) y2.2.code y2.2.at_ y2.2.seed).bind λz =>
  some (({ Nq:=({ Nx:=z.2.1,Nw:=z.2.2.1 }:Nq),Nk:=z.2.2.2.1 }:Nz),({ code:=z.2.2.2.2.1,at_:=z.2.2.2.2.2.1,seed:=z.2.2.2.2.2.2 }:Pz))
def aK (fu:Nat) (c:Pz):Option (Nd×Pz) :=
  (xa fu c 12).bind λy =>
  if y.1 then
    (uq fu y.2 26).bind λy2 =>
    (uq fu y2.2 27).bind λy3 =>
    some (({ Pj:=w64 (y2.1 - 1),Px:=w64 (y3.1 - 1) }:Nd),y3.2)
  else
    (uq fu y.2 6).bind λy4 =>
    (uq fu y4.2 (w64 ((w64 (24 - (w64 (1 + y4.1)))) + 1))).bind λy5 =>
    some (({ Pj:=y5.1,Px:=w64 (1 + y4.1) }:Nd),y5.2)
def zj (fu:Nat) (c:Pz) (n':Nq):Option (Nv×Pz) :=
  (zv fu c n').bind λy =>
  (uq fu y.2 16).bind λy2 =>
  if y2.1==0 then
    (uq fu y2.2 8).bind λy3 =>
    some (({ Pq:=w64 (y3.1 - 1),Nw:=y.1.Nw }:Nv),y3.2)
  else
    if y2.1==1 then
      (uq fu y2.2 8).bind λy4 =>
      (app y.1.Nw [w64 (y4.1 - 1)]).bind λl =>
      some (({ Pq:=y.1.Pq,Nw:=l }:Nv),y4.2)
    else
      if y2.1==2 then
        some (({ Pq:=y.1.Pq,Nw:=([]:List Int) }:Nv),y2.2)
      else
        if y2.1==3 then
          if decide ((y.1.Nw.length:Int) > 1) then
            (idx y.1.Nw (w64 ((y.1.Nw.length:Int) - 1))).bind λe =>
            (app y.1.Nw [e]).bind λl2 =>
            some (({ Pq:=y.1.Pq,Nw:=l2 }:Nv),y2.2)
          else
            some (y.1,y2.2)
        else
          some (y.1,y2.2)
def cu (fu:Nat) (c:Pz) (list:List ByteArray):Option (ByteArray×Pz) :=
  (uq fu c (list.length:Int)).bind λy =>
  (idx list y.1).bind λe =>
  some (e,y.2)
def vN (fu:Nat):Nat→List Nt→List By→Int→U64→Option (List Nt×List By×Int×U64)
  | 0,_,_,_,_=>none
  | fk + 1,m,m2,m3,m4 =>
    (uq fu ({ code:=m2,at_:=m3,seed:=m4 }:Pz) 2).bind λy9 =>
    if decide ((m.length:Int)<(w64 (14 + y9.1))) then
      (idx m (w64 ((m.length:Int) - 1))).bind λe10 =>
      (app m [e10]).bind λl2 =>
      vN fu fk l2 y9.2.code y9.2.at_ y9.2.seed
    else
      some (m,y9.2.code,y9.2.at_,y9.2.seed)
def yt (fu:Nat) (c:Pz):Option (Nq×Pz) :=
  (yz fu c).bind λy =>
  if (y.1.Nw.length:Int)==0 then
    some (y.1,y.2)
  else
    (uq fu y.2 (y.1.Nw.length:Int)).bind λy2 =>
    (idx y.1.Nw y2.1).bind λe =>
    (uq fu y2.2 24).bind λy3 =>
    if y3.1==0 then
      (cu fu y3.2 [(⟨#[98]⟩:ByteArray),ByteArray.empty,(⟨#[65]⟩:ByteArray),(⟨#[97,98,99,100,101,102,103,104]⟩:ByteArray),(⟨#[97,98,99,100,101,102,103,104,105]⟩:ByteArray),(⟨#[120,49]⟩:ByteArray)]).bind λy4 =>
      (idx y.1.Nx 0).bind λe2 =>
      (idx y.1.Nw y2.1).bind λe3 =>
      some (({ Nx:=y.1.Nx.set (0:Int).toNat y4.1,Nw:=y.1.Nw.set (y2.1:Int).toNat e }:Nq),y4.2)
    else
      if y3.1==1 then
        (uq fu y3.2 8).bind λy5 =>
        (idx y.1.Nw y2.1).bind λe4 =>
        some (({ Nx:=y.1.Nx,Nw:=y.1.Nw.set (y2.1:Int).toNat ({ A:=w64 (y5.1 - 1),B:=e.B,Pk:=e.Pk,Pd:=e.Pd }:Nt) }:Nq),y5.2)
      else
        if y3.1==2 then
          (uq fu y3.2 10).bind λy6 =>
          (idx y.1.Nw y2.1).bind λe5 =>
          some (({ Nx:=y.1.Nx,Nw:=y.1.Nw.set (y2.1:Int).toNat ({ A:=e.A,B:=w64 (y6.1 - 1),Pk:=e.Pk,Pd:=e.Pd }:Nt) }:Nq),y6.2)
        else
          if y3.1==3 then
            (xF fu y3.2 [0,1,5000,5001]).bind λy7 =>
            (idx y.1.Nw y2.1).bind λe6 =>
            some (({ Nx:=y.1.Nx,Nw:=y.1.Nw.set (y2.1:Int).toNat ({ A:=e.A,B:=e.B,Pk:=y7.1,Pd:=e.Pd }:Nt) }:Nq),y7.2)
          else
            if y3.1==4 then
              (xF fu y3.2 [(-1),9,10]).bind λy8 =>
              (idx y.1.Nw y2.1).bind λe7 =>
              some (({ Nx:=y.1.Nx,Nw:=y.1.Nw.set (y2.1:Int).toNat ({ A:=e.A,B:=e.B,Pk:=e.Pk,Pd:=y8.1 }:Nt) }:Nq),y8.2)
            else
              if y3.1==5 then
                (idx y.1.Nw 0).bind λe8 =>
                (app y.1.Nw [e8]).bind λl =>
                (idx l y2.1).bind λe9 =>
                some (({ Nx:=y.1.Nx,Nw:=l.set (y2.1:Int).toNat e }:Nq),y3.2)
              else
                if y3.1==6 then
                  (vN fu fu y.1.Nw y3.2.code y3.2.at_ y3.2.seed).bind λz =>
                  some (({ Nx:=y.1.Nx,Nw:=z.1 }:Nq),({ code:=z.2.1,at_:=z.2.2.1,seed:=z.2.2.2 }:Pz))
                else
                  if y3.1==7 then
                    (app y.1.Nx [(⟨#[112]⟩:ByteArray),(⟨#[113]⟩:ByteArray),(⟨#[114]⟩:ByteArray),(⟨#[115]⟩:ByteArray)]).bind λl3 =>
                    (idx y.1.Nw y2.1).bind λe11 =>
                    some (({ Nx:=l3,Nw:=y.1.Nw.set (y2.1:Int).toNat e }:Nq),y3.2)
                  else
                    (idx y.1.Nw y2.1).bind λe12 =>
                    some (({ Nx:=y.1.Nx,Nw:=y.1.Nw.set (y2.1:Int).toNat e }:Nq),y3.2)
def xh (fu:Nat) (y:Nz×Pz):Nat→Int→List Nh→List By→Int→U64→Option (Int×List Nh×List By×Int×U64)
  | 0,_,_,_,_,_=>none
  | fk + 1,n',m,m2,m3,m4 =>
    (uq fu ({ code:=m2,at_:=m3,seed:=m4 }:Pz) 2).bind λy8 =>
    if decide ((m.length:Int)<(w64 (12 + y8.1))) then if decide (n'<14) then
      (idx y.1.Nq.Nw 0).bind λe7 =>
      (app m [({ Id:=w64 (500 + n'),Nv:=({ Pq:=e7.A,Nw:=[0] }:Nv),Nd:=({ Pj:=w64 (23 - n'),Px:=1 }:Nd) }:Nh)]).bind λl2 =>
      xh fu y fk (w64 (n' + 1)) l2 y8.2.code y8.2.at_ y8.2.seed
    else
      some (n',m,y8.2.code,y8.2.at_,y8.2.seed)
    else some (n',m,y8.2.code,y8.2.at_,y8.2.seed)
def zD (fu:Nat) (c:Pz):Option (Nz×Pz) :=
  (bh fu c).bind λy =>
  if (y.1.Nk.length:Int)==0 then
    some (y.1,y.2)
  else
    (uq fu y.2 (y.1.Nk.length:Int)).bind λy2 =>
    (idx y.1.Nk y2.1).bind λe =>
    (uq fu y2.2 24).bind λy3 =>
    if y3.1==0 then
      (xF fu y3.2 [0,999,1000,1,4]).bind λy4 =>
      (idx y.1.Nk y2.1).bind λe2 =>
      some (({ Nq:=y.1.Nq,Nk:=y.1.Nk.set (y2.1:Int).toNat ({ Id:=y4.1,Nv:=e.Nv,Nd:=e.Nd }:Nh) }:Nz),y4.2)
    else
      if y3.1==1 then
        (aK fu y3.2).bind λy5 =>
        (idx y.1.Nk y2.1).bind λe3 =>
        some (({ Nq:=y.1.Nq,Nk:=y.1.Nk.set (y2.1:Int).toNat ({ Id:=e.Id,Nv:=e.Nv,Nd:=y5.1 }:Nh) }:Nz),y5.2)
      else
        if y3.1==2 then
          (zj fu y3.2 y.1.Nq).bind λy6 =>
          (idx y.1.Nk y2.1).bind λe4 =>
          some (({ Nq:=y.1.Nq,Nk:=y.1.Nk.set (y2.1:Int).toNat ({ Id:=e.Id,Nv:=y6.1,Nd:=e.Nd }:Nh) }:Nz),y6.2)
        else
          if y3.1==3 then
            (app y.1.Nk [e]).bind λl =>
            (idx l y2.1).bind λe5 =>
            some (({ Nq:=y.1.Nq,Nk:=l.set (y2.1:Int).toNat e }:Nz),y3.2)
          else
            if y3.1==4 then
              (yt fu y3.2).bind λy7 =>
              (idx y.1.Nk y2.1).bind λe6 =>
              some (({ Nq:=y7.1,Nk:=y.1.Nk.set (y2.1:Int).toNat e }:Nz),y7.2)
            else
              if y3.1==5 then
                (xh fu y fu 0 y.1.Nk y3.2.code y3.2.at_ y3.2.seed).bind λz =>
                some (({ Nq:=y.1.Nq,Nk:=z.2.1 }:Nz),({ code:=z.2.2.1,at_:=z.2.2.2.1,seed:=z.2.2.2.2 }:Pz))
              else
                (idx y.1.Nk y2.1).bind λe8 =>
                some (({ Nq:=y.1.Nq,Nk:=y.1.Nk.set (y2.1:Int).toNat e }:Nz),y3.2)
def x8 (fu:Nat) (x1:Int) (a':Int) (b':Int):Option (Bool) :=
  (if decide (x1≥a') then some (decide (x1≤b'))
  else some false).bind λc =>
  some c
def dW (fu:Nat) (b':By):Option (Bool) :=
  (if decide (b'.n≥97) then if decide (b'.n≤122) then some true
  else if decide (b'.n≥48) then some (decide (b'.n≤57))
  else some false
  else if decide (b'.n≥48) then some (decide (b'.n≤57))
  else some false).bind λc =>
  some c
def yn (fu:Nat) (s':ByteArray):Nat→Int→Option (Out (Int) (Bool))
  | 0,_=>none
  | fk + 1,i =>
    if decide (i<(s'.size:Int)) then
      (sidx s' i).bind λe3 =>
      (dW fu e3).bind λy2 =>
      if !y2 then
        some (.ret false)
      else
        yn fu s' fk (w64 (i + 1))
    else
      some (.next i)
def dX (fu:Nat) (s':ByteArray):Option (Bool) :=
  ((x8 fu (s'.size:Int) 1 8).bind λy =>
  if !y then some true
  else (sidx s' 0).bind λe =>
  if decide (e.n<97) then some true
  else (sidx s' 0).bind λe2 =>
  some (decide (e2.n > 122))).bind λc =>
  if c then
    some false
  else
    (yn fu s' fu 0).bind λout=>out.on some λz =>
    some true
def yW (fu:Nat) (list:List ByteArray) (name:ByteArray):Nat→Int→Option (Out (Int) (Int))
  | 0,_=>none
  | fk + 1,i =>
    if decide (i<(list.length:Int)) then
      (idx list i).bind λe =>
      if e.toList==name.toList then
        some (.ret i)
      else
        yW fu list name fk (w64 (i + 1))
    else
      some (.next i)
def dY (fu:Nat) (list:List ByteArray) (name:ByteArray):Option (Int) :=
  (yW fu list name fu 0).bind λout=>out.on some λz =>
  some (-1)
def dh (fu:Nat) (f:Nt) (nodes:Int):Option (Bool) :=
  ((x8 fu f.A 0 (w64 (nodes - 1))).bind λy =>
  if y then (x8 fu f.B (w64 (f.A + 1)) (w64 (nodes - 1))).bind λy2 =>
  if y2 then (x8 fu f.Pk 1 5000).bind λy3 =>
  if y3 then (x8 fu f.Pd 0 9).bind λy4 =>
  some y4
  else some false
  else some false
  else some false).bind λc =>
  some c
def yV (fu:Nat) (n':Nq):Nat→Int→Option (Out (Int) (Bool))
  | 0,_=>none
  | fk + 1,i =>
    if decide (i<(n'.Nx.length:Int)) then
      ((idx n'.Nx i).bind λe =>
      (dX fu e).bind λy2 =>
      if !y2 then some true
      else (idx n'.Nx i).bind λe2 =>
      (dY fu n'.Nx e2).bind λy3 =>
      some (y3 != i)).bind λc4 =>
      if c4 then
        some (.ret false)
      else
        yV fu n' fk (w64 (i + 1))
    else
      some (.next i)
def yU (fu:Nat) (n':Nq):Nat→Int→Option (Out (Int) (Bool))
  | 0,_=>none
  | fk + 1,i3 =>
    if decide (i3<(n'.Nw.length:Int)) then
      ((idx n'.Nw i3).bind λe3 =>
      (dh fu e3 (n'.Nx.length:Int)).bind λy4 =>
      if !y4 then some true
      else if decide (i3 > 0) then (idx n'.Nw (w64 (i3 - 1))).bind λe4 =>
      (idx n'.Nw i3).bind λe5 =>
      (bz fu e4 e5).bind λy5 =>
      some (decide (y5 > 0))
      else some false).bind λc5 =>
      if c5 then
        some (.ret false)
      else
        yU fu n' fk (w64 (i3 + 1))
    else
      some (.next i3)
def bV (fu:Nat) (n':Nq):Option (Bool) :=
  ((x8 fu (n'.Nx.length:Int) 2 8).bind λy =>
  if !y then some true
  else some (decide ((n'.Nw.length:Int) > 14))).bind λc3 =>
  if c3 then
    some false
  else
    (yV fu n' fu 0).bind λout=>out.on some λz2 =>
    (yU fu n' fu 0).bind λout=>out.on some λz =>
    some true
def zT (fu:Nat) (n':Nq) (r':Nv):Nat→List Int→Int→Option (Out (List Int×Int) (List Int×Bool))
  | 0,_,_=>none
  | fk + 1,out',i =>
    if decide (i<(r'.Nw.length:Int)) then
      (idx r'.Nw i).bind λe =>
      (x8 fu e 0 (w64 ((n'.Nw.length:Int) - 1))).bind λy2 =>
      if !y2 then
        some (.ret (out',false))
      else
        (idx r'.Nw i).bind λe2 =>
        (idx out' (w64 ((out'.length:Int) - 1))).bind λe3 =>
        (yp fu n' e2 e3).bind λy3 =>
        (if decide (y3<0) then some true
        else (ah fu out' y3).bind λy4 =>
        some y4).bind λc6 =>
        if c6 then
          some (.ret (out',false))
        else
          (app out' [y3]).bind λl =>
          zT fu n' r' fk l (w64 (i + 1))
    else
      some (.next (out',i))
def cN (fu:Nat) (n':Nq) (r':Nv):Option (List Int×Bool) :=
  ((x8 fu r'.Pq 0 (w64 ((n'.Nx.length:Int) - 1))).bind λy =>
  if !y then some true
  else some ((r'.Nw.length:Int)==0)).bind λc4 =>
  if c4 then
    some ([r'.Pq],false)
  else
    (zT fu n' r' fu [r'.Pq] 0).bind λout=>out.on some λz =>
    some (z.1,true)
def dV (fu:Nat) (n':Nq) (r':Nv):Option (Bool) :=
  (bV fu n').bind λy =>
  if !y then
    some false
  else
    (cN fu n' r').bind λy2 =>
    some y2.2
def dT (fu:Nat) (b':Nd):Option (Bool) :=
  ((x8 fu b'.Pj 0 23).bind λy =>
  if y then (x8 fu b'.Px 1 (w64 (24 - b'.Pj))).bind λy2 =>
  some y2
  else some false).bind λc =>
  some c
def df (fu:Nat) (n':Nq) (x1:Nh):Option (Bool) :=
  ((x8 fu x1.Id 1 999).bind λy =>
  if y then (dV fu n' x1.Nv).bind λy2 =>
  if y2 then (dT fu x1.Nd).bind λy3 =>
  some y3
  else some false
  else some false).bind λc4 =>
  some c4
def yT (fu:Nat) (r':Nv) (group:List Int):Nat→Int→Option (Out (Int) (Bool))
  | 0,_=>none
  | fk + 1,i =>
    if decide (i<(r'.Nw.length:Int)) then
      (idx r'.Nw i).bind λe =>
      (ah fu group e).bind λy =>
      if y then
        some (.ret true)
      else
        yT fu r' group fk (w64 (i + 1))
    else
      some (.next i)
def xQ (fu:Nat) (r':Nv) (group:List Int):Option (Bool) :=
  (yT fu r' group fu 0).bind λout=>out.on some λz =>
  some false
def bI (fu:Nat) (x1:Nh) (y:Nh):Option (Bool) :=
  ((xQ fu x1.Nv y.Nv.Nw).bind λy2 =>
  if y2 then (xP fu x1.Nd).bind λy3 =>
  (xP fu y.Nd).bind λy4 =>
  some ((band y3 y4) != 0)
  else some false).bind λc3 =>
  some c3
def ym (fu:Nat) (p:Nz) (i:Int):Nat→Int→Option (Out (Int) (Bool))
  | 0,_=>none
  | fk + 1,k' =>
    if decide (k'<i) then
      (idx p.Nk k').bind λe4 =>
      (idx p.Nk i).bind λe5 =>
      (bI fu e4 e5).bind λy3 =>
      if y3 then
        some (.ret false)
      else
        ym fu p i fk (w64 (k' + 1))
    else
      some (.next k')
def yP (fu:Nat) (p:Nz):Nat→Int→Option (Out (Int) (Bool))
  | 0,_=>none
  | fk + 1,i =>
    if decide (i<(p.Nk.length:Int)) then
      ((idx p.Nk i).bind λe =>
      (df fu p.Nq e).bind λy2 =>
      if !y2 then some true
      else if decide (i > 0) then (idx p.Nk (w64 (i - 1))).bind λe2 =>
      (idx p.Nk i).bind λe3 =>
      some (decide (e2.Id≥e3.Id))
      else some false).bind λc5 =>
      if c5 then
        some (.ret false)
      else
        (ym fu p i fu 0).bind λout=>out.on (λr=>some (.ret r)) λz =>
        yP fu p fk (w64 (i + 1))
    else
      some (.next i)
def dS (fu:Nat) (p:Nz):Option (Bool) :=
  ((bV fu p.Nq).bind λy =>
  if !y then some true
  else some (decide ((p.Nk.length:Int) > 12))).bind λc4 =>
  if c4 then
    some false
  else
    (yP fu p fu 0).bind λout=>out.on some λz2 =>
    some true
def zl (fu:Nat) (list:List Nh):Nat→List Nh→Int→Option (List Nh×Int)
  | 0,_,_=>none
  | fk + 1,out',i =>
    if decide (i<(list.length:Int)) then
      (idx list i).bind λe =>
      (zR fu e).bind λy =>
      (app out' [y]).bind λal =>
      zl fu list fk al (w64 (i + 1))
    else
      some (out',i)
def cg (fu:Nat) (list:List Nh):Option (List Nh) :=
  (zl fu list fu ([]:List Nh) 0).bind λz =>
  some z.1
def zF (fu:Nat) (p:Nz):Option (Nj×Bool) :=
  (dS fu p).bind λy =>
  if !y then
    some (({ Nz:=({ Nq:=({ Nx:=[],Nw:=[] }:Nq),Nk:=[] }:Nz),Ng:=[],Np:=[] }:Nj),false)
  else
    (cc fu p).bind λy2 =>
    (cg fu p.Nk).bind λy3 =>
    some (({ Nz:=y2,Ng:=y3,Np:=([]:List Int) }:Nj),true)
def xc (fu:Nat) (n':Nq):Nat→List Int→Int→List By→Int→U64→Option (List Int×Int×List By×Int×U64)
  | 0,_,_,_,_,_=>none
  | fk + 1,out',i,m,m2,m3 =>
    if decide (i<(n'.Nw.length:Int)) then
      (xa fu ({ code:=m,at_:=m2,seed:=m3 }:Pz) 4).bind λy =>
      if y.1 then
        (app out' [i]).bind λl =>
        xc fu n' fk l (w64 (i + 1)) y.2.code y.2.at_ y.2.seed
      else
        xc fu n' fk out' (w64 (i + 1)) y.2.code y.2.at_ y.2.seed
    else
      some (out',i,m,m2,m3)
def aj (fu:Nat) (c:Pz) (n':Nq):Option (List Int×Pz) :=
  (xc fu n' fu ([]:List Int) 0 c.code c.at_ c.seed).bind λz =>
  (xa fu ({ code:=z.2.2.1,at_:=z.2.2.2.1,seed:=z.2.2.2.2 }:Pz) 40).bind λy2 =>
  if y2.1 then
    (uq fu y2.2 16).bind λy3 =>
    (app z.1 [w64 (y3.1 - 1)]).bind λl2 =>
    some (l2,y3.2)
  else
    some (z.1,y2.2)
def x3 (fu:Nat) (l:List Int) (lo:Int) (hi:Int):Nat→Int→Option (Out (Int) (Bool))
  | 0,_=>none
  | fk + 1,i =>
    if decide (i<(l.length:Int)) then
      ((idx l i).bind λe =>
      (x8 fu e lo hi).bind λy =>
      if !y then some true
      else if decide (i > 0) then (idx l (w64 (i - 1))).bind λe2 =>
      (idx l i).bind λe3 =>
      some (decide (e2≥e3))
      else some false).bind λc2 =>
      if c2 then
        some (.ret false)
      else
        x3 fu l lo hi fk (w64 (i + 1))
    else
      some (.next i)
def cr (fu:Nat) (l:List Int) (lo:Int) (hi:Int):Option (Bool) :=
  (x3 fu l lo hi fu 0).bind λout=>out.on some λz =>
  some true
def ef (fu:Nat) (n':Nq) (r':Nv):Option (List Int) :=
  (cN fu n' r').bind λy =>
  some y.1
def bw (fu:Nat) (n':Nq) (r':Nv):Option (Int) :=
  (ef fu n' r').bind λy =>
  (idx y (w64 ((y.length:Int) - 1))).bind λe =>
  some e
def aA (fu:Nat) (r':Nj):Option (Nj) :=
  (cc fu r'.Nz).bind λy =>
  (cg fu r'.Ng).bind λy2 =>
  (aT fu r'.Np).bind λy3 =>
  some ({ Nz:=y,Ng:=y2,Np:=y3 }:Nj)
def xJ (fu:Nat) (r':Nj) (fibers:List Int):Nat→Int→List Int→Option (Int×List Int)
  | 0,_,_=>none
  | fk + 1,i,m =>
    if decide (i<(r'.Np.length:Int)) then
      (idx r'.Np i).bind λe =>
      (ah fu fibers e).bind λy2 =>
      if !y2 then
        (idx r'.Np i).bind λe2 =>
        (app m [e2]).bind λl =>
        xJ fu r' fibers fk (w64 (i + 1)) l
      else
        xJ fu r' fibers fk (w64 (i + 1)) m
    else
      some (i,m)
def aV (fu:Nat) (r':Nj) (fibers:List Int):Option (Nj) :=
  (aA fu r').bind λy =>
  (xJ fu r' fibers fu 0 ([]:List Int)).bind λz =>
  some ({ Nz:=y.Nz,Ng:=y.Ng,Np:=z.2 }:Nj)
def yQ (fu:Nat) (p:Nz) (id:Int):Nat→Int→Option (Out (Int) (Int))
  | 0,_=>none
  | fk + 1,i =>
    if decide (i<(p.Nk.length:Int)) then
      (idx p.Nk i).bind λe =>
      if e.Id==id then
        some (.ret i)
      else
        yQ fu p id fk (w64 (i + 1))
    else
      some (.next i)
def zQ (fu:Nat) (p:Nz) (id:Int):Option (Int) :=
  (yQ fu p id fu 0).bind λout=>out.on some λz =>
  some (-1)
def vR (fu:Nat) (r':Nj):Nat→List Int→Int→Option (List Int×Int)
  | 0,_,_=>none
  | fk + 1,out',i =>
    if decide (i<(r'.Ng.length:Int)) then
      (idx r'.Ng i).bind λe =>
      (zQ fu r'.Nz e.Id).bind λy =>
      if decide (y<0) then
        (app out' [i]).bind λl =>
        vR fu r' fk l (w64 (i + 1))
      else
        vR fu r' fk out' (w64 (i + 1))
    else
      some (out',i)
def xi (fu:Nat) (r':Nj):Option (List Int) :=
  (vR fu r' fu ([]:List Int) 0).bind λz =>
  some z.1
def dU (fu:Nat) (n':Nq) (from':Int) (to:Int):Option (Bool) :=
  ((bV fu n').bind λy =>
  if y then (x8 fu from' 0 (w64 ((n'.Nx.length:Int) - 1))).bind λy2 =>
  if y2 then (x8 fu to 0 (w64 ((n'.Nx.length:Int) - 1))).bind λy3 =>
  if y3 then some (from' != to)
  else some false
  else some false
  else some false).bind λc3 =>
  some c3
def yC (fu:Nat) (n':Nq) (r':Nv):Nat→Int→Int→Option (Int×Int)
  | 0,_,_=>none
  | fk + 1,sum,i =>
    if decide (i<(r'.Nw.length:Int)) then
      (idx r'.Nw i).bind λe =>
      (idx n'.Nw e).bind λe2 =>
      yC fu n' r' fk (w64 (sum + e2.Pk)) (w64 (i + 1))
    else
      some (sum,i)
def bv (fu:Nat) (n':Nq) (r':Nv):Option (Int) :=
  (yC fu n' r' fu 0 0).bind λz =>
  some z.1
def bg (fu:Nat) (x1:Int):Option (Int) :=
  if decide (x1<0) then
    some (-1)
  else
    if decide (x1 > 0) then
      some 1
    else
      some 0
def yb (fu:Nat) (a':Nv) (b':Nv):Nat→Int→Option (Out (Int) (Int))
  | 0,_=>none
  | fk + 1,i =>
    if decide (i<(a'.Nw.length:Int)) then
      (idx a'.Nw i).bind λe =>
      (idx b'.Nw i).bind λe2 =>
      if e != e2 then
        (idx a'.Nw i).bind λe3 =>
        (idx b'.Nw i).bind λe4 =>
        (bg fu (w64 (e3 - e4))).bind λy5 =>
        some (.ret y5)
      else
        yb fu a' b' fk (w64 (i + 1))
    else
      some (.next i)
def bK (fu:Nat) (n':Nq) (a':Nv) (b':Nv):Option (Int) :=
  (bv fu n' a').bind λy =>
  (bv fu n' b').bind λy2 =>
  if (w64 (y - y2)) != 0 then
    (bg fu (w64 (y - y2))).bind λy3 =>
    some y3
  else
    if (w64 ((a'.Nw.length:Int) - (b'.Nw.length:Int))) != 0 then
      (bg fu (w64 ((a'.Nw.length:Int) - (b'.Nw.length:Int)))).bind λy4 =>
      some y4
    else
      (yb fu a' b' fu 0).bind λout=>out.on some λz =>
      (bg fu (w64 (a'.Pq - b'.Pq))).bind λy6 =>
      some y6
def xw (fu:Nat) (x1:Ph) (r':Nv):Nat→Int→Option (Int)
  | 0,_=>none
  | fk + 1,i =>
    (if decide (i > 0) then (idx x1.list (w64 (i - 1))).bind λe =>
    (bK fu x1.n r' e).bind λy =>
    some (decide (y<0))
    else some false).bind λc5 =>
    if c5 then
      xw fu x1 r' fk (w64 (i - 1))
    else
      some i
def ae (fu:Nat) (x1:Ph) (r':Nv):Option (Ph) :=
  (xw fu x1 r' fu (x1.list.length:Int)).bind λz =>
  (sub x1.list 0 z).bind λl =>
  (sub x1.list z (x1.list.length:Int)).bind λl2 =>
  (app ([]:List Nv) l).bind λl3 =>
  (app l3 [r']).bind λl4 =>
  (app l4 l2).bind λl5 =>
  some ({ n:=x1.n,to:=x1.to,list:=l5 }:Ph)
def vg (fu:Nat) (r':Nv) (seen:List Int) (rec_:(Ph)→(Nv)→(List Int)→Option (Ph)) (e:Int):Nat→Int→List ByteArray→List Nt→Int→List Nv→Option (Int×List ByteArray×List Nt×Int×List Nv)
  | 0,_,_,_,_,_=>none
  | fk + 1,i,m,m2,m3,m4 =>
    (if decide (i<(m2.length:Int)) then some (decide ((m4.length:Int)≤200))
    else some false).bind λc12 =>
    if c12 then
      (yp fu ({ Nx:=m,Nw:=m2 }:Nq) i e).bind λy2 =>
      (if decide (y2≥0) then (ah fu seen y2).bind λy3 =>
      some (!y3)
      else some false).bind λc13 =>
      if c13 then
        (aT fu r'.Nw).bind λy4 =>
        (app y4 [i]).bind λl =>
        (aT fu seen).bind λy5 =>
        (app y5 [y2]).bind λl2 =>
        (rec_ ({ n:=({ Nx:=m,Nw:=m2 }:Nq),to:=m3,list:=m4 }:Ph) ({ Pq:=r'.Pq,Nw:=l }:Nv) l2).bind λy6 =>
        vg fu r' seen rec_ e fk (w64 (i + 1)) y6.n.Nx y6.n.Nw y6.to y6.list
      else
        vg fu r' seen rec_ e fk (w64 (i + 1)) m m2 m3 m4
    else
      some (i,m,m2,m3,m4)
def zr (fu:Nat) (rec_:(Ph)→(Nv)→(List Int)→Option (Ph)) (x1:Ph) (r':Nv) (seen:List Int):Option (Ph) :=
  (idx seen (w64 ((seen.length:Int) - 1))).bind λe =>
  if e==x1.to then
    (ae fu x1 r').bind λy =>
    some y
  else
    (vg fu r' seen rec_ e fu 0 x1.n.Nx x1.n.Nw x1.to x1.list).bind λz =>
    some ({ n:=({ Nx:=z.2.1,Nw:=z.2.2.1 }:Nq),to:=z.2.2.2.1,list:=z.2.2.2.2 }:Ph)
def vn:Nat→(Ph)→(Nv)→(List Int)→Option (Ph)
  | 0,_,_,_=>none
  | fu + 1,x1,r',seen=>zr fu (λx1 r' seen=>vn fu x1 r' seen) x1 r' seen
def eE (fu:Nat) (n':Nq) (from':Int) (to:Int):Option (List Nv×Bool) :=
  (vn fu ({ n:=n',to:=to,list:=[] }:Ph) ({ Pq:=from',Nw:=[] }:Nv) [from']).bind λy =>
  if decide ((y.list.length:Int) > 200) then
    some (([]:List Nv),false)
  else
    (app ([]:List Nv) y.list).bind λl =>
    some (l,true)
def zY (fu:Nat) (n':Nq) (from':Int) (to:Int):Option (List Nv×Bool) :=
  (dU fu n' from' to).bind λy =>
  if !y then
    some (([]:List Nv),false)
  else
    (eE fu n' from' to).bind λy2 =>
    some (y2.1,y2.2)
def vM (fu:Nat) (r':Nj) (home:Nh) (y6:List Nv×Bool):Nat→Int→Option (Out (Int) (Nh×Bool))
  | 0,_=>none
  | fk + 1,i =>
    (if decide (i<(y6.1.length:Int)) then some y6.2
    else some false).bind λc10 =>
    if c10 then
      (idx y6.1 i).bind λe =>
      (xQ fu e r'.Np).bind λy7 =>
      if y7 then
        vM fu r' home y6 fk (w64 (i + 1))
      else
        (idx y6.1 i).bind λe2 =>
        (yo fu r'.Nz e2).bind λy8 =>
        (cM fu y8 home.Nd.Px).bind λy9 =>
        if decide ((y9.length:Int) > 0) then
          (idx y6.1 i).bind λe3 =>
          (idx y9 0).bind λe4 =>
          (cO fu e3).bind λy10 =>
          some (.ret (({ Id:=home.Id,Nv:=y10,Nd:=({ Pj:=e4,Px:=home.Nd.Px }:Nd) }:Nh),true))
        else
          vM fu r' home y6 fk (w64 (i + 1))
    else
      some (.next i)
def az (fu:Nat) (r':Nj) (home:Nh):Option (Nh×Bool) :=
  ((xQ fu home.Nv r'.Np).bind λy =>
  if !y then (yo fu r'.Nz home.Nv).bind λy2 =>
  (xP fu home.Nd).bind λy3 =>
  some ((band y2 y3)==0)
  else some false).bind λc7 =>
  if c7 then
    (zR fu home).bind λy4 =>
    some (y4,true)
  else
    (bw fu r'.Nz.Nq home.Nv).bind λy5 =>
    (zY fu r'.Nz.Nq home.Nv.Pq y5).bind λy6 =>
    (vM fu r' home y6 fu 0).bind λout=>out.on some λz =>
    some (({ Id:=0,Nv:=({ Pq:=0,Nw:=[] }:Nv),Nd:=({ Pj:=0,Px:=0 }:Nd) }:Nh),false)
def xR (fu:Nat) (r':Nj) (i:Int):Option (Nj×Bool) :=
  (idx r'.Ng i).bind λe =>
  (az fu r' e).bind λy =>
  (aA fu r').bind λy2 =>
  if y.2 then
    (za fu y2.Nz y.1).bind λy3 =>
    some (({ Nz:=y3,Ng:=y2.Ng,Np:=y2.Np }:Nj),y.2)
  else
    some (y2,y.2)
def xn (fu:Nat) (r':Nj) (y2:List Int):Nat→List Int→Int→List ByteArray→List Nt→List Nh→List Nh→List Int→Option (List Int×Int×List ByteArray×List Nt×List Nh×List Nh×List Int)
  | 0,_,_,_,_,_,_,_=>none
  | fk + 1,ids,i,m,m2,m3,m4,m5 =>
    if decide (i<(y2.length:Int)) then
      (idx y2 i).bind λe =>
      (xR fu ({ Nz:=({ Nq:=({ Nx:=m,Nw:=m2 }:Nq),Nk:=m3 }:Nz),Ng:=m4,Np:=m5 }:Nj) e).bind λy3 =>
      if y3.2 then
        (idx y2 i).bind λe2 =>
        (idx r'.Ng e2).bind λe3 =>
        (app ids [e3.Id]).bind λl =>
        xn fu r' y2 fk l (w64 (i + 1)) y3.1.Nz.Nq.Nx y3.1.Nz.Nq.Nw y3.1.Nz.Nk y3.1.Ng y3.1.Np
      else
        xn fu r' y2 fk ids (w64 (i + 1)) y3.1.Nz.Nq.Nx y3.1.Nz.Nq.Nw y3.1.Nz.Nk y3.1.Ng y3.1.Np
    else
      some (ids,i,m,m2,m3,m4,m5)
def zX (fu:Nat) (r':Nj):Option (Nj×List Int) :=
  (aA fu r').bind λy =>
  (xi fu r').bind λy2 =>
  (xn fu r' y2 fu ([]:List Int) 0 y.Nz.Nq.Nx y.Nz.Nq.Nw y.Nz.Nk y.Ng y.Np).bind λz =>
  some (({ Nz:=({ Nq:=({ Nx:=z.2.2.1,Nw:=z.2.2.2.1 }:Nq),Nk:=z.2.2.2.2.1 }:Nz),Ng:=z.2.2.2.2.2.1,Np:=z.2.2.2.2.2.2 }:Nj),z.1)
def ay (fu:Nat) (l:List Int) (n':Int):Nat→Int→Option (Int)
  | 0,_=>none
  | fk + 1,k' =>
    (if decide (k'<(l.length:Int)) then (idx l k').bind λe =>
    some (decide (e<n'))
    else some false).bind λc2 =>
    if c2 then
      ay fu l n' fk (w64 (k' + 1))
    else
      some k'
def eF (fu:Nat) (l:List Int) (n':Int):Option (List Int) :=
  (ay fu l n' fu 0).bind λz =>
  (if decide (z<(l.length:Int)) then (idx l z).bind λe2 =>
  some (e2==n')
  else some false).bind λc3 =>
  if c3 then
    some l
  else
    (sub l 0 z).bind λl2 =>
    (sub l z (l.length:Int)).bind λl3 =>
    (app ([]:List Int) l2).bind λl4 =>
    (app l4 [n']).bind λl5 =>
    (app l5 l3).bind λl6 =>
    some l6
def yl (fu:Nat) (p:Nz) (i:Int):Option (Nz) :=
  (cc fu p).bind λy =>
  (sub y.Nk 0 i).bind λl =>
  (sub y.Nk (w64 (i + 1)) (y.Nk.length:Int)).bind λl2 =>
  (app ([]:List Nh) l).bind λl3 =>
  (app l3 l2).bind λl4 =>
  some ({ Nq:=y.Nq,Nk:=l4 }:Nz)
def zk (fu:Nat) (fibers:List Int):Nat→Int→List Int→Option (Int×List Int)
  | 0,_,_=>none
  | fk + 1,i,m =>
    if decide (i<(fibers.length:Int)) then
      (idx fibers i).bind λe =>
      (eF fu m e).bind λy2 =>
      zk fu fibers fk (w64 (i + 1)) y2
    else
      some (i,m)
def xS (fu:Nat) (r':Nj) (fibers:List Int):Nat→List Int→Int→List ByteArray→List Nt→List Nh→Option (List Int×Int×List ByteArray×List Nt×List Nh)
  | 0,_,_,_,_,_=>none
  | fk + 1,lost,i3,m3,m4,m5 =>
    if decide (i3<(r'.Nz.Nk.length:Int)) then
      (idx r'.Nz.Nk i3).bind λe2 =>
      (xQ fu e2.Nv fibers).bind λy3 =>
      if y3 then
        (app lost [e2.Id]).bind λl =>
        (zQ fu ({ Nq:=({ Nx:=m3,Nw:=m4 }:Nq),Nk:=m5 }:Nz) e2.Id).bind λy4 =>
        (yl fu ({ Nq:=({ Nx:=m3,Nw:=m4 }:Nq),Nk:=m5 }:Nz) y4).bind λy5 =>
        xS fu r' fibers fk l (w64 (i3 + 1)) y5.Nq.Nx y5.Nq.Nw y5.Nk
      else
        xS fu r' fibers fk lost (w64 (i3 + 1)) m3 m4 m5
    else
      some (lost,i3,m3,m4,m5)
def ce (fu:Nat) (r':Nj) (fibers:List Int):Option (Nj×List Int) :=
  (aA fu r').bind λy =>
  (zk fu fibers fu 0 y.Np).bind λz2 =>
  (xS fu r' fibers fu ([]:List Int) 0 y.Nz.Nq.Nx y.Nz.Nq.Nw y.Nz.Nk).bind λz =>
  some (({ Nz:=({ Nq:=({ Nx:=z.2.2.1,Nw:=z.2.2.2.1 }:Nq),Nk:=z.2.2.2.2 }:Nz),Ng:=y.Ng,Np:=z2.2 }:Nj),z.1)
def xx (fu:Nat) (n':Int) (low:Int) (high:Int):Option (Bool) :=
  (if decide (low≤n') then some (decide (n'≤high))
  else some false).bind λc =>
  some c
def xD (fu:Nat) (s':ByteArray):Nat→Int→Option (Out (Int) (Bool))
  | 0,_=>none
  | fk + 1,i =>
    if decide (i<(s'.size:Int)) then
      (sidx s' i).bind λe =>
      (sidx s' i).bind λe2 =>
      if decide (e.n≥97) then (sidx s' i).bind λe3 =>
      if decide (e2.n≥48) then (sidx s' i).bind λe4 =>
      (if !(decide (e3.n≤122)) then if !(decide (e4.n≤57)) then some true
      else some (i==0)
      else some false).bind λc =>
      if c then
        some (.ret false)
      else
        xD fu s' fk (w64 (i + 1))
      else (if !(decide (e3.n≤122)) then if !false then some true
      else some (i==0)
      else some false).bind λc2 =>
      if c2 then
        some (.ret false)
      else
        xD fu s' fk (w64 (i + 1))
      else if decide (e2.n≥48) then (sidx s' i).bind λe5 =>
      (if !false then if !(decide (e5.n≤57)) then some true
      else some (i==0)
      else some false).bind λc3 =>
      if c3 then
        some (.ret false)
      else
        xD fu s' fk (w64 (i + 1))
      else (if !false then if !false then some true
      else some (i==0)
      else some false).bind λc4 =>
      if c4 then
        some (.ret false)
      else
        xD fu s' fk (w64 (i + 1))
    else
      some (.next i)
def d9 (fu:Nat) (s':ByteArray):Option (Bool) :=
  (xD fu s' fu 0).bind λout=>out.on some λz =>
  (xx fu (s'.size:Int) 1 8).bind λy =>
  some y
def u6 (fu:Nat) (s':List ByteArray) (v:ByteArray):Nat→Int→Option (Out (Int) (Int))
  | 0,_=>none
  | fk + 1,i =>
    if decide (i<(s'.length:Int)) then
      (idx s' i).bind λe =>
      if v.toList==e.toList then
        some (.ret i)
      else
        u6 fu s' v fk (w64 (i + 1))
    else
      some (.next i)
def xu (fu:Nat) (s':List ByteArray) (v:ByteArray):Option (Int) :=
  (u6 fu s' v fu 0).bind λout=>out.on some λz =>
  some (-1)
def vZ (fu:Nat) (s':List ByteArray) (v:ByteArray):Option (Bool) :=
  (xu fu s' v).bind λy =>
  some (decide (y≥0))
def cmp_isNaN_int (fu:Nat) (x1:Int):Option (Bool) :=
  some (x1 != x1)
def cmp_Compare_int (fu:Nat) (x1:Int) (y:Int):Option (Int) :=
  (cmp_isNaN_int fu x1).bind λy2 =>
  (cmp_isNaN_int fu y).bind λy3 =>
  if y2 then
    if y3 then
      some 0
    else
      some (-1)
  else
    if y3 then
      some 1
    else
      if decide (x1<y) then
        some (-1)
      else
        if decide (x1 > y) then
          some 1
        else
          some 0
def zN (fu:Nat) (vals:List Int):Nat→Int→Option (Out (Int) (Int))
  | 0,_=>none
  | fk + 1,i =>
    if decide (i<(vals.length:Int)) then
      (idx vals i).bind λe =>
      if e != 0 then
        some (.ret e)
      else
        zN fu vals fk (w64 (i + 1))
    else
      some (.next i)
def dP (fu:Nat) (vals:List Int):Option (Int) :=
  (zN fu vals fu 0).bind λout=>out.on some λz =>
  some 0
def zJ (fu:Nat) (a':Nt) (b':Nt):Option (Int) :=
  (cmp_Compare_int fu a'.A b'.A).bind λy =>
  (cmp_Compare_int fu a'.B b'.B).bind λy2 =>
  (cmp_Compare_int fu a'.Pk b'.Pk).bind λy3 =>
  (cmp_Compare_int fu a'.Pd b'.Pd).bind λy4 =>
  (dP fu [y,y2,y3,y4]).bind λy5 =>
  some y5
def vI (fu:Nat) (n':Nq):Nat→Int→Option (Out (Int) (Bool))
  | 0,_=>none
  | fk + 1,i =>
    if decide (i<(n'.Nx.length:Int)) then
      (idx n'.Nx i).bind λe =>
      ((d9 fu e).bind λy =>
      if !y then some true
      else (sub n'.Nx 0 i).bind λl =>
      (vZ fu l e).bind λy2 =>
      some y2).bind λc3 =>
      if c3 then
        some (.ret false)
      else
        vI fu n' fk (w64 (i + 1))
    else
      some (.next i)
def vH (fu:Nat) (n':Nq):Nat→Int→Option (Out (Int) (Bool))
  | 0,_=>none
  | fk + 1,i3 =>
    if decide (i3<(n'.Nw.length:Int)) then
      (idx n'.Nw i3).bind λe2 =>
      (if decide (e2.A<0) then some true
      else if decide (e2.A≥e2.B) then some true
      else if decide (e2.B≥(n'.Nx.length:Int)) then some true
      else (xx fu e2.Pk 1 5000).bind λy3 =>
      if !y3 then some true
      else (xx fu e2.Pd 0 9).bind λy4 =>
      if !y4 then some true
      else if decide (i3 > 0) then (idx n'.Nw (w64 (i3 - 1))).bind λe3 =>
      (zJ fu e3 e2).bind λy5 =>
      some (decide (y5 > 0))
      else some false).bind λc5 =>
      if c5 then
        some (.ret false)
      else
        vH fu n' fk (w64 (i3 + 1))
    else
      some (.next i3)
def yh (fu:Nat) (n':Nq):Option (Bool) :=
  (vI fu n' fu 0).bind λout=>out.on some λz2 =>
  (vH fu n' fu 0).bind λout=>out.on some λz =>
  ((xx fu (n'.Nx.length:Int) 2 8).bind λy6 =>
  if y6 then some (decide ((n'.Nw.length:Int)≤14))
  else some false).bind λc6 =>
  some c6
def cC (fu:Nat) (f:Nt) (node:Int):Option (Int) :=
  if node==f.A then
    some f.B
  else
    if node==f.B then
      some f.A
    else
      some (-1)
def vw (fu:Nat) (s':List Int) (v:Int):Nat→Int→Option (Out (Int) (Int))
  | 0,_=>none
  | fk + 1,i =>
    if decide (i<(s'.length:Int)) then
      (idx s' i).bind λe =>
      if v==e then
        some (.ret i)
      else
        vw fu s' v fk (w64 (i + 1))
    else
      some (.next i)
def yI (fu:Nat) (s':List Int) (v:Int):Option (Int) :=
  (vw fu s' v fu 0).bind λout=>out.on some λz =>
  some (-1)
def vY (fu:Nat) (s':List Int) (v:Int):Option (Bool) :=
  (yI fu s' v).bind λy =>
  some (decide (y≥0))
def zm (fu:Nat) (n':Nq) (r':Nv):Nat→List Int→Int→Int→Option (Out (List Int×Int×Int) (List Int×Bool))
  | 0,_,_,_=>none
  | fk + 1,out',at',i =>
    if decide (i<(r'.Nw.length:Int)) then
      (idx r'.Nw i).bind λe =>
      (xx fu e 0 (w64 ((n'.Nw.length:Int) - 1))).bind λy2 =>
      if !y2 then
        some (.ret ([],false))
      else
        (idx n'.Nw e).bind λe2 =>
        (cC fu e2 at').bind λy3 =>
        (if decide (y3<0) then some true
        else (vY fu out' y3).bind λy4 =>
        some y4).bind λc6 =>
        if c6 then
          some (.ret ([],false))
        else
          (app out' [y3]).bind λl =>
          zm fu n' r' fk l y3 (w64 (i + 1))
    else
      some (.next (out',at',i))
def ck (fu:Nat) (n':Nq) (r':Nv):Option (List Int×Bool) :=
  ((xx fu r'.Pq 0 (w64 ((n'.Nx.length:Int) - 1))).bind λy =>
  if !y then some true
  else some ((r'.Nw.length:Int)==0)).bind λc4 =>
  if c4 then
    some ([],false)
  else
    (zm fu n' r' fu [r'.Pq] r'.Pq 0).bind λout=>out.on some λz =>
    some (z.1,true)
def ar (fu:Nat) (b':Nd):Option (Bool) :=
  (if decide (b'.Pj≥0) then (xx fu b'.Px 1 24).bind λy =>
  if y then some (decide (b'.Pj≤(w64 (24 - b'.Px))))
  else some false
  else some false).bind λc =>
  some c
def dq (fu:Nat) (n':Nq) (x1:Nh):Option (Bool) :=
  (ck fu n' x1.Nv).bind λy =>
  (if y.2 then (xx fu x1.Id 1 999).bind λy2 =>
  if y2 then (ar fu x1.Nd).bind λy3 =>
  some y3
  else some false
  else some false).bind λc5 =>
  some c5
def bq (fu:Nat) (b':Nd):Option (Int) :=
  (shl 1 b'.Px).bind λq =>
  (shl (w64 (q - 1)) b'.Pj).bind λq2 =>
  some q2
def yc (fu:Nat) (x:List Int):Option (List Int):=sP x
def xB (fu:Nat) (x:List Int):Option (List Int):=some (jf x)
def yZ (fu:Nat) (a':List Int) (b':List Int):Nat→List Int→Int→Option (List Int×Int)
  | 0,_,_=>none
  | fk + 1,out',i =>
    if decide (i<(a'.length:Int)) then
      (idx a' i).bind λe =>
      (vY fu b' e).bind λy =>
      if y then
        (app out' [e]).bind λl =>
        yZ fu a' b' fk l (w64 (i + 1))
      else
        yZ fu a' b' fk out' (w64 (i + 1))
    else
      some (out',i)
def z7 (fu:Nat) (a':List Int) (b':List Int):Option (List Int) :=
  (yZ fu a' b' fu ([]:List Int) 0).bind λz =>
  (yc fu z.1).bind λy2 =>
  (xB fu y2).bind λy3 =>
  some y3
def cm (fu:Nat) (a':Nh) (b':Nh):Option (Bool) :=
  ((bq fu a'.Nd).bind λy =>
  (bq fu b'.Nd).bind λy2 =>
  if (band y y2) != 0 then (z7 fu a'.Nv.Nw b'.Nv.Nw).bind λy3 =>
  some (decide ((y3.length:Int) > 0))
  else some false).bind λc3 =>
  some c3
def aH (fu:Nat) (own:Nh) (cap:Nh):Option (Bool) :=
  (cm fu own cap).bind λy =>
  some y
def uo (fu:Nat) (s':List Nh) (cap:Nh):Nat→Int→Option (Out (Int) (Int))
  | 0,_=>none
  | fk + 1,i =>
    if decide (i<(s'.length:Int)) then
      (idx s' i).bind λe =>
      (aH fu e cap).bind λy =>
      if y then
        some (.ret i)
      else
        uo fu s' cap fk (w64 (i + 1))
    else
      some (.next i)
def uO (fu:Nat) (s':List Nh) (cap:Nh):Option (Int) :=
  (uo fu s' cap fu 0).bind λout=>out.on some λz =>
  some (-1)
def uz (fu:Nat) (s':List Nh) (cap:Nh):Option (Bool) :=
  (uO fu s' cap).bind λy =>
  some (decide (y≥0))
def xm (fu:Nat) (p:Nz):Nat→Int→Option (Out (Int) (Bool))
  | 0,_=>none
  | fk + 1,i =>
    if decide (i<(p.Nk.length:Int)) then
      (idx p.Nk i).bind λe =>
      ((dq fu p.Nq e).bind λy2 =>
      if !y2 then some true
      else if decide (i > 0) then (idx p.Nk (w64 (i - 1))).bind λe2 =>
      if decide (e2.Id≥e.Id) then some true
      else (sub p.Nk 0 i).bind λl =>
      (uz fu l e).bind λy3 =>
      some y3
      else (sub p.Nk 0 i).bind λl2 =>
      (uz fu l2 e).bind λy4 =>
      some y4).bind λc6 =>
      if c6 then
        some (.ret false)
      else
        xm fu p fk (w64 (i + 1))
    else
      some (.next i)
def yH (fu:Nat) (p:Nz):Option (Bool) :=
  ((yh fu p.Nq).bind λy =>
  if !y then some true
  else some (decide ((p.Nk.length:Int) > 12))).bind λc4 =>
  if c4 then
    some false
  else
    (xm fu p fu 0).bind λout=>out.on some λz =>
    some true
def zH (fu:Nat) (l:List Int) (n':Int):Nat→Int→Option (Out (Int) (Bool))
  | 0,_=>none
  | fk + 1,i =>
    if decide (i<(l.length:Int)) then
      (idx l i).bind λe =>
      ((xx fu e 0 (w64 (n' - 1))).bind λy =>
      if !y then some true
      else if decide (i > 0) then (idx l (w64 (i - 1))).bind λe2 =>
      some (decide (e2≥e))
      else some false).bind λc2 =>
      if c2 then
        some (.ret false)
      else
        zH fu l n' fk (w64 (i + 1))
    else
      some (.next i)
def dO (fu:Nat) (l:List Int) (n':Int):Option (Bool) :=
  (zH fu l n' fu 0).bind λout=>out.on some λz =>
  some true
def dc (fu:Nat) (x1:Nh) (cap:Int):Option (Bool) :=
  some (x1.Id==cap)
def uv (fu:Nat) (s':List Nh) (cap:Int):Nat→Int→Option (Out (Int) (Int))
  | 0,_=>none
  | fk + 1,i =>
    if decide (i<(s'.length:Int)) then
      (idx s' i).bind λe =>
      (dc fu e cap).bind λy =>
      if y then
        some (.ret i)
      else
        uv fu s' cap fk (w64 (i + 1))
    else
      some (.next i)
def uX (fu:Nat) (s':List Nh) (cap:Int):Option (Int) :=
  (uv fu s' cap fu 0).bind λout=>out.on some λz =>
  some (-1)
def bW (fu:Nat) (r':Nj) (id:Int):Option (Int) :=
  (uX fu r'.Ng id).bind λy =>
  some y
def cS (fu:Nat) (n':Nq) (r':Nv):Option (Int) :=
  (ck fu n' r').bind λy =>
  (idx y.1 (w64 ((y.1.length:Int) - 1))).bind λe =>
  some e
def x7 (fu:Nat) (x1:Nh) (cap:Nj) (cap2:Nq):Option (Bool) :=
  (bW fu cap x1.Id).bind λy =>
  (if decide (y<0) then some true
  else (z7 fu x1.Nv.Nw cap.Np).bind λy2 =>
  some (decide ((y2.length:Int) > 0))).bind λc9 =>
  if c9 then
    some true
  else
    (idx cap.Ng y).bind λe =>
    (if e.Nv.Pq != x1.Nv.Pq then some true
    else (cS fu cap2 e.Nv).bind λy3 =>
    (cS fu cap2 x1.Nv).bind λy4 =>
    if y3 != y4 then some true
    else some (e.Nd.Px != x1.Nd.Px)).bind λc12 =>
    some c12
def uj (fu:Nat) (s':List Nh) (cap:Nj) (cap2:Nq):Nat→Int→Option (Out (Int) (Int))
  | 0,_=>none
  | fk + 1,i =>
    if decide (i<(s'.length:Int)) then
      (idx s' i).bind λe =>
      (x7 fu e cap cap2).bind λy =>
      if y then
        some (.ret i)
      else
        uj fu s' cap cap2 fk (w64 (i + 1))
    else
      some (.next i)
def uI (fu:Nat) (s':List Nh) (cap:Nj) (cap2:Nq):Option (Int) :=
  (uj fu s' cap cap2 fu 0).bind λout=>out.on some λz =>
  some (-1)
def uG (fu:Nat) (s':List Nh) (cap:Nj) (cap2:Nq):Option (Bool) :=
  (uI fu s' cap cap2).bind λy =>
  some (decide (y≥0))
def vz (fu:Nat) (r':Nj):Option (Bool) :=
  ((yH fu r'.Nz).bind λy =>
  if !y then some true
  else (yH fu ({ Nq:=r'.Nz.Nq,Nk:=r'.Ng }:Nz)).bind λy2 =>
  if !y2 then some true
  else (dO fu r'.Np (r'.Nz.Nq.Nw.length:Int)).bind λy3 =>
  some (!y3)).bind λc6 =>
  if c6 then
    some false
  else
    (uG fu r'.Nz.Nk r' r'.Nz.Nq).bind λy4 =>
    some (!y4)
def bU (fu:Nat) (n':Nq):Option (Nq) :=
  (app ([]:List ByteArray) n'.Nx).bind λl =>
  (app ([]:List Nt) n'.Nw).bind λl2 =>
  some ({ Nx:=l,Nw:=l2 }:Nq)
def z6 (fu:Nat) (r':Nv):Option (Nv) :=
  (app ([]:List Int) r'.Nw).bind λl =>
  some ({ Pq:=r'.Pq,Nw:=l }:Nv)
def yG (fu:Nat) (p:Nz):Nat→Int→List Nh→Option (Int×List Nh)
  | 0,_,_=>none
  | fk + 1,i,m =>
    if decide (i<(p.Nk.length:Int)) then
      (idx p.Nk i).bind λe =>
      (z6 fu e.Nv).bind λy2 =>
      (app m [({ Id:=e.Id,Nv:=y2,Nd:=e.Nd }:Nh)]).bind λal =>
      yG fu p fk (w64 (i + 1)) al
    else
      some (i,m)
def aG (fu:Nat) (p:Nz):Option (Nz) :=
  (bU fu p.Nq).bind λy =>
  (yG fu p fu 0 ([]:List Nh)).bind λz =>
  some ({ Nq:=y,Nk:=z.2 }:Nz)
def dF (fu:Nat) (l:List Int):Option (List Int) :=
  (app ([]:List Int) l).bind λl2 =>
  some l2
def vf (fu:Nat) (r':Nj):Option (Nj) :=
  (aG fu r'.Nz).bind λy =>
  (aG fu ({ Nq:=({ Nx:=[],Nw:=[] }:Nq),Nk:=r'.Ng }:Nz)).bind λy2 =>
  (dF fu r'.Np).bind λy3 =>
  some ({ Nz:=y,Ng:=y2.Nk,Np:=y3 }:Nj)
def vx (fu:Nat) (s1:List Int) (s2:List Int):Nat→Int→Option (Out (Int) (Bool))
  | 0,_=>none
  | fk + 1,i =>
    if decide (i<(s1.length:Int)) then
      (idx s1 i).bind λe =>
      (idx s2 i).bind λe2 =>
      if e != e2 then
        some (.ret false)
      else
        vx fu s1 s2 fk (w64 (i + 1))
    else
      some (.next i)
def xY (fu:Nat) (s1:List Int) (s2:List Int):Option (Bool) :=
  if (s1.length:Int) != (s2.length:Int) then
    some false
  else
    (vx fu s1 s2 fu 0).bind λout=>out.on some λz =>
    some true
def da (fu:Nat) (own:Nh) (cap:Nh):Option (Bool) :=
  (if own.Id != cap.Id then (cm fu own cap).bind λy =>
  some y
  else some false).bind λc3 =>
  some c3
def uu (fu:Nat) (s':List Nh) (cap:Nh):Nat→Int→Option (Out (Int) (Int))
  | 0,_=>none
  | fk + 1,i =>
    if decide (i<(s'.length:Int)) then
      (idx s' i).bind λe =>
      (da fu e cap).bind λy =>
      if y then
        some (.ret i)
      else
        uu fu s' cap fk (w64 (i + 1))
    else
      some (.next i)
def uW (fu:Nat) (s':List Nh) (cap:Nh):Option (Int) :=
  (uu fu s' cap fu 0).bind λout=>out.on some λz =>
  some (-1)
def uQ (fu:Nat) (s':List Nh) (cap:Nh):Option (Bool) :=
  (uW fu s' cap).bind λy =>
  some (decide (y≥0))
def cR (fu:Nat) (r':Nj) (x1:Nh):Option (Bool) :=
  ((z7 fu x1.Nv.Nw r'.Np).bind λy =>
  if (y.length:Int)==0 then (uQ fu r'.Nz.Nk x1).bind λy2 =>
  some (!y2)
  else some false).bind λc7 =>
  some c7
def xd (fu:Nat) (y2:Nj):Nat→List Int→Int→List Nh→Option (List Int×Int×List Nh)
  | 0,_,_,_=>none
  | fk + 1,ids,i,m =>
    if decide (i<(y2.Nz.Nk.length:Int)) then
      (idx m i).bind λe =>
      (bW fu ({ Nz:=({ Nq:=y2.Nz.Nq,Nk:=m }:Nz),Ng:=y2.Ng,Np:=y2.Np }:Nj) e.Id).bind λy3 =>
      (idx y2.Ng y3).bind λe2 =>
      (if e.Nv.Pq==e2.Nv.Pq then (xY fu e.Nv.Nw e2.Nv.Nw).bind λy4 =>
      if y4 then some (([e.Nd.Pj,e.Nd.Px]:List Int)==([e2.Nd.Pj,e2.Nd.Px]:List Int))
      else some false
      else some false).bind λc15 =>
      (if !c15 then (cR fu ({ Nz:=({ Nq:=y2.Nz.Nq,Nk:=m }:Nz),Ng:=y2.Ng,Np:=y2.Np }:Nj) e2).bind λy5 =>
      some y5
      else some false).bind λc16 =>
      if c16 then
        (z6 fu e2.Nv).bind λy6 =>
        (idx m i).bind λe3 =>
        (app ids [e.Id]).bind λl =>
        xd fu y2 fk l (w64 (i + 1)) (m.set (i:Int).toNat ({ Id:=e.Id,Nv:=y6,Nd:=e2.Nd }:Nh))
      else
        xd fu y2 fk ids (w64 (i + 1)) m
    else
      some (ids,i,m)
def xN (fu:Nat) (r':Nj):Option (Nj×List Int×Bool) :=
  (vz fu r').bind λy =>
  if !y then
    some (({ Nz:=({ Nq:=({ Nx:=[],Nw:=[] }:Nq),Nk:=[] }:Nz),Ng:=[],Np:=[] }:Nj),[],false)
  else
    (vf fu r').bind λy2 =>
    (xd fu y2 fu ([]:List Int) 0 y2.Nz.Nk).bind λz =>
    some (({ Nz:=({ Nq:=y2.Nz.Nq,Nk:=z.2.2 }:Nz),Ng:=y2.Ng,Np:=y2.Np }:Nj),z.1,true)
def yX (fu:Nat) (a':List Int) (b':List Int):Nat→Int→Option (Out (Int) (Bool))
  | 0,_=>none
  | fk + 1,i =>
    if decide (i<(a'.length:Int)) then
      (idx a' i).bind λe =>
      (idx b' i).bind λe2 =>
      if e != e2 then
        some (.ret false)
      else
        yX fu a' b' fk (w64 (i + 1))
    else
      some (.next i)
def dZ (fu:Nat) (a':List Int) (b':List Int):Option (Bool) :=
  if (a'.length:Int) != (b'.length:Int) then
    some false
  else
    (yX fu a' b' fu 0).bind λout=>out.on some λz =>
    some true
def eV (fu:Nat) (a':Nv) (b':Nv):Option (Bool) :=
  (if a'.Pq==b'.Pq then (dZ fu a'.Nw b'.Nw).bind λy =>
  some y
  else some false).bind λc3 =>
  some c3
def zc (fu:Nat) (a':Nh) (b':Nh):Option (Bool) :=
  (if a'.Id==b'.Id then (eV fu a'.Nv b'.Nv).bind λy =>
  if y then some (([a'.Nd.Pj,a'.Nd.Px]:List Int)==([b'.Nd.Pj,b'.Nd.Px]:List Int))
  else some false
  else some false).bind λc3 =>
  some c3
def vO (fu:Nat) (r':Nj):Nat→Int→List Int→List ByteArray→List Nt→List Nh→Option (Int×List Int×List ByteArray×List Nt×List Nh)
  | 0,_,_,_,_,_=>none
  | fk + 1,i,ids,m,m2,m3 =>
    if decide (i<(r'.Ng.length:Int)) then
      (idx r'.Ng i).bind λe =>
      (zQ fu ({ Nq:=({ Nx:=m,Nw:=m2 }:Nq),Nk:=m3 }:Nz) e.Id).bind λy2 =>
      (if decide (y2<0) then some true
      else (idx m3 y2).bind λe2 =>
      (zc fu e2 e).bind λy3 =>
      if y3 then some true
      else (xQ fu e.Nv r'.Np).bind λy4 =>
      some y4).bind λc16 =>
      if c16 then
        vO fu r' fk (w64 (i + 1)) ids m m2 m3
      else
        (yl fu ({ Nq:=({ Nx:=m,Nw:=m2 }:Nq),Nk:=m3 }:Nz) y2).bind λy5 =>
        (yo fu y5 e.Nv).bind λy6 =>
        (xP fu e.Nd).bind λy7 =>
        if (band y6 y7)==0 then
          (zR fu e).bind λy8 =>
          (za fu y5 y8).bind λy9 =>
          (app ids [e.Id]).bind λl =>
          vO fu r' fk (w64 (i + 1)) l y9.Nq.Nx y9.Nq.Nw y9.Nk
        else
          vO fu r' fk (w64 (i + 1)) ids m m2 m3
    else
      some (i,ids,m,m2,m3)
def zW (fu:Nat) (r':Nj):Option (Nj×List Int) :=
  (aA fu r').bind λy =>
  (vO fu r' fu 0 ([]:List Int) y.Nz.Nq.Nx y.Nz.Nq.Nw y.Nz.Nk).bind λz =>
  some (({ Nz:=({ Nq:=({ Nx:=z.2.2.1,Nw:=z.2.2.2.1 }:Nq),Nk:=z.2.2.2.2 }:Nz),Ng:=y.Ng,Np:=y.Np }:Nj),z.2.1)
def aF (fu:Nat) (a':List Int) (b':List Int):Nat→Int→Option (Out (Int) (Bool))
  | 0,_=>none
  | fk + 1,i =>
    if decide (i<(a'.length:Int)) then
      (idx a' i).bind λe =>
      (idx b' i).bind λe2 =>
      if e != e2 then
        some (.ret false)
      else
        aF fu a' b' fk (w64 (i + 1))
    else
      some (.next i)
def dM (fu:Nat) (a':List Int) (b':List Int):Option (Bool) :=
  if (a'.length:Int) != (b'.length:Int) then
    some false
  else
    (aF fu a' b' fu 0).bind λout=>out.on some λz =>
    some true
def cD (fu:Nat) (x1:Nh) (cap:Int):Option (Bool) :=
  some (x1.Id==cap)
def ut (fu:Nat) (s':List Nh) (cap:Int):Nat→Int→Option (Out (Int) (Int))
  | 0,_=>none
  | fk + 1,i =>
    if decide (i<(s'.length:Int)) then
      (idx s' i).bind λe =>
      (cD fu e cap).bind λy =>
      if y then
        some (.ret i)
      else
        ut fu s' cap fk (w64 (i + 1))
    else
      some (.next i)
def uU (fu:Nat) (s':List Nh) (cap:Int):Option (Int) :=
  (ut fu s' cap fu 0).bind λout=>out.on some λz =>
  some (-1)
def dp (fu:Nat) (p:Nz) (id:Int):Option (Int) :=
  (uU fu p.Nk id).bind λy =>
  some y
def yf (fu:Nat) (p:Nz) (x1:Nh):Nat→Int→Option (Int)
  | 0,_=>none
  | fk + 1,at' =>
    (if decide (at'<(p.Nk.length:Int)) then (idx p.Nk at').bind λe =>
    some (decide (e.Id<x1.Id))
    else some false).bind λc8 =>
    if c8 then
      yf fu p x1 fk (w64 (at' + 1))
    else
      some at'
def aW (fu:Nat) (p:Nz) (x1:Nh):Option (Nz) :=
  (aG fu p).bind λy =>
  (yf fu p x1 fu 0).bind λz =>
  (z6 fu x1.Nv).bind λy2 =>
  (insl y.Nk z [({ Id:=x1.Id,Nv:=y2,Nd:=x1.Nd }:Nh)]).bind λl =>
  some ({ Nq:=y.Nq,Nk:=l }:Nz)
def xj (fu:Nat) (code:List By) (y:Nz×Pz):Nat→List Pg→Int→List By→Int→U64→Option (List Pg×Int×List By×Int×U64)
  | 0,_,_,_,_,_=>none
  | fk + 1,events,k',m,m2,m3 =>
    if decide (k' > 0) then
      (xa fu ({ code:=m,at_:=m2,seed:=m3 }:Pz) 3).bind λy3 =>
      (aj fu y3.2 y.1.Nq).bind λy4 =>
      (app events [({ Pp:=!y3.1,Nw:=y4.1 }:Pg)]).bind λal =>
      xj fu code y fk al (w64 (k' - 1)) y4.2.code y4.2.at_ y4.2.seed
    else
      some (events,k',m,m2,m3)
def zG (fu:Nat) (code:List By):Option (Nz×List Pg) :=
  (zD fu ({ code:=code,at_:=0,seed:=(⟨0⟩:U64) }:Pz)).bind λy =>
  (uq fu y.2 6).bind λy2 =>
  (xj fu code y fu ([]:List Pg) y2.1 y2.2.code y2.2.at_ y2.2.seed).bind λz =>
  some (y.1,z.1)
def zM (fu:Nat) (p:Nz):Option (Nj×Bool) :=
  (yH fu p).bind λy =>
  if !y then
    some (({ Nz:=({ Nq:=({ Nx:=[],Nw:=[] }:Nq),Nk:=[] }:Nz),Ng:=[],Np:=[] }:Nj),false)
  else
    (vf fu ({ Nz:=p,Ng:=p.Nk,Np:=[] }:Nj)).bind λy2 =>
    some (y2,true)
def zI (fu:Nat) (r':Nj) (fibers:List Int):Option (Bool) :=
  ((vz fu r').bind λy =>
  if y then (dO fu fibers (r'.Nz.Nq.Nw.length:Int)).bind λy2 =>
  some y2
  else some false).bind λc7 =>
  some c7
def vl (fu:Nat) (slices:List (List Int)):Nat→Int→Int→Option (Int×Int)
  | 0,_,_=>none
  | fk + 1,size,i =>
    if decide (i<(slices.length:Int)) then
      (idx slices i).bind λe =>
      if decide ((w64 (size + (e.length:Int)))<0) then
        none
      else
        vl fu slices fk (w64 (size + (e.length:Int))) (w64 (i + 1))
    else
      some (size,i)
def vk (fu:Nat) (slices:List (List Int)):Nat→List Int→Int→Option (List Int×Int)
  | 0,_,_=>none
  | fk + 1,newslice,i3 =>
    if decide (i3<(slices.length:Int)) then
      (idx slices i3).bind λe2 =>
      (app newslice e2).bind λl2 =>
      vk fu slices fk l2 (w64 (i3 + 1))
    else
      some (newslice,i3)
def xL (fu:Nat) (slices:List (List Int)):Option (List Int) :=
  (vl fu slices fu 0 0).bind λz2 =>
  ((rZ z2.1:Option (List Int))).bind λl =>
  (vk fu slices fu l 0).bind λz =>
  some z.1
def yA (fu:Nat) (x1:Nh) (cap:List Int) (cap2:List Int):Option (Bool×List Int) :=
  (z7 fu x1.Nv.Nw cap).bind λy =>
  if decide ((y.length:Int) > 0) then
    (app cap2 [x1.Id]).bind λl =>
    some (decide ((y.length:Int) > 0),l)
  else
    some (decide ((y.length:Int) > 0),cap2)
def vc (fu:Nat) (x:List Nh) (cap0:List Int) (cap1:List Int):Option ((List Nh)×(List Int)):=delO (λa s=>yA fu a cap0 s) x cap1
def zo (fu:Nat) (r':Nj) (fibers:List Int):Option (Nj×List Int×Bool) :=
  (zI fu r' fibers).bind λy =>
  if !y then
    some (({ Nz:=({ Nq:=({ Nx:=[],Nw:=[] }:Nq),Nk:=[] }:Nz),Ng:=[],Np:=[] }:Nj),[],false)
  else
    (vf fu r').bind λy2 =>
    (xL fu [r'.Np,fibers]).bind λy3 =>
    (yc fu y3).bind λy4 =>
    (xB fu y4).bind λy5 =>
    (vc fu y2.Nz.Nk fibers ([]:List Int)).bind λy6 =>
    some (({ Nz:=({ Nq:=y2.Nz.Nq,Nk:=y6.1 }:Nz),Ng:=y2.Ng,Np:=y5 }:Nj),y6.2,true)
def yv (fu:Nat) (r':Nj):Nat→List Int→Int→Option (List Int×Int)
  | 0,_,_=>none
  | fk + 1,out',i =>
    if decide (i<(r'.Ng.length:Int)) then
      (idx r'.Ng i).bind λe =>
      (dp fu r'.Nz e.Id).bind λy =>
      if decide (y<0) then
        (app out' [e.Id]).bind λl =>
        yv fu r' fk l (w64 (i + 1))
      else
        yv fu r' fk out' (w64 (i + 1))
    else
      some (out',i)
def yY (fu:Nat) (r':Nj):Option (List Int) :=
  (yv fu r' fu ([]:List Int) 0).bind λz =>
  some z.1
def db (fu:Nat) (v:Int) (cap:Nq):Option (Bool) :=
  (xx fu v 0 (w64 ((cap.Nx.length:Int) - 1))).bind λy =>
  some (!y)
def uD (fu:Nat) (s':List Int) (cap:Nq):Nat→Int→Option (Out (Int) (Int))
  | 0,_=>none
  | fk + 1,i =>
    if decide (i<(s'.length:Int)) then
      (idx s' i).bind λe =>
      (db fu e cap).bind λy =>
      if y then
        some (.ret i)
      else
        uD fu s' cap fk (w64 (i + 1))
    else
      some (.next i)
def vJ (fu:Nat) (s':List Int) (cap:Nq):Option (Int) :=
  (uD fu s' cap fu 0).bind λout=>out.on some λz =>
  some (-1)
def u9 (fu:Nat) (s':List Int) (cap:Nq):Option (Bool) :=
  (vJ fu s' cap).bind λy =>
  some (decide (y≥0))
def d8 (fu:Nat) (n':Nq) (nodes:List Int):Option (Bool) :=
  ((yh fu n').bind λy =>
  if y then (u9 fu nodes n').bind λy2 =>
  some (!y2)
  else some false).bind λc4 =>
  some c4
def yL (fu:Nat) (s':List Int):Option (List Int) :=
  iU s' (some []) ((app ([]:List Int) s').bind λl =>
  some l)
def vm (fu:Nat) (at':Int) (seen:Int) (fibers:List Int) (cap:Int) (cap3:Int) (cap4:Nq) (rec_:(Int)→(Int)→(List Int)→(Int)→(List Nv)→(Int)→(Nq)→Option (List Nv)):Nat→Int→List Nv→Option (Int×List Nv)
  | 0,_,_=>none
  | fk + 1,i,m =>
    if decide (i<(cap4.Nw.length:Int)) then
      (idx cap4.Nw i).bind λe =>
      (cC fu e at').bind λy2 =>
      (if decide (y2≥0) then (shr seen y2).bind λq =>
      some ((band q 1)==0)
      else some false).bind λc8 =>
      if c8 then
        (shl 1 y2).bind λq2 =>
        (app fibers [i]).bind λl =>
        (rec_ y2 (bor seen q2) l cap m cap3 cap4).bind λy3 =>
        vm fu at' seen fibers cap cap3 cap4 rec_ fk (w64 (i + 1)) y3
      else
        vm fu at' seen fibers cap cap3 cap4 rec_ fk (w64 (i + 1)) m
    else
      some (i,m)
def yN (fu:Nat) (rec_:(Int)→(Int)→(List Int)→(Int)→(List Nv)→(Int)→(Nq)→Option (List Nv)) (at':Int) (seen:Int) (fibers:List Int) (cap:Int) (cap2:List Nv) (cap3:Int) (cap4:Nq):Option (List Nv) :=
  if at'==cap then
    (yL fu fibers).bind λy =>
    (app cap2 [({ Pq:=cap3,Nw:=y }:Nv)]).bind λal =>
    some al
  else
    (vm fu at' seen fibers cap cap3 cap4 rec_ fu 0 cap2).bind λz =>
    some z.2
def vi:Nat→(Int)→(Int)→(List Int)→(Int)→(List Nv)→(Int)→(Nq)→Option (List Nv)
  | 0,_,_,_,_,_,_,_=>none
  | fu + 1,at',seen,fibers,cap,cap2,cap3,cap4=>yN fu (λat' seen fibers cap cap2 cap3 cap4=>vi fu at' seen fibers cap cap2 cap3 cap4) at' seen fibers cap cap2 cap3 cap4
def yF (fu:Nat) (n':Nq) (r':Nv):Nat→Int→Int→Option (Int×Int)
  | 0,_,_=>none
  | fk + 1,sum,i =>
    if decide (i<(r'.Nw.length:Int)) then
      (idx r'.Nw i).bind λe =>
      (idx n'.Nw e).bind λe2 =>
      yF fu n' r' fk (w64 (sum + e2.Pk)) (w64 (i + 1))
    else
      some (sum,i)
def bC (fu:Nat) (n':Nq) (r':Nv):Option (Int) :=
  (yF fu n' r' fu 0 0).bind λz =>
  some z.1
def vE (fu:Nat) (s1:List Int) (s2:List Int):Nat→Int→Option (Out (Int) (Int))
  | 0,_=>none
  | fk + 1,i =>
    if decide (i<(s1.length:Int)) then
      (idx s1 i).bind λe =>
      if decide (i≥(s2.length:Int)) then
        some (.ret 1)
      else
        (idx s2 i).bind λe2 =>
        (cmp_Compare_int fu e e2).bind λy =>
        if y != 0 then
          some (.ret y)
        else
          vE fu s1 s2 fk (w64 (i + 1))
    else
      some (.next i)
def zt (fu:Nat) (s1:List Int) (s2:List Int):Option (Int) :=
  (vE fu s1 s2 fu 0).bind λout=>out.on some λz =>
  if decide ((s1.length:Int)<(s2.length:Int)) then
    some (-1)
  else
    some 0
def ba (fu:Nat) (n':Nq) (a':Nv) (b':Nv):Option (Int) :=
  (bC fu n' a').bind λy =>
  (bC fu n' b').bind λy2 =>
  (cmp_Compare_int fu y y2).bind λy3 =>
  (cmp_Compare_int fu (a'.Nw.length:Int) (b'.Nw.length:Int)).bind λy4 =>
  (zt fu a'.Nw b'.Nw).bind λy5 =>
  (cmp_Compare_int fu a'.Pq b'.Pq).bind λy6 =>
  (dP fu [y3,y4,y5,y6]).bind λy7 =>
  some y7
def vy (fu:Nat) (a':Nv) (b4:Nv) (cap:Nq):Option (Int) :=
  (ba fu cap a' b4).bind λy =>
  some y
def uN (fu:Nat) (x:List Nv) (cap0:Nq):Option (List Nv):=jR (λa b=>vy fu a b cap0) x
def a7 (fu:Nat) (n':Nq) (from':Int) (to:Int):Option (List Nv) :=
  if from' != to then
    (shl 1 from').bind λq =>
    (vi fu from' q [] to ([]:List Nv) from' n').bind λy =>
    (uN fu y n').bind λy2 =>
    some y2
  else
    (uN fu ([]:List Nv) n').bind λy3 =>
    some y3
def bS (fu:Nat) (n':Nq) (from':Int) (to:Int):Option (List Nv×Bool) :=
  ((d8 fu n' [from',to]).bind λy =>
  if !y then some true
  else some (from'==to)).bind λc3 =>
  if c3 then
    some ([],false)
  else
    (a7 fu n' from' to).bind λy2 =>
    if decide ((y2.length:Int) > 200) then
      some ([],false)
    else
      some (y2,true)
def xV (fu:Nat) (e:Nh):Nat→List Int→Int→Option (List Int×Int)
  | 0,_,_=>none
  | fk + 1,out3,i2 =>
    if decide (i2<(e.Nv.Nw.length:Int)) then
      (idx e.Nv.Nw i2).bind λe2 =>
      (idx out3 e2).bind λe3 =>
      (bq fu e.Nd).bind λy =>
      (idx out3 e2).bind λe4 =>
      xV fu e fk (out3.set (e2:Int).toNat (bor e3 y)) (w64 (i2 + 1))
    else
      some (out3,i2)
def xW (fu:Nat) (p:Nz):Nat→List Int→Int→Option (List Int×Int)
  | 0,_,_=>none
  | fk + 1,out',i =>
    if decide (i<(p.Nk.length:Int)) then
      (idx p.Nk i).bind λe =>
      (xV fu e fu out' 0).bind λz =>
      xW fu p fk z.1 (w64 (i + 1))
    else
      some (out',i)
def bu (fu:Nat) (p:Nz):Option (List Int) :=
  (mk (0:Int) (p.Nq.Nw.length:Int)).bind λl =>
  (xW fu p fu l 0).bind λz2 =>
  some z2.1
def yg (fu:Nat) (r':Nv) (y:List Int):Nat→Int→Int→Option (Int×Int)
  | 0,_,_=>none
  | fk + 1,out',i =>
    if decide (i<(r'.Nw.length:Int)) then
      (idx r'.Nw i).bind λe =>
      (idx y e).bind λe2 =>
      yg fu r' y fk (bor out' e2) (w64 (i + 1))
    else
      some (out',i)
def bO (fu:Nat) (p:Nz) (r':Nv):Option (Int) :=
  (bu fu p).bind λy =>
  (yg fu r' y fu 0 0).bind λz =>
  some z.1
def fg (fu:Nat) (mask:Int):Option (Bool) :=
  (xx fu mask 0 16777215).bind λy =>
  some y
def gn (fu:Nat) (mask:Int) (count:Int):Option (Bool) :=
  ((fg fu mask).bind λy =>
  if y then (xx fu count 1 24).bind λy2 =>
  some y2
  else some false).bind λc =>
  some c
def xM (fu:Nat) (mask:Int) (count:Int):Nat→List Int→Int→Option (List Int×Int)
  | 0,_,_=>none
  | fk + 1,out',first =>
    if decide ((w64 (first + count))≤24) then
      (bq fu ({ Pj:=first,Px:=count }:Nd)).bind λy =>
      if (band mask y)==0 then
        (app out' [first]).bind λl =>
        xM fu mask count fk l (w64 (first + 1))
      else
        xM fu mask count fk out' (w64 (first + 1))
    else
      some (out',first)
def bP (fu:Nat) (mask:Int) (count:Int):Option (List Int) :=
  (xM fu mask count fu ([]:List Int) 0).bind λz =>
  some z.1
def cE (fu:Nat) (mask:Int) (count:Int):Option (Nd×Bool) :=
  (gn fu mask count).bind λy =>
  if !y then
    some (({ Pj:=0,Px:=0 }:Nd),false)
  else
    (bP fu mask count).bind λy2 =>
    if (y2.length:Int)==0 then
      some (({ Pj:=0,Px:=0 }:Nd),false)
    else
      (idx y2 0).bind λe =>
      some (({ Pj:=e,Px:=count }:Nd),true)
def x4 (fu:Nat) (r':Nj) (id:Int) (y:Nj) (e:Nh) (y6:List Nv×Bool):Nat→Int→Option (Out (Int) (Nj×Bool))
  | 0,_=>none
  | fk + 1,i =>
    if decide (i<(y6.1.length:Int)) then
      (idx y6.1 i).bind λe2 =>
      (z7 fu e2.Nw r'.Np).bind λy7 =>
      if decide ((y7.length:Int) > 0) then
        x4 fu r' id y e y6 fk (w64 (i + 1))
      else
        (bO fu r'.Nz e2).bind λy8 =>
        (cE fu y8 e.Nd.Px).bind λy9 =>
        if y9.2 then
          (aW fu r'.Nz ({ Id:=id,Nv:=e2,Nd:=y9.1 }:Nh)).bind λy10 =>
          some (.ret (({ Nz:=y10,Ng:=y.Ng,Np:=y.Np }:Nj),true))
        else
          x4 fu r' id y e y6 fk (w64 (i + 1))
    else
      some (.next i)
def cB (fu:Nat) (r':Nj) (id:Int):Option (Nj×Bool) :=
  (vf fu r').bind λy =>
  (bW fu r' id).bind λy2 =>
  (idx r'.Ng y2).bind λe =>
  (cR fu r' e).bind λy3 =>
  if y3 then
    (aW fu r'.Nz e).bind λy4 =>
    some (({ Nz:=y4,Ng:=y.Ng,Np:=y.Np }:Nj),true)
  else
    (cS fu r'.Nz.Nq e.Nv).bind λy5 =>
    (bS fu r'.Nz.Nq e.Nv.Pq y5).bind λy6 =>
    if !y6.2 then
      some (y,false)
    else
      (x4 fu r' id y e y6 fu 0).bind λout=>out.on some λz =>
      some (y,false)
def xz (fu:Nat) (y3:List Int):Nat→List Int→Int→List ByteArray→List Nt→List Nh→List Nh→List Int→Option (List Int×Int×List ByteArray×List Nt×List Nh×List Nh×List Int)
  | 0,_,_,_,_,_,_,_=>none
  | fk + 1,ids,i,m,m2,m3,m4,m5 =>
    if decide (i<(y3.length:Int)) then
      (idx y3 i).bind λe =>
      (cB fu ({ Nz:=({ Nq:=({ Nx:=m,Nw:=m2 }:Nq),Nk:=m3 }:Nz),Ng:=m4,Np:=m5 }:Nj) e).bind λy4 =>
      if y4.2 then
        (app ids [e]).bind λl =>
        xz fu y3 fk l (w64 (i + 1)) y4.1.Nz.Nq.Nx y4.1.Nz.Nq.Nw y4.1.Nz.Nk y4.1.Ng y4.1.Np
      else
        xz fu y3 fk ids (w64 (i + 1)) y4.1.Nz.Nq.Nx y4.1.Nz.Nq.Nw y4.1.Nz.Nk y4.1.Ng y4.1.Np
    else
      some (ids,i,m,m2,m3,m4,m5)
def zn (fu:Nat) (r':Nj):Option (Nj×List Int×Bool) :=
  (vz fu r').bind λy =>
  if !y then
    some (({ Nz:=({ Nq:=({ Nx:=[],Nw:=[] }:Nq),Nk:=[] }:Nz),Ng:=[],Np:=[] }:Nj),[],false)
  else
    (vf fu r').bind λy2 =>
    (yY fu r').bind λy3 =>
    (xz fu y3 fu ([]:List Int) 0 y2.Nz.Nq.Nx y2.Nz.Nq.Nw y2.Nz.Nk y2.Ng y2.Np).bind λz =>
    some (({ Nz:=({ Nq:=({ Nx:=z.2.2.1,Nw:=z.2.2.2.1 }:Nq),Nk:=z.2.2.2.2.1 }:Nz),Ng:=z.2.2.2.2.2.1,Np:=z.2.2.2.2.2.2 }:Nj),z.1,true)
def xZ (fu:Nat) (i:Int) (cap:List Int):Option (Bool) :=
  (vY fu cap i).bind λy =>
  some y
def vS (fu:Nat) (x:List Int) (cap0:List Int):Option (List Int):=tR (λa=>xZ fu a cap0) x
def ze (fu:Nat) (r':Nj) (fibers:List Int):Option (Nj×Bool) :=
  (zI fu r' fibers).bind λy =>
  if !y then
    some (({ Nz:=({ Nq:=({ Nx:=[],Nw:=[] }:Nq),Nk:=[] }:Nz),Ng:=[],Np:=[] }:Nj),false)
  else
    (vf fu r').bind λy2 =>
    (vS fu y2.Np fibers).bind λy3 =>
    some (({ Nz:=y2.Nz,Ng:=y2.Ng,Np:=y3 }:Nj),true)
def xr (fu:Nat) (events:List Pg):Nat→List Int→Int→List ByteArray→List Nt→List Nh→List Nh→List Int→Option (Out (List Int×Int×List ByteArray×List Nt×List Nh×List Nh×List Int) (List Int×Nj×Bool))
  | 0,_,_,_,_,_,_,_=>none
  | fk + 1,counts,i,m,m2,m3,m4,m5 =>
    if decide (i<(events.length:Int)) then
      (idx events i).bind λe =>
      (zI fu ({ Nz:=({ Nq:=({ Nx:=m,Nw:=m2 }:Nq),Nk:=m3 }:Nz),Ng:=m4,Np:=m5 }:Nj) e.Nw).bind λy2 =>
      if !y2 then
        some (.ret ([],({ Nz:=({ Nq:=({ Nx:=[],Nw:=[] }:Nq),Nk:=[] }:Nz),Ng:=[],Np:=[] }:Nj),false))
      else
        if e.Pp then
          (zo fu ({ Nz:=({ Nq:=({ Nx:=m,Nw:=m2 }:Nq),Nk:=m3 }:Nz),Ng:=m4,Np:=m5 }:Nj) e.Nw).bind λy3 =>
          (zn fu y3.1).bind λy4 =>
          (xN fu y4.1).bind λy5 =>
          (yY fu y5.1).bind λy6 =>
          (app counts [(y6.length:Int)]).bind λl =>
          xr fu events fk l (w64 (i + 1)) y5.1.Nz.Nq.Nx y5.1.Nz.Nq.Nw y5.1.Nz.Nk y5.1.Ng y5.1.Np
        else
          (ze fu ({ Nz:=({ Nq:=({ Nx:=m,Nw:=m2 }:Nq),Nk:=m3 }:Nz),Ng:=m4,Np:=m5 }:Nj) e.Nw).bind λy7 =>
          (zn fu y7.1).bind λy8 =>
          (xN fu y8.1).bind λy9 =>
          (yY fu y9.1).bind λy10 =>
          (app counts [(y10.length:Int)]).bind λl2 =>
          xr fu events fk l2 (w64 (i + 1)) y9.1.Nz.Nq.Nx y9.1.Nz.Nq.Nw y9.1.Nz.Nk y9.1.Ng y9.1.Np
    else
      some (.next (counts,i,m,m2,m3,m4,m5))
def bR (fu:Nat) (p:Nz) (events:List Pg):Option (List Int×Nj×Bool) :=
  (zM fu p).bind λy =>
  (if !y.2 then some true
  else some (decide ((events.length:Int) > 20))).bind λc10 =>
  if c10 then
    some ([],({ Nz:=({ Nq:=({ Nx:=[],Nw:=[] }:Nq),Nk:=[] }:Nz),Ng:=[],Np:=[] }:Nj),false)
  else
    (xr fu events fu ([]:List Int) 0 y.1.Nz.Nq.Nx y.1.Nz.Nq.Nw y.1.Nz.Nk y.1.Ng y.1.Np).bind λout=>out.on some λz =>
    some (z.1,({ Nz:=({ Nq:=({ Nx:=z.2.2.1,Nw:=z.2.2.2.1 }:Nq),Nk:=z.2.2.2.2.1 }:Nz),Ng:=z.2.2.2.2.2.1,Np:=z.2.2.2.2.2.2 }:Nj),true)
def xq (fu:Nat) (p:Nz) (events:List Pg):Nat→List Int→Int→List ByteArray→List Nt→List Nh→List Nh→List Int→Option (Out (List Int×Int×List ByteArray×List Nt×List Nh×List Nh×List Int) (List Int×Nj×Bool))
  | 0,_,_,_,_,_,_,_=>none
  | fk + 1,counts,i,m,m2,m3,m4,m5 =>
    if decide (i<(events.length:Int)) then
      (idx events i).bind λe =>
      (cr fu e.Nw 0 (w64 ((p.Nq.Nw.length:Int) - 1))).bind λy2 =>
      if !y2 then
        some (.ret (([]:List Int),({ Nz:=({ Nq:=({ Nx:=[],Nw:=[] }:Nq),Nk:=[] }:Nz),Ng:=[],Np:=[] }:Nj),false))
      else
        (idx events i).bind λe2 =>
        if e2.Pp then
          (idx events i).bind λe3 =>
          (ce fu ({ Nz:=({ Nq:=({ Nx:=m,Nw:=m2 }:Nq),Nk:=m3 }:Nz),Ng:=m4,Np:=m5 }:Nj) e3.Nw).bind λy3 =>
          (zX fu y3.1).bind λy4 =>
          (zW fu y4.1).bind λy5 =>
          (xi fu y5.1).bind λy6 =>
          (app counts [(y6.length:Int)]).bind λl =>
          xq fu p events fk l (w64 (i + 1)) y5.1.Nz.Nq.Nx y5.1.Nz.Nq.Nw y5.1.Nz.Nk y5.1.Ng y5.1.Np
        else
          (idx events i).bind λe4 =>
          (aV fu ({ Nz:=({ Nq:=({ Nx:=m,Nw:=m2 }:Nq),Nk:=m3 }:Nz),Ng:=m4,Np:=m5 }:Nj) e4.Nw).bind λy7 =>
          (zX fu y7).bind λy8 =>
          (zW fu y8.1).bind λy9 =>
          (xi fu y9.1).bind λy10 =>
          (app counts [(y10.length:Int)]).bind λl2 =>
          xq fu p events fk l2 (w64 (i + 1)) y9.1.Nz.Nq.Nx y9.1.Nz.Nq.Nw y9.1.Nz.Nk y9.1.Ng y9.1.Np
    else
      some (.next (counts,i,m,m2,m3,m4,m5))
def bM (fu:Nat) (p:Nz) (events:List Pg):Option (List Int×Nj×Bool) :=
  (zF fu p).bind λy =>
  (if !y.2 then some true
  else some (decide ((events.length:Int) > 20))).bind λc10 =>
  if c10 then
    some (([]:List Int),({ Nz:=({ Nq:=({ Nx:=[],Nw:=[] }:Nq),Nk:=[] }:Nz),Ng:=[],Np:=[] }:Nj),false)
  else
    (xq fu p events fu ([]:List Int) 0 y.1.Nz.Nq.Nx y.1.Nz.Nq.Nw y.1.Nz.Nk y.1.Ng y.1.Np).bind λout=>out.on some λz =>
    some (z.1,({ Nz:=({ Nq:=({ Nx:=z.2.2.1,Nw:=z.2.2.2.1 }:Nq),Nk:=z.2.2.2.2.1 }:Nz),Ng:=z.2.2.2.2.2.1,Np:=z.2.2.2.2.2.2 }:Nj),true)
def zK (fu:Nat) (r':Nj):Option (List Int×Bool) :=
  (vz fu r').bind λy =>
  if !y then
    some ([],false)
  else
    (yY fu r').bind λy2 =>
    some (y2,true)
def xl (fu:Nat) (y2:Nz×List Pg):Nat→Bool→Int→Option (Bool×Int)
  | 0,_,_=>none
  | fk + 1,failed,i =>
    if decide (i<(y2.2.length:Int)) then
      (if failed then some true
      else (idx y2.2 i).bind λe2 =>
      some e2.Pp).bind λc22 =>
      xl fu y2 fk c22 (w64 (i + 1))
    else
      some (failed,i)
def aZ (fu:Nat) (code:List By):Option (Bool) :=
  (it fu code).bind λy =>
  if y then
    some true
  else
    (zG fu code).bind λy2 =>
    (bR fu y2.1 y2.2).bind λy3 =>
    (bM fu y2.1 y2.2).bind λy4 =>
    (if y3.2.2 != y4.2.2 then some true
    else (dM fu y3.1 y4.1).bind λy5 =>
    if !y5 then some true
    else some (!y3.2.2)).bind λc18 =>
    if c18 then
      (if y3.2.2==y4.2.2 then (dM fu y3.1 y4.1).bind λy6 =>
      some y6
      else some false).bind λc19 =>
      some c19
    else
      (zK fu y3.2.1).bind λy7 =>
      (if !y7.2 then some true
      else if (y3.1.length:Int) != (y2.2.length:Int) then some true
      else if decide ((y3.1.length:Int) > 0) then (idx y3.1 (w64 ((y3.1.length:Int) - 1))).bind λe =>
      some (e != (y7.1.length:Int))
      else some false).bind λc21 =>
      if c21 then
        some false
      else
        (xl fu y2 fu false 0).bind λz =>
        (if z.1 then some true
        else some ((y7.1.length:Int)==0)).bind λc24 =>
        some c24
end AT
