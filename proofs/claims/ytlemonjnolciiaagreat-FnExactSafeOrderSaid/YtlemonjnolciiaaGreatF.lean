/- The Go functions told plainly, by program (gen.py). -/
import Derived.Test.YtlemonjnolciiaaGreatAtPM
import Derived.Test.YtlemonjnolciiaaGreatAtPI
set_option linter.unusedVariables false
namespace AT
structure L1CurP where
  code:List By
  at_:Int
  seed:U64
  deriving DecidableEq
structure Np where
  A:Int
  B:Int
  Nt:Int
  Pj:Int
  deriving DecidableEq
structure Nk where
  Ng:List ByteArray
  Nq:List Np
  deriving DecidableEq
structure Nz where
  Pz:Int
  Nq:List Int
  deriving DecidableEq
structure Nj where
  Px:Int
  Pk:Int
  deriving DecidableEq
structure Nw where
  Id:Int
  Nz:Nz
  Nj:Nj
  deriving DecidableEq
structure Nd where
  Nk:Nk
  Nv:List Nw
  deriving DecidableEq
structure Format where
  Reach:Int
  Rate:Int
  deriving DecidableEq
structure Restoration where
  Nd:Nd
  Home:List Nw
  Down:List Int
  deriving DecidableEq
structure L4SearchP where
  n:Nk
  to:Int
  list:List Nz
  deriving DecidableEq
structure Nh where
  Pq:Int
  Nw:Nw
  deriving DecidableEq
structure Ph where
  list:List Nh
  failed:List Bool
  deriving DecidableEq
structure FiberEvent where
  Fail:Bool
  Nq:List Int
  deriving DecidableEq
structure Demand where
  From:Int
  To:Int
  Rate:Int
  Class:Int
  deriving DecidableEq
structure Served where
  Nd:Nd
  Ids:List Int
  Blocked:Int
  deriving DecidableEq
structure ChoiceP where
  route:Nz
  count:Int
  deriving DecidableEq
def zz (fu:Nat) (f:Np) (g':Np):Option (Int) :=
  if f.A != g'.A then
    some (w64 (f.A - g'.A))
  else
    if f.B != g'.B then
      some (w64 (f.B - g'.B))
    else
      if f.Nt != g'.Nt then
        some (w64 (f.Nt - g'.Nt))
      else
        some (w64 (f.Pj - g'.Pj))
def zn (fu:Nat) (n':Nk) (fiber:Int) (node:Int):Option (Int) :=
  (idx n'.Nq fiber).bind λe =>
  if node==e.A then
    some e.B
  else
    if node==e.B then
      some e.A
    else
      some (-1)
def xS (fu:Nat) (l:List Int) (n':Int):Nat→Int→Option (Out (Int) (Bool))
  | 0,_=>none
  | fk + 1,i =>
    if decide (i<(l.length:Int)) then
      (idx l i).bind λe =>
      if e==n' then
        some (.ret true)
      else
        xS fu l n' fk (w64 (i + 1))
    else
      some (.next i)
def aV (fu:Nat) (l:List Int) (n':Int):Option (Bool) :=
  (xS fu l n' fu 0).bind λout=>out.on some λz =>
  some false
def zW (fu:Nat) (b':Nj):Option (Int) :=
  (shl 1 (wu64 b'.Pk)).bind λq =>
  (shl (w64 (q - 1)) (wu64 b'.Px)).bind λq2 =>
  some q2
def cT (fu:Nat) (n':Nk):Option (Nk) :=
  (app ([]:List ByteArray) n'.Ng).bind λl =>
  (app ([]:List Np) n'.Nq).bind λl2 =>
  some ({ Ng:=l,Nq:=l2 }:Nk)
def zY (fu:Nat) (l:List Int):Option (List Int) :=
  (app ([]:List Int) l).bind λl2 =>
  some l2
def cS (fu:Nat) (r':Nz):Option (Nz) :=
  (zY fu r'.Nq).bind λy =>
  some ({ Pz:=r'.Pz,Nq:=y }:Nz)
def yg (fu:Nat) (x1:Nw):Option (Nw) :=
  (cS fu x1.Nz).bind λy =>
  some ({ Id:=x1.Id,Nz:=y,Nj:=x1.Nj }:Nw)
def yf (fu:Nat) (p:Nd):Nat→Int→List Nw→Option (Int×List Nw)
  | 0,_,_=>none
  | fk + 1,i,m =>
    if decide (i<(p.Nv.length:Int)) then
      (idx p.Nv i).bind λe =>
      (yg fu e).bind λy2 =>
      (app m [y2]).bind λal =>
      yf fu p fk (w64 (i + 1)) al
    else
      some (i,m)
def aU (fu:Nat) (p:Nd):Option (Nd) :=
  (cT fu p.Nk).bind λy =>
  (yf fu p fu 0 ([]:List Nw)).bind λz =>
  some ({ Nk:=y,Nv:=z.2 }:Nd)
def ye (fu:Nat) (x1:Nw) (y:Nd):Nat→Int→Option (Int)
  | 0,_=>none
  | fk + 1,i =>
    (if decide (i<(y.Nv.length:Int)) then (idx y.Nv i).bind λe =>
    some (decide (e.Id<x1.Id))
    else some false).bind λc8 =>
    if c8 then
      ye fu x1 y fk (w64 (i + 1))
    else
      some i
def zT (fu:Nat) (p:Nd) (x1:Nw):Option (Nd) :=
  (aU fu p).bind λy =>
  (ye fu x1 y fu 0).bind λz =>
  (sub y.Nv 0 z).bind λl =>
  (sub y.Nv z (y.Nv.length:Int)).bind λl2 =>
  (app ([]:List Nw) l).bind λl3 =>
  (yg fu x1).bind λy2 =>
  (app l3 [y2]).bind λl4 =>
  (app l4 l2).bind λl5 =>
  some ({ Nk:=y.Nk,Nv:=l5 }:Nd)
def xH (fu:Nat) (x1:Int) (a':Int) (b':Int):Option (Bool) :=
  (if decide (x1≥a') then some (decide (x1≤b'))
  else some false).bind λc =>
  some c
def a8 (fu:Nat) (b':By):Option (Bool) :=
  (if decide (b'.n≥97) then if decide (b'.n≤122) then some true
  else if decide (b'.n≥48) then some (decide (b'.n≤57))
  else some false
  else if decide (b'.n≥48) then some (decide (b'.n≤57))
  else some false).bind λc =>
  some c
def vX (fu:Nat) (s':ByteArray):Nat→Int→Option (Out (Int) (Bool))
  | 0,_=>none
  | fk + 1,i =>
    if decide (i<(s'.size:Int)) then
      (sidx s' i).bind λe3 =>
      (a8 fu e3).bind λy2 =>
      if !y2 then
        some (.ret false)
      else
        vX fu s' fk (w64 (i + 1))
    else
      some (.next i)
def ba (fu:Nat) (s':ByteArray):Option (Bool) :=
  ((xH fu (s'.size:Int) 1 8).bind λy =>
  if !y then some true
  else (sidx s' 0).bind λe =>
  if decide (e.n<97) then some true
  else (sidx s' 0).bind λe2 =>
  some (decide (e2.n > 122))).bind λc =>
  if c then
    some false
  else
    (vX fu s' fu 0).bind λout=>out.on some λz =>
    some true
def xA (fu:Nat) (list:List ByteArray) (name:ByteArray):Nat→Int→Option (Out (Int) (Int))
  | 0,_=>none
  | fk + 1,i =>
    if decide (i<(list.length:Int)) then
      (idx list i).bind λe =>
      if e.toList==name.toList then
        some (.ret i)
      else
        xA fu list name fk (w64 (i + 1))
    else
      some (.next i)
def bb (fu:Nat) (list:List ByteArray) (name:ByteArray):Option (Int) :=
  (xA fu list name fu 0).bind λout=>out.on some λz =>
  some (-1)
def an (fu:Nat) (f:Np) (nodes:Int):Option (Bool) :=
  ((xH fu f.A 0 (w64 (nodes - 1))).bind λy =>
  if y then (xH fu f.B (w64 (f.A + 1)) (w64 (nodes - 1))).bind λy2 =>
  if y2 then (xH fu f.Nt 1 5000).bind λy3 =>
  if y3 then (xH fu f.Pj 0 9).bind λy4 =>
  some y4
  else some false
  else some false
  else some false).bind λc =>
  some c
def xz (fu:Nat) (n':Nk):Nat→Int→Option (Out (Int) (Bool))
  | 0,_=>none
  | fk + 1,i =>
    if decide (i<(n'.Ng.length:Int)) then
      ((idx n'.Ng i).bind λe =>
      (ba fu e).bind λy2 =>
      if !y2 then some true
      else (idx n'.Ng i).bind λe2 =>
      (bb fu n'.Ng e2).bind λy3 =>
      some (y3 != i)).bind λc4 =>
      if c4 then
        some (.ret false)
      else
        xz fu n' fk (w64 (i + 1))
    else
      some (.next i)
def xy (fu:Nat) (n':Nk):Nat→Int→Option (Out (Int) (Bool))
  | 0,_=>none
  | fk + 1,i3 =>
    if decide (i3<(n'.Nq.length:Int)) then
      ((idx n'.Nq i3).bind λe3 =>
      (an fu e3 (n'.Ng.length:Int)).bind λy4 =>
      if !y4 then some true
      else if decide (i3 > 0) then (idx n'.Nq (w64 (i3 - 1))).bind λe4 =>
      (idx n'.Nq i3).bind λe5 =>
      (zz fu e4 e5).bind λy5 =>
      some (decide (y5 > 0))
      else some false).bind λc5 =>
      if c5 then
        some (.ret false)
      else
        xy fu n' fk (w64 (i3 + 1))
    else
      some (.next i3)
def zX (fu:Nat) (n':Nk):Option (Bool) :=
  ((xH fu (n'.Ng.length:Int) 2 8).bind λy =>
  if !y then some true
  else some (decide ((n'.Nq.length:Int) > 14))).bind λc3 =>
  if c3 then
    some false
  else
    (xz fu n' fu 0).bind λout=>out.on some λz2 =>
    (xy fu n' fu 0).bind λout=>out.on some λz =>
    some true
def x5 (fu:Nat) (n':Nk) (r':Nz):Nat→List Int→Int→Option (Out (List Int×Int) (List Int×Bool))
  | 0,_,_=>none
  | fk + 1,out',i =>
    if decide (i<(r'.Nq.length:Int)) then
      (idx r'.Nq i).bind λe =>
      (xH fu e 0 (w64 ((n'.Nq.length:Int) - 1))).bind λy2 =>
      if !y2 then
        some (.ret (out',false))
      else
        (idx r'.Nq i).bind λe2 =>
        (idx out' (w64 ((out'.length:Int) - 1))).bind λe3 =>
        (zn fu n' e2 e3).bind λy3 =>
        (if decide (y3<0) then some true
        else (aV fu out' y3).bind λy4 =>
        some y4).bind λc6 =>
        if c6 then
          some (.ret (out',false))
        else
          (app out' [y3]).bind λl =>
          x5 fu n' r' fk l (w64 (i + 1))
    else
      some (.next (out',i))
def aY (fu:Nat) (n':Nk) (r':Nz):Option (List Int×Bool) :=
  ((xH fu r'.Pz 0 (w64 ((n'.Ng.length:Int) - 1))).bind λy =>
  if !y then some true
  else some ((r'.Nq.length:Int)==0)).bind λc4 =>
  if c4 then
    some ([r'.Pz],false)
  else
    (x5 fu n' r' fu [r'.Pz] 0).bind λout=>out.on some λz =>
    some (z.1,true)
def a7 (fu:Nat) (n':Nk) (r':Nz):Option (Bool) :=
  (zX fu n').bind λy =>
  if !y then
    some false
  else
    (aY fu n' r').bind λy2 =>
    some y2.2
def aX (fu:Nat) (b':Nj):Option (Bool) :=
  ((xH fu b'.Px 0 23).bind λy =>
  if y then (xH fu b'.Pk 1 (w64 (24 - b'.Px))).bind λy2 =>
  some y2
  else some false).bind λc =>
  some c
def am (fu:Nat) (n':Nk) (x1:Nw):Option (Bool) :=
  ((xH fu x1.Id 1 999).bind λy =>
  if y then (a7 fu n' x1.Nz).bind λy2 =>
  if y2 then (aX fu x1.Nj).bind λy3 =>
  some y3
  else some false
  else some false).bind λc4 =>
  some c4
def xx (fu:Nat) (r':Nz) (group:List Int):Nat→Int→Option (Out (Int) (Bool))
  | 0,_=>none
  | fk + 1,i =>
    if decide (i<(r'.Nq.length:Int)) then
      (idx r'.Nq i).bind λe =>
      (aV fu group e).bind λy =>
      if y then
        some (.ret true)
      else
        xx fu r' group fk (w64 (i + 1))
    else
      some (.next i)
def aZ (fu:Nat) (r':Nz) (group:List Int):Option (Bool) :=
  (xx fu r' group fu 0).bind λout=>out.on some λz =>
  some false
def yU (fu:Nat) (x1:Nw) (y:Nw):Option (Bool) :=
  ((aZ fu x1.Nz y.Nz.Nq).bind λy2 =>
  if y2 then (zW fu x1.Nj).bind λy3 =>
  (zW fu y.Nj).bind λy4 =>
  some ((band y3 y4) != 0)
  else some false).bind λc3 =>
  some c3
def vW (fu:Nat) (p:Nd) (i:Int):Nat→Int→Option (Out (Int) (Bool))
  | 0,_=>none
  | fk + 1,k' =>
    if decide (k'<i) then
      (idx p.Nv k').bind λe4 =>
      (idx p.Nv i).bind λe5 =>
      (yU fu e4 e5).bind λy3 =>
      if y3 then
        some (.ret false)
      else
        vW fu p i fk (w64 (k' + 1))
    else
      some (.next k')
def xv (fu:Nat) (p:Nd):Nat→Int→Option (Out (Int) (Bool))
  | 0,_=>none
  | fk + 1,i =>
    if decide (i<(p.Nv.length:Int)) then
      ((idx p.Nv i).bind λe =>
      (am fu p.Nk e).bind λy2 =>
      if !y2 then some true
      else if decide (i > 0) then (idx p.Nv (w64 (i - 1))).bind λe2 =>
      (idx p.Nv i).bind λe3 =>
      some (decide (e2.Id≥e3.Id))
      else some false).bind λc5 =>
      if c5 then
        some (.ret false)
      else
        (vW fu p i fu 0).bind λout=>out.on (λr=>some (.ret r)) λz =>
        xv fu p fk (w64 (i + 1))
    else
      some (.next i)
def x3 (fu:Nat) (p:Nd):Option (Bool) :=
  ((zX fu p.Nk).bind λy =>
  if !y then some true
  else some (decide ((p.Nv.length:Int) > 12))).bind λc4 =>
  if c4 then
    some false
  else
    (xv fu p fu 0).bind λout=>out.on some λz2 =>
    some true
def xw (fu:Nat) (p:Nd) (id:Int):Nat→Int→Option (Out (Int) (Int))
  | 0,_=>none
  | fk + 1,i =>
    if decide (i<(p.Nv.length:Int)) then
      (idx p.Nv i).bind λe =>
      if e.Id==id then
        some (.ret i)
      else
        xw fu p id fk (w64 (i + 1))
    else
      some (.next i)
def xG (fu:Nat) (p:Nd) (id:Int):Option (Int) :=
  (xw fu p id fu 0).bind λout=>out.on some λz =>
  some (-1)
def yu (fu:Nat) (p:Nd) (i:Int):Option (Nd) :=
  (aU fu p).bind λy =>
  (sub y.Nv 0 i).bind λl =>
  (sub y.Nv (w64 (i + 1)) (y.Nv.length:Int)).bind λl2 =>
  (app ([]:List Nw) l).bind λl3 =>
  (app l3 l2).bind λl4 =>
  some ({ Nk:=y.Nk,Nv:=l4 }:Nd)
def xn (fu:Nat) (n':Int) (low:Int) (high:Int):Option (Bool) :=
  (if decide (low≤n') then some (decide (n'≤high))
  else some false).bind λc =>
  some c
def vz (fu:Nat) (s':ByteArray):Nat→Int→Option (Out (Int) (Bool))
  | 0,_=>none
  | fk + 1,i =>
    if decide (i<(s'.size:Int)) then
      (sidx s' i).bind λe =>
      (sidx s' i).bind λe2 =>
      if decide (e.n≥97) then (sidx s' i).bind λe3 =>
      if decide (e2.n≥48) then (sidx s' i).bind λe4 =>
      (if !(decide (e3.n≤122)) then if !(decide (e4.n≤57)) then some true
      else some (i==0)
      else some false).bind λc =>
      if c then
        some (.ret false)
      else
        vz fu s' fk (w64 (i + 1))
      else (if !(decide (e3.n≤122)) then if !false then some true
      else some (i==0)
      else some false).bind λc2 =>
      if c2 then
        some (.ret false)
      else
        vz fu s' fk (w64 (i + 1))
      else if decide (e2.n≥48) then (sidx s' i).bind λe5 =>
      (if !false then if !(decide (e5.n≤57)) then some true
      else some (i==0)
      else some false).bind λc3 =>
      if c3 then
        some (.ret false)
      else
        vz fu s' fk (w64 (i + 1))
      else (if !false then if !false then some true
      else some (i==0)
      else some false).bind λc4 =>
      if c4 then
        some (.ret false)
      else
        vz fu s' fk (w64 (i + 1))
    else
      some (.next i)
def bv (fu:Nat) (s':ByteArray):Option (Bool) :=
  (vz fu s' fu 0).bind λout=>out.on some λz =>
  (xn fu (s'.size:Int) 1 8).bind λy =>
  some y
def uG (fu:Nat) (s':List ByteArray) (v:ByteArray):Nat→Int→Option (Out (Int) (Int))
  | 0,_=>none
  | fk + 1,i =>
    if decide (i<(s'.length:Int)) then
      (idx s' i).bind λe =>
      if v.toList==e.toList then
        some (.ret i)
      else
        uG fu s' v fk (w64 (i + 1))
    else
      some (.next i)
def vv (fu:Nat) (s':List ByteArray) (v:ByteArray):Option (Int) :=
  (uG fu s' v fu 0).bind λout=>out.on some λz =>
  some (-1)
def va (fu:Nat) (s':List ByteArray) (v:ByteArray):Option (Bool) :=
  (vv fu s' v).bind λy =>
  some (decide (y≥0))
def cmp_isNaN_int (fu:Nat) (x1:Int):Option (Bool) :=
  some (x1 != x1)
def cmp_Compare_int (fu:Nat) (x1:Int) (y:Int):Option (Int) :=
  (cmp_isNaN_int fu x1).bind λy2 =>
  (cmp_isNaN_int fu y).bind λy3 =>
  if y2 then
    if y3 then
      some 0
    else
      some (-1)
  else
    if y3 then
      some 1
    else
      if decide (x1<y) then
        some (-1)
      else
        if decide (x1 > y) then
          some 1
        else
          some 0
def xX (fu:Nat) (vals:List Int):Nat→Int→Option (Out (Int) (Int))
  | 0,_=>none
  | fk + 1,i =>
    if decide (i<(vals.length:Int)) then
      (idx vals i).bind λe =>
      if e != 0 then
        some (.ret e)
      else
        xX fu vals fk (w64 (i + 1))
    else
      some (.next i)
def bV (fu:Nat) (vals:List Int):Option (Int) :=
  (xX fu vals fu 0).bind λout=>out.on some λz =>
  some 0
def xW (fu:Nat) (a':Np) (b':Np):Option (Int) :=
  (cmp_Compare_int fu a'.A b'.A).bind λy =>
  (cmp_Compare_int fu a'.B b'.B).bind λy2 =>
  (cmp_Compare_int fu a'.Nt b'.Nt).bind λy3 =>
  (cmp_Compare_int fu a'.Pj b'.Pj).bind λy4 =>
  (bV fu [y,y2,y3,y4]).bind λy5 =>
  some y5
def u5 (fu:Nat) (n':Nk):Nat→Int→Option (Out (Int) (Bool))
  | 0,_=>none
  | fk + 1,i =>
    if decide (i<(n'.Ng.length:Int)) then
      (idx n'.Ng i).bind λe =>
      ((bv fu e).bind λy =>
      if !y then some true
      else (sub n'.Ng 0 i).bind λl =>
      (va fu l e).bind λy2 =>
      some y2).bind λc3 =>
      if c3 then
        some (.ret false)
      else
        u5 fu n' fk (w64 (i + 1))
    else
      some (.next i)
def u4 (fu:Nat) (n':Nk):Nat→Int→Option (Out (Int) (Bool))
  | 0,_=>none
  | fk + 1,i3 =>
    if decide (i3<(n'.Nq.length:Int)) then
      (idx n'.Nq i3).bind λe2 =>
      (if decide (e2.A<0) then some true
      else if decide (e2.A≥e2.B) then some true
      else if decide (e2.B≥(n'.Ng.length:Int)) then some true
      else (xn fu e2.Nt 1 5000).bind λy3 =>
      if !y3 then some true
      else (xn fu e2.Pj 0 9).bind λy4 =>
      if !y4 then some true
      else if decide (i3 > 0) then (idx n'.Nq (w64 (i3 - 1))).bind λe3 =>
      (xW fu e3 e2).bind λy5 =>
      some (decide (y5 > 0))
      else some false).bind λc5 =>
      if c5 then
        some (.ret false)
      else
        u4 fu n' fk (w64 (i3 + 1))
    else
      some (.next i3)
def xL (fu:Nat) (n':Nk):Option (Bool) :=
  (u5 fu n' fu 0).bind λout=>out.on some λz2 =>
  (u4 fu n' fu 0).bind λout=>out.on some λz =>
  ((xn fu (n'.Ng.length:Int) 2 8).bind λy6 =>
  if y6 then some (decide ((n'.Nq.length:Int)≤14))
  else some false).bind λc6 =>
  some c6
def aM (fu:Nat) (f:Np) (node:Int):Option (Int) :=
  if node==f.A then
    some f.B
  else
    if node==f.B then
      some f.A
    else
      some (-1)
def uW (fu:Nat) (s':List Int) (v:Int):Nat→Int→Option (Out (Int) (Int))
  | 0,_=>none
  | fk + 1,i =>
    if decide (i<(s'.length:Int)) then
      (idx s' i).bind λe =>
      if v==e then
        some (.ret i)
      else
        uW fu s' v fk (w64 (i + 1))
    else
      some (.next i)
def xq (fu:Nat) (s':List Int) (v:Int):Option (Int) :=
  (uW fu s' v fu 0).bind λout=>out.on some λz =>
  some (-1)
def vr (fu:Nat) (s':List Int) (v:Int):Option (Bool) :=
  (xq fu s' v).bind λy =>
  some (decide (y≥0))
def xJ (fu:Nat) (n':Nk) (r':Nz):Nat→List Int→Int→Int→Option (Out (List Int×Int×Int) (List Int×Bool))
  | 0,_,_,_=>none
  | fk + 1,out',at',i =>
    if decide (i<(r'.Nq.length:Int)) then
      (idx r'.Nq i).bind λe =>
      (xn fu e 0 (w64 ((n'.Nq.length:Int) - 1))).bind λy2 =>
      if !y2 then
        some (.ret ([],false))
      else
        (idx n'.Nq e).bind λe2 =>
        (aM fu e2 at').bind λy3 =>
        (if decide (y3<0) then some true
        else (vr fu out' y3).bind λy4 =>
        some y4).bind λc6 =>
        if c6 then
          some (.ret ([],false))
        else
          (app out' [y3]).bind λl =>
          xJ fu n' r' fk l y3 (w64 (i + 1))
    else
      some (.next (out',at',i))
def aA (fu:Nat) (n':Nk) (r':Nz):Option (List Int×Bool) :=
  ((xn fu r'.Pz 0 (w64 ((n'.Ng.length:Int) - 1))).bind λy =>
  if !y then some true
  else some ((r'.Nq.length:Int)==0)).bind λc4 =>
  if c4 then
    some ([],false)
  else
    (xJ fu n' r' fu [r'.Pz] r'.Pz 0).bind λout=>out.on some λz =>
    some (z.1,true)
def yd (fu:Nat) (b':Nj):Option (Bool) :=
  (if decide (b'.Px≥0) then (xn fu b'.Pk 1 24).bind λy =>
  if y then some (decide (b'.Px≤(w64 (24 - b'.Pk))))
  else some false
  else some false).bind λc =>
  some c
def aB (fu:Nat) (n':Nk) (x1:Nw):Option (Bool) :=
  (aA fu n' x1.Nz).bind λy =>
  (if y.2 then (xn fu x1.Id 1 999).bind λy2 =>
  if y2 then (yd fu x1.Nj).bind λy3 =>
  some y3
  else some false
  else some false).bind λc5 =>
  some c5
def bu (fu:Nat) (b':Nj):Option (Int) :=
  (shl 1 b'.Pk).bind λq =>
  (shl (w64 (q - 1)) b'.Px).bind λq2 =>
  some q2
def yh (fu:Nat) (x:List Int):Option (List Int):=nr x
def xM (fu:Nat) (x:List Int):Option (List Int):=some (gF x)
def xF (fu:Nat) (a':List Int) (b':List Int):Nat→List Int→Int→Option (List Int×Int)
  | 0,_,_=>none
  | fk + 1,out',i =>
    if decide (i<(a'.length:Int)) then
      (idx a' i).bind λe =>
      (vr fu b' e).bind λy =>
      if y then
        (app out' [e]).bind λl =>
        xF fu a' b' fk l (w64 (i + 1))
      else
        xF fu a' b' fk out' (w64 (i + 1))
    else
      some (out',i)
def ae (fu:Nat) (a':List Int) (b':List Int):Option (List Int) :=
  (xF fu a' b' fu ([]:List Int) 0).bind λz =>
  (yh fu z.1).bind λy2 =>
  (xM fu y2).bind λy3 =>
  some y3
def aC (fu:Nat) (a':Nw) (b':Nw):Option (Bool) :=
  ((bu fu a'.Nj).bind λy =>
  (bu fu b'.Nj).bind λy2 =>
  if (band y y2) != 0 then (ae fu a'.Nz.Nq b'.Nz.Nq).bind λy3 =>
  some (decide ((y3.length:Int) > 0))
  else some false).bind λc3 =>
  some c3
def yl (fu:Nat) (own:Nw) (cap:Nw):Option (Bool) :=
  (aC fu own cap).bind λy =>
  some y
def ug (fu:Nat) (s':List Nw) (cap:Nw):Nat→Int→Option (Out (Int) (Int))
  | 0,_=>none
  | fk + 1,i =>
    if decide (i<(s'.length:Int)) then
      (idx s' i).bind λe =>
      (yl fu e cap).bind λy =>
      if y then
        some (.ret i)
      else
        ug fu s' cap fk (w64 (i + 1))
    else
      some (.next i)
def uy (fu:Nat) (s':List Nw) (cap:Nw):Option (Int) :=
  (ug fu s' cap fu 0).bind λout=>out.on some λz =>
  some (-1)
def uk (fu:Nat) (s':List Nw) (cap:Nw):Option (Bool) :=
  (uy fu s' cap).bind λy =>
  some (decide (y≥0))
def vp (fu:Nat) (p:Nd):Nat→Int→Option (Out (Int) (Bool))
  | 0,_=>none
  | fk + 1,i =>
    if decide (i<(p.Nv.length:Int)) then
      (idx p.Nv i).bind λe =>
      ((aB fu p.Nk e).bind λy2 =>
      if !y2 then some true
      else if decide (i > 0) then (idx p.Nv (w64 (i - 1))).bind λe2 =>
      if decide (e2.Id≥e.Id) then some true
      else (sub p.Nv 0 i).bind λl =>
      (uk fu l e).bind λy3 =>
      some y3
      else (sub p.Nv 0 i).bind λl2 =>
      (uk fu l2 e).bind λy4 =>
      some y4).bind λc6 =>
      if c6 then
        some (.ret false)
      else
        vp fu p fk (w64 (i + 1))
    else
      some (.next i)
def vA (fu:Nat) (p:Nd):Option (Bool) :=
  ((xL fu p.Nk).bind λy =>
  if !y then some true
  else some (decide ((p.Nv.length:Int) > 12))).bind λc4 =>
  if c4 then
    some false
  else
    (vp fu p fu 0).bind λout=>out.on some λz =>
    some true
def zj (fu:Nat) (n':Nk):Option (Nk) :=
  (app ([]:List ByteArray) n'.Ng).bind λl =>
  (app ([]:List Np) n'.Nq).bind λl2 =>
  some ({ Ng:=l,Nq:=l2 }:Nk)
def xE (fu:Nat) (r':Nz):Option (Nz) :=
  (app ([]:List Int) r'.Nq).bind λl =>
  some ({ Pz:=r'.Pz,Nq:=l }:Nz)
def xo (fu:Nat) (p:Nd):Nat→Int→List Nw→Option (Int×List Nw)
  | 0,_,_=>none
  | fk + 1,i,m =>
    if decide (i<(p.Nv.length:Int)) then
      (idx p.Nv i).bind λe =>
      (xE fu e.Nz).bind λy2 =>
      (app m [({ Id:=e.Id,Nz:=y2,Nj:=e.Nj }:Nw)]).bind λal =>
      xo fu p fk (w64 (i + 1)) al
    else
      some (i,m)
def yj (fu:Nat) (p:Nd):Option (Nd) :=
  (zj fu p.Nk).bind λy =>
  (xo fu p fu 0 ([]:List Nw)).bind λz =>
  some ({ Nk:=y,Nv:=z.2 }:Nd)
def uX (fu:Nat) (s1:List Int) (s2:List Int):Nat→Int→Option (Out (Int) (Bool))
  | 0,_=>none
  | fk + 1,i =>
    if decide (i<(s1.length:Int)) then
      (idx s1 i).bind λe =>
      (idx s2 i).bind λe2 =>
      if e != e2 then
        some (.ret false)
      else
        uX fu s1 s2 fk (w64 (i + 1))
    else
      some (.next i)
def xr (fu:Nat) (s1:List Int) (s2:List Int):Option (Bool) :=
  if (s1.length:Int) != (s2.length:Int) then
    some false
  else
    (uX fu s1 s2 fu 0).bind λout=>out.on some λz =>
    some true
def xB (fu:Nat) (a':List Int) (b':List Int):Nat→Int→Option (Out (Int) (Bool))
  | 0,_=>none
  | fk + 1,i =>
    if decide (i<(a'.length:Int)) then
      (idx a' i).bind λe =>
      (idx b' i).bind λe2 =>
      if e != e2 then
        some (.ret false)
      else
        xB fu a' b' fk (w64 (i + 1))
    else
      some (.next i)
def bc (fu:Nat) (a':List Int) (b':List Int):Option (Bool) :=
  if (a'.length:Int) != (b'.length:Int) then
    some false
  else
    (xB fu a' b' fu 0).bind λout=>out.on some λz =>
    some true
def a6 (fu:Nat) (a':Nz) (b':Nz):Option (Bool) :=
  (if a'.Pz==b'.Pz then (bc fu a'.Nq b'.Nq).bind λy =>
  some y
  else some false).bind λc3 =>
  some c3
def aK (fu:Nat) (p:Nd) (x1:Nw):Option (Nd×Bool) :=
  (x3 fu p).bind λy =>
  if !y then
    some (({ Nk:=({ Ng:=[],Nq:=[] }:Nk),Nv:=[] }:Nd),false)
  else
    (zT fu p x1).bind λy2 =>
    (x3 fu y2).bind λy3 =>
    if !y3 then
      some (({ Nk:=({ Ng:=[],Nq:=[] }:Nk),Nv:=[] }:Nd),false)
    else
      some (y2,true)
def zo (fu:Nat) (x1:Nw) (y:Nw):Option (Bool) :=
  (if x1.Id==y.Id then if ([x1.Nj.Px,x1.Nj.Pk]:List Int)==([y.Nj.Px,y.Nj.Pk]:List Int) then (a6 fu x1.Nz y.Nz).bind λy2 =>
  some y2
  else some false
  else some false).bind λc3 =>
  some c3
def aj (fu:Nat) (p:Nd) (id:Int) (r':Nz) (b':Nj):Option (Nd×Bool) :=
  ((x3 fu p).bind λy =>
  if !y then some true
  else (xG fu p id).bind λy2 =>
  some (decide (y2<0))).bind λc5 =>
  if c5 then
    some (({ Nk:=({ Ng:=[],Nq:=[] }:Nk),Nv:=[] }:Nd),false)
  else
    (xG fu p id).bind λy3 =>
    (yu fu p y3).bind λy4 =>
    (zT fu y4 ({ Id:=id,Nz:=r',Nj:=b' }:Nw)).bind λy5 =>
    (x3 fu y5).bind λy6 =>
    if !y6 then
      some (({ Nk:=({ Ng:=[],Nq:=[] }:Nk),Nv:=[] }:Nd),false)
    else
      some (y5,true)
def zD (fu:Nat) (p:Nd) (a':Nh):Option (Nd×Bool) :=
  (xG fu p a'.Nw.Id).bind λy =>
  if a'.Pq==1 then
    (aK fu p a'.Nw).bind λy2 =>
    some (y2.1,y2.2)
  else
    if a'.Pq==2 then
      (if decide (y≥0) then (idx p.Nv y).bind λe =>
      (zo fu e a'.Nw).bind λy3 =>
      some y3
      else some false).bind λc8 =>
      if c8 then
        (yu fu p y).bind λy4 =>
        some (y4,true)
      else
        some (({ Nk:=({ Ng:=[],Nq:=[] }:Nk),Nv:=[] }:Nd),false)
    else
      if a'.Pq==3 then
        (aj fu p a'.Nw.Id a'.Nw.Nz a'.Nw.Nj).bind λy5 =>
        some (y5.1,y5.2)
      else
        some (({ Nk:=({ Ng:=[],Nq:=[] }:Nk),Nv:=[] }:Nd),false)
def uH (fu:Nat) (s1:List ByteArray) (s2:List ByteArray):Nat→Int→Option (Out (Int) (Bool))
  | 0,_=>none
  | fk + 1,i =>
    if decide (i<(s1.length:Int)) then
      (idx s1 i).bind λe =>
      (idx s2 i).bind λe2 =>
      if !(e.toList==e2.toList) then
        some (.ret false)
      else
        uH fu s1 s2 fk (w64 (i + 1))
    else
      some (.next i)
def vM (fu:Nat) (s1:List ByteArray) (s2:List ByteArray):Option (Bool) :=
  if (s1.length:Int) != (s2.length:Int) then
    some false
  else
    (uH fu s1 s2 fu 0).bind λout=>out.on some λz =>
    some true
def uq (fu:Nat) (s1:List Np) (s2:List Np):Nat→Int→Option (Out (Int) (Bool))
  | 0,_=>none
  | fk + 1,i =>
    if decide (i<(s1.length:Int)) then
      (idx s1 i).bind λe =>
      (idx s2 i).bind λe2 =>
      if !(([e.A,e.B,e.Nt,e.Pj]:List Int)==([e2.A,e2.B,e2.Nt,e2.Pj]:List Int)) then
        some (.ret false)
      else
        uq fu s1 s2 fk (w64 (i + 1))
    else
      some (.next i)
def ve (fu:Nat) (s1:List Np) (s2:List Np):Option (Bool) :=
  if (s1.length:Int) != (s2.length:Int) then
    some false
  else
    (uq fu s1 s2 fu 0).bind λout=>out.on some λz =>
    some true
def xV (fu:Nat) (a':Nk) (b':Nk):Option (Bool) :=
  ((vM fu a'.Ng b'.Ng).bind λy =>
  if y then (ve fu a'.Nq b'.Nq).bind λy2 =>
  some y2
  else some false).bind λc5 =>
  some c5
def zN (fu:Nat) (x1:Nw) (cap:Int):Option (Bool) :=
  some (x1.Id==cap)
def uh (fu:Nat) (s':List Nw) (cap:Int):Nat→Int→Option (Out (Int) (Int))
  | 0,_=>none
  | fk + 1,i =>
    if decide (i<(s'.length:Int)) then
      (idx s' i).bind λe =>
      (zN fu e cap).bind λy =>
      if y then
        some (.ret i)
      else
        uh fu s' cap fk (w64 (i + 1))
    else
      some (.next i)
def uC (fu:Nat) (s':List Nw) (cap:Int):Option (Int) :=
  (uh fu s' cap fu 0).bind λout=>out.on some λz =>
  some (-1)
def xU (fu:Nat) (p:Nd) (id:Int):Option (Int) :=
  (uC fu p.Nv id).bind λy =>
  some y
def xO (fu:Nat) (a':Nw) (b':Nw):Option (Bool) :=
  (if a'.Id==b'.Id then if a'.Nz.Pz==b'.Nz.Pz then (xr fu a'.Nz.Nq b'.Nz.Nq).bind λy =>
  if y then some (([a'.Nj.Px,a'.Nj.Pk]:List Int)==([b'.Nj.Px,b'.Nj.Pk]:List Int))
  else some false
  else some false
  else some false).bind λc3 =>
  some c3
def uu (fu:Nat) (slices:List (List Nh)):Nat→Int→Int→Option (Int×Int)
  | 0,_,_=>none
  | fk + 1,size,i =>
    if decide (i<(slices.length:Int)) then
      (idx slices i).bind λe =>
      if decide ((w64 (size + (e.length:Int)))<0) then
        none
      else
        uu fu slices fk (w64 (size + (e.length:Int))) (w64 (i + 1))
    else
      some (size,i)
def ut (fu:Nat) (slices:List (List Nh)):Nat→List Nh→Int→Option (List Nh×Int)
  | 0,_,_=>none
  | fk + 1,newslice,i3 =>
    if decide (i3<(slices.length:Int)) then
      (idx slices i3).bind λe2 =>
      (app newslice e2).bind λl2 =>
      ut fu slices fk l2 (w64 (i3 + 1))
    else
      some (newslice,i3)
def uF (fu:Nat) (slices:List (List Nh)):Option (List Nh) :=
  (uu fu slices fu 0 0).bind λz2 =>
  ((mC z2.1:Option (List Nh))).bind λl =>
  (ut fu slices fu l 0).bind λz =>
  some z.1
def ze (fu:Nat) (x1:Nw):Option (Nw) :=
  (xE fu x1.Nz).bind λy =>
  some ({ Id:=x1.Id,Nz:=y,Nj:=x1.Nj }:Nw)
def vB (fu:Nat) (l:List Nh):Nat→List Nh→Int→Option (List Nh×Int)
  | 0,_,_=>none
  | fk + 1,out',i =>
    if decide (i<(l.length:Int)) then
      (idx l i).bind λe =>
      (ze fu e.Nw).bind λy =>
      (app out' [({ Pq:=e.Pq,Nw:=y }:Nh)]).bind λal =>
      vB fu l fk al (w64 (i + 1))
    else
      some (out',i)
def yr (fu:Nat) (l:List Nh):Option (List Nh) :=
  (vB fu l fu ([]:List Nh) 0).bind λz =>
  some z.1
def uU (fu:Nat) (p:Nd) (q:Nd):Nat→List Nh→Int→Option (List Nh×Int)
  | 0,_,_=>none
  | fk + 1,removes,i =>
    if decide (i<(p.Nv.length:Int)) then
      (idx p.Nv i).bind λe =>
      (xU fu q e.Id).bind λy4 =>
      if decide (y4<0) then
        (app removes [({ Pq:=2,Nw:=e }:Nh)]).bind λl =>
        uU fu p q fk l (w64 (i + 1))
      else
        uU fu p q fk removes (w64 (i + 1))
    else
      some (removes,i)
def uT (fu:Nat) (p:Nd) (q:Nd):Nat→List Nh→Int→List Nh→Option (List Nh×Int×List Nh)
  | 0,_,_,_=>none
  | fk + 1,adds,i3,moves =>
    if decide (i3<(q.Nv.length:Int)) then
      (idx q.Nv i3).bind λe2 =>
      (xU fu p e2.Id).bind λy5 =>
      if decide (y5<0) then
        (app adds [({ Pq:=1,Nw:=e2 }:Nh)]).bind λl2 =>
        uT fu p q fk l2 (w64 (i3 + 1)) moves
      else
        (idx p.Nv y5).bind λe3 =>
        (xO fu e3 e2).bind λy6 =>
        if !y6 then
          (app moves [({ Pq:=3,Nw:=e2 }:Nh)]).bind λl3 =>
          uT fu p q fk adds (w64 (i3 + 1)) l3
        else
          uT fu p q fk adds (w64 (i3 + 1)) moves
    else
      some (adds,i3,moves)
def vC (fu:Nat) (p:Nd) (q:Nd):Option (List Nh×Bool) :=
  ((vA fu p).bind λy =>
  if !y then some true
  else (vA fu q).bind λy2 =>
  if !y2 then some true
  else (xV fu p.Nk q.Nk).bind λy3 =>
  some (!y3)).bind λc7 =>
  if c7 then
    some ([],false)
  else
    (uU fu p q fu ([]:List Nh) 0).bind λz2 =>
    (uT fu p q fu ([]:List Nh) 0 ([]:List Nh)).bind λz =>
    (uF fu [z2.1,z.2.2,z.1]).bind λy7 =>
    (yr fu y7).bind λy8 =>
    if decide ((y8.length:Int) > 8) then
      some ([],false)
    else
      some (y8,true)
def vU (fu:Nat) (p:Nd) (x1:Nw):Nat→Int→Option (Int)
  | 0,_=>none
  | fk + 1,at' =>
    (if decide (at'<(p.Nv.length:Int)) then (idx p.Nv at').bind λe =>
    some (decide (e.Id<x1.Id))
    else some false).bind λc8 =>
    if c8 then
      vU fu p x1 fk (w64 (at' + 1))
    else
      some at'
def zd (fu:Nat) (p:Nd) (x1:Nw):Option (Nd) :=
  (yj fu p).bind λy =>
  (vU fu p x1 fu 0).bind λz =>
  (xE fu x1.Nz).bind λy2 =>
  (insl y.Nv z [({ Id:=x1.Id,Nz:=y2,Nj:=x1.Nj }:Nw)]).bind λl =>
  some ({ Nk:=y.Nk,Nv:=l }:Nd)
def zm (fu:Nat) (p:Nd):Option (Nd×Bool) :=
  (vA fu p).bind λy =>
  if !y then
    some (({ Nk:=({ Ng:=[],Nq:=[] }:Nk),Nv:=[] }:Nd),false)
  else
    some (p,true)
def aO (fu:Nat) (p:Nd) (x1:Nw):Option (Nd×Bool) :=
  (vA fu p).bind λy =>
  if !y then
    some (({ Nk:=({ Ng:=[],Nq:=[] }:Nk),Nv:=[] }:Nd),false)
  else
    (zd fu p x1).bind λy2 =>
    zm fu y2
def xP (fu:Nat) (p:Nd) (id:Int):Option (Int×Bool) :=
  (xU fu p id).bind λy =>
  ((vA fu p).bind λy2 =>
  if !y2 then some true
  else some (decide (y<0))).bind λc4 =>
  if c4 then
    some (0,false)
  else
    some (y,true)
def yc (fu:Nat) (p:Nd) (i:Int):Option (Nd) :=
  (yj fu p).bind λy =>
  (dell y.Nv i (w64 (i + 1))).bind λl =>
  some ({ Nk:=y.Nk,Nv:=l }:Nd)
def zl (fu:Nat) (p:Nd) (id:Int):Option (Nd×Bool) :=
  (xP fu p id).bind λy =>
  if !y.2 then
    some (({ Nk:=({ Ng:=[],Nq:=[] }:Nk),Nv:=[] }:Nd),false)
  else
    (yc fu p y.1).bind λy2 =>
    some (y2,true)
def ak (fu:Nat) (p:Nd) (id:Int) (r':Nz) (b':Nj):Option (Nd×Bool) :=
  (xP fu p id).bind λy =>
  if !y.2 then
    some (({ Nk:=({ Ng:=[],Nq:=[] }:Nk),Nv:=[] }:Nd),false)
  else
    (yj fu p).bind λy2 =>
    (xE fu r').bind λy3 =>
    (idx y2.Nv y.1).bind λe =>
    zm fu ({ Nk:=y2.Nk,Nv:=y2.Nv.set (y.1:Int).toNat ({ Id:=id,Nz:=y3,Nj:=b' }:Nw) }:Nd)
def xp (fu:Nat) (p:Nd) (a':Nh):Option (Nd×Bool) :=
  if a'.Pq==1 then
    (aO fu p a'.Nw).bind λy =>
    some (y.1,y.2)
  else
    if a'.Pq==2 then
      (xU fu p a'.Nw.Id).bind λy2 =>
      (if decide (y2≥0) then (idx p.Nv y2).bind λe =>
      (xO fu e a'.Nw).bind λy3 =>
      some y3
      else some false).bind λc8 =>
      if c8 then
        (zl fu p a'.Nw.Id).bind λy4 =>
        some (y4.1,y4.2)
      else
        some (({ Nk:=({ Ng:=[],Nq:=[] }:Nk),Nv:=[] }:Nd),false)
    else
      if a'.Pq==3 then
        (ak fu p a'.Nw.Id a'.Nw.Nz a'.Nw.Nj).bind λy5 =>
        some (y5.1,y5.2)
      else
        some (({ Nk:=({ Ng:=[],Nq:=[] }:Nk),Nv:=[] }:Nd),false)
def vf (fu:Nat) (p:Nd) (list:List Nh) (left:Int) (rec_:(Nd)→(List Nh)→(Int)→(List (Int×Bool))→Option (List Nh×Bool×(List (Int×Bool)))):Nat→Int→List (Int×Bool)→Option (Out (Int×(List (Int×Bool))) (List Nh×Bool×(List (Int×Bool))))
  | 0,_,_=>none
  | fk + 1,i,dead2 =>
    if decide (i<(list.length:Int)) then
      (idx list i).bind λe =>
      (shr left i).bind λq =>
      if (band q 1)==0 then
        vf fu p list left rec_ fk (w64 (i + 1)) dead2
      else
        (xp fu p e).bind λy =>
        if !y.2 then
          vf fu p list left rec_ fk (w64 (i + 1)) dead2
        else
          (shl 1 i).bind λq2 =>
          (rec_ y.1 list (jk left q2) dead2).bind λy2 =>
          if y2.2.1 then
            (app [e] y2.1).bind λl =>
            some (.ret (l,true,y2.2.2))
          else
            vf fu p list left rec_ fk (w64 (i + 1)) y2.2.2
    else
      some (.next (i,dead2))
def zk (fu:Nat) (rec_:(Nd)→(List Nh)→(Int)→(List (Int×Bool))→Option (List Nh×Bool×(List (Int×Bool)))) (p:Nd) (list:List Nh) (left:Int) (dead:List (Int×Bool)):Option (List Nh×Bool×(List (Int×Bool))) :=
  if left==0 then
    some (([]:List Nh),true,dead)
  else
    (kK dead left).bind λb2 =>
    if b2 then
      some ([],false,dead)
    else
      (vf fu p list left rec_ fu 0 dead).bind λout=>out.on some λz =>
      (kH z.2 left true).bind λm =>
      some ([],false,m)
def vH:Nat→(Nd)→(List Nh)→(Int)→(List (Int×Bool))→Option (List Nh×Bool×(List (Int×Bool)))
  | 0,_,_,_,_=>none
  | fu + 1,p,list,left,dead=>zk fu (λp list left dead=>vH fu p list left dead) p list left dead
def yw (fu:Nat) (p:Nd) (q:Nd):Option (List Nh×Bool) :=
  (vC fu p q).bind λy =>
  if !y.2 then
    some ([],false)
  else
    (shl 1 (y.1.length:Int)).bind λq2 =>
    (vH fu p y.1 (w64 (q2 - 1)) []).bind λy2 =>
    some (y2.1,y2.2.1)
def xu (fu:Nat) (p:Nd) (q:Nd):Nat→Int→Option (Out (Int) (Bool))
  | 0,_=>none
  | fk + 1,i =>
    if decide (i<(p.Nk.Ng.length:Int)) then
      (idx p.Nk.Ng i).bind λe =>
      (idx q.Nk.Ng i).bind λe2 =>
      if !(e.toList==e2.toList) then
        some (.ret false)
      else
        xu fu p q fk (w64 (i + 1))
    else
      some (.next i)
def xt (fu:Nat) (p:Nd) (q:Nd):Nat→Int→Option (Out (Int) (Bool))
  | 0,_=>none
  | fk + 1,i3 =>
    if decide (i3<(p.Nk.Nq.length:Int)) then
      (idx p.Nk.Nq i3).bind λe3 =>
      (idx q.Nk.Nq i3).bind λe4 =>
      if !(([e3.A,e3.B,e3.Nt,e3.Pj]:List Int)==([e4.A,e4.B,e4.Nt,e4.Pj]:List Int)) then
        some (.ret false)
      else
        xt fu p q fk (w64 (i3 + 1))
    else
      some (.next i3)
def xZ (fu:Nat) (p:Nd) (q:Nd):Nat→Int→Option (Out (Int) (Bool))
  | 0,_=>none
  | fk + 1,i5 =>
    if decide (i5<(p.Nv.length:Int)) then
      ((idx p.Nv i5).bind λe5 =>
      (idx q.Nv i5).bind λe6 =>
      if e5.Id != e6.Id then some true
      else (idx p.Nv i5).bind λe7 =>
      (idx q.Nv i5).bind λe8 =>
      if !(([e7.Nj.Px,e7.Nj.Pk]:List Int)==([e8.Nj.Px,e8.Nj.Pk]:List Int)) then some true
      else (idx p.Nv i5).bind λe9 =>
      (idx q.Nv i5).bind λe10 =>
      (a6 fu e9.Nz e10.Nz).bind λy =>
      some (!y)).bind λc8 =>
      if c8 then
        some (.ret false)
      else
        xZ fu p q fk (w64 (i5 + 1))
    else
      some (.next i5)
def b7 (fu:Nat) (p:Nd) (q:Nd):Option (Bool) :=
  (if (p.Nv.length:Int) != (q.Nv.length:Int) then some true
  else if (p.Nk.Ng.length:Int) != (q.Nk.Ng.length:Int) then some true
  else some ((p.Nk.Nq.length:Int) != (q.Nk.Nq.length:Int))).bind λc7 =>
  if c7 then
    some false
  else
    (xu fu p q fu 0).bind λout=>out.on some λz3 =>
    (xt fu p q fu 0).bind λout=>out.on some λz2 =>
    (xZ fu p q fu 0).bind λout=>out.on some λz =>
    some true
def yo (fu:Nat) (p:Nd) (q:Nd):Option (Bool) :=
  (b7 fu ({ Nk:=p.Nk,Nv:=[] }:Nd) ({ Nk:=q.Nk,Nv:=[] }:Nd)).bind λy =>
  some y
def uV (fu:Nat) (p:Nd) (q:Nd):Nat→List Nh→Int→Option (List Nh×Int)
  | 0,_,_=>none
  | fk + 1,out',i =>
    if decide (i<(p.Nv.length:Int)) then
      (idx p.Nv i).bind λe =>
      (xG fu q e.Id).bind λy =>
      if decide (y<0) then
        (idx p.Nv i).bind λe2 =>
        (yg fu e2).bind λy2 =>
        (app out' [({ Pq:=2,Nw:=y2 }:Nh)]).bind λal =>
        uV fu p q fk al (w64 (i + 1))
      else
        uV fu p q fk out' (w64 (i + 1))
    else
      some (out',i)
def uR (fu:Nat) (p:Nd) (q:Nd):Nat→List Nh→Int→Option (List Nh×Int)
  | 0,_,_=>none
  | fk + 1,out4,i3 =>
    if decide (i3<(q.Nv.length:Int)) then
      (idx q.Nv i3).bind λe3 =>
      (xG fu p e3.Id).bind λy3 =>
      (if decide (y3≥0) then (idx p.Nv y3).bind λe4 =>
      (idx q.Nv i3).bind λe5 =>
      (zo fu e4 e5).bind λy4 =>
      some (!y4)
      else some false).bind λc15 =>
      if c15 then
        (idx q.Nv i3).bind λe6 =>
        (yg fu e6).bind λy5 =>
        (app out4 [({ Pq:=3,Nw:=y5 }:Nh)]).bind λal2 =>
        uR fu p q fk al2 (w64 (i3 + 1))
      else
        uR fu p q fk out4 (w64 (i3 + 1))
    else
      some (out4,i3)
def uO (fu:Nat) (p:Nd) (q:Nd):Nat→List Nh→Int→Option (List Nh×Int)
  | 0,_,_=>none
  | fk + 1,out7,i5 =>
    if decide (i5<(q.Nv.length:Int)) then
      (idx q.Nv i5).bind λe7 =>
      (xG fu p e7.Id).bind λy6 =>
      if decide (y6<0) then
        (idx q.Nv i5).bind λe8 =>
        (yg fu e8).bind λy7 =>
        (app out7 [({ Pq:=1,Nw:=y7 }:Nh)]).bind λal3 =>
        uO fu p q fk al3 (w64 (i5 + 1))
      else
        uO fu p q fk out7 (w64 (i5 + 1))
    else
      some (out7,i5)
def xR (fu:Nat) (p:Nd) (q:Nd):Option (List Nh) :=
  (uV fu p q fu ([]:List Nh) 0).bind λz3 =>
  (uR fu p q fu z3.1 0).bind λz2 =>
  (uO fu p q fu z2.1 0).bind λz =>
  some z.1
def xI (fu:Nat) (p:Nd) (q:Nd):Option (List Nh×Bool) :=
  ((x3 fu p).bind λy =>
  if !y then some true
  else (x3 fu q).bind λy2 =>
  if !y2 then some true
  else (yo fu p q).bind λy3 =>
  some (!y3)).bind λc7 =>
  if c7 then
    some (([]:List Nh),false)
  else
    (xR fu p q).bind λy4 =>
    if decide ((y4.length:Int) > 8) then
      some (([]:List Nh),false)
    else
      some (y4,true)
def uB (fu:Nat) (x1:Ph) (p:Nd) (order:List Int) (used:Int) (rec_:(Ph)→(Nd)→(List Int)→(Int)→Option (List Int×Bool×List Bool)):Nat→Int→List Bool→Option (Out (Int×List Bool) (List Int×Bool×List Bool))
  | 0,_,_=>none
  | fk + 1,i,m =>
    if decide (i<(x1.list.length:Int)) then
      (shr used (wu64 i)).bind λq =>
      if (band q 1)==1 then
        uB fu x1 p order used rec_ fk (w64 (i + 1)) m
      else
        (idx x1.list i).bind λe2 =>
        (zD fu p e2).bind λy =>
        if !y.2 then
          uB fu x1 p order used rec_ fk (w64 (i + 1)) m
        else
          (zY fu order).bind λy2 =>
          (app y2 [i]).bind λl =>
          (shl 1 (wu64 i)).bind λq2 =>
          (rec_ ({ list:=x1.list,failed:=m }:Ph) y.1 l (bor used q2)).bind λy3 =>
          if y3.2.1 then
            some (.ret (y3.1,true,y3.2.2))
          else
            uB fu x1 p order used rec_ fk (w64 (i + 1)) y3.2.2
    else
      some (.next (i,m))
def vy (fu:Nat) (rec_:(Ph)→(Nd)→(List Int)→(Int)→Option (List Int×Bool×List Bool)) (x1:Ph) (p:Nd) (order:List Int) (used:Int):Option (List Int×Bool×List Bool) :=
  if (order.length:Int)==(x1.list.length:Int) then
    some (order,true,x1.failed)
  else
    (idx x1.failed used).bind λe =>
    if e then
      some (order,false,x1.failed)
    else
      (uB fu x1 p order used rec_ fu 0 x1.failed).bind λout=>out.on some λz =>
      (idx z.2 used).bind λe3 =>
      some (order,false,z.2.set (used:Int).toNat true)
def uE:Nat→(Ph)→(Nd)→(List Int)→(Int)→Option (List Int×Bool×List Bool)
  | 0,_,_,_,_=>none
  | fu + 1,x1,p,order,used=>vy fu (λx1 p order used=>uE fu x1 p order used) x1 p order used
def vN (fu:Nat) (y:List Nh×Bool) (y2:List Int×Bool×List Bool):Nat→List Nh→Int→Option (List Nh×Int)
  | 0,_,_=>none
  | fk + 1,out',i =>
    if decide (i<(y2.1.length:Int)) then
      (idx y2.1 i).bind λe =>
      (idx y.1 e).bind λe2 =>
      (app out' [e2]).bind λl2 =>
      vN fu y y2 fk l2 (w64 (i + 1))
    else
      some (out',i)
def yV (fu:Nat) (p:Nd) (q:Nd):Option (List Nh×Bool) :=
  (xI fu p q).bind λy =>
  if !y.2 then
    some (([]:List Nh),false)
  else
    (shl 1 (wu64 (y.1.length:Int))).bind λq2 =>
    (mk (false:Bool) q2).bind λl =>
    (uE fu ({ list:=y.1,failed:=l }:Ph) p ([]:List Int) 0).bind λy2 =>
    if !y2.2.1 then
      some (([]:List Nh),false)
    else
      (vN fu y y2 fu ([]:List Nh) 0).bind λz =>
      some (z.1,true)
def vR (fu:Nat) (a':List ByteArray):Nat→Int→Int→Option (Out (Int×Int) (Int))
  | 0,_,_=>none
  | fk + 1,left2,i =>
    if decide (i<(a'.length:Int)) then
      (idx a' i).bind λe =>
      if decide ((w64 (left2 - (e.size:Int)))<0) then
        some (.ret (-1))
      else
        vR fu a' fk (w64 (left2 - (e.size:Int))) (w64 (i + 1))
    else
      some (.next (left2,i))
def yZ (fu:Nat) (a':List ByteArray) (left:Int):Option (Int) :=
  if decide ((w64 (left - (a'.length:Int)))<0) then
    some (-1)
  else
    (vR fu a' fu (w64 (left - (a'.length:Int))) 0).bind λout=>out.on some λz =>
    some z.1
def zI (fu:Nat) (a':List Np) (left:Int):Option (Int) :=
  if decide ((w64 (left - (a'.length:Int)))<0) then
    some (-1)
  else
    some (w64 (left - (a'.length:Int)))
def za (fu:Nat) (a':Nk) (left:Int):Option (Int) :=
  (yZ fu a'.Ng left).bind λy =>
  if decide (y<0) then
    some (-1)
  else
    (zI fu a'.Nq y).bind λy2 =>
    if decide (y2<0) then
      some (-1)
    else
      some y2
def bn (fu:Nat) (a':List Int) (left:Int):Option (Int) :=
  if decide ((w64 (left - (a'.length:Int)))<0) then
    some (-1)
  else
    some (w64 (left - (a'.length:Int)))
def ax (fu:Nat) (a':Nz) (left:Int):Option (Int) :=
  (bn fu a'.Nq left).bind λy =>
  if decide (y<0) then
    some (-1)
  else
    some y
def zu (fu:Nat) (a':Nw) (left:Int):Option (Int) :=
  (ax fu a'.Nz left).bind λy =>
  if decide (y<0) then
    some (-1)
  else
    some y
def xj (fu:Nat) (a':List Nw):Nat→Int→Int→Option (Out (Int×Int) (Int))
  | 0,_,_=>none
  | fk + 1,left2,i =>
    if decide (i<(a'.length:Int)) then
      (idx a' i).bind λe =>
      (zu fu e left2).bind λy =>
      if decide (y<0) then
        some (.ret (-1))
      else
        xj fu a' fk y (w64 (i + 1))
    else
      some (.next (left2,i))
def zH (fu:Nat) (a':List Nw) (left:Int):Option (Int) :=
  if decide ((w64 (left - (a'.length:Int)))<0) then
    some (-1)
  else
    (xj fu a' fu (w64 (left - (a'.length:Int))) 0).bind λout=>out.on some λz =>
    some z.1
def z8 (fu:Nat) (a':Nd) (left:Int):Option (Int) :=
  (za fu a'.Nk left).bind λy =>
  if decide (y<0) then
    some (-1)
  else
    (zH fu a'.Nv y).bind λy2 =>
    if decide (y2<0) then
      some (-1)
    else
      some y2
def vQ (fu:Nat) (a':List ByteArray):Nat→List ByteArray→Int→Option (List ByteArray×Int)
  | 0,_,_=>none
  | fk + 1,out',i =>
    if decide (i<(a'.length:Int)) then
      (idx a' i).bind λe =>
      (idx out' i).bind λe2 =>
      vQ fu a' fk (out'.set (i:Int).toNat e) (w64 (i + 1))
    else
      some (out',i)
def yX (fu:Nat) (a':List ByteArray):Option (List ByteArray) :=
  (mk (ByteArray.empty:ByteArray) (a'.length:Int)).bind λl =>
  (vQ fu a' fu l 0).bind λz =>
  some z.1
def aw (fu:Nat) (a':Np):Option (Np) :=
  some a'
def xi (fu:Nat) (a':List Np):Nat→List Np→Int→Option (List Np×Int)
  | 0,_,_=>none
  | fk + 1,out',i =>
    if decide (i<(a'.length:Int)) then
      (idx a' i).bind λe =>
      (aw fu e).bind λy =>
      (idx out' i).bind λe2 =>
      xi fu a' fk (out'.set (i:Int).toNat y) (w64 (i + 1))
    else
      some (out',i)
def zG (fu:Nat) (a':List Np):Option (List Np) :=
  (mk (({ A:=0,B:=0,Nt:=0,Pj:=0 }:Np):Np) (a'.length:Int)).bind λl =>
  (xi fu a' fu l 0).bind λz =>
  some z.1
def yY (fu:Nat) (a':Nk):Option (Nk) :=
  (yX fu a'.Ng).bind λy =>
  (zG fu a'.Nq).bind λy2 =>
  some ({ Ng:=y,Nq:=y2 }:Nk)
def x6 (fu:Nat) (a':List Int):Nat→List Int→Int→Option (List Int×Int)
  | 0,_,_=>none
  | fk + 1,out',i =>
    if decide (i<(a'.length:Int)) then
      (idx a' i).bind λe =>
      (idx out' i).bind λe2 =>
      x6 fu a' fk (out'.set (i:Int).toNat e) (w64 (i + 1))
    else
      some (out',i)
def bh (fu:Nat) (a':List Int):Option (List Int) :=
  (mk (0:Int) (a'.length:Int)).bind λl =>
  (x6 fu a' fu l 0).bind λz =>
  some z.1
def av (fu:Nat) (a':Nz):Option (Nz) :=
  (bh fu a'.Nq).bind λy =>
  some ({ Pz:=a'.Pz,Nq:=y }:Nz)
def bK (fu:Nat) (a':Nj):Option (Nj) :=
  some a'
def zt (fu:Nat) (a':Nw):Option (Nw) :=
  (av fu a'.Nz).bind λy =>
  (bK fu a'.Nj).bind λy2 =>
  some ({ Id:=a'.Id,Nz:=y,Nj:=y2 }:Nw)
def xh (fu:Nat) (a':List Nw):Nat→List Nw→Int→Option (List Nw×Int)
  | 0,_,_=>none
  | fk + 1,out',i =>
    if decide (i<(a'.length:Int)) then
      (idx a' i).bind λe =>
      (zt fu e).bind λy =>
      (idx out' i).bind λe2 =>
      xh fu a' fk (out'.set (i:Int).toNat y) (w64 (i + 1))
    else
      some (out',i)
def zF (fu:Nat) (a':List Nw):Option (List Nw) :=
  (mk (({ Id:=0,Nz:=({ Pz:=0,Nq:=[] }:Nz),Nj:=({ Px:=0,Pk:=0 }:Nj) }:Nw):Nw) (a'.length:Int)).bind λl =>
  (xh fu a' fu l 0).bind λz =>
  some z.1
def xg (fu:Nat) (a':Nd):Option (Nd) :=
  (yY fu a'.Nk).bind λy =>
  (zF fu a'.Nv).bind λy2 =>
  some ({ Nk:=y,Nv:=y2 }:Nd)
def x7 (fu:Nat) (a':List Int) (b':List Int):Nat→Int→Option (Out (Int) (Bool))
  | 0,_=>none
  | fk + 1,i =>
    if decide (i<(a'.length:Int)) then
      (idx a' i).bind λe =>
      (idx b' i).bind λe2 =>
      if e != e2 then
        some (.ret false)
      else
        x7 fu a' b' fk (w64 (i + 1))
    else
      some (.next i)
def bq (fu:Nat) (a':List Int) (b':List Int):Option (Bool) :=
  if (a'.length:Int) != (b'.length:Int) then
    some false
  else
    (x7 fu a' b' fu 0).bind λout=>out.on some λz =>
    some true
def ay (fu:Nat) (a':Nz) (b':Nz):Option (Bool) :=
  if a'.Pz != b'.Pz then
    some false
  else
    (bq fu a'.Nq b'.Nq).bind λy =>
    if !y then
      some false
    else
      some true
def az (fu:Nat) (a':Nj) (b':Nj):Option (Bool) :=
  if a'.Px != b'.Px then
    some false
  else
    if a'.Pk != b'.Pk then
      some false
    else
      some true
def yE (fu:Nat) (a':Nw) (b':Nw):Option (Bool) :=
  if a'.Id != b'.Id then
    some false
  else
    (ay fu a'.Nz b'.Nz).bind λy =>
    if !y then
      some false
    else
      (az fu a'.Nj b'.Nj).bind λy2 =>
      if !y2 then
        some false
      else
        some true
def yK (fu:Nat) (a':Nh) (b':Nh):Option (Bool) :=
  if a'.Pq != b'.Pq then
    some false
  else
    (yE fu a'.Nw b'.Nw).bind λy =>
    if !y then
      some false
    else
      some true
def vT (fu:Nat) (a':List Nh) (b':List Nh):Nat→Int→Option (Out (Int) (Bool))
  | 0,_=>none
  | fk + 1,i =>
    if decide (i<(a'.length:Int)) then
      (idx a' i).bind λe =>
      (idx b' i).bind λe2 =>
      (yK fu e e2).bind λy =>
      if !y then
        some (.ret false)
      else
        vT fu a' b' fk (w64 (i + 1))
    else
      some (.next i)
def x8 (fu:Nat) (a':List Nh) (b':List Nh):Option (Bool) :=
  if (a'.length:Int) != (b'.length:Int) then
    some false
  else
    (vT fu a' b' fu 0).bind λout=>out.on some λz =>
    some true
def vS (fu:Nat) (a':List ByteArray) (b':List ByteArray):Nat→Int→Option (Out (Int) (Bool))
  | 0,_=>none
  | fk + 1,i =>
    if decide (i<(a'.length:Int)) then
      (idx a' i).bind λe =>
      (idx b' i).bind λe2 =>
      if !(e.toList==e2.toList) then
        some (.ret false)
      else
        vS fu a' b' fk (w64 (i + 1))
    else
      some (.next i)
def zb (fu:Nat) (a':List ByteArray) (b':List ByteArray):Option (Bool) :=
  if (a'.length:Int) != (b'.length:Int) then
    some false
  else
    (vS fu a' b' fu 0).bind λout=>out.on some λz =>
    some true
def zv (fu:Nat) (a':Np) (b':Np):Option (Bool) :=
  if a'.A != b'.A then
    some false
  else
    if a'.B != b'.B then
      some false
    else
      if a'.Nt != b'.Nt then
        some false
      else
        if a'.Pj != b'.Pj then
          some false
        else
          some true
def xm (fu:Nat) (a':List Np) (b':List Np):Nat→Int→Option (Out (Int) (Bool))
  | 0,_=>none
  | fk + 1,i =>
    if decide (i<(a'.length:Int)) then
      (idx a' i).bind λe =>
      (idx b' i).bind λe2 =>
      (zv fu e e2).bind λy =>
      if !y then
        some (.ret false)
      else
        xm fu a' b' fk (w64 (i + 1))
    else
      some (.next i)
def zK (fu:Nat) (a':List Np) (b':List Np):Option (Bool) :=
  if (a'.length:Int) != (b'.length:Int) then
    some false
  else
    (xm fu a' b' fu 0).bind λout=>out.on some λz =>
    some true
def zc (fu:Nat) (a':Nk) (b':Nk):Option (Bool) :=
  (zb fu a'.Ng b'.Ng).bind λy =>
  if !y then
    some false
  else
    (zK fu a'.Nq b'.Nq).bind λy2 =>
    if !y2 then
      some false
    else
      some true
def xl (fu:Nat) (a':List Nw) (b':List Nw):Nat→Int→Option (Out (Int) (Bool))
  | 0,_=>none
  | fk + 1,i =>
    if decide (i<(a'.length:Int)) then
      (idx a' i).bind λe =>
      (idx b' i).bind λe2 =>
      (yE fu e e2).bind λy =>
      if !y then
        some (.ret false)
      else
        xl fu a' b' fk (w64 (i + 1))
    else
      some (.next i)
def zJ (fu:Nat) (a':List Nw) (b':List Nw):Option (Bool) :=
  if (a'.length:Int) != (b'.length:Int) then
    some false
  else
    (xl fu a' b' fu 0).bind λout=>out.on some λz =>
    some true
def aa (fu:Nat) (a':Nd) (b':Nd):Option (Bool) :=
  (zc fu a'.Nk b'.Nk).bind λy =>
  if !y then
    some false
  else
    (zJ fu a'.Nv b'.Nv).bind λy2 =>
    if !y2 then
      some false
    else
      some true
def xk (fu:Nat):Nat→Int→ByteArray→Option (Int×ByteArray)
  | 0,_,_=>none
  | fk + 1,k2,out' =>
    if decide (k2 > 0) then
      (rem k2 10).bind λq =>
      (scat (bstr [(⟨wu8 (w64 (48 + q))⟩:By)]) out').bind λs' =>
      (quo k2 10).bind λq2 =>
      xk fu fk q2 s'
    else
      some (k2,out')
def yH (fu:Nat) (k':Int):Option (ByteArray) :=
  if decide (k'≤0) then
    some (⟨#[109,48]⟩:ByteArray)
  else
    (xk fu fu k' ByteArray.empty).bind λz =>
    (scat (⟨#[109]⟩:ByteArray) z.2).bind λs2 =>
    some s2
def vm (fu:Nat):Nat→List ByteArray→Int→Int→Option (List ByteArray×Int×Int)
  | 0,_,_,_=>none
  | fk + 1,a2,k2,i =>
    if decide (i<(a2.length:Int)) then
      (yH fu k2).bind λy =>
      (idx a2 i).bind λe =>
      vm fu fk (a2.set (i:Int).toNat y) (w64 (k2 + 1)) (w64 (i + 1))
    else
      some (a2,k2,i)
def yp (fu:Nat) (a':List ByteArray) (k':Int):Option (Int×List ByteArray) :=
  (vm fu fu a' k' 0).bind λz =>
  some (z.2.1,z.1)
def vx (fu:Nat):Nat→List Np→Int→Int→Option (List Np×Int×Int)
  | 0,_,_,_=>none
  | fk + 1,a2,k2,i =>
    if decide (i<(a2.length:Int)) then
      (idx a2 i).bind λe =>
      (idx (a2.set (i:Int).toNat ({ A:=k2,B:=e.B,Nt:=e.Nt,Pj:=e.Pj }:Np)) i).bind λe2 =>
      (idx ((a2.set (i:Int).toNat ({ A:=k2,B:=e.B,Nt:=e.Nt,Pj:=e.Pj }:Np)).set (i:Int).toNat ({ A:=e2.A,B:=w64 (k2 + 1),Nt:=e2.Nt,Pj:=e2.Pj }:Np)) i).bind λe3 =>
      (idx (((a2.set (i:Int).toNat ({ A:=k2,B:=e.B,Nt:=e.Nt,Pj:=e.Pj }:Np)).set (i:Int).toNat ({ A:=e2.A,B:=w64 (k2 + 1),Nt:=e2.Nt,Pj:=e2.Pj }:Np)).set (i:Int).toNat ({ A:=e3.A,B:=e3.B,Nt:=w64 ((w64 (k2 + 1)) + 1),Pj:=e3.Pj }:Np)) i).bind λe4 =>
      vx fu fk ((((a2.set (i:Int).toNat ({ A:=k2,B:=e.B,Nt:=e.Nt,Pj:=e.Pj }:Np)).set (i:Int).toNat ({ A:=e2.A,B:=w64 (k2 + 1),Nt:=e2.Nt,Pj:=e2.Pj }:Np)).set (i:Int).toNat ({ A:=e3.A,B:=e3.B,Nt:=w64 ((w64 (k2 + 1)) + 1),Pj:=e3.Pj }:Np)).set (i:Int).toNat ({ A:=e4.A,B:=e4.B,Nt:=e4.Nt,Pj:=w64 ((w64 ((w64 (k2 + 1)) + 1)) + 1) }:Np)) (w64 ((w64 ((w64 ((w64 (k2 + 1)) + 1)) + 1)) + 1)) (w64 (i + 1))
    else
      some (a2,k2,i)
def yD (fu:Nat) (a':List Np) (k':Int):Option (Int×List Np) :=
  (vx fu fu a' k' 0).bind λz =>
  some (z.2.1,z.1)
def zi (fu:Nat) (a':Nk) (k':Int):Option (Int×Nk) :=
  (yp fu a'.Ng k').bind λy =>
  (yD fu a'.Nq y.1).bind λy2 =>
  some (y2.1,({ Ng:=y.2,Nq:=y2.2 }:Nk))
def vd (fu:Nat):Nat→List Int→Int→Int→Option (List Int×Int×Int)
  | 0,_,_,_=>none
  | fk + 1,a2,k2,i =>
    if decide (i<(a2.length:Int)) then
      (idx a2 i).bind λe =>
      vd fu fk (a2.set (i:Int).toNat k2) (w64 (k2 + 1)) (w64 (i + 1))
    else
      some (a2,k2,i)
def vZ (fu:Nat) (a':List Int) (k':Int):Option (Int×List Int) :=
  (vd fu fu a' k' 0).bind λz =>
  some (z.2.1,z.1)
def vw (fu:Nat):Nat→List Nw→Int→Int→Option (List Nw×Int×Int)
  | 0,_,_,_=>none
  | fk + 1,a2,k2,i =>
    if decide (i<(a2.length:Int)) then
      (idx a2 i).bind λe =>
      (idx (a2.set (i:Int).toNat ({ Id:=k2,Nz:=e.Nz,Nj:=e.Nj }:Nw)) i).bind λe2 =>
      (idx ((a2.set (i:Int).toNat ({ Id:=k2,Nz:=e.Nz,Nj:=e.Nj }:Nw)).set (i:Int).toNat ({ Id:=e2.Id,Nz:=({ Pz:=w64 (k2 + 1),Nq:=e2.Nz.Nq }:Nz),Nj:=e2.Nj }:Nw)) i).bind λe3 =>
      (vZ fu e3.Nz.Nq (w64 ((w64 (k2 + 1)) + 1))).bind λy =>
      (idx (((a2.set (i:Int).toNat ({ Id:=k2,Nz:=e.Nz,Nj:=e.Nj }:Nw)).set (i:Int).toNat ({ Id:=e2.Id,Nz:=({ Pz:=w64 (k2 + 1),Nq:=e2.Nz.Nq }:Nz),Nj:=e2.Nj }:Nw)).set (i:Int).toNat ({ e3 with Nz:={ e3.Nz with Nq:=y.2 } })) i).bind λe4 =>
      (idx ((((a2.set (i:Int).toNat ({ Id:=k2,Nz:=e.Nz,Nj:=e.Nj }:Nw)).set (i:Int).toNat ({ Id:=e2.Id,Nz:=({ Pz:=w64 (k2 + 1),Nq:=e2.Nz.Nq }:Nz),Nj:=e2.Nj }:Nw)).set (i:Int).toNat ({ e3 with Nz:={ e3.Nz with Nq:=y.2 } })).set (i:Int).toNat ({ Id:=e4.Id,Nz:=e4.Nz,Nj:=({ Px:=y.1,Pk:=e4.Nj.Pk }:Nj) }:Nw)) i).bind λe5 =>
      vw fu fk (((((a2.set (i:Int).toNat ({ Id:=k2,Nz:=e.Nz,Nj:=e.Nj }:Nw)).set (i:Int).toNat ({ Id:=e2.Id,Nz:=({ Pz:=w64 (k2 + 1),Nq:=e2.Nz.Nq }:Nz),Nj:=e2.Nj }:Nw)).set (i:Int).toNat ({ e3 with Nz:={ e3.Nz with Nq:=y.2 } })).set (i:Int).toNat ({ Id:=e4.Id,Nz:=e4.Nz,Nj:=({ Px:=y.1,Pk:=e4.Nj.Pk }:Nj) }:Nw)).set (i:Int).toNat ({ Id:=e5.Id,Nz:=e5.Nz,Nj:=({ Px:=e5.Nj.Px,Pk:=w64 (y.1 + 1) }:Nj) }:Nw)) (w64 ((w64 (y.1 + 1)) + 1)) (w64 (i + 1))
    else
      some (a2,k2,i)
def yC (fu:Nat) (a':List Nw) (k':Int):Option (Int×List Nw) :=
  (vw fu fu a' k' 0).bind λz =>
  some (z.2.1,z.1)
def yI (fu:Nat) (a':Nd) (k':Int):Option (Int×Nd) :=
  (zi fu a'.Nk k').bind λy =>
  (yC fu a'.Nv y.1).bind λy2 =>
  some (y2.1,({ Nk:=y.2,Nv:=y2.2 }:Nd))
def vn (fu:Nat):Nat→List Nh→Int→Int→Option (List Nh×Int×Int)
  | 0,_,_,_=>none
  | fk + 1,a2,k2,i =>
    if decide (i<(a2.length:Int)) then
      (idx a2 i).bind λe =>
      (idx (a2.set (i:Int).toNat ({ Pq:=k2,Nw:=e.Nw }:Nh)) i).bind λe2 =>
      (idx ((a2.set (i:Int).toNat ({ Pq:=k2,Nw:=e.Nw }:Nh)).set (i:Int).toNat ({ Pq:=e2.Pq,Nw:=({ Id:=w64 (k2 + 1),Nz:=e2.Nw.Nz,Nj:=e2.Nw.Nj }:Nw) }:Nh)) i).bind λe3 =>
      (idx (((a2.set (i:Int).toNat ({ Pq:=k2,Nw:=e.Nw }:Nh)).set (i:Int).toNat ({ Pq:=e2.Pq,Nw:=({ Id:=w64 (k2 + 1),Nz:=e2.Nw.Nz,Nj:=e2.Nw.Nj }:Nw) }:Nh)).set (i:Int).toNat ({ Pq:=e3.Pq,Nw:=({ Id:=e3.Nw.Id,Nz:=({ Pz:=w64 ((w64 (k2 + 1)) + 1),Nq:=e3.Nw.Nz.Nq }:Nz),Nj:=e3.Nw.Nj }:Nw) }:Nh)) i).bind λe4 =>
      (vZ fu e4.Nw.Nz.Nq (w64 ((w64 ((w64 (k2 + 1)) + 1)) + 1))).bind λy =>
      (idx ((((a2.set (i:Int).toNat ({ Pq:=k2,Nw:=e.Nw }:Nh)).set (i:Int).toNat ({ Pq:=e2.Pq,Nw:=({ Id:=w64 (k2 + 1),Nz:=e2.Nw.Nz,Nj:=e2.Nw.Nj }:Nw) }:Nh)).set (i:Int).toNat ({ Pq:=e3.Pq,Nw:=({ Id:=e3.Nw.Id,Nz:=({ Pz:=w64 ((w64 (k2 + 1)) + 1),Nq:=e3.Nw.Nz.Nq }:Nz),Nj:=e3.Nw.Nj }:Nw) }:Nh)).set (i:Int).toNat ({ e4 with Nw:={ e4.Nw with Nz:={ e4.Nw.Nz with Nq:=y.2 } } })) i).bind λe5 =>
      (idx (((((a2.set (i:Int).toNat ({ Pq:=k2,Nw:=e.Nw }:Nh)).set (i:Int).toNat ({ Pq:=e2.Pq,Nw:=({ Id:=w64 (k2 + 1),Nz:=e2.Nw.Nz,Nj:=e2.Nw.Nj }:Nw) }:Nh)).set (i:Int).toNat ({ Pq:=e3.Pq,Nw:=({ Id:=e3.Nw.Id,Nz:=({ Pz:=w64 ((w64 (k2 + 1)) + 1),Nq:=e3.Nw.Nz.Nq }:Nz),Nj:=e3.Nw.Nj }:Nw) }:Nh)).set (i:Int).toNat ({ e4 with Nw:={ e4.Nw with Nz:={ e4.Nw.Nz with Nq:=y.2 } } })).set (i:Int).toNat ({ Pq:=e5.Pq,Nw:=({ Id:=e5.Nw.Id,Nz:=e5.Nw.Nz,Nj:=({ Px:=y.1,Pk:=e5.Nw.Nj.Pk }:Nj) }:Nw) }:Nh)) i).bind λe6 =>
      vn fu fk ((((((a2.set (i:Int).toNat ({ Pq:=k2,Nw:=e.Nw }:Nh)).set (i:Int).toNat ({ Pq:=e2.Pq,Nw:=({ Id:=w64 (k2 + 1),Nz:=e2.Nw.Nz,Nj:=e2.Nw.Nj }:Nw) }:Nh)).set (i:Int).toNat ({ Pq:=e3.Pq,Nw:=({ Id:=e3.Nw.Id,Nz:=({ Pz:=w64 ((w64 (k2 + 1)) + 1),Nq:=e3.Nw.Nz.Nq }:Nz),Nj:=e3.Nw.Nj }:Nw) }:Nh)).set (i:Int).toNat ({ e4 with Nw:={ e4.Nw with Nz:={ e4.Nw.Nz with Nq:=y.2 } } })).set (i:Int).toNat ({ Pq:=e5.Pq,Nw:=({ Id:=e5.Nw.Id,Nz:=e5.Nw.Nz,Nj:=({ Px:=y.1,Pk:=e5.Nw.Nj.Pk }:Nj) }:Nw) }:Nh)).set (i:Int).toNat ({ Pq:=e6.Pq,Nw:=({ Id:=e6.Nw.Id,Nz:=e6.Nw.Nz,Nj:=({ Px:=e6.Nw.Nj.Px,Pk:=w64 (y.1 + 1) }:Nj) }:Nw) }:Nh)) (w64 ((w64 (y.1 + 1)) + 1)) (w64 (i + 1))
    else
      some (a2,k2,i)
def yq (fu:Nat) (a':List Nh) (k':Int):Option (Int×List Nh) :=
  (vn fu fu a' k' 0).bind λz =>
  some (z.2.1,z.1)
def vK (fu:Nat) (a':List Int):Nat→Int→Int→Option (Out (Int×Int) (Int))
  | 0,_,_=>none
  | fk + 1,k2,i =>
    if decide (i<(a'.length:Int)) then
      (idx a' i).bind λe =>
      if e != k2 then
        some (.ret (-1))
      else
        vK fu a' fk (w64 (k2 + 1)) (w64 (i + 1))
    else
      some (.next (k2,i))
def yJ (fu:Nat) (a':List Int) (k':Int):Option (Int) :=
  (vK fu a' fu k' 0).bind λout=>out.on some λz =>
  some z.1
def vo (fu:Nat) (a':List Nh):Nat→Int→Int→Option (Out (Int×Int) (Int))
  | 0,_,_=>none
  | fk + 1,k2,i =>
    if decide (i<(a'.length:Int)) then
      (idx a' i).bind λe =>
      if e.Pq != k2 then
        some (.ret (-1))
      else
        (idx a' i).bind λe2 =>
        if e2.Nw.Id != (w64 (k2 + 1)) then
          some (.ret (-1))
        else
          (idx a' i).bind λe3 =>
          if e3.Nw.Nz.Pz != (w64 ((w64 (k2 + 1)) + 1)) then
            some (.ret (-1))
          else
            (idx a' i).bind λe4 =>
            (yJ fu e4.Nw.Nz.Nq (w64 ((w64 ((w64 (k2 + 1)) + 1)) + 1))).bind λy =>
            if decide (y<0) then
              some (.ret (-1))
            else
              (idx a' i).bind λe5 =>
              if e5.Nw.Nj.Px != y then
                some (.ret (-1))
              else
                (idx a' i).bind λe6 =>
                if e6.Nw.Nj.Pk != (w64 (y + 1)) then
                  some (.ret (-1))
                else
                  vo fu a' fk (w64 ((w64 (y + 1)) + 1)) (w64 (i + 1))
    else
      some (.next (k2,i))
def xN (fu:Nat) (a':List Nh) (k':Int):Option (Int) :=
  (vo fu a' fu k' 0).bind λout=>out.on some λz =>
  some z.1
def xT (fu:Nat) (aP:Nd) (aQ:Nd):Option (Bool) :=
  (z8 fu aP 1048576).bind λy =>
  if decide (y<0) then
    some true
  else
    (z8 fu aQ y).bind λy2 =>
    if decide (y2<0) then
      some true
    else
      (xg fu aP).bind λy3 =>
      (xg fu aQ).bind λy4 =>
      (yV fu y3 y4).bind λy5 =>
      (xg fu aP).bind λy6 =>
      (xg fu aQ).bind λy7 =>
      (yw fu y6 y7).bind λy8 =>
      ((x8 fu y8.1 y5.1).bind λy9 =>
      if !y9 then some true
      else some (y8.2 != y5.2)).bind λc21 =>
      if c21 then
        some false
      else
        (xg fu aP).bind λy10 =>
        (aa fu y6 y10).bind λy11 =>
        if !y11 then
          some false
        else
          (xg fu aQ).bind λy12 =>
          (aa fu y7 y12).bind λy13 =>
          if !y13 then
            some false
          else
            (yI fu y6 1).bind λy14 =>
            (yI fu y7 y14.1).bind λy15 =>
            (if decide (y15.1<0) then some true
            else (x8 fu y8.1 y5.1).bind λy16 =>
            if !y16 then some true
            else some (y8.2 != y5.2)).bind λc28 =>
            if c28 then
              some false
            else
              (yq fu y8.1 1).bind λy17 =>
              (xN fu y17.2 1).bind λy18 =>
              if decide (y18<0) then
                some false
              else
                if y18 != y17.1 then
                  some false
                else
                  (xg fu aP).bind λy19 =>
                  (xg fu aQ).bind λy20 =>
                  (yw fu y19 y20).bind λy21 =>
                  ((x8 fu y21.1 y5.1).bind λy22 =>
                  if !y22 then some true
                  else some (y21.2 != y5.2)).bind λc36 =>
                  if c36 then
                    some false
                  else
                    (xN fu y17.2 1).bind λy23 =>
                    if decide (y23<0) then
                      some false
                    else
                      if y23 != y17.1 then
                        some false
                      else
                        some true
end AT
