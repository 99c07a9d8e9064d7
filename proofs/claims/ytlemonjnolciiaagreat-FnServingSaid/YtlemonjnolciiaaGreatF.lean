/- The Go functions told plainly, by program (gen.py). -/
import Derived.Test.YtlemonjnolciiaaGreatAtPI
set_option linter.unusedVariables false
namespace AT
structure Nd where
  code:List By
  at_:Int
  seed:U64
  deriving DecidableEq
structure Pq where
  A:Int
  B:Int
  Px:Int
  Pt:Int
  deriving DecidableEq
structure Nq where
  Nv:List ByteArray
  Nw:List Pq
  deriving DecidableEq
structure Nk where
  Np:Int
  Nw:List Int
  deriving DecidableEq
structure Nj where
  Pk:Int
  Pz:Int
  deriving DecidableEq
structure Nx where
  Id:Int
  Nk:Nk
  Nj:Nj
  deriving DecidableEq
structure Nh where
  Nq:Nq
  Nz:List Nx
  deriving DecidableEq
structure Ng where
  Reach:Int
  Ph:Int
  deriving DecidableEq
structure Nt where
  Rw:Int
  To:Int
  Ph:Int
  Rk:Int
  deriving DecidableEq
structure Pp where
  Nh:Nh
  Ids:List Int
  Rz:Int
  deriving DecidableEq
structure Pg where
  route:Nk
  count:Int
  deriving DecidableEq
structure Pj where
  n:Nq
  to:Int
  list:List Nk
  deriving DecidableEq
structure Pd where
  Nh:Nh
  Rq:List Nx
  Rv:List Int
  deriving DecidableEq
structure Action where
  Kind:Int
  Nx:Nx
  deriving DecidableEq
structure L20SearchP where
  list:List Action
  failed:List Bool
  deriving DecidableEq
structure FiberEvent where
  Fail:Bool
  Nw:List Int
  deriving DecidableEq
def jH (fu:Nat) (code:List By):Option (Bool):=some (decide ((code.length:Int) > 65536))
def aF (fu:Nat) (c:Nd):Option (Int×Nd):=if decide (c.at_<(c.code.length:Int)) then (V_ c.code c.at_).bind λe=>if decide ((y_ (c.at_+1))<=(c.code.length:Int)) then some (y_ e.n,(⟨c.code,y_ (c.at_+1),(⟨wu64 ((wu64 ((wu64 (c.seed.n * 6364136223846793005))+(wu64 (y_ e.n))))+897897)⟩:U64)⟩:Nd)) else (shrk 64 (wu64 ((wu64 ((wu64 (c.seed.n * 6364136223846793005))+(wu64 (y_ e.n))))+897897)) 40).bind λq=>some (y_ (xn q 255),(⟨c.code,y_ (c.at_+1),(⟨wu64 ((wu64 ((wu64 (c.seed.n * 6364136223846793005))+(wu64 (y_ e.n))))+897897)⟩:U64)⟩:Nd)) else if decide ((y_ (c.at_+1))<=(c.code.length:Int)) then some (0,(⟨c.code,y_ (c.at_+1),(⟨wu64 ((wu64 ((wu64 (c.seed.n * 6364136223846793005))+(wu64 0)))+897897)⟩:U64)⟩:Nd)) else (shrk 64 (wu64 ((wu64 ((wu64 (c.seed.n * 6364136223846793005))+(wu64 0)))+897897)) 40).bind λq2=>some (y_ (xn q2 255),(⟨c.code,y_ (c.at_+1),(⟨wu64 ((wu64 ((wu64 (c.seed.n * 6364136223846793005))+(wu64 0)))+897897)⟩:U64)⟩:Nd))
def ul (fu:Nat) (c:Nd) (n':Int):Option (Int×Nd):=if decide (n'<=1) then some (0,c) else (aF fu c).bind λy=>if decide (n' > 200) then (aF fu y.2).bind λy2=>(rem (y_ ((y_ (y.1 * 256))+y2.1)) n').bind λq=>some (q,y2.2) else (rem y.1 n').bind λq2=>some (q2,y.2)
def xB (fu:Nat) (c:Nd) (n':Int):Option (Bool×Nd):=(ul fu c n').bind λy=>some (y.1==0,y.2)
def cJ (fu:Nat) (a':Int) (b':Int):Option (Int):=if decide (a'<b') then some a' else some b'
def dx (fu:Nat) (a':Int) (b':Int):Option (Int):=if decide (a' > b') then some a' else some b'
def vg (fu:Nat) (c:Nd) (list:List Int):Option (Int×Nd):=(ul fu c (list.length:Int)).bind λy=>(V_ list y.1).bind λe=>some (e,y.2)
def cd (fu:Nat) (f:Pq) (g':Pq):Option (Int):=if f.A != g'.A then some (y_ (f.A - g'.A)) else if f.B != g'.B then some (y_ (f.B - g'.B)) else if f.Px != g'.Px then some (y_ (f.Px - g'.Px)) else some (y_ (f.Pt - g'.Pt))
def aZ (fu:Nat) (list:List Pq) (f:Pq):Nat->Int->Option (Int)
 | 0,_=>none
 | fk+1,i=>(if decide (i<(list.length:Int)) then (V_ list i).bind λe=>(cd fu e f).bind λy=>some (decide (y<=0)) else some false).bind λc2=>if c2 then aZ fu list f fk (y_ (i+1)) else some i
def ep (fu:Nat) (list:List Pq) (f:Pq):Option (List Pq):=(aZ fu list f fu 0).bind λz=>(sub list 0 z).bind λl=>(sub list z (list.length:Int)).bind λl2=>(C_ ([]:List Pq) l).bind λl3=>(C_ l3 [f]).bind λl4=>(C_ l4 l2).bind λl5=>some l5
def vG (fu:Nat) (y:Int×Nd):Nat->Int->List By->Int->U64->List Pq->Option (Int×List By×Int×U64×List Pq)
 | 0,_,_,_,_,_=>none
 | fk+1,i,m,m2,m3,m4=>if decide (i<(y_ (2+y.1))) then (rem (y_ (i+1)) (y_ (2+y.1))).bind λq=>if i==q then vG fu y fk (y_ (i+1)) m m2 m3 m4 else (xB fu (⟨m,m2,m3⟩:Nd) 10).bind λy2=>if y2.1 then vG fu y fk (y_ (i+1)) y2.2.code y2.2.at_ y2.2.seed m4 else (cJ fu i q).bind λy3=>(dx fu i q).bind λy4=>(ul fu y2.2 8).bind λy5=>(vg fu y5.2 [0,0,0,1,2]).bind λy6=>(ep fu m4 ({ A:=y3,B:=y4,Px:=y_ (100 * (y_ (1+y5.1))),Pt:=y6.1 }:Pq)).bind λy7=>vG fu y fk (y_ (i+1)) y6.2.code y6.2.at_ y6.2.seed y7 else some (i,m,m2,m3,m4)
def xe (fu:Nat) (y:Int×Nd):Nat->Int->List Pq->List By->Int->U64->Option (Int×List Pq×List By×Int×U64)
 | 0,_,_,_,_,_=>none
 | fk+1,m9,m10,m11,m12,m13=>if decide (m9 > 0) then (ul fu (⟨m11,m12,m13⟩:Nd) (y_ (2+y.1))).bind λy9=>(ul fu y9.2 (y_ (2+y.1))).bind λy10=>if y9.1 != y10.1 then (cJ fu y9.1 y10.1).bind λy11=>(dx fu y9.1 y10.1).bind λy12=>(ul fu y10.2 8).bind λy13=>(vg fu y13.2 [0,0,0,1,2]).bind λy14=>(ep fu m10 ({ A:=y11,B:=y12,Px:=y_ (100 * (y_ (1+y13.1))),Pt:=y14.1 }:Pq)).bind λy15=>xe fu y fk (y_ (m9 - 1)) y15 y14.2.code y14.2.at_ y14.2.seed else xe fu y fk (y_ (m9 - 1)) m10 y10.2.code y10.2.at_ y10.2.seed else some (m9,m10,m11,m12,m13)
def yP (fu:Nat) (c:Nd):Option (Nq×Nd):=(ul fu c 5).bind λy=>(sub [(⟨#[97]⟩:ByteArray),(⟨#[98]⟩:ByteArray),(⟨#[99]⟩:ByteArray),(⟨#[100]⟩:ByteArray),(⟨#[101]⟩:ByteArray),(⟨#[102]⟩:ByteArray)] 0 (y_ (2+y.1))).bind λl=>(vG fu y fu 0 y.2.code y.2.at_ y.2.seed []).bind λz2=>(ul fu (⟨z2.2.1,z2.2.2.1,z2.2.2.2.1⟩:Nd) 4).bind λy8=>(xe fu y fu y8.1 z2.2.2.2.2 y8.2.code y8.2.at_ y8.2.seed).bind λz=>some (({ Nv:=l,Nw:=z.2.1 }:Nq),(⟨z.2.2.1,z.2.2.2.1,z.2.2.2.2⟩:Nd))
def aG (fu:Nat) (c:Nd):Option (Nq×Nd):=(yP fu c).bind λy=>if (y.1.Nw.length:Int)==0 then (C_ y.1.Nw [({ A:=0,B:=1,Px:=100,Pt:=0 }:Pq)]).bind λl=>some (({ Nv:=y.1.Nv,Nw:=l }:Nq),y.2) else some (y.1,y.2)
def yJ (fu:Nat) (n':Nq) (fiber:Int) (node:Int):Option (Int):=(V_ n'.Nw fiber).bind λe=>if node==e.A then some e.B else if node==e.B then some e.A else some (-1)
def zW (fu:Nat) (l:List Int) (n':Int):Nat->Int->Option (Out (Int) (Bool))
 | 0,_=>none
 | fk+1,i=>if decide (i<(l.length:Int)) then (V_ l i).bind λe=>if e==n' then some (.ret true) else zW fu l n' fk (y_ (i+1)) else some (.next i)
def bF (fu:Nat) (l:List Int) (n':Int):Option (Bool):=(zW fu l n' fu 0).bind λout=>out.on some λz=>some false
def vM (fu:Nat) (n':Nq) (y:Int×Nd) (seen:List Int):Nat->List Int->Int->Option (List Int×Int)
 | 0,_,_=>none
 | fk+1,list,i=>if decide (i<(n'.Nw.length:Int)) then (V_ seen (y_ ((seen.length:Int) - 1))).bind λe=>(yJ fu n' i e).bind λy3=>(if decide (y3>=0) then (bF fu seen y3).bind λy4=>some (!y4) else some false).bind λc10=>if c10 then (C_ list [i]).bind λl=>vM fu n' y seen fk l (y_ (i+1)) else vM fu n' y seen fk list (y_ (i+1)) else some (list,i)
def xW (fu:Nat) (n':Nq) (y:Int×Nd):Nat->List Int->Int->List Int->List By->Int->U64->Option (List Int×Int×List Int×List By×Int×U64)
 | 0,_,_,_,_,_,_=>none
 | fk+1,seen,m,m2,m3,m4,m5=>if decide (m > 0) then (vM fu n' y seen fu ([]:List Int) 0).bind λz=>if (z.1.length:Int)==0 then some (seen,m,m2,m3,m4,m5) else (ul fu (⟨m3,m4,m5⟩:Nd) (z.1.length:Int)).bind λy5=>(V_ z.1 y5.1).bind λe2=>(C_ m2 [e2]).bind λl2=>(V_ seen (y_ ((seen.length:Int) - 1))).bind λe3=>(yJ fu n' e2 e3).bind λy6=>(C_ seen [y6]).bind λl3=>xW fu n' y fk l3 (y_ (m - 1)) l2 y5.2.code y5.2.at_ y5.2.seed else some (seen,m,m2,m3,m4,m5)
def zN (fu:Nat) (c:Nd) (n':Nq):Option (Nk×Nd):=(ul fu c (n'.Nv.length:Int)).bind λy=>(ul fu y.2 4).bind λy2=>(xW fu n' y fu [y.1] (y_ (1+y2.1)) ([]:List Int) y2.2.code y2.2.at_ y2.2.seed).bind λz2=>some (({ Np:=y.1,Nw:=z2.2.2.1 }:Nk),(⟨z2.2.2.2.1,z2.2.2.2.2.1,z2.2.2.2.2.2⟩:Nd))
def aC (fu:Nat) (c:Nd) (n':Nq):Option (Nk×Nd):=(zN fu c n').bind λy=>if (y.1.Nw.length:Int)==0 then (V_ n'.Nw 0).bind λe=>some (({ Np:=e.A,Nw:=[0] }:Nk),y.2) else some (y.1,y.2)
def zu (fu:Nat) (b':Nj):Option (Int):=(shl 1 (wu64 b'.Pz)).bind λq=>(shl (y_ (q - 1)) (wu64 b'.Pk)).bind λq2=>some q2
def zd (fu:Nat) (p:Nh) (fiber:Int):Nat->Int->Int->Option (Int×Int)
 | 0,_,_=>none
 | fk+1,out',i=>if decide (i<(p.Nz.length:Int)) then (V_ p.Nz i).bind λe=>(bF fu e.Nk.Nw fiber).bind λy=>if y then (V_ p.Nz i).bind λe2=>(zu fu e2.Nj).bind λy2=>zd fu p fiber fk (D0 out' y2) (y_ (i+1)) else zd fu p fiber fk out' (y_ (i+1)) else some (out',i)
def ey (fu:Nat) (p:Nh) (fiber:Int):Option (Int):=(zd fu p fiber fu 0 0).bind λz=>some z.1
def zt (fu:Nat) (p:Nh) (r':Nk):Nat->Int->Int->Option (Int×Int)
 | 0,_,_=>none
 | fk+1,out',i=>if decide (i<(r'.Nw.length:Int)) then (V_ r'.Nw i).bind λe=>(ey fu p e).bind λy=>zt fu p r' fk (D0 out' y) (y_ (i+1)) else some (out',i)
def zR (fu:Nat) (p:Nh) (r':Nk):Option (Int):=(zt fu p r' fu 0 0).bind λz=>some z.1
def zf (fu:Nat) (mask:Int) (count:Int):Nat->List Int->Int->Option (List Int×Int)
 | 0,_,_=>none
 | fk+1,out',s'=>if decide ((y_ (s' + count))<=24) then (zu fu ({ Pk:=s',Pz:=count }:Nj)).bind λy=>if (band mask y)==0 then (C_ out' [s']).bind λl=>zf fu mask count fk l (y_ (s' + 1)) else zf fu mask count fk out' (y_ (s' + 1)) else some (out',s')
def cC (fu:Nat) (mask:Int) (count:Int):Option (List Int):=(zf fu mask count fu ([]:List Int) 0).bind λz=>some z.1
def iB (fu:Nat) (n':Nq):Option (Nq):=(C_ ([]:List ByteArray) n'.Nv).bind λl=>(C_ ([]:List Pq) n'.Nw).bind λl2=>some ({ Nv:=l,Nw:=l2 }:Nq)
def bD (fu:Nat) (l:List Int):Option (List Int):=(C_ ([]:List Int) l).bind λl2=>some l2
def cI (fu:Nat) (r':Nk):Option (Nk):=(bD fu r'.Nw).bind λy=>some ({ Np:=r'.Np,Nw:=y }:Nk)
def bO (fu:Nat) (x1:Nx):Option (Nx):=(cI fu x1.Nk).bind λy=>some ({ Id:=x1.Id,Nk:=y,Nj:=x1.Nj }:Nx)
def aW (fu:Nat) (p:Nh):Nat->Int->List Nx->Option (Int×List Nx)
 | 0,_,_=>none
 | fk+1,i,m=>if decide (i<(p.Nz.length:Int)) then (V_ p.Nz i).bind λe=>(bO fu e).bind λy2=>(C_ m [y2]).bind λal=>aW fu p fk (y_ (i+1)) al else some (i,m)
def cH (fu:Nat) (p:Nh):Option (Nh):=(iB fu p.Nq).bind λy=>(aW fu p fu 0 ([]:List Nx)).bind λz=>some ({ Nq:=y,Nz:=z.2 }:Nh)
def aU (fu:Nat) (x1:Nx) (y:Nh):Nat->Int->Option (Int)
 | 0,_=>none
 | fk+1,i=>(if decide (i<(y.Nz.length:Int)) then (V_ y.Nz i).bind λe=>some (decide (e.Id<x1.Id)) else some false).bind λc8=>if c8 then aU fu x1 y fk (y_ (i+1)) else some i
def bC (fu:Nat) (p:Nh) (x1:Nx):Option (Nh):=(cH fu p).bind λy=>(aU fu x1 y fu 0).bind λz=>(sub y.Nz 0 z).bind λl=>(sub y.Nz z (y.Nz.length:Int)).bind λl2=>(C_ ([]:List Nx) l).bind λl3=>(bO fu x1).bind λy2=>(C_ l3 [y2]).bind λl4=>(C_ l4 l2).bind λl5=>some ({ Nq:=y.Nq,Nz:=l5 }:Nh)
def xa (fu:Nat):Nat->Int->List ByteArray->List Pq->List Nx->List By->Int->U64->Option (Int×List ByteArray×List Pq×List Nx×List By×Int×U64)
 | 0,_,_,_,_,_,_,_=>none
 | fk+1,n',m,m2,m3,m4,m5,m6=>if decide (n' > 0) then (aC fu (⟨m4,m5,m6⟩:Nd) ({ Nv:=m,Nw:=m2 }:Nq)).bind λy3=>(ul fu y3.2 5).bind λy4=>(zR fu ({ Nq:=({ Nv:=m,Nw:=m2 }:Nq),Nz:=m3 }:Nh) y3.1).bind λy5=>(cC fu y5 (y_ (1+y4.1))).bind λy6=>if decide ((y6.length:Int) > 0) then (V_ y6 0).bind λe=>(xB fu y4.2 2).bind λy7=>if y7.1 then (ul fu y7.2 (y6.length:Int)).bind λy8=>(V_ y6 y8.1).bind λe2=>(ul fu y8.2 3).bind λy9=>(bC fu ({ Nq:=({ Nv:=m,Nw:=m2 }:Nq),Nz:=m3 }:Nh) ({ Id:=y_ ((y_ ((y_ ((m3.length:Int) * 3))+1))+y9.1),Nk:=y3.1,Nj:=({ Pk:=e2,Pz:=y_ (1+y4.1) }:Nj) }:Nx)).bind λy10=>xa fu fk (y_ (n' - 1)) y10.Nq.Nv y10.Nq.Nw y10.Nz y9.2.code y9.2.at_ y9.2.seed else (ul fu y7.2 3).bind λy11=>(bC fu ({ Nq:=({ Nv:=m,Nw:=m2 }:Nq),Nz:=m3 }:Nh) ({ Id:=y_ ((y_ ((y_ ((m3.length:Int) * 3))+1))+y11.1),Nk:=y3.1,Nj:=({ Pk:=e,Pz:=y_ (1+y4.1) }:Nj) }:Nx)).bind λy12=>xa fu fk (y_ (n' - 1)) y12.Nq.Nv y12.Nq.Nw y12.Nz y11.2.code y11.2.at_ y11.2.seed else xa fu fk (y_ (n' - 1)) m m2 m3 y4.2.code y4.2.at_ y4.2.seed else some (n',m,m2,m3,m4,m5,m6)
def bQ (fu:Nat) (c:Nd):Option (Nh×Nd):=(aG fu c).bind λy=>(ul fu y.2 9).bind λy2=>(xa fu fu y2.1 y.1.Nv y.1.Nw ([]:List Nx) y2.2.code y2.2.at_ y2.2.seed).bind λz=>some (({ Nq:=({ Nv:=z.2.1,Nw:=z.2.2.1 }:Nq),Nz:=z.2.2.2.1 }:Nh),(⟨z.2.2.2.2.1,z.2.2.2.2.2.1,z.2.2.2.2.2.2⟩:Nd))
def bz (fu:Nat) (c:Nd):Option (Nj×Nd):=(xB fu c 12).bind λy=>if y.1 then (ul fu y.2 26).bind λy2=>(ul fu y2.2 27).bind λy3=>some (({ Pk:=y_ (y2.1 - 1),Pz:=y_ (y3.1 - 1) }:Nj),y3.2) else (ul fu y.2 6).bind λy4=>(ul fu y4.2 (y_ ((y_ (24 - (y_ (1+y4.1))))+1))).bind λy5=>some (({ Pk:=y5.1,Pz:=y_ (1+y4.1) }:Nj),y5.2)
def zv (fu:Nat) (c:Nd) (n':Nq):Option (Nk×Nd):=(zN fu c n').bind λy=>(ul fu y.2 16).bind λy2=>if y2.1==0 then (ul fu y2.2 8).bind λy3=>some (({ Np:=y_ (y3.1 - 1),Nw:=y.1.Nw }:Nk),y3.2) else if y2.1==1 then (ul fu y2.2 8).bind λy4=>(C_ y.1.Nw [y_ (y4.1 - 1)]).bind λl=>some (({ Np:=y.1.Np,Nw:=l }:Nk),y4.2) else if y2.1==2 then some (({ Np:=y.1.Np,Nw:=([]:List Int) }:Nk),y2.2) else if y2.1==3 then if decide ((y.1.Nw.length:Int) > 1) then (V_ y.1.Nw (y_ ((y.1.Nw.length:Int) - 1))).bind λe=>(C_ y.1.Nw [e]).bind λl2=>some (({ Np:=y.1.Np,Nw:=l2 }:Nk),y2.2) else some (y.1,y2.2) else some (y.1,y2.2)
def cT (fu:Nat) (c:Nd) (list:List ByteArray):Option (ByteArray×Nd):=(ul fu c (list.length:Int)).bind λy=>(V_ list y.1).bind λe=>some (e,y.2)
def vY (fu:Nat):Nat->List Pq->List By->Int->U64->Option (List Pq×List By×Int×U64)
 | 0,_,_,_,_=>none
 | fk+1,m10,m11,m12,m13=>(ul fu (⟨m11,m12,m13⟩:Nd) 2).bind λy9=>if decide ((m10.length:Int)<(y_ (14+y9.1))) then (V_ m10 (y_ ((m10.length:Int) - 1))).bind λe4=>(C_ m10 [e4]).bind λl2=>vY fu fk l2 y9.2.code y9.2.at_ y9.2.seed else some (m10,y9.2.code,y9.2.at_,y9.2.seed)
def yK (fu:Nat) (c:Nd):Option (Nq×Nd):=(yP fu c).bind λy=>if (y.1.Nw.length:Int)==0 then some (y.1,y.2) else (ul fu y.2 (y.1.Nw.length:Int)).bind λy2=>(V_ y.1.Nw y2.1).bind λe=>(ul fu y2.2 24).bind λy3=>(if y3.1==0 then (cT fu y3.2 [(⟨#[98]⟩:ByteArray),ByteArray.empty,(⟨#[65]⟩:ByteArray),(⟨#[97,98,99,100,101,102,103,104]⟩:ByteArray),(⟨#[97,98,99,100,101,102,103,104,105]⟩:ByteArray),(⟨#[120,49]⟩:ByteArray)]).bind λy4=>(V_ y.1.Nv 0).bind λe2=>some (.next (y.1.Nv.set (0:Int).toNat y4.1,y4.2.code,y4.2.at_,y4.2.seed,e.A,e.B,e.Px,e.Pt,y.1.Nw)) else if y3.1==1 then (ul fu y3.2 8).bind λy5=>some (.next (y.1.Nv,y5.2.code,y5.2.at_,y5.2.seed,y_ (y5.1 - 1),e.B,e.Px,e.Pt,y.1.Nw)) else if y3.1==2 then (ul fu y3.2 10).bind λy6=>some (.next (y.1.Nv,y6.2.code,y6.2.at_,y6.2.seed,e.A,y_ (y6.1 - 1),e.Px,e.Pt,y.1.Nw)) else if y3.1==3 then (vg fu y3.2 [0,1,5000,5001]).bind λy7=>some (.next (y.1.Nv,y7.2.code,y7.2.at_,y7.2.seed,e.A,e.B,y7.1,e.Pt,y.1.Nw)) else if y3.1==4 then (vg fu y3.2 [(-1),9,10]).bind λy8=>some (.next (y.1.Nv,y8.2.code,y8.2.at_,y8.2.seed,e.A,e.B,e.Px,y8.1,y.1.Nw)) else if y3.1==5 then (V_ y.1.Nw 0).bind λe3=>(C_ y.1.Nw [e3]).bind λl=>some (.next (y.1.Nv,y3.2.code,y3.2.at_,y3.2.seed,e.A,e.B,e.Px,e.Pt,l)) else if y3.1==6 then (vY fu fu y.1.Nw y3.2.code y3.2.at_ y3.2.seed).bind λz=>some (.ret (({ Nv:=y.1.Nv,Nw:=z.1 }:Nq),(⟨z.2.1,z.2.2.1,z.2.2.2⟩:Nd))) else if y3.1==7 then (C_ y.1.Nv [(⟨#[112]⟩:ByteArray),(⟨#[113]⟩:ByteArray),(⟨#[114]⟩:ByteArray),(⟨#[115]⟩:ByteArray)]).bind λl3=>some (.next (l3,y3.2.code,y3.2.at_,y3.2.seed,e.A,e.B,e.Px,e.Pt,y.1.Nw)) else some (.next (y.1.Nv,y3.2.code,y3.2.at_,y3.2.seed,e.A,e.B,e.Px,e.Pt,y.1.Nw)):Option (Out (List ByteArray×List By×Int×U64×Int×Int×Int×Int×List Pq) (Nq×Nd))).bind λout=>out.on some λz2=>(V_ z2.2.2.2.2.2.2.2.2 y2.1).bind λe5=>some (({ Nv:=z2.1,Nw:=z2.2.2.2.2.2.2.2.2.set (y2.1:Int).toNat ({ A:=z2.2.2.2.2.1,B:=z2.2.2.2.2.2.1,Px:=z2.2.2.2.2.2.2.1,Pt:=z2.2.2.2.2.2.2.2.1 }:Pq) }:Nq),(⟨z2.2.1,z2.2.2.1,z2.2.2.2.1⟩:Nd))
def xx (fu:Nat) (y:Nh×Nd):Nat->Int->List Nx->List By->Int->U64->Option (Int×List Nx×List By×Int×U64)
 | 0,_,_,_,_,_=>none
 | fk+1,n',m12,m13,m14,m15=>(ul fu (⟨m13,m14,m15⟩:Nd) 2).bind λy8=>if decide ((m12.length:Int)<(y_ (12+y8.1))) then if decide (n'<14) then (V_ y.1.Nq.Nw 0).bind λe2=>(C_ m12 [({ Id:=y_ (500+n'),Nk:=({ Np:=e2.A,Nw:=[0] }:Nk),Nj:=({ Pk:=y_ (23 - n'),Pz:=1 }:Nj) }:Nx)]).bind λl2=>xx fu y fk (y_ (n' + 1)) l2 y8.2.code y8.2.at_ y8.2.seed else some (n',m12,y8.2.code,y8.2.at_,y8.2.seed) else some (n',m12,y8.2.code,y8.2.at_,y8.2.seed)
def zZ (fu:Nat) (c:Nd):Option (Nh×Nd):=(bQ fu c).bind λy=>if (y.1.Nz.length:Int)==0 then some (y.1,y.2) else (ul fu y.2 (y.1.Nz.length:Int)).bind λy2=>(V_ y.1.Nz y2.1).bind λe=>(ul fu y2.2 24).bind λy3=>(if y3.1==0 then (vg fu y3.2 [0,999,1000,1,4]).bind λy4=>some (.next (y4.1,y4.2.code,y4.2.at_,y4.2.seed,e.Nj.Pk,e.Nj.Pz,e.Nk.Np,e.Nk.Nw,y.1.Nz,y.1.Nq.Nv,y.1.Nq.Nw)) else if y3.1==1 then (bz fu y3.2).bind λy5=>some (.next (e.Id,y5.2.code,y5.2.at_,y5.2.seed,y5.1.Pk,y5.1.Pz,e.Nk.Np,e.Nk.Nw,y.1.Nz,y.1.Nq.Nv,y.1.Nq.Nw)) else if y3.1==2 then (zv fu y3.2 y.1.Nq).bind λy6=>some (.next (e.Id,y6.2.code,y6.2.at_,y6.2.seed,e.Nj.Pk,e.Nj.Pz,y6.1.Np,y6.1.Nw,y.1.Nz,y.1.Nq.Nv,y.1.Nq.Nw)) else if y3.1==3 then (C_ y.1.Nz [e]).bind λl=>some (.next (e.Id,y3.2.code,y3.2.at_,y3.2.seed,e.Nj.Pk,e.Nj.Pz,e.Nk.Np,e.Nk.Nw,l,y.1.Nq.Nv,y.1.Nq.Nw)) else if y3.1==4 then (yK fu y3.2).bind λy7=>some (.next (e.Id,y7.2.code,y7.2.at_,y7.2.seed,e.Nj.Pk,e.Nj.Pz,e.Nk.Np,e.Nk.Nw,y.1.Nz,y7.1.Nv,y7.1.Nw)) else if y3.1==5 then (xx fu y fu 0 y.1.Nz y3.2.code y3.2.at_ y3.2.seed).bind λz=>some (.ret (({ Nq:=y.1.Nq,Nz:=z.2.1 }:Nh),(⟨z.2.2.1,z.2.2.2.1,z.2.2.2.2⟩:Nd))) else some (.next (e.Id,y3.2.code,y3.2.at_,y3.2.seed,e.Nj.Pk,e.Nj.Pz,e.Nk.Np,e.Nk.Nw,y.1.Nz,y.1.Nq.Nv,y.1.Nq.Nw)):Option (Out (Int×List By×Int×U64×Int×Int×Int×List Int×List Nx×List ByteArray×List Pq) (Nh×Nd))).bind λout=>out.on some λz2=>(V_ z2.2.2.2.2.2.2.2.2.1 y2.1).bind λe3=>some (({ Nq:=({ Nv:=z2.2.2.2.2.2.2.2.2.2.1,Nw:=z2.2.2.2.2.2.2.2.2.2.2 }:Nq),Nz:=z2.2.2.2.2.2.2.2.2.1.set (y2.1:Int).toNat ({ Id:=z2.1,Nk:=({ Np:=z2.2.2.2.2.2.2.1,Nw:=z2.2.2.2.2.2.2.2.1 }:Nk),Nj:=({ Pk:=z2.2.2.2.2.1,Pz:=z2.2.2.2.2.2.1 }:Nj) }:Nx) }:Nh),(⟨z2.2.1,z2.2.2.1,z2.2.2.2.1⟩:Nd))
def vm (fu:Nat):Nat->List Ng->Int->List By->Int->U64->Option (List Ng×Int×List By×Int×U64)
 | 0,_,_,_,_,_=>none
 | fk+1,l4,k',m6,m7,m8=>(ul fu (⟨m6,m7,m8⟩:Nd) 2).bind λy7=>if decide ((l4.length:Int)<(y_ (6+y7.1))) then (C_ l4 [({ Reach:=y_ (200 - (y_ (10 * k'))),Ph:=y_ (90+k') }:Ng)]).bind λl5=>vm fu fk l5 (y_ (k' + 1)) y7.2.code y7.2.at_ y7.2.seed else some (l4,k',y7.2.code,y7.2.at_,y7.2.seed)
def zX (fu:Nat) (c:Nd):Option (List Ng×Nd):=(ul fu c 4).bind λy=>(sub [({ Reach:=3000,Ph:=10 }:Ng),({ Reach:=1200,Ph:=20 }:Ng),({ Reach:=600,Ph:=40 }:Ng),({ Reach:=250,Ph:=80 }:Ng)] 0 (y_ (1+y.1))).bind λl=>(xB fu y.2 3).bind λy2=>(if y2.1 then some (decide ((l.length:Int) > 1)) else some false).bind λc5=>(if c5 then (sub l 1 (l.length:Int)).bind λcl=>some cl else some l).bind λz3=>(ul fu y2.2 (z3.length:Int)).bind λy3=>(V_ z3 y3.1).bind λe=>(ul fu y3.2 24).bind λy4=>(if y4.1==0 then (vg fu y4.2 [0,20000,20001,250]).bind λy5=>some (.next (y5.1,y5.2.code,y5.2.at_,y5.2.seed,e.Ph)) else if y4.1==1 then (vg fu y4.2 [0,1000,1001,10]).bind λy6=>some (.next (e.Reach,y6.2.code,y6.2.at_,y6.2.seed,y6.1)) else if y4.1==2 then some (.ret (([]:List Ng),y4.2)) else if y4.1==3 then (vm fu fu z3 0 y4.2.code y4.2.at_ y4.2.seed).bind λz=>some (.ret (z.1,(⟨z.2.2.1,z.2.2.2.1,z.2.2.2.2⟩:Nd))) else some (.next (e.Reach,y4.2.code,y4.2.at_,y4.2.seed,e.Ph)):Option (Out (Int×List By×Int×U64×Int) (List Ng×Nd))).bind λout=>out.on some λz2=>(V_ z3 y3.1).bind λe2=>some (z3.set (y3.1:Int).toNat ({ Reach:=z2.1,Ph:=z2.2.2.2.2 }:Ng),(⟨z2.2.1,z2.2.2.1,z2.2.2.2.1⟩:Nd))
def aH (fu:Nat) (c:Nd) (n':Nq):Option (Nt×Nd):=(ul fu c (n'.Nv.length:Int)).bind λy=>(ul fu y.2 (y_ ((n'.Nv.length:Int) - 1))).bind λy2=>(rem (y_ ((y_ (y.1+1))+y2.1)) (n'.Nv.length:Int)).bind λq=>(vg fu y2.2 [10,20,40,50,90,120]).bind λy3=>(ul fu y3.2 3).bind λy4=>(ul fu y4.2 48).bind λy5=>if y5.1==0 then (ul fu y5.2 10).bind λy6=>some (({ Rw:=y.1,To:=y_ (y6.1 - 1),Ph:=y3.1,Rk:=y4.1 }:Nt),y6.2) else if y5.1==1 then (vg fu y5.2 [0,1,1000,1001]).bind λy7=>some (({ Rw:=y.1,To:=q,Ph:=y7.1,Rk:=y4.1 }:Nt),y7.2) else if y5.1==2 then (vg fu y5.2 [(-1),3]).bind λy8=>some (({ Rw:=y.1,To:=q,Ph:=y3.1,Rk:=y8.1 }:Nt),y8.2) else some (({ Rw:=y.1,To:=q,Ph:=y3.1,Rk:=y4.1 }:Nt),y5.2)
def xw (fu:Nat) (n':Nq):Nat->List Nt->Int->List By->Int->U64->Option (List Nt×Int×List By×Int×U64)
 | 0,_,_,_,_,_=>none
 | fk+1,l,k',m,m2,m3=>if decide (k' > 0) then (aH fu (⟨m,m2,m3⟩:Nd) n').bind λy2=>(C_ l [y2.1]).bind λl2=>xw fu n' fk l2 (y_ (k' - 1)) y2.2.code y2.2.at_ y2.2.seed else some (l,k',m,m2,m3)
def xv (fu:Nat):Nat->List Nt->List By->Int->U64->Option (List Nt×List By×Int×U64)
 | 0,_,_,_,_=>none
 | fk+1,l4,m7,m8,m9=>(ul fu (⟨m7,m8,m9⟩:Nd) 2).bind λy4=>if decide ((l4.length:Int)<(y_ (12+y4.1))) then (C_ l4 [({ Rw:=0,To:=1,Ph:=5,Rk:=0 }:Nt)]).bind λl5=>xv fu fk l5 y4.2.code y4.2.at_ y4.2.seed else some (l4,y4.2.code,y4.2.at_,y4.2.seed)
def zY (fu:Nat) (c:Nd) (n':Nq):Option (List Nt×Nd):=(ul fu c 6).bind λy=>(xw fu n' fu ([]:List Nt) y.1 y.2.code y.2.at_ y.2.seed).bind λz2=>(xB fu (⟨z2.2.2.1,z2.2.2.2.1,z2.2.2.2.2⟩:Nd) 24).bind λy3=>if y3.1 then (xv fu fu z2.1 y3.2.code y3.2.at_ y3.2.seed).bind λz=>some (z.1,(⟨z.2.1,z.2.2.1,z.2.2.2⟩:Nd)) else some (z2.1,y3.2)
def cn (fu:Nat) (c:Nd):Option (Int×Nd):=(vg fu c [1,2,3,1,2,3,1,0,4]).bind λy=>some (y.1,y.2)
def aI (fu:Nat) (code:List By):Option (Nh×List Ng×List Nt×Int):=(zZ fu (⟨code,0,(⟨0⟩:U64)⟩:Nd)).bind λy=>(zX fu y.2).bind λy2=>(zY fu y2.2 y.1.Nq).bind λy3=>(cn fu y3.2).bind λy4=>some (y.1,y2.1,y3.1,y4.1)
def vn (fu:Nat) (n':Int) (low:Int) (high:Int):Option (Bool):=(if decide (low<=n') then some (decide (n'<=high)) else some false).bind λc=>some c
def xR (fu:Nat) (s':ByteArray):Nat->Int->Option (Out (Int) (Bool))
 | 0,_=>none
 | fk+1,i=>if decide (i<(s'.size:Int)) then (sidx s' i).bind λe=>(sidx s' i).bind λe2=>if decide (e.n>=97) then (sidx s' i).bind λe3=>if decide (e2.n>=48) then (sidx s' i).bind λe4=>(if !(decide (e3.n<=122)) then if !(decide (e4.n<=57)) then some true else some (i==0) else some false).bind λc=>if c then some (.ret false) else xR fu s' fk (y_ (i+1)) else (if !(decide (e3.n<=122)) then if !false then some true else some (i==0) else some false).bind λc2=>if c2 then some (.ret false) else xR fu s' fk (y_ (i+1)) else if decide (e2.n>=48) then (sidx s' i).bind λe5=>(if !false then if !(decide (e5.n<=57)) then some true else some (i==0) else some false).bind λc3=>if c3 then some (.ret false) else xR fu s' fk (y_ (i+1)) else (if !false then if !false then some true else some (i==0) else some false).bind λc4=>if c4 then some (.ret false) else xR fu s' fk (y_ (i+1)) else some (.next i)
def eT (fu:Nat) (s':ByteArray):Option (Bool):=(xR fu s' fu 0).bind λout=>out.on some λz=>(vn fu (s'.size:Int) 1 8).bind λy=>some y
def vh (fu:Nat) (s':List ByteArray) (v:ByteArray):Nat->Int->Option (Out (Int) (Int))
 | 0,_=>none
 | fk+1,i=>if decide (i<(s'.length:Int)) then (V_ s' i).bind λe=>if v.toList==e.toList then some (.ret i) else vh fu s' v fk (y_ (i+1)) else some (.next i)
def xI (fu:Nat) (s':List ByteArray) (v:ByteArray):Option (Int):=(vh fu s' v fu 0).bind λout=>out.on some λz=>some (-1)
def xl (fu:Nat) (s':List ByteArray) (v:ByteArray):Option (Bool):=(xI fu s' v).bind λy=>some (decide (y>=0))
def cmp_isNaN_int (fu:Nat) (x1:Int):Option (Bool):=some (x1 != x1)
def cmp_Compare_int (fu:Nat) (x1:Int) (y:Int):Option (Int):=(cmp_isNaN_int fu x1).bind λy2=>(cmp_isNaN_int fu y).bind λy3=>if y2 then if y3 then some 0 else some (-1) else if y3 then some 1 else if decide (x1<y) then some (-1) else if decide (x1 > y) then some 1 else some 0
def ao (fu:Nat) (vals:List Int):Nat->Int->Option (Out (Int) (Int))
 | 0,_=>none
 | fk+1,i=>if decide (i<(vals.length:Int)) then (V_ vals i).bind λe=>if e != 0 then some (.ret e) else ao fu vals fk (y_ (i+1)) else some (.next i)
def et (fu:Nat) (vals:List Int):Option (Int):=(ao fu vals fu 0).bind λout=>out.on some λz=>some 0
def ak (fu:Nat) (a':Pq) (b':Pq):Option (Int):=(cmp_Compare_int fu a'.A b'.A).bind λy=>(cmp_Compare_int fu a'.B b'.B).bind λy2=>(cmp_Compare_int fu a'.Px b'.Px).bind λy3=>(cmp_Compare_int fu a'.Pt b'.Pt).bind λy4=>(et fu [y,y2,y3,y4]).bind λy5=>some y5
def vT (fu:Nat) (n':Nq):Nat->Int->Option (Out (Int) (Bool))
 | 0,_=>none
 | fk+1,i=>if decide (i<(n'.Nv.length:Int)) then (V_ n'.Nv i).bind λe=>((eT fu e).bind λy=>if !y then some true else (sub n'.Nv 0 i).bind λl=>(xl fu l e).bind λy2=>some y2).bind λc3=>if c3 then some (.ret false) else vT fu n' fk (y_ (i+1)) else some (.next i)
def vS (fu:Nat) (n':Nq):Nat->Int->Option (Out (Int) (Bool))
 | 0,_=>none
 | fk+1,i3=>if decide (i3<(n'.Nw.length:Int)) then (V_ n'.Nw i3).bind λe2=>(if decide (e2.A<0) then some true else if decide (e2.A>=e2.B) then some true else if decide (e2.B>=(n'.Nv.length:Int)) then some true else (vn fu e2.Px 1 5000).bind λy3=>if !y3 then some true else (vn fu e2.Pt 0 9).bind λy4=>if !y4 then some true else if decide (i3 > 0) then (V_ n'.Nw (y_ (i3 - 1))).bind λe3=>(ak fu e3 e2).bind λy5=>some (decide (y5 > 0)) else some false).bind λc5=>if c5 then some (.ret false) else vS fu n' fk (y_ (i3+1)) else some (.next i3)
def xz (fu:Nat) (n':Nq):Option (Bool):=(vT fu n' fu 0).bind λout=>out.on some λz2=>(vS fu n' fu 0).bind λout=>out.on some λz=>((vn fu (n'.Nv.length:Int) 2 8).bind λy6=>if y6 then some (decide ((n'.Nw.length:Int)<=14)) else some false).bind λc6=>some c6
def dc (fu:Nat) (f:Pq) (node:Int):Option (Int):=if node==f.A then some f.B else if node==f.B then some f.A else some (-1)
def vH (fu:Nat) (s':List Int) (v:Int):Nat->Int->Option (Out (Int) (Int))
 | 0,_=>none
 | fk+1,i=>if decide (i<(s'.length:Int)) then (V_ s' i).bind λe=>if v==e then some (.ret i) else vH fu s' v fk (y_ (i+1)) else some (.next i)
def yX (fu:Nat) (s':List Int) (v:Int):Option (Int):=(vH fu s' v fu 0).bind λout=>out.on some λz=>some (-1)
def xh (fu:Nat) (s':List Int) (v:Int):Option (Bool):=(yX fu s' v).bind λy=>some (decide (y>=0))
def zx (fu:Nat) (n':Nq) (r':Nk):Nat->List Int->Int->Int->Option (Out (List Int×Int×Int) (List Int×Bool))
 | 0,_,_,_=>none
 | fk+1,out',at',i=>if decide (i<(r'.Nw.length:Int)) then (V_ r'.Nw i).bind λe=>(vn fu e 0 (y_ ((n'.Nw.length:Int) - 1))).bind λy2=>if !y2 then some (.ret ([],false)) else (V_ n'.Nw e).bind λe2=>(dc fu e2 at').bind λy3=>(if decide (y3<0) then some true else (xh fu out' y3).bind λy4=>some y4).bind λc6=>if c6 then some (.ret ([],false)) else (C_ out' [y3]).bind λl=>zx fu n' r' fk l y3 (y_ (i+1)) else some (.next (out',at',i))
def cM (fu:Nat) (n':Nq) (r':Nk):Option (List Int×Bool):=((vn fu r'.Np 0 (y_ ((n'.Nv.length:Int) - 1))).bind λy=>if !y then some true else some ((r'.Nw.length:Int)==0)).bind λc4=>if c4 then some ([],false) else (zx fu n' r' fu [r'.Np] r'.Np 0).bind λout=>out.on some λz=>some (z.1,true)
def aM (fu:Nat) (b':Nj):Option (Bool):=(if decide (b'.Pk>=0) then (vn fu b'.Pz 1 24).bind λy=>if y then some (decide (b'.Pk<=(y_ (24 - b'.Pz)))) else some false else some false).bind λc=>some c
def d3 (fu:Nat) (n':Nq) (x1:Nx):Option (Bool):=(cM fu n' x1.Nk).bind λy=>(if y.2 then (vn fu x1.Id 1 999).bind λy2=>if y2 then (aM fu x1.Nj).bind λy3=>some y3 else some false else some false).bind λc5=>some c5
def bX (fu:Nat) (b':Nj):Option (Int):=(shl 1 b'.Pz).bind λq=>(shl (y_ (q - 1)) b'.Pk).bind λq2=>some q2
def bc (fu:Nat) (x:List Int):Option (List Int):=BI x
def zH (fu:Nat) (x:List Int):Option (List Int):=some (nq x)
def zo (fu:Nat) (a':List Int) (b':List Int):Nat->List Int->Int->Option (List Int×Int)
 | 0,_,_=>none
 | fk+1,out',i=>if decide (i<(a'.length:Int)) then (V_ a' i).bind λe=>(xh fu b' e).bind λy=>if y then (C_ out' [e]).bind λl=>zo fu a' b' fk l (y_ (i+1)) else zo fu a' b' fk out' (y_ (i+1)) else some (out',i)
def dF (fu:Nat) (a':List Int) (b':List Int):Option (List Int):=(zo fu a' b' fu ([]:List Int) 0).bind λz=>(bc fu z.1).bind λy2=>(zH fu y2).bind λy3=>some y3
def d5 (fu:Nat) (a':Nx) (b':Nx):Option (Bool):=((bX fu a'.Nj).bind λy=>(bX fu b'.Nj).bind λy2=>if (band y y2) != 0 then (dF fu a'.Nk.Nw b'.Nk.Nw).bind λy3=>some (decide ((y3.length:Int) > 0)) else some false).bind λc3=>some c3
def bu (fu:Nat) (own:Nx) (cap:Nx):Option (Bool):=(d5 fu own cap).bind λy=>some y
def uz (fu:Nat) (s':List Nx) (cap:Nx):Nat->Int->Option (Out (Int) (Int))
 | 0,_=>none
 | fk+1,i=>if decide (i<(s'.length:Int)) then (V_ s' i).bind λe=>(bu fu e cap).bind λy=>if y then some (.ret i) else uz fu s' cap fk (y_ (i+1)) else some (.next i)
def u9 (fu:Nat) (s':List Nx) (cap:Nx):Option (Int):=(uz fu s' cap fu 0).bind λout=>out.on some λz=>some (-1)
def uN (fu:Nat) (s':List Nx) (cap:Nx):Option (Bool):=(u9 fu s' cap).bind λy=>some (decide (y>=0))
def xy (fu:Nat) (p:Nh):Nat->Int->Option (Out (Int) (Bool))
 | 0,_=>none
 | fk+1,i=>if decide (i<(p.Nz.length:Int)) then (V_ p.Nz i).bind λe=>((d3 fu p.Nq e).bind λy2=>if !y2 then some true else if decide (i > 0) then (V_ p.Nz (y_ (i - 1))).bind λe2=>if decide (e2.Id>=e.Id) then some true else (sub p.Nz 0 i).bind λl=>(uN fu l e).bind λy3=>some y3 else (sub p.Nz 0 i).bind λl2=>(uN fu l2 e).bind λy4=>some y4).bind λc6=>if c6 then some (.ret false) else xy fu p fk (y_ (i+1)) else some (.next i)
def xV (fu:Nat) (p:Nh):Option (Bool):=((xz fu p.Nq).bind λy=>if !y then some true else some (decide ((p.Nz.length:Int) > 12))).bind λc4=>if c4 then some false else (xy fu p fu 0).bind λout=>out.on some λz=>some true
def vU (fu:Nat) (list:List Ng):Nat->Int->Option (Out (Int) (Bool))
 | 0,_=>none
 | fk+1,i=>if decide (i<(list.length:Int)) then (V_ list i).bind λe=>((vn fu e.Reach 1 20000).bind λy=>if !y then some true else (vn fu e.Ph 1 1000).bind λy2=>if !y2 then some true else if decide (i > 0) then (V_ list (y_ (i - 1))).bind λe2=>if decide (e2.Reach<=e.Reach) then some true else (V_ list (y_ (i - 1))).bind λe3=>some (decide (e3.Ph>=e.Ph)) else some false).bind λc2=>if c2 then some (.ret false) else vU fu list fk (y_ (i+1)) else some (.next i)
def xA (fu:Nat) (list:List Ng):Option (Bool):=(vU fu list fu 0).bind λout=>out.on some λz=>(vn fu (list.length:Int) 1 6).bind λy3=>some y3
def de (fu:Nat) (n':Nq) (d':Nt):Option (Bool):=((vn fu d'.Rw 0 (y_ ((n'.Nv.length:Int) - 1))).bind λy=>if y then (vn fu d'.To 0 (y_ ((n'.Nv.length:Int) - 1))).bind λy2=>if y2 then if d'.Rw != d'.To then (vn fu d'.Ph 1 1000).bind λy3=>if y3 then (vn fu d'.Rk 0 2).bind λy4=>some y4 else some false else some false else some false else some false).bind λc3=>some c3
def zK (fu:Nat) (d':Nt) (cap:Nq):Option (Bool):=(de fu cap d').bind λy=>some (!y)
def uv (fu:Nat) (s':List Nt) (cap:Nq):Nat->Int->Option (Out (Int) (Int))
 | 0,_=>none
 | fk+1,i=>if decide (i<(s'.length:Int)) then (V_ s' i).bind λe=>(zK fu e cap).bind λy=>if y then some (.ret i) else uv fu s' cap fk (y_ (i+1)) else some (.next i)
def u4 (fu:Nat) (s':List Nt) (cap:Nq):Option (Int):=(uv fu s' cap fu 0).bind λout=>out.on some λz=>some (-1)
def uX (fu:Nat) (s':List Nt) (cap:Nq):Option (Bool):=(u4 fu s' cap).bind λy=>some (decide (y>=0))
def xY (fu:Nat) (n':Nq) (list:List Nt):Option (Bool):=((xz fu n').bind λy=>if y then if decide ((list.length:Int)<=12) then (uX fu list n').bind λy2=>some (!y2) else some false else some false).bind λc4=>some c4
def gB (fu:Nat) (fit:Int):Option (Bool):=(vn fu fit 1 3).bind λy=>some y
def cw (fu:Nat) (p:Nh) (formats:List Ng) (list:List Nt) (fit:Int):Option (Bool):=((xV fu p).bind λy=>if y then (xA fu formats).bind λy2=>if y2 then (xY fu p.Nq list).bind λy3=>if y3 then (gB fu fit).bind λy4=>some y4 else some false else some false else some false).bind λc6=>some c6
def cB (fu:Nat) (n':Nq):Option (Nq):=(C_ ([]:List ByteArray) n'.Nv).bind λl=>(C_ ([]:List Pq) n'.Nw).bind λl2=>some ({ Nv:=l,Nw:=l2 }:Nq)
def bH (fu:Nat) (r':Nk):Option (Nk):=(C_ ([]:List Int) r'.Nw).bind λl=>some ({ Np:=r'.Np,Nw:=l }:Nk)
def yW (fu:Nat) (p:Nh):Nat->Int->List Nx->Option (Int×List Nx)
 | 0,_,_=>none
 | fk+1,i,m=>if decide (i<(p.Nz.length:Int)) then (V_ p.Nz i).bind λe=>(bH fu e.Nk).bind λy2=>(C_ m [({ Id:=e.Id,Nk:=y2,Nj:=e.Nj }:Nx)]).bind λal=>yW fu p fk (y_ (i+1)) al else some (i,m)
def aj (fu:Nat) (p:Nh):Option (Nh):=(cB fu p.Nq).bind λy=>(yW fu p fu 0 ([]:List Nx)).bind λz=>some ({ Nq:=y,Nz:=z.2 }:Nh)
def dP (fu:Nat) (v:Int) (cap:Nq):Option (Bool):=(vn fu v 0 (y_ ((cap.Nv.length:Int) - 1))).bind λy=>some (!y)
def uT (fu:Nat) (s':List Int) (cap:Nq):Nat->Int->Option (Out (Int) (Int))
 | 0,_=>none
 | fk+1,i=>if decide (i<(s'.length:Int)) then (V_ s' i).bind λe=>(dP fu e cap).bind λy=>if y then some (.ret i) else uT fu s' cap fk (y_ (i+1)) else some (.next i)
def vX (fu:Nat) (s':List Int) (cap:Nq):Option (Int):=(uT fu s' cap fu 0).bind λout=>out.on some λz=>some (-1)
def vk (fu:Nat) (s':List Int) (cap:Nq):Option (Bool):=(vX fu s' cap).bind λy=>some (decide (y>=0))
def eS (fu:Nat) (n':Nq) (nodes:List Int):Option (Bool):=((xz fu n').bind λy=>if y then (vk fu nodes n').bind λy2=>some (!y2) else some false).bind λc4=>some c4
def yY (fu:Nat) (s':List Int):Option (List Int):=j8 s' (some []) ((C_ ([]:List Int) s').bind λl=>some l)
def vA (fu:Nat) (at':Int) (seen:Int) (fibers:List Int) (cap:Int) (cap3:Int) (cap4:Nq) (rec_:(Int)->(Int)->(List Int)->(Int)->(List Nk)->(Int)->(Nq)->Option (List Nk)):Nat->Int->List Nk->Option (Int×List Nk)
 | 0,_,_=>none
 | fk+1,i,m=>if decide (i<(cap4.Nw.length:Int)) then (V_ cap4.Nw i).bind λe=>(dc fu e at').bind λy2=>(if decide (y2>=0) then (shr seen y2).bind λq=>some ((band q 1)==0) else some false).bind λc8=>if c8 then (shl 1 y2).bind λq2=>(C_ fibers [i]).bind λl=>(rec_ y2 (D0 seen q2) l cap m cap3 cap4).bind λy3=>vA fu at' seen fibers cap cap3 cap4 rec_ fk (y_ (i+1)) y3 else vA fu at' seen fibers cap cap3 cap4 rec_ fk (y_ (i+1)) m else some (i,m)
def zb (fu:Nat) (rec_:(Int)->(Int)->(List Int)->(Int)->(List Nk)->(Int)->(Nq)->Option (List Nk)) (at':Int) (seen:Int) (fibers:List Int) (cap:Int) (cap2:List Nk) (cap3:Int) (cap4:Nq):Option (List Nk):=if at'==cap then (yY fu fibers).bind λy=>(C_ cap2 [({ Np:=cap3,Nw:=y }:Nk)]).bind λal=>some al else (vA fu at' seen fibers cap cap3 cap4 rec_ fu 0 cap2).bind λz=>some z.2
def vu:Nat->(Int)->(Int)->(List Int)->(Int)->(List Nk)->(Int)->(Nq)->Option (List Nk)
 | 0,_,_,_,_,_,_,_=>none
 | fu+1,at',seen,fibers,cap,cap2,cap3,cap4=>zb fu (λat' seen fibers cap cap2 cap3 cap4=>vu fu at' seen fibers cap cap2 cap3 cap4) at' seen fibers cap cap2 cap3 cap4
def yV (fu:Nat) (n':Nq) (r':Nk):Nat->Int->Int->Option (Int×Int)
 | 0,_,_=>none
 | fk+1,sum,i=>if decide (i<(r'.Nw.length:Int)) then (V_ r'.Nw i).bind λe=>(V_ n'.Nw e).bind λe2=>yV fu n' r' fk (y_ (sum+e2.Px)) (y_ (i+1)) else some (sum,i)
def bq (fu:Nat) (n':Nq) (r':Nk):Option (Int):=(yV fu n' r' fu 0 0).bind λz=>some z.1
def vN (fu:Nat) (s1:List Int) (s2:List Int):Nat->Int->Option (Out (Int) (Int))
 | 0,_=>none
 | fk+1,i=>if decide (i<(s1.length:Int)) then (V_ s1 i).bind λe=>if decide (i>=(s2.length:Int)) then some (.ret 1) else (V_ s2 i).bind λe2=>(cmp_Compare_int fu e e2).bind λy=>if y != 0 then some (.ret y) else vN fu s1 s2 fk (y_ (i+1)) else some (.next i)
def zG (fu:Nat) (s1:List Int) (s2:List Int):Option (Int):=(vN fu s1 s2 fu 0).bind λout=>out.on some λz=>if decide ((s1.length:Int)<(s2.length:Int)) then some (-1) else some 0
def bL (fu:Nat) (n':Nq) (a':Nk) (b':Nk):Option (Int):=(bq fu n' a').bind λy=>(bq fu n' b').bind λy2=>(cmp_Compare_int fu y y2).bind λy3=>(cmp_Compare_int fu (a'.Nw.length:Int) (b'.Nw.length:Int)).bind λy4=>(zG fu a'.Nw b'.Nw).bind λy5=>(cmp_Compare_int fu a'.Np b'.Np).bind λy6=>(et fu [y3,y4,y5,y6]).bind λy7=>some y7
def vI (fu:Nat) (a':Nk) (b4:Nk) (cap:Nq):Option (Int):=(bL fu cap a' b4).bind λy=>some y
def u7 (fu:Nat) (x:List Nk) (cap0:Nq):Option (List Nk):=lU (λa b=>vI fu a b cap0) x
def bK (fu:Nat) (n':Nq) (from':Int) (to:Int):Option (List Nk):=if from' != to then (shl 1 from').bind λq=>(vu fu from' q [] to ([]:List Nk) from' n').bind λy=>(u7 fu y n').bind λy2=>some y2 else (u7 fu ([]:List Nk) n').bind λy3=>some y3
def cA (fu:Nat) (n':Nq) (from':Int) (to:Int):Option (List Nk×Bool):=((eS fu n' [from',to]).bind λy=>if !y then some true else some (from'==to)).bind λc3=>if c3 then some ([],false) else (bK fu n' from' to).bind λy2=>if decide ((y2.length:Int) > 200) then some ([],false) else some (y2,true)
def ya (fu:Nat) (list:List Ng) (length:Int):Nat->Int->Option (Out (Int) (Int×Bool))
 | 0,_=>none
 | fk+1,i=>if decide (i>=0) then (V_ list i).bind λe=>if decide (e.Reach>=length) then some (.ret (i,true)) else ya fu list length fk (y_ (i - 1)) else some (.next i)
def cx (fu:Nat) (list:List Ng) (length:Int):Option (Int×Bool):=((xA fu list).bind λy=>if !y then some true else (vn fu length 0 20000).bind λy2=>some (!y2)).bind λc2=>if c2 then some (0,false) else (ya fu list length fu (y_ ((list.length:Int) - 1))).bind λout=>out.on some λz=>some (0,false)
def dh (fu:Nat) (list:List Ng) (length:Int) (rate:Int):Option (Int×Bool):=(cx fu list length).bind λy=>(if !y.2 then some true else (vn fu rate 1 1000).bind λy2=>some (!y2)).bind λc2=>if c2 then some (0,false) else (V_ list y.1).bind λe=>(V_ list y.1).bind λe2=>(quo (y_ ((y_ (rate+e.Ph)) - 1)) e2.Ph).bind λq=>if decide (q > 24) then some (0,false) else some (q,true)
def zm (fu:Nat) (n':Nq) (formats:List Ng) (d':Nt) (y3:List Nk×Bool):Nat->List Pg->Int->Option (List Pg×Int)
 | 0,_,_=>none
 | fk+1,out',i=>if decide (i<(y3.1.length:Int)) then (V_ y3.1 i).bind λe=>(bq fu n' e).bind λy4=>(dh fu formats y4 d'.Ph).bind λy5=>if y5.2 then (C_ out' [({ route:=e,count:=y5.1 }:Pg)]).bind λl=>zm fu n' formats d' y3 fk l (y_ (i+1)) else zm fu n' formats d' y3 fk out' (y_ (i+1)) else some (out',i)
def dE (fu:Nat) (n':Nq) (formats:List Ng) (d':Nt):Option (List Pg×Bool):=((xA fu formats).bind λy=>if !y then some true else (xY fu n' [d']).bind λy2=>some (!y2)).bind λc4=>if c4 then some (([]:List Pg),false) else (cA fu n' d'.Rw d'.To).bind λy3=>if !y3.2 then some (([]:List Pg),false) else (zm fu n' formats d' y3 fu ([]:List Pg) 0).bind λz=>some (z.1,true)
def uD {X:Type} (cf:X->X->Option Int) (fu:Nat) (a':Int):Nat->List X->Int->Option (List X×Int)
 | 0,_,_=>none
 | fk+1,data3,j=>(if decide (j > a') then (V_ data3 j).bind λe=>(V_ data3 (y_ (j - 1))).bind λe2=>(cf e e2).bind λy=>some (decide (y<0)) else some false).bind λc2=>if c2 then (V_ data3 (y_ (j - 1))).bind λe3=>(V_ data3 j).bind λe4=>(V_ data3 j).bind λe5=>(V_ (data3.set (j:Int).toNat e3) (y_ (j - 1))).bind λe6=>uD cf fu a' fk ((data3.set (j:Int).toNat e3).set (y_ (j - 1):Int).toNat e4) (y_ (j - 1)) else some (data3,j)
def uw {X:Type} (cf:X->X->Option Int) (fu:Nat) (a':Int) (b5:Int):Nat->List X->Int->Option (List X×Int)
 | 0,_,_=>none
 | fk+1,data2,i=>if decide (i<b5) then (uD cf fu a' fu data2 i).bind λz=>uw cf fu a' b5 fk z.1 (y_ (i+1)) else some (data2,i)
def uS {X:Type} (cf:X->X->Option Int) (fu:Nat) (data:List X) (a':Int) (b5:Int):Option (List X):=(uw cf fu a' b5 fu data (y_ (a' + 1))).bind λz2=>some z2.1
def uI {X:Type} (cf:X->X->Option Int) (fu:Nat) (a':Int) (b6:Int) (n':Int):Nat->List X->Int->Option (List X×Int)
 | 0,_,_=>none
 | fk+1,data2,i=>if decide (i<n') then (V_ data2 (y_ (b6+i))).bind λe=>(V_ data2 (y_ (a' + i))).bind λe2=>(V_ data2 (y_ (a' + i))).bind λe3=>(V_ (data2.set (y_ (a' + i):Int).toNat e) (y_ (b6+i))).bind λe4=>uI cf fu a' b6 n' fk ((data2.set (y_ (a' + i):Int).toNat e).set (y_ (b6+i):Int).toNat e2) (y_ (i+1)) else some (data2,i)
def uQ {X:Type} (cf:X->X->Option Int) (fu:Nat) (data:List X) (a':Int) (b6:Int) (n':Int):Option (List X):=(uI cf fu a' b6 n' fu data 0).bind λz=>some z.1
def uH {X:Type} (cf:X->X->Option Int) (fu:Nat) (m:Int):Nat->List X->Int->Int->Option (List X×Int×Int)
 | 0,_,_,_=>none
 | fk+1,data2,i,j=>if i != j then if decide (i > j) then (uQ cf fu data2 (y_ (m - i)) m j).bind λy=>uH cf fu m fk y (y_ (i - j)) j else (uQ cf fu data2 (y_ (m - i)) (y_ ((y_ (m+j)) - i)) i).bind λy2=>uH cf fu m fk y2 i (y_ (j - i)) else some (data2,i,j)
def uK {X:Type} (cf:X->X->Option Int) (fu:Nat) (data:List X) (a':Int) (m:Int) (b6:Int):Option (List X):=(uH cf fu m fu data (y_ (m - a')) (y_ (b6 - m))).bind λz=>(uQ cf fu z.1 (y_ (m - z.2.1)) m z.2.1).bind λy3=>some y3
def uk {X:Type} (cf:X->X->Option Int) (fu:Nat) (data:List X) (a':Int):Nat->Int->Int->Option (Int×Int)
 | 0,_,_=>none
 | fk+1,i,j=>if decide (i<j) then (shrk 64 (wu64 (y_ (i+j))) 1).bind λq=>(V_ data (y_ q)).bind λe=>(V_ data a').bind λe2=>(cf e e2).bind λy=>if decide (y<0) then uk cf fu data a' fk (y_ ((y_ q)+1)) j else uk cf fu data a' fk i (y_ q) else some (i,j)
def uC {X:Type} (cf:X->X->Option Int) (fu:Nat) (i2:Int):Nat->List X->Int->Option (List X×Int)
 | 0,_,_=>none
 | fk+1,data2,k'=>if decide (k'<(y_ (i2 - 1))) then (V_ data2 (y_ (k' + 1))).bind λe3=>(V_ data2 k').bind λe4=>(V_ data2 k').bind λe5=>(V_ (data2.set (k':Int).toNat e3) (y_ (k' + 1))).bind λe6=>uC cf fu i2 fk ((data2.set (k':Int).toNat e3).set (y_ (k' + 1):Int).toNat e4) (y_ (k' + 1)) else some (data2,k')
def uj {X:Type} (cf:X->X->Option Int) (fu:Nat) (data:List X) (m:Int):Nat->Int->Int->Option (Int×Int)
 | 0,_,_=>none
 | fk+1,i3,j3=>if decide (i3<j3) then (shrk 64 (wu64 (y_ (i3+j3))) 1).bind λq2=>(V_ data m).bind λe7=>(V_ data (y_ q2)).bind λe8=>(cf e7 e8).bind λy2=>if !(decide (y2<0)) then uj cf fu data m fk (y_ ((y_ q2)+1)) j3 else uj cf fu data m fk i3 (y_ q2) else some (i3,j3)
def uy {X:Type} (cf:X->X->Option Int) (fu:Nat) (i4:Int):Nat->List X->Int->Option (List X×Int)
 | 0,_,_=>none
 | fk+1,data4,k3=>if decide (k3 > i4) then (V_ data4 (y_ (k3 - 1))).bind λe9=>(V_ data4 k3).bind λe10=>(V_ data4 k3).bind λe11=>(V_ (data4.set (k3:Int).toNat e9) (y_ (k3 - 1))).bind λe12=>uy cf fu i4 fk ((data4.set (k3:Int).toNat e9).set (y_ (k3 - 1):Int).toNat e10) (y_ (k3 - 1)) else some (data4,k3)
def ue {X:Type} (cf:X->X->Option Int) (fu:Nat) (data:List X) (m:Int) (q3:Int):Nat->Int->Int->Option (Int×Int)
 | 0,_,_=>none
 | fk+1,start3,r3=>if decide (start3<r3) then (shrk 64 (wu64 (y_ (start3+r3))) 1).bind λq4=>(V_ data (y_ ((y_ ((y_ ((y_ q3)+m)) - 1)) - (y_ q4)))).bind λe13=>(V_ data (y_ q4)).bind λe14=>(cf e13 e14).bind λy3=>if !(decide (y3<0)) then ue cf fu data m q3 fk (y_ ((y_ q4)+1)) r3 else ue cf fu data m q3 fk start3 (y_ q4) else some (start3,r3)
def uW {X:Type} (cf:X->X->Option Int) (fu:Nat) (rec_:(List X)->(Int)->(Int)->(Int)->Option (List X)) (data:List X) (a':Int) (m:Int) (b6:Int):Option (List X):=if (y_ (m - a'))==1 then (uk cf fu data a' fu m b6).bind λz2=>(uC cf fu z2.1 fu data a').bind λz=>some z.1 else if (y_ (b6 - m))==1 then (uj cf fu data m fu a' m).bind λz4=>(uy cf fu z4.1 fu data m).bind λz3=>some z3.1 else (shrk 64 (wu64 (y_ (a' + b6))) 1).bind λq3=>(if decide (m > (y_ q3)) then some (y_ ((y_ ((y_ q3)+m)) - b6),y_ q3) else some (a',m)).bind λz8=>(ue cf fu data m q3 fu z8.1 z8.2).bind λz7=>(if decide (z7.1<m) then some (decide (m<(y_ ((y_ ((y_ q3)+m)) - z7.1)))) else some false).bind λc2=>(if c2 then (uK cf fu data z7.1 m (y_ ((y_ ((y_ q3)+m)) - z7.1))).bind λy4=>some y4 else some data).bind λz6=>(if decide (a'<z7.1) then some (decide (z7.1<(y_ q3))) else some false).bind λc3=>(if c3 then (rec_ z6 a' z7.1 (y_ q3)).bind λy5=>some y5 else some z6).bind λz5=>(if decide ((y_ q3)<(y_ ((y_ ((y_ q3)+m)) - z7.1))) then some (decide ((y_ ((y_ ((y_ q3)+m)) - z7.1))<b6)) else some false).bind λc4=>if c4 then (rec_ z5 (y_ q3) (y_ ((y_ ((y_ q3)+m)) - z7.1)) b6).bind λy6=>some y6 else some z5
def uB {X:Type} (cf:X->X->Option Int):Nat->(List X)->(Int)->(Int)->(Int)->Option (List X)
 | 0,_,_,_,_=>none
 | fu+1,data,a',m,b6=>uW cf fu (λdata a' m b6=>uB cf fu data a' m b6) data a' m b6
def uG {X:Type} (cf:X->X->Option Int) (fu:Nat) (n':Int):Nat->List X->Int->Int->Option (List X×Int×Int)
 | 0,_,_,_=>none
 | fk+1,data2,a',b4=>if decide (b4<=n') then (uS cf fu data2 a' b4).bind λy=>uG cf fu n' fk y b4 (y_ (b4+20)) else some (data2,a',b4)
def uF {X:Type} (cf:X->X->Option Int) (fu:Nat) (n':Int) (blockSize:Int):Nat->List X->Int->Int->Option (List X×Int×Int)
 | 0,_,_,_=>none
 | fk+1,data5,a3,b6=>if decide (b6<=n') then (uB cf fu data5 a3 (y_ (a3+blockSize)) b6).bind λy3=>uF cf fu n' blockSize fk y3 b6 (y_ (b6+(y_ (2 * blockSize)))) else some (data5,a3,b6)
def uA {X:Type} (cf:X->X->Option Int) (fu:Nat) (n':Int):Nat->List X->Int->Option (List X×Int)
 | 0,_,_=>none
 | fk+1,data4,blockSize=>if decide (blockSize<n') then (uF cf fu n' blockSize fu data4 0 (y_ (2 * blockSize))).bind λz=>if decide ((y_ (z.2.1+blockSize))<n') then (uB cf fu z.1 z.2.1 (y_ (z.2.1+blockSize)) n').bind λy4=>uA cf fu n' fk y4 (y_ (blockSize * 2)) else uA cf fu n' fk z.1 (y_ (blockSize * 2)) else some (data4,blockSize)
def vq {X:Type} (cf:X->X->Option Int) (fu:Nat) (data:List X) (n':Int):Option (List X):=(uG cf fu n' fu data 0 20).bind λz3=>(uS cf fu z3.1 z3.2.1 n').bind λy2=>(uA cf fu n' fu y2 20).bind λz2=>some z2.1
def uU {X:Type} (cf:X->X->Option Int) (fu:Nat) (x1:List X):Option (List X):=(vq cf fu x1 (x1.length:Int)).bind λy=>some y
def xD (fu:Nat) (c:Pg):Option (Int):=some (y_ (c.count * (c.route.Nw.length:Int)))
def ay (fu:Nat) (a':Pg) (b':Pg):Option (Int):=(xD fu a').bind λy=>(xD fu b').bind λy2=>(cmp_Compare_int fu y y2).bind λy3=>some y3
def dG (fu:Nat) (x:List Pg):Option (List Pg):=(uU (λi j:Nat=>(x[i]?).bind λa=>(x[j]?).bind λb=>ay fu a b) fu (List.range x.length)).bind λis=>is.mapM λi:Nat=>x[i]?
def yl (fu:Nat) (e:Nx):Nat->List Int->Int->Option (List Int×Int)
 | 0,_,_=>none
 | fk+1,out3,i2=>if decide (i2<(e.Nk.Nw.length:Int)) then (V_ e.Nk.Nw i2).bind λe2=>(V_ out3 e2).bind λe3=>(bX fu e.Nj).bind λy=>(V_ out3 e2).bind λe4=>yl fu e fk (out3.set (e2:Int).toNat (D0 e3 y)) (y_ (i2+1)) else some (out3,i2)
def ym (fu:Nat) (p:Nh):Nat->List Int->Int->Option (List Int×Int)
 | 0,_,_=>none
 | fk+1,out',i=>if decide (i<(p.Nz.length:Int)) then (V_ p.Nz i).bind λe=>(yl fu e fu out' 0).bind λz=>ym fu p fk z.1 (y_ (i+1)) else some (out',i)
def aJ (fu:Nat) (p:Nh):Option (List Int):=(mk (0:Int) (p.Nq.Nw.length:Int)).bind λl=>(ym fu p fu l 0).bind λz2=>some z2.1
def yC (fu:Nat) (r':Nk) (y:List Int):Nat->Int->Int->Option (Int×Int)
 | 0,_,_=>none
 | fk+1,out',i=>if decide (i<(r'.Nw.length:Int)) then (V_ r'.Nw i).bind λe=>(V_ y e).bind λe2=>yC fu r' y fk (D0 out' e2) (y_ (i+1)) else some (out',i)
def cu (fu:Nat) (p:Nh) (r':Nk):Option (Int):=(aJ fu p).bind λy=>(yC fu r' y fu 0 0).bind λz=>some z.1
def eU (fu:Nat) (mask:Int):Option (Bool):=(vn fu mask 0 16777215).bind λy=>some y
def cN (fu:Nat) (mask:Int) (count:Int):Option (Bool):=((eU fu mask).bind λy=>if y then (vn fu count 1 24).bind λy2=>some y2 else some false).bind λc=>some c
def x9 (fu:Nat) (mask:Int) (count:Int):Nat->List Int->Int->Option (List Int×Int)
 | 0,_,_=>none
 | fk+1,out',first=>if decide ((y_ (first+count))<=24) then (bX fu ({ Pk:=first,Pz:=count }:Nj)).bind λy=>if (band mask y)==0 then (C_ out' [first]).bind λl=>x9 fu mask count fk l (y_ (first+1)) else x9 fu mask count fk out' (y_ (first+1)) else some (out',first)
def zn (fu:Nat) (mask:Int) (count:Int):Option (List Int):=(x9 fu mask count fu ([]:List Int) 0).bind λz=>some z.1
def dj (fu:Nat) (mask:Int) (count:Int):Option (Nj×Bool):=(cN fu mask count).bind λy=>if !y then some (({ Pk:=0,Pz:=0 }:Nj),false) else (zn fu mask count).bind λy2=>if (y2.length:Int)==0 then some (({ Pk:=0,Pz:=0 }:Nj),false) else (V_ y2 0).bind λe=>some (({ Pk:=e,Pz:=count }:Nj),true)
def ft (fu:Nat) (mask:Int) (count:Int):Option (Nj×Bool):=(cN fu mask count).bind λy=>if !y then some (({ Pk:=0,Pz:=0 }:Nj),false) else (zn fu mask count).bind λy2=>if (y2.length:Int)==0 then some (({ Pk:=0,Pz:=0 }:Nj),false) else (V_ y2 (y_ ((y2.length:Int) - 1))).bind λe=>some (({ Pk:=e,Pz:=count }:Nj),true)
def xU (fu:Nat) (mask:Int):Nat->Int->Option (Int)
 | 0,_=>none
 | fk+1,s2=>(if decide (s2<24) then (shr mask s2).bind λq=>some ((band q 1)==0) else some false).bind λc2=>if c2 then xU fu mask fk (y_ (s2+1)) else some s2
def xC (fu:Nat) (mask:Int):Nat->List Nj->Int->Option (List Nj×Int)
 | 0,_,_=>none
 | fk+1,out',s'=>if decide (s'<24) then (xU fu mask fu s').bind λz=>if decide (z > s') then (C_ out' [({ Pk:=s',Pz:=y_ (z - s') }:Nj)]).bind λl=>xC fu mask fk l (y_ (z+1)) else xC fu mask fk out' (y_ (z+1)) else some (out',s')
def df (fu:Nat) (mask:Int):Option (List Nj):=(xC fu mask fu ([]:List Nj) 0).bind λz2=>some z2.1
def xS (fu:Nat) (count:Int) (y2:List Nj):Nat->Int->Int->Int->Option (Int×Int×Int)
 | 0,_,_,_=>none
 | fk+1,i,m,m2=>if decide (i<(y2.length:Int)) then (V_ y2 i).bind λe=>(if decide (e.Pz>=count) then if m2==0 then some true else some (decide (e.Pz<m2)) else some false).bind λc2=>if c2 then xS fu count y2 fk (y_ (i+1)) e.Pk e.Pz else xS fu count y2 fk (y_ (i+1)) m m2 else some (i,m,m2)
def fv (fu:Nat) (mask:Int) (count:Int):Option (Nj×Bool):=(cN fu mask count).bind λy=>if !y then some (({ Pk:=0,Pz:=0 }:Nj),false) else (df fu mask).bind λy2=>(xS fu count y2 fu 0 0 0).bind λz=>if z.2.2==0 then some (({ Pk:=0,Pz:=0 }:Nj),false) else some (({ Pk:=z.2.1,Pz:=count }:Nj),true)
def d4 (fu:Nat) (mask:Int) (count:Int) (fit:Int):Option (Nj×Bool):=if fit==1 then (dj fu mask count).bind λy=>some (y.1,y.2) else if fit==2 then (ft fu mask count).bind λy2=>some (y2.1,y2.2) else (fv fu mask count).bind λy3=>some (y3.1,y3.2)
def xP (fu:Nat) (p:Nh) (fit:Int) (y2:List Pg):Nat->List Nx->Int->Option (List Nx×Int)
 | 0,_,_=>none
 | fk+1,out',i=>if decide (i<(y2.length:Int)) then (V_ y2 i).bind λe=>(cu fu p e.route).bind λy3=>(d4 fu y3 e.count fit).bind λy4=>if y4.2 then (C_ out' [({ Id:=0,Nk:=e.route,Nj:=y4.1 }:Nx)]).bind λl=>xP fu p fit y2 fk l (y_ (i+1)) else xP fu p fit y2 fk out' (y_ (i+1)) else some (out',i)
def bZ (fu:Nat) (p:Nh) (formats:List Ng) (d':Nt) (fit:Int):Option (List Nx×Bool):=(dE fu p.Nq formats d').bind λy=>if !y.2 then some (([]:List Nx),false) else (dG fu y.1).bind λy2=>(xP fu p fit y2 fu ([]:List Nx) 0).bind λz=>some (z.1,true)
def dd (fu:Nat) (x1:Nx) (cap:Int):Option (Bool):=some (x1.Id==cap)
def uE (fu:Nat) (s':List Nx) (cap:Int):Nat->Int->Option (Out (Int) (Int))
 | 0,_=>none
 | fk+1,i=>if decide (i<(s'.length:Int)) then (V_ s' i).bind λe=>(dd fu e cap).bind λy=>if y then some (.ret i) else uE fu s' cap fk (y_ (i+1)) else some (.next i)
def vd (fu:Nat) (s':List Nx) (cap:Int):Option (Int):=(uE fu s' cap fu 0).bind λout=>out.on some λz=>some (-1)
def bY (fu:Nat) (p:Nh) (id:Int):Option (Int):=(vd fu p.Nz id).bind λy=>some y
def ax (fu:Nat) (p:Nh):Nat->Int->Option (Int)
 | 0,_=>none
 | fk+1,id=>(bY fu p id).bind λy=>if decide (y>=0) then ax fu p fk (y_ (id+1)) else some id
def eV (fu:Nat) (p:Nh):Option (Int):=(ax fu p fu 1).bind λz=>some z
def yB (fu:Nat) (p:Nh) (x1:Nx):Nat->Int->Option (Int)
 | 0,_=>none
 | fk+1,at'=>(if decide (at'<(p.Nz.length:Int)) then (V_ p.Nz at').bind λe=>some (decide (e.Id<x1.Id)) else some false).bind λc8=>if c8 then yB fu p x1 fk (y_ (at' + 1)) else some at'
def ct (fu:Nat) (p:Nh) (x1:Nx):Option (Nh):=(aj fu p).bind λy=>(yB fu p x1 fu 0).bind λz=>(bH fu x1.Nk).bind λy2=>(insl y.Nz z [({ Id:=x1.Id,Nk:=y2,Nj:=x1.Nj }:Nx)]).bind λl=>some ({ Nq:=y.Nq,Nz:=l }:Nh)
def fY (fu:Nat) (p:Nh) (formats:List Ng) (d':Nt) (fit:Int):Option (Nh×Int×Bool):=(bZ fu p formats d' fit).bind λy=>if !y.2 then some (({ Nq:=({ Nv:=[],Nw:=[] }:Nq),Nz:=[] }:Nh),0,false) else (if (y.1.length:Int)==0 then some true else some ((p.Nz.length:Int)==12)).bind λc6=>if c6 then (aj fu p).bind λy2=>some (y2,0,true) else (V_ y.1 0).bind λe=>(eV fu p).bind λy3=>(ct fu p ({ Id:=y3,Nk:=e.Nk,Nj:=e.Nj }:Nx)).bind λy4=>some (y4,y3,true)
def yj (fu:Nat) (formats:List Ng) (list:List Nt) (fit:Int) (order:List Int):Nat->Int->List ByteArray->List Pq->List Nx->List Int->Int->Option (Out (Int×List ByteArray×List Pq×List Nx×List Int×Int) (Pp×Bool))
 | 0,_,_,_,_,_,_=>none
 | fk+1,i,m,m2,m3,m4,m5=>if decide (i<(order.length:Int)) then (V_ order i).bind λe=>(V_ list e).bind λe2=>(fY fu ({ Nq:=({ Nv:=m,Nw:=m2 }:Nq),Nz:=m3 }:Nh) formats e2 fit).bind λy2=>if !y2.2.2 then some (.ret (({ Nh:=({ Nq:=({ Nv:=[],Nw:=[] }:Nq),Nz:=[] }:Nh),Ids:=[],Rz:=0 }:Pp),false)) else (V_ m4 e).bind λe3=>if y2.2.1==0 then yj fu formats list fit order fk (y_ (i+1)) y2.1.Nq.Nv y2.1.Nq.Nw y2.1.Nz (m4.set (e:Int).toNat y2.2.1) (y_ (m5+1)) else yj fu formats list fit order fk (y_ (i+1)) y2.1.Nq.Nv y2.1.Nq.Nw y2.1.Nz (m4.set (e:Int).toNat y2.2.1) m5 else some (.next (i,m,m2,m3,m4,m5))
def dZ (fu:Nat) (p:Nh) (formats:List Ng) (list:List Nt) (fit:Int) (order:List Int):Option (Pp×Bool):=(aj fu p).bind λy=>(mk (0:Int) (list.length:Int)).bind λl=>(yj fu formats list fit order fu 0 y.Nq.Nv y.Nq.Nw y.Nz l 0).bind λout=>out.on some λz=>some (({ Nh:=({ Nq:=({ Nv:=z.2.1,Nw:=z.2.2.1 }:Nq),Nz:=z.2.2.2.1 }:Nh),Ids:=z.2.2.2.2.1,Rz:=z.2.2.2.2.2 }:Pp),true)
def yu (fu:Nat) (list:List Nt):Nat->List Int->Int->Option (List Int×Int)
 | 0,_,_=>none
 | fk+1,order,i=>if decide (i<(list.length:Int)) then (C_ order [i]).bind λl=>yu fu list fk l (y_ (i+1)) else some (order,i)
def di (fu:Nat) (p:Nh) (formats:List Ng) (list:List Nt) (fit:Int):Option (Pp×Bool):=(cw fu p formats list fit).bind λy=>if !y then some (({ Nh:=({ Nq:=({ Nv:=[],Nw:=[] }:Nq),Nz:=[] }:Nh),Ids:=[],Rz:=0 }:Pp),false) else (yu fu list fu ([]:List Int) 0).bind λz=>(dZ fu p formats list fit z.1).bind λy2=>some (y2.1,y2.2)
def xd (fu:Nat) (x1:Int) (a':Int) (b':Int):Option (Bool):=(if decide (x1>=a') then some (decide (x1<=b')) else some false).bind λc=>some c
def eF (fu:Nat) (b':By):Option (Bool):=(if decide (b'.n>=97) then if decide (b'.n<=122) then some true else if decide (b'.n>=48) then some (decide (b'.n<=57)) else some false else if decide (b'.n>=48) then some (decide (b'.n<=57)) else some false).bind λc=>some c
def yH (fu:Nat) (s':ByteArray):Nat->Int->Option (Out (Int) (Bool))
 | 0,_=>none
 | fk+1,i=>if decide (i<(s'.size:Int)) then (sidx s' i).bind λe3=>(eF fu e3).bind λy2=>if !y2 then some (.ret false) else yH fu s' fk (y_ (i+1)) else some (.next i)
def eG (fu:Nat) (s':ByteArray):Option (Bool):=((xd fu (s'.size:Int) 1 8).bind λy=>if !y then some true else (sidx s' 0).bind λe=>if decide (e.n<97) then some true else (sidx s' 0).bind λe2=>some (decide (e2.n > 122))).bind λc=>if c then some false else (yH fu s' fu 0).bind λout=>out.on some λz=>some true
def zl (fu:Nat) (list:List ByteArray) (name:ByteArray):Nat->Int->Option (Out (Int) (Int))
 | 0,_=>none
 | fk+1,i=>if decide (i<(list.length:Int)) then (V_ list i).bind λe=>if e.toList==name.toList then some (.ret i) else zl fu list name fk (y_ (i+1)) else some (.next i)
def eH (fu:Nat) (list:List ByteArray) (name:ByteArray):Option (Int):=(zl fu list name fu 0).bind λout=>out.on some λz=>some (-1)
def dU (fu:Nat) (f:Pq) (nodes:Int):Option (Bool):=((xd fu f.A 0 (y_ (nodes - 1))).bind λy=>if y then (xd fu f.B (y_ (f.A+1)) (y_ (nodes - 1))).bind λy2=>if y2 then (xd fu f.Px 1 5000).bind λy3=>if y3 then (xd fu f.Pt 0 9).bind λy4=>some y4 else some false else some false else some false).bind λc=>some c
def zk (fu:Nat) (n':Nq):Nat->Int->Option (Out (Int) (Bool))
 | 0,_=>none
 | fk+1,i=>if decide (i<(n'.Nv.length:Int)) then ((V_ n'.Nv i).bind λe=>(eG fu e).bind λy2=>if !y2 then some true else (V_ n'.Nv i).bind λe2=>(eH fu n'.Nv e2).bind λy3=>some (y3 != i)).bind λc4=>if c4 then some (.ret false) else zk fu n' fk (y_ (i+1)) else some (.next i)
def zj (fu:Nat) (n':Nq):Nat->Int->Option (Out (Int) (Bool))
 | 0,_=>none
 | fk+1,i3=>if decide (i3<(n'.Nw.length:Int)) then ((V_ n'.Nw i3).bind λe3=>(dU fu e3 (n'.Nv.length:Int)).bind λy4=>if !y4 then some true else if decide (i3 > 0) then (V_ n'.Nw (y_ (i3 - 1))).bind λe4=>(V_ n'.Nw i3).bind λe5=>(cd fu e4 e5).bind λy5=>some (decide (y5 > 0)) else some false).bind λc5=>if c5 then some (.ret false) else zj fu n' fk (y_ (i3+1)) else some (.next i3)
def a7 (fu:Nat) (n':Nq):Option (Bool):=((xd fu (n'.Nv.length:Int) 2 8).bind λy=>if !y then some true else some (decide ((n'.Nw.length:Int) > 14))).bind λc3=>if c3 then some false else (zk fu n' fu 0).bind λout=>out.on some λz2=>(zj fu n' fu 0).bind λout=>out.on some λz=>some true
def ar (fu:Nat) (n':Nq) (r':Nk):Nat->List Int->Int->Option (Out (List Int×Int) (List Int×Bool))
 | 0,_,_=>none
 | fk+1,out',i=>if decide (i<(r'.Nw.length:Int)) then (V_ r'.Nw i).bind λe=>(xd fu e 0 (y_ ((n'.Nw.length:Int) - 1))).bind λy2=>if !y2 then some (.ret (out',false)) else (V_ r'.Nw i).bind λe2=>(V_ out' (y_ ((out'.length:Int) - 1))).bind λe3=>(yJ fu n' e2 e3).bind λy3=>(if decide (y3<0) then some true else (bF fu out' y3).bind λy4=>some y4).bind λc6=>if c6 then some (.ret (out',false)) else (C_ out' [y3]).bind λl=>ar fu n' r' fk l (y_ (i+1)) else some (.next (out',i))
def dv (fu:Nat) (n':Nq) (r':Nk):Option (List Int×Bool):=((xd fu r'.Np 0 (y_ ((n'.Nv.length:Int) - 1))).bind λy=>if !y then some true else some ((r'.Nw.length:Int)==0)).bind λc4=>if c4 then some ([r'.Np],false) else (ar fu n' r' fu [r'.Np] 0).bind λout=>out.on some λz=>some (z.1,true)
def eE (fu:Nat) (n':Nq) (r':Nk):Option (Bool):=(a7 fu n').bind λy=>if !y then some false else (dv fu n' r').bind λy2=>some y2.2
def eD (fu:Nat) (b':Nj):Option (Bool):=((xd fu b'.Pk 0 23).bind λy=>if y then (xd fu b'.Pz 1 (y_ (24 - b'.Pk))).bind λy2=>some y2 else some false).bind λc=>some c
def dT (fu:Nat) (n':Nq) (x1:Nx):Option (Bool):=((xd fu x1.Id 1 999).bind λy=>if y then (eE fu n' x1.Nk).bind λy2=>if y2 then (eD fu x1.Nj).bind λy3=>some y3 else some false else some false).bind λc4=>some c4
def zh (fu:Nat) (r':Nk) (group:List Int):Nat->Int->Option (Out (Int) (Bool))
 | 0,_=>none
 | fk+1,i=>if decide (i<(r'.Nw.length:Int)) then (V_ r'.Nw i).bind λe=>(bF fu group e).bind λy=>if y then some (.ret true) else zh fu r' group fk (y_ (i+1)) else some (.next i)
def aX (fu:Nat) (r':Nk) (group:List Int):Option (Bool):=(zh fu r' group fu 0).bind λout=>out.on some λz=>some false
def ck (fu:Nat) (x1:Nx) (y:Nx):Option (Bool):=((aX fu x1.Nk y.Nk.Nw).bind λy2=>if y2 then (zu fu x1.Nj).bind λy3=>(zu fu y.Nj).bind λy4=>some ((band y3 y4) != 0) else some false).bind λc3=>some c3
def yG (fu:Nat) (p:Nh) (i:Int):Nat->Int->Option (Out (Int) (Bool))
 | 0,_=>none
 | fk+1,k'=>if decide (k'<i) then (V_ p.Nz k').bind λe4=>(V_ p.Nz i).bind λe5=>(ck fu e4 e5).bind λy3=>if y3 then some (.ret false) else yG fu p i fk (y_ (k' + 1)) else some (.next k')
def ze (fu:Nat) (p:Nh):Nat->Int->Option (Out (Int) (Bool))
 | 0,_=>none
 | fk+1,i=>if decide (i<(p.Nz.length:Int)) then ((V_ p.Nz i).bind λe=>(dT fu p.Nq e).bind λy2=>if !y2 then some true else if decide (i > 0) then (V_ p.Nz (y_ (i - 1))).bind λe2=>(V_ p.Nz i).bind λe3=>some (decide (e2.Id>=e3.Id)) else some false).bind λc5=>if c5 then some (.ret false) else (yG fu p i fu 0).bind λout=>out.on (λr=>some (.ret r)) λz=>ze fu p fk (y_ (i+1)) else some (.next i)
def ez (fu:Nat) (p:Nh):Option (Bool):=((a7 fu p.Nq).bind λy=>if !y then some true else some (decide ((p.Nz.length:Int) > 12))).bind λc4=>if c4 then some false else (ze fu p fu 0).bind λout=>out.on some λz2=>some true
def xN (fu:Nat) (list:List Ng):Nat->Int->Option (Out (Int) (Bool))
 | 0,_=>none
 | fk+1,i=>(if decide (i<(list.length:Int)) then some (decide (i<=6)) else some false).bind λc2=>if c2 then ((V_ list i).bind λe=>(xd fu e.Reach 1 20000).bind λy=>if !y then some true else (V_ list i).bind λe2=>(xd fu e2.Ph 1 1000).bind λy2=>if !y2 then some true else if decide (i > 0) then (V_ list (y_ (i - 1))).bind λe3=>(V_ list i).bind λe4=>if decide (e3.Reach<=e4.Reach) then some true else (V_ list (y_ (i - 1))).bind λe5=>(V_ list i).bind λe6=>some (decide (e5.Ph>=e6.Ph)) else some false).bind λc3=>if c3 then some (.ret false) else xN fu list fk (y_ (i+1)) else some (.next i)
def bS (fu:Nat) (list:List Ng):Option (Bool):=(xN fu list fu 0).bind λout=>out.on some λz=>(xd fu (list.length:Int) 1 6).bind λy3=>some y3
def cp (fu:Nat) (n':Nq) (d':Nt):Option (Bool):=((xd fu d'.Rw 0 (y_ ((n'.Nv.length:Int) - 1))).bind λy=>if y then (xd fu d'.To 0 (y_ ((n'.Nv.length:Int) - 1))).bind λy2=>if y2 then if d'.Rw != d'.To then (xd fu d'.Ph 1 1000).bind λy3=>if y3 then (xd fu d'.Rk 0 2).bind λy4=>some y4 else some false else some false else some false else some false).bind λc3=>some c3
def xO (fu:Nat) (n':Nq) (list:List Nt):Nat->Int->Option (Out (Int) (Bool))
 | 0,_=>none
 | fk+1,i=>(if decide (i<(list.length:Int)) then some (decide (i<=12)) else some false).bind λc4=>if c4 then (V_ list i).bind λe=>(cp fu n' e).bind λy=>if !y then some (.ret false) else xO fu n' list fk (y_ (i+1)) else some (.next i)
def bT (fu:Nat) (n':Nq) (list:List Nt):Option (Bool):=(xO fu n' list fu 0).bind λout=>out.on some λz=>(if decide ((list.length:Int)<=12) then (a7 fu n').bind λy2=>some y2 else some false).bind λc5=>some c5
def cY (fu:Nat) (p:Nh) (formats:List Ng) (list:List Nt) (fit:Int):Option (Bool):=((ez fu p).bind λy=>if y then (bS fu formats).bind λy2=>if y2 then (bT fu p.Nq list).bind λy3=>if y3 then (xd fu fit 1 3).bind λy4=>some y4 else some false else some false else some false).bind λc6=>some c6
def yT (fu:Nat) (n':Nq) (r':Nk):Nat->Int->Int->Option (Int×Int)
 | 0,_,_=>none
 | fk+1,sum,i=>if decide (i<(r'.Nw.length:Int)) then (V_ r'.Nw i).bind λe=>(V_ n'.Nw e).bind λe2=>yT fu n' r' fk (y_ (sum+e2.Px)) (y_ (i+1)) else some (sum,i)
def aY (fu:Nat) (n':Nq) (r':Nk):Option (Int):=(yT fu n' r' fu 0 0).bind λz=>some z.1
def bP (fu:Nat) (x1:Int):Option (Int):=if decide (x1<0) then some (-1) else if decide (x1 > 0) then some 1 else some 0
def yx (fu:Nat) (a':Nk) (b':Nk):Nat->Int->Option (Out (Int) (Int))
 | 0,_=>none
 | fk+1,i=>if decide (i<(a'.Nw.length:Int)) then (V_ a'.Nw i).bind λe=>(V_ b'.Nw i).bind λe2=>if e != e2 then (V_ a'.Nw i).bind λe3=>(V_ b'.Nw i).bind λe4=>(bP fu (y_ (e3 - e4))).bind λy5=>some (.ret y5) else yx fu a' b' fk (y_ (i+1)) else some (.next i)
def cm (fu:Nat) (n':Nq) (a':Nk) (b':Nk):Option (Int):=(aY fu n' a').bind λy=>(aY fu n' b').bind λy2=>if (y_ (y - y2)) != 0 then (bP fu (y_ (y - y2))).bind λy3=>some y3 else if (y_ ((a'.Nw.length:Int) - (b'.Nw.length:Int))) != 0 then (bP fu (y_ ((a'.Nw.length:Int) - (b'.Nw.length:Int)))).bind λy4=>some y4 else (yx fu a' b' fu 0).bind λout=>out.on some λz=>(bP fu (y_ (a'.Np - b'.Np))).bind λy6=>some y6
def xJ (fu:Nat) (x1:Pj) (r':Nk):Nat->Int->Option (Int)
 | 0,_=>none
 | fk+1,i=>(if decide (i > 0) then (V_ x1.list (y_ (i - 1))).bind λe=>(cm fu x1.n r' e).bind λy=>some (decide (y<0)) else some false).bind λc5=>if c5 then xJ fu x1 r' fk (y_ (i - 1)) else some i
def aB (fu:Nat) (x1:Pj) (r':Nk):Option (Pj):=(xJ fu x1 r' fu (x1.list.length:Int)).bind λz=>(sub x1.list 0 z).bind λl=>(sub x1.list z (x1.list.length:Int)).bind λl2=>(C_ ([]:List Nk) l).bind λl3=>(C_ l3 [r']).bind λl4=>(C_ l4 l2).bind λl5=>some ({ n:=x1.n,to:=x1.to,list:=l5 }:Pj)
def vr (fu:Nat) (r':Nk) (seen:List Int) (rec_:(Pj)->(Nk)->(List Int)->Option (Pj)) (e:Int):Nat->Int->List ByteArray->List Pq->Int->List Nk->Option (Int×List ByteArray×List Pq×Int×List Nk)
 | 0,_,_,_,_,_=>none
 | fk+1,i,m,m2,m3,m4=>(if decide (i<(m2.length:Int)) then some (decide ((m4.length:Int)<=200)) else some false).bind λc12=>if c12 then (yJ fu ({ Nv:=m,Nw:=m2 }:Nq) i e).bind λy2=>(if decide (y2>=0) then (bF fu seen y2).bind λy3=>some (!y3) else some false).bind λc13=>if c13 then (bD fu r'.Nw).bind λy4=>(C_ y4 [i]).bind λl=>(bD fu seen).bind λy5=>(C_ y5 [y2]).bind λl2=>(rec_ ({ n:=({ Nv:=m,Nw:=m2 }:Nq),to:=m3,list:=m4 }:Pj) ({ Np:=r'.Np,Nw:=l }:Nk) l2).bind λy6=>vr fu r' seen rec_ e fk (y_ (i+1)) y6.n.Nv y6.n.Nw y6.to y6.list else vr fu r' seen rec_ e fk (y_ (i+1)) m m2 m3 m4 else some (i,m,m2,m3,m4)
def zF (fu:Nat) (rec_:(Pj)->(Nk)->(List Int)->Option (Pj)) (x1:Pj) (r':Nk) (seen:List Int):Option (Pj):=(V_ seen (y_ ((seen.length:Int) - 1))).bind λe=>if e==x1.to then (aB fu x1 r').bind λy=>some y else (vr fu r' seen rec_ e fu 0 x1.n.Nv x1.n.Nw x1.to x1.list).bind λz=>some ({ n:=({ Nv:=z.2.1,Nw:=z.2.2.1 }:Nq),to:=z.2.2.2.1,list:=z.2.2.2.2 }:Pj)
def vB:Nat->(Pj)->(Nk)->(List Int)->Option (Pj)
 | 0,_,_,_=>none
 | fu+1,x1,r',seen=>zF fu (λx1 r' seen=>vB fu x1 r' seen) x1 r' seen
def eo (fu:Nat) (n':Nq) (from':Int) (to:Int):Option (List Nk×Bool):=(vB fu ({ n:=n',to:=to,list:=[] }:Pj) ({ Np:=from',Nw:=[] }:Nk) [from']).bind λy=>if decide ((y.list.length:Int) > 200) then some (([]:List Nk),false) else (C_ ([]:List Nk) y.list).bind λl=>some (l,true)
def xQ (fu:Nat) (list:List Ng) (length:Int):Nat->Int->Int->Option (Int×Int)
 | 0,_,_=>none
 | fk+1,best,i=>if decide (i<(list.length:Int)) then (V_ list i).bind λe=>if decide (e.Reach>=length) then xQ fu list length fk i (y_ (i+1)) else xQ fu list length fk best (y_ (i+1)) else some (best,i)
def fj (fu:Nat) (list:List Ng) (length:Int):Option (Int):=(xQ fu list length fu (-1) 0).bind λz=>some z.1
def cZ (fu:Nat) (list:List Ng) (length:Int) (rate:Int):Option (Int):=(fj fu list length).bind λy=>if decide (y<0) then some 0 else (V_ list y).bind λe=>(V_ list y).bind λe2=>(quo (y_ ((y_ (rate+e.Ph)) - 1)) e2.Ph).bind λq=>if decide (q > 24) then some 0 else some q
def x6 (fu:Nat) (n':Nq) (formats:List Ng) (d':Nt) (y:List Nk×Bool):Nat->List Nk->List Int->Int->Option (List Nk×List Int×Int)
 | 0,_,_,_=>none
 | fk+1,routes,slots,i=>if decide (i<(y.1.length:Int)) then (V_ y.1 i).bind λe=>(aY fu n' e).bind λy2=>(cZ fu formats y2 d'.Ph).bind λy3=>if decide (y3 > 0) then (V_ y.1 i).bind λe2=>(C_ routes [e2]).bind λl=>(C_ slots [y3]).bind λl2=>x6 fu n' formats d' y fk l l2 (y_ (i+1)) else x6 fu n' formats d' y fk routes slots (y_ (i+1)) else some (routes,slots,i)
def co (fu:Nat) (n':Nq) (formats:List Ng) (d':Nt):Option (List Nk×List Int×Bool):=(eo fu n' d'.Rw d'.To).bind λy=>if !y.2 then some (([]:List Nk),([]:List Int),false) else (x6 fu n' formats d' y fu ([]:List Nk) ([]:List Int) 0).bind λz=>some (z.1,z.2.1,true)
def vt (fu:Nat) (mask:Int):Nat->Int->Int->List Nj->Option (Int×Int×List Nj)
 | 0,_,_,_=>none
 | fk+1,count,s',out'=>if decide (s'<=24) then (if decide (s'<24) then (shr mask (wu64 s')).bind λq=>some ((band q 1)==0) else some false).bind λc2=>if c2 then vt fu mask fk (y_ (count+1)) (y_ (s' + 1)) out' else if decide (count > 0) then (C_ out' [({ Pk:=y_ (s' - count),Pz:=count }:Nj)]).bind λl=>vt fu mask fk 0 (y_ (s' + 1)) l else vt fu mask fk 0 (y_ (s' + 1)) out' else some (count,s',out')
def eC (fu:Nat) (mask:Int):Option (List Nj):=(vt fu mask fu 0 0 ([]:List Nj)).bind λz=>some z.2.2
def yg (fu:Nat) (count:Int) (y:List Nj):Nat->Int->Int->Int->Option (Int×Int×Int)
 | 0,_,_,_=>none
 | fk+1,i,m,m2=>if decide (i<(y.length:Int)) then ((V_ y i).bind λe=>if decide (e.Pz>=count) then if m2==0 then some true else (V_ y i).bind λe2=>some (decide (e2.Pz<m2)) else some false).bind λc2=>if c2 then (V_ y i).bind λe3=>yg fu count y fk (y_ (i+1)) e3.Pk e3.Pz else yg fu count y fk (y_ (i+1)) m m2 else some (i,m,m2)
def gm (fu:Nat) (mask:Int) (count:Int):Option (Nj):=(eC fu mask).bind λy=>(yg fu count y fu 0 0 0).bind λz=>if decide (z.2.2 > 0) then some ({ Pk:=z.2.1,Pz:=count }:Nj) else some ({ Pk:=z.2.1,Pz:=z.2.2 }:Nj)
def cX (fu:Nat) (mask:Int) (count:Int) (fit:Int):Option (Nj):=(cC fu mask count).bind λy=>if (y.length:Int)==0 then some ({ Pk:=0,Pz:=0 }:Nj) else if fit==1 then (V_ y 0).bind λe=>some ({ Pk:=e,Pz:=count }:Nj) else if fit==2 then (V_ y (y_ ((y.length:Int) - 1))).bind λe2=>some ({ Pk:=e2,Pz:=count }:Nj) else (gm fu mask count).bind λy2=>some y2
def xL (fu:Nat) (y:List Nk×List Int×Bool) (order:List Int) (i:Int):Nat->Int->Option (Int)
 | 0,_=>none
 | fk+1,k'=>(if decide (k' > 0) then (V_ order (y_ (k' - 1))).bind λe=>(V_ y.2.1 e).bind λe2=>(V_ order (y_ (k' - 1))).bind λe3=>(V_ y.1 e3).bind λe4=>(V_ y.2.1 i).bind λe5=>(V_ y.1 i).bind λe6=>some (decide ((y_ (e2 * (e4.Nw.length:Int))) > (y_ (e5 * (e6.Nw.length:Int))))) else some false).bind λc8=>if c8 then xL fu y order i fk (y_ (k' - 1)) else some k'
def xM (fu:Nat) (y:List Nk×List Int×Bool):Nat->List Int->Int->Option (List Int×Int)
 | 0,_,_=>none
 | fk+1,order,i=>if decide (i<(y.1.length:Int)) then (xL fu y order i fu (order.length:Int)).bind λz=>(sub order 0 z).bind λl=>(sub order z (order.length:Int)).bind λl2=>(C_ ([]:List Int) l).bind λl3=>(C_ l3 [i]).bind λl4=>(C_ l4 l2).bind λl5=>xM fu y fk l5 (y_ (i+1)) else some (order,i)
def xK (fu:Nat) (p:Nh) (fit:Int) (y:List Nk×List Int×Bool) (order2:List Int):Nat->List Nx->Int->Option (List Nx×Int)
 | 0,_,_=>none
 | fk+1,out3,i3=>if decide (i3<(order2.length:Int)) then (V_ order2 i3).bind λe7=>(V_ y.1 e7).bind λe8=>(V_ order2 i3).bind λe9=>(V_ y.2.1 e9).bind λe10=>(zR fu p e8).bind λy2=>(cX fu y2 e10 fit).bind λy3=>if decide (y3.Pz > 0) then (cI fu e8).bind λy4=>(C_ out3 [({ Id:=0,Nk:=y4,Nj:=y3 }:Nx)]).bind λal=>xK fu p fit y order2 fk al (y_ (i3+1)) else xK fu p fit y order2 fk out3 (y_ (i3+1)) else some (out3,i3)
def bR (fu:Nat) (p:Nh) (formats:List Ng) (d':Nt) (fit:Int):Option (List Nx×Bool):=(co fu p.Nq formats d').bind λy=>if !y.2.2 then some (([]:List Nx),false) else (xM fu y fu ([]:List Int) 0).bind λz3=>(xK fu p fit y z3.1 fu ([]:List Nx) 0).bind λz2=>some (z2.1,true)
def ba (fu:Nat) (p:Nh):Nat->Int->Int->Option (Int×Int)
 | 0,_,_=>none
 | fk+1,id,i=>(if decide (i<(p.Nz.length:Int)) then (V_ p.Nz i).bind λe=>some (e.Id==id) else some false).bind λc4=>if c4 then ba fu p fk (y_ (id+1)) (y_ (i+1)) else some (id,i)
def fT (fu:Nat) (p:Nh):Option (Int):=(ba fu p fu 1 0).bind λz=>some z.1
def cW (fu:Nat) (p:Nh) (formats:List Ng) (d':Nt) (fit:Int):Option (Nh×Int×Bool):=(bR fu p formats d' fit).bind λy=>if !y.2 then some (({ Nq:=({ Nv:=[],Nw:=[] }:Nq),Nz:=[] }:Nh),0,false) else (if (y.1.length:Int)==0 then some true else some ((p.Nz.length:Int)==12)).bind λc6=>if c6 then (cH fu p).bind λy2=>some (y2,0,true) else (V_ y.1 0).bind λe=>(fT fu p).bind λy3=>(bC fu p ({ Id:=y3,Nk:=e.Nk,Nj:=e.Nj }:Nx)).bind λy4=>some (y4,y3,true)
def yI (fu:Nat) (formats:List Ng) (list:List Nt) (fit:Int) (order:List Int):Nat->Int->List ByteArray->List Pq->List Nx->List Int->Int->Option (Out (Int×List ByteArray×List Pq×List Nx×List Int×Int) (Pp×Bool))
 | 0,_,_,_,_,_,_=>none
 | fk+1,i,m,m2,m3,m4,m5=>if decide (i<(order.length:Int)) then (V_ order i).bind λe=>(V_ list e).bind λe2=>(cW fu ({ Nq:=({ Nv:=m,Nw:=m2 }:Nq),Nz:=m3 }:Nh) formats e2 fit).bind λy2=>if !y2.2.2 then some (.ret (({ Nh:=({ Nq:=({ Nv:=[],Nw:=[] }:Nq),Nz:=[] }:Nh),Ids:=[],Rz:=0 }:Pp),false)) else (V_ order i).bind λe3=>(V_ m4 e3).bind λe4=>if y2.2.1==0 then yI fu formats list fit order fk (y_ (i+1)) y2.1.Nq.Nv y2.1.Nq.Nw y2.1.Nz (m4.set (e3:Int).toNat y2.2.1) (y_ (m5+1)) else yI fu formats list fit order fk (y_ (i+1)) y2.1.Nq.Nv y2.1.Nq.Nw y2.1.Nz (m4.set (e3:Int).toNat y2.2.1) m5 else some (.next (i,m,m2,m3,m4,m5))
def eJ (fu:Nat) (p:Nh) (formats:List Ng) (list:List Nt) (fit:Int) (order:List Int):Option (Pp×Bool):=(cH fu p).bind λy=>(mk (0:Int) (list.length:Int)).bind λl=>(yI fu formats list fit order fu 0 y.Nq.Nv y.Nq.Nw y.Nz l 0).bind λout=>out.on some λz=>some (({ Nh:=({ Nq:=({ Nv:=z.2.1,Nw:=z.2.2.1 }:Nq),Nz:=z.2.2.2.1 }:Nh),Ids:=z.2.2.2.2.1,Rz:=z.2.2.2.2.2 }:Pp),true)
def yp (fu:Nat) (list:List Nt):Nat->List Int->Int->Option (List Int×Int)
 | 0,_,_=>none
 | fk+1,order,i=>if decide (i<(list.length:Int)) then (C_ order [i]).bind λl=>yp fu list fk l (y_ (i+1)) else some (order,i)
def da (fu:Nat) (p:Nh) (formats:List Ng) (list:List Nt) (fit:Int):Option (Pp×Bool):=(cY fu p formats list fit).bind λy=>if !y then some (({ Nh:=({ Nq:=({ Nv:=[],Nw:=[] }:Nq),Nz:=[] }:Nh),Ids:=[],Rz:=0 }:Pp),false) else (yp fu list fu ([]:List Int) 0).bind λz=>(eJ fu p formats list fit z.1).bind λy2=>some (y2.1,y2.2)
def zQ (fu:Nat) (p:Nh) (id:Int):Option (Int×Bool):=(bY fu p id).bind λy=>((xV fu p).bind λy2=>if !y2 then some true else some (decide (y<0))).bind λc4=>if c4 then some (0,false) else some (y,true)
def cc (fu:Nat) (n':Nq) (r':Nk):Option (List Int×Bool):=(xz fu n').bind λy=>if !y then some ([],false) else (cM fu n' r').bind λy2=>some (y2.1,y2.2)
def am (fu:Nat) (id:Int) (cap:Pp):Option (Bool):=(if id != 0 then (bY fu cap.Nh id).bind λy=>some (decide (y<0)) else some false).bind λc5=>some c5
def uP (fu:Nat) (s':List Int) (cap:Pp):Nat->Int->Option (Out (Int) (Int))
 | 0,_=>none
 | fk+1,i=>if decide (i<(s'.length:Int)) then (V_ s' i).bind λe=>(am fu e cap).bind λy=>if y then some (.ret i) else uP fu s' cap fk (y_ (i+1)) else some (.next i)
def vz (fu:Nat) (s':List Int) (cap:Pp):Option (Int):=(uP fu s' cap fu 0).bind λout=>out.on some λz=>some (-1)
def vc (fu:Nat) (s':List Int) (cap:Pp):Option (Bool):=(vz fu s' cap).bind λy=>some (decide (y>=0))
def yQ (fu:Nat) (x1:Nx) (cap:Pp):Option (Bool):=(xh fu cap.Ids x1.Id).bind λy=>some y
def vp (fu:Nat) (x:List Nx) (cap0:Pp):Option (List Nx):=CN (λa=>yQ fu a cap0) x
def aK (fu:Nat) (s':Pp):Option (Nh×Bool):=((xV fu s'.Nh).bind λy=>if !y then some true else (vc fu s'.Ids s').bind λy2=>some y2).bind λc5=>if c5 then some (({ Nq:=({ Nv:=[],Nw:=[] }:Nq),Nz:=[] }:Nh),false) else (aj fu s'.Nh).bind λy3=>(vp fu y3.Nz s').bind λy4=>some (({ Nq:=y3.Nq,Nz:=y4 }:Nh),true)
def xG (fu:Nat) (a':Nq) (b':Nq):Nat->Int->Option (Out (Int) (Bool))
 | 0,_=>none
 | fk+1,i=>if decide (i<(a'.Nv.length:Int)) then (V_ a'.Nv i).bind λe=>(V_ b'.Nv i).bind λe2=>if !(e.toList==e2.toList) then some (.ret false) else xG fu a' b' fk (y_ (i+1)) else some (.next i)
def xF (fu:Nat) (a':Nq) (b':Nq):Nat->Int->Option (Out (Int) (Bool))
 | 0,_=>none
 | fk+1,i3=>if decide (i3<(a'.Nw.length:Int)) then (V_ a'.Nw i3).bind λe3=>(V_ b'.Nw i3).bind λe4=>if !(([e3.A,e3.B,e3.Px,e3.Pt]:List Int)==([e4.A,e4.B,e4.Px,e4.Pt]:List Int)) then some (.ret false) else xF fu a' b' fk (y_ (i3+1)) else some (.next i3)
def cr (fu:Nat) (a':Nq) (b':Nq):Option (Bool):=(if (a'.Nv.length:Int) != (b'.Nv.length:Int) then some true else some ((a'.Nw.length:Int) != (b'.Nw.length:Int))).bind λc5=>if c5 then some false else (xG fu a' b' fu 0).bind λout=>out.on some λz2=>(xF fu a' b' fu 0).bind λout=>out.on some λz=>some true
def bp (fu:Nat) (a':List Int) (b':List Int):Nat->Int->Option (Out (Int) (Bool))
 | 0,_=>none
 | fk+1,i=>if decide (i<(a'.length:Int)) then (V_ a' i).bind λe=>(V_ b' i).bind λe2=>if e != e2 then some (.ret false) else bp fu a' b' fk (y_ (i+1)) else some (.next i)
def fW (fu:Nat) (a':List Int) (b':List Int):Option (Bool):=if (a'.length:Int) != (b'.length:Int) then some false else (bp fu a' b' fu 0).bind λout=>out.on some λz=>some true
def fo (fu:Nat) (a':Nk) (b':Nk):Option (Bool):=(if a'.Np==b'.Np then (fW fu a'.Nw b'.Nw).bind λy=>some y else some false).bind λc3=>some c3
def cL (fu:Nat) (a':Nx) (b':Nx):Option (Bool):=(if a'.Id==b'.Id then if ([a'.Nj.Pk,a'.Nj.Pz]:List Int)==([b'.Nj.Pk,b'.Nj.Pz]:List Int) then (fo fu a'.Nk b'.Nk).bind λy=>some y else some false else some false).bind λc3=>some c3
def aw (fu:Nat) (a':Nh) (b':Nh):Nat->Int->Option (Out (Int) (Bool))
 | 0,_=>none
 | fk+1,i=>if decide (i<(a'.Nz.length:Int)) then (V_ a'.Nz i).bind λe=>(V_ b'.Nz i).bind λe2=>(cL fu e e2).bind λy2=>if !y2 then some (.ret false) else aw fu a' b' fk (y_ (i+1)) else some (.next i)
def eP (fu:Nat) (a':Nh) (b':Nh):Option (Bool):=((cr fu a'.Nq b'.Nq).bind λy=>if !y then some true else some ((a'.Nz.length:Int) != (b'.Nz.length:Int))).bind λc7=>if c7 then some false else (aw fu a' b' fu 0).bind λout=>out.on some λz=>some true
def ce (fu:Nat) (n':Nq) (formats:List Ng) (d':Nt):Option (Pg×Bool):=(dE fu n' formats d').bind λy=>(if !y.2 then some true else some ((y.1.length:Int)==0)).bind λc5=>if c5 then some (({ route:=({ Np:=0,Nw:=[] }:Nk),count:=0 }:Pg),false) else (dG fu y.1).bind λy2=>(V_ y2 0).bind λe=>some (e,true)
def yM (fu:Nat) (n':Nq) (formats:List Ng) (list:List Nt):Nat->List Int->Int->Option (Out (List Int×Int) (List Int×Bool))
 | 0,_,_=>none
 | fk+1,out',i=>if decide (i<(list.length:Int)) then (V_ list i).bind λe=>(ce fu n' formats e).bind λy3=>if !y3.2 then some (.ret ([],false)) else (xD fu y3.1).bind λy4=>(C_ out' [y4]).bind λl=>yM fu n' formats list fk l (y_ (i+1)) else some (.next (out',i))
def fq (fu:Nat) (n':Nq) (formats:List Ng) (list:List Nt):Option (List Int×Bool):=((xA fu formats).bind λy=>if !y then some true else (xY fu n' list).bind λy2=>some (!y2)).bind λc5=>if c5 then some ([],false) else (yM fu n' formats list fu ([]:List Int) 0).bind λout=>out.on some λz=>some (z.1,true)
def yi (fu:Nat) (l:List Int):Nat->Int->Int->Option (Int×Int)
 | 0,_,_=>none
 | fk+1,sum,i=>if decide (i<(l.length:Int)) then (V_ l i).bind λe=>yi fu l fk (y_ (sum+e)) (y_ (i+1)) else some (sum,i)
def dY (fu:Nat) (l:List Int):Option (Int):=(yi fu l fu 0 0).bind λz=>some z.1
def cy (fu:Nat) (n':Nq) (formats:List Ng) (list:List Nt):Option (Int×Bool):=(fq fu n' formats list).bind λy=>(dY fu y.1).bind λy2=>some (y2,y.2)
def ah (fu:Nat) (x1:U64):Option (Int):=(shrk 64 x1.n 1).bind λq=>(shrk 64 (wu64 ((xn q 6148914691236517205)+(xn x1.n 6148914691236517205))) 2).bind λq2=>(shrk 64 (wu64 ((xn q2 3689348814741910323)+(xn (wu64 ((xn q 6148914691236517205)+(xn x1.n 6148914691236517205))) 3689348814741910323))) 4).bind λq3=>(shrk 64 (xn (wu64 (q3+(wu64 ((xn q2 3689348814741910323)+(xn (wu64 ((xn q 6148914691236517205)+(xn x1.n 6148914691236517205))) 3689348814741910323))))) 1085102592571150095) 8).bind λq4=>(shrk 64 (wu64 ((xn (wu64 (q3+(wu64 ((xn q2 3689348814741910323)+(xn (wu64 ((xn q 6148914691236517205)+(xn x1.n 6148914691236517205))) 3689348814741910323))))) 1085102592571150095)+q4)) 16).bind λq5=>(shrk 64 (wu64 ((wu64 ((xn (wu64 (q3+(wu64 ((xn q2 3689348814741910323)+(xn (wu64 ((xn q 6148914691236517205)+(xn x1.n 6148914691236517205))) 3689348814741910323))))) 1085102592571150095)+q4))+q5)) 32).bind λq6=>some (band (y_ (wu64 ((wu64 ((wu64 ((xn (wu64 (q3+(wu64 ((xn q2 3689348814741910323)+(xn (wu64 ((xn q 6148914691236517205)+(xn x1.n 6148914691236517205))) 3689348814741910323))))) 1085102592571150095)+q4))+q5))+q6))) 127)
def yA (fu:Nat) (x1:U64):Option (Int):=(ah fu x1).bind λy=>some y
def zy (fu:Nat) (y2:List Int):Nat->Int->Int->Int->Option (Int×Int×Int)
 | 0,_,_,_=>none
 | fk+1,sum,all,i=>if decide (i<(y2.length:Int)) then (V_ y2 i).bind λe=>(yA fu (⟨wu64 e⟩:U64)).bind λy3=>zy fu y2 fk (y_ (sum+y3)) (D0 all e) (y_ (i+1)) else some (sum,all,i)
def aQ (fu:Nat) (p:Nh):Option (Int×Int×Bool):=(xV fu p).bind λy=>if !y then some (0,0,false) else (aJ fu p).bind λy2=>(zy fu y2 fu 0 0 0).bind λz=>(yA fu (⟨wu64 z.2.1⟩:U64)).bind λy4=>some (z.1,y4,true)
def xH (fu:Nat) (y2:Nh×List Ng×List Nt×Int) (y3:Pp×Bool):Nat->Int->Int->Option (Out (Int×Int) (Bool))
 | 0,_,_=>none
 | fk+1,blocked,i=>if decide (i<(y3.1.Ids.length:Int)) then (V_ y3.1.Ids i).bind λe=>if e==0 then xH fu y2 y3 fk (y_ (blocked+1)) (y_ (i+1)) else (V_ y3.1.Ids i).bind λe2=>(zQ fu y3.1.Nh e2).bind λy5=>if !y5.2 then some (.ret false) else (V_ y3.1.Nh.Nz y5.1).bind λe3=>(cc fu y2.1.Nq e3.Nk).bind λy6=>(if !y6.2 then some true else (V_ y6.1 0).bind λe4=>(V_ y2.2.2.1 i).bind λe5=>if e4 != e5.Rw then some true else (V_ y6.1 (y_ ((y6.1.length:Int) - 1))).bind λe6=>(V_ y2.2.2.1 i).bind λe7=>some (e6 != e7.To)).bind λc17=>if c17 then some (.ret false) else xH fu y2 y3 fk blocked (y_ (i+1)) else some (.next (blocked,i))
def dN (fu:Nat) (code:List By):Option (Bool):=(jH fu code).bind λy=>if y then some true else (aI fu code).bind λy2=>(di fu y2.1 y2.2.1 y2.2.2.1 y2.2.2.2).bind λy3=>(da fu y2.1 y2.2.1 y2.2.2.1 y2.2.2.2).bind λy4=>if y3.2 != y4.2 then some false else if !y3.2 then some ((y3.1.Ids.length:Int)==0) else (xH fu y2 y3 fu 0 0).bind λout=>out.on some λz=>(aK fu y3.1).bind λy7=>(if !y7.2 then some true else (eP fu y7.1 y2.1).bind λy8=>if !y8 then some true else if z.1 != y3.1.Rz then some true else if (y3.1.Ids.length:Int) != (y2.2.2.1.length:Int) then some true else (xV fu y3.1.Nh).bind λy9=>some (!y9)).bind λc21=>if c21 then some false else (cy fu y2.1.Nq y2.2.1 y2.2.2.1).bind λy10=>(aQ fu y2.1).bind λy11=>(aQ fu y3.1.Nh).bind λy12=>(if decide (z.1 > 0) then some true else if !y10.2 then some true else some (decide ((y_ (y12.1 - y11.1))>=y10.1))).bind λc22=>some c22
def cV (fu:Nat) (list:List Nx):Nat->List Nx->Int->Option (List Nx×Int)
 | 0,_,_=>none
 | fk+1,out',i=>if decide (i<(list.length:Int)) then (V_ list i).bind λe=>(bO fu e).bind λy=>(C_ out' [y]).bind λal=>cV fu list fk al (y_ (i+1)) else some (out',i)
def ic (fu:Nat) (list:List Nx):Option (List Nx):=(cV fu list fu ([]:List Nx) 0).bind λz=>some z.1
def kF (fu:Nat) (n':Nq) (r':Nk):Option (List Int):=(dv fu n' r').bind λy=>some y.1
def fR (fu:Nat) (n':Nq) (r':Nk):Option (Int):=(kF fu n' r').bind λy=>(V_ y (y_ ((y.length:Int) - 1))).bind λe=>some e
def gq (fu:Nat) (r':Pd):Option (Pd):=(cH fu r'.Nh).bind λy=>(ic fu r'.Rq).bind λy2=>(bD fu r'.Rv).bind λy3=>some ({ Nh:=y,Rq:=y2,Rv:=y3 }:Pd)
def cj (fu:Nat) (p:Nh) (id:Int):Nat->Int->Option (Out (Int) (Int))
 | 0,_=>none
 | fk+1,i=>if decide (i<(p.Nz.length:Int)) then (V_ p.Nz i).bind λe=>if e.Id==id then some (.ret i) else cj fu p id fk (y_ (i+1)) else some (.next i)
def gj (fu:Nat) (p:Nh) (id:Int):Option (Int):=(cj fu p id fu 0).bind λout=>out.on some λz=>some (-1)
def aa (fu:Nat) (r':Pd):Nat->List Int->Int->Option (List Int×Int)
 | 0,_,_=>none
 | fk+1,out',i=>if decide (i<(r'.Rq.length:Int)) then (V_ r'.Rq i).bind λe=>(gj fu r'.Nh e.Id).bind λy=>if decide (y<0) then (C_ out' [i]).bind λl=>aa fu r' fk l (y_ (i+1)) else aa fu r' fk out' (y_ (i+1)) else some (out',i)
def ia (fu:Nat) (r':Pd):Option (List Int):=(aa fu r' fu ([]:List Int) 0).bind λz=>some z.1
def i9 (fu:Nat) (n':Nq) (from':Int) (to:Int):Option (Bool):=((a7 fu n').bind λy=>if y then (xd fu from' 0 (y_ ((n'.Nv.length:Int) - 1))).bind λy2=>if y2 then (xd fu to 0 (y_ ((n'.Nv.length:Int) - 1))).bind λy3=>if y3 then some (from' != to) else some false else some false else some false).bind λc3=>some c3
def dL (fu:Nat) (n':Nq) (from':Int) (to:Int):Option (List Nk×Bool):=(i9 fu n' from' to).bind λy=>if !y then some (([]:List Nk),false) else (eo fu n' from' to).bind λy2=>some (y2.1,y2.2)
def zO (fu:Nat) (r':Pd) (home:Nx) (y6:List Nk×Bool):Nat->Int->Option (Out (Int) (Nx×Bool))
 | 0,_=>none
 | fk+1,i=>(if decide (i<(y6.1.length:Int)) then some y6.2 else some false).bind λc10=>if c10 then (V_ y6.1 i).bind λe=>(aX fu e r'.Rv).bind λy7=>if y7 then zO fu r' home y6 fk (y_ (i+1)) else (V_ y6.1 i).bind λe2=>(zR fu r'.Nh e2).bind λy8=>(cC fu y8 home.Nj.Pz).bind λy9=>if decide ((y9.length:Int) > 0) then (V_ y6.1 i).bind λe3=>(V_ y9 0).bind λe4=>(cI fu e3).bind λy10=>some (.ret (({ Id:=home.Id,Nk:=y10,Nj:=({ Pk:=e4,Pz:=home.Nj.Pz }:Nj) }:Nx),true)) else zO fu r' home y6 fk (y_ (i+1)) else some (.next i)
def gp (fu:Nat) (r':Pd) (home:Nx):Option (Nx×Bool):=((aX fu home.Nk r'.Rv).bind λy=>if !y then (zR fu r'.Nh home.Nk).bind λy2=>(zu fu home.Nj).bind λy3=>some ((band y2 y3)==0) else some false).bind λc7=>if c7 then (bO fu home).bind λy4=>some (y4,true) else (fR fu r'.Nh.Nq home.Nk).bind λy5=>(dL fu r'.Nh.Nq home.Nk.Np y5).bind λy6=>(zO fu r' home y6 fu 0).bind λout=>out.on some λz=>some (({ Id:=0,Nk:=({ Np:=0,Nw:=[] }:Nk),Nj:=({ Pk:=0,Pz:=0 }:Nj) }:Nx),false)
def cU (fu:Nat) (r':Pd) (i:Int):Option (Pd×Bool):=(V_ r'.Rq i).bind λe=>(gp fu r' e).bind λy=>(gq fu r').bind λy2=>if y.2 then (bC fu y2.Nh y.1).bind λy3=>some (({ Nh:=y3,Rq:=y2.Rq,Rv:=y2.Rv }:Pd),y.2) else some (y2,y.2)
def bG (fu:Nat) (r':Pd) (y2:List Int):Nat->List Int->Int->List ByteArray->List Pq->List Nx->List Nx->List Int->Option (List Int×Int×List ByteArray×List Pq×List Nx×List Nx×List Int)
 | 0,_,_,_,_,_,_,_=>none
 | fk+1,ids,i,m,m2,m3,m4,m5=>if decide (i<(y2.length:Int)) then (V_ y2 i).bind λe=>(cU fu ({ Nh:=({ Nq:=({ Nv:=m,Nw:=m2 }:Nq),Nz:=m3 }:Nh),Rq:=m4,Rv:=m5 }:Pd) e).bind λy3=>if y3.2 then (V_ y2 i).bind λe2=>(V_ r'.Rq e2).bind λe3=>(C_ ids [e3.Id]).bind λl=>bG fu r' y2 fk l (y_ (i+1)) y3.1.Nh.Nq.Nv y3.1.Nh.Nq.Nw y3.1.Nh.Nz y3.1.Rq y3.1.Rv else bG fu r' y2 fk ids (y_ (i+1)) y3.1.Nh.Nq.Nv y3.1.Nh.Nq.Nw y3.1.Nh.Nz y3.1.Rq y3.1.Rv else some (ids,i,m,m2,m3,m4,m5)
def jb (fu:Nat) (r':Pd):Option (Pd×List Int):=(gq fu r').bind λy=>(ia fu r').bind λy2=>(bG fu r' y2 fu ([]:List Int) 0 y.Nh.Nq.Nv y.Nh.Nq.Nw y.Nh.Nz y.Rq y.Rv).bind λz=>some (({ Nh:=({ Nq:=({ Nv:=z.2.2.1,Nw:=z.2.2.2.1 }:Nq),Nz:=z.2.2.2.2.1 }:Nh),Rq:=z.2.2.2.2.2.1,Rv:=z.2.2.2.2.2.2 }:Pd),z.1)
end AT
namespace AT
def FL (x:By):Prop:=(0≤x.n∧x.n≤255)
def Dr (x:List By):Prop:=((∀ e∈x,FL e)∧x.length≤9223372036854775807)
end AT
