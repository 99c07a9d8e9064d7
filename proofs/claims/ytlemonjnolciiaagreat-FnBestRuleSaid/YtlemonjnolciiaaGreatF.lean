/- The Go functions told plainly, by program (gen.py). -/
import Derived.Test.YtlemonjnolciiaaGreatAtPI
set_option linter.unusedVariables false
namespace AT
structure Np where
  code:List By
  at_:Int
  seed:U64
  deriving DecidableEq
structure Pq where
  A:Int
  B:Int
  Pg:Int
  Pp:Int
  deriving DecidableEq
structure Nq where
  Nv:List ByteArray
  Nw:List Pq
  deriving DecidableEq
structure Nz where
  Nt:Int
  Nw:List Int
  deriving DecidableEq
structure Nj where
  Pk:Int
  Pz:Int
  deriving DecidableEq
structure Nx where
  Id:Int
  Nz:Nz
  Nj:Nj
  deriving DecidableEq
structure Nh where
  Nq:Nq
  Nk:List Nx
  deriving DecidableEq
structure Ng where
  Reach:Int
  Ph:Int
  deriving DecidableEq
structure Nd where
  Pt:Int
  To:Int
  Ph:Int
  Rk:Int
  deriving DecidableEq
structure Rq where
  Nh:Nh
  Ids:List Int
  Rw:Int
  deriving DecidableEq
structure Px where
  route:Nz
  count:Int
  deriving DecidableEq
structure Pj where
  n:Nq
  to:Int
  list:List Nz
  deriving DecidableEq
structure Pd where
  Nh:Nh
  Rz:List Nx
  Rv:List Int
  deriving DecidableEq
structure Action where
  Kind:Int
  Nx:Nx
  deriving DecidableEq
structure L20SearchP where
  list:List Action
  failed:List Bool
  deriving DecidableEq
structure FiberEvent where
  Fail:Bool
  Nw:List Int
  deriving DecidableEq
def ju (fu:Nat) (code:List By):Option (Bool):=some (decide ((code.length:Int) > 65536))
def aF (fu:Nat) (c:Np):Option (Int×Np):=if decide (c.at_<(c.code.length:Int)) then (V_ c.code c.at_).bind λe=>if decide ((y_ (c.at_+1))<=(c.code.length:Int)) then some (y_ e.n,(⟨c.code,y_ (c.at_+1),(⟨wu64 ((wu64 ((wu64 (c.seed.n * 6364136223846793005))+(wu64 (y_ e.n))))+897897)⟩:U64)⟩:Np)) else (shrk 64 (wu64 ((wu64 ((wu64 (c.seed.n * 6364136223846793005))+(wu64 (y_ e.n))))+897897)) 40).bind λq=>some (y_ (jG q 255),(⟨c.code,y_ (c.at_+1),(⟨wu64 ((wu64 ((wu64 (c.seed.n * 6364136223846793005))+(wu64 (y_ e.n))))+897897)⟩:U64)⟩:Np)) else if decide ((y_ (c.at_+1))<=(c.code.length:Int)) then some (0,(⟨c.code,y_ (c.at_+1),(⟨wu64 ((wu64 ((wu64 (c.seed.n * 6364136223846793005))+(wu64 0)))+897897)⟩:U64)⟩:Np)) else (shrk 64 (wu64 ((wu64 ((wu64 (c.seed.n * 6364136223846793005))+(wu64 0)))+897897)) 40).bind λq2=>some (y_ (jG q2 255),(⟨c.code,y_ (c.at_+1),(⟨wu64 ((wu64 ((wu64 (c.seed.n * 6364136223846793005))+(wu64 0)))+897897)⟩:U64)⟩:Np))
def um (fu:Nat) (c:Np) (n':Int):Option (Int×Np):=if decide (n'<=1) then some (0,c) else (aF fu c).bind λy=>if decide (n' > 200) then (aF fu y.2).bind λy2=>(rem (y_ ((y_ (y.1 * 256))+y2.1)) n').bind λq=>some (q,y2.2) else (rem y.1 n').bind λq2=>some (q2,y.2)
def xJ (fu:Nat) (c:Np) (n':Int):Option (Bool×Np):=(um fu c n').bind λy=>some (y.1==0,y.2)
def cM (fu:Nat) (a':Int) (b':Int):Option (Int):=if decide (a'<b') then some a' else some b'
def dx (fu:Nat) (a':Int) (b':Int):Option (Int):=if decide (a' > b') then some a' else some b'
def vn (fu:Nat) (c:Np) (list:List Int):Option (Int×Np):=(um fu c (list.length:Int)).bind λy=>(V_ list y.1).bind λe=>some (e,y.2)
def cc (fu:Nat) (f:Pq) (g':Pq):Option (Int):=if f.A != g'.A then some (y_ (f.A - g'.A)) else if f.B != g'.B then some (y_ (f.B - g'.B)) else if f.Pg != g'.Pg then some (y_ (f.Pg - g'.Pg)) else some (y_ (f.Pp - g'.Pp))
def ba (fu:Nat) (list:List Pq) (f:Pq):Nat->Int->Option (Int)
 | 0,_=>none
 | fk+1,i=>(if decide (i<(list.length:Int)) then (V_ list i).bind λe=>(cc fu e f).bind λy=>some (decide (y<=0)) else some false).bind λc2=>if c2 then ba fu list f fk (y_ (i+1)) else some i
def ej (fu:Nat) (list:List Pq) (f:Pq):Option (List Pq):=(ba fu list f fu 0).bind λz=>(sub list 0 z).bind λl=>(sub list z (list.length:Int)).bind λl2=>(M_ ([]:List Pq) l).bind λl3=>(M_ l3 [f]).bind λl4=>(M_ l4 l2).bind λl5=>some l5
def vM (fu:Nat) (y:Int×Np):Nat->Int->List By->Int->U64->List Pq->Option (Int×List By×Int×U64×List Pq)
 | 0,_,_,_,_,_=>none
 | fk+1,i,m,m2,m3,m4=>if decide (i<(y_ (2+y.1))) then (rem (y_ (i+1)) (y_ (2+y.1))).bind λq=>if i==q then vM fu y fk (y_ (i+1)) m m2 m3 m4 else (xJ fu (⟨m,m2,m3⟩:Np) 10).bind λy2=>if y2.1 then vM fu y fk (y_ (i+1)) y2.2.code y2.2.at_ y2.2.seed m4 else (cM fu i q).bind λy3=>(dx fu i q).bind λy4=>(um fu y2.2 8).bind λy5=>(vn fu y5.2 [0,0,0,1,2]).bind λy6=>(ej fu m4 ({ A:=y3,B:=y4,Pg:=y_ (100 * (y_ (1+y5.1))),Pp:=y6.1 }:Pq)).bind λy7=>vM fu y fk (y_ (i+1)) y6.2.code y6.2.at_ y6.2.seed y7 else some (i,m,m2,m3,m4)
def xm (fu:Nat) (y:Int×Np):Nat->Int->List Pq->List By->Int->U64->Option (Int×List Pq×List By×Int×U64)
 | 0,_,_,_,_,_=>none
 | fk+1,m9,m10,m11,m12,m13=>if decide (m9 > 0) then (um fu (⟨m11,m12,m13⟩:Np) (y_ (2+y.1))).bind λy9=>(um fu y9.2 (y_ (2+y.1))).bind λy10=>if y9.1 != y10.1 then (cM fu y9.1 y10.1).bind λy11=>(dx fu y9.1 y10.1).bind λy12=>(um fu y10.2 8).bind λy13=>(vn fu y13.2 [0,0,0,1,2]).bind λy14=>(ej fu m10 ({ A:=y11,B:=y12,Pg:=y_ (100 * (y_ (1+y13.1))),Pp:=y14.1 }:Pq)).bind λy15=>xm fu y fk (y_ (m9 - 1)) y15 y14.2.code y14.2.at_ y14.2.seed else xm fu y fk (y_ (m9 - 1)) m10 y10.2.code y10.2.at_ y10.2.seed else some (m9,m10,m11,m12,m13)
def yO (fu:Nat) (c:Np):Option (Nq×Np):=(um fu c 5).bind λy=>(sub [(⟨#[97]⟩:ByteArray),(⟨#[98]⟩:ByteArray),(⟨#[99]⟩:ByteArray),(⟨#[100]⟩:ByteArray),(⟨#[101]⟩:ByteArray),(⟨#[102]⟩:ByteArray)] 0 (y_ (2+y.1))).bind λl=>(vM fu y fu 0 y.2.code y.2.at_ y.2.seed []).bind λz2=>(um fu (⟨z2.2.1,z2.2.2.1,z2.2.2.2.1⟩:Np) 4).bind λy8=>(xm fu y fu y8.1 z2.2.2.2.2 y8.2.code y8.2.at_ y8.2.seed).bind λz=>some (({ Nv:=l,Nw:=z.2.1 }:Nq),(⟨z.2.2.1,z.2.2.2.1,z.2.2.2.2⟩:Np))
def aG (fu:Nat) (c:Np):Option (Nq×Np):=(yO fu c).bind λy=>if (y.1.Nw.length:Int)==0 then (M_ y.1.Nw [({ A:=0,B:=1,Pg:=100,Pp:=0 }:Pq)]).bind λl=>some (({ Nv:=y.1.Nv,Nw:=l }:Nq),y.2) else some (y.1,y.2)
def yK (fu:Nat) (n':Nq) (fiber:Int) (node:Int):Option (Int):=(V_ n'.Nw fiber).bind λe=>if node==e.A then some e.B else if node==e.B then some e.A else some (-1)
def ab (fu:Nat) (l:List Int) (n':Int):Nat->Int->Option (Out (Int) (Bool))
 | 0,_=>none
 | fk+1,i=>if decide (i<(l.length:Int)) then (V_ l i).bind λe=>if e==n' then some (.ret true) else ab fu l n' fk (y_ (i+1)) else some (.next i)
def bG (fu:Nat) (l:List Int) (n':Int):Option (Bool):=(ab fu l n' fu 0).bind λout=>out.on some λz=>some false
def vS (fu:Nat) (n':Nq) (y:Int×Np) (seen:List Int):Nat->List Int->Int->Option (List Int×Int)
 | 0,_,_=>none
 | fk+1,list,i=>if decide (i<(n'.Nw.length:Int)) then (V_ seen (y_ ((seen.length:Int) - 1))).bind λe=>(yK fu n' i e).bind λy3=>(if decide (y3>=0) then (bG fu seen y3).bind λy4=>some (!y4) else some false).bind λc10=>if c10 then (M_ list [i]).bind λl=>vS fu n' y seen fk l (y_ (i+1)) else vS fu n' y seen fk list (y_ (i+1)) else some (list,i)
def x9 (fu:Nat) (n':Nq) (y:Int×Np):Nat->List Int->Int->List Int->List By->Int->U64->Option (List Int×Int×List Int×List By×Int×U64)
 | 0,_,_,_,_,_,_=>none
 | fk+1,seen,m,m2,m3,m4,m5=>if decide (m > 0) then (vS fu n' y seen fu ([]:List Int) 0).bind λz=>if (z.1.length:Int)==0 then some (seen,m,m2,m3,m4,m5) else (um fu (⟨m3,m4,m5⟩:Np) (z.1.length:Int)).bind λy5=>(V_ z.1 y5.1).bind λe2=>(M_ m2 [e2]).bind λl2=>(V_ seen (y_ ((seen.length:Int) - 1))).bind λe3=>(yK fu n' e2 e3).bind λy6=>(M_ seen [y6]).bind λl3=>x9 fu n' y fk l3 (y_ (m - 1)) l2 y5.2.code y5.2.at_ y5.2.seed else some (seen,m,m2,m3,m4,m5)
def zW (fu:Nat) (c:Np) (n':Nq):Option (Nz×Np):=(um fu c (n'.Nv.length:Int)).bind λy=>(um fu y.2 4).bind λy2=>(x9 fu n' y fu [y.1] (y_ (1+y2.1)) ([]:List Int) y2.2.code y2.2.at_ y2.2.seed).bind λz2=>some (({ Nt:=y.1,Nw:=z2.2.2.1 }:Nz),(⟨z2.2.2.2.1,z2.2.2.2.2.1,z2.2.2.2.2.2⟩:Np))
def aC (fu:Nat) (c:Np) (n':Nq):Option (Nz×Np):=(zW fu c n').bind λy=>if (y.1.Nw.length:Int)==0 then (V_ n'.Nw 0).bind λe=>some (({ Nt:=e.A,Nw:=[0] }:Nz),y.2) else some (y.1,y.2)
def zD (fu:Nat) (b':Nj):Option (Int):=(shl 1 (wu64 b'.Pz)).bind λq=>(shl (y_ (q - 1)) (wu64 b'.Pk)).bind λq2=>some q2
def zj (fu:Nat) (p:Nh) (fiber:Int):Nat->Int->Int->Option (Int×Int)
 | 0,_,_=>none
 | fk+1,out',i=>if decide (i<(p.Nk.length:Int)) then (V_ p.Nk i).bind λe=>(bG fu e.Nz.Nw fiber).bind λy=>if y then (V_ p.Nk i).bind λe2=>(zD fu e2.Nj).bind λy2=>zj fu p fiber fk (Z1 out' y2) (y_ (i+1)) else zj fu p fiber fk out' (y_ (i+1)) else some (out',i)
def ep (fu:Nat) (p:Nh) (fiber:Int):Option (Int):=(zj fu p fiber fu 0 0).bind λz=>some z.1
def zA (fu:Nat) (p:Nh) (r':Nz):Nat->Int->Int->Option (Int×Int)
 | 0,_,_=>none
 | fk+1,out',i=>if decide (i<(r'.Nw.length:Int)) then (V_ r'.Nw i).bind λe=>(ep fu p e).bind λy=>zA fu p r' fk (Z1 out' y) (y_ (i+1)) else some (out',i)
def zZ (fu:Nat) (p:Nh) (r':Nz):Option (Int):=(zA fu p r' fu 0 0).bind λz=>some z.1
def zl (fu:Nat) (mask:Int) (count:Int):Nat->List Int->Int->Option (List Int×Int)
 | 0,_,_=>none
 | fk+1,out',s'=>if decide ((y_ (s' + count))<=24) then (zD fu ({ Pk:=s',Pz:=count }:Nj)).bind λy=>if (band mask y)==0 then (M_ out' [s']).bind λl=>zl fu mask count fk l (y_ (s' + 1)) else zl fu mask count fk out' (y_ (s' + 1)) else some (out',s')
def cD (fu:Nat) (mask:Int) (count:Int):Option (List Int):=(zl fu mask count fu ([]:List Int) 0).bind λz=>some z.1
def ip (fu:Nat) (n':Nq):Option (Nq):=(M_ ([]:List ByteArray) n'.Nv).bind λl=>(M_ ([]:List Pq) n'.Nw).bind λl2=>some ({ Nv:=l,Nw:=l2 }:Nq)
def bE (fu:Nat) (l:List Int):Option (List Int):=(M_ ([]:List Int) l).bind λl2=>some l2
def cL (fu:Nat) (r':Nz):Option (Nz):=(bE fu r'.Nw).bind λy=>some ({ Nt:=r'.Nt,Nw:=y }:Nz)
def bS (fu:Nat) (x1:Nx):Option (Nx):=(cL fu x1.Nz).bind λy=>some ({ Id:=x1.Id,Nz:=y,Nj:=x1.Nj }:Nx)
def aY (fu:Nat) (p:Nh):Nat->Int->List Nx->Option (Int×List Nx)
 | 0,_,_=>none
 | fk+1,i,m=>if decide (i<(p.Nk.length:Int)) then (V_ p.Nk i).bind λe=>(bS fu e).bind λy2=>(M_ m [y2]).bind λal=>aY fu p fk (y_ (i+1)) al else some (i,m)
def cK (fu:Nat) (p:Nh):Option (Nh):=(ip fu p.Nq).bind λy=>(aY fu p fu 0 ([]:List Nx)).bind λz=>some ({ Nq:=y,Nk:=z.2 }:Nh)
def aW (fu:Nat) (x1:Nx) (y:Nh):Nat->Int->Option (Int)
 | 0,_=>none
 | fk+1,i=>(if decide (i<(y.Nk.length:Int)) then (V_ y.Nk i).bind λe=>some (decide (e.Id<x1.Id)) else some false).bind λc8=>if c8 then aW fu x1 y fk (y_ (i+1)) else some i
def bD (fu:Nat) (p:Nh) (x1:Nx):Option (Nh):=(cK fu p).bind λy=>(aW fu x1 y fu 0).bind λz=>(sub y.Nk 0 z).bind λl=>(sub y.Nk z (y.Nk.length:Int)).bind λl2=>(M_ ([]:List Nx) l).bind λl3=>(bS fu x1).bind λy2=>(M_ l3 [y2]).bind λl4=>(M_ l4 l2).bind λl5=>some ({ Nq:=y.Nq,Nk:=l5 }:Nh)
def xi (fu:Nat):Nat->Int->List ByteArray->List Pq->List Nx->List By->Int->U64->Option (Int×List ByteArray×List Pq×List Nx×List By×Int×U64)
 | 0,_,_,_,_,_,_,_=>none
 | fk+1,n',m,m2,m3,m4,m5,m6=>if decide (n' > 0) then (aC fu (⟨m4,m5,m6⟩:Np) ({ Nv:=m,Nw:=m2 }:Nq)).bind λy3=>(um fu y3.2 5).bind λy4=>(zZ fu ({ Nq:=({ Nv:=m,Nw:=m2 }:Nq),Nk:=m3 }:Nh) y3.1).bind λy5=>(cD fu y5 (y_ (1+y4.1))).bind λy6=>if decide ((y6.length:Int) > 0) then (V_ y6 0).bind λe=>(xJ fu y4.2 2).bind λy7=>if y7.1 then (um fu y7.2 (y6.length:Int)).bind λy8=>(V_ y6 y8.1).bind λe2=>(um fu y8.2 3).bind λy9=>(bD fu ({ Nq:=({ Nv:=m,Nw:=m2 }:Nq),Nk:=m3 }:Nh) ({ Id:=y_ ((y_ ((y_ ((m3.length:Int) * 3))+1))+y9.1),Nz:=y3.1,Nj:=({ Pk:=e2,Pz:=y_ (1+y4.1) }:Nj) }:Nx)).bind λy10=>xi fu fk (y_ (n' - 1)) y10.Nq.Nv y10.Nq.Nw y10.Nk y9.2.code y9.2.at_ y9.2.seed else (um fu y7.2 3).bind λy11=>(bD fu ({ Nq:=({ Nv:=m,Nw:=m2 }:Nq),Nk:=m3 }:Nh) ({ Id:=y_ ((y_ ((y_ ((m3.length:Int) * 3))+1))+y11.1),Nz:=y3.1,Nj:=({ Pk:=e,Pz:=y_ (1+y4.1) }:Nj) }:Nx)).bind λy12=>xi fu fk (y_ (n' - 1)) y12.Nq.Nv y12.Nq.Nw y12.Nk y11.2.code y11.2.at_ y11.2.seed else xi fu fk (y_ (n' - 1)) m m2 m3 y4.2.code y4.2.at_ y4.2.seed else some (n',m,m2,m3,m4,m5,m6)
def bU (fu:Nat) (c:Np):Option (Nh×Np):=(aG fu c).bind λy=>(um fu y.2 9).bind λy2=>(xi fu fu y2.1 y.1.Nv y.1.Nw ([]:List Nx) y2.2.code y2.2.at_ y2.2.seed).bind λz=>some (({ Nq:=({ Nv:=z.2.1,Nw:=z.2.2.1 }:Nq),Nk:=z.2.2.2.1 }:Nh),(⟨z.2.2.2.2.1,z.2.2.2.2.2.1,z.2.2.2.2.2.2⟩:Np))
def bz (fu:Nat) (c:Np):Option (Nj×Np):=(xJ fu c 12).bind λy=>if y.1 then (um fu y.2 26).bind λy2=>(um fu y2.2 27).bind λy3=>some (({ Pk:=y_ (y2.1 - 1),Pz:=y_ (y3.1 - 1) }:Nj),y3.2) else (um fu y.2 6).bind λy4=>(um fu y4.2 (y_ ((y_ (24 - (y_ (1+y4.1))))+1))).bind λy5=>some (({ Pk:=y5.1,Pz:=y_ (1+y4.1) }:Nj),y5.2)
def zF (fu:Nat) (c:Np) (n':Nq):Option (Nz×Np):=(zW fu c n').bind λy=>(um fu y.2 16).bind λy2=>if y2.1==0 then (um fu y2.2 8).bind λy3=>some (({ Nt:=y_ (y3.1 - 1),Nw:=y.1.Nw }:Nz),y3.2) else if y2.1==1 then (um fu y2.2 8).bind λy4=>(M_ y.1.Nw [y_ (y4.1 - 1)]).bind λl=>some (({ Nt:=y.1.Nt,Nw:=l }:Nz),y4.2) else if y2.1==2 then some (({ Nt:=y.1.Nt,Nw:=([]:List Int) }:Nz),y2.2) else if y2.1==3 then if decide ((y.1.Nw.length:Int) > 1) then (V_ y.1.Nw (y_ ((y.1.Nw.length:Int) - 1))).bind λe=>(M_ y.1.Nw [e]).bind λl2=>some (({ Nt:=y.1.Nt,Nw:=l2 }:Nz),y2.2) else some (y.1,y2.2) else some (y.1,y2.2)
def cT (fu:Nat) (c:Np) (list:List ByteArray):Option (ByteArray×Np):=(um fu c (list.length:Int)).bind λy=>(V_ list y.1).bind λe=>some (e,y.2)
def xg (fu:Nat):Nat->List Pq->List By->Int->U64->Option (List Pq×List By×Int×U64)
 | 0,_,_,_,_=>none
 | fk+1,m10,m11,m12,m13=>(um fu (⟨m11,m12,m13⟩:Np) 2).bind λy9=>if decide ((m10.length:Int)<(y_ (14+y9.1))) then (V_ m10 (y_ ((m10.length:Int) - 1))).bind λe4=>(M_ m10 [e4]).bind λl2=>xg fu fk l2 y9.2.code y9.2.at_ y9.2.seed else some (m10,y9.2.code,y9.2.at_,y9.2.seed)
def yL (fu:Nat) (c:Np):Option (Nq×Np):=(yO fu c).bind λy=>if (y.1.Nw.length:Int)==0 then some (y.1,y.2) else (um fu y.2 (y.1.Nw.length:Int)).bind λy2=>(V_ y.1.Nw y2.1).bind λe=>(um fu y2.2 24).bind λy3=>(if y3.1==0 then (cT fu y3.2 [(⟨#[98]⟩:ByteArray),ByteArray.empty,(⟨#[65]⟩:ByteArray),(⟨#[97,98,99,100,101,102,103,104]⟩:ByteArray),(⟨#[97,98,99,100,101,102,103,104,105]⟩:ByteArray),(⟨#[120,49]⟩:ByteArray)]).bind λy4=>(V_ y.1.Nv 0).bind λe2=>some (.next (y.1.Nv.set (0:Int).toNat y4.1,y4.2.code,y4.2.at_,y4.2.seed,e.A,e.B,e.Pg,e.Pp,y.1.Nw)) else if y3.1==1 then (um fu y3.2 8).bind λy5=>some (.next (y.1.Nv,y5.2.code,y5.2.at_,y5.2.seed,y_ (y5.1 - 1),e.B,e.Pg,e.Pp,y.1.Nw)) else if y3.1==2 then (um fu y3.2 10).bind λy6=>some (.next (y.1.Nv,y6.2.code,y6.2.at_,y6.2.seed,e.A,y_ (y6.1 - 1),e.Pg,e.Pp,y.1.Nw)) else if y3.1==3 then (vn fu y3.2 [0,1,5000,5001]).bind λy7=>some (.next (y.1.Nv,y7.2.code,y7.2.at_,y7.2.seed,e.A,e.B,y7.1,e.Pp,y.1.Nw)) else if y3.1==4 then (vn fu y3.2 [(-1),9,10]).bind λy8=>some (.next (y.1.Nv,y8.2.code,y8.2.at_,y8.2.seed,e.A,e.B,e.Pg,y8.1,y.1.Nw)) else if y3.1==5 then (V_ y.1.Nw 0).bind λe3=>(M_ y.1.Nw [e3]).bind λl=>some (.next (y.1.Nv,y3.2.code,y3.2.at_,y3.2.seed,e.A,e.B,e.Pg,e.Pp,l)) else if y3.1==6 then (xg fu fu y.1.Nw y3.2.code y3.2.at_ y3.2.seed).bind λz=>some (.ret (({ Nv:=y.1.Nv,Nw:=z.1 }:Nq),(⟨z.2.1,z.2.2.1,z.2.2.2⟩:Np))) else if y3.1==7 then (M_ y.1.Nv [(⟨#[112]⟩:ByteArray),(⟨#[113]⟩:ByteArray),(⟨#[114]⟩:ByteArray),(⟨#[115]⟩:ByteArray)]).bind λl3=>some (.next (l3,y3.2.code,y3.2.at_,y3.2.seed,e.A,e.B,e.Pg,e.Pp,y.1.Nw)) else some (.next (y.1.Nv,y3.2.code,y3.2.at_,y3.2.seed,e.A,e.B,e.Pg,e.Pp,y.1.Nw)):Option (Out (List ByteArray×List By×Int×U64×Int×Int×Int×Int×List Pq) (Nq×Np))).bind λout=>out.on some λz2=>(V_ z2.2.2.2.2.2.2.2.2 y2.1).bind λe5=>some (({ Nv:=z2.1,Nw:=z2.2.2.2.2.2.2.2.2.set (y2.1:Int).toNat ({ A:=z2.2.2.2.2.1,B:=z2.2.2.2.2.2.1,Pg:=z2.2.2.2.2.2.2.1,Pp:=z2.2.2.2.2.2.2.2.1 }:Pq) }:Nq),(⟨z2.2.1,z2.2.2.1,z2.2.2.2.1⟩:Np))
def xG (fu:Nat) (y:Nh×Np):Nat->Int->List Nx->List By->Int->U64->Option (Int×List Nx×List By×Int×U64)
 | 0,_,_,_,_,_=>none
 | fk+1,n',m12,m13,m14,m15=>(um fu (⟨m13,m14,m15⟩:Np) 2).bind λy8=>if decide ((m12.length:Int)<(y_ (12+y8.1))) then if decide (n'<14) then (V_ y.1.Nq.Nw 0).bind λe2=>(M_ m12 [({ Id:=y_ (500+n'),Nz:=({ Nt:=e2.A,Nw:=[0] }:Nz),Nj:=({ Pk:=y_ (23 - n'),Pz:=1 }:Nj) }:Nx)]).bind λl2=>xG fu y fk (y_ (n' + 1)) l2 y8.2.code y8.2.at_ y8.2.seed else some (n',m12,y8.2.code,y8.2.at_,y8.2.seed) else some (n',m12,y8.2.code,y8.2.at_,y8.2.seed)
def ah (fu:Nat) (c:Np):Option (Nh×Np):=(bU fu c).bind λy=>if (y.1.Nk.length:Int)==0 then some (y.1,y.2) else (um fu y.2 (y.1.Nk.length:Int)).bind λy2=>(V_ y.1.Nk y2.1).bind λe=>(um fu y2.2 24).bind λy3=>(if y3.1==0 then (vn fu y3.2 [0,999,1000,1,4]).bind λy4=>some (.next (y4.1,y4.2.code,y4.2.at_,y4.2.seed,e.Nj.Pk,e.Nj.Pz,e.Nz.Nt,e.Nz.Nw,y.1.Nk,y.1.Nq.Nv,y.1.Nq.Nw)) else if y3.1==1 then (bz fu y3.2).bind λy5=>some (.next (e.Id,y5.2.code,y5.2.at_,y5.2.seed,y5.1.Pk,y5.1.Pz,e.Nz.Nt,e.Nz.Nw,y.1.Nk,y.1.Nq.Nv,y.1.Nq.Nw)) else if y3.1==2 then (zF fu y3.2 y.1.Nq).bind λy6=>some (.next (e.Id,y6.2.code,y6.2.at_,y6.2.seed,e.Nj.Pk,e.Nj.Pz,y6.1.Nt,y6.1.Nw,y.1.Nk,y.1.Nq.Nv,y.1.Nq.Nw)) else if y3.1==3 then (M_ y.1.Nk [e]).bind λl=>some (.next (e.Id,y3.2.code,y3.2.at_,y3.2.seed,e.Nj.Pk,e.Nj.Pz,e.Nz.Nt,e.Nz.Nw,l,y.1.Nq.Nv,y.1.Nq.Nw)) else if y3.1==4 then (yL fu y3.2).bind λy7=>some (.next (e.Id,y7.2.code,y7.2.at_,y7.2.seed,e.Nj.Pk,e.Nj.Pz,e.Nz.Nt,e.Nz.Nw,y.1.Nk,y7.1.Nv,y7.1.Nw)) else if y3.1==5 then (xG fu y fu 0 y.1.Nk y3.2.code y3.2.at_ y3.2.seed).bind λz=>some (.ret (({ Nq:=y.1.Nq,Nk:=z.2.1 }:Nh),(⟨z.2.2.1,z.2.2.2.1,z.2.2.2.2⟩:Np))) else some (.next (e.Id,y3.2.code,y3.2.at_,y3.2.seed,e.Nj.Pk,e.Nj.Pz,e.Nz.Nt,e.Nz.Nw,y.1.Nk,y.1.Nq.Nv,y.1.Nq.Nw)):Option (Out (Int×List By×Int×U64×Int×Int×Int×List Int×List Nx×List ByteArray×List Pq) (Nh×Np))).bind λout=>out.on some λz2=>(V_ z2.2.2.2.2.2.2.2.2.1 y2.1).bind λe3=>some (({ Nq:=({ Nv:=z2.2.2.2.2.2.2.2.2.2.1,Nw:=z2.2.2.2.2.2.2.2.2.2.2 }:Nq),Nk:=z2.2.2.2.2.2.2.2.2.1.set (y2.1:Int).toNat ({ Id:=z2.1,Nz:=({ Nt:=z2.2.2.2.2.2.2.1,Nw:=z2.2.2.2.2.2.2.2.1 }:Nz),Nj:=({ Pk:=z2.2.2.2.2.1,Pz:=z2.2.2.2.2.2.1 }:Nj) }:Nx) }:Nh),(⟨z2.2.1,z2.2.2.1,z2.2.2.2.1⟩:Np))
def vp (fu:Nat):Nat->List Ng->Int->List By->Int->U64->Option (List Ng×Int×List By×Int×U64)
 | 0,_,_,_,_,_=>none
 | fk+1,l4,k',m6,m7,m8=>(um fu (⟨m6,m7,m8⟩:Np) 2).bind λy7=>if decide ((l4.length:Int)<(y_ (6+y7.1))) then (M_ l4 [({ Reach:=y_ (200 - (y_ (10 * k'))),Ph:=y_ (90+k') }:Ng)]).bind λl5=>vp fu fk l5 (y_ (k' + 1)) y7.2.code y7.2.at_ y7.2.seed else some (l4,k',y7.2.code,y7.2.at_,y7.2.seed)
def ac (fu:Nat) (c:Np):Option (List Ng×Np):=(um fu c 4).bind λy=>(sub [({ Reach:=3000,Ph:=10 }:Ng),({ Reach:=1200,Ph:=20 }:Ng),({ Reach:=600,Ph:=40 }:Ng),({ Reach:=250,Ph:=80 }:Ng)] 0 (y_ (1+y.1))).bind λl=>(xJ fu y.2 3).bind λy2=>(if y2.1 then some (decide ((l.length:Int) > 1)) else some false).bind λc5=>(if c5 then (sub l 1 (l.length:Int)).bind λcl=>some cl else some l).bind λz3=>(um fu y2.2 (z3.length:Int)).bind λy3=>(V_ z3 y3.1).bind λe=>(um fu y3.2 24).bind λy4=>(if y4.1==0 then (vn fu y4.2 [0,20000,20001,250]).bind λy5=>some (.next (y5.1,y5.2.code,y5.2.at_,y5.2.seed,e.Ph)) else if y4.1==1 then (vn fu y4.2 [0,1000,1001,10]).bind λy6=>some (.next (e.Reach,y6.2.code,y6.2.at_,y6.2.seed,y6.1)) else if y4.1==2 then some (.ret (([]:List Ng),y4.2)) else if y4.1==3 then (vp fu fu z3 0 y4.2.code y4.2.at_ y4.2.seed).bind λz=>some (.ret (z.1,(⟨z.2.2.1,z.2.2.2.1,z.2.2.2.2⟩:Np))) else some (.next (e.Reach,y4.2.code,y4.2.at_,y4.2.seed,e.Ph)):Option (Out (Int×List By×Int×U64×Int) (List Ng×Np))).bind λout=>out.on some λz2=>(V_ z3 y3.1).bind λe2=>some (z3.set (y3.1:Int).toNat ({ Reach:=z2.1,Ph:=z2.2.2.2.2 }:Ng),(⟨z2.2.1,z2.2.2.1,z2.2.2.2.1⟩:Np))
def aH (fu:Nat) (c:Np) (n':Nq):Option (Nd×Np):=(um fu c (n'.Nv.length:Int)).bind λy=>(um fu y.2 (y_ ((n'.Nv.length:Int) - 1))).bind λy2=>(rem (y_ ((y_ (y.1+1))+y2.1)) (n'.Nv.length:Int)).bind λq=>(vn fu y2.2 [10,20,40,50,90,120]).bind λy3=>(um fu y3.2 3).bind λy4=>(um fu y4.2 48).bind λy5=>if y5.1==0 then (um fu y5.2 10).bind λy6=>some (({ Pt:=y.1,To:=y_ (y6.1 - 1),Ph:=y3.1,Rk:=y4.1 }:Nd),y6.2) else if y5.1==1 then (vn fu y5.2 [0,1,1000,1001]).bind λy7=>some (({ Pt:=y.1,To:=q,Ph:=y7.1,Rk:=y4.1 }:Nd),y7.2) else if y5.1==2 then (vn fu y5.2 [(-1),3]).bind λy8=>some (({ Pt:=y.1,To:=q,Ph:=y3.1,Rk:=y8.1 }:Nd),y8.2) else some (({ Pt:=y.1,To:=q,Ph:=y3.1,Rk:=y4.1 }:Nd),y5.2)
def xF (fu:Nat) (n':Nq):Nat->List Nd->Int->List By->Int->U64->Option (List Nd×Int×List By×Int×U64)
 | 0,_,_,_,_,_=>none
 | fk+1,l,k',m,m2,m3=>if decide (k' > 0) then (aH fu (⟨m,m2,m3⟩:Np) n').bind λy2=>(M_ l [y2.1]).bind λl2=>xF fu n' fk l2 (y_ (k' - 1)) y2.2.code y2.2.at_ y2.2.seed else some (l,k',m,m2,m3)
def xE (fu:Nat):Nat->List Nd->List By->Int->U64->Option (List Nd×List By×Int×U64)
 | 0,_,_,_,_=>none
 | fk+1,l4,m7,m8,m9=>(um fu (⟨m7,m8,m9⟩:Np) 2).bind λy4=>if decide ((l4.length:Int)<(y_ (12+y4.1))) then (M_ l4 [({ Pt:=0,To:=1,Ph:=5,Rk:=0 }:Nd)]).bind λl5=>xE fu fk l5 y4.2.code y4.2.at_ y4.2.seed else some (l4,y4.2.code,y4.2.at_,y4.2.seed)
def ae (fu:Nat) (c:Np) (n':Nq):Option (List Nd×Np):=(um fu c 6).bind λy=>(xF fu n' fu ([]:List Nd) y.1 y.2.code y.2.at_ y.2.seed).bind λz2=>(xJ fu (⟨z2.2.2.1,z2.2.2.2.1,z2.2.2.2.2⟩:Np) 24).bind λy3=>if y3.1 then (xE fu fu z2.1 y3.2.code y3.2.at_ y3.2.seed).bind λz=>some (z.1,(⟨z.2.1,z.2.2.1,z.2.2.2⟩:Np)) else some (z2.1,y3.2)
def vq (fu:Nat) (n':Int) (low:Int) (high:Int):Option (Bool):=(if decide (low<=n') then some (decide (n'<=high)) else some false).bind λc=>some c
def xZ (fu:Nat) (s':ByteArray):Nat->Int->Option (Out (Int) (Bool))
 | 0,_=>none
 | fk+1,i=>if decide (i<(s'.size:Int)) then (sidx s' i).bind λe=>(sidx s' i).bind λe2=>if decide (e.n>=97) then (sidx s' i).bind λe3=>if decide (e2.n>=48) then (sidx s' i).bind λe4=>(if !(decide (e3.n<=122)) then if !(decide (e4.n<=57)) then some true else some (i==0) else some false).bind λc=>if c then some (.ret false) else xZ fu s' fk (y_ (i+1)) else (if !(decide (e3.n<=122)) then if !false then some true else some (i==0) else some false).bind λc2=>if c2 then some (.ret false) else xZ fu s' fk (y_ (i+1)) else if decide (e2.n>=48) then (sidx s' i).bind λe5=>(if !false then if !(decide (e5.n<=57)) then some true else some (i==0) else some false).bind λc3=>if c3 then some (.ret false) else xZ fu s' fk (y_ (i+1)) else (if !false then if !false then some true else some (i==0) else some false).bind λc4=>if c4 then some (.ret false) else xZ fu s' fk (y_ (i+1)) else some (.next i)
def eO (fu:Nat) (s':ByteArray):Option (Bool):=(xZ fu s' fu 0).bind λout=>out.on some λz=>(vq fu (s'.size:Int) 1 8).bind λy=>some y
def vk (fu:Nat) (s':List ByteArray) (v:ByteArray):Nat->Int->Option (Out (Int) (Int))
 | 0,_=>none
 | fk+1,i=>if decide (i<(s'.length:Int)) then (V_ s' i).bind λe=>if v.toList==e.toList then some (.ret i) else vk fu s' v fk (y_ (i+1)) else some (.next i)
def xP (fu:Nat) (s':List ByteArray) (v:ByteArray):Option (Int):=(vk fu s' v fu 0).bind λout=>out.on some λz=>some (-1)
def xq (fu:Nat) (s':List ByteArray) (v:ByteArray):Option (Bool):=(xP fu s' v).bind λy=>some (decide (y>=0))
def cmp_isNaN_int (fu:Nat) (x1:Int):Option (Bool):=some (x1 != x1)
def cmp_Compare_int (fu:Nat) (x1:Int) (y:Int):Option (Int):=(cmp_isNaN_int fu x1).bind λy2=>(cmp_isNaN_int fu y).bind λy3=>if y2 then if y3 then some 0 else some (-1) else if y3 then some 1 else if decide (x1<y) then some (-1) else if decide (x1 > y) then some 1 else some 0
def ar (fu:Nat) (vals:List Int):Nat->Int->Option (Out (Int) (Int))
 | 0,_=>none
 | fk+1,i=>if decide (i<(vals.length:Int)) then (V_ vals i).bind λe=>if e != 0 then some (.ret e) else ar fu vals fk (y_ (i+1)) else some (.next i)
def el (fu:Nat) (vals:List Int):Option (Int):=(ar fu vals fu 0).bind λout=>out.on some λz=>some 0
def ao (fu:Nat) (a':Pq) (b':Pq):Option (Int):=(cmp_Compare_int fu a'.A b'.A).bind λy=>(cmp_Compare_int fu a'.B b'.B).bind λy2=>(cmp_Compare_int fu a'.Pg b'.Pg).bind λy3=>(cmp_Compare_int fu a'.Pp b'.Pp).bind λy4=>(el fu [y,y2,y3,y4]).bind λy5=>some y5
def vZ (fu:Nat) (n':Nq):Nat->Int->Option (Out (Int) (Bool))
 | 0,_=>none
 | fk+1,i=>if decide (i<(n'.Nv.length:Int)) then (V_ n'.Nv i).bind λe=>((eO fu e).bind λy=>if !y then some true else (sub n'.Nv 0 i).bind λl=>(xq fu l e).bind λy2=>some y2).bind λc3=>if c3 then some (.ret false) else vZ fu n' fk (y_ (i+1)) else some (.next i)
def vY (fu:Nat) (n':Nq):Nat->Int->Option (Out (Int) (Bool))
 | 0,_=>none
 | fk+1,i3=>if decide (i3<(n'.Nw.length:Int)) then (V_ n'.Nw i3).bind λe2=>(if decide (e2.A<0) then some true else if decide (e2.A>=e2.B) then some true else if decide (e2.B>=(n'.Nv.length:Int)) then some true else (vq fu e2.Pg 1 5000).bind λy3=>if !y3 then some true else (vq fu e2.Pp 0 9).bind λy4=>if !y4 then some true else if decide (i3 > 0) then (V_ n'.Nw (y_ (i3 - 1))).bind λe3=>(ao fu e3 e2).bind λy5=>some (decide (y5 > 0)) else some false).bind λc5=>if c5 then some (.ret false) else vY fu n' fk (y_ (i3+1)) else some (.next i3)
def yb (fu:Nat) (n':Nq):Option (Bool):=(vZ fu n' fu 0).bind λout=>out.on some λz2=>(vY fu n' fu 0).bind λout=>out.on some λz=>((vq fu (n'.Nv.length:Int) 2 8).bind λy6=>if y6 then some (decide ((n'.Nw.length:Int)<=14)) else some false).bind λc6=>some c6
def df (fu:Nat) (f:Pq) (node:Int):Option (Int):=if node==f.A then some f.B else if node==f.B then some f.A else some (-1)
def vN (fu:Nat) (s':List Int) (v:Int):Nat->Int->Option (Out (Int) (Int))
 | 0,_=>none
 | fk+1,i=>if decide (i<(s'.length:Int)) then (V_ s' i).bind λe=>if v==e then some (.ret i) else vN fu s' v fk (y_ (i+1)) else some (.next i)
def yZ (fu:Nat) (s':List Int) (v:Int):Option (Int):=(vN fu s' v fu 0).bind λout=>out.on some λz=>some (-1)
def xO (fu:Nat) (s':List Int) (v:Int):Option (Bool):=(yZ fu s' v).bind λy=>some (decide (y>=0))
def zI (fu:Nat) (n':Nq) (r':Nz):Nat->List Int->Int->Int->Option (Out (List Int×Int×Int) (List Int×Bool))
 | 0,_,_,_=>none
 | fk+1,out',at',i=>if decide (i<(r'.Nw.length:Int)) then (V_ r'.Nw i).bind λe=>(vq fu e 0 (y_ ((n'.Nw.length:Int) - 1))).bind λy2=>if !y2 then some (.ret ([],false)) else (V_ n'.Nw e).bind λe2=>(df fu e2 at').bind λy3=>(if decide (y3<0) then some true else (xO fu out' y3).bind λy4=>some y4).bind λc6=>if c6 then some (.ret ([],false)) else (M_ out' [y3]).bind λl=>zI fu n' r' fk l y3 (y_ (i+1)) else some (.next (out',at',i))
def dT (fu:Nat) (n':Nq) (r':Nz):Option (List Int×Bool):=((vq fu r'.Nt 0 (y_ ((n'.Nv.length:Int) - 1))).bind λy=>if !y then some true else some ((r'.Nw.length:Int)==0)).bind λc4=>if c4 then some ([],false) else (zI fu n' r' fu [r'.Nt] r'.Nt 0).bind λout=>out.on some λz=>some (z.1,true)
def aR (fu:Nat) (b':Nj):Option (Bool):=(if decide (b'.Pk>=0) then (vq fu b'.Pz 1 24).bind λy=>if y then some (decide (b'.Pk<=(y_ (24 - b'.Pz)))) else some false else some false).bind λc=>some c
def dW (fu:Nat) (n':Nq) (x1:Nx):Option (Bool):=(dT fu n' x1.Nz).bind λy=>(if y.2 then (vq fu x1.Id 1 999).bind λy2=>if y2 then (aR fu x1.Nj).bind λy3=>some y3 else some false else some false).bind λc5=>some c5
def bW (fu:Nat) (b':Nj):Option (Int):=(shl 1 b'.Pz).bind λq=>(shl (y_ (q - 1)) b'.Pk).bind λq2=>some q2
def bf (fu:Nat) (x:List Int):Option (List Int):=Ar x
def zO (fu:Nat) (x:List Int):Option (List Int):=some (mO x)
def zv (fu:Nat) (a':List Int) (b':List Int):Nat->List Int->Int->Option (List Int×Int)
 | 0,_,_=>none
 | fk+1,out',i=>if decide (i<(a'.length:Int)) then (V_ a' i).bind λe=>(xO fu b' e).bind λy=>if y then (M_ out' [e]).bind λl=>zv fu a' b' fk l (y_ (i+1)) else zv fu a' b' fk out' (y_ (i+1)) else some (out',i)
def dB (fu:Nat) (a':List Int) (b':List Int):Option (List Int):=(zv fu a' b' fu ([]:List Int) 0).bind λz=>(bf fu z.1).bind λy2=>(zO fu y2).bind λy3=>some y3
def dY (fu:Nat) (a':Nx) (b':Nx):Option (Bool):=((bW fu a'.Nj).bind λy=>(bW fu b'.Nj).bind λy2=>if (band y y2) != 0 then (dB fu a'.Nz.Nw b'.Nz.Nw).bind λy3=>some (decide ((y3.length:Int) > 0)) else some false).bind λc3=>some c3
def bv (fu:Nat) (own:Nx) (cap:Nx):Option (Bool):=(dY fu own cap).bind λy=>some y
def uz (fu:Nat) (s':List Nx) (cap:Nx):Nat->Int->Option (Out (Int) (Int))
 | 0,_=>none
 | fk+1,i=>if decide (i<(s'.length:Int)) then (V_ s' i).bind λe=>(bv fu e cap).bind λy=>if y then some (.ret i) else uz fu s' cap fk (y_ (i+1)) else some (.next i)
def vd (fu:Nat) (s':List Nx) (cap:Nx):Option (Int):=(uz fu s' cap fu 0).bind λout=>out.on some λz=>some (-1)
def uP (fu:Nat) (s':List Nx) (cap:Nx):Option (Bool):=(vd fu s' cap).bind λy=>some (decide (y>=0))
def xH (fu:Nat) (p:Nh):Nat->Int->Option (Out (Int) (Bool))
 | 0,_=>none
 | fk+1,i=>if decide (i<(p.Nk.length:Int)) then (V_ p.Nk i).bind λe=>((dW fu p.Nq e).bind λy2=>if !y2 then some true else if decide (i > 0) then (V_ p.Nk (y_ (i - 1))).bind λe2=>if decide (e2.Id>=e.Id) then some true else (sub p.Nk 0 i).bind λl=>(uP fu l e).bind λy3=>some y3 else (sub p.Nk 0 i).bind λl2=>(uP fu l2 e).bind λy4=>some y4).bind λc6=>if c6 then some (.ret false) else xH fu p fk (y_ (i+1)) else some (.next i)
def bC (fu:Nat) (p:Nh):Option (Bool):=((yb fu p.Nq).bind λy=>if !y then some true else some (decide ((p.Nk.length:Int) > 12))).bind λc4=>if c4 then some false else (xH fu p fu 0).bind λout=>out.on some λz=>some true
def xa (fu:Nat) (list:List Ng):Nat->Int->Option (Out (Int) (Bool))
 | 0,_=>none
 | fk+1,i=>if decide (i<(list.length:Int)) then (V_ list i).bind λe=>((vq fu e.Reach 1 20000).bind λy=>if !y then some true else (vq fu e.Ph 1 1000).bind λy2=>if !y2 then some true else if decide (i > 0) then (V_ list (y_ (i - 1))).bind λe2=>if decide (e2.Reach<=e.Reach) then some true else (V_ list (y_ (i - 1))).bind λe3=>some (decide (e3.Ph>=e.Ph)) else some false).bind λc2=>if c2 then some (.ret false) else xa fu list fk (y_ (i+1)) else some (.next i)
def xI (fu:Nat) (list:List Ng):Option (Bool):=(xa fu list fu 0).bind λout=>out.on some λz=>(vq fu (list.length:Int) 1 6).bind λy3=>some y3
def di (fu:Nat) (n':Nq) (d':Nd):Option (Bool):=((vq fu d'.Pt 0 (y_ ((n'.Nv.length:Int) - 1))).bind λy=>if y then (vq fu d'.To 0 (y_ ((n'.Nv.length:Int) - 1))).bind λy2=>if y2 then if d'.Pt != d'.To then (vq fu d'.Ph 1 1000).bind λy3=>if y3 then (vq fu d'.Rk 0 2).bind λy4=>some y4 else some false else some false else some false else some false).bind λc3=>some c3
def zR (fu:Nat) (d':Nd) (cap:Nq):Option (Bool):=(di fu cap d').bind λy=>some (!y)
def uu (fu:Nat) (s':List Nd) (cap:Nq):Nat->Int->Option (Out (Int) (Int))
 | 0,_=>none
 | fk+1,i=>if decide (i<(s'.length:Int)) then (V_ s' i).bind λe=>(zR fu e cap).bind λy=>if y then some (.ret i) else uu fu s' cap fk (y_ (i+1)) else some (.next i)
def u9 (fu:Nat) (s':List Nd) (cap:Nq):Option (Int):=(uu fu s' cap fu 0).bind λout=>out.on some λz=>some (-1)
def u4 (fu:Nat) (s':List Nd) (cap:Nq):Option (Bool):=(u9 fu s' cap).bind λy=>some (decide (y>=0))
def yc (fu:Nat) (n':Nq) (list:List Nd):Option (Bool):=((yb fu n').bind λy=>if y then if decide ((list.length:Int)<=12) then (u4 fu list n').bind λy2=>some (!y2) else some false else some false).bind λc4=>some c4
def gq (fu:Nat) (fit:Int):Option (Bool):=(vq fu fit 1 3).bind λy=>some y
def cw (fu:Nat) (p:Nh) (formats:List Ng) (list:List Nd) (fit:Int):Option (Bool):=((bC fu p).bind λy=>if y then (xI fu formats).bind λy2=>if y2 then (yc fu p.Nq list).bind λy3=>if y3 then (gq fu fit).bind λy4=>some y4 else some false else some false else some false).bind λc6=>some c6
def cC (fu:Nat) (n':Nq):Option (Nq):=(M_ ([]:List ByteArray) n'.Nv).bind λl=>(M_ ([]:List Pq) n'.Nw).bind λl2=>some ({ Nv:=l,Nw:=l2 }:Nq)
def bK (fu:Nat) (r':Nz):Option (Nz):=(M_ ([]:List Int) r'.Nw).bind λl=>some ({ Nt:=r'.Nt,Nw:=l }:Nz)
def yX (fu:Nat) (p:Nh):Nat->Int->List Nx->Option (Int×List Nx)
 | 0,_,_=>none
 | fk+1,i,m=>if decide (i<(p.Nk.length:Int)) then (V_ p.Nk i).bind λe=>(bK fu e.Nz).bind λy2=>(M_ m [({ Id:=e.Id,Nz:=y2,Nj:=e.Nj }:Nx)]).bind λal=>yX fu p fk (y_ (i+1)) al else some (i,m)
def bu (fu:Nat) (p:Nh):Option (Nh):=(cC fu p.Nq).bind λy=>(yX fu p fu 0 ([]:List Nx)).bind λz=>some ({ Nq:=y,Nk:=z.2 }:Nh)
def dL (fu:Nat) (v:Int) (cap:Nq):Option (Bool):=(vq fu v 0 (y_ ((cap.Nv.length:Int) - 1))).bind λy=>some (!y)
def uW (fu:Nat) (s':List Int) (cap:Nq):Nat->Int->Option (Out (Int) (Int))
 | 0,_=>none
 | fk+1,i=>if decide (i<(s'.length:Int)) then (V_ s' i).bind λe=>(dL fu e cap).bind λy=>if y then some (.ret i) else uW fu s' cap fk (y_ (i+1)) else some (.next i)
def xf (fu:Nat) (s':List Int) (cap:Nq):Option (Int):=(uW fu s' cap fu 0).bind λout=>out.on some λz=>some (-1)
def vm (fu:Nat) (s':List Int) (cap:Nq):Option (Bool):=(xf fu s' cap).bind λy=>some (decide (y>=0))
def eN (fu:Nat) (n':Nq) (nodes:List Int):Option (Bool):=((yb fu n').bind λy=>if y then (vm fu nodes n').bind λy2=>some (!y2) else some false).bind λc4=>some c4
def za (fu:Nat) (s':List Int):Option (List Int):=jQ s' (some []) ((M_ ([]:List Int) s').bind λl=>some l)
def vG (fu:Nat) (at':Int) (seen:Int) (fibers:List Int) (cap:Int) (cap3:Int) (cap4:Nq) (rec_:(Int)->(Int)->(List Int)->(Int)->(List Nz)->(Int)->(Nq)->Option (List Nz)):Nat->Int->List Nz->Option (Int×List Nz)
 | 0,_,_=>none
 | fk+1,i,m=>if decide (i<(cap4.Nw.length:Int)) then (V_ cap4.Nw i).bind λe=>(df fu e at').bind λy2=>(if decide (y2>=0) then (shr seen y2).bind λq=>some ((band q 1)==0) else some false).bind λc8=>if c8 then (shl 1 y2).bind λq2=>(M_ fibers [i]).bind λl=>(rec_ y2 (Z1 seen q2) l cap m cap3 cap4).bind λy3=>vG fu at' seen fibers cap cap3 cap4 rec_ fk (y_ (i+1)) y3 else vG fu at' seen fibers cap cap3 cap4 rec_ fk (y_ (i+1)) m else some (i,m)
def zf (fu:Nat) (rec_:(Int)->(Int)->(List Int)->(Int)->(List Nz)->(Int)->(Nq)->Option (List Nz)) (at':Int) (seen:Int) (fibers:List Int) (cap:Int) (cap2:List Nz) (cap3:Int) (cap4:Nq):Option (List Nz):=if at'==cap then (za fu fibers).bind λy=>(M_ cap2 [({ Nt:=cap3,Nw:=y }:Nz)]).bind λal=>some al else (vG fu at' seen fibers cap cap3 cap4 rec_ fu 0 cap2).bind λz=>some z.2
def vB:Nat->(Int)->(Int)->(List Int)->(Int)->(List Nz)->(Int)->(Nq)->Option (List Nz)
 | 0,_,_,_,_,_,_,_=>none
 | fu+1,at',seen,fibers,cap,cap2,cap3,cap4=>zf fu (λat' seen fibers cap cap2 cap3 cap4=>vB fu at' seen fibers cap cap2 cap3 cap4) at' seen fibers cap cap2 cap3 cap4
def yV (fu:Nat) (n':Nq) (r':Nz):Nat->Int->Int->Option (Int×Int)
 | 0,_,_=>none
 | fk+1,sum,i=>if decide (i<(r'.Nw.length:Int)) then (V_ r'.Nw i).bind λe=>(V_ n'.Nw e).bind λe2=>yV fu n' r' fk (y_ (sum+e2.Pg)) (y_ (i+1)) else some (sum,i)
def bq (fu:Nat) (n':Nq) (r':Nz):Option (Int):=(yV fu n' r' fu 0 0).bind λz=>some z.1
def vU (fu:Nat) (s1:List Int) (s2:List Int):Nat->Int->Option (Out (Int) (Int))
 | 0,_=>none
 | fk+1,i=>if decide (i<(s1.length:Int)) then (V_ s1 i).bind λe=>if decide (i>=(s2.length:Int)) then some (.ret 1) else (V_ s2 i).bind λe2=>(cmp_Compare_int fu e e2).bind λy=>if y != 0 then some (.ret y) else vU fu s1 s2 fk (y_ (i+1)) else some (.next i)
def zN (fu:Nat) (s1:List Int) (s2:List Int):Option (Int):=(vU fu s1 s2 fu 0).bind λout=>out.on some λz=>if decide ((s1.length:Int)<(s2.length:Int)) then some (-1) else some 0
def bP (fu:Nat) (n':Nq) (a':Nz) (b':Nz):Option (Int):=(bq fu n' a').bind λy=>(bq fu n' b').bind λy2=>(cmp_Compare_int fu y y2).bind λy3=>(cmp_Compare_int fu (a'.Nw.length:Int) (b'.Nw.length:Int)).bind λy4=>(zN fu a'.Nw b'.Nw).bind λy5=>(cmp_Compare_int fu a'.Nt b'.Nt).bind λy6=>(el fu [y3,y4,y5,y6]).bind λy7=>some y7
def vO (fu:Nat) (a':Nz) (b4:Nz) (cap:Nq):Option (Int):=(bP fu cap a' b4).bind λy=>some y
def vb (fu:Nat) (x:List Nz) (cap0:Nq):Option (List Nz):=lu (λa b=>vO fu a b cap0) x
def bO (fu:Nat) (n':Nq) (from':Int) (to:Int):Option (List Nz):=if from' != to then (shl 1 from').bind λq=>(vB fu from' q [] to ([]:List Nz) from' n').bind λy=>(vb fu y n').bind λy2=>some y2 else (vb fu ([]:List Nz) n').bind λy3=>some y3
def cA (fu:Nat) (n':Nq) (from':Int) (to:Int):Option (List Nz×Bool):=((eN fu n' [from',to]).bind λy=>if !y then some true else some (from'==to)).bind λc3=>if c3 then some ([],false) else (bO fu n' from' to).bind λy2=>if decide ((y2.length:Int) > 200) then some ([],false) else some (y2,true)
def yh (fu:Nat) (list:List Ng) (length:Int):Nat->Int->Option (Out (Int) (Int×Bool))
 | 0,_=>none
 | fk+1,i=>if decide (i>=0) then (V_ list i).bind λe=>if decide (e.Reach>=length) then some (.ret (i,true)) else yh fu list length fk (y_ (i - 1)) else some (.next i)
def cx (fu:Nat) (list:List Ng) (length:Int):Option (Int×Bool):=((xI fu list).bind λy=>if !y then some true else (vq fu length 0 20000).bind λy2=>some (!y2)).bind λc2=>if c2 then some (0,false) else (yh fu list length fu (y_ ((list.length:Int) - 1))).bind λout=>out.on some λz=>some (0,false)
def dm (fu:Nat) (list:List Ng) (length:Int) (rate:Int):Option (Int×Bool):=(cx fu list length).bind λy=>(if !y.2 then some true else (vq fu rate 1 1000).bind λy2=>some (!y2)).bind λc2=>if c2 then some (0,false) else (V_ list y.1).bind λe=>(V_ list y.1).bind λe2=>(quo (y_ ((y_ (rate+e.Ph)) - 1)) e2.Ph).bind λq=>if decide (q > 24) then some (0,false) else some (q,true)
def zt (fu:Nat) (n':Nq) (formats:List Ng) (d':Nd) (y3:List Nz×Bool):Nat->List Px->Int->Option (List Px×Int)
 | 0,_,_=>none
 | fk+1,out',i=>if decide (i<(y3.1.length:Int)) then (V_ y3.1 i).bind λe=>(bq fu n' e).bind λy4=>(dm fu formats y4 d'.Ph).bind λy5=>if y5.2 then (M_ out' [({ route:=e,count:=y5.1 }:Px)]).bind λl=>zt fu n' formats d' y3 fk l (y_ (i+1)) else zt fu n' formats d' y3 fk out' (y_ (i+1)) else some (out',i)
def dA (fu:Nat) (n':Nq) (formats:List Ng) (d':Nd):Option (List Px×Bool):=((xI fu formats).bind λy=>if !y then some true else (yc fu n' [d']).bind λy2=>some (!y2)).bind λc4=>if c4 then some (([]:List Px),false) else (cA fu n' d'.Pt d'.To).bind λy3=>if !y3.2 then some (([]:List Px),false) else (zt fu n' formats d' y3 fu ([]:List Px) 0).bind λz=>some (z.1,true)
def uF {X:Type} (cf:X->X->Option Int) (fu:Nat) (a':Int):Nat->List X->Int->Option (List X×Int)
 | 0,_,_=>none
 | fk+1,data3,j=>(if decide (j > a') then (V_ data3 j).bind λe=>(V_ data3 (y_ (j - 1))).bind λe2=>(cf e e2).bind λy=>some (decide (y<0)) else some false).bind λc2=>if c2 then (V_ data3 (y_ (j - 1))).bind λe3=>(V_ data3 j).bind λe4=>(V_ data3 j).bind λe5=>(V_ (data3.set (j:Int).toNat e3) (y_ (j - 1))).bind λe6=>uF cf fu a' fk ((data3.set (j:Int).toNat e3).set (y_ (j - 1):Int).toNat e4) (y_ (j - 1)) else some (data3,j)
def ux {X:Type} (cf:X->X->Option Int) (fu:Nat) (a':Int) (b5:Int):Nat->List X->Int->Option (List X×Int)
 | 0,_,_=>none
 | fk+1,data2,i=>if decide (i<b5) then (uF cf fu a' fu data2 i).bind λz=>ux cf fu a' b5 fk z.1 (y_ (i+1)) else some (data2,i)
def uU {X:Type} (cf:X->X->Option Int) (fu:Nat) (data:List X) (a':Int) (b5:Int):Option (List X):=(ux cf fu a' b5 fu data (y_ (a' + 1))).bind λz2=>some z2.1
def uM {X:Type} (cf:X->X->Option Int) (fu:Nat) (a':Int) (b6:Int) (n':Int):Nat->List X->Int->Option (List X×Int)
 | 0,_,_=>none
 | fk+1,data2,i=>if decide (i<n') then (V_ data2 (y_ (b6+i))).bind λe=>(V_ data2 (y_ (a' + i))).bind λe2=>(V_ data2 (y_ (a' + i))).bind λe3=>(V_ (data2.set (y_ (a' + i):Int).toNat e) (y_ (b6+i))).bind λe4=>uM cf fu a' b6 n' fk ((data2.set (y_ (a' + i):Int).toNat e).set (y_ (b6+i):Int).toNat e2) (y_ (i+1)) else some (data2,i)
def uS {X:Type} (cf:X->X->Option Int) (fu:Nat) (data:List X) (a':Int) (b6:Int) (n':Int):Option (List X):=(uM cf fu a' b6 n' fu data 0).bind λz=>some z.1
def uJ {X:Type} (cf:X->X->Option Int) (fu:Nat) (m:Int):Nat->List X->Int->Int->Option (List X×Int×Int)
 | 0,_,_,_=>none
 | fk+1,data2,i,j=>if i != j then if decide (i > j) then (uS cf fu data2 (y_ (m - i)) m j).bind λy=>uJ cf fu m fk y (y_ (i - j)) j else (uS cf fu data2 (y_ (m - i)) (y_ ((y_ (m+j)) - i)) i).bind λy2=>uJ cf fu m fk y2 i (y_ (j - i)) else some (data2,i,j)
def uN {X:Type} (cf:X->X->Option Int) (fu:Nat) (data:List X) (a':Int) (m:Int) (b6:Int):Option (List X):=(uJ cf fu m fu data (y_ (m - a')) (y_ (b6 - m))).bind λz=>(uS cf fu z.1 (y_ (m - z.2.1)) m z.2.1).bind λy3=>some y3
def uk {X:Type} (cf:X->X->Option Int) (fu:Nat) (data:List X) (a':Int):Nat->Int->Int->Option (Int×Int)
 | 0,_,_=>none
 | fk+1,i,j=>if decide (i<j) then (shrk 64 (wu64 (y_ (i+j))) 1).bind λq=>(V_ data (y_ q)).bind λe=>(V_ data a').bind λe2=>(cf e e2).bind λy=>if decide (y<0) then uk cf fu data a' fk (y_ ((y_ q)+1)) j else uk cf fu data a' fk i (y_ q) else some (i,j)
def uE {X:Type} (cf:X->X->Option Int) (fu:Nat) (i2:Int):Nat->List X->Int->Option (List X×Int)
 | 0,_,_=>none
 | fk+1,data2,k'=>if decide (k'<(y_ (i2 - 1))) then (V_ data2 (y_ (k' + 1))).bind λe3=>(V_ data2 k').bind λe4=>(V_ data2 k').bind λe5=>(V_ (data2.set (k':Int).toNat e3) (y_ (k' + 1))).bind λe6=>uE cf fu i2 fk ((data2.set (k':Int).toNat e3).set (y_ (k' + 1):Int).toNat e4) (y_ (k' + 1)) else some (data2,k')
def uj {X:Type} (cf:X->X->Option Int) (fu:Nat) (data:List X) (m:Int):Nat->Int->Int->Option (Int×Int)
 | 0,_,_=>none
 | fk+1,i3,j3=>if decide (i3<j3) then (shrk 64 (wu64 (y_ (i3+j3))) 1).bind λq2=>(V_ data m).bind λe7=>(V_ data (y_ q2)).bind λe8=>(cf e7 e8).bind λy2=>if !(decide (y2<0)) then uj cf fu data m fk (y_ ((y_ q2)+1)) j3 else uj cf fu data m fk i3 (y_ q2) else some (i3,j3)
def uy {X:Type} (cf:X->X->Option Int) (fu:Nat) (i4:Int):Nat->List X->Int->Option (List X×Int)
 | 0,_,_=>none
 | fk+1,data4,k3=>if decide (k3 > i4) then (V_ data4 (y_ (k3 - 1))).bind λe9=>(V_ data4 k3).bind λe10=>(V_ data4 k3).bind λe11=>(V_ (data4.set (k3:Int).toNat e9) (y_ (k3 - 1))).bind λe12=>uy cf fu i4 fk ((data4.set (k3:Int).toNat e9).set (y_ (k3 - 1):Int).toNat e10) (y_ (k3 - 1)) else some (data4,k3)
def ue {X:Type} (cf:X->X->Option Int) (fu:Nat) (data:List X) (m:Int) (q3:Int):Nat->Int->Int->Option (Int×Int)
 | 0,_,_=>none
 | fk+1,start3,r3=>if decide (start3<r3) then (shrk 64 (wu64 (y_ (start3+r3))) 1).bind λq4=>(V_ data (y_ ((y_ ((y_ ((y_ q3)+m)) - 1)) - (y_ q4)))).bind λe13=>(V_ data (y_ q4)).bind λe14=>(cf e13 e14).bind λy3=>if !(decide (y3<0)) then ue cf fu data m q3 fk (y_ ((y_ q4)+1)) r3 else ue cf fu data m q3 fk start3 (y_ q4) else some (start3,r3)
def uZ {X:Type} (cf:X->X->Option Int) (fu:Nat) (rec_:(List X)->(Int)->(Int)->(Int)->Option (List X)) (data:List X) (a':Int) (m:Int) (b6:Int):Option (List X):=if (y_ (m - a'))==1 then (uk cf fu data a' fu m b6).bind λz2=>(uE cf fu z2.1 fu data a').bind λz=>some z.1 else if (y_ (b6 - m))==1 then (uj cf fu data m fu a' m).bind λz4=>(uy cf fu z4.1 fu data m).bind λz3=>some z3.1 else (shrk 64 (wu64 (y_ (a' + b6))) 1).bind λq3=>(if decide (m > (y_ q3)) then some (y_ ((y_ ((y_ q3)+m)) - b6),y_ q3) else some (a',m)).bind λz8=>(ue cf fu data m q3 fu z8.1 z8.2).bind λz7=>(if decide (z7.1<m) then some (decide (m<(y_ ((y_ ((y_ q3)+m)) - z7.1)))) else some false).bind λc2=>(if c2 then (uN cf fu data z7.1 m (y_ ((y_ ((y_ q3)+m)) - z7.1))).bind λy4=>some y4 else some data).bind λz6=>(if decide (a'<z7.1) then some (decide (z7.1<(y_ q3))) else some false).bind λc3=>(if c3 then (rec_ z6 a' z7.1 (y_ q3)).bind λy5=>some y5 else some z6).bind λz5=>(if decide ((y_ q3)<(y_ ((y_ ((y_ q3)+m)) - z7.1))) then some (decide ((y_ ((y_ ((y_ q3)+m)) - z7.1))<b6)) else some false).bind λc4=>if c4 then (rec_ z5 (y_ q3) (y_ ((y_ ((y_ q3)+m)) - z7.1)) b6).bind λy6=>some y6 else some z5
def uC {X:Type} (cf:X->X->Option Int):Nat->(List X)->(Int)->(Int)->(Int)->Option (List X)
 | 0,_,_,_,_=>none
 | fu+1,data,a',m,b6=>uZ cf fu (λdata a' m b6=>uC cf fu data a' m b6) data a' m b6
def uI {X:Type} (cf:X->X->Option Int) (fu:Nat) (n':Int):Nat->List X->Int->Int->Option (List X×Int×Int)
 | 0,_,_,_=>none
 | fk+1,data2,a',b4=>if decide (b4<=n') then (uU cf fu data2 a' b4).bind λy=>uI cf fu n' fk y b4 (y_ (b4+20)) else some (data2,a',b4)
def uH {X:Type} (cf:X->X->Option Int) (fu:Nat) (n':Int) (blockSize:Int):Nat->List X->Int->Int->Option (List X×Int×Int)
 | 0,_,_,_=>none
 | fk+1,data5,a3,b6=>if decide (b6<=n') then (uC cf fu data5 a3 (y_ (a3+blockSize)) b6).bind λy3=>uH cf fu n' blockSize fk y3 b6 (y_ (b6+(y_ (2 * blockSize)))) else some (data5,a3,b6)
def uB {X:Type} (cf:X->X->Option Int) (fu:Nat) (n':Int):Nat->List X->Int->Option (List X×Int)
 | 0,_,_=>none
 | fk+1,data4,blockSize=>if decide (blockSize<n') then (uH cf fu n' blockSize fu data4 0 (y_ (2 * blockSize))).bind λz=>if decide ((y_ (z.2.1+blockSize))<n') then (uC cf fu z.1 z.2.1 (y_ (z.2.1+blockSize)) n').bind λy4=>uB cf fu n' fk y4 (y_ (blockSize * 2)) else uB cf fu n' fk z.1 (y_ (blockSize * 2)) else some (data4,blockSize)
def vu {X:Type} (cf:X->X->Option Int) (fu:Nat) (data:List X) (n':Int):Option (List X):=(uI cf fu n' fu data 0 20).bind λz3=>(uU cf fu z3.1 z3.2.1 n').bind λy2=>(uB cf fu n' fu y2 20).bind λz2=>some z2.1
def uX {X:Type} (cf:X->X->Option Int) (fu:Nat) (x1:List X):Option (List X):=(vu cf fu x1 (x1.length:Int)).bind λy=>some y
def xL (fu:Nat) (c:Px):Option (Int):=some (y_ (c.count * (c.route.Nw.length:Int)))
def ay (fu:Nat) (a':Px) (b':Px):Option (Int):=(xL fu a').bind λy=>(xL fu b').bind λy2=>(cmp_Compare_int fu y y2).bind λy3=>some y3
def dC (fu:Nat) (x:List Px):Option (List Px):=(uX (λi j:Nat=>(x[i]?).bind λa=>(x[j]?).bind λb=>ay fu a b) fu (List.range x.length)).bind λis=>is.mapM λi:Nat=>x[i]?
def yq (fu:Nat) (e:Nx):Nat->List Int->Int->Option (List Int×Int)
 | 0,_,_=>none
 | fk+1,out3,i2=>if decide (i2<(e.Nz.Nw.length:Int)) then (V_ e.Nz.Nw i2).bind λe2=>(V_ out3 e2).bind λe3=>(bW fu e.Nj).bind λy=>(V_ out3 e2).bind λe4=>yq fu e fk (out3.set (e2:Int).toNat (Z1 e3 y)) (y_ (i2+1)) else some (out3,i2)
def yr (fu:Nat) (p:Nh):Nat->List Int->Int->Option (List Int×Int)
 | 0,_,_=>none
 | fk+1,out',i=>if decide (i<(p.Nk.length:Int)) then (V_ p.Nk i).bind λe=>(yq fu e fu out' 0).bind λz=>yr fu p fk z.1 (y_ (i+1)) else some (out',i)
def bX (fu:Nat) (p:Nh):Option (List Int):=(mk (0:Int) (p.Nq.Nw.length:Int)).bind λl=>(yr fu p fu l 0).bind λz2=>some z2.1
def yC (fu:Nat) (r':Nz) (y:List Int):Nat->Int->Int->Option (Int×Int)
 | 0,_,_=>none
 | fk+1,out',i=>if decide (i<(r'.Nw.length:Int)) then (V_ r'.Nw i).bind λe=>(V_ y e).bind λe2=>yC fu r' y fk (Z1 out' e2) (y_ (i+1)) else some (out',i)
def cu (fu:Nat) (p:Nh) (r':Nz):Option (Int):=(bX fu p).bind λy=>(yC fu r' y fu 0 0).bind λz=>some z.1
def eP (fu:Nat) (mask:Int):Option (Bool):=(vq fu mask 0 16777215).bind λy=>some y
def cO (fu:Nat) (mask:Int) (count:Int):Option (Bool):=((eP fu mask).bind λy=>if y then (vq fu count 1 24).bind λy2=>some y2 else some false).bind λc=>some c
def yf (fu:Nat) (mask:Int) (count:Int):Nat->List Int->Int->Option (List Int×Int)
 | 0,_,_=>none
 | fk+1,out',first=>if decide ((y_ (first+count))<=24) then (bW fu ({ Pk:=first,Pz:=count }:Nj)).bind λy=>if (band mask y)==0 then (M_ out' [first]).bind λl=>yf fu mask count fk l (y_ (first+1)) else yf fu mask count fk out' (y_ (first+1)) else some (out',first)
def zu (fu:Nat) (mask:Int) (count:Int):Option (List Int):=(yf fu mask count fu ([]:List Int) 0).bind λz=>some z.1
def dp (fu:Nat) (mask:Int) (count:Int):Option (Nj×Bool):=(cO fu mask count).bind λy=>if !y then some (({ Pk:=0,Pz:=0 }:Nj),false) else (zu fu mask count).bind λy2=>if (y2.length:Int)==0 then some (({ Pk:=0,Pz:=0 }:Nj),false) else (V_ y2 0).bind λe=>some (({ Pk:=e,Pz:=count }:Nj),true)
def fi (fu:Nat) (mask:Int) (count:Int):Option (Nj×Bool):=(cO fu mask count).bind λy=>if !y then some (({ Pk:=0,Pz:=0 }:Nj),false) else (zu fu mask count).bind λy2=>if (y2.length:Int)==0 then some (({ Pk:=0,Pz:=0 }:Nj),false) else (V_ y2 (y_ ((y2.length:Int) - 1))).bind λe=>some (({ Pk:=e,Pz:=count }:Nj),true)
def x7 (fu:Nat) (mask:Int):Nat->Int->Option (Int)
 | 0,_=>none
 | fk+1,s2=>(if decide (s2<24) then (shr mask s2).bind λq=>some ((band q 1)==0) else some false).bind λc2=>if c2 then x7 fu mask fk (y_ (s2+1)) else some s2
def xK (fu:Nat) (mask:Int):Nat->List Nj->Int->Option (List Nj×Int)
 | 0,_,_=>none
 | fk+1,out',s'=>if decide (s'<24) then (x7 fu mask fu s').bind λz=>if decide (z > s') then (M_ out' [({ Pk:=s',Pz:=y_ (z - s') }:Nj)]).bind λl=>xK fu mask fk l (y_ (z+1)) else xK fu mask fk out' (y_ (z+1)) else some (out',s')
def dj (fu:Nat) (mask:Int):Option (List Nj):=(xK fu mask fu ([]:List Nj) 0).bind λz2=>some z2.1
def x6 (fu:Nat) (count:Int) (y2:List Nj):Nat->Int->Int->Int->Option (Int×Int×Int)
 | 0,_,_,_=>none
 | fk+1,i,m,m2=>if decide (i<(y2.length:Int)) then (V_ y2 i).bind λe=>(if decide (e.Pz>=count) then if m2==0 then some true else some (decide (e.Pz<m2)) else some false).bind λc2=>if c2 then x6 fu count y2 fk (y_ (i+1)) e.Pk e.Pz else x6 fu count y2 fk (y_ (i+1)) m m2 else some (i,m,m2)
def fj (fu:Nat) (mask:Int) (count:Int):Option (Nj×Bool):=(cO fu mask count).bind λy=>if !y then some (({ Pk:=0,Pz:=0 }:Nj),false) else (dj fu mask).bind λy2=>(x6 fu count y2 fu 0 0 0).bind λz=>if z.2.2==0 then some (({ Pk:=0,Pz:=0 }:Nj),false) else some (({ Pk:=z.2.1,Pz:=count }:Nj),true)
def dX (fu:Nat) (mask:Int) (count:Int) (fit:Int):Option (Nj×Bool):=if fit==1 then (dp fu mask count).bind λy=>some (y.1,y.2) else if fit==2 then (fi fu mask count).bind λy2=>some (y2.1,y2.2) else (fj fu mask count).bind λy3=>some (y3.1,y3.2)
def xW (fu:Nat) (p:Nh) (fit:Int) (y2:List Px):Nat->List Nx->Int->Option (List Nx×Int)
 | 0,_,_=>none
 | fk+1,out',i=>if decide (i<(y2.length:Int)) then (V_ y2 i).bind λe=>(cu fu p e.route).bind λy3=>(dX fu y3 e.count fit).bind λy4=>if y4.2 then (M_ out' [({ Id:=0,Nz:=e.route,Nj:=y4.1 }:Nx)]).bind λl=>xW fu p fit y2 fk l (y_ (i+1)) else xW fu p fit y2 fk out' (y_ (i+1)) else some (out',i)
def bY (fu:Nat) (p:Nh) (formats:List Ng) (d':Nd) (fit:Int):Option (List Nx×Bool):=(dA fu p.Nq formats d').bind λy=>if !y.2 then some (([]:List Nx),false) else (dC fu y.1).bind λy2=>(xW fu p fit y2 fu ([]:List Nx) 0).bind λz=>some (z.1,true)
def dh (fu:Nat) (x1:Nx) (cap:Int):Option (Bool):=some (x1.Id==cap)
def uG (fu:Nat) (s':List Nx) (cap:Int):Nat->Int->Option (Out (Int) (Int))
 | 0,_=>none
 | fk+1,i=>if decide (i<(s'.length:Int)) then (V_ s' i).bind λe=>(dh fu e cap).bind λy=>if y then some (.ret i) else uG fu s' cap fk (y_ (i+1)) else some (.next i)
def vh (fu:Nat) (s':List Nx) (cap:Int):Option (Int):=(uG fu s' cap fu 0).bind λout=>out.on some λz=>some (-1)
def dV (fu:Nat) (p:Nh) (id:Int):Option (Int):=(vh fu p.Nk id).bind λy=>some y
def ax (fu:Nat) (p:Nh):Nat->Int->Option (Int)
 | 0,_=>none
 | fk+1,id=>(dV fu p id).bind λy=>if decide (y>=0) then ax fu p fk (y_ (id+1)) else some id
def eQ (fu:Nat) (p:Nh):Option (Int):=(ax fu p fu 1).bind λz=>some z
def yB (fu:Nat) (p:Nh) (x1:Nx):Nat->Int->Option (Int)
 | 0,_=>none
 | fk+1,at'=>(if decide (at'<(p.Nk.length:Int)) then (V_ p.Nk at').bind λe=>some (decide (e.Id<x1.Id)) else some false).bind λc8=>if c8 then yB fu p x1 fk (y_ (at' + 1)) else some at'
def ct (fu:Nat) (p:Nh) (x1:Nx):Option (Nh):=(bu fu p).bind λy=>(yB fu p x1 fu 0).bind λz=>(bK fu x1.Nz).bind λy2=>(insl y.Nk z [({ Id:=x1.Id,Nz:=y2,Nj:=x1.Nj }:Nx)]).bind λl=>some ({ Nq:=y.Nq,Nk:=l }:Nh)
def fQ (fu:Nat) (p:Nh) (formats:List Ng) (d':Nd) (fit:Int):Option (Nh×Int×Bool):=(bY fu p formats d' fit).bind λy=>if !y.2 then some (({ Nq:=({ Nv:=[],Nw:=[] }:Nq),Nk:=[] }:Nh),0,false) else (if (y.1.length:Int)==0 then some true else some ((p.Nk.length:Int)==12)).bind λc6=>if c6 then (bu fu p).bind λy2=>some (y2,0,true) else (V_ y.1 0).bind λe=>(eQ fu p).bind λy3=>(ct fu p ({ Id:=y3,Nz:=e.Nz,Nj:=e.Nj }:Nx)).bind λy4=>some (y4,y3,true)
def yp (fu:Nat) (formats:List Ng) (list:List Nd) (fit:Int) (order:List Int):Nat->Int->List ByteArray->List Pq->List Nx->List Int->Int->Option (Out (Int×List ByteArray×List Pq×List Nx×List Int×Int) (Rq×Bool))
 | 0,_,_,_,_,_,_=>none
 | fk+1,i,m,m2,m3,m4,m5=>if decide (i<(order.length:Int)) then (V_ order i).bind λe=>(V_ list e).bind λe2=>(fQ fu ({ Nq:=({ Nv:=m,Nw:=m2 }:Nq),Nk:=m3 }:Nh) formats e2 fit).bind λy2=>if !y2.2.2 then some (.ret (({ Nh:=({ Nq:=({ Nv:=[],Nw:=[] }:Nq),Nk:=[] }:Nh),Ids:=[],Rw:=0 }:Rq),false)) else (V_ m4 e).bind λe3=>if y2.2.1==0 then yp fu formats list fit order fk (y_ (i+1)) y2.1.Nq.Nv y2.1.Nq.Nw y2.1.Nk (m4.set (e:Int).toNat y2.2.1) (y_ (m5+1)) else yp fu formats list fit order fk (y_ (i+1)) y2.1.Nq.Nv y2.1.Nq.Nw y2.1.Nk (m4.set (e:Int).toNat y2.2.1) m5 else some (.next (i,m,m2,m3,m4,m5))
def dU (fu:Nat) (p:Nh) (formats:List Ng) (list:List Nd) (fit:Int) (order:List Int):Option (Rq×Bool):=(bu fu p).bind λy=>(mk (0:Int) (list.length:Int)).bind λl=>(yp fu formats list fit order fu 0 y.Nq.Nv y.Nq.Nw y.Nk l 0).bind λout=>out.on some λz=>some (({ Nh:=({ Nq:=({ Nv:=z.2.1,Nw:=z.2.2.1 }:Nq),Nk:=z.2.2.2.1 }:Nh),Ids:=z.2.2.2.2.1,Rw:=z.2.2.2.2.2 }:Rq),true)
def xl (fu:Nat) (x1:Int) (a':Int) (b':Int):Option (Bool):=(if decide (x1>=a') then some (decide (x1<=b')) else some false).bind λc=>some c
def eA (fu:Nat) (b':By):Option (Bool):=(if decide (b'.n>=97) then if decide (b'.n<=122) then some true else if decide (b'.n>=48) then some (decide (b'.n<=57)) else some false else if decide (b'.n>=48) then some (decide (b'.n<=57)) else some false).bind λc=>some c
def yI (fu:Nat) (s':ByteArray):Nat->Int->Option (Out (Int) (Bool))
 | 0,_=>none
 | fk+1,i=>if decide (i<(s'.size:Int)) then (sidx s' i).bind λe3=>(eA fu e3).bind λy2=>if !y2 then some (.ret false) else yI fu s' fk (y_ (i+1)) else some (.next i)
def eC (fu:Nat) (s':ByteArray):Option (Bool):=((xl fu (s'.size:Int) 1 8).bind λy=>if !y then some true else (sidx s' 0).bind λe=>if decide (e.n<97) then some true else (sidx s' 0).bind λe2=>some (decide (e2.n > 122))).bind λc=>if c then some false else (yI fu s' fu 0).bind λout=>out.on some λz=>some true
def zr (fu:Nat) (list:List ByteArray) (name:ByteArray):Nat->Int->Option (Out (Int) (Int))
 | 0,_=>none
 | fk+1,i=>if decide (i<(list.length:Int)) then (V_ list i).bind λe=>if e.toList==name.toList then some (.ret i) else zr fu list name fk (y_ (i+1)) else some (.next i)
def eD (fu:Nat) (list:List ByteArray) (name:ByteArray):Option (Int):=(zr fu list name fu 0).bind λout=>out.on some λz=>some (-1)
def dO (fu:Nat) (f:Pq) (nodes:Int):Option (Bool):=((xl fu f.A 0 (y_ (nodes - 1))).bind λy=>if y then (xl fu f.B (y_ (f.A+1)) (y_ (nodes - 1))).bind λy2=>if y2 then (xl fu f.Pg 1 5000).bind λy3=>if y3 then (xl fu f.Pp 0 9).bind λy4=>some y4 else some false else some false else some false).bind λc=>some c
def zo (fu:Nat) (n':Nq):Nat->Int->Option (Out (Int) (Bool))
 | 0,_=>none
 | fk+1,i=>if decide (i<(n'.Nv.length:Int)) then ((V_ n'.Nv i).bind λe=>(eC fu e).bind λy2=>if !y2 then some true else (V_ n'.Nv i).bind λe2=>(eD fu n'.Nv e2).bind λy3=>some (y3 != i)).bind λc4=>if c4 then some (.ret false) else zo fu n' fk (y_ (i+1)) else some (.next i)
def zn (fu:Nat) (n':Nq):Nat->Int->Option (Out (Int) (Bool))
 | 0,_=>none
 | fk+1,i3=>if decide (i3<(n'.Nw.length:Int)) then ((V_ n'.Nw i3).bind λe3=>(dO fu e3 (n'.Nv.length:Int)).bind λy4=>if !y4 then some true else if decide (i3 > 0) then (V_ n'.Nw (y_ (i3 - 1))).bind λe4=>(V_ n'.Nw i3).bind λe5=>(cc fu e4 e5).bind λy5=>some (decide (y5 > 0)) else some false).bind λc5=>if c5 then some (.ret false) else zn fu n' fk (y_ (i3+1)) else some (.next i3)
def aw (fu:Nat) (n':Nq):Option (Bool):=((xl fu (n'.Nv.length:Int) 2 8).bind λy=>if !y then some true else some (decide ((n'.Nw.length:Int) > 14))).bind λc3=>if c3 then some false else (zo fu n' fu 0).bind λout=>out.on some λz2=>(zn fu n' fu 0).bind λout=>out.on some λz=>some true
def av (fu:Nat) (n':Nq) (r':Nz):Nat->List Int->Int->Option (Out (List Int×Int) (List Int×Bool))
 | 0,_,_=>none
 | fk+1,out',i=>if decide (i<(r'.Nw.length:Int)) then (V_ r'.Nw i).bind λe=>(xl fu e 0 (y_ ((n'.Nw.length:Int) - 1))).bind λy2=>if !y2 then some (.ret (out',false)) else (V_ r'.Nw i).bind λe2=>(V_ out' (y_ ((out'.length:Int) - 1))).bind λe3=>(yK fu n' e2 e3).bind λy3=>(if decide (y3<0) then some true else (bG fu out' y3).bind λy4=>some y4).bind λc6=>if c6 then some (.ret (out',false)) else (M_ out' [y3]).bind λl=>av fu n' r' fk l (y_ (i+1)) else some (.next (out',i))
def dv (fu:Nat) (n':Nq) (r':Nz):Option (List Int×Bool):=((xl fu r'.Nt 0 (y_ ((n'.Nv.length:Int) - 1))).bind λy=>if !y then some true else some ((r'.Nw.length:Int)==0)).bind λc4=>if c4 then some ([r'.Nt],false) else (av fu n' r' fu [r'.Nt] 0).bind λout=>out.on some λz=>some (z.1,true)
def ez (fu:Nat) (n':Nq) (r':Nz):Option (Bool):=(aw fu n').bind λy=>if !y then some false else (dv fu n' r').bind λy2=>some y2.2
def ey (fu:Nat) (b':Nj):Option (Bool):=((xl fu b'.Pk 0 23).bind λy=>if y then (xl fu b'.Pz 1 (y_ (24 - b'.Pk))).bind λy2=>some y2 else some false).bind λc=>some c
def dN (fu:Nat) (n':Nq) (x1:Nx):Option (Bool):=((xl fu x1.Id 1 999).bind λy=>if y then (ez fu n' x1.Nz).bind λy2=>if y2 then (ey fu x1.Nj).bind λy3=>some y3 else some false else some false).bind λc4=>some c4
def zm (fu:Nat) (r':Nz) (group:List Int):Nat->Int->Option (Out (Int) (Bool))
 | 0,_=>none
 | fk+1,i=>if decide (i<(r'.Nw.length:Int)) then (V_ r'.Nw i).bind λe=>(bG fu group e).bind λy=>if y then some (.ret true) else zm fu r' group fk (y_ (i+1)) else some (.next i)
def aZ (fu:Nat) (r':Nz) (group:List Int):Option (Bool):=(zm fu r' group fu 0).bind λout=>out.on some λz=>some false
def cp (fu:Nat) (x1:Nx) (y:Nx):Option (Bool):=((aZ fu x1.Nz y.Nz.Nw).bind λy2=>if y2 then (zD fu x1.Nj).bind λy3=>(zD fu y.Nj).bind λy4=>some ((band y3 y4) != 0) else some false).bind λc3=>some c3
def yH (fu:Nat) (p:Nh) (i:Int):Nat->Int->Option (Out (Int) (Bool))
 | 0,_=>none
 | fk+1,k'=>if decide (k'<i) then (V_ p.Nk k').bind λe4=>(V_ p.Nk i).bind λe5=>(cp fu e4 e5).bind λy3=>if y3 then some (.ret false) else yH fu p i fk (y_ (k' + 1)) else some (.next k')
def zk (fu:Nat) (p:Nh):Nat->Int->Option (Out (Int) (Bool))
 | 0,_=>none
 | fk+1,i=>if decide (i<(p.Nk.length:Int)) then ((V_ p.Nk i).bind λe=>(dN fu p.Nq e).bind λy2=>if !y2 then some true else if decide (i > 0) then (V_ p.Nk (y_ (i - 1))).bind λe2=>(V_ p.Nk i).bind λe3=>some (decide (e2.Id>=e3.Id)) else some false).bind λc5=>if c5 then some (.ret false) else (yH fu p i fu 0).bind λout=>out.on (λr=>some (.ret r)) λz=>zk fu p fk (y_ (i+1)) else some (.next i)
def eq (fu:Nat) (p:Nh):Option (Bool):=((aw fu p.Nq).bind λy=>if !y then some true else some (decide ((p.Nk.length:Int) > 12))).bind λc4=>if c4 then some false else (zk fu p fu 0).bind λout=>out.on some λz2=>some true
def xU (fu:Nat) (list:List Ng):Nat->Int->Option (Out (Int) (Bool))
 | 0,_=>none
 | fk+1,i=>(if decide (i<(list.length:Int)) then some (decide (i<=6)) else some false).bind λc2=>if c2 then ((V_ list i).bind λe=>(xl fu e.Reach 1 20000).bind λy=>if !y then some true else (V_ list i).bind λe2=>(xl fu e2.Ph 1 1000).bind λy2=>if !y2 then some true else if decide (i > 0) then (V_ list (y_ (i - 1))).bind λe3=>(V_ list i).bind λe4=>if decide (e3.Reach<=e4.Reach) then some true else (V_ list (y_ (i - 1))).bind λe5=>(V_ list i).bind λe6=>some (decide (e5.Ph>=e6.Ph)) else some false).bind λc3=>if c3 then some (.ret false) else xU fu list fk (y_ (i+1)) else some (.next i)
def zG (fu:Nat) (list:List Ng):Option (Bool):=(xU fu list fu 0).bind λout=>out.on some λz=>(xl fu (list.length:Int) 1 6).bind λy3=>some y3
def bJ (fu:Nat) (n':Nq) (d':Nd):Option (Bool):=((xl fu d'.Pt 0 (y_ ((n'.Nv.length:Int) - 1))).bind λy=>if y then (xl fu d'.To 0 (y_ ((n'.Nv.length:Int) - 1))).bind λy2=>if y2 then if d'.Pt != d'.To then (xl fu d'.Ph 1 1000).bind λy3=>if y3 then (xl fu d'.Rk 0 2).bind λy4=>some y4 else some false else some false else some false else some false).bind λc3=>some c3
def xV (fu:Nat) (n':Nq) (list:List Nd):Nat->Int->Option (Out (Int) (Bool))
 | 0,_=>none
 | fk+1,i=>(if decide (i<(list.length:Int)) then some (decide (i<=12)) else some false).bind λc4=>if c4 then (V_ list i).bind λe=>(bJ fu n' e).bind λy=>if !y then some (.ret false) else xV fu n' list fk (y_ (i+1)) else some (.next i)
def aI (fu:Nat) (n':Nq) (list:List Nd):Option (Bool):=(xV fu n' list fu 0).bind λout=>out.on some λz=>(if decide ((list.length:Int)<=12) then (aw fu n').bind λy2=>some y2 else some false).bind λc5=>some c5
def cY (fu:Nat) (p:Nh) (formats:List Ng) (list:List Nd) (fit:Int):Option (Bool):=((eq fu p).bind λy=>if y then (zG fu formats).bind λy2=>if y2 then (aI fu p.Nq list).bind λy3=>if y3 then (xl fu fit 1 3).bind λy4=>some y4 else some false else some false else some false).bind λc6=>some c6
def yS (fu:Nat) (n':Nq) (r':Nz):Nat->Int->Int->Option (Int×Int)
 | 0,_,_=>none
 | fk+1,sum,i=>if decide (i<(r'.Nw.length:Int)) then (V_ r'.Nw i).bind λe=>(V_ n'.Nw e).bind λe2=>yS fu n' r' fk (y_ (sum+e2.Pg)) (y_ (i+1)) else some (sum,i)
def a7 (fu:Nat) (n':Nq) (r':Nz):Option (Int):=(yS fu n' r' fu 0 0).bind λz=>some z.1
def bT (fu:Nat) (x1:Int):Option (Int):=if decide (x1<0) then some (-1) else if decide (x1 > 0) then some 1 else some 0
def yy (fu:Nat) (a':Nz) (b':Nz):Nat->Int->Option (Out (Int) (Int))
 | 0,_=>none
 | fk+1,i=>if decide (i<(a'.Nw.length:Int)) then (V_ a'.Nw i).bind λe=>(V_ b'.Nw i).bind λe2=>if e != e2 then (V_ a'.Nw i).bind λe3=>(V_ b'.Nw i).bind λe4=>(bT fu (y_ (e3 - e4))).bind λy5=>some (.ret y5) else yy fu a' b' fk (y_ (i+1)) else some (.next i)
def cq (fu:Nat) (n':Nq) (a':Nz) (b':Nz):Option (Int):=(a7 fu n' a').bind λy=>(a7 fu n' b').bind λy2=>if (y_ (y - y2)) != 0 then (bT fu (y_ (y - y2))).bind λy3=>some y3 else if (y_ ((a'.Nw.length:Int) - (b'.Nw.length:Int))) != 0 then (bT fu (y_ ((a'.Nw.length:Int) - (b'.Nw.length:Int)))).bind λy4=>some y4 else (yy fu a' b' fu 0).bind λout=>out.on some λz=>(bT fu (y_ (a'.Nt - b'.Nt))).bind λy6=>some y6
def xQ (fu:Nat) (x1:Pj) (r':Nz):Nat->Int->Option (Int)
 | 0,_=>none
 | fk+1,i=>(if decide (i > 0) then (V_ x1.list (y_ (i - 1))).bind λe=>(cq fu x1.n r' e).bind λy=>some (decide (y<0)) else some false).bind λc5=>if c5 then xQ fu x1 r' fk (y_ (i - 1)) else some i
def aB (fu:Nat) (x1:Pj) (r':Nz):Option (Pj):=(xQ fu x1 r' fu (x1.list.length:Int)).bind λz=>(sub x1.list 0 z).bind λl=>(sub x1.list z (x1.list.length:Int)).bind λl2=>(M_ ([]:List Nz) l).bind λl3=>(M_ l3 [r']).bind λl4=>(M_ l4 l2).bind λl5=>some ({ n:=x1.n,to:=x1.to,list:=l5 }:Pj)
def vx (fu:Nat) (r':Nz) (seen:List Int) (rec_:(Pj)->(Nz)->(List Int)->Option (Pj)) (e:Int):Nat->Int->List ByteArray->List Pq->Int->List Nz->Option (Int×List ByteArray×List Pq×Int×List Nz)
 | 0,_,_,_,_,_=>none
 | fk+1,i,m,m2,m3,m4=>(if decide (i<(m2.length:Int)) then some (decide ((m4.length:Int)<=200)) else some false).bind λc12=>if c12 then (yK fu ({ Nv:=m,Nw:=m2 }:Nq) i e).bind λy2=>(if decide (y2>=0) then (bG fu seen y2).bind λy3=>some (!y3) else some false).bind λc13=>if c13 then (bE fu r'.Nw).bind λy4=>(M_ y4 [i]).bind λl=>(bE fu seen).bind λy5=>(M_ y5 [y2]).bind λl2=>(rec_ ({ n:=({ Nv:=m,Nw:=m2 }:Nq),to:=m3,list:=m4 }:Pj) ({ Nt:=r'.Nt,Nw:=l }:Nz) l2).bind λy6=>vx fu r' seen rec_ e fk (y_ (i+1)) y6.n.Nv y6.n.Nw y6.to y6.list else vx fu r' seen rec_ e fk (y_ (i+1)) m m2 m3 m4 else some (i,m,m2,m3,m4)
def zM (fu:Nat) (rec_:(Pj)->(Nz)->(List Int)->Option (Pj)) (x1:Pj) (r':Nz) (seen:List Int):Option (Pj):=(V_ seen (y_ ((seen.length:Int) - 1))).bind λe=>if e==x1.to then (aB fu x1 r').bind λy=>some y else (vx fu r' seen rec_ e fu 0 x1.n.Nv x1.n.Nw x1.to x1.list).bind λz=>some ({ n:=({ Nv:=z.2.1,Nw:=z.2.2.1 }:Nq),to:=z.2.2.2.1,list:=z.2.2.2.2 }:Pj)
def vH:Nat->(Pj)->(Nz)->(List Int)->Option (Pj)
 | 0,_,_,_=>none
 | fu+1,x1,r',seen=>zM fu (λx1 r' seen=>vH fu x1 r' seen) x1 r' seen
def eh (fu:Nat) (n':Nq) (from':Int) (to:Int):Option (List Nz×Bool):=(vH fu ({ n:=n',to:=to,list:=[] }:Pj) ({ Nt:=from',Nw:=[] }:Nz) [from']).bind λy=>if decide ((y.list.length:Int) > 200) then some (([]:List Nz),false) else (M_ ([]:List Nz) y.list).bind λl=>some (l,true)
def xY (fu:Nat) (list:List Ng) (length:Int):Nat->Int->Int->Option (Int×Int)
 | 0,_,_=>none
 | fk+1,best,i=>if decide (i<(list.length:Int)) then (V_ list i).bind λe=>if decide (e.Reach>=length) then xY fu list length fk i (y_ (i+1)) else xY fu list length fk best (y_ (i+1)) else some (best,i)
def fe (fu:Nat) (list:List Ng) (length:Int):Option (Int):=(xY fu list length fu (-1) 0).bind λz=>some z.1
def cZ (fu:Nat) (list:List Ng) (length:Int) (rate:Int):Option (Int):=(fe fu list length).bind λy=>if decide (y<0) then some 0 else (V_ list y).bind λe=>(V_ list y).bind λe2=>(quo (y_ ((y_ (rate+e.Ph)) - 1)) e2.Ph).bind λq=>if decide (q > 24) then some 0 else some q
def ye (fu:Nat) (n':Nq) (formats:List Ng) (d':Nd) (y:List Nz×Bool):Nat->List Nz->List Int->Int->Option (List Nz×List Int×Int)
 | 0,_,_,_=>none
 | fk+1,routes,slots,i=>if decide (i<(y.1.length:Int)) then (V_ y.1 i).bind λe=>(a7 fu n' e).bind λy2=>(cZ fu formats y2 d'.Ph).bind λy3=>if decide (y3 > 0) then (V_ y.1 i).bind λe2=>(M_ routes [e2]).bind λl=>(M_ slots [y3]).bind λl2=>ye fu n' formats d' y fk l l2 (y_ (i+1)) else ye fu n' formats d' y fk routes slots (y_ (i+1)) else some (routes,slots,i)
def bI (fu:Nat) (n':Nq) (formats:List Ng) (d':Nd):Option (List Nz×List Int×Bool):=(eh fu n' d'.Pt d'.To).bind λy=>if !y.2 then some (([]:List Nz),([]:List Int),false) else (ye fu n' formats d' y fu ([]:List Nz) ([]:List Int) 0).bind λz=>some (z.1,z.2.1,true)
def vA (fu:Nat) (mask:Int):Nat->Int->Int->List Nj->Option (Int×Int×List Nj)
 | 0,_,_,_=>none
 | fk+1,count,s',out'=>if decide (s'<=24) then (if decide (s'<24) then (shr mask (wu64 s')).bind λq=>some ((band q 1)==0) else some false).bind λc2=>if c2 then vA fu mask fk (y_ (count+1)) (y_ (s' + 1)) out' else if decide (count > 0) then (M_ out' [({ Pk:=y_ (s' - count),Pz:=count }:Nj)]).bind λl=>vA fu mask fk 0 (y_ (s' + 1)) l else vA fu mask fk 0 (y_ (s' + 1)) out' else some (count,s',out')
def eu (fu:Nat) (mask:Int):Option (List Nj):=(vA fu mask fu 0 0 ([]:List Nj)).bind λz=>some z.2.2
def ym (fu:Nat) (count:Int) (y:List Nj):Nat->Int->Int->Int->Option (Int×Int×Int)
 | 0,_,_,_=>none
 | fk+1,i,m,m2=>if decide (i<(y.length:Int)) then ((V_ y i).bind λe=>if decide (e.Pz>=count) then if m2==0 then some true else (V_ y i).bind λe2=>some (decide (e2.Pz<m2)) else some false).bind λc2=>if c2 then (V_ y i).bind λe3=>ym fu count y fk (y_ (i+1)) e3.Pk e3.Pz else ym fu count y fk (y_ (i+1)) m m2 else some (i,m,m2)
def ga (fu:Nat) (mask:Int) (count:Int):Option (Nj):=(eu fu mask).bind λy=>(ym fu count y fu 0 0 0).bind λz=>if decide (z.2.2 > 0) then some ({ Pk:=z.2.1,Pz:=count }:Nj) else some ({ Pk:=z.2.1,Pz:=z.2.2 }:Nj)
def cX (fu:Nat) (mask:Int) (count:Int) (fit:Int):Option (Nj):=(cD fu mask count).bind λy=>if (y.length:Int)==0 then some ({ Pk:=0,Pz:=0 }:Nj) else if fit==1 then (V_ y 0).bind λe=>some ({ Pk:=e,Pz:=count }:Nj) else if fit==2 then (V_ y (y_ ((y.length:Int) - 1))).bind λe2=>some ({ Pk:=e2,Pz:=count }:Nj) else (ga fu mask count).bind λy2=>some y2
def xS (fu:Nat) (y:List Nz×List Int×Bool) (order:List Int) (i:Int):Nat->Int->Option (Int)
 | 0,_=>none
 | fk+1,k'=>(if decide (k' > 0) then (V_ order (y_ (k' - 1))).bind λe=>(V_ y.2.1 e).bind λe2=>(V_ order (y_ (k' - 1))).bind λe3=>(V_ y.1 e3).bind λe4=>(V_ y.2.1 i).bind λe5=>(V_ y.1 i).bind λe6=>some (decide ((y_ (e2 * (e4.Nw.length:Int))) > (y_ (e5 * (e6.Nw.length:Int))))) else some false).bind λc8=>if c8 then xS fu y order i fk (y_ (k' - 1)) else some k'
def xT (fu:Nat) (y:List Nz×List Int×Bool):Nat->List Int->Int->Option (List Int×Int)
 | 0,_,_=>none
 | fk+1,order,i=>if decide (i<(y.1.length:Int)) then (xS fu y order i fu (order.length:Int)).bind λz=>(sub order 0 z).bind λl=>(sub order z (order.length:Int)).bind λl2=>(M_ ([]:List Int) l).bind λl3=>(M_ l3 [i]).bind λl4=>(M_ l4 l2).bind λl5=>xT fu y fk l5 (y_ (i+1)) else some (order,i)
def xR (fu:Nat) (p:Nh) (fit:Int) (y:List Nz×List Int×Bool) (order2:List Int):Nat->List Nx->Int->Option (List Nx×Int)
 | 0,_,_=>none
 | fk+1,out3,i3=>if decide (i3<(order2.length:Int)) then (V_ order2 i3).bind λe7=>(V_ y.1 e7).bind λe8=>(V_ order2 i3).bind λe9=>(V_ y.2.1 e9).bind λe10=>(zZ fu p e8).bind λy2=>(cX fu y2 e10 fit).bind λy3=>if decide (y3.Pz > 0) then (cL fu e8).bind λy4=>(M_ out3 [({ Id:=0,Nz:=y4,Nj:=y3 }:Nx)]).bind λal=>xR fu p fit y order2 fk al (y_ (i3+1)) else xR fu p fit y order2 fk out3 (y_ (i3+1)) else some (out3,i3)
def bV (fu:Nat) (p:Nh) (formats:List Ng) (d':Nd) (fit:Int):Option (List Nx×Bool):=(bI fu p.Nq formats d').bind λy=>if !y.2.2 then some (([]:List Nx),false) else (xT fu y fu ([]:List Int) 0).bind λz3=>(xR fu p fit y z3.1 fu ([]:List Nx) 0).bind λz2=>some (z2.1,true)
def bc (fu:Nat) (p:Nh):Nat->Int->Int->Option (Int×Int)
 | 0,_,_=>none
 | fk+1,id,i=>(if decide (i<(p.Nk.length:Int)) then (V_ p.Nk i).bind λe=>some (e.Id==id) else some false).bind λc4=>if c4 then bc fu p fk (y_ (id+1)) (y_ (i+1)) else some (id,i)
def fJ (fu:Nat) (p:Nh):Option (Int):=(bc fu p fu 1 0).bind λz=>some z.1
def cW (fu:Nat) (p:Nh) (formats:List Ng) (d':Nd) (fit:Int):Option (Nh×Int×Bool):=(bV fu p formats d' fit).bind λy=>if !y.2 then some (({ Nq:=({ Nv:=[],Nw:=[] }:Nq),Nk:=[] }:Nh),0,false) else (if (y.1.length:Int)==0 then some true else some ((p.Nk.length:Int)==12)).bind λc6=>if c6 then (cK fu p).bind λy2=>some (y2,0,true) else (V_ y.1 0).bind λe=>(fJ fu p).bind λy3=>(bD fu p ({ Id:=y3,Nz:=e.Nz,Nj:=e.Nj }:Nx)).bind λy4=>some (y4,y3,true)
def yJ (fu:Nat) (formats:List Ng) (list:List Nd) (fit:Int) (order:List Int):Nat->Int->List ByteArray->List Pq->List Nx->List Int->Int->Option (Out (Int×List ByteArray×List Pq×List Nx×List Int×Int) (Rq×Bool))
 | 0,_,_,_,_,_,_=>none
 | fk+1,i,m,m2,m3,m4,m5=>if decide (i<(order.length:Int)) then (V_ order i).bind λe=>(V_ list e).bind λe2=>(cW fu ({ Nq:=({ Nv:=m,Nw:=m2 }:Nq),Nk:=m3 }:Nh) formats e2 fit).bind λy2=>if !y2.2.2 then some (.ret (({ Nh:=({ Nq:=({ Nv:=[],Nw:=[] }:Nq),Nk:=[] }:Nh),Ids:=[],Rw:=0 }:Rq),false)) else (V_ order i).bind λe3=>(V_ m4 e3).bind λe4=>if y2.2.1==0 then yJ fu formats list fit order fk (y_ (i+1)) y2.1.Nq.Nv y2.1.Nq.Nw y2.1.Nk (m4.set (e3:Int).toNat y2.2.1) (y_ (m5+1)) else yJ fu formats list fit order fk (y_ (i+1)) y2.1.Nq.Nv y2.1.Nq.Nw y2.1.Nk (m4.set (e3:Int).toNat y2.2.1) m5 else some (.next (i,m,m2,m3,m4,m5))
def eF (fu:Nat) (p:Nh) (formats:List Ng) (list:List Nd) (fit:Int) (order:List Int):Option (Rq×Bool):=(cK fu p).bind λy=>(mk (0:Int) (list.length:Int)).bind λl=>(yJ fu formats list fit order fu 0 y.Nq.Nv y.Nq.Nw y.Nk l 0).bind λout=>out.on some λz=>some (({ Nh:=({ Nq:=({ Nv:=z.2.1,Nw:=z.2.2.1 }:Nq),Nk:=z.2.2.2.1 }:Nh),Ids:=z.2.2.2.2.1,Rw:=z.2.2.2.2.2 }:Rq),true)
def dl (fu:Nat) (n':Nq) (formats:List Ng) (d':Nd):Option (Px×Bool):=(dA fu n' formats d').bind λy=>(if !y.2 then some true else some ((y.1.length:Int)==0)).bind λc5=>if c5 then some (({ route:=({ Nt:=0,Nw:=[] }:Nz),count:=0 }:Px),false) else (dC fu y.1).bind λy2=>(V_ y2 0).bind λe=>some (e,true)
def zJ (fu:Nat) (n':Nq) (formats:List Ng) (list:List Nd):Nat->List Int->Int->Option (Out (List Int×Int) (List Int×Bool))
 | 0,_,_=>none
 | fk+1,out',i=>if decide (i<(list.length:Int)) then (V_ list i).bind λe=>(dl fu n' formats e).bind λy3=>if !y3.2 then some (.ret ([],false)) else (xL fu y3.1).bind λy4=>(M_ out' [y4]).bind λl=>zJ fu n' formats list fk l (y_ (i+1)) else some (.next (out',i))
def cP (fu:Nat) (n':Nq) (formats:List Ng) (list:List Nd):Option (List Int×Bool):=((xI fu formats).bind λy=>if !y then some true else (yc fu n' list).bind λy2=>some (!y2)).bind λc5=>if c5 then some ([],false) else (zJ fu n' formats list fu ([]:List Int) 0).bind λout=>out.on some λz=>some (z.1,true)
def yo (fu:Nat) (l:List Int):Nat->Int->Int->Option (Int×Int)
 | 0,_,_=>none
 | fk+1,sum,i=>if decide (i<(l.length:Int)) then (V_ l i).bind λe=>yo fu l fk (y_ (sum+e)) (y_ (i+1)) else some (sum,i)
def fg (fu:Nat) (l:List Int):Option (Int):=(yo fu l fu 0 0).bind λz=>some z.1
def cy (fu:Nat) (n':Nq) (formats:List Ng) (list:List Nd):Option (Int×Bool):=(cP fu n' formats list).bind λy=>(fg fu y.1).bind λy2=>some (y2,y.2)
def cV (fu:Nat) (list:List Nx):Nat->List Nx->Int->Option (List Nx×Int)
 | 0,_,_=>none
 | fk+1,out',i=>if decide (i<(list.length:Int)) then (V_ list i).bind λe=>(bS fu e).bind λy=>(M_ out' [y]).bind λal=>cV fu list fk al (y_ (i+1)) else some (out',i)
def gT (fu:Nat) (list:List Nx):Option (List Nx):=(cV fu list fu ([]:List Nx) 0).bind λz=>some z.1
def kh (fu:Nat) (n':Nq) (r':Nz):Option (List Int):=(dv fu n' r').bind λy=>some y.1
def fH (fu:Nat) (n':Nq) (r':Nz):Option (Int):=(kh fu n' r').bind λy=>(V_ y (y_ ((y.length:Int) - 1))).bind λe=>some e
def gh (fu:Nat) (r':Pd):Option (Pd):=(cK fu r'.Nh).bind λy=>(gT fu r'.Rz).bind λy2=>(bE fu r'.Rv).bind λy3=>some ({ Nh:=y,Rz:=y2,Rv:=y3 }:Pd)
def co (fu:Nat) (p:Nh) (id:Int):Nat->Int->Option (Out (Int) (Int))
 | 0,_=>none
 | fk+1,i=>if decide (i<(p.Nk.length:Int)) then (V_ p.Nk i).bind λe=>if e.Id==id then some (.ret i) else co fu p id fk (y_ (i+1)) else some (.next i)
def f8 (fu:Nat) (p:Nh) (id:Int):Option (Int):=(co fu p id fu 0).bind λout=>out.on some λz=>some (-1)
def aj (fu:Nat) (r':Pd):Nat->List Int->Int->Option (List Int×Int)
 | 0,_,_=>none
 | fk+1,out',i=>if decide (i<(r'.Rz.length:Int)) then (V_ r'.Rz i).bind λe=>(f8 fu r'.Nh e.Id).bind λy=>if decide (y<0) then (M_ out' [i]).bind λl=>aj fu r' fk l (y_ (i+1)) else aj fu r' fk out' (y_ (i+1)) else some (out',i)
def gS (fu:Nat) (r':Pd):Option (List Int):=(aj fu r' fu ([]:List Int) 0).bind λz=>some z.1
def iU (fu:Nat) (n':Nq) (from':Int) (to:Int):Option (Bool):=((aw fu n').bind λy=>if y then (xl fu from' 0 (y_ ((n'.Nv.length:Int) - 1))).bind λy2=>if y2 then (xl fu to 0 (y_ ((n'.Nv.length:Int) - 1))).bind λy3=>if y3 then some (from' != to) else some false else some false else some false).bind λc3=>some c3
def dJ (fu:Nat) (n':Nq) (from':Int) (to:Int):Option (List Nz×Bool):=(iU fu n' from' to).bind λy=>if !y then some (([]:List Nz),false) else (eh fu n' from' to).bind λy2=>some (y2.1,y2.2)
def zX (fu:Nat) (r':Pd) (home:Nx) (y6:List Nz×Bool):Nat->Int->Option (Out (Int) (Nx×Bool))
 | 0,_=>none
 | fk+1,i=>(if decide (i<(y6.1.length:Int)) then some y6.2 else some false).bind λc10=>if c10 then (V_ y6.1 i).bind λe=>(aZ fu e r'.Rv).bind λy7=>if y7 then zX fu r' home y6 fk (y_ (i+1)) else (V_ y6.1 i).bind λe2=>(zZ fu r'.Nh e2).bind λy8=>(cD fu y8 home.Nj.Pz).bind λy9=>if decide ((y9.length:Int) > 0) then (V_ y6.1 i).bind λe3=>(V_ y9 0).bind λe4=>(cL fu e3).bind λy10=>some (.ret (({ Id:=home.Id,Nz:=y10,Nj:=({ Pk:=e4,Pz:=home.Nj.Pz }:Nj) }:Nx),true)) else zX fu r' home y6 fk (y_ (i+1)) else some (.next i)
def gg (fu:Nat) (r':Pd) (home:Nx):Option (Nx×Bool):=((aZ fu home.Nz r'.Rv).bind λy=>if !y then (zZ fu r'.Nh home.Nz).bind λy2=>(zD fu home.Nj).bind λy3=>some ((band y2 y3)==0) else some false).bind λc7=>if c7 then (bS fu home).bind λy4=>some (y4,true) else (fH fu r'.Nh.Nq home.Nz).bind λy5=>(dJ fu r'.Nh.Nq home.Nz.Nt y5).bind λy6=>(zX fu r' home y6 fu 0).bind λout=>out.on some λz=>some (({ Id:=0,Nz:=({ Nt:=0,Nw:=[] }:Nz),Nj:=({ Pk:=0,Pz:=0 }:Nj) }:Nx),false)
def cU (fu:Nat) (r':Pd) (i:Int):Option (Pd×Bool):=(V_ r'.Rz i).bind λe=>(gg fu r' e).bind λy=>(gh fu r').bind λy2=>if y.2 then (bD fu y2.Nh y.1).bind λy3=>some (({ Nh:=y3,Rz:=y2.Rz,Rv:=y2.Rv }:Pd),y.2) else some (y2,y.2)
def bH (fu:Nat) (r':Pd) (y2:List Int):Nat->List Int->Int->List ByteArray->List Pq->List Nx->List Nx->List Int->Option (List Int×Int×List ByteArray×List Pq×List Nx×List Nx×List Int)
 | 0,_,_,_,_,_,_,_=>none
 | fk+1,ids,i,m,m2,m3,m4,m5=>if decide (i<(y2.length:Int)) then (V_ y2 i).bind λe=>(cU fu ({ Nh:=({ Nq:=({ Nv:=m,Nw:=m2 }:Nq),Nk:=m3 }:Nh),Rz:=m4,Rv:=m5 }:Pd) e).bind λy3=>if y3.2 then (V_ y2 i).bind λe2=>(V_ r'.Rz e2).bind λe3=>(M_ ids [e3.Id]).bind λl=>bH fu r' y2 fk l (y_ (i+1)) y3.1.Nh.Nq.Nv y3.1.Nh.Nq.Nw y3.1.Nh.Nk y3.1.Rz y3.1.Rv else bH fu r' y2 fk ids (y_ (i+1)) y3.1.Nh.Nq.Nv y3.1.Nh.Nq.Nw y3.1.Nh.Nk y3.1.Rz y3.1.Rv else some (ids,i,m,m2,m3,m4,m5)
def iW (fu:Nat) (r':Pd):Option (Pd×List Int):=(gh fu r').bind λy=>(gS fu r').bind λy2=>(bH fu r' y2 fu ([]:List Int) 0 y.Nh.Nq.Nv y.Nh.Nq.Nw y.Nh.Nk y.Rz y.Rv).bind λz=>some (({ Nh:=({ Nq:=({ Nv:=z.2.2.1,Nw:=z.2.2.2.1 }:Nq),Nk:=z.2.2.2.2.1 }:Nh),Rz:=z.2.2.2.2.2.1,Rv:=z.2.2.2.2.2.2 }:Pd),z.1)
def aM (fu:Nat) (code:List By):Option (Nh×List Ng×List Nd):=(ah fu (⟨code,0,(⟨0⟩:U64)⟩:Np)).bind λy=>(ac fu y.2).bind λy2=>(ae fu y2.2 y.1.Nq).bind λy3=>some (y.1,y2.1,y3.1)
def zc (fu:Nat) (a':Int) (b4:Int) (cap:List Int):Option (Int):=(V_ cap b4).bind λe=>(V_ cap a').bind λe2=>(cmp_Compare_int fu e e2).bind λy=>some y
def uK (fu:Nat) (a':Int) (cap:List Int):Nat->List Int->Int->Option (List Int×Int)
 | 0,_,_=>none
 | fk+1,data3,j=>(if decide (j > a') then (V_ data3 j).bind λe=>(V_ data3 (y_ (j - 1))).bind λe2=>(zc fu e e2 cap).bind λy=>some (decide (y<0)) else some false).bind λc3=>if c3 then (V_ data3 (y_ (j - 1))).bind λe3=>(V_ data3 j).bind λe4=>(V_ data3 j).bind λe5=>(V_ (data3.set (j:Int).toNat e3) (y_ (j - 1))).bind λe6=>uK fu a' cap fk ((data3.set (j:Int).toNat e3).set (y_ (j - 1):Int).toNat e4) (y_ (j - 1)) else some (data3,j)
def uA (fu:Nat) (a':Int) (b5:Int) (cap:List Int):Nat->List Int->Int->Option (List Int×Int)
 | 0,_,_=>none
 | fk+1,data2,i=>if decide (i<b5) then (uK fu a' cap fu data2 i).bind λz=>uA fu a' b5 cap fk z.1 (y_ (i+1)) else some (data2,i)
def uY (fu:Nat) (data:List Int) (a':Int) (b5:Int) (cap:List Int):Option (List Int):=(uA fu a' b5 cap fu data (y_ (a' + 1))).bind λz2=>some z2.1
def u6 (fu:Nat) (n':Int) (cap:List Int):Nat->List Int->Int->Int->Option (List Int×Int×Int)
 | 0,_,_,_=>none
 | fk+1,data2,a',b4=>if decide (b4<=n') then (uY fu data2 a' b4 cap).bind λy=>u6 fu n' cap fk y b4 (y_ (b4+20)) else some (data2,a',b4)
def vr (fu:Nat) (n':Int) (blockSize:Int):Nat->Option (Unit)
 | 0=>none
 | fk+1=>if decide ((y_ (2 * blockSize))<=n') then none else some ()
def u5 (fu:Nat) (n':Int):Nat->Int->Option (Int)
 | 0,_=>none
 | fk+1,blockSize=>if decide (blockSize<n') then (vr fu n' blockSize fu).bind λz=>if decide ((y_ (0+blockSize))<n') then none else u5 fu n' fk (y_ (blockSize * 2)) else some blockSize
def vy (fu:Nat) (data:List Int) (n':Int) (cap:List Int):Option (List Int):=(u6 fu n' cap fu data 0 20).bind λz3=>(uY fu z3.1 z3.2.1 n' cap).bind λy2=>(u5 fu n' fu 20).bind λz2=>some y2
def u3 (fu:Nat) (x1:List Int) (cap:List Int):Option (List Int):=(vy fu x1 (x1.length:Int) cap).bind λy=>some y
def xv (fu:Nat) (list:List Nd):Nat->List Int->Int->Option (List Int×Int)
 | 0,_,_=>none
 | fk+1,out',i=>if decide (i<(list.length:Int)) then (M_ out' [i]).bind λl=>xv fu list fk l (y_ (i+1)) else some (out',i)
def zz (fu:Nat) (n':Nq) (formats:List Ng) (list:List Nd):Option (List Int×Bool):=(cP fu n' formats list).bind λy=>if !y.2 then some ([],false) else (xv fu list fu ([]:List Int) 0).bind λz=>(u3 fu z.1 y.1).bind λy2=>some (y2,true)
def yg (fu:Nat) (p:Nh) (formats:List Ng) (list:List Nd) (fit:Int):Option (Rq×Bool):=(zz fu p.Nq formats list).bind λy=>(if !y.2 then some true else (cw fu p formats list fit).bind λy2=>some (!y2)).bind λc7=>if c7 then some (({ Nh:=({ Nq:=({ Nv:=[],Nw:=[] }:Nq),Nk:=[] }:Nh),Ids:=[],Rw:=0 }:Rq),false) else (dU fu p formats list fit y.1).bind λy3=>some (y3.1,y3.2)
def vg (fu:Nat) (p:Nh) (formats:List Ng) (list:List Nd):Nat->Int->Int->Int->Option (Out (Int×Int×Int) (Int×Int×Bool))
 | 0,_,_,_=>none
 | fk+1,best,fewestBlocked,fit=>if decide (fit<=3) then (yg fu p formats list fit).bind λy=>if !y.2 then some (.ret (0,0,false)) else (if best==0 then some true else some (decide (y.1.Rw<fewestBlocked))).bind λc10=>if c10 then vg fu p formats list fk fit y.1.Rw (y_ (fit+1)) else vg fu p formats list fk best fewestBlocked (y_ (fit+1)) else some (.next (best,fewestBlocked,fit))
def ce (fu:Nat) (p:Nh) (formats:List Ng) (list:List Nd):Option (Int×Int×Bool):=(vg fu p formats list fu 0 0 1).bind λout=>out.on some λz=>some (z.1,z.2.1,true)
def cd (fu:Nat) (n':Nq) (formats:List Ng) (d':Nd):Option (List Nz×List Int×Bool):=((aw fu n').bind λy=>if !y then some true else (zG fu formats).bind λy2=>if !y2 then some true else (bJ fu n' d').bind λy3=>some (!y3)).bind λc4=>if c4 then some (([]:List Nz),([]:List Int),false) else (bI fu n' formats d').bind λy4=>some (y4.1,y4.2.1,y4.2.2)
def vT (fu:Nat) (routes:List Nz) (slots:List Int):Nat->Int->Int->Option (Int×Int)
 | 0,_,_=>none
 | fk+1,best,i=>if decide (i<(routes.length:Int)) then (if decide (best<0) then some true else (V_ slots i).bind λe=>(V_ routes i).bind λe2=>(V_ slots best).bind λe3=>(V_ routes best).bind λe4=>some (decide ((y_ (e * (e2.Nw.length:Int)))<(y_ (e3 * (e4.Nw.length:Int)))))).bind λc3=>if c3 then vT fu routes slots fk i (y_ (i+1)) else vT fu routes slots fk best (y_ (i+1)) else some (best,i)
def bA (fu:Nat) (routes:List Nz) (slots:List Int):Option (Int):=(vT fu routes slots fu (-1) 0).bind λz=>some z.1
def ak (fu:Nat) (n':Nq) (formats:List Ng) (d':Nd):Option (Nz×Int×Bool):=(cd fu n' formats d').bind λy=>(bA fu y.1 y.2.1).bind λy2=>(if !y.2.2 then some true else some (decide (y2<0))).bind λc6=>if c6 then some (({ Nt:=0,Nw:=[] }:Nz),0,false) else (V_ y.1 y2).bind λe=>(V_ y.2.1 y2).bind λe2=>some (e,e2,true)
def yT (fu:Nat) (n':Nq) (formats:List Ng) (list:List Nd):Nat->List Int->Int->Option (Out (List Int×Int) (List Int×Bool))
 | 0,_,_=>none
 | fk+1,out',i=>if decide (i<(list.length:Int)) then (V_ list i).bind λe=>(ak fu n' formats e).bind λy3=>if !y3.2.2 then some (.ret (out',false)) else (M_ out' [y_ (y3.2.1 * (y3.1.Nw.length:Int))]).bind λl=>yT fu n' formats list fk l (y_ (i+1)) else some (.next (out',i))
def db (fu:Nat) (n':Nq) (formats:List Ng) (list:List Nd):Option (List Int×Bool):=((aI fu n' list).bind λy=>if !y then some true else (zG fu formats).bind λy2=>some (!y2)).bind λc5=>if c5 then some (([]:List Int),false) else (yT fu n' formats list fu ([]:List Int) 0).bind λout=>out.on some λz=>some (z.1,true)
def xu (fu:Nat) (y:List Int×Bool) (out':List Int) (i:Int):Nat->Int->Option (Int)
 | 0,_=>none
 | fk+1,k'=>(if decide (k' > 0) then (V_ out' (y_ (k' - 1))).bind λe=>(V_ y.1 e).bind λe2=>(V_ y.1 i).bind λe3=>some (decide (e2<e3)) else some false).bind λc7=>if c7 then xu fu y out' i fk (y_ (k' - 1)) else some k'
def xe (fu:Nat) (y:List Int×Bool):Nat->List Int->Int->Option (List Int×Int)
 | 0,_,_=>none
 | fk+1,out',i=>if decide (i<(y.1.length:Int)) then (xu fu y out' i fu (out'.length:Int)).bind λz=>(sub out' 0 z).bind λl=>(sub out' z (out'.length:Int)).bind λl2=>(M_ ([]:List Int) l).bind λl3=>(M_ l3 [i]).bind λl4=>(M_ l4 l2).bind λl5=>xe fu y fk l5 (y_ (i+1)) else some (out',i)
def aK (fu:Nat) (n':Nq) (formats:List Ng) (list:List Nd):Option (List Int×Bool):=(db fu n' formats list).bind λy=>if !y.2 then some (([]:List Int),false) else (xe fu y fu ([]:List Int) 0).bind λz2=>some (z2.1,true)
def aJ (fu:Nat) (p:Nh) (formats:List Ng) (list:List Nd) (fit:Int):Option (Rq×Bool):=(cY fu p formats list fit).bind λy=>if !y then some (({ Nh:=({ Nq:=({ Nv:=[],Nw:=[] }:Nq),Nk:=[] }:Nh),Ids:=[],Rw:=0 }:Rq),false) else (aK fu p.Nq formats list).bind λy2=>if !y2.2 then some (({ Nh:=({ Nq:=({ Nv:=[],Nw:=[] }:Nq),Nk:=[] }:Nh),Ids:=[],Rw:=0 }:Rq),false) else (eF fu p formats list fit y2.1).bind λy3=>some (y3.1,y3.2)
def yu (fu:Nat) (p:Nh) (formats:List Ng) (list:List Nd):Nat->Int->Int->Int->Option (Out (Int×Int×Int) (Int×Int×Bool))
 | 0,_,_,_=>none
 | fk+1,best,least,fit=>if decide (fit<=3) then (aJ fu p formats list fit).bind λy=>if !y.2 then some (.ret (0,0,false)) else (if best==0 then some true else some (decide (y.1.Rw<least))).bind λc10=>if c10 then yu fu p formats list fk fit y.1.Rw (y_ (fit+1)) else yu fu p formats list fk best least (y_ (fit+1)) else some (.next (best,least,fit))
def dc (fu:Nat) (p:Nh) (formats:List Ng) (list:List Nd):Option (Int×Int×Bool):=(yu fu p formats list fu 0 0 1).bind λout=>out.on some λz=>some (z.1,z.2.1,true)
def vD (fu:Nat) (y2:Nh×List Ng×List Nd) (y3:Int×Int×Bool):Nat->Int->Option (Out (Int) (Bool))
 | 0,_=>none
 | fk+1,k'=>if decide (k'<=3) then (yg fu y2.1 y2.2.1 y2.2.2 k').bind λy5=>(if !y5.2 then some true else if decide (y5.1.Rw<y3.2.1) then some true else if k'==y3.1 then some (y5.1.Rw != y3.2.1) else some false).bind λc12=>if c12 then some (.ret false) else vD fu y2 y3 fk (y_ (k' + 1)) else some (.next k')
def yn (fu:Nat) (y2:Nh×List Ng×List Nd) (y6:List Int×Bool):Nat->Int->Int->Option (Out (Int×Int) (Bool))
 | 0,_,_=>none
 | fk+1,last,i=>if decide (i<(y6.1.length:Int)) then (V_ y6.1 i).bind λe=>(V_ y2.2.2 e).bind λe2=>(cy fu y2.1.Nq y2.2.1 [e2]).bind λy7=>(if !y7.2 then some true else some (decide (y7.1 > last))).bind λc14=>if c14 then some (.ret false) else yn fu y2 y6 fk y7.1 (y_ (i+1)) else some (.next (last,i))
def de (fu:Nat) (code:List By):Option (Bool):=(ju fu code).bind λy=>if y then some true else (aM fu code).bind λy2=>(ce fu y2.1 y2.2.1 y2.2.2).bind λy3=>(dc fu y2.1 y2.2.1 y2.2.2).bind λy4=>(if y3.1 != y4.1 then some true else if y3.2.1 != y4.2.1 then some true else some (y3.2.2 != y4.2.2)).bind λc7=>if c7 then some false else if !y3.2.2 then some (y3.1==0) else (vD fu y2 y3 fu 1).bind λout=>out.on some λz2=>(zz fu y2.1.Nq y2.2.1 y2.2.2).bind λy6=>(yn fu y2 y6 fu 1099511627776 0).bind λout=>out.on some λz=>(if y6.2 then some ((y6.1.length:Int)==(y2.2.2.length:Int)) else some false).bind λc15=>some c15
end AT
namespace AT
def DR (x:By):Prop:=(0≤x.n∧x.n≤255)
def BN (x:List By):Prop:=((∀ e∈x,DR e)∧x.length≤9223372036854775807)
end AT
