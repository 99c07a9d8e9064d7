/- The number of slots of a mask, plainly: what the library's OnesCount computes. -/
import Derived.Test.YtlemonjnolciiaaGreatQDRest
set_option linter.unusedSimpArgs false
set_option linter.unusedVariables false
namespace AT
section
theorem rz {a m b n:Nat} (ha:a<256) (hm:m<256):(a + 256 * b) &&& (m + 256 * n)=(a &&& m) + 256 * (b &&& n):=by
 apply Nat.eq_of_testBit_eq;intro j;have e:∀x y:Nat,x<256->(x + 256 * y).testBit j=if j<8 then x.testBit j else y.testBit (j - 8):=λx y hx=>by
  rw[Kr,show (256:Nat)=2 ^ 8 from rfl,Nat.testBit_two_pow_mul_add _ (by simpa using hx)]
 have hand:a &&& m<256:=La (n:=8) _ hm;rw[Nat.testBit_and,e a b ha,e m n hm,e _ _ hand];split <;> rw[Nat.testBit_and]
def pop8 (b:Nat):Nat:=b % 2 + b / 2 % 2 + b / 4 % 2 + b / 8 % 2 + b / 16 % 2 + b / 32 % 2 + b / 64 % 2 + b / 128 % 2
def s1 (b:Nat):Nat:=(b / 2 &&& 0x55) + (b &&& 0x55)
def s2 (b:Nat):Nat:=(b / 4 &&& 0x33) + (b &&& 0x33)
def s3 (b:Nat):Nat:=(b / 16 + b) &&& 0x0f
set_option maxRecDepth 100000 in
theorem oY:∀b:Fin 256,s1 b<256/\(s2 (s1 b)<69/\s2 (s1 b) % 16<5)/\s3 (s2 (s1 b))=pop8 b:=by decide +kernel
set_option maxRecDepth 100000 in
theorem b1:∀(b:Fin 256) (r:Fin 2),((b:Nat) / 2 + 128 * r) &&& 0x55=(b:Nat) / 2 &&& 0x55:=by decide +kernel
set_option maxRecDepth 100000 in
theorem b2:∀(b:Fin 256) (r:Fin 4),((b:Nat) / 4 + 64 * r) &&& 0x33=(b:Nat) / 4 &&& 0x33:=by decide +kernel
set_option maxRecDepth 100000 in
theorem b3:∀(b:Fin 69) (r:Fin 5),((b:Nat) / 16 + b + 16 * r) &&& 0x0f=((b:Nat) / 16 + b) &&& 0x0f:=by decide +kernel
theorem cat3 {a b c:Nat} {x y z k:Nat} (ha:a<256) (hb:b<256) (hc:c<256) (hx:x<256) (hy:y<256) (hz:z<256):(a + 256 * (b + 256 * c)) &&& (x + 256 * (y + 256 * (z + 256 * k)))=(a &&& x) + 256 * ((b &&& y) + 256 * (c &&& z)):=by
 have h:=rz (a:=c) (m:=z) (b:=0) (n:=k) hc hz;rw[Nat.zero_and,Nat.mul_zero,I6,I6]at h;rw[rz ha hx,rz hb hy,h]
theorem BY {x:Nat} (hx:x<16777216) :
 let y1:=(x / 2 &&& 0x5555555555555555) + (x &&& 0x5555555555555555)
 let y2:=(y1 / 4 &&& 0x3333333333333333) + (y1 &&& 0x3333333333333333)
 let y3:=(y2 / 16 + y2) &&& 0x0f0f0f0f0f0f0f0f
 y1<16777216/\y2<16777216/\y3=pop8 (x % 256) + 256 * (pop8 (x / 256 % 256) + 256 * pop8 (x / 65536)):=by
 obtain⟨a,ha⟩:∃a,a=x % 256:=⟨_,rfl⟩
 obtain⟨b,hb⟩:∃b,b=x / 256 % 256:=⟨_,rfl⟩
 obtain⟨c,hc⟩:∃c,c=x / 65536:=⟨_,rfl⟩
 have a0:a<256:=by omega
 have b0:b<256:=by omega
 have c0:c<256:=by omega
 have e:x=a + 256 * (b + 256 * c):=by omega
 have e2:x / 2=(a / 2 + 128 * (b % 2)) + 256 * ((b / 2 + 128 * (c % 2)) + 256 * (c / 2)):=by omega
 have pa:=oY ⟨a,a0⟩
 have pb:=oY ⟨b,b0⟩
 have pc:=oY ⟨c,c0⟩
 simp only at pa pb pc
 have m1:(0x5555555555555555:Nat)=0x55 + 256 * (0x55 + 256 * (0x55 + 256 * 0x5555555555)):=by decide
 have m2:(0x3333333333333333:Nat)=0x33 + 256 * (0x33 + 256 * (0x33 + 256 * 0x3333333333)):=by decide
 have m3:(0x0f0f0f0f0f0f0f0f:Nat)=0x0f + 256 * (0x0f + 256 * (0x0f + 256 * 0x0f0f0f0f0f)):=by decide
 have y1:(x / 2 &&& 0x5555555555555555) + (x &&& 0x5555555555555555)=s1 a + 256 * (s1 b + 256 * s1 c):=by
  rw[m1,e2,cat3 (by omega) (by omega) (by omega) (by omega) (by omega) (by omega),e,cat3 a0 b0 c0 (by omega) (by omega) (by omega)]
  have q1:=b1 ⟨a,a0⟩ ⟨b % 2,by omega⟩
  have q2:=b1 ⟨b,b0⟩ ⟨c % 2,by omega⟩
  simp only at q1 q2
  rw[q1,q2]
  unfold s1
  omega
 obtain⟨u,hu⟩:∃u,u=s1 a:=⟨_,rfl⟩
 obtain⟨v,hv⟩:∃v,v=s1 b:=⟨_,rfl⟩
 obtain⟨w,hw⟩:∃w,w=s1 c:=⟨_,rfl⟩
 rw[<-hu,<-hv,<-hw]at y1
 rw[<-hu]at pa
 rw[<-hv]at pb
 rw[<-hw]at pc
 obtain⟨u0,pa,ra⟩:=pa
 obtain⟨v0,pb,rb⟩:=pb
 obtain⟨w0,pc,rc⟩:=pc
 simp only[y1]
 have e4:(u + 256 * (v + 256 * w)) / 4=(u / 4 + 64 * (v % 4)) + 256 * ((v / 4 + 64 * (w % 4)) + 256 * (w / 4)):=by omega
 have y2:((u + 256 * (v + 256 * w)) / 4 &&& 0x3333333333333333) + ((u + 256 * (v + 256 * w)) &&& 0x3333333333333333)=s2 u + 256 * (s2 v + 256 * s2 w):=by
  rw[m2,e4,cat3 (by omega) (by omega) (by omega) (by omega) (by omega) (by omega),cat3 u0 v0 w0 (by omega) (by omega) (by omega)]
  have q1:=b2 ⟨u,u0⟩ ⟨v % 4,by omega⟩
  have q2:=b2 ⟨v,v0⟩ ⟨w % 4,by omega⟩
  simp only at q1 q2
  rw[q1,q2]
  unfold s2
  omega
 obtain⟨f,hf⟩:∃f,f=s2 u:=⟨_,rfl⟩
 obtain⟨g,hg⟩:∃g,g=s2 v:=⟨_,rfl⟩
 obtain⟨h,hh⟩:∃h,h=s2 w:=⟨_,rfl⟩
 rw[<-hf,<-hg,<-hh]at y2
 rw[<-hf]at pa ra
 rw[<-hg]at pb rb
 rw[<-hh]at pc rc
 simp only[y2]
 refine⟨by omega,by omega,?_⟩
 have e6:(f + 256 * (g + 256 * h)) / 16 + (f + 256 * (g + 256 * h))=(f / 16 + f + 16 * (g % 16)) + 256 * ((g / 16 + g + 16 * (h % 16)) + 256 * (h / 16 + h)):=by omega
 have q1:=b3 ⟨f,by omega⟩ ⟨g % 16,by omega⟩
 have q2:=b3 ⟨g,by omega⟩ ⟨h % 16,by omega⟩
 simp only at q1 q2
 rw[<-ha,<-hb,<-hc,<-ra,<-rb,<-rc,m3,e6,cat3 (by omega) (by omega) (by omega) (by omega) (by omega) (by omega),q1,q2]
 rfl
theorem j7 (b:Nat):pop8 b<=8:=by unfold pop8; omega
def fK (x:Nat):Nat:=pop8 (x % 256) + (pop8 (x / 256 % 256) + pop8 (x / 65536))
theorem pb0 (x:Nat):x % 256 % 2=x / 1 % 2:=by omega
theorem pb1 (x:Nat):x % 256 / 2 % 2=x / 2 % 2:=by omega
theorem pb2 (x:Nat):x % 256 / 4 % 2=x / 4 % 2:=by omega
theorem pb3 (x:Nat):x % 256 / 8 % 2=x / 8 % 2:=by omega
theorem pb4 (x:Nat):x % 256 / 16 % 2=x / 16 % 2:=by omega
theorem pb5 (x:Nat):x % 256 / 32 % 2=x / 32 % 2:=by omega
theorem pb6 (x:Nat):x % 256 / 64 % 2=x / 64 % 2:=by omega
theorem pb7 (x:Nat):x % 256 / 128 % 2=x / 128 % 2:=by omega
theorem pb8 (x:Nat):x / 256 % 256 % 2=x / 256 % 2:=by omega
theorem pb9 (x:Nat):x / 256 % 256 / 2 % 2=x / 512 % 2:=by omega
theorem pb10 (x:Nat):x / 256 % 256 / 4 % 2=x / 1024 % 2:=by omega
theorem pb11 (x:Nat):x / 256 % 256 / 8 % 2=x / 2048 % 2:=by omega
theorem pb12 (x:Nat):x / 256 % 256 / 16 % 2=x / 4096 % 2:=by omega
theorem pb13 (x:Nat):x / 256 % 256 / 32 % 2=x / 8192 % 2:=by omega
theorem pb14 (x:Nat):x / 256 % 256 / 64 % 2=x / 16384 % 2:=by omega
theorem pb15 (x:Nat):x / 256 % 256 / 128 % 2=x / 32768 % 2:=by omega
theorem pb16 (x:Nat):x / 65536 % 2=x / 65536 % 2:=by omega
theorem pb17 (x:Nat):x / 65536 / 2 % 2=x / 131072 % 2:=by omega
theorem pb18 (x:Nat):x / 65536 / 4 % 2=x / 262144 % 2:=by omega
theorem pb19 (x:Nat):x / 65536 / 8 % 2=x / 524288 % 2:=by omega
theorem pb20 (x:Nat):x / 65536 / 16 % 2=x / 1048576 % 2:=by omega
theorem pb21 (x:Nat):x / 65536 / 32 % 2=x / 2097152 % 2:=by omega
theorem pb22 (x:Nat):x / 65536 / 64 % 2=x / 4194304 % 2:=by omega
theorem pb23 (x:Nat):x / 65536 / 128 % 2=x / 8388608 % 2:=by omega
theorem Ad (x:Nat) (hx:x<16777216):fK x=((List.range 24).map λs=>x / 2 ^ s % 2).sum:=by
 have e:((List.range 24).map λs=>x / 2 ^ s % 2).sum=x / 1 % 2 + (x / 2 % 2 + (x / 4 % 2 + (x / 8 % 2 + (x / 16 % 2 + (x / 32 % 2 + (x / 64 % 2 + (x / 128 % 2 + (x / 256 % 2 + (x / 512 % 2 + (x / 1024 % 2 + (x / 2048 % 2 + (x / 4096 % 2 + (x / 8192 % 2 + (x / 16384 % 2 + (x / 32768 % 2 + (x / 65536 % 2 + (x / 131072 % 2 + (x / 262144 % 2 + (x / 524288 % 2 + (x / 1048576 % 2 + (x / 2097152 % 2 + (x / 4194304 % 2 + (x / 8388608 % 2 + 0))))))))))))))))))))))):=rfl;rw[e];unfold fK pop8;rw[pb0,pb1,pb2,pb3,pb4,pb5,pb6,pb7,pb8,pb9,pb10,pb11,pb12,pb13,pb14,pb15,pb16,pb17,pb18,pb19,pb20,pb21,pb22,pb23];clear e hx;generalize x / 1 % 2=t0;generalize x / 2 % 2=t1;generalize x / 4 % 2=t2;generalize x / 8 % 2=t3;generalize x / 16 % 2=t4;generalize x / 32 % 2=t5;generalize x / 64 % 2=t6;generalize x / 128 % 2=t7;generalize x / 256 % 2=t8;generalize x / 512 % 2=t9;generalize x / 1024 % 2=t10;generalize x / 2048 % 2=t11;generalize x / 4096 % 2=t12;generalize x / 8192 % 2=t13;generalize x / 16384 % 2=t14;generalize x / 32768 % 2=t15;generalize x / 65536 % 2=t16;generalize x / 131072 % 2=t17;generalize x / 262144 % 2=t18;generalize x / 524288 % 2=t19;generalize x / 1048576 % 2=t20;generalize x / 2097152 % 2=t21;generalize x / 4194304 % 2=t22;generalize x / 8388608 % 2=t23;omega
end
section
theorem Ep {α:Type} {l:List α} {f:Int} (d:α) (h0:0<=f) (h1:f<(l.length:Int)):V_ l f=some (gd l f.toNat d):=by
 have:=yb (l:=l) (i:=f.toNat) d (by omega);rwa [Jk h0]at this
def jG (b:Int) (o:d_) (f:Int):d_:=o.set f.toNat (D0 (gd o f.toNat 0) b)
theorem jF (b:Int):∀(fs:d_) (o:d_),(fs.foldl (jG b) o).length=o.length
 | [],o=>rfl
 | f::fs,o=>by rw[Jr,jF b fs]; simp [jG]
theorem B8 (b:Int) (o:d_) (f:Int) (k:Nat) (hk:k<o.length):gd (jG b o f) k 0=if f.toNat=k then D0 (gd o k 0) b else gd o k 0:=by
 unfold jG;generalize hv:D0 (gd o f.toNat 0) b=v;by_cases h:f.toNat=k;subst h;rw[if_pos rfl,hv];clear hv;unfold gd;rw[List.getElem?_set_self hk,KI];rw[if_neg h];unfold gd;rw[List.getElem?_set_ne h]
theorem CB (f:Int) (fs:d_) (k:Int):O1 (f::fs) k=(f==k||O1 fs k):=rfl
theorem B7 (b:Int) (fs:d_):∀(o:d_) (k:Nat),fs.Nodup->(∀f∈fs,0<=f)->k<o.length->gd (fs.foldl (jG b) o) k 0=if O1 fs k=true then D0 (gd o k 0) b else gd o k 0:=by
 induction fs with
 | nil =>
  intro o k _ _ _
  have h:O1 [] (k:Int)=false:=rfl
  rw[h,Lw,if_neg I9]
 | cons f fs ih =>
  intro o k hn h0 hk
  have hn':=JH.1 hn
  have hf:=h0 f IK
  have hl:(jG b o f).length=o.length:=by unfold jG; rw[Io]
  rw[Jr,ih (jG b o f) k hn'.2 (λx hx=>h0 x (IP _ hx)) (by omega),B8 b o f k hk,CB]
  by_cases h:f.toNat=k
  · have hk':f=(k:Int):=by omega
    have h1:O1 fs k=false:=by
     rw[IJ]
     intro hc
     unfold O1 at hc
     obtain⟨x,hx,hc⟩:=IH.1 hc
     rw[beq_iff_eq]at hc
     exact hn'.1 (by rw[hk',<-hc]; exact hx)
    have h2:(f==(k:Int))=true:=by rw[beq_iff_eq]; exact hk'
    rw[h1,h2,if_pos h,if_neg I9,Lp,if_pos rfl]
  · have hk':(f==(k:Int))=false:=by rw[beq_eq_false_iff_ne]; omega
    rw[hk',if_neg h,JV]
theorem tt {fu:Nat} (e:Nx) (hb:yD e.Nj=true) (n:Nat) (hr:∀f∈e.Nk.Nw,0<=f/\f<(n:Int)) (hl:e.Nk.Nw.length<=2097152):∀(fk i:Nat) (o:d_),o.length=n->i<=e.Nk.Nw.length->e.Nk.Nw.length - i<fk ->
 ∃z,yl fu e fk o i=some ((e.Nk.Nw.drop i).foldl (jG (bits e.Nj)) o,z):=by
 intro fk;induction fk with
 | zero=>intro i _ _ _ h; omega
 | succ fk ih =>
  intro i o ho hi hk
  rw[yl]
  by_cases h:i<e.Nk.Nw.length
  · have h':(i:Int)<(e.Nk.Nw.length:Int):=by omega
    obtain⟨x,hx⟩:∃x,x=e.Nk.Nw[i]:=⟨_,rfl⟩
    have hr':=hr _ (IE h)
    rw[<-hx]at hr'
    rw[<-IB h,Jr]
    simp only[h',decide_true,if_true,vw h,<-hx,Ik,Ep 0 hr'.1 (show x<(o.length:Int) by omega),me hb,vP h (show (e.Nk.Nw.length:Int)<=9223372036854775807 by omega)]
    exact ih (i + 1) (jG (bits e.Nj) o x) (by simpa [jG] using ho) h (by omega)
  · obtain rfl:i=e.Nk.Nw.length:=by omega
    rw[if_neg (by simp),IX]
    exact⟨_,rfl⟩
def j9 (L:List Nx) (o:d_):d_:=L.foldl (λo e=>e.Nk.Nw.foldl (jG (bits e.Nj)) o) o
theorem jf:∀(L:List Nx) (o:d_),(j9 L o).length=o.length
 | [],o=>rfl
 | e::L,o=>by
  have:=jf L (e.Nk.Nw.foldl (jG (bits e.Nj)) o)
  unfold j9 at this ⊢
  rw[Jr,this,jF]
theorem nH:∀(L:List Nx) (o:d_) (k:Nat),(∀e∈L,e.Nk.Nw.Nodup/\∀f∈e.Nk.Nw,0<=f)->k<o.length->gd (j9 L o) k 0=L.foldl (λo y=>if O1 y.Nk.Nw k=true then D0 o (bits y.Nj) else o) (gd o k 0)
 | [],o,k,_,_=>by unfold j9; rw[Lw,Lw]
 | e::L,o,k,h,hk=>by
  have he:=h e (by simp)
  have:=nH L (e.Nk.Nw.foldl (jG (bits e.Nj)) o) k (λx hx=>h x (by simp [hx])) (by rw[jF]; exact hk)
  unfold j9 at this ⊢
  rw[Jr,Jr,this,B7 _ _ _ _ he.1 he.2 hk]
theorem tr {fu:Nat} (hfu:2097153<=fu) (p:Nh) (n:Nat) (hl:p.Nz.length<=2097152) (hb:∀e∈p.Nz,yD e.Nj=true) (hr:∀e∈p.Nz,∀f∈e.Nk.Nw,0<=f/\f<(n:Int)) (hs:∀e∈p.Nz,e.Nk.Nw.length<=2097152):∀(fk i:Nat) (o:d_),o.length=n->i<=p.Nz.length->p.Nz.length - i<fk ->
 ∃z,ym fu p fk o i=some (j9 (p.Nz.drop i) o,z):=by
 intro fk;induction fk with
 | zero=>intro i _ _ _ h; omega
 | succ fk ih =>
  intro i o ho hi hk
  rw[ym]
  by_cases h:i<p.Nz.length
  · have h':(i:Int)<(p.Nz.length:Int):=by omega
    have hm:=IE h
    have hsm:=hs _ hm
    obtain⟨z,hz⟩:=tt (fu:=fu) p.Nz[i] (hb _ hm) n (hr _ hm) hsm fu 0 o ho (by omega) (by omega)
    rw[show ((0:Nat):Int)=0 from rfl,IR]at hz
    simp only[h',decide_true,if_true,vw h,Ik,hz,vP h (show (p.Nz.length:Int)<=9223372036854775807 by omega)]
    rw[<-IB h]
    exact ih (i + 1) _ (by rw[jF]; exact ho) h (by omega)
  · obtain rfl:i=p.Nz.length:=by omega
    rw[if_neg (by simp),IX]
    exact⟨_,rfl⟩
def kV (L:List Nx) (n:Nat):d_:=(List.range n).map λf:Nat=>used L (f:Int)
theorem oD {p:Nh} (hF:PlanF p):∀e∈p.Nz,∀f∈e.Nk.Nw,0<=f/\f<(p.Nq.Nw.length:Int):=λe he=>by
 obtain⟨o,ho⟩:=(hF.light e he).route
 exact w8 ho
theorem jQ {fu:Nat} (hfu:2097153<=fu) (p:Nh) (hB:bB p) (hF:PlanF p):aJ fu p=some (kV p.Nz p.Nq.Nw.length):=by
 have hn:=(netF hF.net).fib;unfold aJ;rw[FM (show p.Nq.Nw.length<=2097152 by omega),Ik];obtain⟨z,hz⟩:=tr hfu p p.Nq.Nw.length hB.2.1 (λe he=>(hF.light e he).blk) (oD hF) hB.2.2 fu 0 (List.replicate p.Nq.Nw.length 0) (by simp) (by omega) (by have:=hB.2.1; omega);rw[show ((0:Nat):Int)=0 from rfl,IR]at hz;rw[hz,Ik];congr 1;apply JW;rw[jf]; simp [kV];intro k h1 h2;rw[jf,J7]at h1;rw[<-bv 0,nH _ _ _ (λe he=>⟨(hF.light e he).nodup,λf hf=>(oD hF e he f hf).1⟩) (by simpa using h1)];have:gd (List.replicate p.Nq.Nw.length (0:Int)) k 0=0:=by unfold gd; simp [h1]
 rw[this];simp [kV,used]
variable {a b y3:Nat}
theorem pf (ha:a<2 ^ 64) (hb:b<2 ^ 64):xn (a:Int) (b:Int)=((a &&& b:Nat):Int):=by
 unfold xn;have e:∀x:Nat,x<2 ^ 64->(BitVec.ofInt 64 (x:Int)).toNat=x:=λx hx=>by
  rw[BitVec.toNat_ofInt]
  have:((2 ^ 64:Nat):Int)=18446744073709551616:=by decide
  rw[this]
  omega
 rw[Lk,e a ha,e b hb];have:a &&& b<2 ^ 64:=La _ hb;unfold wu64;omega
theorem BJ (a k:Nat) (hk:k<=64):shrk 64 (a:Int) (k:Int)=some ((a / 2 ^ k:Nat):Int):=by
 unfold shrk;rw[if_neg (by omega),IQ,Jy hk];congr 1;rw[Kj _ (by exact Lu (by omega))];norm_cast
theorem C8 (h:a<2 ^ 64):wu64 (a:Int)=(a:Int):=lK (by omega) (by omega)
theorem pj (h:a + b<2 ^ 64):wu64 ((a:Int) + (b:Int))=((a + b:Nat):Int):=by
 rw[<-Int.natCast_add,C8 h]
theorem Br {M:Nat} (ha:a<2 ^ 64) (hb:b<2 ^ 64) (hM:M<2 ^ 64) (h:(a &&& M) + (b &&& M)<2 ^ 64):wu64 (xn (a:Int) (M:Int) + xn (b:Int) (M:Int))=(((a &&& M) + (b &&& M):Nat):Int):=by
 rw[pf ha hM,pf hb hM,pj h]
theorem iD (a k:Nat) (K:Int) (hK:K=(k:Int)) (hk:k<=64):shrk 64 (a:Int) K=some ((a / 2 ^ k:Nat):Int):=by rw[hK]; exact BJ a k hk
theorem Al {c:Nat} (hy3:y3=a + 256 * (b + 256 * c)) (la:a<=8) (lb:b<=8) (lc:c<=8) :
 ((shrk 64 (y3:Int) 8).bind λq4=>(shrk 64 (wu64 ((y3:Int) + q4)) 16).bind λq5=>(shrk 64 (wu64 (wu64 ((y3:Int) + q4) + q5)) 32).bind λq6=>some (band (y_ (wu64 (wu64 (wu64 ((y3:Int) + q4) + q5) + q6))) 127))=some ((a + (b + c):Nat):Int):=by
 obtain⟨y4,hy4⟩:∃y,y=y3 + y3 / 2 ^ 8:=⟨_,rfl⟩;obtain⟨y5,hy5⟩:∃y,y=y4 + y4 / 2 ^ 16:=⟨_,rfl⟩;have h5:y5=(a + (b + c)) + 256 * (b + c) + 65536 * c:=by omega
 have h6:y5 / 2 ^ 32=0:=by omega
 have hm:y5 % 128=a + (b + c):=by omega
 rw[iD y3 8 8 rfl (by omega),Ik,pj (by omega),<-hy4,iD y4 16 16 rfl (by omega),Ik,pj (by omega),<-hy5,iD y5 32 32 rfl (by omega),Ik,h6,pj (by omega),I6,uZ (by omega) (by omega)];have e127:(127:Int)=((127:Nat):Int):=rfl;rw[e127,iw (a:=(y5:Int)) (b:=((127:Nat):Int)) ⟨by omega,by omega⟩ ⟨by omega,by omega⟩,IQ,IQ];have h127:=Nat.and_two_pow_sub_one_eq_mod y5 7;rw[show (127:Nat)=2 ^ 7 - 1 from rfl,h127,show (2:Nat) ^ 7=128 from rfl,hm]
theorem Am {x y1 y2:Nat} (hx:x<2 ^ 64) (h1:y1=(x / 2 &&& 0x5555555555555555) + (x &&& 0x5555555555555555)) (h2:y2=(y1 / 4 &&& 0x3333333333333333) + (y1 &&& 0x3333333333333333)) (h3:y3=(y2 / 16 + y2) &&& 0x0f0f0f0f0f0f0f0f) (l1:y1<16777216) (l2:y2<16777216) {M1 M2 M3:Int} (e1:M1=((0x5555555555555555:Nat):Int)) (e2:M2=((0x3333333333333333:Nat):Int)) (e3:M3=((0x0f0f0f0f0f0f0f0f:Nat):Int)) {R:Type} (k:Int->Option R) :
 ((shrk 64 (x:Int) 1).bind λq=>(shrk 64 (wu64 (xn q M1 + xn (x:Int) M1)) 2).bind λq2=>(shrk 64 (wu64 (xn q2 M2 + xn (wu64 (xn q M1 + xn (x:Int) M1)) M2)) 4).bind λq3=>k (xn (wu64 (q3 + wu64 (xn q2 M2 + xn (wu64 (xn q M1 + xn (x:Int) M1)) M2))) M3))=k (y3:Int):=by
 subst e1 e2 e3;have a1:(x / 2 ^ 1 &&& 0x5555555555555555) + (x &&& 0x5555555555555555)=y1:=h1.symm;have a2:(y1 / 2 ^ 2 &&& 0x3333333333333333) + (y1 &&& 0x3333333333333333)=y2:=h2.symm;have a3:(y2 / 2 ^ 4 + y2) &&& 0x0f0f0f0f0f0f0f0f=y3:=h3.symm;rw[iD x 1 1 rfl (by omega),Ik,Br (by omega) (by omega) (by omega) (by rw[a1]; omega),a1,iD y1 2 2 rfl (by omega),Ik,Br (by omega) (by omega) (by omega) (by rw[a2]; omega),a2,iD y2 4 4 rfl (by omega),Ik,pj (by omega),pf (by omega) (by omega),a3]
theorem An {fu:Nat} {m:Int} (hm:MK m):yA fu ⟨wu64 m⟩=some ((fK m.toNat:Nat):Int):=by
 obtain⟨x,rfl⟩:=KV hm.1;have hx:x<16777216:=by have:=hm.2; omega
 obtain⟨p1,p2,p3⟩:=BY hx;have hh:=Am (M1:=6148914691236517205) (M2:=3689348814741910323) (M3:=1085102592571150095) (show x<2 ^ 64 by omega) rfl rfl rfl p1 p2 rfl rfl rfl (R:=Int);have ht:=Al p3 (j7 _) (j7 _) (j7 _);unfold yA ah;rw[IQ,C8 (show x<2 ^ 64 by omega)];have h:=(hh λy=>(shrk 64 y 8).bind λq4=>(shrk 64 (wu64 (y + q4)) 16).bind λq5=>(shrk 64 (wu64 (wu64 (y + q4) + q5)) 32).bind λq6=>some (band (y_ (wu64 (wu64 (wu64 (y + q4) + q5) + q6))) 127)).trans ht;rw[h];rfl
theorem B0 (x:Nat):fK x<=24:=by
 have:=j7 (x % 256);have:=j7 (x / 256 % 256);have:=j7 (x / 65536);unfold fK;omega
end
section
variable {fu:Nat}
theorem rZ (m C:Int) (N:Nat) (hN:(N:Int) + C=25) (h1:1<=C):∀(fk k s:Nat) (out:d_),N=s + k->k<fk->out.length<=s ->
 ∃z,x9 fu m C fk out s=some (out++(((List.range' s k).filter λt:Nat=>apart m (bits ⟨(t:Int),C⟩)).map λt:Nat=>(t:Int)),z):=by
 intro fk;induction fk with
 | zero=>intro k s _ _ h; omega
 | succ fk ih =>
  intro k s out hs hk ho
  have hw0:y_ ((s:Int) + C)=(s:Int) + C:=uZ (by omega) (by omega)
  rw[x9,hw0]
  clear hw0
  cases k with
  | zero =>
   have h':¬(s:Int) + C<=24:=by omega
   simp only[h',decide_false,Iy,if_false,List.range'_zero,Lr,Ka,II]
   exact⟨_,rfl⟩
  | succ k =>
   have h':(s:Int) + C<=24:=by omega
   have hb:yD ⟨(s:Int),C⟩=true:=by simp only[yD,Iw,decide_eq_true_eq]; omega
   obtain⟨c,hc⟩:∃c,apart m (bits ⟨(s:Int),C⟩)=c:=⟨_,rfl⟩
   obtain⟨b,hb1,hb2⟩:∃b,bX fu ⟨(s:Int),C⟩=some b/\(band m b==0)=c:=⟨_,ot hb,hc⟩
   have hw:y_ ((s:Int) + 1)=((s + 1:Nat):Int):=by rw[uZ (by omega) (by omega)]; omega
   rw[List.range'_succ,KE,hc,hb1]
   clear hb1 hc hb
   rw[if_pos (by simpa using h'),Ik,hb2,hw]
   clear hw hb2
   cases c
   · rw[if_neg (by decide),if_neg (by decide)]
     exact ih k (s + 1) out (by omega) (by omega) (by omega)
   · have ha:C_ out [(s:Int)]=some (out++[(s:Int)]):=yN (by simp; omega)
     rw[if_pos rfl,if_pos rfl,ha,Ik]
     obtain⟨z,hz⟩:=ih k (s + 1) (out++[(s:Int)]) (by omega) (by omega) (by simp; omega)
     exact⟨z,by rw[hz,Je,Ir,JF]⟩
theorem rm (hfu:2097153<=fu) (m C:Int) (hm:MK m) (h1:1<=C) (h2:C<=24):dj fu m C=some (match (fits m C).head? with | some f=>(⟨f,C⟩,true) | none=>(⟨0,0⟩,false)):=by
 unfold dj cN eU;rw[xZ,xZ];have hm':(decide (0<=m)&&decide (m<=16777215))=true:=by
  obtain⟨a,b⟩:=hm
  simp; omega
 have hc':(decide (1<=C)&&decide (C<=24))=true:=by simp; omega
 simp only[Ik,hm',hc',if_true,Jp,Iy,if_false];obtain⟨N,hN⟩:∃N,N=25 - C.toNat:=⟨_,rfl⟩;obtain⟨z,hz⟩:=rZ (fu:=fu) m C N (by omega) h1 fu N 0 [] (by omega) (by omega) (by simp);rw[show ((0:Nat):Int)=0 from rfl,IY,hN]at hz;have hp:zn fu m C=some (fits m C):=by
  unfold zn
  rw[hz]; rfl
 rw[hp,Ik];cases fits m C with
 | nil=>rfl
 | cons f l =>
  rw[if_neg (by simp; omega)]
  rfl
theorem tc (L:List Nx) (N:Nat) (r:Nk) (hr:r.Nw.length<=1000) (hf:∀f∈r.Nw,0<=f/\f<(N:Int)):∀(fk i:Nat) (o:Int),i<=r.Nw.length->r.Nw.length - i<fk->∃z,yC fu r (kV L N) fk o i=some ((r.Nw.drop i).foldl (λo f=>D0 o (used L f)) o,z):=by
 intro fk;induction fk with
 | zero=>intro i _ _ h; omega
 | succ fk ih =>
  intro i o hi hk
  rw[yC]
  by_cases h:i<r.Nw.length
  · obtain⟨f0,f1⟩:=hf _ (IE h)
    have e:V_ (kV L N) r.Nw[i]=some (used L r.Nw[i]):=by
     unfold kV
     have:=vw (l:=(List.range N).map λf:Nat=>used L (f:Int)) (i:=r.Nw[i].toNat) (by simp; omega)
     rw[Jk f0]at this
     rw[this,J9,Js,Jk f0]
    rw[if_pos (by simpa using h),vw h,Ik,e,Ik,vP h (by omega),<-IB h,Jr]
    exact ih (i + 1) _ h (by omega)
  · obtain rfl:i=r.Nw.length:=by omega
    rw[if_neg (by simp),IX]
    exact⟨_,rfl⟩
theorem pL (hfu:2097153<=fu) (p:Nh) (hB:bB p) (hF:PlanF p) (r:Nk) (hr:r.Nw.length<=1000) (hf:lq p.Nq r.Nw):cu fu p r=some (along p.Nz r.Nw):=by
 unfold cu;rw[jQ hfu p hB hF,Ik];obtain⟨z,hz⟩:=tc (fu:=fu) p.Nz p.Nq.Nw.length r hr hf fu 0 0 (by omega) (by omega);rw[show ((0:Nat):Int)=0 from rfl,IR]at hz;rw[hz]; rfl
end
section
theorem wJ {m:Int} (hm:MK m) {s:Nat} (hs:s<24):∃q,shr m (s:Int)=some q/\band q 1=((m.toNat / 2 ^ s % 2:Nat):Int):=by
 obtain⟨x,rfl⟩:=KV hm.1;have hx:x<16777216:=by have:=hm.2; omega
 have:shr (x:Int) (s:Int)=some ((x / 2 ^ s:Nat):Int):=by
  unfold shr
  rw[if_neg (by omega),IQ,Jy (by omega)]
  congr 1
  rw[Kj _ (by exact Lu (by omega))]
  norm_cast
 refine⟨_,this,?_⟩;have hlt:x / 2 ^ s<=x:=Nat.div_le_self _ _;rw[IQ];generalize x / 2 ^ s=d at hlt;rw[iw (a:=(d:Int)) (b:=1) ⟨by omega,by omega⟩ ⟨by omega,by omega⟩,IQ];have:=Nat.and_two_pow_sub_one_eq_mod d 1;rw[show Int.toNat 1=2 ^ 1 - 1 from rfl,this]
def ln (m:Int) (s:Nat):Bool:=decide (s<24)&&(m.toNat / 2 ^ s % 2==0)
theorem gf {fu:Nat} {m:Int} (hm:MK m) (s:Nat) (hs:s<=25):(if decide ((s:Int)<24)=true then (shr m (s:Int)).bind λq=>some (band q 1==0) else some false)=some (ln m s):=by
 by_cases h:s<24;obtain⟨q,q1,q2⟩:=wJ hm h;have h':(s:Int)<24:=by omega
 simp only[h',decide_true,if_true,q1,Ik,q2,ln,h,Jq];refine congrArg some ?_;generalize m.toNat / 2 ^ s % 2=d;rw[Jf];simp only[beq_iff_eq];omega;have h':¬(s:Int)<24:=by omega
 simp [h',ln,h]
def endF (m:Int):Nat->Nat->Nat
 | 0,s=>s
 | k + 1,s=>if ln m s=true then endF m k (s + 1) else s
theorem mC {m:Int} (hm:MK m):∀(k s:Nat),24 - s=k->s<=24->s<=endF m k s/\endF m k s<=24/\ln m (endF m k s)=false/\(∀t,s<=t->t<endF m k s->ln m t=true)/\(∀fu fk,24 - s<fk->xU fu m fk (s:Int)=some ((endF m k s:Nat):Int)) /\
 (∀fu fk (c:Nat) (out:List Nj),c<=s->vt fu m (fk + (endF m k s - s)) (c:Int) (s:Int) out=vt fu m fk ((c + (endF m k s - s):Nat):Int) ((endF m k s:Nat):Int) out)
 | 0,s,h0,hs=>by
  obtain rfl:s=24:=by omega
  have hf:ln m 24=false:=by unfold ln; rw[decide_eq_false (by omega),K7]
  refine⟨IC _,IC _,hf,λt h1 h2=>by simp only[endF]at h2; omega,λfu fk hk=>?_,λfu fk c out _=>by simp [endF]⟩
  obtain⟨fk,rfl⟩:∃k,fk=k + 1:=⟨fk - 1,by omega⟩
  rw[xU,gf (fu:=fu) hm 24 (by omega),Ik,hf]
  simp [endF]
 | k + 1,s,h0,hs=>by
  rw[endF]
  cases hf:ln m s with
  | false =>
   rw[if_neg (by simp)]
   refine⟨IC _,hs,hf,λt h1 h2=>by omega,λfu fk hk=>?_,λfu fk c out _=>by simp⟩
   obtain⟨fk,rfl⟩:∃k,fk=k + 1:=⟨fk - 1,by omega⟩
   rw[xU,gf (fu:=fu) hm s (by omega),Ik,hf]
   simp
  | true =>
   rw[if_pos rfl]
   obtain⟨e1,e2,e3,e6,e4,e5⟩:=mC hm k (s + 1) (by omega) (by omega)
   have hw:y_ ((s:Int) + 1)=((s + 1:Nat):Int):=by rw[uZ (by omega) (by omega)]; omega
   refine⟨by omega,e2,e3,λt h1 h2=>?_,λfu fk hk=>?_,λfu fk c out hc=>?_⟩
   · by_cases h:t=s
     · subst h; exact hf
     · exact e6 t (by omega) h2
   · obtain⟨fk,rfl⟩:∃k,fk=k + 1:=⟨fk - 1,by omega⟩
     rw[xU,gf (fu:=fu) hm s (by omega),Ik,hf,if_pos rfl,hw]
     exact e4 fu fk (by omega)
   · have hu:wu64 (s:Int)=(s:Int):=lK (by omega) (by omega)
     have hw2:y_ ((c:Int) + 1)=((c + 1:Nat):Int):=by rw[uZ (by omega) (by omega)]; omega
     have h':(s:Int)<=24:=by omega
     have e7:=e5 fu fk (c + 1) out (by omega)
     generalize endF m k (s + 1)=e at e1 e7
     rw[show fk + (e - s)=(fk + (e - (s + 1))) + 1 by omega,vt,hu,gf (fu:=fu) hm s (by omega),Ik,hf,hw,hw2]
     simp only[h',decide_true,if_true]
     rw[e7,show c + 1 + (e - (s + 1))=c + (e - s) by omega]
def eh (m:Int):Nat->Nat->List Nj
 | 0,_=>[]
 | k + 1,s=>if s<24 then (if s<endF m (24 - s) s then [(⟨(s:Int),((endF m (24 - s) s - s:Nat):Int)⟩:Nj)] else [])++eh m k (endF m (24 - s) s + 1) else []
theorem rO {fu:Nat} {m:Int} (hm:MK m) (k s:Nat) (out:List Nj) (h1:24<=s) (h2:s<=25) :
 (∀fk,26 - s<fk->∃z z',vt fu m fk 0 (s:Int) out=some (z,z',out++eh m k s))/\∀fk,26 - s<fk->∃z,xC fu m fk out (s:Int)=some (out++eh m k s,z):=by
 have hr:eh m k s=[]:=by
  cases k with
  | zero=>rfl
  | succ k=>rw[eh,if_neg (by omega)]
 rw[hr,II];have last:∀fk,0<fk->∃z z',vt fu m fk 0 25 out=some (z,z',out):=λfk h=>by
  obtain⟨fk,rfl⟩:∃k,fk=k + 1:=⟨fk - 1,by omega⟩
  rw[vt,if_neg (by simp)]
  exact⟨_,_,rfl⟩
 refine⟨λfk hk=>?_,λfk hk=>?_⟩;rcases J5 s 25 with h | h
 obtain rfl:s=24:=by omega
 obtain⟨fk,rfl⟩:∃k,fk=k + 1:=⟨fk - 1,by omega⟩;rw[vt];have hw:y_ (((24:Nat):Int) + 1)=25:=by decide
 have h1:¬((24:Nat):Int)<24:=by omega
 simp only[h1,decide_false,Iy,if_false,Ik,hw];exact last fk (by omega);obtain rfl:s=25:=by omega
 exact last fk (by omega);obtain⟨fk,rfl⟩:∃k,fk=k + 1:=⟨fk - 1,by omega⟩;have h1:¬(s:Int)<24:=by omega
 rw[xC,if_neg (by simpa using h1)];exact⟨_,rfl⟩
theorem j1 {fu:Nat} {m:Int} (hm:MK m) (hfu:100<=fu):∀(k s:Nat) (out:List Nj),25 - s<=k->s<=25->out.length<=s ->
 (∀fk,26 - s<fk->∃z z',vt fu m fk 0 (s:Int) out=some (z,z',out++eh m k s))/\∀fk,26 - s<fk->∃z,xC fu m fk out (s:Int)=some (out++eh m k s,z)
 | 0,s,out,h1,h2,ho=>rO hm 0 s out (by omega) h2
 | k + 1,s,out,h1,h2,ho=>by
  rcases J5 s 24 with hs | hs
  · rw[eh,if_pos hs]
    obtain⟨e1,e2,e3,-,e4,e5⟩:=mC hm (24 - s) s rfl (by omega)
    generalize endF m (24 - s) s=e at e1 e2 e3 e4 e5
    have hu:wu64 (e:Int)=(e:Int):=lK (by omega) (by omega)
    have hwe:y_ ((e:Int) + 1)=((e + 1:Nat):Int):=by rw[uZ (by omega) (by omega)]; omega
    have hc:y_ ((e:Int) - (s:Int))=((e - s:Nat):Int):=by rw[uZ (by omega) (by omega)]; omega
    have hc2:y_ ((e:Int) - ((e - s:Nat):Int))=(s:Int):=by rw[uZ (by omega) (by omega)]; omega
    have he:(e:Int)<=24:=by omega
    have hs':(s:Int)<24:=by omega
    obtain⟨l,hl⟩:∃l,l=out++(if s<e then [(⟨(s:Int),((e - s:Nat):Int)⟩:Nj)] else []):=⟨_,rfl⟩
    have hll:l.length<=e + 1:=by
     rw[hl,Ip]
     split
     · rw[IG]; omega
     · simp; omega
    obtain⟨R2,R3⟩:=j1 hm hfu k (e + 1) l (by omega) (by omega) hll
    rw[<-Ir,<-hl]
    have ha:C_ out [(⟨(s:Int),((e - s:Nat):Int)⟩:Nj)]=some (out++[(⟨(s:Int),((e - s:Nat):Int)⟩:Nj)]):=yN (by simp; omega)
    refine⟨λfk hk=>?_,λfk hk=>?_⟩
    · have:=e5 fu (fk - (e - s)) 0 out (by omega)
      rw[show fk - (e - s) + (e - s)=fk by omega,Jd]at this
      rw[show (0:Int)=((0:Nat):Int) from rfl,this]
      obtain⟨fk',hfk⟩:∃fk',fk - (e - s)=fk' + 1:=⟨fk - (e - s) - 1,by omega⟩
      rw[hfk,vt,hu,gf (fu:=fu) hm e (by omega),Ik,e3,hc2,hwe]
      simp only[he,decide_true,if_true,Iy,if_false]
      by_cases h:s<e
      · have h':((e - s:Nat):Int) > 0:=by omega
        rw[if_pos h]at hl
        simp only[h',decide_true,if_true,ha,Ik,<-hl]
        exact R2 fk' (by omega)
      · have h':¬((e - s:Nat):Int) > 0:=by omega
        rw[if_neg h,II]at hl
        simp only[h',decide_false,Iy,if_false,<-hl]
        exact R2 fk' (by omega)
    · obtain⟨fk,rfl⟩:∃k,fk=k + 1:=⟨fk - 1,by omega⟩
      rw[xC,e4 fu fu (by omega)]
      simp only[hs',decide_true,if_true,Ik,hc,hwe]
      by_cases h:s<e
      · have h':(e:Int) > (s:Int):=by omega
        rw[if_pos h]at hl
        simp only[h',decide_true,if_true,ha,Ik,<-hl]
        exact R3 fk (by omega)
      · have h':¬(e:Int) > (s:Int):=by omega
        rw[if_neg h,II]at hl
        simp only[h',decide_false,Iy,if_false,<-hl]
        exact R3 fk (by omega)
  · exact rO hm (k + 1) s out hs h2
theorem rN {m:Int} (hm:MK m):∀(k s:Nat) (e:Nj),e∈eh m k s->∃a b:Nat,e=⟨(a:Int),(b:Int)⟩/\0<b/\a + b<=24/\∀t,a<=t->t<a + b->ln m t=true
 | 0,s,e,h=>by rw[eh]at h; simp at h
 | k + 1,s,e,h=>by
  rw[eh]at h
  split at h
  · rename_i hs
    obtain⟨e1,e2,-,e6,-⟩:=mC hm (24 - s) s rfl (by omega)
    rcases Il.1 h with h | h
    · split at h
      · rename_i hlt
        rw[Iu]at h
        exact⟨s,_,h,by omega,by omega,λt h1 h2=>e6 t h1 (by omega)⟩
      · simp at h
    · exact rN hm k _ e h
  · simp at h
theorem jy (m:Int):∀(k s:Nat),(eh m k s).length<=k
 | 0,s=>by rw[eh]; simp
 | k + 1,s=>by
  rw[eh]
  split
  · rw[Ip]
    have:=jy m k (endF m (24 - s) s + 1)
    split
    · rw[IG]; omega
    · simp; omega
  · simp
def b0R:Nj:=⟨0,0⟩
def fO (C:Int) (b e:Nj):Nj:=if C<=e.Pz/\(b.Pz=0∨e.Pz<b.Pz) then e else b
theorem kA {fu:Nat} (C:Int) (R:List Nj) (hR:R.length<=100):∀(fk i:Nat) (b:Nj),i<=R.length->R.length - i<fk ->
 (∃z,xS fu C R fk i b.Pk b.Pz=some (z,((R.drop i).foldl (fO C) b).Pk,((R.drop i).foldl (fO C) b).Pz))/\∃z,yg fu C R fk i b.Pk b.Pz=some (z,((R.drop i).foldl (fO C) b).Pk,((R.drop i).foldl (fO C) b).Pz)
 | 0,i,b,hi,hf=>by omega
 | fk + 1,i,b,hi,hf=>by
  by_cases h:i<R.length
  · have hw:y_ ((i:Int) + 1)=((i + 1:Nat):Int):=by rw[uZ (by omega) (by omega)]; omega
    have h':(i:Int)<(R.length:Int):=by omega
    obtain⟨⟨z,g1⟩,⟨z',g2⟩⟩:=kA (fu:=fu) C R hR fk (i + 1) (fO C b R[i]) (by omega) (by omega)
    have hd:R.drop i=R[i]::R.drop (i + 1):=(IB h).symm
    rw[hd,Jr]
    generalize (List.drop (i + 1) R).foldl (fO C) (fO C b R[i])=Q at g1 g2
    refine⟨⟨z,?_⟩,⟨z',?_⟩⟩
    · rw[xS,if_pos (by simpa using h'),vw h,Ik,hw]
      generalize R[i]=e at g1
      by_cases c1:C<=e.Pz
      · rw[if_pos (by simpa using c1)]
        by_cases c2:b.Pz=0
        · have hb:fO C b e=e:=if_pos ⟨c1,.inl c2⟩
          rw[hb]at g1
          rw[if_pos (by simpa using c2),Ik,if_pos rfl]
          exact g1
        · rw[if_neg (by simpa using c2),Ik]
          by_cases c3:e.Pz<b.Pz
          · have hb:fO C b e=e:=if_pos ⟨c1,.inr c3⟩
            rw[hb]at g1
            rw[if_pos (by simpa using c3)]
            exact g1
          · have hb:fO C b e=b:=if_neg (λhh=>hh.2.elim c2 c3)
            rw[hb]at g1
            rw[if_neg (by simpa using c3)]
            exact g1
      · have hb:fO C b e=b:=if_neg (λhh=>c1 hh.1)
        rw[hb]at g1
        rw[if_neg (by simpa using c1),Ik,if_neg (by simp)]
        exact g1
    · rw[yg,if_pos (by simpa using h'),vw h,Ik,hw]
      generalize R[i]=e at g2
      by_cases c1:C<=e.Pz
      · rw[if_pos (by simpa using c1)]
        by_cases c2:b.Pz=0
        · have hb:fO C b e=e:=if_pos ⟨c1,.inl c2⟩
          rw[hb]at g2
          rw[if_pos (by simpa using c2),Ik,if_pos rfl,Ik]
          exact g2
        · rw[if_neg (by simpa using c2),Ik,Ik]
          by_cases c3:e.Pz<b.Pz
          · have hb:fO C b e=e:=if_pos ⟨c1,.inr c3⟩
            rw[hb]at g2
            rw[if_pos (by simpa using c3),Ik]
            exact g2
          · have hb:fO C b e=b:=if_neg (λhh=>hh.2.elim c2 c3)
            rw[hb]at g2
            rw[if_neg (by simpa using c3)]
            exact g2
      · have hb:fO C b e=b:=if_neg (λhh=>c1 hh.1)
        rw[hb]at g2
        rw[if_neg (by simpa using c1),Ik,if_neg (by simp)]
        exact g2
  · have h':¬(i:Int)<(R.length:Int):=by omega
    rw[xS,yg,if_neg (by simpa using h'),if_neg (by simpa using h'),Jj (by omega)]
    exact⟨⟨_,rfl⟩,⟨_,rfl⟩⟩
theorem oZ (C:Int):∀(R:List Nj) (b:Nj),R.foldl (fO C) b=b∨(R.foldl (fO C) b∈R/\C<=(R.foldl (fO C) b).Pz)
 | [],b=>.inl rfl
 | e::R,b=>by
  rw[Jr]
  rcases oZ C R (fO C b e) with h | ⟨h1,h2⟩
  · rw[h]
    unfold fO
    split
    · rename_i hc
      exact .inr ⟨IK ..,hc.1⟩
    · exact .inl rfl
  · exact .inr ⟨IP _ h1,h2⟩
def mK (m C:Int):Nj:=(eh m 25 0).foldl (fO C) b0R
def blkP (m C fit:Int):Option Nj :=
 if fit=1 then (fits m C).head?.map λf=>⟨f,C⟩ else if fit=2 then (fits m C).getLast?.map λf=>⟨f,C⟩ else if (mK m C).Pz=0 then none else some ⟨(mK m C).Pk,C⟩
variable {m C:Int}
theorem tC (hm:MK m) {a b:Nat} {C:Int} (h1:1<=C) (h2:C<=b) (h3:a + b<=24) (hf:∀t,a<=t->t<a + b->ln m t=true):(a:Int)∈fits m C:=by
 refine (lE h1 (by omega)).2 ⟨by omega,by omega,?_⟩;have hb:yD ⟨(a:Int),C⟩=true:=by simp only[yD,Iw,decide_eq_true_eq]; omega
 unfold apart;rw[iw hm (ky hb),beq_iff_eq];have e:m.toNat &&& (bits ⟨(a:Int),C⟩).toNat=0:=by
  refine Nat.eq_of_testBit_eq λj=>?_
  rw[Nat.testBit_and,qD hb,Nat.zero_testBit]
  simp only[IQ]
  by_cases hj:a<=j/\j - a<C.toNat
  · have hfj:=hf j hj.1 (by omega)
    unfold ln at hfj
    simp only[Iw,decide_eq_true_eq,beq_iff_eq]at hfj
    rw[Nat.testBit_eq_decide_div_mod_eq,hfj.2]
    rfl
  · have:(decide (a<=j)&&decide (j - a<C.toNat))=false:=by
     rw[K1,decide_eq_false_iff_not,decide_eq_false_iff_not]
     omega
    rw[this,Bool.and_false]
 rw[e];rfl
theorem rv {fit:Int} (hm:MK m) (h1:1<=C) (h2:C<=24) {b:Nj} (h:blkP m C fit=some b):b.Pz=C/\b.Pk∈fits m C:=by
 unfold blkP at h;split at h
 obtain⟨f,hf,rfl⟩:=IU.1 h;exact⟨rfl,List.mem_of_mem_head? hf⟩;split at h
 obtain⟨f,hf,rfl⟩:=IU.1 h;exact⟨rfl,List.mem_of_getLast? hf⟩;split at h
 cases h;rename_i hc;injection h with h
 subst h;refine⟨rfl,?_⟩;unfold mK at hc ⊢;rcases oZ C (eh m 25 0) b0R with hb | ⟨hb1,hb2⟩
 rw[hb]at hc;exact absurd rfl hc;obtain⟨a,b,he,hb0,hab,hfr⟩:=rN hm 25 0 _ hb1;rw[he]at hb2 ⊢;exact tC hm h1 hb2 hab hfr
theorem sp {fu:Nat} (hm:MK m) (h1:1<=C) (h2:C<=24):cN fu m C=some true:=by
 unfold cN eU;rw[xZ,xZ];have hm':(decide (0<=m)&&decide (m<=16777215))=true:=by
  obtain⟨a,b⟩:=hm
  simp; omega
 have hc':(decide (1<=C)&&decide (C<=24))=true:=by simp; omega
 simp only[Ik,hm',hc',if_true]
theorem pN {fu:Nat} (hfu:2097153<=fu) {m C:Int} (h1:1<=C) (h2:C<=24):zn fu m C=some (fits m C):=by
 obtain⟨N,hN⟩:∃N,N=25 - C.toNat:=⟨_,rfl⟩;obtain⟨z,hz⟩:=rZ (fu:=fu) m C N (by omega) h1 fu N 0 [] (by omega) (by omega) (by simp);rw[show ((0:Nat):Int)=0 from rfl,IY,hN]at hz;unfold zn;rw[hz]; rfl
def optB (o:Option Nj):Nj×Bool:=match o with | some b=>(b,true) | none=>(b0R,false)
theorem tF {fu:Nat} (hfu:2097153<=fu) {m C fit:Int} (hm:MK m) (h1:1<=C) (h2:C<=24):d4 fu m C fit=some (optB (blkP m C fit)):=by
 unfold d4 blkP;by_cases f1:fit=1;rw[if_pos (by simpa using f1),if_pos f1,rm hfu m C hm h1 h2,Ik];cases fits m C <;> rfl
 rw[if_neg (by simpa using f1),if_neg f1];by_cases f2:fit=2;rw[if_pos (by simpa using f2),if_pos f2,ft,sp hm h1 h2,Ik,if_neg (by decide),pN hfu h1 h2,Ik];have hl:=oP m C;cases hf:fits m C with
 | nil=>rfl
 | cons f l =>
  rw[<-hf]
  have hne:0<(fits m C).length:=by rw[hf]; simp
  rw[if_neg (by rw[beq_iff_eq]; omega),uZ (by omega) (by omega),show ((fits m C).length:Int) - 1=(((fits m C).length - 1:Nat):Int) by omega,vw (by omega),Ik,KL,Iq (by omega)]
  rfl
 rw[if_neg (by simpa using f2),if_neg f2,fv,sp hm h1 h2,Ik,if_neg (by decide)];obtain⟨-,R3⟩:=j1 (fu:=fu) hm (by omega) 25 0 [] (by omega) (by omega) (by simp);obtain⟨z,hz⟩:=R3 fu (by omega);rw[IY]at hz;have hr:df fu m=some (eh m 25 0):=by
  unfold df
  rw[show (0:Int)=((0:Nat):Int) from rfl,hz]; rfl
 obtain⟨⟨z2,hb⟩,-⟩:=kA (fu:=fu) C (eh m 25 0) (Jo (jy m 25 0) (by omega)) fu 0 b0R (by omega) (by have:=jy m 25 0; omega);have hb':xS fu C (eh m 25 0) fu 0 0 0=some (z2,(mK m C).Pk,(mK m C).Pz):=hb;rw[hr,Ik,hb',Ik];dsimp only;by_cases hc:(mK m C).Pz=0;rw[if_pos (by simpa using hc),if_pos hc]; rfl;rw[if_neg (by simpa using hc),if_neg hc]; rfl
theorem re {fu:Nat} (hfu:2097153<=fu) {m C fit:Int} (hm:MK m) (h1:1<=C) (h2:C<=24):∃b,cX fu m C fit=some b/\((blkP m C fit=none/\b.Pz=0)∨blkP m C fit=some b):=by
 unfold cX;rw[mi hfu m C h1 h2,Ik];have hl:=oP m C;cases hf:fits m C with
 | nil =>
  refine⟨b0R,rfl,.inl ⟨?_,rfl⟩⟩
  cases hb:blkP m C fit with
  | none=>rfl
  | some b =>
   have:=(rv hm h1 h2 hb).2
   rw[hf]at this
   simp at this
 | cons f l =>
  rw[<-hf]
  have hne:0<(fits m C).length:=by rw[hf]; simp
  rw[if_neg (by rw[beq_iff_eq]; omega)]
  unfold blkP
  by_cases f1:fit=1
  · rw[if_pos (by simpa using f1),if_pos f1]
    refine⟨⟨f,C⟩,?_,.inr ?_⟩
    · rw[show (0:Int)=((0:Nat):Int) from rfl,vw hne]
      simp only[hf,List.getElem_cons_zero]
      rfl
    · rw[hf]; rfl
  · rw[if_neg (by simpa using f1),if_neg f1]
    by_cases f2:fit=2
    · rw[if_pos (by simpa using f2),if_pos f2,uZ (by omega) (by omega),show ((fits m C).length:Int) - 1=(((fits m C).length - 1:Nat):Int) by omega,vw (by omega),Ik,KL,Iq (by omega)]
      exact⟨_,rfl,.inr rfl⟩
    · rw[if_neg (by simpa using f2),if_neg f2]
      unfold gm
      obtain⟨R2,-⟩:=j1 (fu:=fu) hm (by omega) 25 0 [] (by omega) (by omega) (by simp)
      obtain⟨z,z',hz⟩:=R2 fu (by omega)
      rw[IY]at hz
      have hr:eC fu m=some (eh m 25 0):=by
       unfold eC
       have hz':vt fu m fu 0 0 []=some (z,z',eh m 25 0):=hz
       rw[hz']; rfl
      obtain⟨-,⟨z2,hb⟩⟩:=kA (fu:=fu) C (eh m 25 0) (Jo (jy m 25 0) (by omega)) fu 0 b0R (by omega) (by have:=jy m 25 0; omega)
      have hb':yg fu C (eh m 25 0) fu 0 0 0=some (z2,(mK m C).Pk,(mK m C).Pz):=hb
      rw[hr,Ik,hb',Ik]
      dsimp only
      have hpos:(mK m C).Pz=0∨0<(mK m C).Pz:=by
       unfold mK
       rcases oZ C (eh m 25 0) b0R with h | ⟨-,h⟩
       · rw[h]; exact .inl rfl
       · right; omega
      rcases hpos with hc | hc
      · rw[if_neg (by simp; omega),if_pos hc]
        exact⟨_,rfl,.inl ⟨rfl,hc⟩⟩
      · rw[if_pos (by simpa using hc),if_neg (by omega)]
        exact⟨_,rfl,.inr rfl⟩
end
section
theorem nx {F:List Pq} {i:Nat} (hi:i<F.length):∀(fs out:d_) (v:Int) {o:d_},v=gl out->db F fs out v=some o->0<=X_ (gd F i f0) (gl o)->(o.any λx=>x==X_ (gd F i f0) (gl o))=false->db F (fs++[(i:Int)]) out v=some (o++[X_ (gd F i f0) (gl o)])
 | [],out,v,o,hv,h,h0,hn=>by
  simp only[db,IV]at h
  subst h
  rw[IY,db,if_pos ⟨KR i,by omega⟩,IQ,hv,if_neg (λh=>by
   rcases h with h | h
   · omega
   · rw[hn]at h; cases h)]
  rfl
 | j::fs,out,v,o,hv,h,h0,hn=>by
  rw[J8]
  unfold db at h ⊢
  split at h
  · rename_i hj
    rw[if_pos hj]
    split at h
    · cases h
    · rename_i hc
      rw[if_neg hc]
      exact nx hi fs _ _ (by rw[oN]) h h0 hn
  · cases h
theorem rX {n:Nq} {to s:Int}:∀(k:Nat) {seen:d_} {v:Int} {fs:d_},db n.Nw fs [s] s=some seen->gl seen=v->∀p∈W1 n.Nw to k seen v fs,∃o,db n.Nw p [s] s=some o/\gl o=to
 | 0,_,_,_,_,_,p,hp=>by simp [W1]at hp
 | k + 1,seen,v,fs,h,hg,p,hp=>by
  by_cases hv:v=to
  · rw[W1,if_pos hv,Iu]at hp
    subst hp
    exact⟨seen,h,hg.trans hv⟩
  · rw[rY hv]at hp
    obtain⟨i,hi,hp⟩:=I7.1 hp
    rw[I4]at hi
    split at hp
    · rename_i hc
      refine rX k (nx hi fs [s] s (by simp [gl,gd]) h (by rw[hg]; exact hc.1) (by rw[hg]; exact hc.2)) (by rw[oN,hg]) p ?_
      rw[hg]
      exact hp
    · cases hp
theorem Ff {n:Nq} (hn:NetF n) {s t:Int} (h0:0<=s) (h1:s<(n.Nv.length:Int)) (hne:s≠t) {a:Nk} (ha:a∈M0 n s t):a.Np=s/\(yL n a).isSome=true/\endR n a=t/\RtB n a:=by
 have hB:=(s7 hn h0 h1 t).1 a ha;unfold M0 at ha;rcases nA _ ha with ha | ⟨p,hp,rfl⟩
 cases ha;obtain⟨o,ho,hg⟩:=rX (n:=n) (to:=t) (s:=s) n.Nv.length (seen:=[s]) (v:=s) (fs:=[]) rfl rfl p hp;have hpn:p≠[]:=λe=>by
  subst e
  simp only[db,IV]at ho
  subst ho
  exact hne hg
 have hr:yL n ⟨s,p⟩=some o:=by
  unfold yL
  rw[if_pos ⟨⟨h0,h1⟩,hpn⟩]
  exact ho
 exact⟨rfl,by rw[hr]; rfl,by unfold endR; rw[hr]; exact hg,hB⟩
theorem tj {n:Nq} {s t:Int}:ee n s t=true↔cO n=true/\(0<=s/\s<(n.Nv.length:Int))/\(0<=t/\t<(n.Nv.length:Int))/\s≠t:=by
 unfold ee;simp only[Iw,decide_eq_true_eq,bne_iff_ne]
theorem D7 {N:Nq} {L:List Nx} {x:Nx} (hp:vR ⟨N,L⟩=true) (hx:bn N x=true) (hid:hasL L x.Id=false) (hf:∀y∈L,coll y x=false) (hl:L.length<12):vR ⟨N,putL L x⟩=true:=by
 obtain⟨n1,n2,n3,n4⟩:=x7.1 hp;simp only at n1 n2 n3 n4;refine x7.2 ⟨n1,by simp only; rw[lw]; omega,λy hy=>?_,?_⟩;rcases gv.1 hy with rfl | hy
 exact hx;exact n3 y hy;have hle:=lD L x.Id;have hpre:∀y∈L.take (gA L x.Id),y.Id<x.Id:=λy hy=>by
  obtain⟨q,hq,rfl⟩:=IF.1 hy
  rw[Is]at hq
  have hq':q<gA L x.Id:=by omega
  have:=List.not_of_lt_findIdx (p:=λy:Nx=>!decide (y.Id<x.Id)) (xs:=L) (i:=q) hq'
  rw[Ja]
  simpa using this
 have hpost:∀y∈L.drop (gA L x.Id),x.Id<y.Id:=λy hy=>by
  have hyL:y∈L:=Kz hy
  have hne:y.Id≠x.Id:=λe=>by
   rw[IJ]at hid
   exact hid (IH.2 ⟨y,hyL,by rw[beq_iff_eq]; exact e⟩)
  by_cases hlt:gA L x.Id<L.length
  · have h1:=List.findIdx_getElem (p:=λy:Nx=>!decide (y.Id<x.Id)) (xs:=L) (w:=hlt)
    have h1':(!decide (L[gA L x.Id].Id<x.Id))=true:=h1
    have h2:¬L[gA L x.Id].Id<x.Id:=by simpa using h1'
    rw[<-IB hlt]at hy
    rcases IW.1 hy with rfl | hy
    · omega
    · obtain⟨q,hq,rfl⟩:=IF.1 hy
      rw[IT]at hq
      have:=(Jt.1 n4 (gA L x.Id) (gA L x.Id + 1 + q) hlt (by omega) (by omega)).1
      rw[JS]
      omega
  · rw[Jj (by omega)]at hy
    cases hy
 unfold putL;have hs:(L.take (gA L x.Id)++L.drop (gA L x.Id)).Pairwise (λa b=>a.Id<b.Id/\coll a b=false):=by rw[IS]; exact n4
 obtain⟨s1,s2,s3⟩:=Jm.1 hs;refine Jm.2 ⟨s1,JE.2 ⟨λy hy=>⟨hpost y hy,?_⟩,s2⟩,λa ha b hb=>?_⟩;rw[qy];exact hf y (Kz hy);rcases IW.1 hb with rfl | hb
 exact⟨hpre a ha,hf a (K5 ha)⟩;exact s3 a ha b hb
end
section
def Z0:Ng:=⟨0,0⟩
def kO (L:List Ng) (i:Nat):Bool:=!(decide (1<=(gd L i Z0).Reach)&&decide ((gd L i Z0).Reach<=20000))||(!(decide (1<=(gd L i Z0).Ph)&&decide ((gd L i Z0).Ph<=1000))||(decide (0<i)&&(decide ((gd L (i - 1) Z0).Reach<=(gd L i Z0).Reach)||decide ((gd L (i - 1) Z0).Ph>=(gd L i Z0).Ph))))
def eY (L:List Ng):Bool:=!((List.range L.length).any (kO L))&&(decide (1<=L.length)&&decide (L.length<=6))
theorem iK {fu:Nat} (hfu:2097153<=fu) (L:List Ng) (hn:L.length<=7):xA fu L=some (eY L):=by
 unfold xA eY;rw[yh (l:=List.range L.length) (G:=vU fu L) (kO L) (λi=>false) (by simp; omega)
  (λfk i hk=>by
    have hi':i<L.length:=by simpa using hk
    rw[vU,if_pos (by simpa using hi'),yb Z0 hi',Js]
    obtain⟨b1,h1⟩:∃b,b=(decide (1<=(gd L i Z0).Reach)&&decide ((gd L i Z0).Reach<=20000)):=⟨_,rfl⟩
    obtain⟨b2,h2⟩:∃b,b=(decide (1<=(gd L i Z0).Ph)&&decide ((gd L i Z0).Ph<=1000)):=⟨_,rfl⟩
    simp only[Ik,xZ,kO,<-h1,<-h2]
    cases b1
    · rfl
    cases b2
    · rfl
    by_cases h0:0<i
    · rw[fD h0 (by omega),yb Z0 (show i - 1<L.length by omega)]
      obtain⟨b4,h4⟩:∃b,b=decide ((gd L (i - 1) Z0).Reach<=(gd L i Z0).Reach):=⟨_,rfl⟩
      obtain⟨b5,h5⟩:∃b,b=decide ((gd L (i - 1) Z0).Ph>=(gd L i Z0).Ph):=⟨_,rfl⟩
      have h0':decide ((i:Int) > 0)=true:=by simpa using h0
      simp only[<-h4,<-h5,h0,h0',decide_true,if_true,Ik]
      cases b4 <;> cases b5 <;> rfl
    · have h0':decide ((i:Int) > 0)=false:=by simpa using h0
      simp only[h0,h0',decide_false]
      rfl)
  (λfk=>by rw[Jb,vU,if_neg (by simp)]) fu (by simp; omega)]
 have e:(decide ((1:Int)<=(L.length:Int))&&decide ((L.length:Int)<=6))=(decide (1<=L.length)&&decide (L.length<=6)):=by
  congr 1 <;> exact decide_eq_decide.2 (by omega)
 cases (List.range L.length).any (kO L);show (vn fu _ 1 6).bind _=_;rw[xZ,Ik,e]; rfl;rfl
theorem sS {fu:Nat} (hfu:2097153<=fu) (L:List Ng) (hn:L.length<=7):bS fu L=some (eY L):=by
 unfold bS eY;rw[yh (l:=List.range L.length) (G:=xN fu L) (kO L) (λi=>false) (by simp; omega)
  (λfk i hk=>by
    have hi':i<L.length:=by simpa using hk
    have h6:decide ((i:Int)<=6)=true:=by rw[decide_eq_true_eq]; omega
    rw[xN,if_pos (by simpa using hi'),h6,Ik,if_pos rfl,yb Z0 hi',Js]
    obtain⟨b1,h1⟩:∃b,b=(decide (1<=(gd L i Z0).Reach)&&decide ((gd L i Z0).Reach<=20000)):=⟨_,rfl⟩
    obtain⟨b2,h2⟩:∃b,b=(decide (1<=(gd L i Z0).Ph)&&decide ((gd L i Z0).Ph<=1000)):=⟨_,rfl⟩
    simp only[Ik,cD,kO,<-h1,<-h2]
    cases b1
    · rfl
    cases b2
    · rfl
    by_cases h0:0<i
    · rw[fD h0 (by omega),yb Z0 (show i - 1<L.length by omega)]
      obtain⟨b4,h4⟩:∃b,b=decide ((gd L (i - 1) Z0).Reach<=(gd L i Z0).Reach):=⟨_,rfl⟩
      obtain⟨b5,h5⟩:∃b,b=decide ((gd L (i - 1) Z0).Ph>=(gd L i Z0).Ph):=⟨_,rfl⟩
      have h0':decide ((i:Int) > 0)=true:=by simpa using h0
      simp only[<-h4,<-h5,h0,h0',decide_true,if_true,Ik]
      cases b4 <;> cases b5 <;> rfl
    · have h0':decide ((i:Int) > 0)=false:=by simpa using h0
      simp only[h0,h0',decide_false]
      rfl)
  (λfk=>by
    rw[Jb,xN,if_neg (by simp)]
    rfl) fu (by simp; omega)]
 have e:(decide ((1:Int)<=(L.length:Int))&&decide ((L.length:Int)<=6))=(decide (1<=L.length)&&decide (L.length<=6)):=by
  congr 1 <;> exact decide_eq_decide.2 (by omega)
 cases (List.range L.length).any (kO L);show (xd fu _ 1 6).bind _=_;rw[cD,Ik,e]; rfl;rfl
structure FmtF (L:List Ng):Prop where
 len:L.length<=6
 ne:1<=L.length
 ok:∀f∈L,(1<=f.Reach/\f.Reach<=20000)/\1<=f.Ph/\f.Ph<=1000
theorem fmtF {L:List Ng} (h:eY L=true):FmtF L:=by
 unfold eY at h;simp only[Iw,IZ,decide_eq_true_eq,Kx,I4]at h;obtain⟨h1,h2,h3⟩:=h;refine⟨h3,h2,λf hf=>?_⟩;obtain⟨i,hi,rfl⟩:=IF.1 hf;have:=h1 i hi;unfold kO at this;rw[bv Z0 hi]at this;simp only[JL,IZ,K1,decide_eq_false_iff_not,not_or]at this;omega
def dm (n:Nq) (d:Nt):Bool:=(decide (0<=d.Rw)&&decide (d.Rw<=(n.Nv.length:Int) - 1))&&((decide (0<=d.To)&&decide (d.To<=(n.Nv.length:Int) - 1))&&((d.Rw != d.To)&&((decide (1<=d.Ph)&&decide (d.Ph<=1000))&&(decide (0<=d.Rk)&&decide (d.Rk<=2)))))
theorem sC (b1 b2 b3 b4 b5:Bool):(((some b1).bind λy=>if y=true then (some b2).bind λy2=>if y2=true then if b3=true then (some b4).bind λy3=>if y3=true then (some b5).bind λy4=>some y4 else some false else some false else some false else some false).bind λc3=>some c3)=some (b1&&(b2&&(b3&&(b4&&b5)))):=by
 cases b1 <;> cases b2 <;> cases b3 <;> cases b4 <;> cases b5 <;> rfl
theorem tA (fu:Nat) (n:Nq) (d:Nt) (hm:n.Nv.length<=2097152):de fu n d=some (dm n d):=by
 unfold de;rw[xZ,xZ,xZ,xZ,uZ (by omega) (by omega)];exact sC _ _ _ _ _
theorem sW (fu:Nat) (n:Nq) (d:Nt) (hm:n.Nv.length<=2097152):cp fu n d=some (dm n d):=by
 unfold cp;rw[cD,cD,cD,cD,uZ (by omega) (by omega)];exact sC _ _ _ _ _
def iu (n:Nq) (L:List Nt):Bool:=cO n&&(decide (L.length<=12)&&L.all (dm n))
theorem jj {fu:Nat} (hfu:2097153<=fu) (n:Nq) (L:List Nt) (hB:NetB n) (hn:L.length<=13):xY fu n L=some (iu n L):=by
 unfold xY iu;rw[iJ hfu n hB];cases cO n
 rfl;rw[Ik,if_pos rfl,Jq];by_cases h:L.length<=12;have h':decide ((L.length:Int)<=12)=true:=by rw[decide_eq_true_eq]; omega
 rw[h',if_pos rfl,decide_eq_true h,Jq];unfold uX u4;rw[yh (l:=L) (G:=uv fu L n) (λd=>!dm n d) (λi=>(i:Int)) (by omega)
  (λfk i hk=>by
    rw[uv,if_pos (by simpa using hk),vw hk,Ik,zK,tA fu n _ hB.1.1,Ik,Ik])
  (λfk=>by rw[uv,if_neg (by simp)]) fu (by omega)]
 have e:L.all (dm n)=!(L.any λd=>!dm n d):=by
  rw[List.not_any_eq_all_not]
  simp
 rw[e];cases L.any λd=>!dm n d
 rfl;show ((some _).bind _).bind _=_;rw[Ik];simp;have h':decide ((L.length:Int)<=12)=false:=by rw[decide_eq_false_iff_not]; omega
 rw[h',decide_eq_false h];rfl
theorem qS {fu:Nat} (hfu:2097153<=fu) (n:Nq) (L:List Nt) (hB:NetB n) (hn:L.length<=13):bT fu n L=some (iu n L):=by
 unfold bT iu;rw[yh (l:=L) (G:=xO fu n L) (λd=>!dm n d) (λi=>false) (by omega)
  (λfk i hk=>by
    have h12:decide ((i:Int)<=12)=true:=by rw[decide_eq_true_eq]; omega
    rw[xO,if_pos (by simpa using hk),h12,Ik,if_pos rfl,vw hk,Ik,sW fu n _ hB.1.1,Ik])
  (λfk=>by
    rw[xO,if_neg (by simp)]
    rfl) fu (by omega)]
 have e:L.all (dm n)=!(L.any λd=>!dm n d):=by
  rw[List.not_any_eq_all_not]
  simp
 rw[e];cases L.any λd=>!dm n d
 show ((if decide ((L.length:Int)<=12)=true then (a7 fu n).bind λy2=>some y2 else some false:Option Bool).bind λc5=>some c5)=_
 by_cases h:L.length<=12;have h':decide ((L.length:Int)<=12)=true:=by rw[decide_eq_true_eq]; omega
 rw[h',if_pos rfl,decide_eq_true h,iC hfu n hB];cases cO n <;> rfl
 have h':decide ((L.length:Int)<=12)=false:=by rw[decide_eq_false_iff_not]; omega
 rw[h',decide_eq_false h];cases cO n <;> rfl
 cases cO n <;> cases decide (L.length<=12) <;> rfl
def kI (p:Nh) (F:List Ng) (L:List Nt) (fit:Int):Bool:=vR p&&(eY F&&(iu p.Nq L&&(decide (1<=fit)&&decide (fit<=3))))
theorem and4 (b1 b2 b3 b4:Bool):(((some b1).bind λy=>if y=true then (some b2).bind λy2=>if y2=true then (some b3).bind λy3=>if y3=true then (some b4).bind λy4=>some y4 else some false else some false else some false).bind λc6=>some c6)=some (b1&&(b2&&(b3&&b4))):=by
 cases b1 <;> cases b2 <;> cases b3 <;> cases b4 <;> rfl
theorem qf {fu:Nat} (hfu:2097153<=fu) (p:Nh) (F:List Ng) (L:List Nt) (fit:Int) (hB:bB p) (hF:F.length<=7) (hL:L.length<=13):cw fu p F L fit=some (kI p F L fit):=by
 unfold cw gB;rw[eX hfu p hB,iK hfu F hF,jj hfu p.Nq L hB.1 hL,xZ];exact and4 _ _ _ _
theorem rf {fu:Nat} (hfu:2097153<=fu) (p:Nh) (F:List Ng) (L:List Nt) (fit:Int) (hB:bB p) (hF:F.length<=7) (hL:L.length<=13):cY fu p F L fit=some (kI p F L fit):=by
 unfold cY;rw[qR hfu p hB,sS hfu F hF,qS hfu p.Nq L hB.1 hL,cD];exact and4 _ _ _ _
def fN (F:List Ng) (len:Int):Nat->Int
 | 0=>-1
 | n + 1=>if (gd F n Z0).Reach>=len then (n:Int) else fN F len n
theorem jT (F:List Ng) (len:Int):∀n,fN F len n=-1∨∃i:Nat,fN F len n=(i:Int)/\i<n/\(gd F i Z0).Reach>=len
 | 0=>.inl rfl
 | n + 1=>by
  rw[fN]
  split
  · rename_i h
    exact .inr ⟨n,rfl,by omega,h⟩
  · rcases jT F len n with h | ⟨i,h1,h2,h3⟩
    · exact .inl h
    · exact .inr ⟨i,h1,by omega,h3⟩
def cq (F:List Ng) (len rate:Int):Int :=
 if fN F len F.length<0 then 0 else if (rate + (gd F (fN F len F.length).toNat Z0).Ph - 1) / (gd F (fN F len F.length).toNat Z0).Ph > 24 then 0 else (rate + (gd F (fN F len F.length).toNat Z0).Ph - 1) / (gd F (fN F len F.length).toNat Z0).Ph
theorem nR {fu:Nat} (F:List Ng) (len:Int) (hF:F.length<=6):∀(fk i:Nat),i<=F.length->F.length - i<fk->∃z,xQ fu F len fk (fN F len i) i=some (fN F len F.length,z)
 | 0,i,hi,hf=>by omega
 | fk + 1,i,hi,hf=>by
  by_cases h:i<F.length
  · have hw:y_ ((i:Int) + 1)=((i + 1:Nat):Int):=by rw[uZ (by omega) (by omega)]; omega
    obtain⟨z,hz⟩:=nR (fu:=fu) F len hF fk (i + 1) (by omega) (by omega)
    rw[fN]at hz
    rw[xQ,if_pos (by simpa using h),yb Z0 h,Ik,hw]
    by_cases hc:(gd F i Z0).Reach>=len
    · rw[if_pos (by simpa using hc)]
      rw[if_pos hc]at hz
      exact⟨z,hz⟩
    · rw[if_neg (by simpa using hc)]
      rw[if_neg hc]at hz
      exact⟨z,hz⟩
  · have e:i=F.length:=by omega
    subst e
    rw[xQ,if_neg (by simp)]
    exact⟨_,rfl⟩
theorem nS {fu:Nat} (F:List Ng) (len:Int) (hF:F.length<=6):∀(n fk:Nat),n<=F.length->n<fk->ya fu F len fk ((n:Int) - 1)=some (if fN F len n<0 then .next (-1) else .ret (fN F len n,true))
 | 0,fk,hn,hf=>by
  obtain⟨fk,rfl⟩:∃k,fk=k + 1:=⟨fk - 1,by omega⟩
  rw[ya,if_neg (by simp),fN,if_pos (by omega)]
  rfl
 | n + 1,fk,hn,hf=>by
  obtain⟨fk,rfl⟩:∃k,fk=k + 1:=⟨fk - 1,by omega⟩
  have e:(((n + 1:Nat):Int) - 1)=(n:Int):=by omega
  rw[e,ya,if_pos (by simp),yb Z0 (by omega),Ik,fN]
  by_cases hc:(gd F n Z0).Reach>=len
  · rw[if_pos (by simpa using hc),if_pos hc,if_neg (by omega)]
  · rw[if_neg (by simpa using hc),if_neg hc,uZ (by omega) (by omega)]
    exact nS F len hF n fk (by omega) (by omega)
theorem Dp {a b:Int} (ha:0<=a) (h2:a<=4000) (hb:0<b):quo a b=some (a / b):=by
 have h0:0<=a / b:=Int.ediv_nonneg ha (by omega);have h1:a / b<=a:=Int.ediv_le_self b ha;unfold quo;rw[if_neg (by omega),Int.tdiv_eq_ediv_of_nonneg ha,uZ (by omega) (by omega)]
variable {fu:Nat} {F:List Ng}
theorem qT (hF:FmtF F) {len rate:Int} (hr:1<=rate/\rate<=1000) (hfu:2097153<=fu):cZ fu F len rate=some (cq F len rate):=by
 unfold cZ fj cq;have h6:=hF.len;obtain⟨z,hz⟩:=nR (fu:=fu) F len hF.len fu 0 (by omega) (by omega);have hz':xQ fu F len fu (-1) 0=some (fN F len F.length,z):=hz;rw[hz',Ik,Ik];dsimp only;rcases jT F len F.length with h | ⟨i,h1,h2,h3⟩
 rw[h]; rfl;rw[h1];have hi:=hF.ok _ (aR Z0 h2);rw[IQ,if_neg (by simp),if_neg (by omega),yb Z0 h2,Ik,Ik];generalize (gd F i Z0).Ph=R at hi;rw[uZ (n:=rate + R) (by omega) (by omega),uZ (by omega) (by omega),Dp (by omega) (by omega) (by omega),Ik];by_cases hc:(rate + R - 1) / R > 24;rw[if_pos (by simpa using hc),if_pos hc];rw[if_neg (by simpa using hc),if_neg hc]
theorem pC (hF:FmtF F) {len rate:Int} (hr:1<=rate/\rate<=1000):cq F len rate=0∨(1<=cq F len rate/\cq F len rate<=24/\len<=20000):=by
 unfold cq;rcases jT F len F.length with h | ⟨i,h1,h2,h3⟩
 rw[h]; exact .inl rfl;rw[h1,IQ,if_neg (by omega)];have hi:=hF.ok _ (aR Z0 h2);split
 exact .inl rfl;rename_i hc;refine .inr ⟨?_,by omega,by omega⟩;generalize (gd F i Z0).Ph=R at hi hc;have:1 * R<=rate + R - 1:=by omega
 exact (Int.le_ediv_iff_mul_le (by omega)).2 this
theorem Bp (hF:FmtF F) {len:Int} (h:20000<len):fN F len F.length=-1:=by
 rcases jT F len F.length with h1 | ⟨i,h1,h2,h3⟩
 exact h1;have:=(hF.ok _ (aR Z0 h2)).1.2;omega
theorem qn (hfu:2097153<=fu) {F:List Ng} (hok:eY F=true) {len:Int} (hl:0<=len):cx fu F len=some (if fN F len F.length<0 then (0,false) else (fN F len F.length,true)):=by
 have hF:=fmtF hok;have h6:=hF.len;have h1':=hF.ne;unfold cx;rw[iK hfu F (by omega),hok,Ik,if_neg (by decide),xZ,Ik,Ik];by_cases hlen:len<=20000;have e1:(decide (0<=len)&&decide (len<=20000))=true:=by simp; omega
 rw[e1,if_neg (by decide),uZ (by omega) (by omega),nS F len hF.len F.length fu (by omega) (by omega)];by_cases hb:fN F len F.length<0;rw[if_pos hb,if_pos hb]; rfl;rw[if_neg hb,if_neg hb]; rfl;have e1:(decide (0<=len)&&decide (len<=20000))=false:=by simp; omega
 rw[e1,if_pos (by decide),Bp hF (by omega)];rfl
theorem sZ (hfu:2097153<=fu) {F:List Ng} (hok:eY F=true) {len rate:Int} (hl:0<=len) (hr:1<=rate/\rate<=1000):dh fu F len rate=some (cq F len rate,decide (cq F len rate > 0)):=by
 have hF:=fmtF hok;have hw:(decide (1<=rate)&&decide (rate<=1000))=true:=by simp; omega
 have hp:=pC hF (len:=len) hr;unfold dh;rw[qn hfu hok hl,Ik];rcases jT F len F.length with h | ⟨i,g1,g2,g3⟩
 have hs:cq F len rate=0:=by unfold cq; rw[h]; rfl
 rw[h,hs]; rfl;have hs:cq F len rate=if (rate + (gd F i Z0).Ph - 1) / (gd F i Z0).Ph > 24 then 0 else (rate + (gd F i Z0).Ph - 1) / (gd F i Z0).Ph:=by
  unfold cq
  rw[g1,IQ,if_neg (by omega)]
 have hi:=hF.ok _ (aR Z0 g2);rw[g1,if_neg (show ¬((i:Int)<0) by omega)];dsimp only;rw[Jp,if_neg (by decide),xZ,Ik,hw,Ik,if_neg (by decide),yb Z0 g2,Ik,Ik];generalize (gd F i Z0).Ph=R at hi hs;rw[uZ (n:=rate + R) (by omega) (by omega),uZ (by omega) (by omega),Dp (by omega) (by omega) (by omega),Ik];by_cases hc:(rate + R - 1) / R > 24;rw[if_pos (by simpa using hc)];rw[if_pos hc]at hs;rw[hs]; rfl;rw[if_neg (by simpa using hc)];rw[if_neg hc]at hs;have:1<=(rate + R - 1) / R:=(Int.le_ediv_iff_mul_le (by omega)).2 (by omega);rw[hs,decide_eq_true (by omega)]
end
section
def D_ {X:Type} (key:X->Int) (pos:X->Nat) (a b:X):Prop:=key a<key b∨(key a=key b/\pos a<pos b)
section
variable {X:Type} {key:X->Int} {pos:X->Nat}
theorem D_.trans {a b c:X} (h1:D_ key pos a b) (h2:D_ key pos b c):D_ key pos a c:=by
 unfold D_ at *; omega
theorem D_.irr {a:X} (h:D_ key pos a a):False:=by
 unfold D_ at h; omega
theorem D_.asy {a b:X} (h:D_ key pos a b) (h2:D_ key pos b a):False:=(h.trans h2).irr
theorem El {a b:List X} (hp:a.Perm b) (sa:a.Pairwise (D_ key pos)) (sb:b.Pairwise (D_ key pos)):a=b :=
 Lj (le:=D_ key pos) (λ_ _ _ _ h1 h2=>(h1.asy h2).elim) sa sb hp
theorem q9 {x1 x2 y1 y2 z1 z2:List X} (h1:∀a∈x1,∀b∈y2,D_ key pos a b) (h2:∀a∈y1,∀b∈x2,D_ key pos a b) (hx:(x1++x2).Pairwise (D_ key pos)) (hy:(y1++y2).Pairwise (D_ key pos)) (p1:z1.Perm (x1++y1)) (p2:z2.Perm (x2++y2)) (s1:z1.Pairwise (D_ key pos)) (s2:z2.Pairwise (D_ key pos)) :
 (z1++z2).Pairwise (D_ key pos)/\(z1++z2).Perm ((x1++x2)++(y1++y2)):=by
 refine⟨Jm.2 ⟨s1,s2,λa ha b hb=>?_⟩,?_⟩;have ha':=Il.1 (p1.mem_iff.1 ha);have hb':=Il.1 (p2.mem_iff.1 hb);rcases ha' with ha' | ha' <;> rcases hb' with hb' | hb'
 exact (Jm.1 hx).2.2 a ha' b hb';exact h1 a ha' b hb';exact h2 a ha' b hb';exact (Jm.1 hy).2.2 a ha' b hb';refine (p1.append p2).trans ?_;rw[Ir,Ir];refine List.Perm.append_left x1 ?_;rw[<-Ir,<-Ir];exact List.Perm.append_right y2 JU
end
def stN (key:Nat->Int) (l:m_) (i:Nat):Nat->Nat
 | 0=>0
 | k + 1=>if key (gd l k 0) > key i then stN key l i k else k + 1
theorem nZ (key:Nat->Int) (l:m_) (i:Nat):∀k,stN key l i k<=k/\(∀q,stN key l i k<=q->q<k->key (gd l q 0) > key i)/\(stN key l i k=0∨key (gd l (stN key l i k - 1) 0)<=key i)
 | 0=>⟨IC _,λq h1 h2=>by omega,.inl rfl⟩
 | k + 1=>by
  obtain⟨h1,h2,h3⟩:=nZ key l i k
  rw[stN]
  by_cases hc:key (gd l k 0) > key i
  · rw[if_pos hc]
    refine⟨by omega,λq hq hk=>?_,h3⟩
    by_cases hqk:q=k
    · subst hqk; exact hc
    · exact h2 q hq (by omega)
  · rw[if_neg hc]
    refine⟨IC _,λq hq hk=>by omega,.inr ?_⟩
    rw[KT]
    omega
def sR (key:Nat->Int) (l:m_) (i:Nat):m_:=l.take (stN key l i l.length)++i::l.drop (stN key l i l.length)
theorem sQ (key:Nat->Int) (l:m_) (i:Nat):(sR key l i).Perm (i::l):=by
 unfold sR;refine JP.trans (List.Perm.cons i ?_);rw[IS]
theorem rk {X:Type} {key:X->Int} {pos:X->Nat} {u v:List X} {x:X} (hs:(u++v).Pairwise (D_ key pos)) (hu:∀y∈u,D_ key pos y x) (hv:∀y∈v,D_ key pos x y):(u++x::v).Pairwise (D_ key pos):=by
 obtain⟨s1,s2,s3⟩:=Jm.1 hs;refine Jm.2 ⟨s1,JE.2 ⟨hv,s2⟩,λa ha b hb=>?_⟩;rcases IW.1 hb with rfl | hb
 exact hu a ha;exact s3 a ha b hb
theorem nJ {X:Type} {key:X->Int} {pos:X->Nat} {t:List X} {x:X} {k:Nat} (hk:k<=t.length) (hs:t.Pairwise (D_ key pos)) (hp:∀y∈t,pos y<pos x) (h2:∀(q:Nat) (h:q<t.length),k<=q->key x<key t[q]) (h3:k=0∨∃h:k - 1<t.length,key t[k - 1]<=key x):(t.take k++x::t.drop k).Pairwise (D_ key pos):=by
 refine rk (by rw[IS]; exact hs) (λy hy=>?_) λy hy=>?_;obtain⟨q,hq,rfl⟩:=IF.1 hy;rw[Is]at hq;rw[Ja];have hpq:=hp t[q] (IE _);rcases h3 with h3 | ⟨h3,h4⟩
 omega;have hle:key t[q]<=key x:=by
  by_cases e:q=k - 1
  · subst e; exact h4
  · have:=Jt.1 hs q (k - 1) (by omega) h3 (by omega)
    unfold D_ at this
    omega
 unfold D_;omega;obtain⟨q,hq,rfl⟩:=IF.1 hy;rw[IT]at hq;rw[JS];exact .inl (h2 (k + q) (by omega) (by omega))
theorem pv {key:Nat->Int} {l:m_} {i:Nat} (hs:l.Pairwise (D_ key id)) (hi:∀x∈l,x<i):(sR key l i).Pairwise (D_ key id):=by
 obtain⟨h1,h2,h3⟩:=nZ key l i l.length;unfold sR;refine nJ h1 hs hi (λq hq hkq=>?_) ?_;have:=h2 q hkq hq;rwa [bv 0 hq]at this;by_cases hz:stN key l i l.length=0;exact .inl hz;refine .inr ⟨by omega,?_⟩;rcases h3 with h3 | h3
 exact absurd h3 hz;rwa [bv 0 (by omega)]at h3
def d7 (key:Nat->Int):Nat->m_
 | 0=>[]
 | n + 1=>sR key (d7 key n) n
theorem el (key:Nat->Int):∀n,(d7 key n).Perm (List.range n)
 | 0=>.nil
 | n + 1=>by
  rw[d7,List.range_succ]
  exact (sQ key _ n).trans (((el key n).cons n).trans (JU (l₁:=[n])))
theorem lu {key:Nat->Int} {n x:Nat} (h:x∈d7 key n):x<n:=I4.1 ((el key n).mem_iff.1 h)
theorem gW (key:Nat->Int):∀n,(d7 key n).Pairwise (D_ key id)
 | 0=>.nil
 | n + 1=>by
  rw[d7]
  exact pv (gW key n) λx hx=>lu hx
theorem pw (key:Nat->Int) (n:Nat):(d7 key n).length=n:=by rw[(el key n).length_eq,Jb]
end
section
variable {a b:Nat}
theorem wadd (h:a + b<4611686018427387904):y_ ((a:Int) + (b:Int))=((a + b:Nat):Int):=by
 rw[uZ (by omega) (by omega)]; omega
theorem wsub (h:b<=a) (ha:a<4611686018427387904):y_ ((a:Int) - (b:Int))=((a - b:Nat):Int):=by
 rw[uZ (by omega) (by omega)]; omega
theorem qJ (h:a<4611686018427387904):y_ ((a:Int) + 1)=((a + 1:Nat):Int):=by
 rw[uZ (by omega) (by omega)]; omega
theorem wg (h:0<a) (ha:a<4611686018427387904):y_ ((a:Int) - 1)=((a - 1:Nat):Int):=by
 rw[uZ (by omega) (by omega)]; omega
theorem wj (h:a + b<4611686018427387904):shrk 64 (wu64 (y_ ((a:Int) + (b:Int)))) 1=some (((a + b) / 2:Nat):Int):=by
 rw[wadd h];have e:wu64 ((a + b:Nat):Int)=((a + b:Nat):Int):=by unfold wu64; omega
 rw[e];unfold shrk;rw[if_neg (by omega)];show some (Int.fdiv _ (2 ^ (min (Int.toNat 1) 64)))=_;rw[show min (Int.toNat 1) 64=1 from rfl,Kj _ (by omega)];congr 1
theorem i7 (h:a<4611686018427387904):y_ (a:Int)=(a:Int):=uZ (by omega) (by omega)
section
variable {X:Type}
theorem dl {p s:List X} {x:X} {i:Nat} (h:i=p.length):V_ (p++x::s) (i:Int)=some x:=by
 subst h;rw[vw (by simp)];simp
theorem set_mid {p s:List X} {x y:X} {i:Nat} (h:i=p.length):(p++x::s).set ((i:Int)).toNat y=p++y::s:=by
 subst h;rw[IQ];simp
variable (cf:X->X->Option Int)
theorem rH {fu:Nat} {A B N:Nat}:∀(u v p q s:List X) (i fk:Nat),u.length=v.length->u.length<fk->p.length=A + i->p.length + u.length + q.length=B + i->N=i + u.length->p.length + u.length + q.length + v.length<=2097152->uI cf fu (A:Int) (B:Int) (N:Int) fk (p++(u++(q++(v++s)))) (i:Int)=some (p++(v++(q++(u++s))),(N:Int))
 | [],[],p,q,s,i,fk,_,hf,_,_,hN,_=>by
  obtain⟨fk,rfl⟩:∃k,fk=k + 1:=⟨fk - 1,by simp at hf; omega⟩
  simp only[JG,I6]at hN
  subst hN
  rw[uI,if_neg (by simp)]
 | x::u,y::v,p,q,s,i,fk,hl,hf,hA,hB,hN,hs=>by
  obtain⟨fk,rfl⟩:∃k,fk=k + 1:=⟨fk - 1,by simp at hf; omega⟩
  simp only[I3]at hl hf hB hN hs
  have e0:p++(x::u++(q++(y::v++s)))=p++x::(u++(q++y::(v++s))):=by simp
  have e1:∀a:X,p++a::(u++(q++y::(v++s)))=(p++a::(u++q))++y::(v++s):=λa=>by simp
  have hBl:∀a:X,B + i=(p++a::(u++q)).length:=λa=>by simp; omega
  rw[uI,if_pos (by simp; omega),wadd (by omega),wadd (by omega),e0]
  rw[e1 x,dl (hBl x),Ik,<-e1 x,dl hA.symm,Ik,Ik,set_mid hA.symm,e1 y,dl (hBl y),Ik,set_mid (hBl y),qJ (by omega)]
  have ih:=rH (fu:=fu) (A:=A) (B:=B) (N:=N) u v (p++[y]) (q++[x]) s (i + 1) fk (by omega) (by omega) (by simp; omega) (by simp; omega) (by omega) (by simp; omega)
  have e2:p++y::(u++q)++x::(v++s)=(p++[y])++(u++((q++[x])++(v++s))):=by simp
  rw[e2,ih]
  simp
 | [],_::_,_,_,_,_,_,hl,_,_,_,_,_=>by simp at hl
 | _::_,[],_,_,_,_,_,hl,_,_,_,_,_=>by simp at hl
theorem wx {fu:Nat} (hfu:2097153<=fu) {A B N:Nat} {u v p q s:List X} (hl:u.length=v.length) (hA:p.length=A) (hB:p.length + u.length + q.length=B) (hN:N=u.length) (hs:p.length + u.length + q.length + v.length<=2097152):uQ cf fu (p++(u++(q++(v++s)))) (A:Int) (B:Int) (N:Int)=some (p++(v++(q++(u++s)))):=by
 rw[uQ];have:=rH cf (fu:=fu) (A:=A) (B:=B) (N:=N) u v p q s 0 fu hl (by omega) (by omega) (by omega) (by omega) hs;rw[show ((0:Nat):Int)=0 from rfl]at this;rw[this,Ik]
theorem oz {fu:Nat} (hfu:2097153<=fu) {M:Nat}:∀(n:Nat) (u v p s:List X) (fk:Nat),u.length + v.length<=n->n<fk->0<u.length->0<v.length->p.length + u.length=M->p.length + u.length + v.length<=2097152 ->
 ∃(p' u' v' s':List X),uH cf fu (M:Int) fk (p++(u++(v++s))) (u.length:Int) (v.length:Int)=some (p'++(u'++(v'++s')),(u'.length:Int),(u'.length:Int))/\u'.length=v'.length/\p'.length + u'.length=M/\p'.length + u'.length + v'.length<=2097152/\p'++(v'++(u'++s'))=p++(v++(u++s))
 | 0,u,v,p,s,fk,hn,_,hu,_,_,_=>by omega
 | n + 1,u,v,p,s,fk,hn,hf,hu,hv,hM,hs=>by
  obtain⟨fk,rfl⟩:∃k,fk=k + 1:=⟨fk - 1,by omega⟩
  by_cases he:u.length=v.length
  · refine⟨p,u,v,s,?_,he,hM,hs,rfl⟩
    rw[uH,if_neg (by rw[he]; simp),<-he]
  · have hne:((u.length:Int) != (v.length:Int))=true:=by simp; omega
    rw[uH,if_pos hne]
    by_cases hg:v.length<u.length
    · rw[if_pos (by simp; omega),wsub (by omega) (by omega)]
      obtain⟨u1,u2,rfl,h1⟩:∃u1 u2,u=u1++u2/\u1.length=v.length:=⟨u.take v.length,u.drop v.length,(IS _ _).symm,by rw[Is]; omega⟩
      rw[Ip]at hn hu hM hs hg
      have e1:p++(u1++u2++(v++s))=p++(u1++(u2++(v++s))):=by simp
      rw[e1,wx cf hfu h1 (by rw[Ip]; omega) (by omega) h1.symm (by omega),Ik]
      have ih:=oz hfu (M:=M) n u2 u1 (p++v) s fk (by omega) (by omega) (by omega) (by omega) (by rw[Ip]; omega) (by rw[Ip]; omega)
      obtain⟨p',u',v',s',g1,g2,g3,g4,g5⟩:=ih
      refine⟨p',u',v',s',?_,g2,g3,g4,by rw[g5]; simp⟩
      rw[Ip,wsub (by omega) (by omega),<-g1,<-h1,JK]
      simp
    · rw[if_neg (by simp; omega),wsub (by omega) (by omega),wadd (by omega),wsub (by omega) (by omega)]
      obtain⟨v1,v2,rfl,h1⟩:∃v1 v2,v=v1++v2/\v2.length=u.length:=⟨v.take (v.length - u.length),v.drop (v.length - u.length),(IS _ _).symm,by rw[IT]; omega⟩
      rw[Ip]at hn hv hs hg he ⊢
      have e1:p++(u++(v1++v2++s))=p++(u++(v1++(v2++s))):=by simp
      rw[e1,wx cf hfu h1.symm (by omega) (by omega) rfl (by omega),Ik]
      have ih:=oz hfu (M:=M) n v2 v1 p (u++s) fk (by omega) (by omega) (by omega) (by omega) (by omega) (by omega)
      obtain⟨p',u',v',s',g1,g2,g3,g4,g5⟩:=ih
      refine⟨p',u',v',s',?_,g2,g3,g4,by rw[g5]; simp⟩
      rw[wsub (by omega) (by omega),<-g1,<-h1,KT]
theorem FG {fu:Nat} (hfu:2097153<=fu) {A M B:Nat} {u v p s:List X} (hA:p.length=A) (hM:A + u.length=M) (hB:M + v.length=B) (hu:0<u.length) (hv:0<v.length) (hs:B<=2097152):uK cf fu (p++(u++(v++s))) (A:Int) (M:Int) (B:Int)=some (p++(v++(u++s))):=by
 rw[uK,wsub (by omega) (by omega),wsub (by omega) (by omega),show M - A=u.length by omega,show B - M=v.length by omega];obtain⟨p',u',v',s',g1,g2,g3,g4,g5⟩:=oz cf hfu (M:=M) (u.length + v.length) u v p s fu (IC _) (by omega) hu hv (by omega) (by omega);rw[g1,Ik,wsub (by omega) (by omega)];have:=wx cf hfu (A:=M - u'.length) (B:=M) (N:=u'.length) (u:=u') (v:=v') (p:=p') (q:=[]) (s:=s') g2 (by omega) (by simp; omega) rfl (by simp; omega);simp only[IY]at this;rw[this,Ik,g5]
end
end
section
theorem qj {G:Nat->Int->Int->Option (Int×Int)} {P:Nat->Bool} {lo hi:Nat} (mono:∀q q',lo<=q->q<=q'->q'<hi->P q'=true->P q=true)
 (hG:∀(fk i j:Nat),lo<=i->i<j->j<=hi->G (fk + 1) (i:Int) (j:Int)=if P ((i + j) / 2)=true then G fk (((i + j) / 2 + 1:Nat):Int) (j:Int) else G fk (i:Int) (((i + j) / 2:Nat):Int)) (hE:∀(fk i:Nat),G (fk + 1) (i:Int) (i:Int)=some ((i:Int),(i:Int))) :
 ∀(n fk i j:Nat),j - i<=n->n<fk->lo<=i->i<=j->j<=hi->(∀q,lo<=q->q<i->P q=true)->(∀q,j<=q->q<hi->P q=false)->∃k:Nat,G fk (i:Int) (j:Int)=some ((k:Int),(k:Int))/\lo<=k/\k<=hi/\(∀q,lo<=q->q<k->P q=true)/\(∀q,k<=q->q<hi->P q=false)
 | n,fk,i,j,hn,hf,hi1,hij,hj,h1,h2=>by
  obtain⟨fk,rfl⟩:∃k,fk=k + 1:=⟨fk - 1,by omega⟩
  by_cases he:i=j
  · subst he
    exact⟨i,hE fk i,hi1,hj,h1,h2⟩
  · cases n with
    | zero=>omega
    | succ n =>
    rw[hG fk i j hi1 (by omega) hj]
    have hm1:i<=(i + j) / 2:=by omega
    have hm2:(i + j) / 2<j:=by omega
    by_cases hP:P ((i + j) / 2)=true
    · rw[if_pos hP]
      exact qj mono hG hE n fk ((i + j) / 2 + 1) j (by omega) (by omega) (by omega) (by omega) hj (λq hq1 hq2=>mono q _ hq1 (by omega) (by omega) hP) h2
    · rw[if_neg hP]
      refine qj mono hG hE n fk i ((i + j) / 2) (by omega) (by omega) hi1 hm1 (by omega) h1 λq hq1 hq2=>?_
      cases hq:P q with
      | false=>rfl
      | true=>exact absurd (mono _ q (by omega) hq1 hq2 hq) hP
section
variable {X:Type}
def CfOk (cf:X->X->Option Int) (key:X->Int) (U:X->Prop):Prop:=∀x y,U x->U y->∃c,cf x y=some c/\(c<0↔key x<key y)
variable {cf:X->X->Option Int} {key:X->Int} {pos:X->Nat} {U:X->Prop}
theorem CfOk.dec (h:CfOk cf key U) {x y:X} (hx:U x) (hy:U y) {β:Type} (f:Int->Option β) (g:Bool->Option β) (hg:∀c,f c=g (decide (c<0))):((cf x y).bind f)=g (decide (key x<key y)):=by
 obtain⟨c,hc,h1⟩:=h x y hx hy;rw[hc,Ik,hg];congr 1;exact decide_eq_decide.2 h1
theorem Dc {fu:Nat} {K:Nat}:∀(t p s:List X) (x:X) (a fk:Nat),p.length=a->t.length<fk->K=a + t.length + 1->K<=2097152->∃z,uC cf fu (K:Int) fk (p++x::(t++s)) (a:Int)=some (p++(t++x::s),z)
 | [],p,s,x,a,fk,hp,hf,hK,hs=>by
  obtain⟨fk,rfl⟩:∃k,fk=k + 1:=⟨fk - 1,by simp at hf; omega⟩
  simp only[JG,I6]at hK
  refine⟨((a:Nat):Int),?_⟩
  rw[uC,wg (by omega) (by omega),if_neg (by simp; omega)]
  rfl
 | y::t,p,s,x,a,fk,hp,hf,hK,hs=>by
  obtain⟨fk,rfl⟩:∃k,fk=k + 1:=⟨fk - 1,by simp at hf; omega⟩
  simp only[I3]at hK hf
  rw[uC,wg (by omega) (by omega),if_pos (by simp; omega),qJ (by omega)]
  have e1:∀u:X,p++u::(y::t++s)=(p++[u])++y::(t++s):=λu=>by simp
  have hl:∀u:X,a + 1=(p++[u]).length:=λu=>by simp [hp]
  rw[e1 x,dl (hl x),Ik,<-e1 x,dl hp.symm,Ik,Ik,set_mid hp.symm,e1 y,dl (hl y),Ik,set_mid (hl y)]
  obtain⟨z,hz⟩:=Dc (fu:=fu) (K:=K) t (p++[y]) s x (a + 1) fk (by simp [hp]) (by omega) (by omega) hs
  rw[hz]
  exact⟨z,by simp⟩
theorem De {fu:Nat} {p:List X} {K:Nat} (hK:K=p.length):∀(n:Nat) (t s:List X) (x:X) (fk:Nat),t.length=n->n<fk->p.length + n<=2097152->∃z,uy cf fu (K:Int) fk (p++(t++x::s)) ((p.length + t.length:Nat):Int)=some (p++x::(t++s),z)
 | 0,t,s,x,fk,hn,hf,hs=>by
  obtain⟨fk,rfl⟩:∃k,fk=k + 1:=⟨fk - 1,by omega⟩
  have ht:t=[]:=IL hn
  subst ht
  refine⟨((p.length:Nat):Int),?_⟩
  show uy cf fu (K:Int) (fk + 1) _ ((p.length:Nat):Int)=_
  rw[uy,if_neg (by simp; omega)]
  rfl
 | n + 1,t,s,x,fk,hn,hf,hs=>by
  obtain⟨fk,rfl⟩:∃k,fk=k + 1:=⟨fk - 1,by omega⟩
  obtain⟨t',y,rfl⟩:∃t' y,t=t'++[y]:=by
   rcases List.eq_nil_or_concat t with h | ⟨t',y,h⟩
   · subst h; simp at hn
   · exact⟨t',y,by rw[h]; simp⟩
  have hn':t'.length=n:=by rw[Ip,IG]at hn; omega
  have hlen:p.length + (t'++[y]).length=p.length + n + 1:=by rw[Ip,IG]; omega
  rw[uy,hlen,if_pos (by simp; omega),wg (by omega) (by omega),KT]
  have e1:∀u v:X,p++(t'++[u]++v::s)=(p++t'++[u])++v::s:=λu v=>by simp
  have e2:∀u v:X,p++t'++[u]++v::s=(p++t')++u::(v::s):=λu v=>by simp
  have hl1:∀u:X,p.length + n + 1=(p++t'++[u]).length:=λu=>by simp only[Ip,IG,hn']
  have hl2:p.length + n=(p++t').length:=by simp only[Ip,hn']
  rw[e1,e2,dl hl2,Ik,<-e2,dl (hl1 y),Ik,Ik,set_mid (hl1 y),e2,dl hl2,Ik,set_mid hl2]
  obtain⟨z,hz⟩:=De (fu:=fu) hK n t' (y::s) x fk hn' (by omega) (by omega)
  rw[hn']at hz
  refine⟨z,?_⟩
  rw[Ir,hz]
  simp
theorem sJ {p t s:List X} {i:Nat} (h1:p.length<=i) (h2:i<p.length + t.length):V_ (p++(t++s)) (i:Int)=some (t[i - p.length]'(by omega)):=by
 rw[vw (by simp; omega),KJ h1,KP (by omega)]
theorem kM {t:List X} (hs:t.Pairwise (D_ key pos)) {i j:Nat} (h:i<=j) (hj:j<t.length):key (t[i]'(by omega))<key t[j]∨(key (t[i]'(by omega))=key t[j]/\pos (t[i]'(by omega))<=pos t[j]):=by
 by_cases e:i=j;subst e; exact .inr ⟨rfl,IC _⟩;have:=Jt.1 hs i j (by omega) hj (by omega);unfold D_ at this;omega
theorem DJ {fu:Nat} (hfu:2097153<=fu) (hcf:CfOk cf key U) {p ys s:List X} {x:X} (hx:U x) (hy:∀y∈ys,U y) (hp:∀y∈ys,pos x<pos y) (hs:ys.Pairwise (D_ key pos)) (hl:p.length + ys.length + 1<=2097152) :
 ∃(k:Nat) (zs:List X),uk cf fu (p++x::(ys++s)) (p.length:Int) fu ((p.length + 1:Nat):Int) ((p.length + 1 + ys.length:Nat):Int)=some ((k:Int),(k:Int))/\(∃z,uC cf fu (k:Int) fu (p++x::(ys++s)) (p.length:Int)=some (p++(zs++s),z))/\zs.Perm (x::ys)/\zs.Pairwise (D_ key pos):=by
 have hat:∀(i:Nat) (h0:p.length + 1<=i) (h:i<p.length + 1 + ys.length),V_ (p++x::(ys++s)) (i:Int)=some (ys[i - (p.length + 1)]'(by omega)):=λi h1 h2=>by
  have e:p++x::(ys++s)=(p++[x])++(ys++s):=by simp
  have:=sJ (p:=p++[x]) (t:=ys) (s:=s) (i:=i) (by simp; omega) (by simp; omega)
  rw[e,this]
  simp
 have hxat:V_ (p++x::(ys++s)) (p.length:Int)=some x:=dl rfl;let P:Nat->Bool:=λi=>if h:i - (p.length + 1)<ys.length then decide (key ys[i - (p.length + 1)]<key x) else false
 have hPe:∀i (h:i - (p.length + 1)<ys.length),P i=decide (key ys[i - (p.length + 1)]<key x):=λi h=>dif_pos h;obtain⟨k,g1,g2,g3,g4,g5⟩:=qj (G:=λfk i j=>uk cf fu (p++x::(ys++s)) (p.length:Int) fk i j) (P:=P) (lo:=p.length + 1) (hi:=p.length + 1 + ys.length) (λq q' h1 h2 h3 h=>by
  rw[hPe q' (by omega),decide_eq_true_eq]at h
  rw[hPe q (by omega),decide_eq_true_eq]
  have:=kM hs (i:=q - (p.length + 1)) (j:=q' - (p.length + 1)) (by omega) (by omega)
  omega) (λfk i j h1 h2 h3=>by
  show uk cf fu _ _ (fk + 1) _ _=_
  rw[uk,if_pos (by simp; omega),wj (by omega),Ik,i7 (by omega),hat _ (by omega) (by omega),Ik,hxat,Ik]
  rw[hcf.dec (hy _ (IE _)) hx _ (λb=>if b=true then uk cf fu (p++x::(ys++s)) (p.length:Int) fk (y_ ((((i + j) / 2:Nat):Int) + 1)) (j:Int) else uk cf fu (p++x::(ys++s)) (p.length:Int) fk (i:Int) (((i + j) / 2:Nat):Int)) (λc=>rfl)]
  rw[hPe _ (by omega),qJ (by omega)]) (λfk i=>by
  show uk cf fu _ _ (fk + 1) _ _=_
  rw[uk,if_neg (by simp)]) ys.length fu (p.length + 1) (p.length + 1 + ys.length) (by omega) (by omega) (by omega) (by omega) (by omega) (λq h1 h2=>by omega) (λq h1 h2=>by omega)
 obtain⟨c,rfl⟩:∃c,k=p.length + 1 + c:=⟨k - (p.length + 1),by omega⟩;have hc:c<=ys.length:=by omega
 have hlen:(ys.take c).length=c:=by rw[Is]; omega
 refine⟨_,ys.take c++x::ys.drop c,g1,?_,?_,?_⟩;obtain⟨z,hz⟩:=Dc (cf:=cf) (fu:=fu) (K:=p.length + 1 + c) (ys.take c) p (ys.drop c++s) x p.length fu rfl (by omega) (by omega) (by omega);refine⟨z,?_⟩;have e:ys.take c++(ys.drop c++s)=ys++s:=by rw[<-Ir,IS]
 rw[e]at hz;rw[hz];simp;refine JP.trans (List.Perm.cons x ?_);rw[IS];refine rk (by rw[IS]; exact hs) (λy hy'=>?_) λy hy'=>?_;obtain⟨q,hq,rfl⟩:=IF.1 hy';rw[hlen]at hq;rw[Ja];have:=g4 (p.length + 1 + q) (by omega) (by omega);rw[hPe _ (by omega),decide_eq_true_eq]at this;simp only[JK]at this;exact .inl this;obtain⟨q,hq,rfl⟩:=IF.1 hy';rw[IT]at hq;rw[JS];have:=g5 (p.length + 1 + (c + q)) (by omega) (by omega);rw[hPe _ (by omega),decide_eq_false_iff_not]at this;simp only[JK]at this;have hp':=hp ys[c + q] (IE _);unfold D_;omega
theorem BG {fu:Nat} (hfu:2097153<=fu) (hcf:CfOk cf key U) {p xs s:List X} {y:X} (hy:U y) (hx:∀x∈xs,U x) (hp:∀x∈xs,pos x<pos y) (hs:xs.Pairwise (D_ key pos)) (hl:p.length + xs.length + 1<=2097152) :
 ∃(k:Nat) (zs:List X),uj cf fu (p++(xs++y::s)) ((p.length + xs.length:Nat):Int) fu (p.length:Int) ((p.length + xs.length:Nat):Int)=some ((k:Int),(k:Int))/\(∃z,uy cf fu (k:Int) fu (p++(xs++y::s)) ((p.length + xs.length:Nat):Int)=some (p++(zs++s),z))/\zs.Perm (xs++[y])/\zs.Pairwise (D_ key pos):=by
 have hat:∀(i:Nat) (h0:p.length<=i) (h:i<p.length + xs.length),V_ (p++(xs++y::s)) (i:Int)=some (xs[i - p.length]'(by omega)):=λi h1 h2=>sJ h1 h2;have hyat:V_ (p++(xs++y::s)) ((p.length + xs.length:Nat):Int)=some y:=by
  rw[<-Ir]
  exact dl (by simp)
 let P:Nat->Bool:=λi=>if h:i - p.length<xs.length then !decide (key y<key xs[i - p.length]) else false
 have hPe:∀i (h:i - p.length<xs.length),P i=!decide (key y<key xs[i - p.length]):=λi h=>dif_pos h;obtain⟨k,g1,g2,g3,g4,g5⟩:=qj (G:=λfk i j=>uj cf fu (p++(xs++y::s)) ((p.length + xs.length:Nat):Int) fk i j) (P:=P) (lo:=p.length) (hi:=p.length + xs.length) (λq q' h1 h2 h3 h=>by
  rw[hPe q' (by omega),IZ,decide_eq_false_iff_not]at h
  rw[hPe q (by omega),IZ,decide_eq_false_iff_not]
  have:=kM hs (i:=q - p.length) (j:=q' - p.length) (by omega) (by omega)
  omega) (λfk i j h1 h2 h3=>by
  show uj cf fu _ _ (fk + 1) _ _=_
  rw[uj,if_pos (by simp; omega),wj (by omega),Ik,i7 (by omega),hyat,Ik,hat _ (by omega) (by omega),Ik]
  rw[hcf.dec hy (hx _ (IE _)) _ (λb=>if (!b)=true then uj cf fu (p++(xs++y::s)) ((p.length + xs.length:Nat):Int) fk (y_ ((((i + j) / 2:Nat):Int) + 1)) (j:Int) else uj cf fu (p++(xs++y::s)) ((p.length + xs.length:Nat):Int) fk (i:Int) (((i + j) / 2:Nat):Int)) (λc=>rfl)]
  rw[hPe _ (by omega),qJ (by omega)]) (λfk i=>by
  show uj cf fu _ _ (fk + 1) _ _=_
  rw[uj,if_neg (by simp)]) xs.length fu p.length (p.length + xs.length) (by omega) (by omega) (by omega) (by omega) (by omega) (λq h1 h2=>by omega) (λq h1 h2=>by omega)
 obtain⟨c,rfl⟩:∃c,k=p.length + c:=⟨k - p.length,by omega⟩;have hc:c<=xs.length:=by omega
 have hlen:(xs.take c).length=c:=by rw[Is]; omega
 refine⟨_,xs.take c++y::xs.drop c,g1,?_,?_,?_⟩;obtain⟨z,hz⟩:=De (cf:=cf) (fu:=fu) (p:=p++xs.take c) (K:=p.length + c) (by rw[Ip,hlen]) (xs.drop c).length (xs.drop c) s y fu rfl (by rw[IT]; omega) (by rw[Ip,hlen,IT]; omega);refine⟨z,?_⟩;have e:p++xs.take c++(xs.drop c++y::s)=p++(xs++y::s):=by
  rw[Ir,<-Ir (xs.take c),IS]
 have e2:(p++xs.take c).length + (xs.drop c).length=p.length + xs.length:=by rw[Ip,hlen,IT]; omega
 rw[e,e2]at hz;rw[hz];simp;refine JP.trans ?_;rw[IS];exact (JU (l₁:=[y]));refine rk (by rw[IS]; exact hs) (λx hx'=>?_) λx hx'=>?_;obtain⟨q,hq,rfl⟩:=IF.1 hx';rw[hlen]at hq;rw[Ja];have:=g4 (p.length + q) (by omega) (by omega);rw[hPe _ (by omega),IZ,decide_eq_false_iff_not]at this;simp only[JK]at this;have hp':=hp xs[q] (IE _);unfold D_;omega;obtain⟨q,hq,rfl⟩:=IF.1 hx';rw[IT]at hq;rw[JS];have:=g5 (p.length + (c + q)) (by omega) (by omega);rw[hPe _ (by omega),Ki,decide_eq_true_eq]at this;simp only[JK]at this;exact .inl this
end
end
end AT
