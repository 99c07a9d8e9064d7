/- Networks, plainly: names, fibers, validity. -/
import Derived.Test.YtlemonjnolciiaaGreatF
set_option linter.unusedSimpArgs false
set_option linter.unusedVariables false
namespace AT
@[simp] theorem cF (fu:Nat) (x a b:Int):xl fu x a b=some (decide (a<=x)&&decide (x<=b)):=by
 unfold xl;by_cases h:a<=x <;> simp [h]
@[simp] theorem yd (fu:Nat) (x a b:Int):vq fu x a b=some (decide (a<=x)&&decide (x<=b)):=by
 unfold vq;by_cases h:a<=x <;> simp [h]
end AT
namespace AT
theorem vP {α:Type} {l:List α} {i:Nat} (h:i<l.length):V_ l (i:Int)=some l[i]:=by rw[CU,GM h]
theorem ap {α:Type} {l:List α} {i:Int} (h0:0<=i) (h:i<l.length):∃e,V_ l i=some e/\e∈l:=by
 refine⟨l[i.toNat]'(by omega),?_,GW _⟩;unfold V_;rw[if_pos h0,GM]
theorem vV {n:Nat} {i:Nat} (h:i<n) (hn:(n:Int)<=9223372036854775807):y_ ((i:Int) + 1)=((i + 1:Nat):Int):=by
 rw[va (by omega) (by omega)]; omega
def each {α σ R:Type} (b:Int->α->σ->Option (Out σ R)):List α->Int->σ->Option (Out σ R)
 | [],_,s=>some (.next s)
 | e::l,i,s=>(b i e s).bind λo=>match o with
  | .ret r=>some (.ret r)
  | .next s'=>each b l (i + 1) s'
end AT
namespace AT
variable {α R:Type}
theorem DT {z:α} {n:Nat} (h:n<=2097152):mk z (n:Int)=some (List.replicate n z):=by
 unfold mk; rw[if_pos (by omega)]; simp
theorem tx (l:List α) (G:Nat->Int->Option (Out Int R)) (p:α->Bool) (r:Nat->R) (hn:(l.length:Int)<=9223372036854775807)
 (hG:∀fk (i:Nat) (h:i<l.length),G (fk + 1) i=if p l[i] then some (.ret (r i)) else G fk (y_ ((i:Int) + 1)))
 (hz:∀fk,G (fk + 1) l.length=some (.next (l.length:Int))) :
 ∀(fk i:Nat),i<=l.length->l.length - i<fk->G fk i=some (if (l.drop i).any p then .ret (r (i + (l.drop i).findIdx p)) else .next (l.length:Int)):=by
 intro fk;induction fk with
 | zero=>intro i _ h; omega
 | succ fk ih =>
  intro i hi hk
  by_cases h:i<l.length
  · rw[hG fk i h,<-GU h,JA,JL]
    by_cases hp:p l[i]=true
    · simp [hp]
    · simp only[hp,GT,if_false,Ip,cond_false]
      rw[vV h hn,ih (i + 1) h (by omega),show i + ((l.drop (i + 1)).findIdx p + 1)=i + 1 + (l.drop (i + 1)).findIdx p by omega]
  · obtain rfl:i=l.length:=by omega
    rw[hz,Hg]; rfl
theorem yP {l:List α} {G:Nat->Int->Option (Out Int R)} (p:α->Bool) (r:Nat->R) (hn:(l.length:Int)<=9223372036854775807)
 (hG:∀fk (i:Nat) (h:i<l.length),G (fk + 1) i=if p l[i] then some (.ret (r i)) else G fk (y_ ((i:Int) + 1)))
 (hz:∀fk,G (fk + 1) l.length=some (.next (l.length:Int))) (fk:Nat) (hk:l.length<fk) :
 G fk 0=some (if l.any p then .ret (r (l.findIdx p)) else .next (l.length:Int)):=by
 have:=tx l G p r hn hG hz fk 0 (by omega) (by omega);simpa using this
def gd {α:Type} (l:List α) (i:Nat) (d:α):α:=(l[i]?).getD d
variable {i:Nat}
theorem xC {l:List α} (d:α) (h:i<l.length):V_ l (i:Int)=some (gd l i d):=by
 rw[vP h,gd,GM h]; rfl
theorem aU {l:List α} (d:α) (h:i<l.length):gd l i d=l[i]:=by
 rw[gd,GM h]; rfl
theorem oB {α:Type} {p q:α->Bool}:∀{l:List α},(∀i∈l,p i=q i)->l.any p=l.any q
 | [],_=>rfl
 | x::l,h=>by rw[JA,JA,h x (by simp),oB λi hi=>h i (by simp [hi])]
theorem fv (h:0<i) (hn:i<=2097152):y_ ((i:Int) - 1)=((i - 1:Nat):Int):=by
 rw[va (by omega) (by omega)]; omega
end AT
namespace AT
section
def chr (s:ByteArray) (i:Nat):Int:=((s[i]?).map λb=>(b.toNat:Int)).getD 0
theorem nO {s:ByteArray} {i:Nat} (h:i<s.size):sidx s (i:Int)=some ⟨chr s i⟩:=by
 have e:s[i]?=some (s[i]'h):=by simp [h]
 unfold sidx chr;rw[if_pos (by omega),Hh,e];rfl
def qx (c:Int):Bool:=decide (97<=c)&&decide (c<=122)
def wF (c:Int):Bool:=decide (48<=c)&&decide (c<=57)
def mS (s:ByteArray) (i:Nat):Bool:=!(qx (chr s i)||wF (chr s i))
def nr (s:ByteArray) (i:Nat):Bool:=!qx (chr s i)&&(!wF (chr s i)||i==0)
def lF (s:ByteArray):Bool:=!((List.range s.size).any (nr s))&&(decide (1<=s.size)&&decide (s.size<=8))
theorem wE {fu:Nat} (s:ByteArray) (h:s.size<fu) (hn:s.size<=2097152):eO fu s=some (lF s):=by
 unfold eO;rw[yP (l:=List.range s.size) (G:=xZ fu s) (nr s) (λi=>false) (by simp; omega)
  (λfk i hi=>by
    have hi':i<s.size:=by simpa using hi
    rw[xZ,if_pos (by simpa using hi'),nO hi',HR]
    simp only[GH,nr,qx,wF,ge_iff_le]
    have e0:((i:Int)==0)=(i==0):=by rw[HB]; simp only[beq_iff_eq]; omega
    rw[e0]
    obtain⟨b,hb⟩:∃b,b=(i==0):=⟨_,rfl⟩
    simp only[<-hb]
    by_cases h1:97<=chr s i <;> by_cases h2:48<=chr s i <;> by_cases h3:chr s i<=122 <;> by_cases h4:chr s i<=57 <;> cases b <;> simp [h1,h2,h3,h4])
  (λfk=>by rw[Hx,xZ,if_neg (by simp)]) fu (by simpa using h)]
 unfold lF;have e1:decide (1<=(s.size:Int))=decide (1<=s.size):=by simp only[decide_eq_decide]; omega
 have e2:decide ((s.size:Int)<=8)=decide (s.size<=8):=by simp only[decide_eq_decide]; omega
 cases (List.range s.size).any (nr s) <;> simp [Out.on,e1,e2]
theorem wz (fu:Nat) (b:By):eA fu b=some (qx b.n||wF b.n):=by
 unfold eA qx wF;simp only[ge_iff_le];by_cases h1:97<=b.n <;> by_cases h2:48<=b.n <;> by_cases h3:b.n<=122 <;> by_cases h4:b.n<=57 <;> simp [h1,h2,h3,h4]
theorem wA {fu:Nat} (s:ByteArray) (h:s.size<fu) (hn:s.size<=2097152):eC fu s=some (lF s):=by
 unfold eC;have e1:decide (1<=(s.size:Int))=decide (1<=s.size):=by simp only[decide_eq_decide]; omega
 have e2:decide ((s.size:Int)<=8)=decide (s.size<=8):=by simp only[decide_eq_decide]; omega
 simp only[cF,GH,e1,e2];unfold lF;by_cases hb:(decide (1<=s.size)&&decide (s.size<=8))=true
 · rw[hb]
   simp only[GP,decide_eq_true_eq]at hb
   have h0:0<s.size:=by omega
   have hs:=nO h0
   simp only[JE,Int.natCast_zero]at hs
   simp only[HW,GT,if_false,hs,GH,Ka]
   have hl:yI fu s fu 0=some (if (List.range s.size).any (mS s) then .ret false else .next ((List.range s.size).length:Int)) :=
    yP (l:=List.range s.size) (G:=yI fu s) (mS s) (λi=>false) (by simp; omega)
     (λfk i hi=>by
       have hi':i<s.size:=by simpa using hi
       rw[yI,if_pos (by simpa using hi'),nO hi',HR]
       simp only[GH,wz,mS]
       rfl)
     (λfk=>by rw[Hx,yI,if_neg (by simp)]) fu (by simpa using h)
   rw[hl]
   have ha:(List.range s.size).any (nr s)=(!qx (chr s 0)||(List.range s.size).any (mS s)):=by
    rw[HB]
    simp only[G5,Hv,Ii,nr,mS,GP,Hk,beq_iff_eq,HU]
    constructor
    · rintro⟨i,hi,h1,h2⟩
      rcases h2 with h2 | h2
      · exact .inr ⟨i,hi,h1,h2⟩
      · subst h2; exact .inl h1
    · rintro (h1 | ⟨i,hi,h1,h2⟩)
      · exact⟨0,h0,h1,.inr rfl⟩
      · exact⟨i,hi,h1,.inl h2⟩
   rw[ha]
   unfold qx
   have e3:decide (chr s 0<97)=!decide (97<=chr s 0):=by rw[<-decide_not]; simp only[decide_eq_decide]; omega
   have e4:decide (chr s 0 > 122)=!decide (chr s 0<=122):=by rw[<-decide_not]; simp only[decide_eq_decide]; omega
   simp only[e3,e4]
   cases decide (97<=chr s 0) <;> cases decide (chr s 0<=122) <;> cases (List.range s.size).any (mS s) <;> rfl
 · rw[Jd]at hb
   rw[hb]
   simp
def nm0:ByteArray:=ByteArray.empty
def seen (l:List ByteArray) (i:Nat):Bool:=(l.take i).any λx=>(gd l i nm0).toList==x.toList
theorem pV {α:Type} [BEq α] [LawfulBEq α] (a b:α):(a==b)=(b==a):=by
 rw[HB]; simp only[beq_iff_eq]; exact eq_comm
variable {fu i:Nat}
theorem wH (l:List ByteArray) (v:ByteArray) (h:l.length<fu) (hn:l.length<=2097152):xP fu l v=some (if l.any (λx=>v.toList==x.toList) then ((l.findIdx λx=>v.toList==x.toList:Nat):Int) else -1):=by
 unfold xP;rw[yP (l:=l) (G:=vk fu l v) (λx=>v.toList==x.toList) (λi=>(i:Int)) (by omega)
  (λfk i hi=>by rw[vk,if_pos (by simpa using hi),vP hi]; rfl)
  (λfk=>by rw[vk,if_neg (by simp)]) fu h]
 cases l.any (λx=>v.toList==x.toList) <;> rfl
theorem pN (l:List ByteArray) (v:ByteArray) (h:l.length<fu) (hn:l.length<=2097152):xq fu l v=some (l.any λx=>v.toList==x.toList):=by
 unfold xq;rw[wH l v h hn];cases l.any (λx=>v.toList==x.toList)
 rfl;simp
theorem wB (l:List ByteArray) (v:ByteArray) (h:l.length<fu) (hn:l.length<=2097152):eD fu l v=some (if l.any (λx=>x.toList==v.toList) then ((l.findIdx λx=>x.toList==v.toList:Nat):Int) else -1):=by
 unfold eD;rw[yP (l:=l) (G:=zr fu l v) (λx=>x.toList==v.toList) (λi=>(i:Int)) (by omega)
  (λfk i hi=>by rw[zr,if_pos (by simpa using hi),vP hi]; rfl)
  (λfk=>by rw[zr,if_neg (by simp)]) fu h]
 cases l.any (λx=>x.toList==v.toList) <;> rfl
theorem fZ {α:Type} {l:List α} (h:i<=l.length):sub l 0 (i:Int)=some (l.take i):=by
 unfold sub;rw[if_pos (by omega)];simp
theorem pK {α:Type} {l:List α} {p:α->Bool} (h:i<l.length) (hp:p l[i]=true):(l.findIdx p=i)↔(l.take i).any p=false:=by
 rw[List.findIdx_eq h];constructor;rintro⟨-,h2⟩;rw[G7];intro h3;obtain⟨x,hx,hpx⟩:=G5.1 h3;obtain⟨j,hj,rfl⟩:=G4.1 hx;simp only[GO]at hj;rw[Hu]at hpx;have:=h2 j (by omega);rw[hpx]at this;cases this
 intro h3;refine⟨hp,λj hj=>?_⟩;rw[G7];intro h4;rw[G7]at h3;refine h3 (G5.2 ⟨l[j],?_,h4⟩);refine G4.2 ⟨j,by simp; omega,by rw[Hu]⟩
def i5 (l:List ByteArray) (i:Nat):Bool:=!lF (gd l i nm0)||seen l i
def f0:Pq:=⟨0,0,0,0⟩
def j5 (m:Nat) (f:Pq):Bool:=decide (0<=f.A)&&(decide (f.A<f.B)&&(decide (f.B<(m:Int))&&((decide (1<=f.Pg)&&decide (f.Pg<=5000))&&(decide (0<=f.Pp)&&decide (f.Pp<=9)))))
def fGt (f g:Pq):Bool:=decide (g.A<f.A)||(f.A==g.A&&(decide (g.B<f.B)||(f.B==g.B&&(decide (g.Pg<f.Pg)||(f.Pg==g.Pg&&decide (g.Pp<f.Pp))))))
def cmpI (x y:Int):Int:=if x<y then -1 else if x > y then 1 else 0
theorem fX (fu:Nat) (x y:Int):cmp_Compare_int fu x y=some (cmpI x y):=by
 unfold cmp_Compare_int cmp_isNaN_int cmpI;have e:∀z:Int,(z != z)=false:=λz=>by simp
 simp only[e,GH,GT,if_false,decide_eq_true_eq];by_cases h:x<y;rw[if_pos h,if_pos h];rw[if_neg h,if_neg h];split <;> rfl
theorem kZ (x y:Int):0<cmpI x y↔y<x:=by unfold cmpI; split <;> (try split) <;> omega
theorem au (x y:Int):cmpI x y=0↔x=y:=by unfold cmpI; split <;> (try split) <;> omega
def or4 (a b c d:Int):Int:=if a≠0 then a else if b≠0 then b else if c≠0 then c else if d≠0 then d else 0
theorem DO (a b c d:Int) (h:4<fu):el fu [a,b,c,d]=some (or4 a b c d):=by
 unfold el;rw[yP (l:=[a,b,c,d]) (G:=ar fu [a,b,c,d]) (λe=>e != 0) (λi=>gd [a,b,c,d] i 0) (by simp)
  (λfk i hi=>by rw[ar,if_pos (by rw[decide_eq_true_eq]; omega),vP hi,aU 0 hi]; rfl)
  (λfk=>by rw[ar,if_neg (by simp)]) fu (by simpa using h)]
 unfold or4;have e:∀z:Int,(z != 0)=!decide (z=0):=λz=>by by_cases h:z=0 <;> simp [h]
 simp only[e];by_cases ha:a=0 <;> by_cases hb:b=0 <;> by_cases hc:c=0 <;> by_cases hd:d=0 <;> simp [ha,hb,hc,hd,JL,gd,Out.on]
theorem kL (f g:Pq) (h:4<fu):∃r,ao fu f g=some r/\decide (r > 0)=fGt f g:=by
 unfold ao;simp only[fX,GH,DO _ _ _ _ h];refine⟨_,rfl,?_⟩;rw[HB];simp only[fGt,decide_eq_true_eq,Ii,GP,beq_iff_eq,or4];have a1:=kZ f.A g.A;have a2:=au f.A g.A;have b1:=kZ f.B g.B;have b2:=au f.B g.B;have c1:=kZ f.Pg g.Pg;have c2:=au f.Pg g.Pg;have d1:=kZ f.Pp g.Pp;have d2:=au f.Pp g.Pp;generalize cmpI f.A g.A=a at *;generalize cmpI f.B g.B=b at *;generalize cmpI f.Pg g.Pg=c at *;generalize cmpI f.Pp g.Pp=d at *;split <;> (try split) <;> (try split) <;> (try split) <;> constructor <;> intro h <;> simp only[decide_eq_true_eq]at * <;> omega
def bef (f g:Pq):Int:=if f.A≠g.A then y_ (f.A - g.A) else if f.B≠g.B then y_ (f.B - g.B) else if f.Pg≠g.Pg then y_ (f.Pg - g.Pg) else y_ (f.Pp - g.Pp)
theorem lK (fu:Nat) (f g:Pq):cc fu f g=some (bef f g):=by
 unfold cc bef;by_cases h1:f.A=g.A;by_cases h2:f.B=g.B;by_cases h3:f.Pg=g.Pg <;> simp [h1,h2,h3]
 simp [h1,h2];simp [h1]
theorem Et {m:Nat} {f g:Pq} (hm:m<=8) (hf:j5 m f=true) (hg:j5 m g=true):decide (bef f g > 0)=fGt f g:=by
 simp only[j5,GP,decide_eq_true_eq]at hf hg;rw[HB];simp only[fGt,decide_eq_true_eq,Ii,GP,beq_iff_eq];unfold bef;have e1:y_ (f.A - g.A)=f.A - g.A:=va (by omega) (by omega);have e2:y_ (f.B - g.B)=f.B - g.B:=va (by omega) (by omega);have e3:y_ (f.Pg - g.Pg)=f.Pg - g.Pg:=va (by omega) (by omega);have e4:y_ (f.Pp - g.Pp)=f.Pp - g.Pp:=va (by omega) (by omega);rw[e1,e2,e3,e4];clear e1 e2 e3 e4;split
 omega;split
 omega;split <;> omega
theorem sk {m:Nat} (f:Pq) (hm:m<=8):dO fu f (m:Int)=some (j5 m f):=by
 unfold dO;simp only[cF,GH];have e0:y_ ((m:Int) - 1)=(m:Int) - 1:=va (by omega) (by omega);rw[e0];unfold j5;by_cases h1:0<=f.A;by_cases h2:f.A<=(m:Int) - 1;have e1:y_ (f.A + 1)=f.A + 1:=va (by omega) (by omega);rw[e1];have e2:decide (f.A + 1<=f.B)=decide (f.A<f.B):=by simp only[decide_eq_decide]; omega
 have e3:decide (f.B<=(m:Int) - 1)=decide (f.B<(m:Int)):=by simp only[decide_eq_decide]; omega
 rw[e2,e3];simp only[h1,h2,decide_true,Ka,if_true,HD];cases decide (f.A<f.B) <;> cases decide (f.B<(m:Int)) <;> cases decide (1<=f.Pg) <;> cases decide (f.Pg<=5000) <;> cases decide (0<=f.Pp) <;> cases decide (f.Pp<=9) <;> rfl
 have:(decide (f.A<f.B)&&decide (f.B<(m:Int)))=false:=by
  rw[G7]; simp only[ne_eq,GP,decide_eq_true_eq]; omega
 rw[<-J2 (decide (f.A<f.B)),this];simp [h1,h2];simp [h1]
def ij (m:Nat) (l:List Pq) (i:Nat):Bool:=!j5 m (gd l i f0)||(decide (0<i)&&fGt (gd l (i - 1) f0) (gd l i f0))
def j6 (m:Nat) (l:List Pq) (i:Nat):Bool:=!j5 m (gd l i f0)||(decide (0<i)&&decide (bef (gd l (i - 1) f0) (gd l i f0) > 0))
theorem wR {m:Nat} (l:List Pq) (hm:m<=8):(List.range l.length).any (j6 m l)=(List.range l.length).any (ij m l):=by
 by_cases hv:∃i,i<l.length/\j5 m (gd l i f0)=false;obtain⟨i,hi,hb⟩:=hv;have h1:(List.range l.length).any (j6 m l)=true:=G5.2 ⟨i,Hv.2 hi,by simp [j6,hb]⟩;have h2:(List.range l.length).any (ij m l)=true:=G5.2 ⟨i,Hv.2 hi,by simp [ij,hb]⟩;rw[h1,h2];have hv':∀i,i<l.length->j5 m (gd l i f0)=true:=λi hi=>by
  cases h:j5 m (gd l i f0)
  · exact absurd ⟨i,hi,h⟩ hv
  · rfl
 refine oB λi hi=>?_;have hi':=Hv.1 hi;unfold j6 ij;by_cases h0:0<i;rw[Et hm (hv' (i - 1) (by omega)) (hv' i hi')];simp [h0]
def cE (n:Nq):Bool:=(decide (2<=n.Nv.length)&&decide (n.Nv.length<=8))&&(decide (n.Nw.length<=14)&&(!((List.range n.Nv.length).any (i5 n.Nv))&&!((List.range n.Nw.length).any (ij n.Nv.length n.Nw))))
def NetB (n:Nq):Prop:=(n.Nv.length<=2097152/\∀e∈n.Nv,e.size<=2097152)/\n.Nw.length<=2097152
theorem zx {α:Type} {l:List α} (d:α) (h:i<l.length):gd l i d∈l:=by rw[aU d h]; exact GW _
theorem jY (hfu:2097153<=fu) (n:Nq) (hB:NetB n):yb fu n=some (cE n):=by
 obtain⟨⟨hl,hs⟩,hl2⟩:=hB;unfold yb;rw[yP (l:=List.range n.Nv.length) (G:=vZ fu n) (i5 n.Nv) (λi=>false) (by simp; omega)
  (λfk i hi=>by
    have hi':i<n.Nv.length:=by simpa using hi
    have hz:=hs _ (zx nm0 hi')
    rw[vZ,if_pos (by simpa using hi'),xC nm0 hi',HR]
    simp only[GH,wE _ (show (gd n.Nv i nm0).size<fu by omega) hz,i5,seen]
    rcases JP (lF (gd n.Nv i nm0)) with h1 | h1
    · rw[fZ (by omega)]
      simp only[h1,HW,GT,if_false,GH,pN _ _ (show (n.Nv.take i).length<fu by simp; omega) (by simp; omega),Ip]
    · simp [h1])
  (λfk=>by rw[Hx,vZ,if_neg (by simp)]) fu (by simp; omega)]
 rw[yP (l:=List.range n.Nw.length) (G:=vY fu n) (ij n.Nv.length n.Nw) (λi=>false) (by simp; omega)
  (λfk i hi=>by
    have hi':i<n.Nw.length:=by simpa using hi
    rw[vY,if_pos (by simpa using hi'),xC f0 hi',HR]
    simp only[GH,yd,ij,j5]
    obtain⟨x,hx⟩:∃x,x=gd n.Nw i f0:=⟨_,rfl⟩
    simp only[<-hx]
    have a1:decide (x.A<0)=!decide (0<=x.A):=by rw[<-decide_not]; simp only[decide_eq_decide]; omega
    have a2:decide (x.A>=x.B)=!decide (x.A<x.B):=by rw[<-decide_not]; simp only[decide_eq_decide]; omega
    have a3:decide (x.B>=(n.Nv.length:Int))=!decide (x.B<(n.Nv.length:Int)):=by rw[<-decide_not]; simp only[decide_eq_decide]; omega
    simp only[a1,a2,a3]
    by_cases b1:(decide (0<=x.A))=false
    · simp [b1]
    rw[Iu]at b1
    by_cases b2:(decide (x.A<x.B))=false
    · simp [b1,b2]
    rw[Iu]at b2
    by_cases b3:(decide (x.B<(n.Nv.length:Int)))=false
    · simp [b1,b2,b3]
    rw[Iu]at b3
    by_cases b4:(decide (1<=x.Pg)&&decide (x.Pg<=5000))=false
    · simp only[b1,b2,b3,b4]; simp
    rw[Iu]at b4
    by_cases b5:(decide (0<=x.Pp)&&decide (x.Pp<=9))=false
    · simp only[b1,b2,b3,b4,b5]; simp
    rw[Iu]at b5
    simp only[b1,b2,b3,b4,b5]
    by_cases h0:0<i
    · rw[fv h0 (by omega),xC f0 (show i - 1<n.Nw.length by omega)]
      obtain⟨r,h1,h2⟩:=kL (fu:=fu) (gd n.Nw (i - 1) f0) x (by omega)
      have h0':((i:Int) > 0):=by omega
      simp [h0,h1,h2,h0']
    · have h0':¬((i:Int) > 0):=by omega
      simp [h0,h0'])
  (λfk=>by rw[Hx,vY,if_neg (by simp)]) fu (by simp; omega)]
 unfold cE;have e1:decide (2<=(n.Nv.length:Int))=decide (2<=n.Nv.length):=by simp only[decide_eq_decide]; omega
 have e2:decide ((n.Nv.length:Int)<=8)=decide (n.Nv.length<=8):=by simp only[decide_eq_decide]; omega
 have e3:decide ((n.Nw.length:Int)<=14)=decide (n.Nw.length<=14):=by simp only[decide_eq_decide]; omega
 simp only[yd,e1,e2,e3];cases (List.range n.Nv.length).any (i5 n.Nv) <;> cases (List.range n.Nw.length).any (ij n.Nv.length n.Nw) <;> cases decide (2<=n.Nv.length) <;> cases decide (n.Nv.length<=8) <;> cases decide (n.Nw.length<=14) <;> rfl
theorem fM (hfu:2097153<=fu) (n:Nq) (hB:NetB n):aw fu n=some (cE n):=by
 obtain⟨⟨hl,hs⟩,hl2⟩:=hB;unfold aw cE;have e1:decide (2<=(n.Nv.length:Int))=decide (2<=n.Nv.length):=by simp only[decide_eq_decide]; omega
 have e2:decide ((n.Nv.length:Int)<=8)=decide (n.Nv.length<=8):=by simp only[decide_eq_decide]; omega
 have e3:decide ((n.Nw.length:Int) > 14)=!decide (n.Nw.length<=14):=by rw[<-decide_not]; simp only[decide_eq_decide]; omega
 simp only[cF,e1,e2,e3,GH];cases hb:(decide (2<=n.Nv.length)&&decide (n.Nv.length<=8))
 rfl;cases hc:decide (n.Nw.length<=14)
 rfl;simp only[GP,decide_eq_true_eq]at hb hc;rw[yP (l:=List.range n.Nv.length) (G:=zo fu n) (i5 n.Nv) (λi=>false) (by simp; omega)
  (λfk i hi=>by
    have hi':i<n.Nv.length:=by simpa using hi
    have hz:=hs _ (zx nm0 hi')
    rw[zo,if_pos (by simpa using hi'),xC nm0 hi',HR]
    simp only[GH,wA _ (show (gd n.Nv i nm0).size<fu by omega) hz,i5,seen]
    by_cases h1:(lF (gd n.Nv i nm0))=false
    · simp [h1]
    rw[Iu]at h1
    · have hp:(λx:ByteArray=>x.toList==(gd n.Nv i nm0).toList) n.Nv[i]=true:=by simp [aU nm0 hi']
      have ha:n.Nv.any (λx=>x.toList==(gd n.Nv i nm0).toList)=true:=G5.2 ⟨_,GW hi',hp⟩
      have hfi:=pK (p:=λx:ByteArray=>x.toList==(gd n.Nv i nm0).toList) hi' hp
      have hsy:(n.Nv.take i).any (λx=>(gd n.Nv i nm0).toList==x.toList)=(n.Nv.take i).any (λx=>x.toList==(gd n.Nv i nm0).toList):=oB λx _=>pV _ _
      simp only[h1,HW,GT,if_false,GH,wB _ _ (show n.Nv.length<fu by omega) hl,ha,if_true,Ip,hsy]
      have he:(((n.Nv.findIdx λx=>x.toList==(gd n.Nv i nm0).toList:Nat):Int) != (i:Int))=(n.Nv.take i).any (λx=>x.toList==(gd n.Nv i nm0).toList):=by
       rw[HB]
       simp only[bne_iff_ne,ne_eq,Int.natCast_inj,hfi,Iu]
      rw[he])
  (λfk=>by rw[Hx,zo,if_neg (by simp)]) fu (by simp; omega)]
 rw[yP (l:=List.range n.Nw.length) (G:=zn fu n) (j6 n.Nv.length n.Nw) (λi=>false) (by simp; omega)
  (λfk i hi=>by
    have hi':i<n.Nw.length:=by simpa using hi
    rw[zn,if_pos (by simpa using hi'),xC f0 hi',HR]
    simp only[GH,sk _ hb.2,j6]
    by_cases h1:(j5 n.Nv.length (gd n.Nw i f0))=false
    · simp [h1]
    rw[Iu]at h1
    simp only[h1]
    by_cases h0:0<i
    · rw[fv h0 (by omega),xC f0 (show i - 1<n.Nw.length by omega)]
      have h0':((i:Int) > 0):=by omega
      simp [h0,lK,h0']
    · have h0':¬((i:Int) > 0):=by omega
      simp [h0,h0'])
  (λfk=>by rw[Hx,zn,if_neg (by simp)]) fu (by simp; omega),wR _ hb.2]
 cases (List.range n.Nv.length).any (i5 n.Nv) <;> cases (List.range n.Nw.length).any (ij n.Nv.length n.Nw) <;> rfl
structure NetF (n:Nq):Prop where
 lo:2<=n.Nv.length
 hi:n.Nv.length<=8
 fib:n.Nw.length<=14
 each:∀f∈n.Nw,0<=f.A/\f.A<f.B/\f.B<(n.Nv.length:Int)/\1<=f.Pg/\f.Pg<=5000/\0<=f.Pp/\f.Pp<=9
theorem netF {n:Nq} (h:cE n=true):NetF n:=by
 unfold cE at h;simp only[GP,decide_eq_true_eq,Hk]at h;obtain⟨⟨h1,h2⟩,h3,h4,h5⟩:=h;refine⟨h1,h2,h3,λf hf=>?_⟩;obtain⟨i,hi,rfl⟩:=G4.1 hf;rw[G7]at h5;have h6:ij n.Nv.length n.Nw i=false:=by
  rw[G7]
  intro h7
  exact h5 (G5.2 ⟨i,Hv.2 hi,h7⟩)
 unfold ij at h6;rw[HU]at h6;have h8:=h6.1;rw[aU f0 hi]at h8;simp only[IX,j5,GP,decide_eq_true_eq]at h8;omega
end
section
theorem yw {α:Type} {l m:List α} (h:l.length + m.length<=1099511627776):M_ l m=some (l++m):=by unfold M_; rw[if_pos h]
variable {fu:Nat}
theorem wI (l:d_) (v:Int) (h:l.length<fu) (hn:l.length<=2097152):yZ fu l v=some (if l.any (λx=>x==v) then ((l.findIdx λx=>x==v:Nat):Int) else -1):=by
 unfold yZ;rw[yP (l:=l) (G:=vN fu l v) (λx=>x==v) (λi=>(i:Int)) (by omega)
  (λfk i hi=>by rw[vN,if_pos (by simpa using hi),vP hi,GH,pV v])
  (λfk=>by rw[vN,if_neg (by simp)]) fu h]
 cases l.any (λx=>x==v) <;> rfl
theorem kv (l:d_) (v:Int) (h:l.length<fu) (hn:l.length<=2097152):xO fu l v=some (l.any λx=>x==v):=by
 unfold xO;rw[wI l v h hn];cases l.any (λx=>x==v)
 rfl;simp
theorem iv (l:d_) (v:Int) (h:l.length<fu) (hn:l.length<=2097152):bG fu l v=some (l.any λx=>x==v):=by
 unfold bG;rw[yP (l:=l) (G:=ab fu l v) (λx=>x==v) (λi=>true) (by omega)
  (λfk i hi=>by rw[ab,if_pos (by simpa using hi),vP hi,GH])
  (λfk=>by rw[ab,if_neg (by simp)]) fu h]
 cases l.any (λx=>x==v) <;> rfl
def X_ (f:Pq) (v:Int):Int:=if v=f.A then f.B else if v=f.B then f.A else -1
theorem BM {R:Type} (f:Pq) (v:Int) (k:Int->R):(if v==f.A then k f.B else if v==f.B then k f.A else k (-1))=k (X_ f v):=by
 unfold X_;by_cases h1:v=f.A;rw[if_pos (beq_iff_eq.2 h1),if_pos h1];rw[if_neg (by simpa using h1),if_neg h1];by_cases h2:v=f.B;rw[if_pos (beq_iff_eq.2 h2),if_pos h2];rw[if_neg (by simpa using h2),if_neg h2]
theorem lE (fu:Nat) (f:Pq) (v:Int):df fu f v=some (X_ f v):=by
 exact BM f v some
theorem iu (fu:Nat) (n:Nq) (i:Nat) (v:Int) (h:i<n.Nw.length):yK fu n (i:Int) v=some (X_ (gd n.Nw i f0) v):=by
 unfold yK;rw[xC f0 h];exact BM _ v some
def dR (F:List Pq):d_->d_->Int->Option (d_)
 | [],out,_=>some out
 | i::r,out,v=>if 0<=i/\i<(F.length:Int) then (if X_ (gd F i.toNat f0) v<0∨(out.any λx=>x==X_ (gd F i.toNat f0) v)=true then none else dR F r (out++[X_ (gd F i.toNat f0) v]) (X_ (gd F i.toNat f0) v)) else none
def zb (n:Nq) (r:Nz):Option (d_):=if (0<=r.Nt/\r.Nt<(n.Nv.length:Int))/\r.Nw≠[] then dR n.Nw r.Nw [r.Nt] r.Nt else none
def gl (l:d_):Int:=gd l (l.length - 1) 0
theorem og (l:d_) (x:Int):gl (l++[x])=x:=by unfold gl gd; simp
theorem oR {F:List Pq}:∀{fs out:d_} {v:Int} {o:d_},dR F fs out v=some o->o.length=out.length + fs.length
 | [],out,v,o,h=>by simp only[dR,Hj]at h; subst h; simp
 | i::r,out,v,o,h=>by
  unfold dR at h
  split at h
  · split at h
    · cases h
    · have:=oR h
      simp only[GL,Hq,HP]at this ⊢
      omega
  · cases h
theorem qS {F:List Pq}:∀{fs out:d_} {v:Int} {o:d_},dR F fs out v=some o->∀i∈fs,0<=i/\i<(F.length:Int)
 | [],out,v,o,h=>by simp
 | i::r,out,v,o,h=>by
  unfold dR at h
  split at h
  · rename_i hi
    split at h
    · cases h
    · intro j hj
      rcases Hf.1 hj with rfl | hj
      · exact hi
      · exact qS h j hj
  · cases h
variable {n:Nq} {r:Nz} {o:d_}
theorem oH (hfu:2097153<=fu) (n:Nq) (r:Nz) (hn:n.Nw.length<=2097152) (hr:r.Nw.length<=2097152):∀(fk i:Nat) (out:d_) (v:Int),i<=r.Nw.length->r.Nw.length - i<fk->out.length=i + 1 ->
 ∃z,zI fu n r fk out v i=some (match dR n.Nw (r.Nw.drop i) out v with | some o=>.next (o,z) | none=>.ret ([],false)):=by
 intro fk;induction fk with
 | zero=>intro i _ _ _ h; omega
 | succ fk ih =>
  intro i out v hi hk ho
  rw[zI]
  by_cases h:i<r.Nw.length
  · rw[if_pos (by simpa using h),vP h,<-GU h,dR]
    obtain⟨e,he⟩:∃e,e=r.Nw[i]:=⟨_,rfl⟩
    simp only[<-he,GH,yd]
    rw[va (by omega) (by omega)]
    by_cases hb:0<=e/\e<(n.Nw.length:Int)
    · rw[if_pos hb]
      have hb':(decide (0<=e)&&decide (e<=(n.Nw.length:Int) - 1))=true:=by simp; omega
      have hx:V_ n.Nw e=some (gd n.Nw e.toNat f0):=by
       have:=xC (l:=n.Nw) (i:=e.toNat) f0 (by omega)
       rwa [HG hb.1]at this
      simp only[hb',HW,GT,if_false,hx,GH,lE]
      obtain⟨y,hy⟩:∃y,y=X_ (gd n.Nw e.toNat f0) v:=⟨_,rfl⟩
      simp only[<-hy,kv out y (show out.length<fu by omega) (by omega)]
      by_cases hn:y<0∨(out.any λx=>x==y)=true
      · rw[if_pos hn]
        refine⟨(0,0),?_⟩
        rcases hn with h1 | h1
        · simp [h1]
        · by_cases h2:y<0 <;> simp [h1,h2]
      · rw[if_neg hn]
        have h1:¬y<0:=λh=>hn (.inl h)
        have h2:(out.any λx=>x==y)=false:=by rw[G7]; exact λh=>hn (.inr h)
        simp only[h1,decide_false,GT,if_false,h2,GH]
        rw[yw (by simp; omega),GH,vV h (by omega)]
        exact ih (i + 1) _ _ h (by omega) (by simp; omega)
    · rw[if_neg hb]
      have hb':(decide (0<=e)&&decide (e<=(n.Nw.length:Int) - 1))=false:=by rw[G7]; simp; omega
      exact⟨(0,0),by simp [hb']⟩
  · obtain rfl:i=r.Nw.length:=by omega
    rw[if_neg (by simp),Hg]
    exact⟨_,rfl⟩
theorem rG (hfu:2097153<=fu) (n:Nq) (r:Nz) (hn:n.Nw.length<=2097152) (hm:n.Nv.length<=2097152) (hr:r.Nw.length<=2097152):dT fu n r=some (match zb n r with | some o=>(o,true) | none=>([],false)):=by
 unfold dT;simp only[yd,GH];rw[va (by omega) (by omega)];by_cases hs:0<=r.Nt/\r.Nt<(n.Nv.length:Int);have hb':(decide (0<=r.Nt)&&decide (r.Nt<=(n.Nv.length:Int) - 1))=true:=by simp; omega
 by_cases he:r.Nw=[];have er:zb n r=none:=by unfold zb; rw[if_neg λh=>h.2 he]
 simp [hb',he,er];have er:zb n r=dR n.Nw r.Nw [r.Nt] r.Nt:=by unfold zb; rw[if_pos ⟨hs,he⟩]
 have he':((r.Nw.length:Int)==0)=false:=by
  rw[beq_eq_false_iff_ne]
  have:=JC.2 he
  omega
 obtain⟨z,hz⟩:=oH hfu n r hn hr fu 0 [r.Nt] r.Nt (by omega) (by omega) rfl;rw[He,show ((0:Nat):Int)=0 from rfl]at hz;rw[er];simp only[hb',HW,GT,if_false,he',GH,hz];cases dR n.Nw r.Nw [r.Nt] r.Nt <;> rfl
 have hb':(decide (0<=r.Nt)&&decide (r.Nt<=(n.Nv.length:Int) - 1))=false:=by rw[G7]; simp; omega
 have er:zb n r=none:=by unfold zb; rw[if_neg λh=>hs h.1]
 simp [hb',er]
theorem s7 (hfu:2097153<=fu) (n:Nq) (r:Nz) (hn:n.Nw.length<=2097152) (hr:r.Nw.length<=2097152):∀(fk i:Nat) (out:d_),i<=r.Nw.length->r.Nw.length - i<fk->out.length=i + 1 ->
 ∃z o',av fu n r fk out i=some (match dR n.Nw (r.Nw.drop i) out (gl out) with | some o=>.next (o,z) | none=>.ret (o',false)):=by
 intro fk;induction fk with
 | zero=>intro i _ _ h; omega
 | succ fk ih =>
  intro i out hi hk ho
  rw[av]
  by_cases h:i<r.Nw.length
  · rw[if_pos (by simpa using h),vP h,<-GU h,dR]
    obtain⟨e,he⟩:∃e,e=r.Nw[i]:=⟨_,rfl⟩
    have hlast:V_ out (y_ ((out.length:Int) - 1))=some (gl out):=by
     rw[fv (by omega) (by omega),xC 0 (by omega)]; rfl
    simp only[<-he,GH,cF,hlast]
    rw[va (by omega) (by omega)]
    by_cases hb:0<=e/\e<(n.Nw.length:Int)
    · rw[if_pos hb]
      have hb':(decide (0<=e)&&decide (e<=(n.Nw.length:Int) - 1))=true:=by simp; omega
      have hx:yK fu n e (gl out)=some (X_ (gd n.Nw e.toNat f0) (gl out)):=by
       have:=iu fu n e.toNat (gl out) (by omega)
       rwa [HG hb.1]at this
      simp only[hb',HW,GT,if_false,hx,GH]
      obtain⟨y,hy⟩:∃y,y=X_ (gd n.Nw e.toNat f0) (gl out):=⟨_,rfl⟩
      simp only[<-hy,iv out y (show out.length<fu by omega) (by omega)]
      by_cases hn:y<0∨(out.any λx=>x==y)=true
      · rw[if_pos hn]
        refine⟨0,out,?_⟩
        rcases hn with h1 | h1
        · simp [h1]
        · by_cases h2:y<0 <;> simp [h1,h2]
      · rw[if_neg hn]
        have h1:¬y<0:=λh=>hn (.inl h)
        have h2:(out.any λx=>x==y)=false:=by rw[G7]; exact λh=>hn (.inr h)
        simp only[h1,decide_false,GT,if_false,h2,GH]
        rw[yw (by simp; omega),GH,vV h (by omega)]
        have:=ih (i + 1) (out++[y]) h (by omega) (by simp; omega)
        rwa [og]at this
    · rw[if_neg hb]
      have hb':(decide (0<=e)&&decide (e<=(n.Nw.length:Int) - 1))=false:=by rw[G7]; simp; omega
      exact⟨0,out,by simp [hb']⟩
  · obtain rfl:i=r.Nw.length:=by omega
    rw[if_neg (by simp),Hg]
    exact⟨_,[],rfl⟩
theorem walk_eq (hfu:2097153<=fu) (n:Nq) (r:Nz) (hn:n.Nw.length<=2097152) (hm:n.Nv.length<=2097152) (hr:r.Nw.length<=2097152):∃o',dv fu n r=some (match zb n r with | some o=>(o,true) | none=>(o',false)):=by
 unfold dv;simp only[cF,GH];rw[va (by omega) (by omega)];by_cases hs:0<=r.Nt/\r.Nt<(n.Nv.length:Int);have hb':(decide (0<=r.Nt)&&decide (r.Nt<=(n.Nv.length:Int) - 1))=true:=by simp; omega
 by_cases he:r.Nw=[];have er:zb n r=none:=by unfold zb; rw[if_neg λh=>h.2 he]
 exact⟨[r.Nt],by simp [hb',he,er]⟩;have er:zb n r=dR n.Nw r.Nw [r.Nt] r.Nt:=by unfold zb; rw[if_pos ⟨hs,he⟩]
 have he':((r.Nw.length:Int)==0)=false:=by
  rw[beq_eq_false_iff_ne]
  have:=JC.2 he
  omega
 obtain⟨z,o',hz⟩:=s7 hfu n r hn hr fu 0 [r.Nt] (by omega) (by omega) rfl;rw[He,show ((0:Nat):Int)=0 from rfl,show gl [r.Nt]=r.Nt from rfl]at hz;refine⟨o',?_⟩;rw[er];simp only[hb',HW,GT,if_false,he',GH,hz];cases dR n.Nw r.Nw [r.Nt] r.Nt <;> rfl
 have hb':(decide (0<=r.Nt)&&decide (r.Nt<=(n.Nv.length:Int) - 1))=false:=by rw[G7]; simp; omega
 refine⟨[r.Nt],?_⟩;have er:zb n r=none:=by unfold zb; rw[if_neg λh=>hs h.1]
 simp [hb',er]
theorem wy (hfu:2097153<=fu) (n:Nq) (r:Nz) (hB:NetB n) (hr:r.Nw.length<=2097152):ez fu n r=some (cE n&&(zb n r).isSome):=by
 unfold ez;rw[fM hfu n hB,GH];obtain⟨o',h⟩:=walk_eq hfu n r hB.2 hB.1.1 hr;rw[h];cases cE n
 rfl;cases zb n r <;> rfl
theorem mW (h:zb n r=some o):o.length=r.Nw.length + 1:=by
 unfold zb at h;split at h
 have:=oR h;simp only[Hq,HP]at this;omega;cases h
theorem tL (h:zb n r=some o):∀i∈r.Nw,0<=i/\i<(n.Nw.length:Int):=by
 unfold zb at h;split at h
 exact qS h;cases h
theorem kO:∀(m:Nat) (l:d_),l.Nodup->(∀x∈l,0<=x/\x<(m:Int))->l.length<=m
 | 0,l,_,h=>by
  cases l with
  | nil=>simp
  | cons x l=>have:=h x (by simp); omega
 | m + 1,l,hn,h=>by
  have h1:=kO m (l.erase (m:Int)) (hn.erase _) λx hx=>by
   have hx1:=List.mem_of_mem_erase hx
   have:=h x hx1
   refine⟨this.1,?_⟩
   have hne:x≠(m:Int):=λe=>by
    subst e
    exact (hn.not_mem_erase) hx
   omega
  rw[List.length_erase]at h1
  split at h1 <;> omega
theorem qp {f:Pq} {v:Int} (h:0<=X_ f v):(v=f.A/\X_ f v=f.B)∨(v=f.B/\X_ f v=f.A):=by
 unfold X_ at h ⊢;split at h
 rename_i h1; rw[if_pos h1]; exact .inl ⟨h1,rfl⟩;rename_i h1;rw[if_neg h1];split at h
 rename_i h2; rw[if_pos h2]; exact .inr ⟨h2,rfl⟩;omega
theorem oS {F:List Pq} (P:Int->Prop) (hF:∀f∈F,P f.A/\P f.B):∀{fs out:d_} {v:Int} {o:d_} (U:d_),dR F fs out v=some o->out.Nodup->(∀x∈out,P x)->v∈out->(∀i∈U,(gd F i.toNat f0).A∈out/\(gd F i.toNat f0).B∈out) ->
 o.Nodup/\(∀x∈o,P x)/\fs.Nodup/\∀i∈fs,i∉U
 | [],out,v,o,U,h,h1,h2,h3,h4=>by
  simp only[dR,Hj]at h
  subst h
  exact⟨h1,h2,.nil,by simp⟩
 | i::r,out,v,o,U,h,h1,h2,h3,h4=>by
  unfold dR at h
  split at h
  case isFalse=>cases h
  rename_i hi
  split at h
  case isTrue=>cases h
  rename_i hc
  obtain⟨y,hy⟩:∃y,y=X_ (gd F i.toNat f0) v:=⟨_,rfl⟩
  rw[<-hy]at h hc
  have hy0:0<=y:=by
   rcases Classical.em (y<0) with h' | h'
   · exact absurd (.inl h') hc
   · omega
  have hny:y∉out:=λhm=>hc (.inr (G5.2 ⟨y,hm,by simp⟩))
  have hfm:gd F i.toNat f0∈F:=zx f0 (by omega)
  have hm:=qp (f:=gd F i.toNat f0) (v:=v) (by omega)
  rw[<-hy]at hm
  have hPy:P y:=by
   rcases hm with ⟨_,e⟩ | ⟨_,e⟩ <;> rw[e]
   · exact (hF _ hfm).2
   · exact (hF _ hfm).1
  have hiU:i∉U:=λhu=>by
   have:=h4 i hu
   rcases hm with ⟨_,e⟩ | ⟨_,e⟩ <;> rw[e]at hny
   · exact hny this.2
   · exact hny this.1
  obtain⟨g1,g2,g3,g4⟩:=oS P hF (i::U) h
   (GZ.2 ⟨h1,by simp,λa ha b hb=>by rw[GR]at hb; subst hb; exact λe=>hny (e▸ha)⟩)
   (λx hx=>by
     rcases GI.1 hx with hx | hx
     · exact h2 x hx
     · rw[GR]at hx; subst hx; exact hPy)
   (by simp)
   (λj hj=>by
     rcases Hf.1 hj with rfl | hj
     · rcases hm with ⟨e1,e2⟩ | ⟨e1,e2⟩
       · exact⟨GI.2 (.inl (e1▸h3)),GI.2 (.inr (by rw[e2]; simp))⟩
       · exact⟨GI.2 (.inr (by rw[e2]; simp)),GI.2 (.inl (e1▸h3))⟩
     · exact⟨GI.2 (.inl (h4 j hj).1),GI.2 (.inl (h4 j hj).2)⟩)
  refine⟨g1,g2,Ib.2 ⟨λhm=>g4 i hm (by simp),g3⟩,λj hj=>?_⟩
  rcases Hf.1 hj with rfl | hj
  · exact hiU
  · exact λhu=>g4 j hj (Hs _ hu)
theorem km (hn:NetF n) (h:zb n r=some o):o.Nodup/\(∀x∈o,0<=x/\x<(n.Nv.length:Int))/\r.Nw.Nodup/\r.Nw.length<=7/\r.Nw≠[]/\0<=r.Nt/\r.Nt<(n.Nv.length:Int):=by
 have hl:=mW h;unfold zb at h;split at h
 case isFalse=>cases h
 rename_i hs;obtain⟨g1,g2,g3,_⟩:=oS (λx=>0<=x/\x<(n.Nv.length:Int)) (λf hf=>by have:=hn.each f hf; omega) [] h (by simp) (by simpa using hs.1) (by simp) (by simp);have:=kO _ _ g1 g2;have:=hn.hi;exact⟨g1,g2,g3,by omega,hs.2,hs.1⟩
end
section
theorem B3 {fu:Nat} (hfu:2097153<=fu) (l:d_) (h:l.length<=2097152):∃l',bf fu l=some l'/\l'.Perm l/\l'.Pairwise λa b=>a<=b:=by
 unfold bf Ar;rw[if_pos (by omega)];refine⟨_,rfl,List.mergeSort_perm _ _,?_⟩;have:=JW (le:=λx y:Int=>decide (x<=y)) (λa b c h1 h2=>by simp only[decide_eq_true_eq]at *; omega) (λa b=>by simp only[Ii,decide_eq_true_eq]; omega) l;exact this.imp λh=>by simpa using h
theorem ry:∀(l:d_) (p:Int),(p::l).Nodup->gJ p l=l
 | [],_,_=>rfl
 | b::l,p,h=>by
  rw[Ib]at h
  unfold gJ
  rw[if_neg (λe=>h.1 (by rw[e]; exact Hp)),ry l b h.2]
theorem Bf (l:d_) (h:l.Nodup):mO l=l:=by
 cases l with
 | nil=>rfl
 | cons a l=>show a::gJ a l=a::l; rw[ry l a h]
theorem sI {fu:Nat} (l:d_) (hn:l.Nodup) (hl:l.length<=2097152) (hfu:2097153<=fu):zO fu l=some l:=by
 unfold zO;rw[Bf l hn]
def meets (a b:d_):Bool:=a.any λx=>b.any λy=>y==x
variable {fu:Nat}
theorem qD (a b:d_) (ha:a.length<=2097152) (hb:b.length<=2097152) (hfu:2097153<=fu):∀(fk i:Nat) (out:d_),a.length - i<fk->i<=a.length->out.length<=i->∃z,zv fu a b fk out i=some (out++(a.drop i).filter (λx=>b.any λy=>y==x),z):=by
 intro fk;induction fk with
 | zero=>intro i _ h; omega
 | succ fk ih =>
  intro i out hk hi ho
  rw[zv]
  by_cases h:i<a.length
  · have h':(i:Int)<(a.length:Int):=by omega
    simp only[h',decide_true,if_true,vP h,GH,kv b a[i] (show b.length<fu by omega) hb]
    rw[<-GU h,Jx]
    by_cases hc:(b.any λy=>y==a[i])=true
    · rw[if_pos hc,if_pos hc,yw (by simp; omega),GH,vV h (by omega)]
      obtain⟨z,hz⟩:=ih (i + 1) (out++[a[i]]) (by omega) h (by simp; omega)
      exact⟨z,by rw[hz,GN]; rfl⟩
    · rw[if_neg hc,if_neg hc,vV h (by omega)]
      exact ih (i + 1) out (by omega) h (by omega)
  · obtain rfl:i=a.length:=by omega
    have h':¬((a.length:Nat):Int)<(a.length:Int):=by omega
    simp only[h',decide_false,GT,if_false,Hg,J0,G8]
    exact⟨_,rfl⟩
theorem sA {a b:d_}:(0<(a.filter λx=>b.any λy=>y==x).length)↔meets a b=true:=by
 unfold meets;rw[List.length_pos_iff_exists_mem,G5];constructor;rintro⟨x,hx⟩;rw[J1]at hx;exact⟨x,hx⟩;rintro⟨x,hx⟩;exact⟨x,J1.2 hx⟩
theorem sK (a b:d_) (ha:a.length<=2097152) (hn:a.Nodup) (hb:b.length<=2097152) (hfu:2097153<=fu):∃c,dB fu a b=some c/\decide ((c.length:Int) > 0)=meets a b:=by
 unfold dB;obtain⟨z,hz⟩:=qD a b (by omega) hb hfu fu 0 [] (by omega) (by omega) (by simp);rw[show ((0:Nat):Int)=0 from rfl]at hz;simp only[hz,GH,Hi,He];have hlen:(a.filter λx=>b.any λy=>y==x).length<=2097152:=HS (Jw _ _) ha;obtain⟨l',h1,h2,-⟩:=B3 hfu (a.filter λx=>b.any λy=>y==x) hlen;have hnd:l'.Nodup:=h2.nodup_iff.2 (hn.filter _);have hl':=h2.length_eq;rw[h1,GH,sI l' hnd (by omega) hfu];refine⟨l',rfl,?_⟩;rw[HB,decide_eq_true_eq,<-sA];omega
theorem wY (a b:d_) (ha:a.length<=12) (hn:a.Nodup) (hb:b.length<=2097152) (hfu:2097153<=fu):∃c,dB fu a b=some c/\decide ((c.length:Int) > 0)=meets a b:=sK a b (by omega) hn hb hfu
end
section
theorem qe {fu:Nat} (hfu:2097153<=fu) (r:Nz) (g:d_) (hr:r.Nw.length<=2097152) (hg:g.length<=2097152):aZ fu r g=some (meets r.Nw g):=by
 unfold aZ;rw[yP (l:=r.Nw) (G:=zm fu r g) (λx=>g.any λy=>y==x) (λi=>true) (by omega)
  (λfk i hi=>by
    have h':(i:Int)<(r.Nw.length:Int):=by omega
    rw[zm]
    simp only[h',decide_true,if_true,vP hi,GH,iv g r.Nw[i] (show g.length<fu by omega) hg])
  (λfk=>by rw[zm,if_neg (by simp)]) fu (by omega)]
 unfold meets;cases r.Nw.any λx=>g.any λy=>y==x <;> rfl
def yY (b:Nj):Bool:=decide (0<=b.Pk)&&(decide (1<=b.Pz)&&decide (b.Pk + b.Pz<=24))
theorem ww (fu:Nat) (b:Nj):ey fu b=some (yY b):=by
 unfold ey yY;simp only[cF,GH];by_cases h:0<=b.Pk/\b.Pk<=23;have hc:(decide (0<=b.Pk)&&decide (b.Pk<=23))=true:=by simpa using h
 rw[va (by omega) (by omega)];simp only[hc,if_true,GH,Hj];rw[HB];simp only[GP,decide_eq_true_eq];omega;have hc:(decide (0<=b.Pk)&&decide (b.Pk<=23))=false:=by rw[G7]; simp only[ne_eq,GP,decide_eq_true_eq]; exact h
 simp only[hc,GT,if_false,GH,Hj];rw[HB];simp only[GP,decide_eq_true_eq,GT,false_iff];omega
theorem ss (fu:Nat) (b:Nj):aR fu b=some (yY b):=by
 unfold aR yY;simp only[yd,GH];by_cases h0:0<=b.Pk;by_cases h:1<=b.Pz/\b.Pz<=24;have hc:(decide (1<=b.Pz)&&decide (b.Pz<=24))=true:=by simpa using h
 rw[va (by omega) (by omega)];simp only[ge_iff_le,h0,hc,decide_true,if_true,GH,Hj,HD];rw[HB];simp only[GP,decide_eq_true_eq];omega;have hc:(decide (1<=b.Pz)&&decide (b.Pz<=24))=false:=by rw[G7]; simp only[ne_eq,GP,decide_eq_true_eq]; exact h
 simp only[ge_iff_le,h0,hc,decide_true,if_true,GT,if_false,GH,Hj];rw[HB];simp only[GP,decide_eq_true_eq,GT,false_iff];omega;simp [h0]
def bits (b:Nj):Int:=(2 ^ b.Pz.toNat - 1) * 2 ^ b.Pk.toNat
theorem kS {k:Nat} (h:k<=24):(1:Int)<=2 ^ k/\(2:Int) ^ k<=16777216:=by
 have h1:(2:Nat) ^ k<=2 ^ 24:=Jb (by omega) h;have h2:1<=(2:Nat) ^ k:=Nat.one_le_two_pow;have h3:((2 ^ k:Nat):Int)=2 ^ k:=by norm_cast
 omega
variable {b:Nj}
theorem nu (h:yY b=true):0<=bits b/\bits b<16777216:=by
 simp only[yY,GP,decide_eq_true_eq]at h;have e:(2:Int) ^ b.Pz.toNat * 2 ^ b.Pk.toNat=2 ^ (b.Pz.toNat + b.Pk.toNat):=(Int.pow_add _ _ _).symm;have h1:=kS (show b.Pz.toNat<=24 by omega);have h2:=kS (show b.Pk.toNat<=24 by omega);have h3:=kS (show b.Pz.toNat + b.Pk.toNat<=24 by omega);unfold bits;rw[Int.sub_mul,e,Int.one_mul];refine⟨?_,by omega⟩;have h4:(2:Int) ^ b.Pk.toNat<=2 ^ (b.Pz.toNat + b.Pk.toNat):=by
  have:(2:Nat) ^ b.Pk.toNat<=2 ^ (b.Pz.toNat + b.Pk.toNat):=Jb (by omega) (by omega)
  have e1:((2 ^ b.Pk.toNat:Nat):Int)=2 ^ b.Pk.toNat:=by norm_cast
  have e2:((2 ^ (b.Pz.toNat + b.Pk.toNat):Nat):Int)=2 ^ (b.Pz.toNat + b.Pk.toNat):=by norm_cast
  omega
 omega
theorem nP (h:yY b=true):((shl 1 b.Pz).bind λq=>(shl (y_ (q - 1)) b.Pk).bind λq2=>some q2)=some (bits b):=by
 have hb:=nu h;simp only[yY,GP,decide_eq_true_eq]at h;have h1:=kS (show b.Pz.toNat<=24 by omega);have m1:min b.Pz.toNat 64=b.Pz.toNat:=by omega
 have m2:min b.Pk.toNat 64=b.Pk.toNat:=by omega
 unfold shl;rw[if_neg (show ¬b.Pz<0 by omega),GH,if_neg (show ¬b.Pk<0 by omega),m1,m2,Int.one_mul,va (n:=2 ^ b.Pz.toNat) (by omega) (by omega),va (n:=2 ^ b.Pz.toNat - 1) (by omega) (by omega)];have:(2 ^ b.Pz.toNat - 1) * 2 ^ b.Pk.toNat=bits b:=rfl;rw[this,va (by omega) (by omega)];rfl
theorem lG {fu:Nat} (h:yY b=true):bW fu b=some (bits b):=nP h
theorem nD {n:Int} (h:0<=n) (h':n<18446744073709551616):wu64 n=n:=by unfold wu64; omega
theorem gY {fu:Nat} (h:yY b=true):zD fu b=some (bits b):=by
 unfold zD;have h':=h;simp only[yY,GP,decide_eq_true_eq]at h';rw[nD (by omega) (by omega),nD (by omega) (by omega)];exact nP h
def bp (n:Nq) (x:Nx):Bool:=(decide (1<=x.Id)&&decide (x.Id<=999))&&((zb n x.Nz).isSome&&yY x.Nj)
theorem sp {fu:Nat} (hfu:2097153<=fu) (n:Nq) (x:Nx) (hB:NetB n) (hr:x.Nz.Nw.length<=2097152):dW fu n x=some (bp n x):=by
 unfold dW bp;rw[rG hfu n x.Nz hB.2 hB.1.1 hr];simp only[yd,ss,GH];cases zb n x.Nz with
 | none=>simp
 | some o=>cases hc:(decide (1<=x.Id)&&decide (x.Id<=999)) <;> simp [hc]
theorem si {fu:Nat} (hfu:2097153<=fu) (n:Nq) (x:Nx) (hB:NetB n) (hn:cE n=true) (hr:x.Nz.Nw.length<=2097152):dN fu n x=some (bp n x):=by
 unfold dN bp;simp only[cF,ww,wy hfu n x.Nz hB hr,hn,HD,GH];cases hc:(decide (1<=x.Id)&&decide (x.Id<=999))
 simp;cases (zb n x.Nz).isSome <;> simp
def coll (a b:Nx):Bool:=meets a.Nz.Nw b.Nz.Nw&&(band (bits a.Nj) (bits b.Nj) != 0)
structure LightF (n:Nq) (x:Nx):Prop where
 nodup:x.Nz.Nw.Nodup
 short:x.Nz.Nw.length<=7
 blk:yY x.Nj=true
 route:∃o,zb n x.Nz=some o
 id:1<=x.Id/\x.Id<=999
theorem pm {n:Nq} {x:Nx} (hn:cE n=true) (h:bp n x=true):LightF n x:=by
 unfold bp at h;simp only[GP,decide_eq_true_eq]at h;obtain⟨h1,h2,h3⟩:=h;obtain⟨o,ho⟩:=IT.1 h2;have hf:=km (netF hn) ho;exact⟨hf.2.2.1,hf.2.2.2.1,h3,⟨o,ho⟩,h1⟩
theorem pq {fu:Nat} (hfu:2097153<=fu) {n:Nq} {a b:Nx} (ha:LightF n a) (hb:LightF n b):cp fu a b=some (coll a b):=by
 unfold cp coll;have h1:=ha.short;have h2:=hb.short;rw[qe hfu a.Nz b.Nz.Nw (by omega) (by omega)];simp only[gY ha.blk,gY hb.blk,GH];cases meets a.Nz.Nw b.Nz.Nw <;> simp
theorem Ev (q m:Bool):((if q=true then some m else some false).bind λc=>some c)=some (m&&q):=by cases q <;> cases m <;> rfl
theorem sL {fu:Nat} (hfu:2097153<=fu) {n:Nq} {a b:Nx} (ha:LightF n a) (hb:LightF n b):dY fu a b=some (coll a b):=by
 unfold dY coll;have h1:=ha.short;have h2:=hb.short;obtain⟨c,hc,hd⟩:=wY (fu:=fu) a.Nz.Nw b.Nz.Nw (by omega) ha.nodup (by omega) hfu;rw[lG ha.blk,GH,lG hb.blk,GH,hc,GH,hd];exact Ev _ _
theorem tw {α R:Type} {l:List α} {G:Nat->Int->Option (Out Int R)} (p:Nat->Bool) (r:Nat->R) (hn:(l.length:Int)<=9223372036854775807)
 (hG:∀fk (i:Nat) (h:i<l.length),(∀j,j<i->p j=false)->G (fk + 1) i=if p i=true then some (.ret (r i)) else G fk (y_ ((i:Int) + 1)))
 (hz:∀fk,G (fk + 1) l.length=some (.next (l.length:Int))):∀(fk i:Nat),l.length - i<fk->i<=l.length->(∀j,j<i->p j=false) ->
 (∃k,k<l.length/\i<=k/\p k=true/\(∀j,j<k->p j=false)/\G fk i=some (.ret (r k)))∨((∀j,j<l.length->p j=false)/\G fk i=some (.next (l.length:Int))):=by
 intro fk;induction fk with
 | zero=>intro i h; omega
 | succ fk ih =>
  intro i hk hi hp
  by_cases h:i<l.length
  · rw[hG fk i h hp]
    by_cases hc:p i=true
    · rw[if_pos hc]
      exact .inl ⟨i,h,GV _,hc,hp,rfl⟩
    · rw[if_neg hc,vV h hn]
      rw[Jd]at hc
      have hp':∀j,j<i + 1->p j=false:=λj hj=>by
       rcases Iy j i with h' | h'
       · exact hp j h'
       · obtain rfl:j=i:=by omega
         exact hc
      rcases ih (i + 1) (by omega) h hp' with ⟨k,k1,k2,k3,k4,k5⟩ | ⟨h1,h2⟩
      · exact .inl ⟨k,k1,by omega,k3,k4,k5⟩
      · exact .inr ⟨h1,h2⟩
  · obtain rfl:i=l.length:=by omega
    rw[hz]
    exact .inr ⟨hp,rfl⟩
theorem nQ {α R:Type} {l:List α} {G:Nat->Int->Option (Out Int R)} (p:Nat->Bool) (r:R) (hn:(l.length:Int)<=9223372036854775807)
 (hG:∀fk (i:Nat) (h:i<l.length),(∀j,j<i->p j=false)->G (fk + 1) i=if p i=true then some (.ret r) else G fk (y_ ((i:Int) + 1)))
 (hz:∀fk,G (fk + 1) l.length=some (.next (l.length:Int))) (fk:Nat) (hk:l.length<fk):G fk 0=some (if (List.range l.length).any p=true then .ret r else .next (l.length:Int)):=by
 rcases tw p (λ_=>r) hn hG hz fk 0 (by omega) (by omega) (λj h=>by omega) with ⟨k,k1,-,k3,-,k5⟩ | ⟨h1,h2⟩
 rw[if_pos (G5.2 ⟨k,Hv.2 k1,k3⟩)];exact k5;rw[if_neg];exact h2;intro h;obtain⟨k,k1,k2⟩:=G5.1 h;rw[h1 k (Hv.1 k1)]at k2;cases k2
def l0:Nx:=⟨0,⟨0,[]⟩,⟨0,0⟩⟩
def bn (n:Nq) (L:List Nx) (i:Nat):Bool:=!bp n (gd L i l0)||((decide (0<i)&&decide ((gd L (i - 1) l0).Id>=(gd L i l0).Id))||(L.take i).any λy=>coll y (gd L i l0))
def x8 (p:Nh):Bool:=cE p.Nq&&(decide (p.Nk.length<=12)&&!((List.range p.Nk.length).any (bn p.Nq p.Nk)))
def cg (p:Nh):Prop:=NetB p.Nq/\p.Nk.length<=2097152/\∀x∈p.Nk,x.Nz.Nw.length<=2097152
theorem tO {n:Nq} {L:List Nx} {i:Nat} (h:i<L.length) (hp:∀j,j<i->bn n L j=false):∀y∈L.take i,bp n y=true:=by
 intro y hy;obtain⟨j,hj,rfl⟩:=G4.1 hy;rw[GO]at hj;rw[Hu];have:=hp j (by omega);unfold bn at this;rw[HU,aU l0 (show j<L.length by omega)]at this;simpa using this.1
variable {fu:Nat}
theorem pO (hfu:2097153<=fu) {n:Nq} (l:List Nx) (x:Nx) (hl:l.length<=2097152) (hL:∀y∈l,LightF n y) (hx:LightF n x):uP fu l x=some (l.any λy=>coll y x):=by
 unfold uP vd;rw[yP (l:=l) (G:=uz fu l x) (λy=>coll y x) (λi=>(i:Int)) (by omega)
  (λfk i hi=>by
    have h':(i:Int)<(l.length:Int):=by omega
    rw[uz]
    simp only[h',decide_true,if_true,vP hi,GH,bv,sL hfu (hL _ (GW hi)) hx])
  (λfk=>by rw[uz,if_neg (by simp)]) fu (by omega)]
 cases l.any λy=>coll y x <;> simp [Out.on]
theorem qA (hfu:2097153<=fu) (p:Nh) (hB:cg p):bC fu p=some (x8 p):=by
 obtain⟨hN,hL,hR⟩:=hB;unfold bC x8;rw[jY hfu _ hN,GH];cases hn:cE p.Nq
 rfl;simp only[HW,GT,if_false,GH,HD];by_cases h12:p.Nk.length<=12;have h12':¬(p.Nk.length:Int) > 12:=by omega
 simp only[h12',decide_false,GT,if_false,h12,decide_true,HD];rw[nQ (l:=p.Nk) (G:=xH fu p) (bn p.Nq p.Nk) false (by omega)
  (λfk i hi hp=>by
    have h':(i:Int)<(p.Nk.length:Int):=by omega
    have hr:=hR _ (zx l0 hi)
    rw[xH]
    simp only[h',decide_true,if_true,xC l0 hi,GH,sp hfu _ _ hN hr,fZ (show i<=p.Nk.length by omega)]
    by_cases hl:bp p.Nq (gd p.Nk i l0)=true
    · have hf:=pm hn hl
      have hc:=pO hfu (p.Nk.take i) (gd p.Nk i l0) (by simp; omega) (λy hy=>pm hn (tO hi hp y hy)) hf
      simp only[bn,hl,HW,GT,if_false,hc,GH,Ip]
      by_cases h0:0<i
      · have h0':(i:Int) > 0:=by omega
        simp only[h0',h0,decide_true,if_true,fv h0 (show i<=2097152 by omega),xC l0 (show i - 1<p.Nk.length by omega),GH,HD]
        by_cases hid:(gd p.Nk (i - 1) l0).Id>=(gd p.Nk i l0).Id
        · simp [hid]
        · simp only[hid,decide_false,GT,if_false,Ip,GH]
      · have h0':¬(i:Int) > 0:=by omega
        simp only[h0',h0,decide_false,GT,if_false,I7,Ip,GH]
    · rw[Jd]at hl
      simp [bn,hl])
  (λfk=>by rw[xH,if_neg (by simp)]) fu (by omega)]
 cases (List.range p.Nk.length).any (bn p.Nq p.Nk) <;> rfl;have h12':(p.Nk.length:Int) > 12:=by omega
 simp [h12',h12]
theorem qh (hfu:2097153<=fu) (p:Nh) (hB:cg p):eq fu p=some (x8 p):=by
 obtain⟨hN,hL,hR⟩:=hB;unfold eq x8;rw[fM hfu _ hN,GH];cases hn:cE p.Nq
 · rfl
 · simp only[HW,GT,if_false,GH,HD]
   by_cases h12:p.Nk.length<=12
   · have h12':¬(p.Nk.length:Int) > 12:=by omega
     simp only[h12',decide_false,GT,if_false,h12,decide_true,HD]
     rw[nQ (l:=p.Nk) (G:=zk fu p) (bn p.Nq p.Nk) false (by omega)
      (λfk i hi hp=>by
        have h':(i:Int)<(p.Nk.length:Int):=by omega
        have hr:=hR _ (zx l0 hi)
        rw[zk]
        simp only[h',decide_true,if_true,xC l0 hi,GH,si hfu _ _ hN hn hr]
        by_cases hl:bp p.Nq (gd p.Nk i l0)=true
        · have hf:=pm hn hl
          have hc:yH fu p i fu 0=some (if (List.range (p.Nk.take i).length).any (λk=>coll (gd p.Nk k l0) (gd p.Nk i l0))=true then .ret false else .next ((p.Nk.take i).length:Int)) :=
           nQ (l:=p.Nk.take i) (G:=yH fu p i) (λk=>coll (gd p.Nk k l0) (gd p.Nk i l0)) false (by simp; omega)
            (λfk k hk _=>by
              have hk':k<i:=by simp at hk; omega
              have hk2:(k:Int)<(i:Int):=by omega
              have hfk:=pm hn (tO hi hp (gd p.Nk k l0) (by
               rw[aU l0 (show k<p.Nk.length by omega)]
               refine G4.2 ⟨k,hk,by rw[Hu]⟩))
              rw[yH]
              simp only[hk2,decide_true,if_true,xC l0 hi,xC l0 (show k<p.Nk.length by omega),GH,pq hfu hfk hf])
            (λfk=>by
              have:(p.Nk.take i).length=i:=by simp; omega
              rw[this,yH,if_neg (by simp)]) fu (by simp; omega)
          have ha:(List.range (p.Nk.take i).length).any (λk=>coll (gd p.Nk k l0) (gd p.Nk i l0))=(p.Nk.take i).any λy=>coll y (gd p.Nk i l0):=by
           rw[HB,G5,G5]
           constructor
           · rintro⟨k,k1,k2⟩
             have k1':=Hv.1 k1
             have hk':k<i:=by simp at k1'; omega
             rw[aU l0 (show k<p.Nk.length by omega)]at k2
             exact⟨_,G4.2 ⟨k,k1',by rw[Hu]⟩,k2⟩
           · rintro⟨y,y1,y2⟩
             obtain⟨k,k1,rfl⟩:=G4.1 y1
             have hk':k<i:=by simp at k1; omega
             refine⟨k,Hv.2 k1,?_⟩
             rw[aU l0 (show k<p.Nk.length by omega)]
             rw[Hu]at y2
             exact y2
          rw[ha]at hc
          simp only[bn,hl,HW,GT,if_false,hc,GH,Ip]
          by_cases h0:0<i
          · have h0':(i:Int) > 0:=by omega
            simp only[h0',h0,decide_true,if_true,fv h0 (show i<=2097152 by omega),xC l0 (show i - 1<p.Nk.length by omega),GH,HD]
            by_cases hid:(gd p.Nk (i - 1) l0).Id>=(gd p.Nk i l0).Id
            · simp [hid]
            · simp only[hid,decide_false,GT,if_false,Ip,GH]
              cases (p.Nk.take i).any λy=>coll y (gd p.Nk i l0) <;> rfl
          · have h0':¬(i:Int) > 0:=by omega
            simp only[h0',h0,decide_false,GT,if_false,I7,Ip,GH]
            cases (p.Nk.take i).any λy=>coll y (gd p.Nk i l0) <;> rfl
        · rw[Jd]at hl
          simp [bn,hl])
      (λfk=>by rw[zk,if_neg (by simp)]) fu (by omega)]
     cases (List.range p.Nk.length).any (bn p.Nq p.Nk) <;> rfl
   · have h12':(p.Nk.length:Int) > 12:=by omega
     simp [h12',h12]
structure PlanF (p:Nh):Prop where
 net:cE p.Nq=true
 short:p.Nk.length<=12
 light:∀x∈p.Nk,LightF p.Nq x
theorem lC {p:Nh} (h:x8 p=true):PlanF p:=by
 unfold x8 at h;simp only[GP,decide_eq_true_eq,Hk]at h;obtain⟨h1,h2,h3⟩:=h;refine⟨h1,h2,λx hx=>?_⟩;obtain⟨i,hi,rfl⟩:=G4.1 hx;rw[G7]at h3;have h6:bn p.Nq p.Nk i=false:=by
  rw[G7]
  intro h7
  exact h3 (G5.2 ⟨i,Hv.2 hi,h7⟩)
 unfold bn at h6;rw[HU,aU l0 hi]at h6;exact pm h1 (by simpa using h6.1)
end
section
def MK (m:Int):Prop:=0<=m/\m<16777216
theorem jr {m:Int} (h:MK m):(BitVec.ofInt 64 m).toNat=m.toNat:=by
 rw[BitVec.toNat_ofInt];have:((2 ^ 64:Nat):Int)=18446744073709551616:=by decide
 rw[this];unfold MK at h;omega
variable {a b:Int}
theorem kc (ha:MK a) (hb:MK b):band a b=((a.toNat &&& b.toNat:Nat):Int):=by
 unfold band;rw[BitVec.toNat_and,jr ha,jr hb];have h1:a.toNat &&& b.toNat<2 ^ 24:=Nat.and_lt_two_pow _ (by unfold MK at hb; omega);exact va (by omega) (by omega)
theorem BV (ha:MK a) (hb:MK b):Z1 a b=((a.toNat ||| b.toNat:Nat):Int):=by
 unfold Z1;rw[BitVec.toNat_or,jr ha,jr hb];have h1:a.toNat ||| b.toNat<2 ^ 24:=Nat.or_lt_two_pow (by unfold MK at ha; omega) (by unfold MK at hb; omega)
 exact va (by omega) (by omega)
theorem Aa (ha:MK a) (hb:MK b):MK (Z1 a b):=by
 rw[BV ha hb];have h1:a.toNat ||| b.toNat<2 ^ 24:=Nat.or_lt_two_pow (by unfold MK at ha; omega) (by unfold MK at hb; omega)
 unfold MK;omega
theorem mk0:MK 0:=by unfold MK; omega
def apart (a b:Int):Bool:=band a b==0
theorem pW {c:Int} (ha:MK a) (hb:MK b) (hc:MK c):apart (Z1 a b) c=(apart a c&&apart b c):=by
 unfold apart;rw[kc (Aa ha hb) hc,kc ha hc,kc hb hc,BV ha hb,Hh,Nat.and_or_distrib_right];rw[HB];simp only[beq_iff_eq,GP,Int.natCast_eq_zero,Nat.or_eq_zero_iff]
theorem ny {c:Int} (hc:MK c):apart 0 c=true:=by
 unfold apart;rw[kc mk0 hc];simp
theorem qH {b:Nj} (h:yY b=true):MK (bits b):=nu h
theorem bits_nat {b:Nj} (h:yY b=true):(bits b).toNat=(2 ^ b.Pz.toNat - 1) * 2 ^ b.Pk.toNat:=by
 have h1:1<=(2:Nat) ^ b.Pz.toNat:=Nat.one_le_two_pow;have:bits b=(((2 ^ b.Pz.toNat - 1) * 2 ^ b.Pk.toNat:Nat):Int):=by
  unfold bits
  rw[Int.natCast_mul,Int.natCast_sub h1]
  norm_cast
 rw[this,Hh]
theorem Ac {b:Nj} (h:yY b=true) (j:Nat):(bits b).toNat.testBit j=(decide (b.Pk.toNat<=j)&&decide (j - b.Pk.toNat<b.Pz.toNat)):=by
 rw[bits_nat h,Nat.testBit_mul_two_pow,Nat.testBit_two_pow_sub_one]
theorem sc (a b:d_):meets a b=meets b a:=by
 rw[HB];unfold meets;simp only[G5,beq_iff_eq];constructor;rintro⟨x,hx,y,hy,rfl⟩; exact⟨y,hy,y,hx,rfl⟩;rintro⟨x,hx,y,hy,rfl⟩; exact⟨y,hy,y,hx,rfl⟩
def has (l:d_) (f:Int):Bool:=l.any λx=>x==f
def used (L:List Nx) (f:Int):Int:=L.foldl (λo y=>if has y.Nz.Nw f=true then Z1 o (bits y.Nj) else o) 0
def along (L:List Nx) (fs:d_):Int:=fs.foldl (λo f=>Z1 o (used L f)) 0
variable {L:List Nx}
theorem oI (hL:∀y∈L,yY y.Nj=true) (f:Int) {c:Int} (hc:MK c):∀{o:Int},MK o->MK (L.foldl (λo y=>if has y.Nz.Nw f=true then Z1 o (bits y.Nj) else o) o)/\apart (L.foldl (λo y=>if has y.Nz.Nw f=true then Z1 o (bits y.Nj) else o) o) c=(apart o c&&L.all λy=>!has y.Nz.Nw f||apart (bits y.Nj) c):=by
 induction L with
 | nil=>intro o ho; exact⟨ho,by simp⟩
 | cons y L ih =>
  intro o ho
  have hb:=qH (hL y (by simp))
  have ih':=@ih (λz hz=>hL z (by simp [hz]))
  simp only[HO,Jn]
  by_cases h:has y.Nz.Nw f=true
  · simp only[h,if_true,HW,Ip]
    have:=ih' (Aa ho hb)
    rw[pW ho hb hc]at this
    exact⟨this.1,by rw[this.2,J2]⟩
  · rw[Jd]at h
    simp only[h,GT,if_false,Bool.not_false,JX,HD]
    exact ih' ho
theorem BZ (hL:∀y∈L,yY y.Nj=true) (f:Int):MK (used L f):=(oI hL f mk0 mk0).1
theorem rH (hL:∀y∈L,yY y.Nj=true) (f:Int) {c:Int} (hc:MK c):apart (used L f) c=L.all λy=>!has y.Nz.Nw f||apart (bits y.Nj) c:=by
 have:=(oI hL f hc mk0).2;rw[ny hc,HD]at this;exact this
theorem ke {L:List Nx} (hL:∀y∈L,yY y.Nj=true) {c:Int} (hc:MK c):∀(fs:d_) {o:Int},MK o->MK (fs.foldl (λo f=>Z1 o (used L f)) o)/\apart (fs.foldl (λo f=>Z1 o (used L f)) o) c=(apart o c&&fs.all λf=>apart (used L f) c)
 | [],o,ho=>⟨ho,by simp⟩
 | f::fs,o,ho=>by
  have hu:=BZ hL f
  have:=ke hL hc fs (Aa ho hu)
  rw[pW ho hu hc]at this
  simp only[HO,Jn]
  exact⟨this.1,by rw[this.2,J2]⟩
theorem lc (hL:∀y∈L,yY y.Nj=true) (fs:d_):MK (along L fs):=(ke hL mk0 fs mk0).1
theorem qL (hL:∀y∈L,yY y.Nj=true) (fs:d_) {c:Int} (hc:MK c):apart (along L fs) c=L.all λy=>!(meets y.Nz.Nw fs&&!apart (bits y.Nj) c):=by
 have h:=(ke hL hc fs mk0).2;rw[ny hc,HD]at h;unfold along;rw[h,HB];simp only[HH,rH hL _ hc,Ii,Hk,Jv,IX];constructor;intro hh y hy;rcases JP (meets y.Nz.Nw fs) with hm | hm
 right;unfold meets at hm;simp only[G5,beq_iff_eq]at hm;obtain⟨x,hx,z,hz,rfl⟩:=hm;rcases hh z hz y hy with h1 | h1
 unfold has at h1;rw[G7]at h1;exact absurd (G5.2 ⟨z,hx,by simp⟩) h1;exact h1;exact .inl hm;intro hh f hf y hy;rcases hh y hy with h1 | h1
 left;rw[G7]at h1 ⊢;intro h2;unfold has at h2;simp only[G5,beq_iff_eq]at h2;obtain⟨x,hx,rfl⟩:=h2;exact h1 (G5.2 ⟨x,hx,G5.2 ⟨x,hf,by simp⟩⟩);exact .inr h1
end
section
theorem ta {fu:Nat} (hfu:2097153<=fu) (p:Nh) (f:Int) (hl:p.Nk.length<=2097152) (hb:∀y∈p.Nk,yY y.Nj=true) (hr:∀x∈p.Nk,x.Nz.Nw.length<=2097152):∀(fk i:Nat) (o:Int),i<=p.Nk.length->p.Nk.length - i<fk ->
 ∃z,zj fu p f fk o i=some ((p.Nk.drop i).foldl (λo y=>if has y.Nz.Nw f=true then Z1 o (bits y.Nj) else o) o,z):=by
 intro fk;induction fk with
 | zero=>intro i _ _ h; omega
 | succ fk ih =>
  intro i o hi hk
  rw[zj]
  by_cases h:i<p.Nk.length
  · have h':(i:Int)<(p.Nk.length:Int):=by omega
    have hm:=GW h
    have hr':=hr _ hm
    simp only[h',decide_true,if_true,vP h,GH,iv _ f (show p.Nk[i].Nz.Nw.length<fu by omega) hr',gY (hb _ hm)]
    rw[<-GU h,HO,vV h (by omega)]
    have e:(p.Nk[i].Nz.Nw.any λx=>x==f)=has p.Nk[i].Nz.Nw f:=rfl
    rw[e]
    by_cases hc:has p.Nk[i].Nz.Nw f=true
    · rw[if_pos hc,if_pos hc]
      exact ih (i + 1) _ h (by omega)
    · rw[if_neg hc,if_neg hc]
      exact ih (i + 1) _ h (by omega)
  · obtain rfl:i=p.Nk.length:=by omega
    rw[if_neg (by simp),Hg]
    exact⟨_,rfl⟩
theorem wu {fu:Nat} (hfu:2097153<=fu) (p:Nh) (f:Int) (hl:p.Nk.length<=2097152) (hb:∀y∈p.Nk,yY y.Nj=true) (hr:∀x∈p.Nk,x.Nz.Nw.length<=2097152):ep fu p f=some (used p.Nk f):=by
 unfold ep;obtain⟨z,hz⟩:=ta hfu p f hl hb hr fu 0 0 (by omega) (by omega);rw[show ((0:Nat):Int)=0 from rfl,He]at hz;rw[hz];rfl
end
section
theorem d7 {α:Type} {l:List α} (h:l.length<=1099511627776):M_ ([]:List α) l=some l:=by rw[yw (by simpa using h)]; rfl
theorem jx (fu:Nat) (x:Nx) (h:x.Nz.Nw.length<=2097152):bS fu x=some x:=by
 unfold bS cL bE;rw[d7 (by omega)];rfl
variable {fu:Nat}
theorem AJ (p:Nh) (hl:p.Nk.length<=2097152) (hr:∀x∈p.Nk,x.Nz.Nw.length<=2097152):∀(fk i:Nat) (m:List Nx),i<=p.Nk.length->p.Nk.length - i<fk->m.length<=i->∃z,aY fu p fk i m=some (z,m++p.Nk.drop i):=by
 intro fk;induction fk with
 | zero=>intro i _ _ h; omega
 | succ fk ih =>
  intro i m hi hk hm
  rw[aY]
  by_cases h:i<p.Nk.length
  · have h':(i:Int)<(p.Nk.length:Int):=by omega
    simp only[h',decide_true,if_true,vP h,GH,jx fu _ (hr _ (GW h))]
    rw[yw (by simp; omega),GH,vV h (by omega)]
    obtain⟨z,hz⟩:=ih (i + 1) (m++[p.Nk[i]]) h (by omega) (by simp; omega)
    refine⟨z,?_⟩
    rw[hz,GN,<-GU h]
    rfl
  · obtain rfl:i=p.Nk.length:=by omega
    rw[if_neg (by simp),Hg,G8]
    exact⟨_,rfl⟩
theorem jw (hfu:2097153<=fu) (p:Nh) (hB:cg p):cK fu p=some p:=by
 obtain⟨hN,hL,hR⟩:=hB;unfold cK ip;have h1:=hN.1.1;have h2:=hN.2;rw[d7 (by omega),GH,d7 (by omega)];obtain⟨z,hz⟩:=AJ (fu:=fu) p hL hR fu 0 [] (by omega) (by omega) (by simp);rw[show ((0:Nat):Int)=0 from rfl]at hz;simp only[GH,hz,Hi,He]
theorem sV (hfu:2097153<=fu) (p:Nh) (r:Nz) (hl:p.Nk.length<=2097152) (hb:∀y∈p.Nk,yY y.Nj=true) (hr:∀x∈p.Nk,x.Nz.Nw.length<=2097152) (hrl:r.Nw.length<=2097152):∀(fk i:Nat) (o:Int),i<=r.Nw.length->r.Nw.length - i<fk ->
 ∃z,zA fu p r fk o i=some ((r.Nw.drop i).foldl (λo f=>Z1 o (used p.Nk f)) o,z):=by
 intro fk;induction fk with
 | zero=>intro i _ _ h; omega
 | succ fk ih =>
  intro i o hi hk
  rw[zA]
  by_cases h:i<r.Nw.length
  · have h':(i:Int)<(r.Nw.length:Int):=by omega
    simp only[h',decide_true,if_true,vP h,GH,wu hfu p _ hl hb hr]
    rw[<-GU h,HO,vV h (by omega)]
    exact ih (i + 1) _ h (by omega)
  · obtain rfl:i=r.Nw.length:=by omega
    rw[if_neg (by simp),Hg]
    exact⟨_,rfl⟩
theorem it (hfu:2097153<=fu) (p:Nh) (r:Nz) (hl:p.Nk.length<=2097152) (hb:∀y∈p.Nk,yY y.Nj=true) (hr:∀x∈p.Nk,x.Nz.Nw.length<=2097152) (hrl:r.Nw.length<=2097152):zZ fu p r=some (along p.Nk r.Nw):=by
 unfold zZ;obtain⟨z,hz⟩:=sV hfu p r hl hb hr hrl fu 0 0 (by omega) (by omega);rw[show ((0:Nat):Int)=0 from rfl,He]at hz;rw[hz];rfl
def fits (m C:Int):d_:=((List.range' 0 (25 - C.toNat)).filter λt:Nat=>apart m (bits ⟨(t:Int),C⟩)).map λt:Nat=>(t:Int)
theorem wP (m C:Int) (N:Nat) (hN:(N:Int) + C=25) (h1:1<=C):∀(fk k s:Nat) (out:d_),N=s + k->k<fk->out.length<=s ->
 ∃z,zl fu m C fk out s=some (out++(((List.range' s k).filter λt:Nat=>apart m (bits ⟨(t:Int),C⟩)).map λt:Nat=>(t:Int)),z):=by
 intro fk;induction fk with
 | zero=>intro k s _ _ h; omega
 | succ fk ih =>
  intro k s out hs hk ho
  have hw0:y_ ((s:Int) + C)=(s:Int) + C:=va (by omega) (by omega)
  rw[zl,hw0]
  clear hw0
  cases k with
  | zero =>
   have h':¬(s:Int) + C<=24:=by omega
   simp only[h',decide_false,GT,if_false,List.range'_zero,J0,IH,G8]
   exact⟨_,rfl⟩
  | succ k =>
   have h':(s:Int) + C<=24:=by omega
   have hb:yY ⟨(s:Int),C⟩=true:=by simp only[yY,GP,decide_eq_true_eq]; omega
   obtain⟨c,hc⟩:∃c,apart m (bits ⟨(s:Int),C⟩)=c:=⟨_,rfl⟩
   obtain⟨b,hb1,hb2⟩:∃b,zD fu ⟨(s:Int),C⟩=some b/\(band m b==0)=c:=⟨_,gY hb,hc⟩
   have hw:y_ ((s:Int) + 1)=((s + 1:Nat):Int):=by rw[va (by omega) (by omega)]; omega
   rw[List.range'_succ,Jx,hc,hb1]
   clear hb1 hc hb
   rw[if_pos (by simpa using h'),GH,hb2,hw]
   clear hw hb2
   cases c
   · rw[if_neg (by decide),if_neg (by decide)]
     exact ih k (s + 1) out (by omega) (by omega) (by omega)
   · have ha:M_ out [(s:Int)]=some (out++[(s:Int)]):=yw (by simp; omega)
     rw[if_pos rfl,if_pos rfl,ha,GH]
     obtain⟨z,hz⟩:=ih k (s + 1) (out++[(s:Int)]) (by omega) (by omega) (by simp; omega)
     exact⟨z,by rw[hz,HX,GN,HY]⟩
theorem lJ (hfu:2097153<=fu) (m C:Int) (h1:1<=C) (h2:C<=24):cD fu m C=some (fits m C):=by
 unfold cD fits;obtain⟨N,hN⟩:∃N,N=25 - C.toNat:=⟨_,rfl⟩;rw[<-hN];obtain⟨z,hz⟩:=wP (fu:=fu) m C N (by omega) h1 fu N 0 [] (by omega) (by omega) (by simp);rw[show ((0:Nat):Int)=0 from rfl]at hz;rw[hz];rfl
theorem kX {m C:Int} {s:Int} (h1:1<=C) (h2:C<=24):s∈fits m C↔0<=s/\s + C<=24/\apart m (bits ⟨s,C⟩)=true:=by
 unfold fits;simp only[Hy,J1,List.mem_range'_1];constructor;rintro⟨t,⟨⟨-,ht⟩,ha⟩,rfl⟩;exact⟨by omega,by omega,ha⟩;rintro⟨h0,h3,ha⟩;refine⟨s.toNat,⟨⟨by omega,by omega⟩,?_⟩,by omega⟩;rw[HG h0];exact ha
theorem ol (m C:Int):(fits m C).length<=25:=by
 unfold fits;rw[Hn];refine HS (Jw _ _) ?_;rw[List.length_range'];omega
structure PlanI (p:Nh):Prop where
 ids:∀i j,i<j->j<p.Nk.length->(gd p.Nk i l0).Id<(gd p.Nk j l0).Id
theorem CI {p:Nh} (h:x8 p=true):PlanI p:=by
 unfold x8 at h;simp only[GP,decide_eq_true_eq,Hk]at h;obtain⟨h1,h2,h3⟩:=h;rw[G7]at h3;have adj:∀j,0<j->j<p.Nk.length->(gd p.Nk (j - 1) l0).Id<(gd p.Nk j l0).Id:=λj h0 hj=>by
  have h6:bn p.Nq p.Nk j=false:=by
   rw[G7]
   intro h7
   exact h3 (G5.2 ⟨j,Hv.2 hj,h7⟩)
  unfold bn at h6
  rw[HU,HU]at h6
  have:=h6.2.1
  simp only[h0,decide_true,HD,decide_eq_false_iff_not]at this
  omega
 refine⟨λi j=>?_⟩;induction j with
 | zero=>intro h; omega
 | succ j ih =>
  intro hij hj
  have:=adj (j + 1) (by omega) hj
  rw[Jq]at this
  rcases Iy i j with h' | h'
  · have:=ih h' (by omega)
    omega
  · obtain rfl:i=j:=by omega
    exact this
end
section
theorem yA {p:Nh}:x8 p=true↔cE p.Nq=true/\p.Nk.length<=12/\(∀x∈p.Nk,bp p.Nq x=true)/\p.Nk.Pairwise (λa b=>a.Id<b.Id/\coll a b=false):=by
 constructor;intro h;have hI:=CI h;have h':=h;unfold x8 at h;simp only[GP,decide_eq_true_eq,Hk]at h;obtain⟨h1,h2,h3⟩:=h;have hb:∀j,j<p.Nk.length->bn p.Nq p.Nk j=false:=λj hj=>by
  rw[G7]
  intro h7
  rw[G7]at h3
  exact h3 (G5.2 ⟨j,Hv.2 hj,h7⟩)
 refine⟨h1,h2,λx hx=>?_,HM.2 λi j hi hj hij=>⟨?_,?_⟩⟩;obtain⟨i,hi,rfl⟩:=G4.1 hx;have:=hb i hi;unfold bn at this;rw[HU,aU l0 hi]at this;simpa using this.1;have:=hI.ids i j hij hj;rwa [aU l0 hi,aU l0 hj]at this;have:=hb j hj;unfold bn at this;rw[HU,HU,aU l0 hj]at this;rw[G7];intro hc;have h5:=this.2.2;rw[G7]at h5;exact h5 (G5.2 ⟨p.Nk[i],G4.2 ⟨i,by rw[GO]; omega,by rw[Hu]⟩,hc⟩);rintro⟨h1,h2,h3,h4⟩;rw[HM]at h4;unfold x8;simp only[GP,decide_eq_true_eq,Hk];refine⟨h1,h2,?_⟩;rw[G7];intro h;obtain⟨j,hj,hb⟩:=G5.1 h;have hj':=Hv.1 hj;unfold bn at hb;rw[Ii,Ii,aU l0 hj',h3 _ (GW hj')]at hb;rcases hb with hb | hb | hb
 cases hb;simp only[GP,decide_eq_true_eq]at hb;rw[aU l0 (show j - 1<p.Nk.length by omega)]at hb;have:=(h4 (j - 1) j (by omega) hj' (by omega)).1;omega;obtain⟨y,hy,hc⟩:=G5.1 hb;obtain⟨i,hi,rfl⟩:=G4.1 hy;rw[GO]at hi;rw[Hu,(h4 i j (by omega) hj' (by omega)).2]at hc;cases hc
end
section
def atId (L:List Nx) (id:Int):Nat:=L.findIdx λy=>y.Id==id
theorem qI {L:List Nx} {id:Int} (h:(L.any λy=>y.Id==id)=true):atId L id<L.length:=by
 unfold atId;rw[List.findIdx_lt_length];obtain⟨x,hx,hc⟩:=G5.1 h;exact⟨x,hx,hc⟩
theorem wv {fu:Nat} (p:Nh) (id:Int) (h:p.Nk.length<fu) (hn:p.Nk.length<=2097152):f8 fu p id=some (if p.Nk.any (λy=>y.Id==id) then ((atId p.Nk id:Nat):Int) else -1):=by
 unfold f8;rw[yP (l:=p.Nk) (G:=co fu p id) (λy=>y.Id==id) (λi=>(i:Int)) (by omega)
  (λfk i hi=>by
    have h':(i:Int)<(p.Nk.length:Int):=by omega
    rw[co]
    simp only[h',decide_true,if_true,vP hi,GH])
  (λfk=>by rw[co,if_neg (by simp)]) fu h]
 unfold atId;cases p.Nk.any λy=>y.Id==id <;> rfl
theorem sg {fu:Nat} (p:Nh) (id:Int) (h:p.Nk.length<fu) (hn:p.Nk.length<=2097152):dV fu p id=some (if p.Nk.any (λy=>y.Id==id) then ((atId p.Nk id:Nat):Int) else -1):=by
 unfold dV vh;rw[yP (l:=p.Nk) (G:=uG fu p.Nk id) (λy=>y.Id==id) (λi=>(i:Int)) (by omega)
  (λfk i hi=>by
    have h':(i:Int)<(p.Nk.length:Int):=by omega
    rw[uG]
    simp only[h',decide_true,if_true,vP hi,GH,dh])
  (λfk=>by rw[uG,if_neg (by simp)]) fu h]
 unfold atId;cases p.Nk.any λy=>y.Id==id <;> rfl
end
section
variable {G:Nat->Int->Option Int}
theorem wQ {α:Type} {l:List α} (p:α->Bool) (hn:(l.length:Int)<=9223372036854775807)
 (hG:∀fk (i:Nat) (h:i<l.length),G (fk + 1) i=if p l[i]=true then some (i:Int) else G fk (y_ ((i:Int) + 1)))
 (hz:∀fk,G (fk + 1) l.length=some (l.length:Int)):∀(fk i:Nat),l.length - i<fk->i<=l.length->G fk i=some ((i + (l.drop i).findIdx p:Nat):Int):=by
 intro fk;induction fk with
 | zero=>intro i h; omega
 | succ fk ih =>
  intro i hk hi
  by_cases h:i<l.length
  · rw[hG fk i h,<-GU h,JL]
    by_cases hp:p l[i]=true
    · simp [hp]
    · simp only[hp,GT,if_false,cond_false]
      rw[vV h hn,ih (i + 1) (by omega) h]
      congr 2
      omega
  · obtain rfl:i=l.length:=by omega
    rw[hz,Hg]; rfl
theorem AX {α:Type} {l:List α} (p:α->Bool) (hn:(l.length:Int)<=9223372036854775807)
 (hG:∀fk (i:Nat) (h:i<l.length),G (fk + 1) i=if p l[i]=true then some (i:Int) else G fk (y_ ((i:Int) + 1)))
 (hz:∀fk,G (fk + 1) l.length=some (l.length:Int)) (fk:Nat) (hk:l.length<fk):G fk 0=some ((l.findIdx p:Nat):Int):=by
 have:=wQ p hn hG hz fk 0 (by omega) (by omega);simpa using this
def gp (L:List Nx) (id:Int):Nat:=L.findIdx λy=>!decide (y.Id<id)
def putL (L:List Nx) (x:Nx):List Nx:=L.take (gp L x.Id)++x::L.drop (gp L x.Id)
theorem kW (L:List Nx) (id:Int):gp L id<=L.length:=List.findIdx_le_length
theorem kQ (L:List Nx) (x:Nx):(putL L x).length=L.length + 1:=by
 have:=kW L x.Id;unfold putL;rw[GL,Hq,GO,Hd];omega
variable {L:List Nx}
theorem gm {x y:Nx}:y∈putL L x↔y=x∨y∈L:=by
 unfold putL;rw[GI,Hf];constructor;rintro (h | h | h)
 exact .inr (JB h);exact .inl h;exact .inr (I9 h);rintro (h | h)
 exact .inr (.inl h);rw[<-Ha (gp L x.Id) L,GI]at h;rcases h with h | h
 exact .inl h;exact .inr (.inr h)
theorem ml {id:Int} (h:(L.any λy=>y.Id==id)=true):(gd L (atId L id) l0).Id=id:=by
 have hl:=qI h;rw[aU l0 hl];have:=List.findIdx_getElem (w:=hl);rw[beq_iff_eq]at this;exact this
end
section
theorem ku (fu:Nat) (r:Nz) (h:r.Nw.length<=2097152):bK fu r=some r:=by
 unfold bK;rw[d7 (by omega)];rfl
theorem wV {fu:Nat} (p:Nh) (hl:p.Nk.length<=2097152) (hr:∀x∈p.Nk,x.Nz.Nw.length<=2097152):∀(fk i:Nat) (m:List Nx),i<=p.Nk.length->p.Nk.length - i<fk->m.length<=i->∃z,yX fu p fk i m=some (z,m++p.Nk.drop i):=by
 intro fk;induction fk with
 | zero=>intro i _ _ h; omega
 | succ fk ih =>
  intro i m hi hk hm
  rw[yX]
  by_cases h:i<p.Nk.length
  · have h':(i:Int)<(p.Nk.length:Int):=by omega
    simp only[h',decide_true,if_true,vP h,GH,ku fu _ (hr _ (GW h))]
    rw[yw (by simp; omega),GH,vV h (by omega)]
    obtain⟨z,hz⟩:=ih (i + 1) (m++[p.Nk[i]]) h (by omega) (by simp; omega)
    refine⟨z,?_⟩
    rw[hz,GN,<-GU h]
    rfl
  · obtain rfl:i=p.Nk.length:=by omega
    rw[if_neg (by simp),Hg,G8]
    exact⟨_,rfl⟩
theorem gw {fu:Nat} (hfu:2097153<=fu) (p:Nh) (hB:cg p):bu fu p=some p:=by
 obtain⟨hN,hL,hR⟩:=hB;unfold bu cC;have h1:=hN.1.1;have h2:=hN.2;rw[d7 (by omega),GH,d7 (by omega)];obtain⟨z,hz⟩:=wV (fu:=fu) p hL hR fu 0 [] (by omega) (by omega) (by simp);rw[show ((0:Nat):Int)=0 from rfl]at hz;simp only[GH,hz,Hi,He]
theorem nl {α:Type} {l:List α} {i j:Nat} {x d:α}:gd (l.set i x) j d=if i=j/\j<l.length then x else gd l j d:=by
 unfold gd;rw[JN];by_cases h:i=j;subst h;by_cases h':i<l.length;simp [h'];simp [h'];simp [h]
end
section
def addP (p:Nh) (x:Nx):Nh:={ Nq:=p.Nq,Nk:=putL p.Nk x }
theorem nk (L:List Nx) (id:Int) (G:Nat->Int->Option Int) (hl:L.length<=2097152) (hG:∀fk i,G (fk + 1) i=((if decide (i<(L.length:Int))=true then (V_ L i).bind λe=>some (decide (e.Id<id)) else some false).bind λc=>if c=true then G fk (y_ (i + 1)) else some i)) (fu:Nat) (hfu:2097153<=fu):G fu 0=some ((gp L id:Nat):Int) :=
 AX (l:=L) (G:=G) (λy=>!decide (y.Id<id)) (by omega)
  (λfk i hi=>by
    have h':(i:Int)<(L.length:Int):=by omega
    rw[hG]
    simp only[h',decide_true,if_true,vP hi,GH]
    by_cases hc:L[i].Id<id <;> simp [hc])
  (λfk=>by rw[hG]; simp) fu (by omega)
theorem nZ {fu:Nat} (hfu:2097153<=fu) (p:Nh) (x:Nx) (hB:cg p) (hx:x.Nz.Nw.length<=2097152):bD fu p x=some (addP p x):=by
 have hl:=hB.2.1;have hi:=kW p.Nk x.Id;unfold bD;rw[jw hfu p hB,GH,nk p.Nk x.Id (aW fu x p) hl (λfk i=>by rw[aW]) fu hfu,GH,fZ hi,GH];have hs:sub p.Nk ((gp p.Nk x.Id:Nat):Int) (p.Nk.length:Int)=some (p.Nk.drop (gp p.Nk x.Id)):=by
  unfold sub
  rw[if_pos (by omega)]
  simp
 rw[hs,GH,d7 (by rw[GO]; omega),GH,jx fu x hx,GH,yw (by rw[GO,GY]; omega),GH,yw (by rw[GL,GO,GY,Hd]; omega),GH,GN,HY];rfl
theorem oF {fu:Nat} (hfu:2097153<=fu) (p:Nh) (x:Nx) (hB:cg p) (hx:x.Nz.Nw.length<=2097152):ct fu p x=some (addP p x):=by
 have hl:=hB.2.1;have hi:=kW p.Nk x.Id;unfold ct;rw[gw hfu p hB,GH,nk p.Nk x.Id (yB fu p x) hl (λfk i=>by rw[yB]) fu hfu,GH,ku fu _ hx,GH];have hs:insl p.Nk ((gp p.Nk x.Id:Nat):Int) [({ Id:=x.Id,Nz:=x.Nz,Nj:=x.Nj }:Nx)]=some (putL p.Nk x):=by
  unfold insl
  rw[if_pos (by rw[GY]; omega),Hh]
  rfl
 rw[hs,GH];rfl
def BY:Nh:=⟨⟨[],[]⟩,[]⟩
theorem Ey {p:Nh} {x:Nx} (hB:cg p) (hs:p.Nk.length<=12) (hx:x.Nz.Nw.length<=2097152):cg (addP p x):=by
 refine⟨hB.1,?_,λy hy=>?_⟩;show (putL p.Nk x).length<=2097152;rw[kQ]; omega;rcases gm.1 hy with rfl | h
 exact hx;exact hB.2.2 y h
end
section
theorem ox (a b:Nx):coll a b=(meets a.Nz.Nw b.Nz.Nw&&!apart (bits a.Nj) (bits b.Nj)):=by
 unfold coll apart;rw[bne]
theorem sQ (a b:Int):apart a b=apart b a:=by
 unfold apart band;rw[BitVec.and_comm]
theorem pQ (a b:Nx):coll a b=coll b a:=by
 rw[ox,ox,sc,sQ (bits a.Nj)]
def jC (H:List Nx) (id:Int):Nx:=gd H (atId H id) l0
def hasL (L:List Nx) (id:Int):Bool:=L.any λy=>y.Id==id
def CZ (L:List Nx) (x:Nx):Bool:=!(L.any λown=>own.Id != x.Id&&coll own x)
def BP (D:d_) (H L:List Nx) (id:Int):Bool:=hasL L id&&(!decide (gd L (atId L id) l0=jC H id)&&(!meets (jC H id).Nz.Nw D&&CZ L (jC H id)))
def rev1 (D:d_) (H:List Nx) (s:List Nx×d_) (id:Int):List Nx×d_:=if BP D H s.1 id=true then (s.1.set (atId s.1 id) (jC H id),s.2++[id]) else s
def rev (D:d_) (H:List Nx) (l:d_) (s:List Nx×d_):List Nx×d_:=l.foldl (rev1 D H) s
def idsL (L:List Nx):d_:=L.map (·.Id)
variable {L H:List Nx}
theorem rr {id:Int}:hasL L id=true↔id∈idsL L:=by
 unfold hasL idsL;rw[G5,Hy];constructor;rintro⟨x,hx,h⟩; exact⟨x,hx,by simpa using h⟩;rintro⟨x,hx,h⟩; exact⟨x,hx,by simpa using h⟩
theorem AU {id:Int} (h:hasL H id=true):(jC H id).Id=id:=ml h
theorem wJ {id:Int} (h:hasL H id=true):jC H id∈H:=zx l0 (qI h)
theorem AS {i:Nat} {x:Nx} (h:i<L.length) (hx:x.Id=(gd L i l0).Id):idsL (L.set i x)=idsL L:=by
 unfold idsL;rw[List.map_set,hx,aU l0 h];refine IE (by simp) λj h1 h2=>?_;rw[JS];split
 rename_i e; subst e; simp;rfl
theorem AW {M:List Nx} (h:idsL L=idsL M) (id:Int):hasL L id=hasL M id:=by
 rw[HB,rr,rr,h]
structure RvI (N:Nq) (D:d_) (H L0:List Nx) (s:List Nx×d_):Prop where
 ok:x8 ⟨N,s.1⟩=true
 ids:idsL s.1=idsL L0
 old:∀i,i<L0.length->(gd L0 i l0).Id∉s.2->gd s.1 i l0=gd L0 i l0
 new:∀i,i<L0.length->(gd L0 i l0).Id∈s.2->gd s.1 i l0=jC H (gd L0 i l0).Id/\meets (gd s.1 i l0).Nz.Nw D=false
variable {N:Nq} {D:d_} {L0:List Nx} {s:List Nx×d_}
theorem wK {i:Nat} (h:i<L.length):(gd L i l0).Id=gd (idsL L) i 0:=by
 unfold idsL;rw[aU l0 h,aU 0 (by simpa using h),IF]
theorem rq (L:List Nx):(idsL L).length=L.length:=by simp [idsL]
theorem RvI.len (h:RvI N D H L0 s):s.1.length=L0.length:=by
 rw[<-rq,h.ids,rq]
theorem RvI.id (h:RvI N D H L0 s) {i:Nat} (hi:i<L0.length):(gd s.1 i l0).Id=(gd L0 i l0).Id:=by
 rw[wK (by rw[h.len]; exact hi),wK hi,h.ids]
theorem Do (hp:x8 ⟨N,L⟩=true) {j:Nat} (hj:j<L.length) {y:Nx} (hy:bp N y=true) (hid:y.Id=(gd L j l0).Id) (hf:CZ L y=true):x8 ⟨N,L.set j y⟩=true:=by
 obtain⟨n1,n2,n3,n4⟩:=yA.1 hp;have hI:=CI hp;have hyc:∀i,i<L.length->i≠j->coll (gd L i l0) y=false:=by
  intro i hi hij
  have hne:(gd L i l0).Id≠(gd L j l0).Id:=by
   rcases JI hij with h | h
   · have:=hI.ids i j h hj; simp only at this; omega
   · have:=hI.ids j i h hi; simp only at this; omega
  unfold CZ at hf
  rw[Hk,G7]at hf
  rw[G7]
  intro hc
  refine hf (G5.2 ⟨_,zx l0 hi,?_⟩)
  rw[hc,Ka,bne_iff_ne,hid]
  exact hne
 refine yA.2 ⟨n1,by rw[GK]; exact n2,λx hx'=>?_,?_⟩;rcases IB hx' with h | h
 exact n3 x h;subst h; exact hy;show (L.set j y).Pairwise _;have n4':L.Pairwise λa b=>a.Id<b.Id/\coll a b=false:=n4;rw[HM]at n4' ⊢;intro a b ha hb hab;rw[GK]at ha hb;have q:=n4' a b ha hb hab;have yid:y.Id=L[j].Id:=by rw[hid,aU l0 hj]
 rw[JS,JS];by_cases e1:j=a;subst e1;have e2:¬j=b:=by omega
 rw[if_pos rfl,if_neg e2];refine⟨by rw[yid]; exact q.1,?_⟩;rw[pQ];have:=hyc b hb (by omega);rwa [aU l0 hb]at this;rw[if_neg e1];by_cases e2:j=b;subst e2;rw[if_pos rfl];refine⟨by rw[yid]; exact q.1,?_⟩;have:=hyc a ha (by omega);rwa [aU l0 ha]at this;rw[if_neg e2]; exact q
theorem RvI.step (h:RvI N D H L0 s) (hH:∀x∈H,bp N x=true) {id:Int} (hs:hasL L0 id=true->hasL H id=true):RvI N D H L0 (rev1 D H s id):=by
 have e:=h.ids;unfold rev1;split
 rename_i hm;unfold BP at hm;simp only[GP,Hk,decide_eq_false_iff_not]at hm;obtain⟨m1,m2,m3,m4⟩:=hm;have m1':hasL L0 id=true:=by rw[<-AW e id]; exact m1
 have hj:=qI m1;have hid:(jC H id).Id=(gd s.1 (atId s.1 id) l0).Id:=by rw[AU (hs m1'),ml m1]
 have hI:=CI h.ok;have hne:∀i,i<L0.length->atId s.1 id≠i->(gd L0 i l0).Id≠id:=by
  intro i hi hji
  have e1:(gd s.1 (atId s.1 id) l0).Id=id:=ml m1
  rw[<-h.id hi,<-e1]
  have hi':i<s.1.length:=by rw[h.len]; exact hi
  rcases JI hji with q | q
  · have:=hI.ids _ i q hi'; simp only at this; omega
  · have:=hI.ids i _ q hj; simp only at this; omega
 refine⟨Do h.ok hj (hH _ (wJ (hs m1'))) hid m4,by simp only; rw[AS hj hid,e],λi hi hn=>?_,λi hi hn=>?_⟩;simp only[GI,GR,not_or]at hn;simp only;rw[nl];split
 rename_i hc;obtain⟨rfl,-⟩:=hc;exact absurd (by rw[<-h.id hi,ml m1]) hn.2;exact h.old i hi hn.1;simp only[GI,GR]at hn;simp only;rw[nl];by_cases q:atId s.1 id=i;have:(gd L0 i l0).Id=id:=by rw[<-h.id hi,<-q,ml m1]
 rw[if_pos ⟨q,by rw[h.len]; exact hi⟩,this];exact⟨rfl,m3⟩;rw[if_neg λhc=>q hc.1];rcases hn with hn | hn
 exact h.new i hi hn;exact absurd hn (hne i hi q);exact h
theorem RvI.all {N:Nq} {D:d_} {H L0:List Nx} (hH:∀x∈H,bp N x=true) (hs:∀id,hasL L0 id=true->hasL H id=true):∀(l:d_) {s:List Nx×d_},RvI N D H L0 s->RvI N D H L0 (rev D H l s)
 | [],s,h=>h
 | id::l,s,h=>RvI.all hH hs l (s:=rev1 D H s id) (h.step hH (hs id))
end
section
def endR (n:Nq) (r:Nz):Int:=match zb n r with | some o=>gl o | none=>0
theorem rp {o:d_} (h:0<o.length) (h2:o.length<=4194304):V_ o (y_ ((o.length:Int) - 1))=some (gl o):=by
 rw[show y_ ((o.length:Int) - 1)=((o.length - 1:Nat):Int) by rw[va (by omega) (by omega)]; omega,xC 0 (by omega)]; rfl
theorem rL {fu:Nat} (hfu:2097153<=fu) (n:Nq) (r:Nz) (hB:NetB n) (hr:r.Nw.length<=2097152) (ho:(zb n r).isSome=true):fH fu n r=some (endR n r):=by
 obtain⟨o,h⟩:=IT.1 ho;obtain⟨o',hw⟩:=walk_eq hfu n r hB.2 hB.1.1 hr;have hl:=mW h;unfold fH kh endR;rw[hw,h,GH,GH];show ((V_ o (y_ ((o.length:Int) - 1))).bind _)=_;rw[rp (by omega) (by omega)];rfl
def EG (l:d_) (hi:Int) (i:Nat):Bool:=!(decide (0<=gd l i 0)&&decide (gd l i 0<=hi))||(decide (0<i)&&decide (gd l (i - 1) 0>=gd l i 0))
def stOk (l:d_) (m:Nat):Bool:=!((List.range l.length).any (EG l ((m:Int) - 1)))
def B7 (r:Pd) (x:Nx):Bool:=(!hasL r.Rz x.Id||meets x.Nz.Nw r.Rv)||(x.Nz.Nt != (jC r.Rz x.Id).Nz.Nt||(endR r.Nh.Nq x.Nz != endR r.Nh.Nq (jC r.Rz x.Id).Nz||x.Nj.Pz != (jC r.Rz x.Id).Nj.Pz))
def RestB (r:Pd):Prop:=cg r.Nh/\(r.Rz.length<=2097152/\∀x∈r.Rz,x.Nz.Nw.length<=2097152)/\r.Rv.length<=2097152
theorem RestB.home {r:Pd} (h:RestB r):cg ⟨r.Nh.Nq,r.Rz⟩:=⟨h.1.1,h.2.1.1,h.2.1.2⟩
variable {fu:Nat}
theorem pv (L:List Nx) (hl:L.length<=2097152) (hr:∀x∈L,x.Nz.Nw.length<=2097152):∀(fk i:Nat) (m:List Nx),i<=L.length->L.length - i<fk->m.length<=i->∃z,cV fu L fk m i=some (m++L.drop i,z):=by
 intro fk;induction fk with
 | zero=>intro i _ _ h; omega
 | succ fk ih =>
  intro i m hi hk hm
  rw[cV]
  by_cases h:i<L.length
  · have h':(i:Int)<(L.length:Int):=by omega
    simp only[h',decide_true,if_true,vP h,GH,jx fu _ (hr _ (GW h))]
    rw[yw (by simp; omega),GH,vV h (by omega)]
    obtain⟨z,hz⟩:=ih (i + 1) (m++[L[i]]) h (by omega) (by simp; omega)
    refine⟨z,?_⟩
    rw[hz,GN,<-GU h]
    rfl
  · obtain rfl:i=L.length:=by omega
    rw[if_neg (by simp),Hg,G8]
    exact⟨_,rfl⟩
theorem so (hfu:2097153<=fu) (L:List Nx) (hl:L.length<=2097152) (hr:∀x∈L,x.Nz.Nw.length<=2097152):gT fu L=some L:=by
 unfold gT;obtain⟨z,hz⟩:=pv (fu:=fu) L hl hr fu 0 [] (by omega) (by omega) (by simp);rw[show ((0:Nat):Int)=0 from rfl]at hz;rw[hz]; rfl
theorem lL (fu:Nat) (l:d_) (h:l.length<=2097152):bE fu l=some l:=by
 unfold bE;rw[d7 (by omega)]; rfl
theorem pu (hfu:2097153<=fu) (r:Pd) (hB:RestB r):gh fu r=some r:=by
 unfold gh;rw[jw hfu _ hB.1,GH,so hfu _ hB.2.1.1 hB.2.1.2,GH,lL fu _ hB.2.2];rfl
structure RestF (r:Pd):Prop where
 plan:x8 r.Nh=true
 home:x8 ⟨r.Nh.Nq,r.Rz⟩=true
 down:stOk r.Rv r.Nh.Nq.Nw.length=true
 each:∀x∈r.Nh.Nk,B7 r x=false
theorem tA {r:Pd} {x:Nx}:B7 r x=false↔hasL r.Rz x.Id=true/\meets x.Nz.Nw r.Rv=false/\x.Nz.Nt=(jC r.Rz x.Id).Nz.Nt/\endR r.Nh.Nq x.Nz=endR r.Nh.Nq (jC r.Rz x.Id).Nz/\x.Nj.Pz=(jC r.Rz x.Id).Nj.Pz:=by
 unfold B7;simp only[HU,IX,bne_eq_false_iff_eq,and_assoc]
theorem RestF.sub {r:Pd} (h:RestF r):∀id,hasL r.Nh.Nk id=true->hasL r.Rz id=true:=by
 intro id hid;obtain⟨x,hx,he⟩:=G5.1 hid;rw[beq_iff_eq]at he;rw[<-he];exact (tA.1 (h.each x hx)).1
end
end AT
