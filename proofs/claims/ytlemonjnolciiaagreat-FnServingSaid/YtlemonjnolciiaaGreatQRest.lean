/- Networks, plainly: names, fibers, validity. -/
import Derived.Test.YtlemonjnolciiaaGreatF
set_option linter.unusedSimpArgs false
set_option linter.unusedVariables false
namespace AT
@[simp] theorem cD (fu:Nat) (x a b:Int):xd fu x a b=some (decide (a<=x)&&decide (x<=b)):=by
 unfold xd;by_cases h:a<=x <;> simp [h]
@[simp] theorem xZ (fu:Nat) (x a b:Int):vn fu x a b=some (decide (a<=x)&&decide (x<=b)):=by
 unfold vn;by_cases h:a<=x <;> simp [h]
end AT
namespace AT
theorem vw {α:Type} {l:List α} {i:Nat} (h:i<l.length):V_ l (i:Int)=some l[i]:=by rw[Eo,Iq h]
theorem an {α:Type} {l:List α} {i:Int} (h0:0<=i) (h:i<l.length):∃e,V_ l i=some e/\e∈l:=by
 refine⟨l[i.toNat]'(by omega),?_,IE _⟩;unfold V_;rw[if_pos h0,Iq]
theorem vP {n:Nat} {i:Nat} (h:i<n) (hn:(n:Int)<=9223372036854775807):y_ ((i:Int) + 1)=((i + 1:Nat):Int):=by
 rw[uZ (by omega) (by omega)]; omega
def each {α σ R:Type} (b:Int->α->σ->Option (Out σ R)):List α->Int->σ->Option (Out σ R)
 | [],_,s=>some (.next s)
 | e::l,i,s=>(b i e s).bind λo=>match o with
  | .ret r=>some (.ret r)
  | .next s'=>each b l (i + 1) s'
end AT
namespace AT
theorem FM {α:Type} {z:α} {n:Nat} (h:n<=2097152):mk z (n:Int)=some (List.replicate n z):=by
 unfold mk; rw[if_pos (by omega)]; simp
theorem sA {α:Type} (a:List α) (G:Nat->Int->Option (Out Int Bool)) (p:α->α->Option Bool) (hn:a.length<=2097152) (hp:∀e∈a,p e e=some true)
 (hG:∀fk i,G (fk + 1) i=if decide (i<(a.length:Int)) then (V_ a i).bind λe=>(V_ a i).bind λe2=>(p e e2).bind λy=>if !y then some (.ret false) else G fk (y_ (i + 1)) else some (.next i)) :
 ∀(fk i:Nat),i<=a.length->a.length - i<fk->G fk i=some (.next (a.length:Int)):=by
 intro fk;induction fk with
 | zero=>intro i _ h; omega
 | succ fk ih =>
  intro i hi hk
  rw[hG]
  by_cases h:i<a.length
  · rw[if_pos (by simpa using h),vw h,Ik,Ik,hp _ (IE h),Ik,vP h (by omega),ih (i + 1) h (by omega)]
    rfl
  · obtain rfl:i=a.length:=by omega
    rw[if_neg (by simp)]
variable {α:Type} [BEq α] [ReflBEq α]
theorem CH (a:List α) (G:Nat->Int->Option (Out Int Bool)) (hn:a.length<=2097152)
 (hG:∀fk i,G (fk + 1) i=if decide (i<(a.length:Int)) then (V_ a i).bind λe=>(V_ a i).bind λe2=>if e != e2 then some (.ret false) else G fk (y_ (i + 1)) else some (.next i)) :
 ∀(fk i:Nat),i<=a.length->a.length - i<fk->G fk i=some (.next (a.length:Int)) :=
 sA a G (λe e2=>some (e==e2)) hn (λe _=>by simp) (λfk i=>by rw[hG]; rfl)
theorem wM {α R:Type} (l:List α) (G:Nat->Int->Option (Out Int R)) (p:α->Bool) (r:Nat->R) (hn:(l.length:Int)<=9223372036854775807)
 (hG:∀fk (i:Nat) (h:i<l.length),G (fk + 1) i=if p l[i] then some (.ret (r i)) else G fk (y_ ((i:Int) + 1)))
 (hz:∀fk,G (fk + 1) l.length=some (.next (l.length:Int))) :
 ∀(fk i:Nat),i<=l.length->l.length - i<fk->G fk i=some (if (l.drop i).any p then .ret (r (i + (l.drop i).findIdx p)) else .next (l.length:Int)):=by
 intro fk;induction fk with
 | zero=>intro i _ h; omega
 | succ fk ih =>
  intro i hi hk
  by_cases h:i<l.length
  · rw[hG fk i h,<-IB h,K4,Le]
    by_cases hp:p l[i]=true
    · simp [hp]
    · simp only[hp,Iy,if_false,JV,cond_false]
      rw[vP h hn,ih (i + 1) h (by omega),show i + ((l.drop (i + 1)).findIdx p + 1)=i + 1 + (l.drop (i + 1)).findIdx p by omega]
  · obtain rfl:i=l.length:=by omega
    rw[hz,IX]; rfl
theorem Ew {α:Type} (a:List α) (G:Nat->Int->Option (Out Int Bool)) (p:α->α->Option Bool) (hn:a.length<=2097152) (hp:∀e∈a,p e e=some true)
 (hG:∀fk i,G (fk + 1) i=if decide (i<(a.length:Int)) then (V_ a i).bind λe=>(V_ a i).bind λe2=>(p e e2).bind λy=>if !y then some (.ret false) else G fk (y_ (i + 1)) else some (.next i))
 (fk:Nat) (hk:a.length<fk):G fk 0=some (.next (a.length:Int)):=by
 have:=sA a G p hn hp hG fk 0 (by omega) (by omega);simpa using this
theorem Ex (a:List α) (G:Nat->Int->Option (Out Int Bool)) (hn:a.length<=2097152)
 (hG:∀fk i,G (fk + 1) i=if decide (i<(a.length:Int)) then (V_ a i).bind λe=>(V_ a i).bind λe2=>if e != e2 then some (.ret false) else G fk (y_ (i + 1)) else some (.next i))
 (fk:Nat) (hk:a.length<fk):G fk 0=some (.next (a.length:Int)):=by
 have:=CH a G hn hG fk 0 (by omega) (by omega);simpa using this
theorem yh {α R:Type} {l:List α} {G:Nat->Int->Option (Out Int R)} (p:α->Bool) (r:Nat->R) (hn:(l.length:Int)<=9223372036854775807)
 (hG:∀fk (i:Nat) (h:i<l.length),G (fk + 1) i=if p l[i] then some (.ret (r i)) else G fk (y_ ((i:Int) + 1)))
 (hz:∀fk,G (fk + 1) l.length=some (.next (l.length:Int))) (fk:Nat) (hk:l.length<fk) :
 G fk 0=some (if l.any p then .ret (r (l.findIdx p)) else .next (l.length:Int)):=by
 have:=wM l G p r hn hG hz fk 0 (by omega) (by omega);simpa using this
def gd {α:Type} (l:List α) (i:Nat) (d:α):α:=(l[i]?).getD d
variable {i:Nat}
theorem yb {α:Type} {l:List α} (d:α) (h:i<l.length):V_ l (i:Int)=some (gd l i d):=by
 rw[vw h,gd,Iq h]; rfl
theorem bv {α:Type} {l:List α} (d:α) (h:i<l.length):gd l i d=l[i]:=by
 rw[gd,Iq h]; rfl
theorem pd {α:Type} {p q:α->Bool}:∀{l:List α},(∀i∈l,p i=q i)->l.any p=l.any q
 | [],_=>rfl
 | x::l,h=>by rw[K4,K4,h x (by simp),pd λi hi=>h i (by simp [hi])]
theorem fD (h:0<i) (hn:i<=2097152):y_ ((i:Int) - 1)=((i - 1:Nat):Int):=by
 rw[uZ (by omega) (by omega)]; omega
end AT
namespace AT
section
def chr (s:ByteArray) (i:Nat):Int:=((s[i]?).map λb=>(b.toNat:Int)).getD 0
theorem om {s:ByteArray} {i:Nat} (h:i<s.size):sidx s (i:Int)=some ⟨chr s i⟩:=by
 have e:s[i]?=some (s[i]'h):=by simp [h]
 unfold sidx chr;rw[if_pos (by omega),IQ,e];rfl
def rj (c:Int):Bool:=decide (97<=c)&&decide (c<=122)
def AQ (c:Int):Bool:=decide (48<=c)&&decide (c<=57)
def nv (s:ByteArray) (i:Nat):Bool:=!(rj (chr s i)||AQ (chr s i))
def nQ (s:ByteArray) (i:Nat):Bool:=!rj (chr s i)&&(!AQ (chr s i)||i==0)
def mc (s:ByteArray):Bool:=!((List.range s.size).any (nQ s))&&(decide (1<=s.size)&&decide (s.size<=8))
theorem AP {fu:Nat} (s:ByteArray) (h:s.size<fu) (hn:s.size<=2097152):eT fu s=some (mc s):=by
 unfold eT;rw[yh (l:=List.range s.size) (G:=xR fu s) (nQ s) (λi=>false) (by simp; omega)
  (λfk i hi=>by
    have hi':i<s.size:=by simpa using hi
    rw[xR,if_pos (by simpa using hi'),om hi',Js]
    simp only[Ik,nQ,rj,AQ,ge_iff_le]
    have e0:((i:Int)==0)=(i==0):=by rw[Jf]; simp only[beq_iff_eq]; omega
    rw[e0]
    obtain⟨b,hb⟩:∃b,b=(i==0):=⟨_,rfl⟩
    simp only[<-hb]
    by_cases h1:97<=chr s i <;> by_cases h2:48<=chr s i <;> by_cases h3:chr s i<=122 <;> by_cases h4:chr s i<=57 <;> cases b <;> simp [h1,h2,h3,h4])
  (λfk=>by rw[Jb,xR,if_neg (by simp)]) fu (by simpa using h)]
 unfold mc;have e1:decide (1<=(s.size:Int))=decide (1<=s.size):=by simp only[decide_eq_decide]; omega
 have e2:decide ((s.size:Int)<=8)=decide (s.size<=8):=by simp only[decide_eq_decide]; omega
 cases (List.range s.size).any (nQ s) <;> simp [Out.on,e1,e2]
theorem AK (fu:Nat) (b:By):eF fu b=some (rj b.n||AQ b.n):=by
 unfold eF rj AQ;simp only[ge_iff_le];by_cases h1:97<=b.n <;> by_cases h2:48<=b.n <;> by_cases h3:b.n<=122 <;> by_cases h4:b.n<=57 <;> simp [h1,h2,h3,h4]
theorem AL {fu:Nat} (s:ByteArray) (h:s.size<fu) (hn:s.size<=2097152):eG fu s=some (mc s):=by
 unfold eG;have e1:decide (1<=(s.size:Int))=decide (1<=s.size):=by simp only[decide_eq_decide]; omega
 have e2:decide ((s.size:Int)<=8)=decide (s.size<=8):=by simp only[decide_eq_decide]; omega
 simp only[cD,Ik,e1,e2];unfold mc;by_cases hb:(decide (1<=s.size)&&decide (s.size<=8))=true
 · rw[hb]
   simp only[Iw,decide_eq_true_eq]at hb
   have h0:0<s.size:=by omega
   have hs:=om h0
   simp only[KX,Int.natCast_zero]at hs
   simp only[Jp,Iy,if_false,hs,Ik,LB]
   have hl:yH fu s fu 0=some (if (List.range s.size).any (nv s) then .ret false else .next ((List.range s.size).length:Int)) :=
    yh (l:=List.range s.size) (G:=yH fu s) (nv s) (λi=>false) (by simp; omega)
     (λfk i hi=>by
       have hi':i<s.size:=by simpa using hi
       rw[yH,if_pos (by simpa using hi'),om hi',Js]
       simp only[Ik,AK,nv]
       rfl)
     (λfk=>by rw[Jb,yH,if_neg (by simp)]) fu (by simpa using h)
   rw[hl]
   have ha:(List.range s.size).any (nQ s)=(!rj (chr s 0)||(List.range s.size).any (nv s)):=by
    rw[Jf]
    simp only[IH,I4,JL,nQ,nv,Iw,IZ,beq_iff_eq,JC]
    constructor
    · rintro⟨i,hi,h1,h2⟩
      rcases h2 with h2 | h2
      · exact .inr ⟨i,hi,h1,h2⟩
      · subst h2; exact .inl h1
    · rintro (h1 | ⟨i,hi,h1,h2⟩)
      · exact⟨0,h0,h1,.inr rfl⟩
      · exact⟨i,hi,h1,.inl h2⟩
   rw[ha]
   unfold rj
   have e3:decide (chr s 0<97)=!decide (97<=chr s 0):=by rw[<-decide_not]; simp only[decide_eq_decide]; omega
   have e4:decide (chr s 0 > 122)=!decide (chr s 0<=122):=by rw[<-decide_not]; simp only[decide_eq_decide]; omega
   simp only[e3,e4]
   cases decide (97<=chr s 0) <;> cases decide (chr s 0<=122) <;> cases (List.range s.size).any (nv s) <;> rfl
 · rw[KD]at hb
   rw[hb]
   simp
def nm0:ByteArray:=ByteArray.empty
def seen (l:List ByteArray) (i:Nat):Bool:=(l.take i).any λx=>(gd l i nm0).toList==x.toList
theorem qE {α:Type} [BEq α] [LawfulBEq α] (a b:α):(a==b)=(b==a):=by
 rw[Jf]; simp only[beq_iff_eq]; exact eq_comm
variable {fu i:Nat}
theorem AS (l:List ByteArray) (v:ByteArray) (h:l.length<fu) (hn:l.length<=2097152):xI fu l v=some (if l.any (λx=>v.toList==x.toList) then ((l.findIdx λx=>v.toList==x.toList:Nat):Int) else -1):=by
 unfold xI;rw[yh (l:=l) (G:=vh fu l v) (λx=>v.toList==x.toList) (λi=>(i:Int)) (by omega)
  (λfk i hi=>by rw[vh,if_pos (by simpa using hi),vw hi]; rfl)
  (λfk=>by rw[vh,if_neg (by simp)]) fu h]
 cases l.any (λx=>v.toList==x.toList) <;> rfl
theorem qv (l:List ByteArray) (v:ByteArray) (h:l.length<fu) (hn:l.length<=2097152):xl fu l v=some (l.any λx=>v.toList==x.toList):=by
 unfold xl;rw[AS l v h hn];cases l.any (λx=>v.toList==x.toList)
 rfl;simp
theorem AM (l:List ByteArray) (v:ByteArray) (h:l.length<fu) (hn:l.length<=2097152):eH fu l v=some (if l.any (λx=>x.toList==v.toList) then ((l.findIdx λx=>x.toList==v.toList:Nat):Int) else -1):=by
 unfold eH;rw[yh (l:=l) (G:=zl fu l v) (λx=>x.toList==v.toList) (λi=>(i:Int)) (by omega)
  (λfk i hi=>by rw[zl,if_pos (by simpa using hi),vw hi]; rfl)
  (λfk=>by rw[zl,if_neg (by simp)]) fu h]
 cases l.any (λx=>x.toList==v.toList) <;> rfl
theorem gi {α:Type} {l:List α} (h:i<=l.length):sub l 0 (i:Int)=some (l.take i):=by
 unfold sub;rw[if_pos (by omega)];simp
theorem qo {α:Type} {l:List α} {p:α->Bool} (h:i<l.length) (hp:p l[i]=true):(l.findIdx p=i)↔(l.take i).any p=false:=by
 rw[List.findIdx_eq h];constructor;rintro⟨-,h2⟩;rw[IJ];intro h3;obtain⟨x,hx,hpx⟩:=IH.1 h3;obtain⟨j,hj,rfl⟩:=IF.1 hx;simp only[Is]at hj;rw[Ja]at hpx;have:=h2 j (by omega);rw[hpx]at this;cases this
 intro h3;refine⟨hp,λj hj=>?_⟩;rw[IJ];intro h4;rw[IJ]at h3;refine h3 (IH.2 ⟨l[j],?_,h4⟩);refine IF.2 ⟨j,by simp; omega,by rw[Ja]⟩
def je (l:List ByteArray) (i:Nat):Bool:=!mc (gd l i nm0)||seen l i
def f0:Pq:=⟨0,0,0,0⟩
def ks (m:Nat) (f:Pq):Bool:=decide (0<=f.A)&&(decide (f.A<f.B)&&(decide (f.B<(m:Int))&&((decide (1<=f.Px)&&decide (f.Px<=5000))&&(decide (0<=f.Pt)&&decide (f.Pt<=9)))))
def fGt (f g:Pq):Bool:=decide (g.A<f.A)||(f.A==g.A&&(decide (g.B<f.B)||(f.B==g.B&&(decide (g.Px<f.Px)||(f.Px==g.Px&&decide (g.Pt<f.Pt))))))
def cmpI (x y:Int):Int:=if x<y then -1 else if x > y then 1 else 0
theorem iL (fu:Nat) (x y:Int):cmp_Compare_int fu x y=some (cmpI x y):=by
 unfold cmp_Compare_int cmp_isNaN_int cmpI;have e:∀z:Int,(z != z)=false:=λz=>by simp
 simp only[e,Ik,Iy,if_false,decide_eq_true_eq];by_cases h:x<y;rw[if_pos h,if_pos h];rw[if_neg h,if_neg h];split <;> rfl
theorem lG (x y:Int):0<cmpI x y↔y<x:=by unfold cmpI; split <;> (try split) <;> omega
theorem ap (x y:Int):cmpI x y=0↔x=y:=by unfold cmpI; split <;> (try split) <;> omega
def or4 (a b c d:Int):Int:=if a≠0 then a else if b≠0 then b else if c≠0 then c else if d≠0 then d else 0
theorem FJ (a b c d:Int) (h:4<fu):et fu [a,b,c,d]=some (or4 a b c d):=by
 unfold et;rw[yh (l:=[a,b,c,d]) (G:=ao fu [a,b,c,d]) (λe=>e != 0) (λi=>gd [a,b,c,d] i 0) (by simp)
  (λfk i hi=>by rw[ao,if_pos (by rw[decide_eq_true_eq]; omega),vw hi,bv 0 hi]; rfl)
  (λfk=>by rw[ao,if_neg (by simp)]) fu (by simpa using h)]
 unfold or4;have e:∀z:Int,(z != 0)=!decide (z=0):=λz=>by by_cases h:z=0 <;> simp [h]
 simp only[e];by_cases ha:a=0 <;> by_cases hb:b=0 <;> by_cases hc:c=0 <;> by_cases hd:d=0 <;> simp [ha,hb,hc,hd,Le,gd,Out.on]
theorem lp (f g:Pq) (h:4<fu):∃r,ak fu f g=some r/\decide (r > 0)=fGt f g:=by
 unfold ak;simp only[iL,Ik,FJ _ _ _ _ h];refine⟨_,rfl,?_⟩;rw[Jf];simp only[fGt,decide_eq_true_eq,JL,Iw,beq_iff_eq,or4];have a1:=lG f.A g.A;have a2:=ap f.A g.A;have b1:=lG f.B g.B;have b2:=ap f.B g.B;have c1:=lG f.Px g.Px;have c2:=ap f.Px g.Px;have d1:=lG f.Pt g.Pt;have d2:=ap f.Pt g.Pt;generalize cmpI f.A g.A=a at *;generalize cmpI f.B g.B=b at *;generalize cmpI f.Px g.Px=c at *;generalize cmpI f.Pt g.Pt=d at *;split <;> (try split) <;> (try split) <;> (try split) <;> constructor <;> intro h <;> simp only[decide_eq_true_eq]at * <;> omega
def bef (f g:Pq):Int:=if f.A≠g.A then y_ (f.A - g.A) else if f.B≠g.B then y_ (f.B - g.B) else if f.Px≠g.Px then y_ (f.Px - g.Px) else y_ (f.Pt - g.Pt)
theorem mj (fu:Nat) (f g:Pq):cd fu f g=some (bef f g):=by
 unfold cd bef;by_cases h1:f.A=g.A;by_cases h2:f.B=g.B;by_cases h3:f.Px=g.Px <;> simp [h1,h2,h3]
 simp [h1,h2];simp [h1]
theorem Gm {m:Nat} {f g:Pq} (hm:m<=8) (hf:ks m f=true) (hg:ks m g=true):decide (bef f g > 0)=fGt f g:=by
 simp only[ks,Iw,decide_eq_true_eq]at hf hg;rw[Jf];simp only[fGt,decide_eq_true_eq,JL,Iw,beq_iff_eq];unfold bef;have e1:y_ (f.A - g.A)=f.A - g.A:=uZ (by omega) (by omega);have e2:y_ (f.B - g.B)=f.B - g.B:=uZ (by omega) (by omega);have e3:y_ (f.Px - g.Px)=f.Px - g.Px:=uZ (by omega) (by omega);have e4:y_ (f.Pt - g.Pt)=f.Pt - g.Pt:=uZ (by omega) (by omega);rw[e1,e2,e3,e4];clear e1 e2 e3 e4;split
 omega;split
 omega;split <;> omega
theorem tw {m:Nat} (f:Pq) (hm:m<=8):dU fu f (m:Int)=some (ks m f):=by
 unfold dU;simp only[cD,Ik];have e0:y_ ((m:Int) - 1)=(m:Int) - 1:=uZ (by omega) (by omega);rw[e0];unfold ks;by_cases h1:0<=f.A;by_cases h2:f.A<=(m:Int) - 1;have e1:y_ (f.A + 1)=f.A + 1:=uZ (by omega) (by omega);rw[e1];have e2:decide (f.A + 1<=f.B)=decide (f.A<f.B):=by simp only[decide_eq_decide]; omega
 have e3:decide (f.B<=(m:Int) - 1)=decide (f.B<(m:Int)):=by simp only[decide_eq_decide]; omega
 rw[e2,e3];simp only[h1,h2,decide_true,LB,if_true,Jq];cases decide (f.A<f.B) <;> cases decide (f.B<(m:Int)) <;> cases decide (1<=f.Px) <;> cases decide (f.Px<=5000) <;> cases decide (0<=f.Pt) <;> cases decide (f.Pt<=9) <;> rfl
 have:(decide (f.A<f.B)&&decide (f.B<(m:Int)))=false:=by
  rw[IJ]; simp only[ne_eq,Iw,decide_eq_true_eq]; omega
 rw[<-Lt (decide (f.A<f.B)),this];simp [h1,h2];simp [h1]
def it (m:Nat) (l:List Pq) (i:Nat):Bool:=!ks m (gd l i f0)||(decide (0<i)&&fGt (gd l (i - 1) f0) (gd l i f0))
def ku (m:Nat) (l:List Pq) (i:Nat):Bool:=!ks m (gd l i f0)||(decide (0<i)&&decide (bef (gd l (i - 1) f0) (gd l i f0) > 0))
theorem Be {m:Nat} (l:List Pq) (hm:m<=8):(List.range l.length).any (ku m l)=(List.range l.length).any (it m l):=by
 by_cases hv:∃i,i<l.length/\ks m (gd l i f0)=false;obtain⟨i,hi,hb⟩:=hv;have h1:(List.range l.length).any (ku m l)=true:=IH.2 ⟨i,I4.2 hi,by simp [ku,hb]⟩;have h2:(List.range l.length).any (it m l)=true:=IH.2 ⟨i,I4.2 hi,by simp [it,hb]⟩;rw[h1,h2];have hv':∀i,i<l.length->ks m (gd l i f0)=true:=λi hi=>by
  cases h:ks m (gd l i f0)
  · exact absurd ⟨i,hi,h⟩ hv
  · rfl
 refine pd λi hi=>?_;have hi':=I4.1 hi;unfold ku it;by_cases h0:0<i;rw[Gm hm (hv' (i - 1) (by omega)) (hv' i hi')];simp [h0]
def cO (n:Nq):Bool:=(decide (2<=n.Nv.length)&&decide (n.Nv.length<=8))&&(decide (n.Nw.length<=14)&&(!((List.range n.Nv.length).any (je n.Nv))&&!((List.range n.Nw.length).any (it n.Nv.length n.Nw))))
def NetB (n:Nq):Prop:=(n.Nv.length<=2097152/\∀e∈n.Nv,e.size<=2097152)/\n.Nw.length<=2097152
theorem aR {α:Type} {l:List α} (d:α) (h:i<l.length):gd l i d∈l:=by rw[bv d h]; exact IE _
theorem iJ (hfu:2097153<=fu) (n:Nq) (hB:NetB n):xz fu n=some (cO n):=by
 obtain⟨⟨hl,hs⟩,hl2⟩:=hB;unfold xz;rw[yh (l:=List.range n.Nv.length) (G:=vT fu n) (je n.Nv) (λi=>false) (by simp; omega)
  (λfk i hi=>by
    have hi':i<n.Nv.length:=by simpa using hi
    have hz:=hs _ (aR nm0 hi')
    rw[vT,if_pos (by simpa using hi'),yb nm0 hi',Js]
    simp only[Ik,AP _ (show (gd n.Nv i nm0).size<fu by omega) hz,je,seen]
    rcases Li (mc (gd n.Nv i nm0)) with h1 | h1
    · rw[gi (by omega)]
      simp only[h1,Jp,Iy,if_false,Ik,qv _ _ (show (n.Nv.take i).length<fu by simp; omega) (by simp; omega),JV]
    · simp [h1])
  (λfk=>by rw[Jb,vT,if_neg (by simp)]) fu (by simp; omega)]
 rw[yh (l:=List.range n.Nw.length) (G:=vS fu n) (it n.Nv.length n.Nw) (λi=>false) (by simp; omega)
  (λfk i hi=>by
    have hi':i<n.Nw.length:=by simpa using hi
    rw[vS,if_pos (by simpa using hi'),yb f0 hi',Js]
    simp only[Ik,xZ,it,ks]
    obtain⟨x,hx⟩:∃x,x=gd n.Nw i f0:=⟨_,rfl⟩
    simp only[<-hx]
    have a1:decide (x.A<0)=!decide (0<=x.A):=by rw[<-decide_not]; simp only[decide_eq_decide]; omega
    have a2:decide (x.A>=x.B)=!decide (x.A<x.B):=by rw[<-decide_not]; simp only[decide_eq_decide]; omega
    have a3:decide (x.B>=(n.Nv.length:Int))=!decide (x.B<(n.Nv.length:Int)):=by rw[<-decide_not]; simp only[decide_eq_decide]; omega
    simp only[a1,a2,a3]
    by_cases b1:(decide (0<=x.A))=false
    · simp [b1]
    rw[J1]at b1
    by_cases b2:(decide (x.A<x.B))=false
    · simp [b1,b2]
    rw[J1]at b2
    by_cases b3:(decide (x.B<(n.Nv.length:Int)))=false
    · simp [b1,b2,b3]
    rw[J1]at b3
    by_cases b4:(decide (1<=x.Px)&&decide (x.Px<=5000))=false
    · simp only[b1,b2,b3,b4]; simp
    rw[J1]at b4
    by_cases b5:(decide (0<=x.Pt)&&decide (x.Pt<=9))=false
    · simp only[b1,b2,b3,b4,b5]; simp
    rw[J1]at b5
    simp only[b1,b2,b3,b4,b5]
    by_cases h0:0<i
    · rw[fD h0 (by omega),yb f0 (show i - 1<n.Nw.length by omega)]
      obtain⟨r,h1,h2⟩:=lp (fu:=fu) (gd n.Nw (i - 1) f0) x (by omega)
      have h0':((i:Int) > 0):=by omega
      simp [h0,h1,h2,h0']
    · have h0':¬((i:Int) > 0):=by omega
      simp [h0,h0'])
  (λfk=>by rw[Jb,vS,if_neg (by simp)]) fu (by simp; omega)]
 unfold cO;have e1:decide (2<=(n.Nv.length:Int))=decide (2<=n.Nv.length):=by simp only[decide_eq_decide]; omega
 have e2:decide ((n.Nv.length:Int)<=8)=decide (n.Nv.length<=8):=by simp only[decide_eq_decide]; omega
 have e3:decide ((n.Nw.length:Int)<=14)=decide (n.Nw.length<=14):=by simp only[decide_eq_decide]; omega
 simp only[xZ,e1,e2,e3];cases (List.range n.Nv.length).any (je n.Nv) <;> cases (List.range n.Nw.length).any (it n.Nv.length n.Nw) <;> cases decide (2<=n.Nv.length) <;> cases decide (n.Nv.length<=8) <;> cases decide (n.Nw.length<=14) <;> rfl
theorem iC (hfu:2097153<=fu) (n:Nq) (hB:NetB n):a7 fu n=some (cO n):=by
 obtain⟨⟨hl,hs⟩,hl2⟩:=hB;unfold a7 cO;have e1:decide (2<=(n.Nv.length:Int))=decide (2<=n.Nv.length):=by simp only[decide_eq_decide]; omega
 have e2:decide ((n.Nv.length:Int)<=8)=decide (n.Nv.length<=8):=by simp only[decide_eq_decide]; omega
 have e3:decide ((n.Nw.length:Int) > 14)=!decide (n.Nw.length<=14):=by rw[<-decide_not]; simp only[decide_eq_decide]; omega
 simp only[cD,e1,e2,e3,Ik];cases hb:(decide (2<=n.Nv.length)&&decide (n.Nv.length<=8))
 rfl;cases hc:decide (n.Nw.length<=14)
 rfl;simp only[Iw,decide_eq_true_eq]at hb hc;rw[yh (l:=List.range n.Nv.length) (G:=zk fu n) (je n.Nv) (λi=>false) (by simp; omega)
  (λfk i hi=>by
    have hi':i<n.Nv.length:=by simpa using hi
    have hz:=hs _ (aR nm0 hi')
    rw[zk,if_pos (by simpa using hi'),yb nm0 hi',Js]
    simp only[Ik,AL _ (show (gd n.Nv i nm0).size<fu by omega) hz,je,seen]
    by_cases h1:(mc (gd n.Nv i nm0))=false
    · simp [h1]
    rw[J1]at h1
    · have hp:(λx:ByteArray=>x.toList==(gd n.Nv i nm0).toList) n.Nv[i]=true:=by simp [bv nm0 hi']
      have ha:n.Nv.any (λx=>x.toList==(gd n.Nv i nm0).toList)=true:=IH.2 ⟨_,IE hi',hp⟩
      have hfi:=qo (p:=λx:ByteArray=>x.toList==(gd n.Nv i nm0).toList) hi' hp
      have hsy:(n.Nv.take i).any (λx=>(gd n.Nv i nm0).toList==x.toList)=(n.Nv.take i).any (λx=>x.toList==(gd n.Nv i nm0).toList):=pd λx _=>qE _ _
      simp only[h1,Jp,Iy,if_false,Ik,AM _ _ (show n.Nv.length<fu by omega) hl,ha,if_true,JV,hsy]
      have he:(((n.Nv.findIdx λx=>x.toList==(gd n.Nv i nm0).toList:Nat):Int) != (i:Int))=(n.Nv.take i).any (λx=>x.toList==(gd n.Nv i nm0).toList):=by
       rw[Jf]
       simp only[bne_iff_ne,ne_eq,Int.natCast_inj,hfi,J1]
      rw[he])
  (λfk=>by rw[Jb,zk,if_neg (by simp)]) fu (by simp; omega)]
 rw[yh (l:=List.range n.Nw.length) (G:=zj fu n) (ku n.Nv.length n.Nw) (λi=>false) (by simp; omega)
  (λfk i hi=>by
    have hi':i<n.Nw.length:=by simpa using hi
    rw[zj,if_pos (by simpa using hi'),yb f0 hi',Js]
    simp only[Ik,tw _ hb.2,ku]
    by_cases h1:(ks n.Nv.length (gd n.Nw i f0))=false
    · simp [h1]
    rw[J1]at h1
    simp only[h1]
    by_cases h0:0<i
    · rw[fD h0 (by omega),yb f0 (show i - 1<n.Nw.length by omega)]
      have h0':((i:Int) > 0):=by omega
      simp [h0,mj,h0']
    · have h0':¬((i:Int) > 0):=by omega
      simp [h0,h0'])
  (λfk=>by rw[Jb,zj,if_neg (by simp)]) fu (by simp; omega),Be _ hb.2]
 cases (List.range n.Nv.length).any (je n.Nv) <;> cases (List.range n.Nw.length).any (it n.Nv.length n.Nw) <;> rfl
structure NetF (n:Nq):Prop where
 lo:2<=n.Nv.length
 hi:n.Nv.length<=8
 fib:n.Nw.length<=14
 each:∀f∈n.Nw,0<=f.A/\f.A<f.B/\f.B<(n.Nv.length:Int)/\1<=f.Px/\f.Px<=5000/\0<=f.Pt/\f.Pt<=9
theorem netF {n:Nq} (h:cO n=true):NetF n:=by
 unfold cO at h;simp only[Iw,decide_eq_true_eq,IZ]at h;obtain⟨⟨h1,h2⟩,h3,h4,h5⟩:=h;refine⟨h1,h2,h3,λf hf=>?_⟩;obtain⟨i,hi,rfl⟩:=IF.1 hf;rw[IJ]at h5;have h6:it n.Nv.length n.Nw i=false:=by
  rw[IJ]
  intro h7
  exact h5 (IH.2 ⟨i,I4.2 hi,h7⟩)
 unfold it at h6;rw[JC]at h6;have h8:=h6.1;rw[bv f0 hi]at h8;simp only[Ki,ks,Iw,decide_eq_true_eq]at h8;omega
end
section
theorem yN {α:Type} {l m:List α} (h:l.length + m.length<=1099511627776):C_ l m=some (l++m):=by unfold C_; rw[if_pos h]
variable {fu:Nat}
theorem AU (l:d_) (v:Int) (h:l.length<fu) (hn:l.length<=2097152):yX fu l v=some (if l.any (λx=>x==v) then ((l.findIdx λx=>x==v:Nat):Int) else -1):=by
 unfold yX;rw[yh (l:=l) (G:=vH fu l v) (λx=>x==v) (λi=>(i:Int)) (by omega)
  (λfk i hi=>by rw[vH,if_pos (by simpa using hi),vw hi,Ik,qE v])
  (λfk=>by rw[vH,if_neg (by simp)]) fu h]
 cases l.any (λx=>x==v) <;> rfl
theorem iv (l:d_) (v:Int) (h:l.length<fu) (hn:l.length<=2097152):xh fu l v=some (l.any λx=>x==v):=by
 unfold xh;rw[AU l v h hn];cases l.any (λx=>x==v)
 rfl;simp
theorem iI (l:d_) (v:Int) (h:l.length<fu) (hn:l.length<=2097152):bF fu l v=some (l.any λx=>x==v):=by
 unfold bF;rw[yh (l:=l) (G:=zW fu l v) (λx=>x==v) (λi=>true) (by omega)
  (λfk i hi=>by rw[zW,if_pos (by simpa using hi),vw hi,Ik])
  (λfk=>by rw[zW,if_neg (by simp)]) fu h]
 cases l.any (λx=>x==v) <;> rfl
def X_ (f:Pq) (v:Int):Int:=if v=f.A then f.B else if v=f.B then f.A else -1
theorem Dq {R:Type} (f:Pq) (v:Int) (k:Int->R):(if v==f.A then k f.B else if v==f.B then k f.A else k (-1))=k (X_ f v):=by
 unfold X_;by_cases h1:v=f.A;rw[if_pos (beq_iff_eq.2 h1),if_pos h1];rw[if_neg (by simpa using h1),if_neg h1];by_cases h2:v=f.B;rw[if_pos (beq_iff_eq.2 h2),if_pos h2];rw[if_neg (by simpa using h2),if_neg h2]
theorem l7 (fu:Nat) (f:Pq) (v:Int):dc fu f v=some (X_ f v):=by
 exact Dq f v some
theorem iH (fu:Nat) (n:Nq) (i:Nat) (v:Int) (h:i<n.Nw.length):yJ fu n (i:Int) v=some (X_ (gd n.Nw i f0) v):=by
 unfold yJ;rw[yb f0 h];exact Dq _ v some
def db (F:List Pq):d_->d_->Int->Option (d_)
 | [],out,_=>some out
 | i::r,out,v=>if 0<=i/\i<(F.length:Int) then (if X_ (gd F i.toNat f0) v<0∨(out.any λx=>x==X_ (gd F i.toNat f0) v)=true then none else db F r (out++[X_ (gd F i.toNat f0) v]) (X_ (gd F i.toNat f0) v)) else none
def yL (n:Nq) (r:Nk):Option (d_):=if (0<=r.Np/\r.Np<(n.Nv.length:Int))/\r.Nw≠[] then db n.Nw r.Nw [r.Np] r.Np else none
def gl (l:d_):Int:=gd l (l.length - 1) 0
theorem oN (l:d_) (x:Int):gl (l++[x])=x:=by unfold gl gd; simp
theorem pG {F:List Pq}:∀{fs out:d_} {v:Int} {o:d_},db F fs out v=some o->o.length=out.length + fs.length
 | [],out,v,o,h=>by simp only[db,IV]at h; subst h; simp
 | i::r,out,v,o,h=>by
  unfold db at h
  split at h
  · split at h
    · cases h
    · have:=pG h
      simp only[Ip,I3,JG]at this ⊢
      omega
  · cases h
theorem rM {F:List Pq}:∀{fs out:d_} {v:Int} {o:d_},db F fs out v=some o->∀i∈fs,0<=i/\i<(F.length:Int)
 | [],out,v,o,h=>by simp
 | i::r,out,v,o,h=>by
  unfold db at h
  split at h
  · rename_i hi
    split at h
    · cases h
    · intro j hj
      rcases IW.1 hj with rfl | hj
      · exact hi
      · exact rM h j hj
  · cases h
variable {n:Nq} {r:Nk} {o:d_}
theorem po (hfu:2097153<=fu) (n:Nq) (r:Nk) (hn:n.Nw.length<=2097152) (hr:r.Nw.length<=2097152):∀(fk i:Nat) (out:d_) (v:Int),i<=r.Nw.length->r.Nw.length - i<fk->out.length=i + 1 ->
 ∃z,zx fu n r fk out v i=some (match db n.Nw (r.Nw.drop i) out v with | some o=>.next (o,z) | none=>.ret ([],false)):=by
 intro fk;induction fk with
 | zero=>intro i _ _ _ h; omega
 | succ fk ih =>
  intro i out v hi hk ho
  rw[zx]
  by_cases h:i<r.Nw.length
  · rw[if_pos (by simpa using h),vw h,<-IB h,db]
    obtain⟨e,he⟩:∃e,e=r.Nw[i]:=⟨_,rfl⟩
    simp only[<-he,Ik,xZ]
    rw[uZ (by omega) (by omega)]
    by_cases hb:0<=e/\e<(n.Nw.length:Int)
    · rw[if_pos hb]
      have hb':(decide (0<=e)&&decide (e<=(n.Nw.length:Int) - 1))=true:=by simp; omega
      have hx:V_ n.Nw e=some (gd n.Nw e.toNat f0):=by
       have:=yb (l:=n.Nw) (i:=e.toNat) f0 (by omega)
       rwa [Jk hb.1]at this
      simp only[hb',Jp,Iy,if_false,hx,Ik,l7]
      obtain⟨y,hy⟩:∃y,y=X_ (gd n.Nw e.toNat f0) v:=⟨_,rfl⟩
      simp only[<-hy,iv out y (show out.length<fu by omega) (by omega)]
      by_cases hn:y<0∨(out.any λx=>x==y)=true
      · rw[if_pos hn]
        refine⟨(0,0),?_⟩
        rcases hn with h1 | h1
        · simp [h1]
        · by_cases h2:y<0 <;> simp [h1,h2]
      · rw[if_neg hn]
        have h1:¬y<0:=λh=>hn (.inl h)
        have h2:(out.any λx=>x==y)=false:=by rw[IJ]; exact λh=>hn (.inr h)
        simp only[h1,decide_false,Iy,if_false,h2,Ik]
        rw[yN (by simp; omega),Ik,vP h (by omega)]
        exact ih (i + 1) _ _ h (by omega) (by simp; omega)
    · rw[if_neg hb]
      have hb':(decide (0<=e)&&decide (e<=(n.Nw.length:Int) - 1))=false:=by rw[IJ]; simp; omega
      exact⟨(0,0),by simp [hb']⟩
  · obtain rfl:i=r.Nw.length:=by omega
    rw[if_neg (by simp),IX]
    exact⟨_,rfl⟩
theorem nu (hfu:2097153<=fu) (n:Nq) (r:Nk) (hn:n.Nw.length<=2097152) (hm:n.Nv.length<=2097152) (hr:r.Nw.length<=2097152):cM fu n r=some (match yL n r with | some o=>(o,true) | none=>([],false)):=by
 unfold cM;simp only[xZ,Ik];rw[uZ (by omega) (by omega)];by_cases hs:0<=r.Np/\r.Np<(n.Nv.length:Int);have hb':(decide (0<=r.Np)&&decide (r.Np<=(n.Nv.length:Int) - 1))=true:=by simp; omega
 by_cases he:r.Nw=[];have er:yL n r=none:=by unfold yL; rw[if_neg λh=>h.2 he]
 simp [hb',he,er];have er:yL n r=db n.Nw r.Nw [r.Np] r.Np:=by unfold yL; rw[if_pos ⟨hs,he⟩]
 have he':((r.Nw.length:Int)==0)=false:=by
  rw[beq_eq_false_iff_ne]
  have:=K6.2 he
  omega
 obtain⟨z,hz⟩:=po hfu n r hn hr fu 0 [r.Np] r.Np (by omega) (by omega) rfl;rw[IR,show ((0:Nat):Int)=0 from rfl]at hz;rw[er];simp only[hb',Jp,Iy,if_false,he',Ik,hz];cases db n.Nw r.Nw [r.Np] r.Np <;> rfl
 have hb':(decide (0<=r.Np)&&decide (r.Np<=(n.Nv.length:Int) - 1))=false:=by rw[IJ]; simp; omega
 have er:yL n r=none:=by unfold yL; rw[if_neg λh=>hs h.1]
 simp [hb',er]
theorem wl (hfu:2097153<=fu) (n:Nq) (r:Nk) (hn:n.Nw.length<=2097152) (hr:r.Nw.length<=2097152):∀(fk i:Nat) (out:d_),i<=r.Nw.length->r.Nw.length - i<fk->out.length=i + 1 ->
 ∃z o',ar fu n r fk out i=some (match db n.Nw (r.Nw.drop i) out (gl out) with | some o=>.next (o,z) | none=>.ret (o',false)):=by
 intro fk;induction fk with
 | zero=>intro i _ _ h; omega
 | succ fk ih =>
  intro i out hi hk ho
  rw[ar]
  by_cases h:i<r.Nw.length
  · rw[if_pos (by simpa using h),vw h,<-IB h,db]
    obtain⟨e,he⟩:∃e,e=r.Nw[i]:=⟨_,rfl⟩
    have hlast:V_ out (y_ ((out.length:Int) - 1))=some (gl out):=by
     rw[fD (by omega) (by omega),yb 0 (by omega)]; rfl
    simp only[<-he,Ik,cD,hlast]
    rw[uZ (by omega) (by omega)]
    by_cases hb:0<=e/\e<(n.Nw.length:Int)
    · rw[if_pos hb]
      have hb':(decide (0<=e)&&decide (e<=(n.Nw.length:Int) - 1))=true:=by simp; omega
      have hx:yJ fu n e (gl out)=some (X_ (gd n.Nw e.toNat f0) (gl out)):=by
       have:=iH fu n e.toNat (gl out) (by omega)
       rwa [Jk hb.1]at this
      simp only[hb',Jp,Iy,if_false,hx,Ik]
      obtain⟨y,hy⟩:∃y,y=X_ (gd n.Nw e.toNat f0) (gl out):=⟨_,rfl⟩
      simp only[<-hy,iI out y (show out.length<fu by omega) (by omega)]
      by_cases hn:y<0∨(out.any λx=>x==y)=true
      · rw[if_pos hn]
        refine⟨0,out,?_⟩
        rcases hn with h1 | h1
        · simp [h1]
        · by_cases h2:y<0 <;> simp [h1,h2]
      · rw[if_neg hn]
        have h1:¬y<0:=λh=>hn (.inl h)
        have h2:(out.any λx=>x==y)=false:=by rw[IJ]; exact λh=>hn (.inr h)
        simp only[h1,decide_false,Iy,if_false,h2,Ik]
        rw[yN (by simp; omega),Ik,vP h (by omega)]
        have:=ih (i + 1) (out++[y]) h (by omega) (by simp; omega)
        rwa [oN]at this
    · rw[if_neg hb]
      have hb':(decide (0<=e)&&decide (e<=(n.Nw.length:Int) - 1))=false:=by rw[IJ]; simp; omega
      exact⟨0,out,by simp [hb']⟩
  · obtain rfl:i=r.Nw.length:=by omega
    rw[if_neg (by simp),IX]
    exact⟨_,[],rfl⟩
theorem walk_eq (hfu:2097153<=fu) (n:Nq) (r:Nk) (hn:n.Nw.length<=2097152) (hm:n.Nv.length<=2097152) (hr:r.Nw.length<=2097152):∃o',dv fu n r=some (match yL n r with | some o=>(o,true) | none=>(o',false)):=by
 unfold dv;simp only[cD,Ik];rw[uZ (by omega) (by omega)];by_cases hs:0<=r.Np/\r.Np<(n.Nv.length:Int);have hb':(decide (0<=r.Np)&&decide (r.Np<=(n.Nv.length:Int) - 1))=true:=by simp; omega
 by_cases he:r.Nw=[];have er:yL n r=none:=by unfold yL; rw[if_neg λh=>h.2 he]
 exact⟨[r.Np],by simp [hb',he,er]⟩;have er:yL n r=db n.Nw r.Nw [r.Np] r.Np:=by unfold yL; rw[if_pos ⟨hs,he⟩]
 have he':((r.Nw.length:Int)==0)=false:=by
  rw[beq_eq_false_iff_ne]
  have:=K6.2 he
  omega
 obtain⟨z,o',hz⟩:=wl hfu n r hn hr fu 0 [r.Np] (by omega) (by omega) rfl;rw[IR,show ((0:Nat):Int)=0 from rfl,show gl [r.Np]=r.Np from rfl]at hz;refine⟨o',?_⟩;rw[er];simp only[hb',Jp,Iy,if_false,he',Ik,hz];cases db n.Nw r.Nw [r.Np] r.Np <;> rfl
 have hb':(decide (0<=r.Np)&&decide (r.Np<=(n.Nv.length:Int) - 1))=false:=by rw[IJ]; simp; omega
 refine⟨[r.Np],?_⟩;have er:yL n r=none:=by unfold yL; rw[if_neg λh=>hs h.1]
 simp [hb',er]
theorem AJ (hfu:2097153<=fu) (n:Nq) (r:Nk) (hB:NetB n) (hr:r.Nw.length<=2097152):eE fu n r=some (cO n&&(yL n r).isSome):=by
 unfold eE;rw[iC hfu n hB,Ik];obtain⟨o',h⟩:=walk_eq hfu n r hB.2 hB.1.1 hr;rw[h];cases cO n
 rfl;cases yL n r <;> rfl
theorem j5 (h:yL n r=some o):o.length=r.Nw.length + 1:=by
 unfold yL at h;split at h
 have:=pG h;simp only[I3,JG]at this;omega;cases h
theorem w8 (h:yL n r=some o):∀i∈r.Nw,0<=i/\i<(n.Nw.length:Int):=by
 unfold yL at h;split at h
 exact rM h;cases h
theorem lv:∀(m:Nat) (l:d_),l.Nodup->(∀x∈l,0<=x/\x<(m:Int))->l.length<=m
 | 0,l,_,h=>by
  cases l with
  | nil=>simp
  | cons x l=>have:=h x (by simp); omega
 | m + 1,l,hn,h=>by
  have h1:=lv m (l.erase (m:Int)) (hn.erase _) λx hx=>by
   have hx1:=List.mem_of_mem_erase hx
   have:=h x hx1
   refine⟨this.1,?_⟩
   have hne:x≠(m:Int):=λe=>by
    subst e
    exact (hn.not_mem_erase) hx
   omega
  rw[List.length_erase]at h1
  split at h1 <;> omega
theorem qZ {f:Pq} {v:Int} (h:0<=X_ f v):(v=f.A/\X_ f v=f.B)∨(v=f.B/\X_ f v=f.A):=by
 unfold X_ at h ⊢;split at h
 rename_i h1; rw[if_pos h1]; exact .inl ⟨h1,rfl⟩;rename_i h1;rw[if_neg h1];split at h
 rename_i h2; rw[if_pos h2]; exact .inr ⟨h2,rfl⟩;omega
theorem pH {F:List Pq} (P:Int->Prop) (hF:∀f∈F,P f.A/\P f.B):∀{fs out:d_} {v:Int} {o:d_} (U:d_),db F fs out v=some o->out.Nodup->(∀x∈out,P x)->v∈out->(∀i∈U,(gd F i.toNat f0).A∈out/\(gd F i.toNat f0).B∈out) ->
 o.Nodup/\(∀x∈o,P x)/\fs.Nodup/\∀i∈fs,i∉U
 | [],out,v,o,U,h,h1,h2,h3,h4=>by
  simp only[db,IV]at h
  subst h
  exact⟨h1,h2,.nil,by simp⟩
 | i::r,out,v,o,U,h,h1,h2,h3,h4=>by
  unfold db at h
  split at h
  case isFalse=>cases h
  rename_i hi
  split at h
  case isTrue=>cases h
  rename_i hc
  obtain⟨y,hy⟩:∃y,y=X_ (gd F i.toNat f0) v:=⟨_,rfl⟩
  rw[<-hy]at h hc
  have hy0:0<=y:=by
   rcases Classical.em (y<0) with h' | h'
   · exact absurd (.inl h') hc
   · omega
  have hny:y∉out:=λhm=>hc (.inr (IH.2 ⟨y,hm,by simp⟩))
  have hfm:gd F i.toNat f0∈F:=aR f0 (by omega)
  have hm:=qZ (f:=gd F i.toNat f0) (v:=v) (by omega)
  rw[<-hy]at hm
  have hPy:P y:=by
   rcases hm with ⟨_,e⟩ | ⟨_,e⟩ <;> rw[e]
   · exact (hF _ hfm).2
   · exact (hF _ hfm).1
  have hiU:i∉U:=λhu=>by
   have:=h4 i hu
   rcases hm with ⟨_,e⟩ | ⟨_,e⟩ <;> rw[e]at hny
   · exact hny this.2
   · exact hny this.1
  obtain⟨g1,g2,g3,g4⟩:=pH P hF (i::U) h
   (Iz.2 ⟨h1,by simp,λa ha b hb=>by rw[Iu]at hb; subst hb; exact λe=>hny (e▸ha)⟩)
   (λx hx=>by
     rcases Il.1 hx with hx | hx
     · exact h2 x hx
     · rw[Iu]at hx; subst hx; exact hPy)
   (by simp)
   (λj hj=>by
     rcases IW.1 hj with rfl | hj
     · rcases hm with ⟨e1,e2⟩ | ⟨e1,e2⟩
       · exact⟨Il.2 (.inl (e1▸h3)),Il.2 (.inr (by rw[e2]; simp))⟩
       · exact⟨Il.2 (.inr (by rw[e2]; simp)),Il.2 (.inl (e1▸h3))⟩
     · exact⟨Il.2 (.inl (h4 j hj).1),Il.2 (.inl (h4 j hj).2)⟩)
  refine⟨g1,g2,JH.2 ⟨λhm=>g4 i hm (by simp),g3⟩,λj hj=>?_⟩
  rcases IW.1 hj with rfl | hj
  · exact hiU
  · exact λhu=>g4 j hj (IP _ hu)
theorem kK (hn:NetF n) (h:yL n r=some o):o.Nodup/\(∀x∈o,0<=x/\x<(n.Nv.length:Int))/\r.Nw.Nodup/\r.Nw.length<=7/\r.Nw≠[]/\0<=r.Np/\r.Np<(n.Nv.length:Int):=by
 have hl:=j5 h;unfold yL at h;split at h
 case isFalse=>cases h
 rename_i hs;obtain⟨g1,g2,g3,_⟩:=pH (λx=>0<=x/\x<(n.Nv.length:Int)) (λf hf=>by have:=hn.each f hf; omega) [] h (by simp) (by simpa using hs.1) (by simp) (by simp);have:=lv _ _ g1 g2;have:=hn.hi;exact⟨g1,g2,g3,by omega,hs.2,hs.1⟩
end
section
theorem DN {fu:Nat} (hfu:2097153<=fu) (l:d_) (h:l.length<=2097152):∃l',bc fu l=some l'/\l'.Perm l/\l'.Pairwise λa b=>a<=b:=by
 unfold bc BI;rw[if_pos (by omega)];refine⟨_,rfl,List.mergeSort_perm _ _,?_⟩;have:=Lo (le:=λx y:Int=>decide (x<=y)) (λa b c h1 h2=>by simp only[decide_eq_true_eq]at *; omega) (λa b=>by simp only[JL,decide_eq_true_eq]; omega) l;exact this.imp λh=>by simpa using h
theorem sF:∀(l:d_) (p:Int),(p::l).Nodup->gR p l=l
 | [],_,_=>rfl
 | b::l,p,h=>by
  rw[JH]at h
  unfold gR
  rw[if_neg (λe=>h.1 (by rw[e]; exact IK)),sF l b h.2]
theorem CR (l:d_) (h:l.Nodup):nq l=l:=by
 cases l with
 | nil=>rfl
 | cons a l=>show a::gR a l=a::l; rw[sF l a h]
theorem tM {fu:Nat} (l:d_) (hn:l.Nodup) (hl:l.length<=2097152) (hfu:2097153<=fu):zH fu l=some l:=by
 unfold zH;rw[CR l hn]
def meets (a b:d_):Bool:=a.any λx=>b.any λy=>y==x
variable {fu:Nat}
theorem rp (a b:d_) (ha:a.length<=2097152) (hb:b.length<=2097152) (hfu:2097153<=fu):∀(fk i:Nat) (out:d_),a.length - i<fk->i<=a.length->out.length<=i->∃z,zo fu a b fk out i=some (out++(a.drop i).filter (λx=>b.any λy=>y==x),z):=by
 intro fk;induction fk with
 | zero=>intro i _ h; omega
 | succ fk ih =>
  intro i out hk hi ho
  rw[zo]
  by_cases h:i<a.length
  · have h':(i:Int)<(a.length:Int):=by omega
    simp only[h',decide_true,if_true,vw h,Ik,iv b a[i] (show b.length<fu by omega) hb]
    rw[<-IB h,KE]
    by_cases hc:(b.any λy=>y==a[i])=true
    · rw[if_pos hc,if_pos hc,yN (by simp; omega),Ik,vP h (by omega)]
      obtain⟨z,hz⟩:=ih (i + 1) (out++[a[i]]) (by omega) h (by simp; omega)
      exact⟨z,by rw[hz,Ir]; rfl⟩
    · rw[if_neg hc,if_neg hc,vP h (by omega)]
      exact ih (i + 1) out (by omega) h (by omega)
  · obtain rfl:i=a.length:=by omega
    have h':¬((a.length:Nat):Int)<(a.length:Int):=by omega
    simp only[h',decide_false,Iy,if_false,IX,Lr,II]
    exact⟨_,rfl⟩
theorem tG {a b:d_}:(0<(a.filter λx=>b.any λy=>y==x).length)↔meets a b=true:=by
 unfold meets;rw[List.length_pos_iff_exists_mem,IH];constructor;rintro⟨x,hx⟩;rw[Ls]at hx;exact⟨x,hx⟩;rintro⟨x,hx⟩;exact⟨x,Ls.2 hx⟩
theorem tO (a b:d_) (ha:a.length<=2097152) (hn:a.Nodup) (hb:b.length<=2097152) (hfu:2097153<=fu):∃c,dF fu a b=some c/\decide ((c.length:Int) > 0)=meets a b:=by
 unfold dF;obtain⟨z,hz⟩:=rp a b (by omega) hb hfu fu 0 [] (by omega) (by omega) (by simp);rw[show ((0:Nat):Int)=0 from rfl]at hz;simp only[hz,Ik,IY,IR];have hlen:(a.filter λx=>b.any λy=>y==x).length<=2097152:=Jo (K2 _ _) ha;obtain⟨l',h1,h2,-⟩:=DN hfu (a.filter λx=>b.any λy=>y==x) hlen;have hnd:l'.Nodup:=h2.nodup_iff.2 (hn.filter _);have hl':=h2.length_eq;rw[h1,Ik,tM l' hnd (by omega) hfu];refine⟨l',rfl,?_⟩;rw[Jf,decide_eq_true_eq,<-tG];omega
theorem Bl (a b:d_) (ha:a.length<=12) (hn:a.Nodup) (hb:b.length<=2097152) (hfu:2097153<=fu):∃c,dF fu a b=some c/\decide ((c.length:Int) > 0)=meets a b:=tO a b (by omega) hn hb hfu
end
section
theorem qL {fu:Nat} (hfu:2097153<=fu) (r:Nk) (g:d_) (hr:r.Nw.length<=2097152) (hg:g.length<=2097152):aX fu r g=some (meets r.Nw g):=by
 unfold aX;rw[yh (l:=r.Nw) (G:=zh fu r g) (λx=>g.any λy=>y==x) (λi=>true) (by omega)
  (λfk i hi=>by
    have h':(i:Int)<(r.Nw.length:Int):=by omega
    rw[zh]
    simp only[h',decide_true,if_true,vw hi,Ik,iI g r.Nw[i] (show g.length<fu by omega) hg])
  (λfk=>by rw[zh,if_neg (by simp)]) fu (by omega)]
 unfold meets;cases r.Nw.any λx=>g.any λy=>y==x <;> rfl
def yD (b:Nj):Bool:=decide (0<=b.Pk)&&(decide (1<=b.Pz)&&decide (b.Pk + b.Pz<=24))
theorem AG (fu:Nat) (b:Nj):eD fu b=some (yD b):=by
 unfold eD yD;simp only[cD,Ik];by_cases h:0<=b.Pk/\b.Pk<=23;have hc:(decide (0<=b.Pk)&&decide (b.Pk<=23))=true:=by simpa using h
 rw[uZ (by omega) (by omega)];simp only[hc,if_true,Ik,IV];rw[Jf];simp only[Iw,decide_eq_true_eq];omega;have hc:(decide (0<=b.Pk)&&decide (b.Pk<=23))=false:=by rw[IJ]; simp only[ne_eq,Iw,decide_eq_true_eq]; exact h
 simp only[hc,Iy,if_false,Ik,IV];rw[Jf];simp only[Iw,decide_eq_true_eq,Iy,false_iff];omega
theorem tB (fu:Nat) (b:Nj):aM fu b=some (yD b):=by
 unfold aM yD;simp only[xZ,Ik];by_cases h0:0<=b.Pk;by_cases h:1<=b.Pz/\b.Pz<=24;have hc:(decide (1<=b.Pz)&&decide (b.Pz<=24))=true:=by simpa using h
 rw[uZ (by omega) (by omega)];simp only[ge_iff_le,h0,hc,decide_true,if_true,Ik,IV,Jq];rw[Jf];simp only[Iw,decide_eq_true_eq];omega;have hc:(decide (1<=b.Pz)&&decide (b.Pz<=24))=false:=by rw[IJ]; simp only[ne_eq,Iw,decide_eq_true_eq]; exact h
 simp only[ge_iff_le,h0,hc,decide_true,if_true,Iy,if_false,Ik,IV];rw[Jf];simp only[Iw,decide_eq_true_eq,Iy,false_iff];omega;simp [h0]
def bits (b:Nj):Int:=(2 ^ b.Pz.toNat - 1) * 2 ^ b.Pk.toNat
theorem ly {k:Nat} (h:k<=24):(1:Int)<=2 ^ k/\(2:Int) ^ k<=16777216:=by
 have h1:(2:Nat) ^ k<=2 ^ 24:=KB (by omega) h;have h2:1<=(2:Nat) ^ k:=Nat.one_le_two_pow;have h3:((2 ^ k:Nat):Int)=2 ^ k:=by norm_cast
 omega
variable {b:Nj}
theorem kz (h:yD b=true):0<=bits b/\bits b<16777216:=by
 simp only[yD,Iw,decide_eq_true_eq]at h;have e:(2:Int) ^ b.Pz.toNat * 2 ^ b.Pk.toNat=2 ^ (b.Pz.toNat + b.Pk.toNat):=(Int.pow_add _ _ _).symm;have h1:=ly (show b.Pz.toNat<=24 by omega);have h2:=ly (show b.Pk.toNat<=24 by omega);have h3:=ly (show b.Pz.toNat + b.Pk.toNat<=24 by omega);unfold bits;rw[Int.sub_mul,e,Int.one_mul];refine⟨?_,by omega⟩;have h4:(2:Int) ^ b.Pk.toNat<=2 ^ (b.Pz.toNat + b.Pk.toNat):=by
  have:(2:Nat) ^ b.Pk.toNat<=2 ^ (b.Pz.toNat + b.Pk.toNat):=KB (by omega) (by omega)
  have e1:((2 ^ b.Pk.toNat:Nat):Int)=2 ^ b.Pk.toNat:=by norm_cast
  have e2:((2 ^ (b.Pz.toNat + b.Pk.toNat):Nat):Int)=2 ^ (b.Pz.toNat + b.Pk.toNat):=by norm_cast
  omega
 omega
theorem ot (h:yD b=true):((shl 1 b.Pz).bind λq=>(shl (y_ (q - 1)) b.Pk).bind λq2=>some q2)=some (bits b):=by
 have hb:=kz h;simp only[yD,Iw,decide_eq_true_eq]at h;have h1:=ly (show b.Pz.toNat<=24 by omega);have m1:min b.Pz.toNat 64=b.Pz.toNat:=by omega
 have m2:min b.Pk.toNat 64=b.Pk.toNat:=by omega
 unfold shl;rw[if_neg (show ¬b.Pz<0 by omega),Ik,if_neg (show ¬b.Pk<0 by omega),m1,m2,Int.one_mul,uZ (n:=2 ^ b.Pz.toNat) (by omega) (by omega),uZ (n:=2 ^ b.Pz.toNat - 1) (by omega) (by omega)];have:(2 ^ b.Pz.toNat - 1) * 2 ^ b.Pk.toNat=bits b:=rfl;rw[this,uZ (by omega) (by omega)];rfl
theorem me {fu:Nat} (h:yD b=true):bX fu b=some (bits b):=ot h
theorem lK {n:Int} (h:0<=n) (h':n<18446744073709551616):wu64 n=n:=by unfold wu64; omega
theorem ig {fu:Nat} (h:yD b=true):zu fu b=some (bits b):=by
 unfold zu;have h':=h;simp only[yD,Iw,decide_eq_true_eq]at h';rw[lK (by omega) (by omega),lK (by omega) (by omega)];exact ot h
def bn (n:Nq) (x:Nx):Bool:=(decide (1<=x.Id)&&decide (x.Id<=999))&&((yL n x.Nk).isSome&&yD x.Nj)
theorem tz {fu:Nat} (hfu:2097153<=fu) (n:Nq) (x:Nx) (hB:NetB n) (hr:x.Nk.Nw.length<=2097152):d3 fu n x=some (bn n x):=by
 unfold d3 bn;rw[nu hfu n x.Nk hB.2 hB.1.1 hr];simp only[xZ,tB,Ik];cases yL n x.Nk with
 | none=>simp
 | some o=>cases hc:(decide (1<=x.Id)&&decide (x.Id<=999)) <;> simp [hc]
theorem tu {fu:Nat} (hfu:2097153<=fu) (n:Nq) (x:Nx) (hB:NetB n) (hn:cO n=true) (hr:x.Nk.Nw.length<=2097152):dT fu n x=some (bn n x):=by
 unfold dT bn;simp only[cD,AG,AJ hfu n x.Nk hB hr,hn,Jq,Ik];cases hc:(decide (1<=x.Id)&&decide (x.Id<=999))
 simp;cases (yL n x.Nk).isSome <;> simp
def coll (a b:Nx):Bool:=meets a.Nk.Nw b.Nk.Nw&&(band (bits a.Nj) (bits b.Nj) != 0)
structure LightF (n:Nq) (x:Nx):Prop where
 nodup:x.Nk.Nw.Nodup
 short:x.Nk.Nw.length<=7
 blk:yD x.Nj=true
 route:∃o,yL n x.Nk=some o
 id:1<=x.Id/\x.Id<=999
theorem pZ {n:Nq} {x:Nx} (hn:cO n=true) (h:bn n x=true):LightF n x:=by
 unfold bn at h;simp only[Iw,decide_eq_true_eq]at h;obtain⟨h1,h2,h3⟩:=h;obtain⟨o,ho⟩:=Ke.1 h2;have hf:=kK (netF hn) ho;exact⟨hf.2.2.1,hf.2.2.2.1,h3,⟨o,ho⟩,h1⟩
theorem qb {fu:Nat} (hfu:2097153<=fu) {n:Nq} {a b:Nx} (ha:LightF n a) (hb:LightF n b):ck fu a b=some (coll a b):=by
 unfold ck coll;have h1:=ha.short;have h2:=hb.short;rw[qL hfu a.Nk b.Nk.Nw (by omega) (by omega)];simp only[ig ha.blk,ig hb.blk,Ik];cases meets a.Nk.Nw b.Nk.Nw <;> simp
theorem Gn (q m:Bool):((if q=true then some m else some false).bind λc=>some c)=some (m&&q):=by cases q <;> cases m <;> rfl
theorem tQ {fu:Nat} (hfu:2097153<=fu) {n:Nq} {a b:Nx} (ha:LightF n a) (hb:LightF n b):d5 fu a b=some (coll a b):=by
 unfold d5 coll;have h1:=ha.short;have h2:=hb.short;obtain⟨c,hc,hd⟩:=Bl (fu:=fu) a.Nk.Nw b.Nk.Nw (by omega) ha.nodup (by omega) hfu;rw[me ha.blk,Ik,me hb.blk,Ik,hc,Ik,hd];exact Gn _ _
theorem wL {α R:Type} {l:List α} {G:Nat->Int->Option (Out Int R)} (p:Nat->Bool) (r:Nat->R) (hn:(l.length:Int)<=9223372036854775807)
 (hG:∀fk (i:Nat) (h:i<l.length),(∀j,j<i->p j=false)->G (fk + 1) i=if p i=true then some (.ret (r i)) else G fk (y_ ((i:Int) + 1)))
 (hz:∀fk,G (fk + 1) l.length=some (.next (l.length:Int))):∀(fk i:Nat),l.length - i<fk->i<=l.length->(∀j,j<i->p j=false) ->
 (∃k,k<l.length/\i<=k/\p k=true/\(∀j,j<k->p j=false)/\G fk i=some (.ret (r k)))∨((∀j,j<l.length->p j=false)/\G fk i=some (.next (l.length:Int))):=by
 intro fk;induction fk with
 | zero=>intro i h; omega
 | succ fk ih =>
  intro i hk hi hp
  by_cases h:i<l.length
  · rw[hG fk i h hp]
    by_cases hc:p i=true
    · rw[if_pos hc]
      exact .inl ⟨i,h,IC _,hc,hp,rfl⟩
    · rw[if_neg hc,vP h hn]
      rw[KD]at hc
      have hp':∀j,j<i + 1->p j=false:=λj hj=>by
       rcases J5 j i with h' | h'
       · exact hp j h'
       · obtain rfl:j=i:=by omega
         exact hc
      rcases ih (i + 1) (by omega) h hp' with ⟨k,k1,k2,k3,k4,k5⟩ | ⟨h1,h2⟩
      · exact .inl ⟨k,k1,by omega,k3,k4,k5⟩
      · exact .inr ⟨h1,h2⟩
  · obtain rfl:i=l.length:=by omega
    rw[hz]
    exact .inr ⟨hp,rfl⟩
theorem ou {α R:Type} {l:List α} {G:Nat->Int->Option (Out Int R)} (p:Nat->Bool) (r:R) (hn:(l.length:Int)<=9223372036854775807)
 (hG:∀fk (i:Nat) (h:i<l.length),(∀j,j<i->p j=false)->G (fk + 1) i=if p i=true then some (.ret r) else G fk (y_ ((i:Int) + 1)))
 (hz:∀fk,G (fk + 1) l.length=some (.next (l.length:Int))) (fk:Nat) (hk:l.length<fk):G fk 0=some (if (List.range l.length).any p=true then .ret r else .next (l.length:Int)):=by
 rcases wL p (λ_=>r) hn hG hz fk 0 (by omega) (by omega) (λj h=>by omega) with ⟨k,k1,-,k3,-,k5⟩ | ⟨h1,h2⟩
 rw[if_pos (IH.2 ⟨k,I4.2 k1,k3⟩)];exact k5;rw[if_neg];exact h2;intro h;obtain⟨k,k1,k2⟩:=IH.1 h;rw[h1 k (I4.1 k1)]at k2;cases k2
def l0:Nx:=⟨0,⟨0,[]⟩,⟨0,0⟩⟩
def bh (n:Nq) (L:List Nx) (i:Nat):Bool:=!bn n (gd L i l0)||((decide (0<i)&&decide ((gd L (i - 1) l0).Id>=(gd L i l0).Id))||(L.take i).any λy=>coll y (gd L i l0))
def vR (p:Nh):Bool:=cO p.Nq&&(decide (p.Nz.length<=12)&&!((List.range p.Nz.length).any (bh p.Nq p.Nz)))
def bB (p:Nh):Prop:=NetB p.Nq/\p.Nz.length<=2097152/\∀x∈p.Nz,x.Nk.Nw.length<=2097152
theorem Ab {n:Nq} {L:List Nx} {i:Nat} (h:i<L.length) (hp:∀j,j<i->bh n L j=false):∀y∈L.take i,bn n y=true:=by
 intro y hy;obtain⟨j,hj,rfl⟩:=IF.1 hy;rw[Is]at hj;rw[Ja];have:=hp j (by omega);unfold bh at this;rw[JC,bv l0 (show j<L.length by omega)]at this;simpa using this.1
variable {fu:Nat}
theorem qw (hfu:2097153<=fu) {n:Nq} (l:List Nx) (x:Nx) (hl:l.length<=2097152) (hL:∀y∈l,LightF n y) (hx:LightF n x):uN fu l x=some (l.any λy=>coll y x):=by
 unfold uN u9;rw[yh (l:=l) (G:=uz fu l x) (λy=>coll y x) (λi=>(i:Int)) (by omega)
  (λfk i hi=>by
    have h':(i:Int)<(l.length:Int):=by omega
    rw[uz]
    simp only[h',decide_true,if_true,vw hi,Ik,bu,tQ hfu (hL _ (IE hi)) hx])
  (λfk=>by rw[uz,if_neg (by simp)]) fu (by omega)]
 cases l.any λy=>coll y x <;> simp [Out.on]
theorem eX (hfu:2097153<=fu) (p:Nh) (hB:bB p):xV fu p=some (vR p):=by
 obtain⟨hN,hL,hR⟩:=hB;unfold xV vR;rw[iJ hfu _ hN,Ik];cases hn:cO p.Nq
 rfl;simp only[Jp,Iy,if_false,Ik,Jq];by_cases h12:p.Nz.length<=12;have h12':¬(p.Nz.length:Int) > 12:=by omega
 simp only[h12',decide_false,Iy,if_false,h12,decide_true,Jq];rw[ou (l:=p.Nz) (G:=xy fu p) (bh p.Nq p.Nz) false (by omega)
  (λfk i hi hp=>by
    have h':(i:Int)<(p.Nz.length:Int):=by omega
    have hr:=hR _ (aR l0 hi)
    rw[xy]
    simp only[h',decide_true,if_true,yb l0 hi,Ik,tz hfu _ _ hN hr,gi (show i<=p.Nz.length by omega)]
    by_cases hl:bn p.Nq (gd p.Nz i l0)=true
    · have hf:=pZ hn hl
      have hc:=qw hfu (p.Nz.take i) (gd p.Nz i l0) (by simp; omega) (λy hy=>pZ hn (Ab hi hp y hy)) hf
      simp only[bh,hl,Jp,Iy,if_false,hc,Ik,JV]
      by_cases h0:0<i
      · have h0':(i:Int) > 0:=by omega
        simp only[h0',h0,decide_true,if_true,fD h0 (show i<=2097152 by omega),yb l0 (show i - 1<p.Nz.length by omega),Ik,Jq]
        by_cases hid:(gd p.Nz (i - 1) l0).Id>=(gd p.Nz i l0).Id
        · simp [hid]
        · simp only[hid,decide_false,Iy,if_false,JV,Ik]
      · have h0':¬(i:Int) > 0:=by omega
        simp only[h0',h0,decide_false,Iy,if_false,K7,JV,Ik]
    · rw[KD]at hl
      simp [bh,hl])
  (λfk=>by rw[xy,if_neg (by simp)]) fu (by omega)]
 cases (List.range p.Nz.length).any (bh p.Nq p.Nz) <;> rfl;have h12':(p.Nz.length:Int) > 12:=by omega
 simp [h12',h12]
theorem qR (hfu:2097153<=fu) (p:Nh) (hB:bB p):ez fu p=some (vR p):=by
 obtain⟨hN,hL,hR⟩:=hB;unfold ez vR;rw[iC hfu _ hN,Ik];cases hn:cO p.Nq
 · rfl
 · simp only[Jp,Iy,if_false,Ik,Jq]
   by_cases h12:p.Nz.length<=12
   · have h12':¬(p.Nz.length:Int) > 12:=by omega
     simp only[h12',decide_false,Iy,if_false,h12,decide_true,Jq]
     rw[ou (l:=p.Nz) (G:=ze fu p) (bh p.Nq p.Nz) false (by omega)
      (λfk i hi hp=>by
        have h':(i:Int)<(p.Nz.length:Int):=by omega
        have hr:=hR _ (aR l0 hi)
        rw[ze]
        simp only[h',decide_true,if_true,yb l0 hi,Ik,tu hfu _ _ hN hn hr]
        by_cases hl:bn p.Nq (gd p.Nz i l0)=true
        · have hf:=pZ hn hl
          have hc:yG fu p i fu 0=some (if (List.range (p.Nz.take i).length).any (λk=>coll (gd p.Nz k l0) (gd p.Nz i l0))=true then .ret false else .next ((p.Nz.take i).length:Int)) :=
           ou (l:=p.Nz.take i) (G:=yG fu p i) (λk=>coll (gd p.Nz k l0) (gd p.Nz i l0)) false (by simp; omega)
            (λfk k hk _=>by
              have hk':k<i:=by simp at hk; omega
              have hk2:(k:Int)<(i:Int):=by omega
              have hfk:=pZ hn (Ab hi hp (gd p.Nz k l0) (by
               rw[bv l0 (show k<p.Nz.length by omega)]
               refine IF.2 ⟨k,hk,by rw[Ja]⟩))
              rw[yG]
              simp only[hk2,decide_true,if_true,yb l0 hi,yb l0 (show k<p.Nz.length by omega),Ik,qb hfu hfk hf])
            (λfk=>by
              have:(p.Nz.take i).length=i:=by simp; omega
              rw[this,yG,if_neg (by simp)]) fu (by simp; omega)
          have ha:(List.range (p.Nz.take i).length).any (λk=>coll (gd p.Nz k l0) (gd p.Nz i l0))=(p.Nz.take i).any λy=>coll y (gd p.Nz i l0):=by
           rw[Jf,IH,IH]
           constructor
           · rintro⟨k,k1,k2⟩
             have k1':=I4.1 k1
             have hk':k<i:=by simp at k1'; omega
             rw[bv l0 (show k<p.Nz.length by omega)]at k2
             exact⟨_,IF.2 ⟨k,k1',by rw[Ja]⟩,k2⟩
           · rintro⟨y,y1,y2⟩
             obtain⟨k,k1,rfl⟩:=IF.1 y1
             have hk':k<i:=by simp at k1; omega
             refine⟨k,I4.2 k1,?_⟩
             rw[bv l0 (show k<p.Nz.length by omega)]
             rw[Ja]at y2
             exact y2
          rw[ha]at hc
          simp only[bh,hl,Jp,Iy,if_false,hc,Ik,JV]
          by_cases h0:0<i
          · have h0':(i:Int) > 0:=by omega
            simp only[h0',h0,decide_true,if_true,fD h0 (show i<=2097152 by omega),yb l0 (show i - 1<p.Nz.length by omega),Ik,Jq]
            by_cases hid:(gd p.Nz (i - 1) l0).Id>=(gd p.Nz i l0).Id
            · simp [hid]
            · simp only[hid,decide_false,Iy,if_false,JV,Ik]
              cases (p.Nz.take i).any λy=>coll y (gd p.Nz i l0) <;> rfl
          · have h0':¬(i:Int) > 0:=by omega
            simp only[h0',h0,decide_false,Iy,if_false,K7,JV,Ik]
            cases (p.Nz.take i).any λy=>coll y (gd p.Nz i l0) <;> rfl
        · rw[KD]at hl
          simp [bh,hl])
      (λfk=>by rw[ze,if_neg (by simp)]) fu (by omega)]
     cases (List.range p.Nz.length).any (bh p.Nq p.Nz) <;> rfl
   · have h12':(p.Nz.length:Int) > 12:=by omega
     simp [h12',h12]
structure PlanF (p:Nh):Prop where
 net:cO p.Nq=true
 short:p.Nz.length<=12
 light:∀x∈p.Nz,LightF p.Nq x
theorem iU {p:Nh} (h:vR p=true):PlanF p:=by
 unfold vR at h;simp only[Iw,decide_eq_true_eq,IZ]at h;obtain⟨h1,h2,h3⟩:=h;refine⟨h1,h2,λx hx=>?_⟩;obtain⟨i,hi,rfl⟩:=IF.1 hx;rw[IJ]at h3;have h6:bh p.Nq p.Nz i=false:=by
  rw[IJ]
  intro h7
  exact h3 (IH.2 ⟨i,I4.2 hi,h7⟩)
 unfold bh at h6;rw[JC,bv l0 hi]at h6;exact pZ h1 (by simpa using h6.1)
end
section
def MK (m:Int):Prop:=0<=m/\m<16777216
theorem jE {m:Int} (h:MK m):(BitVec.ofInt 64 m).toNat=m.toNat:=by
 rw[BitVec.toNat_ofInt];have:((2 ^ 64:Nat):Int)=18446744073709551616:=by decide
 rw[this];unfold MK at h;omega
variable {a b:Int}
theorem iw (ha:MK a) (hb:MK b):band a b=((a.toNat &&& b.toNat:Nat):Int):=by
 unfold band;rw[Lk,jE ha,jE hb];have h1:a.toNat &&& b.toNat<2 ^ 24:=La _ (by unfold MK at hb; omega);exact uZ (by omega) (by omega)
theorem Bo (ha:MK a) (hb:MK b):D0 a b=((a.toNat ||| b.toNat:Nat):Int):=by
 unfold D0;rw[BitVec.toNat_or,jE ha,jE hb];have h1:a.toNat ||| b.toNat<2 ^ 24:=Nat.or_lt_two_pow (by unfold MK at ha; omega) (by unfold MK at hb; omega)
 exact uZ (by omega) (by omega)
theorem mJ (ha:MK a) (hb:MK b):MK (D0 a b):=by
 rw[Bo ha hb];have h1:a.toNat ||| b.toNat<2 ^ 24:=Nat.or_lt_two_pow (by unfold MK at ha; omega) (by unfold MK at hb; omega)
 unfold MK;omega
theorem mk0:MK 0:=by unfold MK; omega
def apart (a b:Int):Bool:=band a b==0
theorem mM {c:Int} (ha:MK a) (hb:MK b) (hc:MK c):apart (D0 a b) c=(apart a c&&apart b c):=by
 unfold apart;rw[iw (mJ ha hb) hc,iw ha hc,iw hb hc,Bo ha hb,IQ,Nat.and_or_distrib_right];rw[Jf];simp only[beq_iff_eq,Iw,Int.natCast_eq_zero,Nat.or_eq_zero_iff]
theorem kC {c:Int} (hc:MK c):apart 0 c=true:=by
 unfold apart;rw[iw mk0 hc];simp
theorem ky {b:Nj} (h:yD b=true):MK (bits b):=kz h
theorem bits_nat {b:Nj} (h:yD b=true):(bits b).toNat=(2 ^ b.Pz.toNat - 1) * 2 ^ b.Pk.toNat:=by
 have h1:1<=(2:Nat) ^ b.Pz.toNat:=Nat.one_le_two_pow;have:bits b=(((2 ^ b.Pz.toNat - 1) * 2 ^ b.Pk.toNat:Nat):Int):=by
  unfold bits
  rw[Int.natCast_mul,Int.natCast_sub h1]
  norm_cast
 rw[this,IQ]
theorem qD {b:Nj} (h:yD b=true) (j:Nat):(bits b).toNat.testBit j=(decide (b.Pk.toNat<=j)&&decide (j - b.Pk.toNat<b.Pz.toNat)):=by
 rw[bits_nat h,Nat.testBit_mul_two_pow,Nat.testBit_two_pow_sub_one]
theorem tq (a b:d_):meets a b=meets b a:=by
 rw[Jf];unfold meets;simp only[IH,beq_iff_eq];constructor;rintro⟨x,hx,y,hy,rfl⟩; exact⟨y,hy,y,hx,rfl⟩;rintro⟨x,hx,y,hy,rfl⟩; exact⟨y,hy,y,hx,rfl⟩
def O1 (l:d_) (f:Int):Bool:=l.any λx=>x==f
def used (L:List Nx) (f:Int):Int:=L.foldl (λo y=>if O1 y.Nk.Nw f=true then D0 o (bits y.Nj) else o) 0
def along (L:List Nx) (fs:d_):Int:=fs.foldl (λo f=>D0 o (used L f)) 0
variable {L:List Nx}
theorem pq (hL:∀y∈L,yD y.Nj=true) (f:Int) {c:Int} (hc:MK c):∀{o:Int},MK o->MK (L.foldl (λo y=>if O1 y.Nk.Nw f=true then D0 o (bits y.Nj) else o) o)/\apart (L.foldl (λo y=>if O1 y.Nk.Nw f=true then D0 o (bits y.Nj) else o) o) c=(apart o c&&L.all λy=>!O1 y.Nk.Nw f||apart (bits y.Nj) c):=by
 induction L with
 | nil=>intro o ho; exact⟨ho,by simp⟩
 | cons y L ih =>
  intro o ho
  have hb:=ky (hL y (by simp))
  have ih':=@ih (λz hz=>hL z (by simp [hz]))
  simp only[Jr,LC]
  by_cases h:O1 y.Nk.Nw f=true
  · simp only[h,if_true,Jp,JV]
    have:=ih' (mJ ho hb)
    rw[mM ho hb hc]at this
    exact⟨this.1,by rw[this.2,Lt]⟩
  · rw[KD]at h
    simp only[h,Iy,if_false,Bool.not_false,Lp,Jq]
    exact ih' ho
theorem wn (hL:∀y∈L,yD y.Nj=true) (f:Int):MK (used L f):=(pq hL f mk0 mk0).1
theorem sN (hL:∀y∈L,yD y.Nj=true) (f:Int) {c:Int} (hc:MK c):apart (used L f) c=L.all λy=>!O1 y.Nk.Nw f||apart (bits y.Nj) c:=by
 have:=(pq hL f hc mk0).2;rw[kC hc,Jq]at this;exact this
theorem kD {L:List Nx} (hL:∀y∈L,yD y.Nj=true) {c:Int} (hc:MK c):∀(fs:d_) {o:Int},MK o->MK (fs.foldl (λo f=>D0 o (used L f)) o)/\apart (fs.foldl (λo f=>D0 o (used L f)) o) c=(apart o c&&fs.all λf=>apart (used L f) c)
 | [],o,ho=>⟨ho,by simp⟩
 | f::fs,o,ho=>by
  have hu:=wn hL f
  have:=kD hL hc fs (mJ ho hu)
  rw[mM ho hu hc]at this
  simp only[Jr,LC]
  exact⟨this.1,by rw[this.2,Lt]⟩
theorem lH (hL:∀y∈L,yD y.Nj=true) (fs:d_):MK (along L fs):=(kD hL mk0 fs mk0).1
theorem rA (hL:∀y∈L,yD y.Nj=true) (fs:d_) {c:Int} (hc:MK c):apart (along L fs) c=L.all λy=>!(meets y.Nk.Nw fs&&!apart (bits y.Nj) c):=by
 have h:=(kD hL hc fs mk0).2;rw[kC hc,Jq]at h;unfold along;rw[h,Jf];simp only[Jg,sN hL _ hc,JL,IZ,K1,Ki];constructor;intro hh y hy;rcases Li (meets y.Nk.Nw fs) with hm | hm
 right;unfold meets at hm;simp only[IH,beq_iff_eq]at hm;obtain⟨x,hx,z,hz,rfl⟩:=hm;rcases hh z hz y hy with h1 | h1
 unfold O1 at h1;rw[IJ]at h1;exact absurd (IH.2 ⟨z,hx,by simp⟩) h1;exact h1;exact .inl hm;intro hh f hf y hy;rcases hh y hy with h1 | h1
 left;rw[IJ]at h1 ⊢;intro h2;unfold O1 at h2;simp only[IH,beq_iff_eq]at h2;obtain⟨x,hx,rfl⟩:=h2;exact h1 (IH.2 ⟨x,hx,IH.2 ⟨x,hf,by simp⟩⟩);exact .inr h1
end
section
theorem wo {fu:Nat} (hfu:2097153<=fu) (p:Nh) (f:Int) (hl:p.Nz.length<=2097152) (hb:∀y∈p.Nz,yD y.Nj=true) (hr:∀x∈p.Nz,x.Nk.Nw.length<=2097152):∀(fk i:Nat) (o:Int),i<=p.Nz.length->p.Nz.length - i<fk ->
 ∃z,zd fu p f fk o i=some ((p.Nz.drop i).foldl (λo y=>if O1 y.Nk.Nw f=true then D0 o (bits y.Nj) else o) o,z):=by
 intro fk;induction fk with
 | zero=>intro i _ _ h; omega
 | succ fk ih =>
  intro i o hi hk
  rw[zd]
  by_cases h:i<p.Nz.length
  · have h':(i:Int)<(p.Nz.length:Int):=by omega
    have hm:=IE h
    have hr':=hr _ hm
    simp only[h',decide_true,if_true,vw h,Ik,iI _ f (show p.Nz[i].Nk.Nw.length<fu by omega) hr',ig (hb _ hm)]
    rw[<-IB h,Jr,vP h (by omega)]
    have e:(p.Nz[i].Nk.Nw.any λx=>x==f)=O1 p.Nz[i].Nk.Nw f:=rfl
    rw[e]
    by_cases hc:O1 p.Nz[i].Nk.Nw f=true
    · rw[if_pos hc,if_pos hc]
      exact ih (i + 1) _ h (by omega)
    · rw[if_neg hc,if_neg hc]
      exact ih (i + 1) _ h (by omega)
  · obtain rfl:i=p.Nz.length:=by omega
    rw[if_neg (by simp),IX]
    exact⟨_,rfl⟩
theorem AE {fu:Nat} (hfu:2097153<=fu) (p:Nh) (f:Int) (hl:p.Nz.length<=2097152) (hb:∀y∈p.Nz,yD y.Nj=true) (hr:∀x∈p.Nz,x.Nk.Nw.length<=2097152):ey fu p f=some (used p.Nz f):=by
 unfold ey;obtain⟨z,hz⟩:=wo hfu p f hl hb hr fu 0 0 (by omega) (by omega);rw[show ((0:Nat):Int)=0 from rfl,IR]at hz;rw[hz];rfl
end
section
theorem ed {α:Type} {l:List α} (h:l.length<=1099511627776):C_ ([]:List α) l=some l:=by rw[yN (by simpa using h)]; rfl
theorem jJ (fu:Nat) (x:Nx) (h:x.Nk.Nw.length<=2097152):bO fu x=some x:=by
 unfold bO cI bD;rw[ed (by omega)];rfl
variable {fu:Nat}
theorem B4 (p:Nh) (hl:p.Nz.length<=2097152) (hr:∀x∈p.Nz,x.Nk.Nw.length<=2097152):∀(fk i:Nat) (m:List Nx),i<=p.Nz.length->p.Nz.length - i<fk->m.length<=i->∃z,aW fu p fk i m=some (z,m++p.Nz.drop i):=by
 intro fk;induction fk with
 | zero=>intro i _ _ h; omega
 | succ fk ih =>
  intro i m hi hk hm
  rw[aW]
  by_cases h:i<p.Nz.length
  · have h':(i:Int)<(p.Nz.length:Int):=by omega
    simp only[h',decide_true,if_true,vw h,Ik,jJ fu _ (hr _ (IE h))]
    rw[yN (by simp; omega),Ik,vP h (by omega)]
    obtain⟨z,hz⟩:=ih (i + 1) (m++[p.Nz[i]]) h (by omega) (by simp; omega)
    refine⟨z,?_⟩
    rw[hz,Ir,<-IB h]
    rfl
  · obtain rfl:i=p.Nz.length:=by omega
    rw[if_neg (by simp),IX,II]
    exact⟨_,rfl⟩
theorem jI (hfu:2097153<=fu) (p:Nh) (hB:bB p):cH fu p=some p:=by
 obtain⟨hN,hL,hR⟩:=hB;unfold cH iB;have h1:=hN.1.1;have h2:=hN.2;rw[ed (by omega),Ik,ed (by omega)];obtain⟨z,hz⟩:=B4 (fu:=fu) p hL hR fu 0 [] (by omega) (by omega) (by simp);rw[show ((0:Nat):Int)=0 from rfl]at hz;simp only[Ik,hz,IY,IR]
theorem tZ (hfu:2097153<=fu) (p:Nh) (r:Nk) (hl:p.Nz.length<=2097152) (hb:∀y∈p.Nz,yD y.Nj=true) (hr:∀x∈p.Nz,x.Nk.Nw.length<=2097152) (hrl:r.Nw.length<=2097152):∀(fk i:Nat) (o:Int),i<=r.Nw.length->r.Nw.length - i<fk ->
 ∃z,zt fu p r fk o i=some ((r.Nw.drop i).foldl (λo f=>D0 o (used p.Nz f)) o,z):=by
 intro fk;induction fk with
 | zero=>intro i _ _ h; omega
 | succ fk ih =>
  intro i o hi hk
  rw[zt]
  by_cases h:i<r.Nw.length
  · have h':(i:Int)<(r.Nw.length:Int):=by omega
    simp only[h',decide_true,if_true,vw h,Ik,AE hfu p _ hl hb hr]
    rw[<-IB h,Jr,vP h (by omega)]
    exact ih (i + 1) _ h (by omega)
  · obtain rfl:i=r.Nw.length:=by omega
    rw[if_neg (by simp),IX]
    exact⟨_,rfl⟩
theorem iG (hfu:2097153<=fu) (p:Nh) (r:Nk) (hl:p.Nz.length<=2097152) (hb:∀y∈p.Nz,yD y.Nj=true) (hr:∀x∈p.Nz,x.Nk.Nw.length<=2097152) (hrl:r.Nw.length<=2097152):zR fu p r=some (along p.Nz r.Nw):=by
 unfold zR;obtain⟨z,hz⟩:=tZ hfu p r hl hb hr hrl fu 0 0 (by omega) (by omega);rw[show ((0:Nat):Int)=0 from rfl,IR]at hz;rw[hz];rfl
def fits (m C:Int):d_:=((List.range' 0 (25 - C.toNat)).filter λt:Nat=>apart m (bits ⟨(t:Int),C⟩)).map λt:Nat=>(t:Int)
theorem Bc (m C:Int) (N:Nat) (hN:(N:Int) + C=25) (h1:1<=C):∀(fk k s:Nat) (out:d_),N=s + k->k<fk->out.length<=s ->
 ∃z,zf fu m C fk out s=some (out++(((List.range' s k).filter λt:Nat=>apart m (bits ⟨(t:Int),C⟩)).map λt:Nat=>(t:Int)),z):=by
 intro fk;induction fk with
 | zero=>intro k s _ _ h; omega
 | succ fk ih =>
  intro k s out hs hk ho
  have hw0:y_ ((s:Int) + C)=(s:Int) + C:=uZ (by omega) (by omega)
  rw[zf,hw0]
  clear hw0
  cases k with
  | zero =>
   have h':¬(s:Int) + C<=24:=by omega
   simp only[h',decide_false,Iy,if_false,List.range'_zero,Lr,Ka,II]
   exact⟨_,rfl⟩
  | succ k =>
   have h':(s:Int) + C<=24:=by omega
   have hb:yD ⟨(s:Int),C⟩=true:=by simp only[yD,Iw,decide_eq_true_eq]; omega
   obtain⟨c,hc⟩:∃c,apart m (bits ⟨(s:Int),C⟩)=c:=⟨_,rfl⟩
   obtain⟨b,hb1,hb2⟩:∃b,zu fu ⟨(s:Int),C⟩=some b/\(band m b==0)=c:=⟨_,ig hb,hc⟩
   have hw:y_ ((s:Int) + 1)=((s + 1:Nat):Int):=by rw[uZ (by omega) (by omega)]; omega
   rw[List.range'_succ,KE,hc,hb1]
   clear hb1 hc hb
   rw[if_pos (by simpa using h'),Ik,hb2,hw]
   clear hw hb2
   cases c
   · rw[if_neg (by decide),if_neg (by decide)]
     exact ih k (s + 1) out (by omega) (by omega) (by omega)
   · have ha:C_ out [(s:Int)]=some (out++[(s:Int)]):=yN (by simp; omega)
     rw[if_pos rfl,if_pos rfl,ha,Ik]
     obtain⟨z,hz⟩:=ih k (s + 1) (out++[(s:Int)]) (by omega) (by omega) (by simp; omega)
     exact⟨z,by rw[hz,Je,Ir,JF]⟩
theorem mi (hfu:2097153<=fu) (m C:Int) (h1:1<=C) (h2:C<=24):cC fu m C=some (fits m C):=by
 unfold cC fits;obtain⟨N,hN⟩:∃N,N=25 - C.toNat:=⟨_,rfl⟩;rw[<-hN];obtain⟨z,hz⟩:=Bc (fu:=fu) m C N (by omega) h1 fu N 0 [] (by omega) (by omega) (by simp);rw[show ((0:Nat):Int)=0 from rfl]at hz;rw[hz];rfl
theorem lE {m C:Int} {s:Int} (h1:1<=C) (h2:C<=24):s∈fits m C↔0<=s/\s + C<=24/\apart m (bits ⟨s,C⟩)=true:=by
 unfold fits;simp only[Jc,Ls,List.mem_range'_1];constructor;rintro⟨t,⟨⟨-,ht⟩,ha⟩,rfl⟩;exact⟨by omega,by omega,ha⟩;rintro⟨h0,h3,ha⟩;refine⟨s.toNat,⟨⟨by omega,by omega⟩,?_⟩,by omega⟩;rw[Jk h0];exact ha
theorem oP (m C:Int):(fits m C).length<=25:=by
 unfold fits;rw[I5];refine Jo (K2 _ _) ?_;rw[List.length_range'];omega
structure PlanI (p:Nh):Prop where
 ids:∀i j,i<j->j<p.Nz.length->(gd p.Nz i l0).Id<(gd p.Nz j l0).Id
theorem Ea {p:Nh} (h:vR p=true):PlanI p:=by
 unfold vR at h;simp only[Iw,decide_eq_true_eq,IZ]at h;obtain⟨h1,h2,h3⟩:=h;rw[IJ]at h3;have adj:∀j,0<j->j<p.Nz.length->(gd p.Nz (j - 1) l0).Id<(gd p.Nz j l0).Id:=λj h0 hj=>by
  have h6:bh p.Nq p.Nz j=false:=by
   rw[IJ]
   intro h7
   exact h3 (IH.2 ⟨j,I4.2 hj,h7⟩)
  unfold bh at h6
  rw[JC,JC]at h6
  have:=h6.2.1
  simp only[h0,decide_true,Jq,decide_eq_false_iff_not]at this
  omega
 refine⟨λi j=>?_⟩;induction j with
 | zero=>intro h; omega
 | succ j ih =>
  intro hij hj
  have:=adj (j + 1) (by omega) hj
  rw[KT]at this
  rcases J5 i j with h' | h'
  · have:=ih h' (by omega)
    omega
  · obtain rfl:i=j:=by omega
    exact this
end
section
theorem x7 {p:Nh}:vR p=true↔cO p.Nq=true/\p.Nz.length<=12/\(∀x∈p.Nz,bn p.Nq x=true)/\p.Nz.Pairwise (λa b=>a.Id<b.Id/\coll a b=false):=by
 constructor;intro h;have hI:=Ea h;have h':=h;unfold vR at h;simp only[Iw,decide_eq_true_eq,IZ]at h;obtain⟨h1,h2,h3⟩:=h;have hb:∀j,j<p.Nz.length->bh p.Nq p.Nz j=false:=λj hj=>by
  rw[IJ]
  intro h7
  rw[IJ]at h3
  exact h3 (IH.2 ⟨j,I4.2 hj,h7⟩)
 refine⟨h1,h2,λx hx=>?_,Jt.2 λi j hi hj hij=>⟨?_,?_⟩⟩;obtain⟨i,hi,rfl⟩:=IF.1 hx;have:=hb i hi;unfold bh at this;rw[JC,bv l0 hi]at this;simpa using this.1;have:=hI.ids i j hij hj;rwa [bv l0 hi,bv l0 hj]at this;have:=hb j hj;unfold bh at this;rw[JC,JC,bv l0 hj]at this;rw[IJ];intro hc;have h5:=this.2.2;rw[IJ]at h5;exact h5 (IH.2 ⟨p.Nz[i],IF.2 ⟨i,by rw[Is]; omega,by rw[Ja]⟩,hc⟩);rintro⟨h1,h2,h3,h4⟩;rw[Jt]at h4;unfold vR;simp only[Iw,decide_eq_true_eq,IZ];refine⟨h1,h2,?_⟩;rw[IJ];intro h;obtain⟨j,hj,hb⟩:=IH.1 h;have hj':=I4.1 hj;unfold bh at hb;rw[JL,JL,bv l0 hj',h3 _ (IE hj')]at hb;rcases hb with hb | hb | hb
 cases hb;simp only[Iw,decide_eq_true_eq]at hb;rw[bv l0 (show j - 1<p.Nz.length by omega)]at hb;have:=(h4 (j - 1) j (by omega) hj' (by omega)).1;omega;obtain⟨y,hy,hc⟩:=IH.1 hb;obtain⟨i,hi,rfl⟩:=IF.1 hy;rw[Is]at hi;rw[Ja,(h4 i j (by omega) hj' (by omega)).2]at hc;cases hc
end
section
def atId (L:List Nx) (id:Int):Nat:=L.findIdx λy=>y.Id==id
theorem mL {L:List Nx} {id:Int} (h:(L.any λy=>y.Id==id)=true):atId L id<L.length:=by
 unfold atId;rw[List.findIdx_lt_length];obtain⟨x,hx,hc⟩:=IH.1 h;exact⟨x,hx,hc⟩
theorem AF {fu:Nat} (p:Nh) (id:Int) (h:p.Nz.length<fu) (hn:p.Nz.length<=2097152):gj fu p id=some (if p.Nz.any (λy=>y.Id==id) then ((atId p.Nz id:Nat):Int) else -1):=by
 unfold gj;rw[yh (l:=p.Nz) (G:=cj fu p id) (λy=>y.Id==id) (λi=>(i:Int)) (by omega)
  (λfk i hi=>by
    have h':(i:Int)<(p.Nz.length:Int):=by omega
    rw[cj]
    simp only[h',decide_true,if_true,vw hi,Ik])
  (λfk=>by rw[cj,if_neg (by simp)]) fu h]
 unfold atId;cases p.Nz.any λy=>y.Id==id <;> rfl
theorem ka {fu:Nat} (p:Nh) (id:Int) (h:p.Nz.length<fu) (hn:p.Nz.length<=2097152):bY fu p id=some (if p.Nz.any (λy=>y.Id==id) then ((atId p.Nz id:Nat):Int) else -1):=by
 unfold bY vd;rw[yh (l:=p.Nz) (G:=uE fu p.Nz id) (λy=>y.Id==id) (λi=>(i:Int)) (by omega)
  (λfk i hi=>by
    have h':(i:Int)<(p.Nz.length:Int):=by omega
    rw[uE]
    simp only[h',decide_true,if_true,vw hi,Ik,dd])
  (λfk=>by rw[uE,if_neg (by simp)]) fu h]
 unfold atId;cases p.Nz.any λy=>y.Id==id <;> rfl
end
section
variable {G:Nat->Int->Option Int}
theorem Bd {α:Type} {l:List α} (p:α->Bool) (hn:(l.length:Int)<=9223372036854775807)
 (hG:∀fk (i:Nat) (h:i<l.length),G (fk + 1) i=if p l[i]=true then some (i:Int) else G fk (y_ ((i:Int) + 1)))
 (hz:∀fk,G (fk + 1) l.length=some (l.length:Int)):∀(fk i:Nat),l.length - i<fk->i<=l.length->G fk i=some ((i + (l.drop i).findIdx p:Nat):Int):=by
 intro fk;induction fk with
 | zero=>intro i h; omega
 | succ fk ih =>
  intro i hk hi
  by_cases h:i<l.length
  · rw[hG fk i h,<-IB h,Le]
    by_cases hp:p l[i]=true
    · simp [hp]
    · simp only[hp,Iy,if_false,cond_false]
      rw[vP h hn,ih (i + 1) (by omega) h]
      congr 2
      omega
  · obtain rfl:i=l.length:=by omega
    rw[hz,IX]; rfl
theorem CF {α:Type} {l:List α} (p:α->Bool) (hn:(l.length:Int)<=9223372036854775807)
 (hG:∀fk (i:Nat) (h:i<l.length),G (fk + 1) i=if p l[i]=true then some (i:Int) else G fk (y_ ((i:Int) + 1)))
 (hz:∀fk,G (fk + 1) l.length=some (l.length:Int)) (fk:Nat) (hk:l.length<fk):G fk 0=some ((l.findIdx p:Nat):Int):=by
 have:=Bd p hn hG hz fk 0 (by omega) (by omega);simpa using this
def gA (L:List Nx) (id:Int):Nat:=L.findIdx λy=>!decide (y.Id<id)
def putL (L:List Nx) (x:Nx):List Nx:=L.take (gA L x.Id)++x::L.drop (gA L x.Id)
theorem lD (L:List Nx) (id:Int):gA L id<=L.length:=List.findIdx_le_length
theorem lw (L:List Nx) (x:Nx):(putL L x).length=L.length + 1:=by
 have:=lD L x.Id;unfold putL;rw[Ip,I3,Is,IT];omega
variable {L:List Nx}
theorem gv {x y:Nx}:y∈putL L x↔y=x∨y∈L:=by
 unfold putL;rw[Il,IW];constructor;rintro (h | h | h)
 exact .inr (K5 h);exact .inl h;exact .inr (Kz h);rintro (h | h)
 exact .inr (.inl h);rw[<-IS (gA L x.Id) L,Il]at h;rcases h with h | h
 exact .inl h;exact .inr (.inr h)
theorem kB {id:Int} (h:(L.any λy=>y.Id==id)=true):(gd L (atId L id) l0).Id=id:=by
 have hl:=mL h;rw[bv l0 hl];have:=List.findIdx_getElem (w:=hl);rw[beq_iff_eq]at this;exact this
end
section
theorem kP (fu:Nat) (r:Nk) (h:r.Nw.length<=2097152):bH fu r=some r:=by
 unfold bH;rw[ed (by omega)];rfl
theorem Bh {fu:Nat} (p:Nh) (hl:p.Nz.length<=2097152) (hr:∀x∈p.Nz,x.Nk.Nw.length<=2097152):∀(fk i:Nat) (m:List Nx),i<=p.Nz.length->p.Nz.length - i<fk->m.length<=i->∃z,yW fu p fk i m=some (z,m++p.Nz.drop i):=by
 intro fk;induction fk with
 | zero=>intro i _ _ h; omega
 | succ fk ih =>
  intro i m hi hk hm
  rw[yW]
  by_cases h:i<p.Nz.length
  · have h':(i:Int)<(p.Nz.length:Int):=by omega
    simp only[h',decide_true,if_true,vw h,Ik,kP fu _ (hr _ (IE h))]
    rw[yN (by simp; omega),Ik,vP h (by omega)]
    obtain⟨z,hz⟩:=ih (i + 1) (m++[p.Nz[i]]) h (by omega) (by simp; omega)
    refine⟨z,?_⟩
    rw[hz,Ir,<-IB h]
    rfl
  · obtain rfl:i=p.Nz.length:=by omega
    rw[if_neg (by simp),IX,II]
    exact⟨_,rfl⟩
theorem eZ {fu:Nat} (hfu:2097153<=fu) (p:Nh) (hB:bB p):aj fu p=some p:=by
 obtain⟨hN,hL,hR⟩:=hB;unfold aj cB;have h1:=hN.1.1;have h2:=hN.2;rw[ed (by omega),Ik,ed (by omega)];obtain⟨z,hz⟩:=Bh (fu:=fu) p hL hR fu 0 [] (by omega) (by omega) (by simp);rw[show ((0:Nat):Int)=0 from rfl]at hz;simp only[Ik,hz,IY,IR]
theorem nL {α:Type} {l:List α} {i j:Nat} {x d:α}:gd (l.set i x) j d=if i=j/\j<l.length then x else gd l j d:=by
 unfold gd;rw[Lf];by_cases h:i=j;subst h;by_cases h':i<l.length;simp [h'];simp [h'];simp [h]
end
section
def addP (p:Nh) (x:Nx):Nh:={ Nq:=p.Nq,Nz:=putL p.Nz x }
theorem nK (L:List Nx) (id:Int) (G:Nat->Int->Option Int) (hl:L.length<=2097152) (hG:∀fk i,G (fk + 1) i=((if decide (i<(L.length:Int))=true then (V_ L i).bind λe=>some (decide (e.Id<id)) else some false).bind λc=>if c=true then G fk (y_ (i + 1)) else some i)) (fu:Nat) (hfu:2097153<=fu):G fu 0=some ((gA L id:Nat):Int) :=
 CF (l:=L) (G:=G) (λy=>!decide (y.Id<id)) (by omega)
  (λfk i hi=>by
    have h':(i:Int)<(L.length:Int):=by omega
    rw[hG]
    simp only[h',decide_true,if_true,vw hi,Ik]
    by_cases hc:L[i].Id<id <;> simp [hc])
  (λfk=>by rw[hG]; simp) fu (by omega)
theorem oG {fu:Nat} (hfu:2097153<=fu) (p:Nh) (x:Nx) (hB:bB p) (hx:x.Nk.Nw.length<=2097152):bC fu p x=some (addP p x):=by
 have hl:=hB.2.1;have hi:=lD p.Nz x.Id;unfold bC;rw[jI hfu p hB,Ik,nK p.Nz x.Id (aU fu x p) hl (λfk i=>by rw[aU]) fu hfu,Ik,gi hi,Ik];have hs:sub p.Nz ((gA p.Nz x.Id:Nat):Int) (p.Nz.length:Int)=some (p.Nz.drop (gA p.Nz x.Id)):=by
  unfold sub
  rw[if_pos (by omega)]
  simp
 rw[hs,Ik,ed (by rw[Is]; omega),Ik,jJ fu x hx,Ik,yN (by rw[Is,IG]; omega),Ik,yN (by rw[Ip,Is,IG,IT]; omega),Ik,Ir,JF];rfl
theorem pk {fu:Nat} (hfu:2097153<=fu) (p:Nh) (x:Nx) (hB:bB p) (hx:x.Nk.Nw.length<=2097152):ct fu p x=some (addP p x):=by
 have hl:=hB.2.1;have hi:=lD p.Nz x.Id;unfold ct;rw[eZ hfu p hB,Ik,nK p.Nz x.Id (yB fu p x) hl (λfk i=>by rw[yB]) fu hfu,Ik,kP fu _ hx,Ik];have hs:insl p.Nz ((gA p.Nz x.Id:Nat):Int) [({ Id:=x.Id,Nk:=x.Nk,Nj:=x.Nj }:Nx)]=some (putL p.Nz x):=by
  unfold insl
  rw[if_pos (by rw[IG]; omega),IQ]
  rfl
 rw[hs,Ik];rfl
def DD:Nh:=⟨⟨[],[]⟩,[]⟩
theorem Gr {p:Nh} {x:Nx} (hB:bB p) (hs:p.Nz.length<=12) (hx:x.Nk.Nw.length<=2097152):bB (addP p x):=by
 refine⟨hB.1,?_,λy hy=>?_⟩;show (putL p.Nz x).length<=2097152;rw[lw]; omega;rcases gv.1 hy with rfl | h
 exact hx;exact hB.2.2 y h
def has_ (p:Nh) (id:Int):Bool:=p.Nz.any λy=>y.Id==id
theorem q8 (n:Nat):decide (((n:Nat):Int)<0)=false:=by simp
theorem nf {fu:Nat} (hfu:2097153<=fu) (p:Nh) (id:Int) (hB:bB p):zQ fu p id=some (if vR p=true/\has_ p id=true then (((atId p.Nz id:Nat):Int),true) else (0,false)):=by
 have hl:=hB.2.1;unfold zQ;rw[ka p id (by omega) hl,Ik,eX hfu p hB,Ik];cases hp:vR p
 simp;cases hh:has_ p id
 have hh':(p.Nz.any λy=>y.Id==id)=false:=hh;simp [hh'];have hh':(p.Nz.any λy=>y.Id==id)=true:=hh;simp [hh',q8]
end
section
theorem oV (a b:Nx):coll a b=(meets a.Nk.Nw b.Nk.Nw&&!apart (bits a.Nj) (bits b.Nj)):=by
 unfold coll apart;rw[bne]
theorem tW (a b:Int):apart a b=apart b a:=by
 unfold apart band;rw[BitVec.and_comm]
theorem qy (a b:Nx):coll a b=coll b a:=by
 rw[oV,oV,tq,tW (bits a.Nj)]
def jP (H:List Nx) (id:Int):Nx:=gd H (atId H id) l0
def hasL (L:List Nx) (id:Int):Bool:=L.any λy=>y.Id==id
def Eu (L:List Nx) (x:Nx):Bool:=!(L.any λown=>own.Id != x.Id&&coll own x)
def Dt (D:d_) (H L:List Nx) (id:Int):Bool:=hasL L id&&(!decide (gd L (atId L id) l0=jP H id)&&(!meets (jP H id).Nk.Nw D&&Eu L (jP H id)))
def rev1 (D:d_) (H:List Nx) (s:List Nx×d_) (id:Int):List Nx×d_:=if Dt D H s.1 id=true then (s.1.set (atId s.1 id) (jP H id),s.2++[id]) else s
def rev (D:d_) (H:List Nx) (l:d_) (s:List Nx×d_):List Nx×d_:=l.foldl (rev1 D H) s
def idsL (L:List Nx):d_:=L.map (·.Id)
variable {L H:List Nx}
theorem sx {id:Int}:hasL L id=true↔id∈idsL L:=by
 unfold hasL idsL;rw[IH,Jc];constructor;rintro⟨x,hx,h⟩; exact⟨x,hx,by simpa using h⟩;rintro⟨x,hx,h⟩; exact⟨x,hx,by simpa using h⟩
theorem Cz {id:Int} (h:hasL H id=true):(jP H id).Id=id:=kB h
theorem AV {id:Int} (h:hasL H id=true):jP H id∈H:=aR l0 (mL h)
theorem Cy {i:Nat} {x:Nx} (h:i<L.length) (hx:x.Id=(gd L i l0).Id):idsL (L.set i x)=idsL L:=by
 unfold idsL;rw[List.map_set,hx,bv l0 h];refine JW (by simp) λj h1 h2=>?_;rw[Ll];split
 rename_i e; subst e; simp;rfl
theorem CC {M:List Nx} (h:idsL L=idsL M) (id:Int):hasL L id=hasL M id:=by
 rw[Jf,sx,sx,h]
structure RvI (N:Nq) (D:d_) (H L0:List Nx) (s:List Nx×d_):Prop where
 ok:vR ⟨N,s.1⟩=true
 ids:idsL s.1=idsL L0
 old:∀i,i<L0.length->(gd L0 i l0).Id∉s.2->gd s.1 i l0=gd L0 i l0
 new:∀i,i<L0.length->(gd L0 i l0).Id∈s.2->gd s.1 i l0=jP H (gd L0 i l0).Id/\meets (gd s.1 i l0).Nk.Nw D=false
variable {N:Nq} {D:d_} {L0:List Nx} {s:List Nx×d_}
theorem AX {i:Nat} (h:i<L.length):(gd L i l0).Id=gd (idsL L) i 0:=by
 unfold idsL;rw[bv l0 h,bv 0 (by simpa using h),J9]
theorem sv (L:List Nx):(idsL L).length=L.length:=by simp [idsL]
theorem RvI.len (h:RvI N D H L0 s):s.1.length=L0.length:=by
 rw[<-sv,h.ids,sv]
theorem RvI.id (h:RvI N D H L0 s) {i:Nat} (hi:i<L0.length):(gd s.1 i l0).Id=(gd L0 i l0).Id:=by
 rw[AX (by rw[h.len]; exact hi),AX hi,h.ids]
theorem Fb (hp:vR ⟨N,L⟩=true) {j:Nat} (hj:j<L.length) {y:Nx} (hy:bn N y=true) (hid:y.Id=(gd L j l0).Id) (hf:Eu L y=true):vR ⟨N,L.set j y⟩=true:=by
 obtain⟨n1,n2,n3,n4⟩:=x7.1 hp;have hI:=Ea hp;have hyc:∀i,i<L.length->i≠j->coll (gd L i l0) y=false:=by
  intro i hi hij
  have hne:(gd L i l0).Id≠(gd L j l0).Id:=by
   rcases Lb hij with h | h
   · have:=hI.ids i j h hj; simp only at this; omega
   · have:=hI.ids j i h hi; simp only at this; omega
  unfold Eu at hf
  rw[IZ,IJ]at hf
  rw[IJ]
  intro hc
  refine hf (IH.2 ⟨_,aR l0 hi,?_⟩)
  rw[hc,LB,bne_iff_ne,hid]
  exact hne
 refine x7.2 ⟨n1,by rw[Io]; exact n2,λx hx'=>?_,?_⟩;rcases J6 hx' with h | h
 exact n3 x h;subst h; exact hy;show (L.set j y).Pairwise _;have n4':L.Pairwise λa b=>a.Id<b.Id/\coll a b=false:=n4;rw[Jt]at n4' ⊢;intro a b ha hb hab;rw[Io]at ha hb;have q:=n4' a b ha hb hab;have yid:y.Id=L[j].Id:=by rw[hid,bv l0 hj]
 rw[Ll,Ll];by_cases e1:j=a;subst e1;have e2:¬j=b:=by omega
 rw[if_pos rfl,if_neg e2];refine⟨by rw[yid]; exact q.1,?_⟩;rw[qy];have:=hyc b hb (by omega);rwa [bv l0 hb]at this;rw[if_neg e1];by_cases e2:j=b;subst e2;rw[if_pos rfl];refine⟨by rw[yid]; exact q.1,?_⟩;have:=hyc a ha (by omega);rwa [bv l0 ha]at this;rw[if_neg e2]; exact q
theorem RvI.step (h:RvI N D H L0 s) (hH:∀x∈H,bn N x=true) {id:Int} (hs:hasL L0 id=true->hasL H id=true):RvI N D H L0 (rev1 D H s id):=by
 have e:=h.ids;unfold rev1;split
 rename_i hm;unfold Dt at hm;simp only[Iw,IZ,decide_eq_false_iff_not]at hm;obtain⟨m1,m2,m3,m4⟩:=hm;have m1':hasL L0 id=true:=by rw[<-CC e id]; exact m1
 have hj:=mL m1;have hid:(jP H id).Id=(gd s.1 (atId s.1 id) l0).Id:=by rw[Cz (hs m1'),kB m1]
 have hI:=Ea h.ok;have hne:∀i,i<L0.length->atId s.1 id≠i->(gd L0 i l0).Id≠id:=by
  intro i hi hji
  have e1:(gd s.1 (atId s.1 id) l0).Id=id:=kB m1
  rw[<-h.id hi,<-e1]
  have hi':i<s.1.length:=by rw[h.len]; exact hi
  rcases Lb hji with q | q
  · have:=hI.ids _ i q hi'; simp only at this; omega
  · have:=hI.ids i _ q hj; simp only at this; omega
 refine⟨Fb h.ok hj (hH _ (AV (hs m1'))) hid m4,by simp only; rw[Cy hj hid,e],λi hi hn=>?_,λi hi hn=>?_⟩;simp only[Il,Iu,not_or]at hn;simp only;rw[nL];split
 rename_i hc;obtain⟨rfl,-⟩:=hc;exact absurd (by rw[<-h.id hi,kB m1]) hn.2;exact h.old i hi hn.1;simp only[Il,Iu]at hn;simp only;rw[nL];by_cases q:atId s.1 id=i;have:(gd L0 i l0).Id=id:=by rw[<-h.id hi,<-q,kB m1]
 rw[if_pos ⟨q,by rw[h.len]; exact hi⟩,this];exact⟨rfl,m3⟩;rw[if_neg λhc=>q hc.1];rcases hn with hn | hn
 exact h.new i hi hn;exact absurd hn (hne i hi q);exact h
theorem RvI.all {N:Nq} {D:d_} {H L0:List Nx} (hH:∀x∈H,bn N x=true) (hs:∀id,hasL L0 id=true->hasL H id=true):∀(l:d_) {s:List Nx×d_},RvI N D H L0 s->RvI N D H L0 (rev D H l s)
 | [],s,h=>h
 | id::l,s,h=>RvI.all hH hs l (s:=rev1 D H s id) (h.step hH (hs id))
end
section
def endR (n:Nq) (r:Nk):Int:=match yL n r with | some o=>gl o | none=>0
theorem oM {o:d_} (h:0<o.length) (h2:o.length<=4194304):V_ o (y_ ((o.length:Int) - 1))=some (gl o):=by
 rw[show y_ ((o.length:Int) - 1)=((o.length - 1:Nat):Int) by rw[uZ (by omega) (by omega)]; omega,yb 0 (by omega)]; rfl
theorem sV {fu:Nat} (hfu:2097153<=fu) (n:Nq) (r:Nk) (hB:NetB n) (hr:r.Nw.length<=2097152) (ho:(yL n r).isSome=true):fR fu n r=some (endR n r):=by
 obtain⟨o,h⟩:=Ke.1 ho;obtain⟨o',hw⟩:=walk_eq hfu n r hB.2 hB.1.1 hr;have hl:=j5 h;unfold fR kF endR;rw[hw,h,Ik,Ik];show ((V_ o (y_ ((o.length:Int) - 1))).bind _)=_;rw[oM (by omega) (by omega)];rfl
def GA (l:d_) (hi:Int) (i:Nat):Bool:=!(decide (0<=gd l i 0)&&decide (gd l i 0<=hi))||(decide (0<i)&&decide (gd l (i - 1) 0>=gd l i 0))
def stOk (l:d_) (m:Nat):Bool:=!((List.range l.length).any (GA l ((m:Int) - 1)))
def DT (r:Pd) (x:Nx):Bool:=(!hasL r.Rq x.Id||meets x.Nk.Nw r.Rv)||(x.Nk.Np != (jP r.Rq x.Id).Nk.Np||(endR r.Nh.Nq x.Nk != endR r.Nh.Nq (jP r.Rq x.Id).Nk||x.Nj.Pz != (jP r.Rq x.Id).Nj.Pz))
def RestB (r:Pd):Prop:=bB r.Nh/\(r.Rq.length<=2097152/\∀x∈r.Rq,x.Nk.Nw.length<=2097152)/\r.Rv.length<=2097152
theorem RestB.home {r:Pd} (h:RestB r):bB ⟨r.Nh.Nq,r.Rq⟩:=⟨h.1.1,h.2.1.1,h.2.1.2⟩
variable {fu:Nat}
theorem qe (L:List Nx) (hl:L.length<=2097152) (hr:∀x∈L,x.Nk.Nw.length<=2097152):∀(fk i:Nat) (m:List Nx),i<=L.length->L.length - i<fk->m.length<=i->∃z,cV fu L fk m i=some (m++L.drop i,z):=by
 intro fk;induction fk with
 | zero=>intro i _ _ h; omega
 | succ fk ih =>
  intro i m hi hk hm
  rw[cV]
  by_cases h:i<L.length
  · have h':(i:Int)<(L.length:Int):=by omega
    simp only[h',decide_true,if_true,vw h,Ik,jJ fu _ (hr _ (IE h))]
    rw[yN (by simp; omega),Ik,vP h (by omega)]
    obtain⟨z,hz⟩:=ih (i + 1) (m++[L[i]]) h (by omega) (by simp; omega)
    refine⟨z,?_⟩
    rw[hz,Ir,<-IB h]
    rfl
  · obtain rfl:i=L.length:=by omega
    rw[if_neg (by simp),IX,II]
    exact⟨_,rfl⟩
theorem tx (hfu:2097153<=fu) (L:List Nx) (hl:L.length<=2097152) (hr:∀x∈L,x.Nk.Nw.length<=2097152):ic fu L=some L:=by
 unfold ic;obtain⟨z,hz⟩:=qe (fu:=fu) L hl hr fu 0 [] (by omega) (by omega) (by simp);rw[show ((0:Nat):Int)=0 from rfl]at hz;rw[hz]; rfl
theorem ml (fu:Nat) (l:d_) (h:l.length<=2097152):bD fu l=some l:=by
 unfold bD;rw[ed (by omega)]; rfl
theorem qd (hfu:2097153<=fu) (r:Pd) (hB:RestB r):gq fu r=some r:=by
 unfold gq;rw[jI hfu _ hB.1,Ik,tx hfu _ hB.2.1.1 hB.2.1.2,Ik,ml fu _ hB.2.2];rfl
structure RestF (r:Pd):Prop where
 plan:vR r.Nh=true
 home:vR ⟨r.Nh.Nq,r.Rq⟩=true
 down:stOk r.Rv r.Nh.Nq.Nw.length=true
 each:∀x∈r.Nh.Nz,DT r x=false
theorem wO {r:Pd} {x:Nx}:DT r x=false↔hasL r.Rq x.Id=true/\meets x.Nk.Nw r.Rv=false/\x.Nk.Np=(jP r.Rq x.Id).Nk.Np/\endR r.Nh.Nq x.Nk=endR r.Nh.Nq (jP r.Rq x.Id).Nk/\x.Nj.Pz=(jP r.Rq x.Id).Nj.Pz:=by
 unfold DT;simp only[JC,Ki,bne_eq_false_iff_eq,and_assoc]
theorem RestF.sub {r:Pd} (h:RestF r):∀id,hasL r.Nh.Nz id=true->hasL r.Rq id=true:=by
 intro id hid;obtain⟨x,hx,he⟩:=IH.1 hid;rw[beq_iff_eq]at he;rw[<-he];exact (wO.1 (h.each x hx)).1
end
end AT
