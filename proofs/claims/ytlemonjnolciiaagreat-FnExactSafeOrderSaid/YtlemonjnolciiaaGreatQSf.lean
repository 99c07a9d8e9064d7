/- Networks, plainly: names, fibers, validity. -/
import Derived.Test.YtlemonjnolciiaaGreatP1
import Derived.Test.YtlemonjnolciiaaGreatAtL
import Derived.Test.YtlemonjnolciiaaGreatQSfB
import Derived.Test.YtlemonjnolciiaaGreatAtPM
set_option linter.unusedSimpArgs false
set_option linter.unusedVariables false
namespace AT
def chr (s:ByteArray) (i:Nat):Int:=((s[i]?).map λb=>(b.toNat:Int)).getD 0
theorem gZ {s:ByteArray} {i:Nat} (h:i<s.size):sidx s (i:Int)=some ⟨chr s i⟩:=by
 have e:s[i]?=some (s[i]'h):=by simp [h]
 unfold sidx chr;rw[if_pos (by omega),tM,e];rfl
def jE (c:Int):Bool:=decide (97≤c)&&decide (c≤122)
def my (c:Int):Bool:=decide (48≤c)&&decide (c≤57)
def gI (s:ByteArray) (i:Nat):Bool:=!(jE (chr s i)||my (chr s i))
def gR (s:ByteArray) (i:Nat):Bool:=!jE (chr s i)&&(!my (chr s i)||i==0)
def fP (s:ByteArray):Bool:=!((List.range s.size).any (gR s))&&(decide (1≤s.size)&&decide (s.size≤8))
theorem mw {fu:Nat} (s:ByteArray) (h:s.size<fu) (hn:s.size≤2097152):bv fu s=some (fP s):=by
 unfold bv;rw[vY (l:=List.range s.size) (G:=vz fu s) (gR s) (λi=>false) (by simp; omega)
   (λfk i hi=>by
     have hi':i<s.size:=by simpa using hi
     rw[vz,if_pos (by simpa using hi'),gZ hi',tm]
     simp only[ss,gR,jE,my,ge_iff_le]
     have e0:((i:Int)==0)=(i==0):=by rw[tg]; simp only[beq_iff_eq]; omega
     rw[e0]
     obtain⟨b,hb⟩:∃b,b=(i==0):=⟨_,rfl⟩
     simp only[←hb]
     by_cases h1:97≤chr s i <;> by_cases h2:48≤chr s i <;> by_cases h3:chr s i≤122 <;> by_cases h4:chr s i≤57 <;> cases b <;> simp [h1,h2,h3,h4])
   (λfk=>by rw[tf,vz,if_neg (by simp)]) fu (by simpa using h)]
 unfold fP;have e1:decide (1≤(s.size:Int))=decide (1≤s.size):=by simp only[decide_eq_decide]; omega
 have e2:decide ((s.size:Int)≤8)=decide (s.size≤8):=by simp only[decide_eq_decide]; omega
 cases (List.range s.size).any (gR s) <;> simp [Out.on,e1,e2]
theorem mq (fu:Nat) (b:By):a8 fu b=some (jE b.n||my b.n):=by
 unfold a8 jE my;simp only[ge_iff_le];by_cases h1:97≤b.n <;> by_cases h2:48≤b.n <;> by_cases h3:b.n≤122 <;> by_cases h4:b.n≤57 <;> simp [h1,h2,h3,h4]
theorem mr {fu:Nat} (s:ByteArray) (h:s.size<fu) (hn:s.size≤2097152):ba fu s=some (fP s):=by
  unfold ba;have e1:decide (1≤(s.size:Int))=decide (1≤s.size):=by simp only[decide_eq_decide]; omega
  have e2:decide ((s.size:Int)≤8)=decide (s.size≤8):=by simp only[decide_eq_decide]; omega
  simp only[dF,ss,e1,e2];unfold fP;by_cases hb:(decide (1≤s.size)&&decide (s.size≤8))=true
  · rw[hb]
    simp only[sH,decide_eq_true_eq]at hb
    have h0:0<s.size:=by omega
    have hs:=gZ h0
    simp only[Int.ofNat_zero,Int.natCast_zero]at hs
    simp only[ta,sC,if_false,hs,ss,Bool.and_true]
    have hl:vX fu s fu 0=some (if (List.range s.size).any (gI s) then .ret false else .next ((List.range s.size).length:Int)) :=
      vY (l:=List.range s.size) (G:=vX fu s) (gI s) (λi=>false) (by simp; omega)
        (λfk i hi=>by
          have hi':i<s.size:=by simpa using hi
          rw[vX,if_pos (by simpa using hi'),gZ hi',tm]
          simp only[ss,mq,gI]
          rfl)
        (λfk=>by rw[tf,vX,if_neg (by simp)]) fu (by simpa using h)
    rw[hl]
    have ha:(List.range s.size).any (gR s)=(!jE (chr s 0)||(List.range s.size).any (gI s)):=by
      rw[tg]
      simp only[sX,s8,wo,gR,gI,sH,tu,beq_iff_eq,tE]
      constructor
      · rintro⟨i,hi,h1,h2⟩
        rcases h2 with h2 | h2
        · exact .inr ⟨i,hi,h1,h2⟩
        · subst h2; exact .inl h1
      · rintro (h1 | ⟨i,hi,h1,h2⟩)
        · exact⟨0,h0,h1,.inr rfl⟩
        · exact⟨i,hi,h1,.inl h2⟩
    rw[ha]
    unfold jE
    have e3:decide (chr s 0<97)=!decide (97≤chr s 0):=by rw[←decide_not]; simp only[decide_eq_decide]; omega
    have e4:decide (chr s 0 > 122)=!decide (chr s 0≤122):=by rw[←decide_not]; simp only[decide_eq_decide]; omega
    simp only[e3,e4]
    cases decide (97≤chr s 0) <;> cases decide (chr s 0≤122) <;> cases (List.range s.size).any (gI s) <;> rfl
  · rw[wN]at hb
    rw[hb]
    simp
def nm0:ByteArray:=ByteArray.empty
def seen (l:List ByteArray) (i:Nat):Bool:=(l.take i).any λx=>(gd l i nm0).toList==x.toList
theorem jj {α:Type} [BEq α] [LawfulBEq α] (a b:α):(a==b)=(b==a):=by
 rw[tg]; simp only[beq_iff_eq]; exact eq_comm
variable {fu i:Nat}
theorem mz (l:List ByteArray) (v:ByteArray) (h:l.length<fu) (hn:l.length≤2097152):vv fu l v=some (if l.any (λx=>v.toList==x.toList) then ((l.findIdx λx=>v.toList==x.toList:Nat):Int) else -1):=by
 unfold vv;rw[vY (l:=l) (G:=uG fu l v) (λx=>v.toList==x.toList) (λi=>(i:Int)) (by omega)
   (λfk i hi=>by rw[uG,if_pos (by simpa using hi),vG hi]; rfl)
   (λfk=>by rw[uG,if_neg (by simp)]) fu h]
 cases l.any (λx=>v.toList==x.toList) <;> rfl
theorem jg (l:List ByteArray) (v:ByteArray) (h:l.length<fu) (hn:l.length≤2097152):va fu l v=some (l.any λx=>v.toList==x.toList):=by
 unfold va;rw[mz l v h hn];cases l.any (λx=>v.toList==x.toList)
 rfl;simp
theorem ms (l:List ByteArray) (v:ByteArray) (h:l.length<fu) (hn:l.length≤2097152):bb fu l v=some (if l.any (λx=>x.toList==v.toList) then ((l.findIdx λx=>x.toList==v.toList:Nat):Int) else -1):=by
 unfold bb;rw[vY (l:=l) (G:=xA fu l v) (λx=>x.toList==v.toList) (λi=>(i:Int)) (by omega)
   (λfk i hi=>by rw[xA,if_pos (by simpa using hi),vG hi]; rfl)
   (λfk=>by rw[xA,if_neg (by simp)]) fu h]
 cases l.any (λx=>x.toList==v.toList) <;> rfl
theorem fw {α:Type} {l:List α} (h:i≤l.length):sub l 0 (i:Int)=some (l.take i):=by
 unfold sub;rw[if_pos (by omega)];simp
theorem jc {α:Type} {l:List α} {p:α→Bool} (h:i<l.length) (hp:p l[i]=true):(l.findIdx p=i)↔(l.take i).any p=false:=by
 rw[List.findIdx_eq h];constructor;rintro⟨-,h2⟩;rw[sP];intro h3;obtain⟨x,hx,hpx⟩:=sX.1 h3;obtain⟨j,hj,rfl⟩:=s7.1 hx;simp only[sG]at hj;rw[tO]at hpx;have:=h2 j (by omega);rw[hpx]at this;cases this
 intro h3;refine⟨hp,λj hj=>?_⟩;rw[sP];intro h4;rw[sP]at h3;refine h3 (sX.2 ⟨l[j],?_,h4⟩);refine s7.2 ⟨j,by simp; omega,by rw[tO]⟩
def dz (l:List ByteArray) (i:Nat):Bool:=!fP (gd l i nm0)||seen l i
def f0:Np:=⟨0,0,0,0⟩
def eH (m:Nat) (f:Np):Bool:=decide (0≤f.A)&&(decide (f.A<f.B)&&(decide (f.B<(m:Int))&&((decide (1≤f.Nt)&&decide (f.Nt≤5000))&&(decide (0≤f.Pj)&&decide (f.Pj≤9)))))
def fGt (f g:Np):Bool:=decide (g.A<f.A)||(f.A==g.A&&(decide (g.B<f.B)||(f.B==g.B&&(decide (g.Nt<f.Nt)||(f.Nt==g.Nt&&decide (g.Pj<f.Pj))))))
def cmpI (x y:Int):Int:=if x<y then -1 else if x > y then 1 else 0
theorem kY (fu:Nat) (x y:Int):cmp_Compare_int fu x y=some (cmpI x y):=by
 unfold cmp_Compare_int cmp_isNaN_int cmpI;have e:∀z:Int,(z != z)=false:=λz=>by simp
 simp only[e,ss,sC,if_false,decide_eq_true_eq];by_cases h:x<y;rw[if_pos h,if_pos h];rw[if_neg h,if_neg h];split <;> rfl
theorem fB (x y:Int):0<cmpI x y↔y<x:=by unfold cmpI; split <;> (try split) <;> omega
theorem d7 (x y:Int):cmpI x y=0↔x=y:=by unfold cmpI; split <;> (try split) <;> omega
def or4 (a b c d:Int):Int:=if a≠0 then a else if b≠0 then b else if c≠0 then c else if d≠0 then d else 0
theorem qH (a b c d:Int) (h:4<fu):bV fu [a,b,c,d]=some (or4 a b c d):=by
 unfold bV;rw[vY (l:=[a,b,c,d]) (G:=xX fu [a,b,c,d]) (λe=>e != 0) (λi=>gd [a,b,c,d] i 0) (by simp)
   (λfk i hi=>by rw[xX,if_pos (by rw[decide_eq_true_eq]; omega),vG hi,bG 0 hi]; rfl)
   (λfk=>by rw[xX,if_neg (by simp)]) fu (by simpa using h)]
 unfold or4;have e:∀z:Int,(z != 0)=!decide (z=0):=λz=>by by_cases h:z=0 <;> simp [h]
 simp only[e];by_cases ha:a=0 <;> by_cases hb:b=0 <;> by_cases hc:c=0 <;> by_cases hd:d=0 <;> simp [ha,hb,hc,hd,Aj,gd,Out.on]
theorem ft (f g:Np) (h:4<fu):∃r,xW fu f g=some r∧decide (r > 0)=fGt f g:=by
  unfold xW;simp only[kY,ss,qH _ _ _ _ h];refine⟨_,rfl,?_⟩;rw[tg];simp only[fGt,decide_eq_true_eq,wo,sH,beq_iff_eq,or4];have a1:=fB f.A g.A;have a2:=d7 f.A g.A;have b1:=fB f.B g.B;have b2:=d7 f.B g.B;have c1:=fB f.Nt g.Nt;have c2:=d7 f.Nt g.Nt;have d1:=fB f.Pj g.Pj;have d2:=d7 f.Pj g.Pj;generalize cmpI f.A g.A=a at *;generalize cmpI f.B g.B=b at *;generalize cmpI f.Nt g.Nt=c at *;generalize cmpI f.Pj g.Pj=d at *;split <;> (try split) <;> (try split) <;> (try split) <;> constructor <;> intro h <;> simp only[decide_eq_true_eq]at * <;> omega
def bef (f g:Np):Int:=if f.A≠g.A then w64 (f.A - g.A) else if f.B≠g.B then w64 (f.B - g.B) else if f.Nt≠g.Nt then w64 (f.Nt - g.Nt) else w64 (f.Pj - g.Pj)
theorem jC (fu:Nat) (f g:Np):zz fu f g=some (bef f g):=by
 unfold zz bef;by_cases h1:f.A=g.A;by_cases h2:f.B=g.B;by_cases h3:f.Nt=g.Nt <;> simp [h1,h2,h3]
 simp [h1,h2];simp [h1]
theorem qt {m:Nat} {f g:Np} (hm:m≤8) (hf:eH m f=true) (hg:eH m g=true):decide (bef f g > 0)=fGt f g:=by
 simp only[eH,sH,decide_eq_true_eq]at hf hg;rw[tg];simp only[fGt,decide_eq_true_eq,wo,sH,beq_iff_eq];unfold bef;have e1:w64 (f.A - g.A)=f.A - g.A:=vu (by omega) (by omega);have e2:w64 (f.B - g.B)=f.B - g.B:=vu (by omega) (by omega);have e3:w64 (f.Nt - g.Nt)=f.Nt - g.Nt:=vu (by omega) (by omega);have e4:w64 (f.Pj - g.Pj)=f.Pj - g.Pj:=vu (by omega) (by omega);rw[e1,e2,e3,e4];clear e1 e2 e3 e4;split
 omega;split
 omega;split <;> omega
theorem kN {m:Nat} (f:Np) (hm:m≤8):an fu f (m:Int)=some (eH m f):=by
 unfold an;simp only[dF,ss];have e0:w64 ((m:Int) - 1)=(m:Int) - 1:=vu (by omega) (by omega);rw[e0];unfold eH;by_cases h1:0≤f.A;by_cases h2:f.A≤(m:Int) - 1;have e1:w64 (f.A + 1)=f.A + 1:=vu (by omega) (by omega);rw[e1];have e2:decide (f.A + 1≤f.B)=decide (f.A<f.B):=by simp only[decide_eq_decide]; omega
 have e3:decide (f.B≤(m:Int) - 1)=decide (f.B<(m:Int)):=by simp only[decide_eq_decide]; omega
 rw[e2,e3];simp only[h1,h2,decide_true,Bool.and_true,if_true,tR];cases decide (f.A<f.B) <;> cases decide (f.B<(m:Int)) <;> cases decide (1≤f.Nt) <;> cases decide (f.Nt≤5000) <;> cases decide (0≤f.Pj) <;> cases decide (f.Pj≤9) <;> rfl
 have:(decide (f.A<f.B)&&decide (f.B<(m:Int)))=false:=by
   rw[sP]; simp only[ne_eq,sH,decide_eq_true_eq]; omega
 rw[←Bool.and_assoc (decide (f.A<f.B)),this];simp [h1,h2];simp [h1]
def cL (m:Nat) (l:List Np) (i:Nat):Bool:=!eH m (gd l i f0)||(decide (0<i)&&fGt (gd l (i - 1) f0) (gd l i f0))
def eI (m:Nat) (l:List Np) (i:Nat):Bool:=!eH m (gd l i f0)||(decide (0<i)&&decide (bef (gd l (i - 1) f0) (gd l i f0) > 0))
theorem mG {m:Nat} (l:List Np) (hm:m≤8):(List.range l.length).any (eI m l)=(List.range l.length).any (cL m l):=by
 by_cases hv:∃i,i<l.length∧eH m (gd l i f0)=false;obtain⟨i,hi,hb⟩:=hv;have h1:(List.range l.length).any (eI m l)=true:=sX.2 ⟨i,s8.2 hi,by simp [eI,hb]⟩;have h2:(List.range l.length).any (cL m l)=true:=sX.2 ⟨i,s8.2 hi,by simp [cL,hb]⟩;rw[h1,h2];have hv':∀i,i<l.length→eH m (gd l i f0)=true:=λi hi=>by
   cases h:eH m (gd l i f0)
   · exact absurd ⟨i,hi,h⟩ hv
   · rfl
 refine ix λi hi=>?_;have hi':=s8.1 hi;unfold eI cL;by_cases h0:0<i;rw[qt hm (hv' (i - 1) (by omega)) (hv' i hi')];simp [h0]
def dA (n:Nk):Bool:=(decide (2≤n.Ng.length)&&decide (n.Ng.length≤8))&&(decide (n.Nq.length≤14)&&(!((List.range n.Ng.length).any (dz n.Ng))&&!((List.range n.Nq.length).any (cL n.Ng.length n.Nq))))
def NetB (n:Nk):Prop:=(n.Ng.length≤2097152∧∀e∈n.Ng,e.size≤2097152)∧n.Nq.length≤2097152
theorem bB {α:Type} {l:List α} (d:α) (h:i<l.length):gd l i d∈l:=by rw[bG d h]; exact s9 _
theorem kP (hfu:2097153≤fu) (n:Nk) (hB:NetB n):xL fu n=some (dA n):=by
 obtain⟨⟨hl,hs⟩,hl2⟩:=hB;unfold xL;rw[vY (l:=List.range n.Ng.length) (G:=u5 fu n) (dz n.Ng) (λi=>false) (by simp; omega)
   (λfk i hi=>by
     have hi':i<n.Ng.length:=by simpa using hi
     have hz:=hs _ (bB nm0 hi')
     rw[u5,if_pos (by simpa using hi'),vV nm0 hi',tm]
     simp only[ss,mw _ (show (gd n.Ng i nm0).size<fu by omega) hz,dz,seen]
     rcases Bool.eq_false_or_eq_true (fP (gd n.Ng i nm0)) with h1 | h1
     · rw[fw (by omega)]
       simp only[h1,ta,sC,if_false,ss,jg _ _ (show (n.Ng.take i).length<fu by simp; omega) (by simp; omega),wg]
     · simp [h1])
   (λfk=>by rw[tf,u5,if_neg (by simp)]) fu (by simp; omega)]
 rw[vY (l:=List.range n.Nq.length) (G:=u4 fu n) (cL n.Ng.length n.Nq) (λi=>false) (by simp; omega)
   (λfk i hi=>by
     have hi':i<n.Nq.length:=by simpa using hi
     rw[u4,if_pos (by simpa using hi'),vV f0 hi',tm]
     simp only[ss,bO,cL,eH]
     obtain⟨x,hx⟩:∃x,x=gd n.Nq i f0:=⟨_,rfl⟩
     simp only[←hx]
     have a1:decide (x.A<0)=!decide (0≤x.A):=by rw[←decide_not]; simp only[decide_eq_decide]; omega
     have a2:decide (x.A≥x.B)=!decide (x.A<x.B):=by rw[←decide_not]; simp only[decide_eq_decide]; omega
     have a3:decide (x.B≥(n.Ng.length:Int))=!decide (x.B<(n.Ng.length:Int)):=by rw[←decide_not]; simp only[decide_eq_decide]; omega
     simp only[a1,a2,a3]
     by_cases b1:(decide (0≤x.A))=false
     · simp [b1]
     rw[tZ]at b1
     by_cases b2:(decide (x.A<x.B))=false
     · simp [b1,b2]
     rw[tZ]at b2
     by_cases b3:(decide (x.B<(n.Ng.length:Int)))=false
     · simp [b1,b2,b3]
     rw[tZ]at b3
     by_cases b4:(decide (1≤x.Nt)&&decide (x.Nt≤5000))=false
     · simp only[b1,b2,b3,b4]; simp
     rw[tZ]at b4
     by_cases b5:(decide (0≤x.Pj)&&decide (x.Pj≤9))=false
     · simp only[b1,b2,b3,b4,b5]; simp
     rw[tZ]at b5
     simp only[b1,b2,b3,b4,b5]
     by_cases h0:0<i
     · rw[fD h0 (by omega),vV f0 (show i - 1<n.Nq.length by omega)]
       obtain⟨r,h1,h2⟩:=ft (fu:=fu) (gd n.Nq (i - 1) f0) x (by omega)
       have h0':((i:Int) > 0):=by omega
       simp [h0,h1,h2,h0']
     · have h0':¬((i:Int) > 0):=by omega
       simp [h0,h0'])
   (λfk=>by rw[tf,u4,if_neg (by simp)]) fu (by simp; omega)]
 unfold dA;have e1:decide (2≤(n.Ng.length:Int))=decide (2≤n.Ng.length):=by simp only[decide_eq_decide]; omega
 have e2:decide ((n.Ng.length:Int)≤8)=decide (n.Ng.length≤8):=by simp only[decide_eq_decide]; omega
 have e3:decide ((n.Nq.length:Int)≤14)=decide (n.Nq.length≤14):=by simp only[decide_eq_decide]; omega
 simp only[bO,e1,e2,e3];cases (List.range n.Ng.length).any (dz n.Ng) <;> cases (List.range n.Nq.length).any (cL n.Ng.length n.Nq) <;> cases decide (2≤n.Ng.length) <;> cases decide (n.Ng.length≤8) <;> cases decide (n.Nq.length≤14) <;> rfl
theorem gH (hfu:2097153≤fu) (n:Nk) (hB:NetB n):zX fu n=some (dA n):=by
 obtain⟨⟨hl,hs⟩,hl2⟩:=hB;unfold zX dA;have e1:decide (2≤(n.Ng.length:Int))=decide (2≤n.Ng.length):=by simp only[decide_eq_decide]; omega
 have e2:decide ((n.Ng.length:Int)≤8)=decide (n.Ng.length≤8):=by simp only[decide_eq_decide]; omega
 have e3:decide ((n.Nq.length:Int) > 14)=!decide (n.Nq.length≤14):=by rw[←decide_not]; simp only[decide_eq_decide]; omega
 simp only[dF,e1,e2,e3,ss];cases hb:(decide (2≤n.Ng.length)&&decide (n.Ng.length≤8))
 rfl;cases hc:decide (n.Nq.length≤14)
 rfl;simp only[sH,decide_eq_true_eq]at hb hc;rw[vY (l:=List.range n.Ng.length) (G:=xz fu n) (dz n.Ng) (λi=>false) (by simp; omega)
   (λfk i hi=>by
     have hi':i<n.Ng.length:=by simpa using hi
     have hz:=hs _ (bB nm0 hi')
     rw[xz,if_pos (by simpa using hi'),vV nm0 hi',tm]
     simp only[ss,mr _ (show (gd n.Ng i nm0).size<fu by omega) hz,dz,seen]
     by_cases h1:(fP (gd n.Ng i nm0))=false
     · simp [h1]
     rw[tZ]at h1
     · have hp:(λx:ByteArray=>x.toList==(gd n.Ng i nm0).toList) n.Ng[i]=true:=by simp [bG nm0 hi']
       have ha:n.Ng.any (λx=>x.toList==(gd n.Ng i nm0).toList)=true:=sX.2 ⟨_,s9 hi',hp⟩
       have hfi:=jc (p:=λx:ByteArray=>x.toList==(gd n.Ng i nm0).toList) hi' hp
       have hsy:(n.Ng.take i).any (λx=>(gd n.Ng i nm0).toList==x.toList)=(n.Ng.take i).any (λx=>x.toList==(gd n.Ng i nm0).toList):=ix λx _=>jj _ _
       simp only[h1,ta,sC,if_false,ss,ms _ _ (show n.Ng.length<fu by omega) hl,ha,if_true,wg,hsy]
       have he:(((n.Ng.findIdx λx=>x.toList==(gd n.Ng i nm0).toList:Nat):Int) != (i:Int))=(n.Ng.take i).any (λx=>x.toList==(gd n.Ng i nm0).toList):=by
         rw[tg]
         simp only[bne_iff_ne,ne_eq,Int.natCast_inj,hfi,tZ]
       rw[he])
   (λfk=>by rw[tf,xz,if_neg (by simp)]) fu (by simp; omega)]
 rw[vY (l:=List.range n.Nq.length) (G:=xy fu n) (eI n.Ng.length n.Nq) (λi=>false) (by simp; omega)
   (λfk i hi=>by
     have hi':i<n.Nq.length:=by simpa using hi
     rw[xy,if_pos (by simpa using hi'),vV f0 hi',tm]
     simp only[ss,kN _ hb.2,eI]
     by_cases h1:(eH n.Ng.length (gd n.Nq i f0))=false
     · simp [h1]
     rw[tZ]at h1
     simp only[h1]
     by_cases h0:0<i
     · rw[fD h0 (by omega),vV f0 (show i - 1<n.Nq.length by omega)]
       have h0':((i:Int) > 0):=by omega
       simp [h0,jC,h0']
     · have h0':¬((i:Int) > 0):=by omega
       simp [h0,h0'])
   (λfk=>by rw[tf,xy,if_neg (by simp)]) fu (by simp; omega),mG _ hb.2]
 cases (List.range n.Ng.length).any (dz n.Ng) <;> cases (List.range n.Nq.length).any (cL n.Ng.length n.Nq) <;> rfl
structure NetF (n:Nk):Prop where
  lo:2≤n.Ng.length
  hi:n.Ng.length≤8
  fib:n.Nq.length≤14
  each:∀f∈n.Nq,0≤f.A∧f.A<f.B∧f.B<(n.Ng.length:Int)∧1≤f.Nt∧f.Nt≤5000∧0≤f.Pj∧f.Pj≤9
theorem netF {n:Nk} (h:dA n=true):NetF n:=by
 unfold dA at h;simp only[sH,decide_eq_true_eq,tu]at h;obtain⟨⟨h1,h2⟩,h3,h4,h5⟩:=h;refine⟨h1,h2,h3,λf hf=>?_⟩;obtain⟨i,hi,rfl⟩:=s7.1 hf;rw[sP]at h5;have h6:cL n.Ng.length n.Nq i=false:=by
   rw[sP]
   intro h7
   exact h5 (sX.2 ⟨i,s8.2 hi,h7⟩)
 unfold cL at h6;rw[tE]at h6;have h8:=h6.1;rw[bG f0 hi]at h8;simp only[Bool.not_eq_false',eH,sH,decide_eq_true_eq]at h8;omega
end AT
namespace AT
theorem zx {α:Type} {l m:List α} (h:l.length + m.length≤1099511627776):app l m=some (l++m):=by unfold app; rw[if_pos h]
variable {fu:Nat}
theorem mA (l:List Int) (v:Int) (h:l.length<fu) (hn:l.length≤2097152):xq fu l v=some (if l.any (λx=>x==v) then ((l.findIdx λx=>x==v:Nat):Int) else -1):=by
 unfold xq;rw[vY (l:=l) (G:=uW fu l v) (λx=>x==v) (λi=>(i:Int)) (by omega)
   (λfk i hi=>by rw[uW,if_pos (by simpa using hi),vG hi,ss,jj v])
   (λfk=>by rw[uW,if_neg (by simp)]) fu h]
 cases l.any (λx=>x==v) <;> rfl
theorem eT (l:List Int) (v:Int) (h:l.length<fu) (hn:l.length≤2097152):vr fu l v=some (l.any λx=>x==v):=by
 unfold vr;rw[mA l v h hn];cases l.any (λx=>x==v)
 rfl;simp
theorem kc (l:List Int) (v:Int) (h:l.length<fu) (hn:l.length≤2097152):aV fu l v=some (l.any λx=>x==v):=by
 unfold aV;rw[vY (l:=l) (G:=xS fu l v) (λx=>x==v) (λi=>true) (by omega)
   (λfk i hi=>by rw[xS,if_pos (by simpa using hi),vG hi,ss])
   (λfk=>by rw[xS,if_neg (by simp)]) fu h]
 cases l.any (λx=>x==v) <;> rfl
def oth (f:Np) (v:Int):Int:=if v=f.A then f.B else if v=f.B then f.A else -1
theorem oe {R:Type} (f:Np) (v:Int) (k:Int→R):(if v==f.A then k f.B else if v==f.B then k f.A else k (-1))=k (oth f v):=by
 unfold oth;by_cases h1:v=f.A;rw[if_pos (beq_iff_eq.2 h1),if_pos h1];rw[if_neg (by simpa using h1),if_neg h1];by_cases h2:v=f.B;rw[if_pos (beq_iff_eq.2 h2),if_pos h2];rw[if_neg (by simpa using h2),if_neg h2]
theorem jx (fu:Nat) (f:Np) (v:Int):aM fu f v=some (oth f v):=by
 exact oe f v some
theorem kM (fu:Nat) (n:Nk) (i:Nat) (v:Int) (h:i<n.Nq.length):zn fu n (i:Int) v=some (oth (gd n.Nq i f0) v):=by
 unfold zn;rw[vV f0 h];exact oe _ v some
def cZ (F:List Np):List Int→List Int→Int→Option (List Int)
  | [],out,_=>some out
  | i::r,out,v=>if 0≤i∧i<(F.length:Int) then (if oth (gd F i.toNat f0) v<0∨(out.any λx=>x==oth (gd F i.toNat f0) v)=true then none else cZ F r (out++[oth (gd F i.toNat f0) v]) (oth (gd F i.toNat f0) v)) else none
def yz (n:Nk) (r:Nz):Option (List Int):=if (0≤r.Pz∧r.Pz<(n.Ng.length:Int))∧r.Nq≠[] then cZ n.Nq r.Nq [r.Pz] r.Pz else none
def gl (l:List Int):Int:=gd l (l.length - 1) 0
theorem oX (l:List Int) (x:Int):gl (l++[x])=x:=by unfold gl gd; simp
theorem iH {F:List Np}:∀{fs out:List Int} {v:Int} {o:List Int},cZ F fs out v=some o→o.length=out.length + fs.length
  | [],out,v,o,h=>by simp only[cZ,sO]at h; subst h; simp
  | i::r,out,v,o,h=>by
    unfold cZ at h
    split at h
    · split at h
      · cases h
      · have:=iH h
        simp only[sJ,tj,Ab]at this ⊢
        omega
    · cases h
variable {o:List Int}
theorem iE (hfu:2097153≤fu) (n:Nk) (r:Nz) (hn:n.Nq.length≤2097152) (hr:r.Nq.length≤2097152):∀(fk i:Nat) (out:List Int) (v:Int),i≤r.Nq.length→r.Nq.length - i<fk→out.length=i + 1 →
    ∃z,xJ fu n r fk out v i=some (match cZ n.Nq (r.Nq.drop i) out v with | some o=>.next (o,z) | none=>.ret ([],false)):=by
 intro fk;induction fk with
 | zero=>intro i _ _ _ h; omega
 | succ fk ih =>
   intro i out v hi hk ho
   rw[xJ]
   by_cases h:i<r.Nq.length
   · rw[if_pos (by simpa using h),vG h,←sL h,cZ]
     obtain⟨e,he⟩:∃e,e=r.Nq[i]:=⟨_,rfl⟩
     simp only[←he,ss,bO]
     rw[vu (by omega) (by omega)]
     by_cases hb:0≤e∧e<(n.Nq.length:Int)
     · rw[if_pos hb]
       have hb':(decide (0≤e)&&decide (e≤(n.Nq.length:Int) - 1))=true:=by simp; omega
       have hx:idx n.Nq e=some (gd n.Nq e.toNat f0):=by
         have:=vV (l:=n.Nq) (i:=e.toNat) f0 (by omega)
         rwa [wQ hb.1]at this
       simp only[hb',ta,sC,if_false,hx,ss,jx]
       obtain⟨y,hy⟩:∃y,y=oth (gd n.Nq e.toNat f0) v:=⟨_,rfl⟩
       simp only[←hy,eT out y (show out.length<fu by omega) (by omega)]
       by_cases hn:y<0∨(out.any λx=>x==y)=true
       · rw[if_pos hn]
         refine⟨(0,0),?_⟩
         rcases hn with h1 | h1
         · simp [h1]
         · by_cases h2:y<0 <;> simp [h1,h2]
       · rw[if_neg hn]
         have h1:¬y<0:=λh=>hn (.inl h)
         have h2:(out.any λx=>x==y)=false:=by rw[sP]; exact λh=>hn (.inr h)
         simp only[h1,decide_false,sC,if_false,h2,ss]
         rw[zx (by simp; omega),ss,xa h (by omega)]
         exact ih (i + 1) _ _ h (by omega) (by simp; omega)
     · rw[if_neg hb]
       have hb':(decide (0≤e)&&decide (e≤(n.Nq.length:Int) - 1))=false:=by rw[sP]; simp; omega
       exact⟨(0,0),by simp [hb']⟩
   · obtain rfl:i=r.Nq.length:=by omega
     rw[if_neg (by simp),tr]
     exact⟨_,rfl⟩
theorem kq (hfu:2097153≤fu) (n:Nk) (r:Nz) (hn:n.Nq.length≤2097152) (hm:n.Ng.length≤2097152) (hr:r.Nq.length≤2097152):aA fu n r=some (match yz n r with | some o=>(o,true) | none=>([],false)):=by
 unfold aA;simp only[bO,ss];rw[vu (by omega) (by omega)];by_cases hs:0≤r.Pz∧r.Pz<(n.Ng.length:Int);have hb':(decide (0≤r.Pz)&&decide (r.Pz≤(n.Ng.length:Int) - 1))=true:=by simp; omega
 by_cases he:r.Nq=[];have er:yz n r=none:=by unfold yz; rw[if_neg λh=>h.2 he]
 simp [hb',he,er];have er:yz n r=cZ n.Nq r.Nq [r.Pz] r.Pz:=by unfold yz; rw[if_pos ⟨hs,he⟩]
 have he':((r.Nq.length:Int)==0)=false:=by
   rw[beq_eq_false_iff_ne]
   have:=List.length_pos_iff.2 he
   omega
 obtain⟨z,hz⟩:=iE hfu n r hn hr fu 0 [r.Pz] r.Pz (by omega) (by omega) rfl;rw[tA,show ((0:Nat):Int)=0 from rfl]at hz;rw[er];simp only[hb',ta,sC,if_false,he',ss,hz];cases cZ n.Nq r.Nq [r.Pz] r.Pz <;> rfl
 have hb':(decide (0≤r.Pz)&&decide (r.Pz≤(n.Ng.length:Int) - 1))=false:=by rw[sP]; simp; omega
 have er:yz n r=none:=by unfold yz; rw[if_neg λh=>hs h.1]
 simp [hb',er]
theorem ls (hfu:2097153≤fu) (n:Nk) (r:Nz) (hn:n.Nq.length≤2097152) (hr:r.Nq.length≤2097152):∀(fk i:Nat) (out:List Int),i≤r.Nq.length→r.Nq.length - i<fk→out.length=i + 1 →
    ∃z o',x5 fu n r fk out i=some (match cZ n.Nq (r.Nq.drop i) out (gl out) with | some o=>.next (o,z) | none=>.ret (o',false)):=by
 intro fk;induction fk with
 | zero=>intro i _ _ h; omega
 | succ fk ih =>
   intro i out hi hk ho
   rw[x5]
   by_cases h:i<r.Nq.length
   · rw[if_pos (by simpa using h),vG h,←sL h,cZ]
     obtain⟨e,he⟩:∃e,e=r.Nq[i]:=⟨_,rfl⟩
     have hlast:idx out (w64 ((out.length:Int) - 1))=some (gl out):=by
       rw[fD (by omega) (by omega),vV 0 (by omega)]; rfl
     simp only[←he,ss,dF,hlast]
     rw[vu (by omega) (by omega)]
     by_cases hb:0≤e∧e<(n.Nq.length:Int)
     · rw[if_pos hb]
       have hb':(decide (0≤e)&&decide (e≤(n.Nq.length:Int) - 1))=true:=by simp; omega
       have hx:zn fu n e (gl out)=some (oth (gd n.Nq e.toNat f0) (gl out)):=by
         have:=kM fu n e.toNat (gl out) (by omega)
         rwa [wQ hb.1]at this
       simp only[hb',ta,sC,if_false,hx,ss]
       obtain⟨y,hy⟩:∃y,y=oth (gd n.Nq e.toNat f0) (gl out):=⟨_,rfl⟩
       simp only[←hy,kc out y (show out.length<fu by omega) (by omega)]
       by_cases hn:y<0∨(out.any λx=>x==y)=true
       · rw[if_pos hn]
         refine⟨0,out,?_⟩
         rcases hn with h1 | h1
         · simp [h1]
         · by_cases h2:y<0 <;> simp [h1,h2]
       · rw[if_neg hn]
         have h1:¬y<0:=λh=>hn (.inl h)
         have h2:(out.any λx=>x==y)=false:=by rw[sP]; exact λh=>hn (.inr h)
         simp only[h1,decide_false,sC,if_false,h2,ss]
         rw[zx (by simp; omega),ss,xa h (by omega)]
         have:=ih (i + 1) (out++[y]) h (by omega) (by simp; omega)
         rwa [oX]at this
     · rw[if_neg hb]
       have hb':(decide (0≤e)&&decide (e≤(n.Nq.length:Int) - 1))=false:=by rw[sP]; simp; omega
       exact⟨0,out,by simp [hb']⟩
   · obtain rfl:i=r.Nq.length:=by omega
     rw[if_neg (by simp),tr]
     exact⟨_,[],rfl⟩
theorem walk_eq (hfu:2097153≤fu) (n:Nk) (r:Nz) (hn:n.Nq.length≤2097152) (hm:n.Ng.length≤2097152) (hr:r.Nq.length≤2097152):∃o',aY fu n r=some (match yz n r with | some o=>(o,true) | none=>(o',false)):=by
 unfold aY;simp only[dF,ss];rw[vu (by omega) (by omega)];by_cases hs:0≤r.Pz∧r.Pz<(n.Ng.length:Int);have hb':(decide (0≤r.Pz)&&decide (r.Pz≤(n.Ng.length:Int) - 1))=true:=by simp; omega
 by_cases he:r.Nq=[];have er:yz n r=none:=by unfold yz; rw[if_neg λh=>h.2 he]
 exact⟨[r.Pz],by simp [hb',he,er]⟩;have er:yz n r=cZ n.Nq r.Nq [r.Pz] r.Pz:=by unfold yz; rw[if_pos ⟨hs,he⟩]
 have he':((r.Nq.length:Int)==0)=false:=by
   rw[beq_eq_false_iff_ne]
   have:=List.length_pos_iff.2 he
   omega
 obtain⟨z,o',hz⟩:=ls hfu n r hn hr fu 0 [r.Pz] (by omega) (by omega) rfl;rw[tA,show ((0:Nat):Int)=0 from rfl,show gl [r.Pz]=r.Pz from rfl]at hz;refine⟨o',?_⟩;rw[er];simp only[hb',ta,sC,if_false,he',ss,hz];cases cZ n.Nq r.Nq [r.Pz] r.Pz <;> rfl
 have hb':(decide (0≤r.Pz)&&decide (r.Pz≤(n.Ng.length:Int) - 1))=false:=by rw[sP]; simp; omega
 refine⟨[r.Pz],?_⟩;have er:yz n r=none:=by unfold yz; rw[if_neg λh=>hs h.1]
 simp [hb',er]
theorem mo (hfu:2097153≤fu) (n:Nk) (r:Nz) (hB:NetB n) (hr:r.Nq.length≤2097152):a7 fu n r=some (dA n&&(yz n r).isSome):=by
 unfold a7;rw[gH hfu n hB,ss];obtain⟨o',h⟩:=walk_eq hfu n r hB.2 hB.1.1 hr;rw[h];cases dA n
 rfl;cases yz n r <;> rfl
theorem kC {n:Nk} {r:Nz} (h:yz n r=some o):o.length=r.Nq.length + 1:=by
 unfold yz at h;split at h
 have:=iH h;simp only[tj,Ab]at this;omega;cases h
theorem jS:∀(m:Nat) (l:List Int),l.Nodup→(∀x∈l,0≤x∧x<(m:Int))→l.length≤m
  | 0,l,_,h=>by
    cases l with
    | nil=>simp
    | cons x l=>have:=h x (by simp); omega
  | m + 1,l,hn,h=>by
    have h1:=jS m (l.erase (m:Int)) (hn.erase _) λx hx=>by
      have hx1:=List.mem_of_mem_erase hx
      have:=h x hx1
      refine⟨this.1,?_⟩
      have hne:x≠(m:Int):=λe=>by
        subst e
        exact (hn.not_mem_erase) hx
      omega
    rw[List.length_erase]at h1
    split at h1 <;> omega
theorem oN {f:Np} {v:Int} (h:0≤oth f v):(v=f.A∧oth f v=f.B)∨(v=f.B∧oth f v=f.A):=by
 unfold oth at h ⊢;split at h
 rename_i h1; rw[if_pos h1]; exact .inl ⟨h1,rfl⟩;rename_i h1;rw[if_neg h1];split at h
 rename_i h2; rw[if_pos h2]; exact .inr ⟨h2,rfl⟩;omega
theorem iI {F:List Np} (P:Int→Prop) (hF:∀f∈F,P f.A∧P f.B):∀{fs out:List Int} {v:Int} {o:List Int} (U:List Int),cZ F fs out v=some o→out.Nodup→(∀x∈out,P x)→v∈out→(∀i∈U,(gd F i.toNat f0).A∈out∧(gd F i.toNat f0).B∈out) →
    o.Nodup∧(∀x∈o,P x)∧fs.Nodup∧∀i∈fs,i∉U
  | [],out,v,o,U,h,h1,h2,h3,h4=>by
    simp only[cZ,sO]at h
    subst h
    exact⟨h1,h2,.nil,by simp⟩
  | i::r,out,v,o,U,h,h1,h2,h3,h4=>by
    unfold cZ at h
    split at h
    case isFalse=>cases h
    rename_i hi
    split at h
    case isTrue=>cases h
    rename_i hc
    obtain⟨y,hy⟩:∃y,y=oth (gd F i.toNat f0) v:=⟨_,rfl⟩
    rw[←hy]at h hc
    have hy0:0≤y:=by
      rcases Az (y<0) with h' | h'
      · exact absurd (.inl h') hc
      · omega
    have hny:y∉out:=λhm=>hc (.inr (sX.2 ⟨y,hm,by simp⟩))
    have hfm:gd F i.toNat f0∈F:=bB f0 (by omega)
    have hm:=oN (f:=gd F i.toNat f0) (v:=v) (by omega)
    rw[←hy]at hm
    have hPy:P y:=by
      rcases hm with ⟨_,e⟩ | ⟨_,e⟩ <;> rw[e]
      · exact (hF _ hfm).2
      · exact (hF _ hfm).1
    have hiU:i∉U:=λhu=>by
      have:=h4 i hu
      rcases hm with ⟨_,e⟩ | ⟨_,e⟩ <;> rw[e]at hny
      · exact hny this.2
      · exact hny this.1
    obtain⟨g1,g2,g3,g4⟩:=iI P hF (i::U) h
      (sA.2 ⟨h1,by simp,λa ha b hb=>by rw[sD]at hb; subst hb; exact λe=>hny (e▸ha)⟩)
      (λx hx=>by
        rcases su.1 hx with hx | hx
        · exact h2 x hx
        · rw[sD]at hx; subst hx; exact hPy)
      (by simp)
      (λj hj=>by
        rcases sZ.1 hj with rfl | hj
        · rcases hm with ⟨e1,e2⟩ | ⟨e1,e2⟩
          · exact⟨su.2 (.inl (e1▸h3)),su.2 (.inr (by rw[e2]; simp))⟩
          · exact⟨su.2 (.inr (by rw[e2]; simp)),su.2 (.inl (e1▸h3))⟩
        · exact⟨su.2 (.inl (h4 j hj).1),su.2 (.inl (h4 j hj).2)⟩)
    refine⟨g1,g2,tT.2 ⟨λhm=>g4 i hm (by simp),g3⟩,λj hj=>?_⟩
    rcases sZ.1 hj with rfl | hj
    · exact hiU
    · exact λhu=>g4 j hj (tH _ hu)
theorem iM {n:Nk} {r:Nz} (hn:NetF n) (h:yz n r=some o):o.Nodup∧(∀x∈o,0≤x∧x<(n.Ng.length:Int))∧r.Nq.Nodup∧r.Nq.length≤7∧r.Nq≠[]∧0≤r.Pz∧r.Pz<(n.Ng.length:Int):=by
  have hl:=kC h;unfold yz at h;split at h
  case isFalse=>cases h
  rename_i hs;obtain⟨g1,g2,g3,_⟩:=iI (λx=>0≤x∧x<(n.Ng.length:Int)) (λf hf=>by have:=hn.each f hf; omega) [] h (by simp) (by simpa using hs.1) (by simp) (by simp);have:=jS _ _ g1 g2;have:=hn.hi;exact⟨g1,g2,g3,by omega,hs.2,hs.1⟩
end AT
namespace AT
theorem oB {fu:Nat} (hfu:2097153≤fu) (l:List Int) (h:l.length≤2097152):∃l',yh fu l=some l'∧l'.Perm l∧l'.Pairwise λa b=>a≤b:=by
  unfold yh nr;rw[if_pos (by omega)];refine⟨_,rfl,List.mergeSort_perm _ _,?_⟩;have:=List.pairwise_mergeSort (le:=λx y:Int=>decide (x≤y)) (λa b c h1 h2=>by simp only[decide_eq_true_eq]at *; omega) (λa b=>by simp only[wo,decide_eq_true_eq]; omega) l;exact this.imp λh=>by simpa using h
theorem kl:∀(l:List Int) (p:Int),(p::l).Nodup→cB p l=l
  | [],_,_=>rfl
  | b::l,p,h=>by
    rw[tT]at h
    unfold cB
    rw[if_neg (λe=>h.1 (by rw[e]; exact tW)),kl l b h.2]
theorem nQ (l:List Int) (h:l.Nodup):gF l=l:=by
 cases l with
 | nil=>rfl
 | cons a l=>show a::cB a l=a::l; rw[kl l a h]
theorem kZ {fu:Nat} (l:List Int) (hn:l.Nodup) (hl:l.length≤2097152) (hfu:2097153≤fu):xM fu l=some l:=by
 unfold xM;rw[nQ l hn]
def meets (a b:List Int):Bool:=a.any λx=>b.any λy=>y==x
variable {fu:Nat}
theorem jG (a b:List Int) (ha:a.length≤2097152) (hb:b.length≤2097152) (hfu:2097153≤fu):∀(fk i:Nat) (out:List Int),a.length - i<fk→i≤a.length→out.length≤i→∃z,xF fu a b fk out i=some (out++(a.drop i).filter (λx=>b.any λy=>y==x),z):=by
 intro fk;induction fk with
 | zero=>intro i _ h; omega
 | succ fk ih =>
   intro i out hk hi ho
   rw[xF]
   by_cases h:i<a.length
   · have h':(i:Int)<(a.length:Int):=by omega
     simp only[h',decide_true,if_true,vG h,ss,eT b a[i] (show b.length<fu by omega) hb]
     rw[←sL h,w7]
     by_cases hc:(b.any λy=>y==a[i])=true
     · rw[if_pos hc,if_pos hc,zx (by simp; omega),ss,xa h (by omega)]
       obtain⟨z,hz⟩:=ih (i + 1) (out++[a[i]]) (by omega) h (by simp; omega)
       exact⟨z,by rw[hz,sE]; rfl⟩
     · rw[if_neg hc,if_neg hc,xa h (by omega)]
       exact ih (i + 1) out (by omega) h (by omega)
   · obtain rfl:i=a.length:=by omega
     have h':¬((a.length:Nat):Int)<(a.length:Int):=by omega
     simp only[h',decide_false,sC,if_false,tr,List.filter_nil,s5]
     exact⟨_,rfl⟩
theorem kS {a b:List Int}:(0<(a.filter λx=>b.any λy=>y==x).length)↔meets a b=true:=by
 unfold meets;rw[List.length_pos_iff_exists_mem,sX];constructor;rintro⟨x,hx⟩;rw[wE]at hx;exact⟨x,hx⟩;rintro⟨x,hx⟩;exact⟨x,wE.2 hx⟩
theorem k7 (a b:List Int) (ha:a.length≤2097152) (hn:a.Nodup) (hb:b.length≤2097152) (hfu:2097153≤fu):∃c,ae fu a b=some c∧decide ((c.length:Int) > 0)=meets a b:=by
 unfold ae;obtain⟨z,hz⟩:=jG a b (by omega) hb hfu fu 0 [] (by omega) (by omega) (by simp);rw[show ((0:Nat):Int)=0 from rfl]at hz;simp only[hz,ss,tx,tA];have hlen:(a.filter λx=>b.any λy=>y==x).length≤2097152:=tL (wH _ _) ha;obtain⟨l',h1,h2,-⟩:=oB hfu (a.filter λx=>b.any λy=>y==x) hlen;have hnd:l'.Nodup:=h2.nodup_iff.2 (hn.filter _);have hl':=h2.length_eq;rw[h1,ss,kZ l' hnd (by omega) hfu];refine⟨l',rfl,?_⟩;rw[tg,decide_eq_true_eq,←kS];omega
theorem mT (a b:List Int) (ha:a.length≤12) (hn:a.Nodup) (hb:b.length≤2097152) (hfu:2097153≤fu):∃c,ae fu a b=some c∧decide ((c.length:Int) > 0)=meets a b:=k7 a b (by omega) hn hb hfu
end AT
namespace AT
theorem ox {fu:Nat} (hfu:2097153≤fu) (r:Nz) (g:List Int) (hr:r.Nq.length≤2097152) (hg:g.length≤2097152):aZ fu r g=some (meets r.Nq g):=by
 unfold aZ;rw[vY (l:=r.Nq) (G:=xx fu r g) (λx=>g.any λy=>y==x) (λi=>true) (by omega)
   (λfk i hi=>by
     have h':(i:Int)<(r.Nq.length:Int):=by omega
     rw[xx]
     simp only[h',decide_true,if_true,vG hi,ss,kc g r.Nq[i] (show g.length<fu by omega) hg])
   (λfk=>by rw[xx,if_neg (by simp)]) fu (by omega)]
 unfold meets;cases r.Nq.any λx=>g.any λy=>y==x <;> rfl
def eK (b:Nj):Bool:=decide (0≤b.Px)&&(decide (1≤b.Pk)&&decide (b.Px + b.Pk≤24))
theorem mn (fu:Nat) (b:Nj):aX fu b=some (eK b):=by
 unfold aX eK;simp only[dF,ss];by_cases h:0≤b.Px∧b.Px≤23;have hc:(decide (0≤b.Px)&&decide (b.Px≤23))=true:=by simpa using h
 rw[vu (by omega) (by omega)];simp only[hc,if_true,ss,sO];rw[tg];simp only[sH,decide_eq_true_eq];omega;have hc:(decide (0≤b.Px)&&decide (b.Px≤23))=false:=by rw[sP]; simp only[ne_eq,sH,decide_eq_true_eq]; exact h
 simp only[hc,sC,if_false,ss,sO];rw[tg];simp only[sH,decide_eq_true_eq,sC,false_iff];omega
theorem kQ (fu:Nat) (b:Nj):yd fu b=some (eK b):=by
 unfold yd eK;simp only[bO,ss];by_cases h0:0≤b.Px;by_cases h:1≤b.Pk∧b.Pk≤24;have hc:(decide (1≤b.Pk)&&decide (b.Pk≤24))=true:=by simpa using h
 rw[vu (by omega) (by omega)];simp only[ge_iff_le,h0,hc,decide_true,if_true,ss,sO,tR];rw[tg];simp only[sH,decide_eq_true_eq];omega;have hc:(decide (1≤b.Pk)&&decide (b.Pk≤24))=false:=by rw[sP]; simp only[ne_eq,sH,decide_eq_true_eq]; exact h
 simp only[ge_iff_le,h0,hc,decide_true,if_true,sC,if_false,ss,sO];rw[tg];simp only[sH,decide_eq_true_eq,sC,false_iff];omega;simp [h0]
def bits (b:Nj):Int:=(2 ^ b.Pk.toNat - 1) * 2 ^ b.Px.toNat
theorem fA {k:Nat} (h:k≤24):(1:Int)≤2 ^ k∧(2:Int) ^ k≤16777216:=by
 have h1:(2:Nat) ^ k≤2 ^ 24:=Aa (by omega) h;have h2:1≤(2:Nat) ^ k:=Nat.one_le_two_pow;have h3:((2 ^ k:Nat):Int)=2 ^ k:=by norm_cast
 omega
variable {b:Nj}
theorem lf (h:eK b=true):0≤bits b∧bits b<16777216:=by
  simp only[eK,sH,decide_eq_true_eq]at h;have e:(2:Int) ^ b.Pk.toNat * 2 ^ b.Px.toNat=2 ^ (b.Pk.toNat + b.Px.toNat):=(Int.pow_add _ _ _).symm;have h1:=fA (show b.Pk.toNat≤24 by omega);have h2:=fA (show b.Px.toNat≤24 by omega);have h3:=fA (show b.Pk.toNat + b.Px.toNat≤24 by omega);unfold bits;rw[Int.sub_mul,e,Int.one_mul];refine⟨?_,by omega⟩;have h4:(2:Int) ^ b.Px.toNat≤2 ^ (b.Pk.toNat + b.Px.toNat):=by
    have:(2:Nat) ^ b.Px.toNat≤2 ^ (b.Pk.toNat + b.Px.toNat):=Aa (by omega) (by omega)
    have e1:((2 ^ b.Px.toNat:Nat):Int)=2 ^ b.Px.toNat:=by norm_cast
    have e2:((2 ^ (b.Pk.toNat + b.Px.toNat):Nat):Int)=2 ^ (b.Pk.toNat + b.Px.toNat):=by norm_cast
    omega
  omega
theorem jT (h:eK b=true):((shl 1 b.Pk).bind λq=>(shl (w64 (q - 1)) b.Px).bind λq2=>some q2)=some (bits b):=by
 have hb:=lf h;simp only[eK,sH,decide_eq_true_eq]at h;have h1:=fA (show b.Pk.toNat≤24 by omega);have m1:min b.Pk.toNat 64=b.Pk.toNat:=by omega
 have m2:min b.Px.toNat 64=b.Px.toNat:=by omega
 unfold shl;rw[if_neg (show ¬b.Pk<0 by omega),ss,if_neg (show ¬b.Px<0 by omega),m1,m2,Int.one_mul,vu (n:=2 ^ b.Pk.toNat) (by omega) (by omega),vu (n:=2 ^ b.Pk.toNat - 1) (by omega) (by omega)];have:(2 ^ b.Pk.toNat - 1) * 2 ^ b.Px.toNat=bits b:=rfl;rw[this,vu (by omega) (by omega)];rfl
theorem iY {fu:Nat} (h:eK b=true):bu fu b=some (bits b):=jT h
theorem ln {n:Int} (h:0≤n) (h':n<18446744073709551616):wu64 n=n:=by unfold wu64; omega
theorem ja {fu:Nat} (h:eK b=true):zW fu b=some (bits b):=by
 unfold zW;have h':=h;simp only[eK,sH,decide_eq_true_eq]at h';rw[ln (by omega) (by omega),ln (by omega) (by omega)];exact jT h
def bg (n:Nk) (x:Nw):Bool:=(decide (1≤x.Id)&&decide (x.Id≤999))&&((yz n x.Nz).isSome&&eK x.Nj)
theorem kO {fu:Nat} (hfu:2097153≤fu) (n:Nk) (x:Nw) (hB:NetB n) (hr:x.Nz.Nq.length≤2097152):aB fu n x=some (bg n x):=by
 unfold aB bg;rw[kq hfu n x.Nz hB.2 hB.1.1 hr];simp only[bO,kQ,ss];cases yz n x.Nz with
 | none=>simp
 | some o=>cases hc:(decide (1≤x.Id)&&decide (x.Id≤999)) <;> simp [hc]
theorem kL {fu:Nat} (hfu:2097153≤fu) (n:Nk) (x:Nw) (hB:NetB n) (hn:dA n=true) (hr:x.Nz.Nq.length≤2097152):am fu n x=some (bg n x):=by
 unfold am bg;simp only[dF,mn,mo hfu n x.Nz hB hr,hn,tR,ss];cases hc:(decide (1≤x.Id)&&decide (x.Id≤999))
 simp;cases (yz n x.Nz).isSome <;> simp
def coll (a b:Nw):Bool:=meets a.Nz.Nq b.Nz.Nq&&(band (bits a.Nj) (bits b.Nj) != 0)
structure LightF (n:Nk) (x:Nw):Prop where
  nodup:x.Nz.Nq.Nodup
  short:x.Nz.Nq.length≤7
  blk:eK x.Nj=true
  route:∃o,yz n x.Nz=some o
  id:1≤x.Id∧x.Id≤999
theorem i7 {n:Nk} {x:Nw} (hn:dA n=true) (h:bg n x=true):LightF n x:=by
 unfold bg at h;simp only[sH,decide_eq_true_eq]at h;obtain⟨h1,h2,h3⟩:=h;obtain⟨o,ho⟩:=Option.isSome_iff_exists.1 h2;have hf:=iM (netF hn) ho;exact⟨hf.2.2.1,hf.2.2.2.1,h3,⟨o,ho⟩,h1⟩
theorem i9 {fu:Nat} (hfu:2097153≤fu) {n:Nk} {a b:Nw} (ha:LightF n a) (hb:LightF n b):yU fu a b=some (coll a b):=by
 unfold yU coll;have h1:=ha.short;have h2:=hb.short;rw[ox hfu a.Nz b.Nz.Nq (by omega) (by omega)];simp only[ja ha.blk,ja hb.blk,ss];cases meets a.Nz.Nq b.Nz.Nq <;> simp
theorem qu (q m:Bool):((if q=true then some m else some false).bind λc=>some c)=some (m&&q):=by cases q <;> cases m <;> rfl
theorem k8 {fu:Nat} (hfu:2097153≤fu) {n:Nk} {a b:Nw} (ha:LightF n a) (hb:LightF n b):aC fu a b=some (coll a b):=by
 unfold aC coll;have h1:=ha.short;have h2:=hb.short;obtain⟨c,hc,hd⟩:=mT (fu:=fu) a.Nz.Nq b.Nz.Nq (by omega) ha.nodup (by omega) hfu;rw[iY ha.blk,ss,iY hb.blk,ss,hc,ss,hd];exact qu _ _
theorem lG {α R:Type} {l:List α} {G:Nat→Int→Option (Out Int R)} (p:Nat→Bool) (r:Nat→R) (hn:(l.length:Int)≤9223372036854775807)
    (hG:∀fk (i:Nat) (h:i<l.length),(∀j,j<i→p j=false)→G (fk + 1) i=if p i=true then some (.ret (r i)) else G fk (w64 ((i:Int) + 1)))
    (hz:∀fk,G (fk + 1) l.length=some (.next (l.length:Int))):∀(fk i:Nat),l.length - i<fk→i≤l.length→(∀j,j<i→p j=false) →
    (∃k,k<l.length∧i≤k∧p k=true∧(∀j,j<k→p j=false)∧G fk i=some (.ret (r k)))∨((∀j,j<l.length→p j=false)∧G fk i=some (.next (l.length:Int))):=by
 intro fk;induction fk with
 | zero=>intro i h; omega
 | succ fk ih =>
   intro i hk hi hp
   by_cases h:i<l.length
   · rw[hG fk i h hp]
     by_cases hc:p i=true
     · rw[if_pos hc]
       exact .inl ⟨i,h,sK _,hc,hp,rfl⟩
     · rw[if_neg hc,xa h hn]
       rw[wN]at hc
       have hp':∀j,j<i + 1→p j=false:=λj hj=>by
         rcases wu j i with h' | h'
         · exact hp j h'
         · obtain rfl:j=i:=by omega
           exact hc
       rcases ih (i + 1) (by omega) h hp' with ⟨k,k1,k2,k3,k4,k5⟩ | ⟨h1,h2⟩
       · exact .inl ⟨k,k1,by omega,k3,k4,k5⟩
       · exact .inr ⟨h1,h2⟩
   · obtain rfl:i=l.length:=by omega
     rw[hz]
     exact .inr ⟨hp,rfl⟩
theorem g8 {α R:Type} {l:List α} {G:Nat→Int→Option (Out Int R)} (p:Nat→Bool) (r:R) (hn:(l.length:Int)≤9223372036854775807)
    (hG:∀fk (i:Nat) (h:i<l.length),(∀j,j<i→p j=false)→G (fk + 1) i=if p i=true then some (.ret r) else G fk (w64 ((i:Int) + 1)))
    (hz:∀fk,G (fk + 1) l.length=some (.next (l.length:Int))) (fk:Nat) (hk:l.length<fk):G fk 0=some (if (List.range l.length).any p=true then .ret r else .next (l.length:Int)):=by
 rcases lG p (λ_=>r) hn hG hz fk 0 (by omega) (by omega) (λj h=>by omega) with ⟨k,k1,-,k3,-,k5⟩ | ⟨h1,h2⟩
 rw[if_pos (sX.2 ⟨k,s8.2 k1,k3⟩)];exact k5;rw[if_neg];exact h2;intro h;obtain⟨k,k1,k2⟩:=sX.1 h;rw[h1 k (s8.1 k1)]at k2;cases k2
def l0:Nw:=⟨0,⟨0,[]⟩,⟨0,0⟩⟩
def yi (n:Nk) (L:List Nw) (i:Nat):Bool:=!bg n (gd L i l0)||((decide (0<i)&&decide ((gd L (i - 1) l0).Id≥(gd L i l0).Id))||(L.take i).any λy=>coll y (gd L i l0))
def vb (p:Nd):Bool:=dA p.Nk&&(decide (p.Nv.length≤12)&&!((List.range p.Nv.length).any (yi p.Nk p.Nv)))
def yS (p:Nd):Prop:=NetB p.Nk∧p.Nv.length≤2097152∧∀x∈p.Nv,x.Nz.Nq.length≤2097152
theorem l6 {n:Nk} {L:List Nw} {i:Nat} (h:i<L.length) (hp:∀j,j<i→yi n L j=false):∀y∈L.take i,bg n y=true:=by
 intro y hy;obtain⟨j,hj,rfl⟩:=s7.1 hy;rw[sG]at hj;rw[tO];have:=hp j (by omega);unfold yi at this;rw[tE,bG l0 (show j<L.length by omega)]at this;simpa using this.1
variable {fu:Nat}
theorem jh (hfu:2097153≤fu) {n:Nk} (l:List Nw) (x:Nw) (hl:l.length≤2097152) (hL:∀y∈l,LightF n y) (hx:LightF n x):uk fu l x=some (l.any λy=>coll y x):=by
 unfold uk uy;rw[vY (l:=l) (G:=ug fu l x) (λy=>coll y x) (λi=>(i:Int)) (by omega)
   (λfk i hi=>by
     have h':(i:Int)<(l.length:Int):=by omega
     rw[ug]
     simp only[h',decide_true,if_true,vG hi,ss,yl,k8 hfu (hL _ (s9 hi)) hx])
   (λfk=>by rw[ug,if_neg (by simp)]) fu (by omega)]
 cases l.any λy=>coll y x <;> simp [Out.on]
theorem bA (hfu:2097153≤fu) (p:Nd) (hB:yS p):vA fu p=some (vb p):=by
 obtain⟨hN,hL,hR⟩:=hB;unfold vA vb;rw[kP hfu _ hN,ss];cases hn:dA p.Nk
 rfl;simp only[ta,sC,if_false,ss,tR];by_cases h12:p.Nv.length≤12;have h12':¬(p.Nv.length:Int) > 12:=by omega
 simp only[h12',decide_false,sC,if_false,h12,decide_true,tR];rw[g8 (l:=p.Nv) (G:=vp fu p) (yi p.Nk p.Nv) false (by omega)
   (λfk i hi hp=>by
     have h':(i:Int)<(p.Nv.length:Int):=by omega
     have hr:=hR _ (bB l0 hi)
     rw[vp]
     simp only[h',decide_true,if_true,vV l0 hi,ss,kO hfu _ _ hN hr,fw (show i≤p.Nv.length by omega)]
     by_cases hl:bg p.Nk (gd p.Nv i l0)=true
     · have hf:=i7 hn hl
       have hc:=jh hfu (p.Nv.take i) (gd p.Nv i l0) (by simp; omega) (λy hy=>i7 hn (l6 hi hp y hy)) hf
       simp only[yi,hl,ta,sC,if_false,hc,ss,wg]
       by_cases h0:0<i
       · have h0':(i:Int) > 0:=by omega
         simp only[h0',h0,decide_true,if_true,fD h0 (show i≤2097152 by omega),vV l0 (show i - 1<p.Nv.length by omega),ss,tR]
         by_cases hid:(gd p.Nv (i - 1) l0).Id≥(gd p.Nv i l0).Id
         · simp [hid]
         · simp only[hid,decide_false,sC,if_false,wg,ss]
       · have h0':¬(i:Int) > 0:=by omega
         simp only[h0',h0,decide_false,sC,if_false,Ae,wg,ss]
     · rw[wN]at hl
       simp [yi,hl])
   (λfk=>by rw[vp,if_neg (by simp)]) fu (by omega)]
 cases (List.range p.Nv.length).any (yi p.Nk p.Nv) <;> rfl;have h12':(p.Nv.length:Int) > 12:=by omega
 simp [h12',h12]
theorem zZ (hfu:2097153≤fu) (p:Nd) (hB:yS p):x3 fu p=some (vb p):=by
  obtain⟨hN,hL,hR⟩:=hB;unfold x3 vb;rw[gH hfu _ hN,ss];cases hn:dA p.Nk
  · rfl
  · simp only[ta,sC,if_false,ss,tR]
    by_cases h12:p.Nv.length≤12
    · have h12':¬(p.Nv.length:Int) > 12:=by omega
      simp only[h12',decide_false,sC,if_false,h12,decide_true,tR]
      rw[g8 (l:=p.Nv) (G:=xv fu p) (yi p.Nk p.Nv) false (by omega)
        (λfk i hi hp=>by
          have h':(i:Int)<(p.Nv.length:Int):=by omega
          have hr:=hR _ (bB l0 hi)
          rw[xv]
          simp only[h',decide_true,if_true,vV l0 hi,ss,kL hfu _ _ hN hn hr]
          by_cases hl:bg p.Nk (gd p.Nv i l0)=true
          · have hf:=i7 hn hl
            have hc:vW fu p i fu 0=some (if (List.range (p.Nv.take i).length).any (λk=>coll (gd p.Nv k l0) (gd p.Nv i l0))=true then .ret false else .next ((p.Nv.take i).length:Int)) :=
              g8 (l:=p.Nv.take i) (G:=vW fu p i) (λk=>coll (gd p.Nv k l0) (gd p.Nv i l0)) false (by simp; omega)
                (λfk k hk _=>by
                  have hk':k<i:=by simp at hk; omega
                  have hk2:(k:Int)<(i:Int):=by omega
                  have hfk:=i7 hn (l6 hi hp (gd p.Nv k l0) (by
                    rw[bG l0 (show k<p.Nv.length by omega)]
                    refine s7.2 ⟨k,hk,by rw[tO]⟩))
                  rw[vW]
                  simp only[hk2,decide_true,if_true,vV l0 hi,vV l0 (show k<p.Nv.length by omega),ss,i9 hfu hfk hf])
                (λfk=>by
                  have:(p.Nv.take i).length=i:=by simp; omega
                  rw[this,vW,if_neg (by simp)]) fu (by simp; omega)
            have ha:(List.range (p.Nv.take i).length).any (λk=>coll (gd p.Nv k l0) (gd p.Nv i l0))=(p.Nv.take i).any λy=>coll y (gd p.Nv i l0):=by
              rw[tg,sX,sX]
              constructor
              · rintro⟨k,k1,k2⟩
                have k1':=s8.1 k1
                have hk':k<i:=by simp at k1'; omega
                rw[bG l0 (show k<p.Nv.length by omega)]at k2
                exact⟨_,s7.2 ⟨k,k1',by rw[tO]⟩,k2⟩
              · rintro⟨y,y1,y2⟩
                obtain⟨k,k1,rfl⟩:=s7.1 y1
                have hk':k<i:=by simp at k1; omega
                refine⟨k,s8.2 k1,?_⟩
                rw[bG l0 (show k<p.Nv.length by omega)]
                rw[tO]at y2
                exact y2
            rw[ha]at hc
            simp only[yi,hl,ta,sC,if_false,hc,ss,wg]
            by_cases h0:0<i
            · have h0':(i:Int) > 0:=by omega
              simp only[h0',h0,decide_true,if_true,fD h0 (show i≤2097152 by omega),vV l0 (show i - 1<p.Nv.length by omega),ss,tR]
              by_cases hid:(gd p.Nv (i - 1) l0).Id≥(gd p.Nv i l0).Id
              · simp [hid]
              · simp only[hid,decide_false,sC,if_false,wg,ss]
                cases (p.Nv.take i).any λy=>coll y (gd p.Nv i l0) <;> rfl
            · have h0':¬(i:Int) > 0:=by omega
              simp only[h0',h0,decide_false,sC,if_false,Ae,wg,ss]
              cases (p.Nv.take i).any λy=>coll y (gd p.Nv i l0) <;> rfl
          · rw[wN]at hl
            simp [yi,hl])
        (λfk=>by rw[xv,if_neg (by simp)]) fu (by omega)]
      cases (List.range p.Nv.length).any (yi p.Nk p.Nv) <;> rfl
    · have h12':(p.Nv.length:Int) > 12:=by omega
      simp [h12',h12]
structure PlanF (p:Nd):Prop where
  net:dA p.Nk=true
  short:p.Nv.length≤12
  light:∀x∈p.Nv,LightF p.Nk x
theorem l7 {p:Nd} (h:vb p=true):PlanF p:=by
 unfold vb at h;simp only[sH,decide_eq_true_eq,tu]at h;obtain⟨h1,h2,h3⟩:=h;refine⟨h1,h2,λx hx=>?_⟩;obtain⟨i,hi,rfl⟩:=s7.1 hx;rw[sP]at h3;have h6:yi p.Nk p.Nv i=false:=by
   rw[sP]
   intro h7
   exact h3 (sX.2 ⟨i,s8.2 hi,h7⟩)
 unfold yi at h6;rw[tE,bG l0 hi]at h6;exact i7 h1 (by simpa using h6.1)
end AT
namespace AT
def has (l:List Int) (f:Int):Bool:=l.any λx=>x==f
def used (L:List Nw) (f:Int):Int:=L.foldl (λo y=>if has y.Nz.Nq f=true then bor o (bits y.Nj) else o) 0
def along (L:List Nw) (fs:List Int):Int:=fs.foldl (λo f=>bor o (used L f)) 0
end AT
namespace AT
end AT
namespace AT
theorem ci {α:Type} {l:List α} (h:l.length≤1099511627776):app ([]:List α) l=some l:=by rw[zx (by simpa using h)]; rfl
theorem cI (fu:Nat) (x:Nw) (h:x.Nz.Nq.length≤2097152):yg fu x=some x:=by
 unfold yg cS zY;rw[ci (by omega)];rfl
variable {fu:Nat}
theorem nD (p:Nd) (hl:p.Nv.length≤2097152) (hr:∀x∈p.Nv,x.Nz.Nq.length≤2097152):∀(fk i:Nat) (m:List Nw),i≤p.Nv.length→p.Nv.length - i<fk→m.length≤i→∃z,yf fu p fk i m=some (z,m++p.Nv.drop i):=by
 intro fk;induction fk with
 | zero=>intro i _ _ h; omega
 | succ fk ih =>
   intro i m hi hk hm
   rw[yf]
   by_cases h:i<p.Nv.length
   · have h':(i:Int)<(p.Nv.length:Int):=by omega
     simp only[h',decide_true,if_true,vG h,ss,cI fu _ (hr _ (s9 h))]
     rw[zx (by simp; omega),ss,xa h (by omega)]
     obtain⟨z,hz⟩:=ih (i + 1) (m++[p.Nv[i]]) h (by omega) (by simp; omega)
     refine⟨z,?_⟩
     rw[hz,sE,←sL h]
     rfl
   · obtain rfl:i=p.Nv.length:=by omega
     rw[if_neg (by simp),tr,s5]
     exact⟨_,rfl⟩
theorem ka (hfu:2097153≤fu) (p:Nd) (hB:yS p):aU fu p=some p:=by
 obtain⟨hN,hL,hR⟩:=hB;unfold aU cT;have h1:=hN.1.1;have h2:=hN.2;rw[ci (by omega),ss,ci (by omega)];obtain⟨z,hz⟩:=nD (fu:=fu) p hL hR fu 0 [] (by omega) (by omega) (by simp);rw[show ((0:Nat):Int)=0 from rfl]at hz;simp only[ss,hz,tx,tA]
theorem eS (hfu:2097153≤fu) (p:Nd) (hB:yS p) {i:Nat} (hi:i<p.Nv.length):yu fu p i=some { Nk:=p.Nk,Nv:=p.Nv.eraseIdx i }:=by
 have hl:=hB.2.1;unfold yu;rw[ka hfu p hB,ss,fw (by omega),ss,xa hi (by omega)];have hs:sub p.Nv ((i + 1:Nat):Int) (p.Nv.length:Int)=some (p.Nv.drop (i + 1)):=by
   unfold sub
   rw[if_pos (by omega)]
   simp
 rw[hs,ss,ci (by simp; omega),ss,zx (by simp; omega),ss,tv]
structure PlanI (p:Nd):Prop where
  ids:∀i j,i<j→j<p.Nv.length→(gd p.Nv i l0).Id<(gd p.Nv j l0).Id
theorem pQ {p:Nd} (h:vb p=true):PlanI p:=by
 unfold vb at h;simp only[sH,decide_eq_true_eq,tu]at h;obtain⟨h1,h2,h3⟩:=h;rw[sP]at h3;have adj:∀j,0<j→j<p.Nv.length→(gd p.Nv (j - 1) l0).Id<(gd p.Nv j l0).Id:=λj h0 hj=>by
   have h6:yi p.Nk p.Nv j=false:=by
     rw[sP]
     intro h7
     exact h3 (sX.2 ⟨j,s8.2 hj,h7⟩)
   unfold yi at h6
   rw[tE,tE]at h6
   have:=h6.2.1
   simp only[h0,decide_true,tR,decide_eq_false_iff_not]at this
   omega
 refine⟨λi j=>?_⟩;induction j with
 | zero=>intro h; omega
 | succ j ih =>
   intro hij hj
   have:=adj (j + 1) (by omega) hj
   rw[Nat.add_sub_cancel]at this
   rcases wu i j with h' | h'
   · have:=ih h' (by omega)
     omega
   · obtain rfl:i=j:=by omega
     exact this
end AT
namespace AT
theorem ej {p:Nd}:vb p=true↔dA p.Nk=true∧p.Nv.length≤12∧(∀x∈p.Nv,bg p.Nk x=true)∧p.Nv.Pairwise (λa b=>a.Id<b.Id∧coll a b=false):=by
 constructor;intro h;have hI:=pQ h;have h':=h;unfold vb at h;simp only[sH,decide_eq_true_eq,tu]at h;obtain⟨h1,h2,h3⟩:=h;have hb:∀j,j<p.Nv.length→yi p.Nk p.Nv j=false:=λj hj=>by
   rw[sP]
   intro h7
   rw[sP]at h3
   exact h3 (sX.2 ⟨j,s8.2 hj,h7⟩)
 refine⟨h1,h2,λx hx=>?_,wn.2 λi j hi hj hij=>⟨?_,?_⟩⟩;obtain⟨i,hi,rfl⟩:=s7.1 hx;have:=hb i hi;unfold yi at this;rw[tE,bG l0 hi]at this;simpa using this.1;have:=hI.ids i j hij hj;rwa [bG l0 hi,bG l0 hj]at this;have:=hb j hj;unfold yi at this;rw[tE,tE,bG l0 hj]at this;rw[sP];intro hc;have h5:=this.2.2;rw[sP]at h5;exact h5 (sX.2 ⟨p.Nv[i],s7.2 ⟨i,by rw[sG]; omega,by rw[tO]⟩,hc⟩);rintro⟨h1,h2,h3,h4⟩;rw[wn]at h4;unfold vb;simp only[sH,decide_eq_true_eq,tu];refine⟨h1,h2,?_⟩;rw[sP];intro h;obtain⟨j,hj,hb⟩:=sX.1 h;have hj':=s8.1 hj;unfold yi at hb;rw[wo,wo,bG l0 hj',h3 _ (s9 hj')]at hb;rcases hb with hb | hb | hb
 cases hb;simp only[sH,decide_eq_true_eq]at hb;rw[bG l0 (show j - 1<p.Nv.length by omega)]at hb;have:=(h4 (j - 1) j (by omega) hj' (by omega)).1;omega;obtain⟨y,hy,hc⟩:=sX.1 hb;obtain⟨i,hi,rfl⟩:=s7.1 hy;rw[sG]at hi;rw[tO,(h4 i j (by omega) hj' (by omega)).2]at hc;cases hc
theorem iN {p:Nd} (h:vb p=true) (i:Nat):vb { p with Nv:=p.Nv.eraseIdx i }=true:=by
 obtain⟨h1,h2,h3,h4⟩:=ej.1 h;refine ej.2 ⟨h1,?_,λx hx=>h3 x (wS hx),h4.sublist (wG _ _)⟩;exact tL (wG p.Nv i).length_le h2
end AT
namespace AT
def atId (L:List Nw) (id:Int):Nat:=L.findIdx λy=>y.Id==id
theorem bN {L:List Nw} {id:Int} (h:(L.any λy=>y.Id==id)=true):atId L id<L.length:=by
 unfold atId;rw[List.findIdx_lt_length];obtain⟨x,hx,hc⟩:=sX.1 h;exact⟨x,hx,hc⟩
theorem f4 {fu:Nat} (p:Nd) (id:Int) (h:p.Nv.length<fu) (hn:p.Nv.length≤2097152):xG fu p id=some (if p.Nv.any (λy=>y.Id==id) then ((atId p.Nv id:Nat):Int) else -1):=by
 unfold xG;rw[vY (l:=p.Nv) (G:=xw fu p id) (λy=>y.Id==id) (λi=>(i:Int)) (by omega)
   (λfk i hi=>by
     have h':(i:Int)<(p.Nv.length:Int):=by omega
     rw[xw]
     simp only[h',decide_true,if_true,vG hi,ss])
   (λfk=>by rw[xw,if_neg (by simp)]) fu h]
 unfold atId;cases p.Nv.any λy=>y.Id==id <;> rfl
theorem eq {fu:Nat} (p:Nd) (id:Int) (h:p.Nv.length<fu) (hn:p.Nv.length≤2097152):xU fu p id=some (if p.Nv.any (λy=>y.Id==id) then ((atId p.Nv id:Nat):Int) else -1):=by
 unfold xU uC;rw[vY (l:=p.Nv) (G:=uh fu p.Nv id) (λy=>y.Id==id) (λi=>(i:Int)) (by omega)
   (λfk i hi=>by
     have h':(i:Int)<(p.Nv.length:Int):=by omega
     rw[uh]
     simp only[h',decide_true,if_true,vG hi,ss,zN])
   (λfk=>by rw[uh,if_neg (by simp)]) fu h]
 unfold atId;cases p.Nv.any λy=>y.Id==id <;> rfl
end AT
namespace AT
variable {G:Nat→Int→Option Int}
theorem mF {α:Type} {l:List α} (p:α→Bool) (hn:(l.length:Int)≤9223372036854775807)
    (hG:∀fk (i:Nat) (h:i<l.length),G (fk + 1) i=if p l[i]=true then some (i:Int) else G fk (w64 ((i:Int) + 1)))
    (hz:∀fk,G (fk + 1) l.length=some (l.length:Int)):∀(fk i:Nat),l.length - i<fk→i≤l.length→G fk i=some ((i + (l.drop i).findIdx p:Nat):Int):=by
 intro fk;induction fk with
 | zero=>intro i h; omega
 | succ fk ih =>
   intro i hk hi
   by_cases h:i<l.length
   · rw[hG fk i h,←sL h,Aj]
     by_cases hp:p l[i]=true
     · simp [hp]
     · simp only[hp,sC,if_false,cond_false]
       rw[xa h hn,ih (i + 1) (by omega) h]
       congr 2
       omega
   · obtain rfl:i=l.length:=by omega
     rw[hz,tr]; rfl
theorem nL {α:Type} {l:List α} (p:α→Bool) (hn:(l.length:Int)≤9223372036854775807)
    (hG:∀fk (i:Nat) (h:i<l.length),G (fk + 1) i=if p l[i]=true then some (i:Int) else G fk (w64 ((i:Int) + 1)))
    (hz:∀fk,G (fk + 1) l.length=some (l.length:Int)) (fk:Nat) (hk:l.length<fk):G fk 0=some ((l.findIdx p:Nat):Int):=by
 have:=mF p hn hG hz fk 0 (by omega) (by omega);simpa using this
def fj (L:List Nw) (id:Int):Nat:=L.findIdx λy=>!decide (y.Id<id)
def putL (L:List Nw) (x:Nw):List Nw:=L.take (fj L x.Id)++x::L.drop (fj L x.Id)
theorem io (L:List Nw) (id:Int):fj L id≤L.length:=List.findIdx_le_length
theorem nB (L:List Nw) (x:Nw):(putL L x).length=L.length + 1:=by
 have:=io L x.Id;unfold putL;rw[sJ,tj,sG,tB];omega
variable {L:List Nw}
theorem ie {x y:Nw}:y∈putL L x↔y=x∨y∈L:=by
 unfold putL;rw[su,sZ];constructor;rintro (h | h | h)
 exact .inr (List.mem_of_mem_take h);exact .inl h;exact .inr (w9 h);rintro (h | h)
 exact .inr (.inl h);rw[←tw (fj L x.Id) L,su]at h;rcases h with h | h
 exact .inl h;exact .inr (.inr h)
theorem kR {α:Type} {p:α→Bool} {l:List α} {i:Nat} (hi:i≤l.length) (h:∀j (hj:j<l.length),j<i→p l[j]=false) (h':∀hj:i<l.length,p l[i]=true):l.findIdx p=i:=by
 rcases wu i l.length with hj | hj
 rw[List.findIdx_eq hj];exact⟨h' hj,λj hji=>h j (by omega) hji⟩;obtain rfl:i=l.length:=by omega
 rw[List.findIdx_eq_length];intro x hx;obtain⟨j,hj',rfl⟩:=s7.1 hx;exact h j hj' hj'
theorem mY {id:Int} (h:(L.any λy=>y.Id==id)=true):(gd L (atId L id) l0).Id=id:=by
 have hl:=bN h;rw[bG l0 hl];have:=List.findIdx_getElem (w:=hl);rw[beq_iff_eq]at this;exact this
theorem lZ (hid:∀a b,a<b→b<L.length→(gd L a l0).Id<(gd L b l0).Id) {i:Nat} (hi:i<L.length) {x:Nw} (hx:x.Id=(gd L i l0).Id):putL (L.eraseIdx i) x=L.set i x:=by
 have hlen:(L.eraseIdx i).length=L.length - 1:=by rw[List.length_eraseIdx]; simp [hi]
 have hat:fj (L.eraseIdx i) x.Id=i:=by
   unfold fj
   refine kR (by omega) (λj hj hji=>?_) (λhj=>?_)
   · rw[List.getElem_eraseIdx_of_lt hj hji]
     have:=hid j i hji hi
     rw[bG l0 (by omega)]at this
     simp only[Bool.not_eq_false',decide_eq_true_eq]
     omega
   · rw[List.getElem_eraseIdx_of_ge hj (by omega)]
     have:=hid i (i + 1) (by omega) (by omega)
     rw[bG l0 (show i + 1<L.length by omega)]at this
     simp only[tu,decide_eq_false_iff_not]
     omega
 unfold putL;rw[hat,wU,if_pos hi];have e1:(L.eraseIdx i).take i=L.take i:=by rw[tv,td (by rw[sG]; omega),t8,Nat.min_self]
 have e2:(L.eraseIdx i).drop i=L.drop (i + 1):=by
   rw[tv,wA (by rw[sG]; omega),Au,Ar]
   simp
 rw[e1,e2]
end AT
namespace AT
theorem bL (fu:Nat) (r:Nz) (h:r.Nq.length≤2097152):xE fu r=some r:=by
 unfold xE;rw[ci (by omega)];rfl
theorem mP {fu:Nat} (p:Nd) (hl:p.Nv.length≤2097152) (hr:∀x∈p.Nv,x.Nz.Nq.length≤2097152):∀(fk i:Nat) (m:List Nw),i≤p.Nv.length→p.Nv.length - i<fk→m.length≤i→∃z,xo fu p fk i m=some (z,m++p.Nv.drop i):=by
 intro fk;induction fk with
 | zero=>intro i _ _ h; omega
 | succ fk ih =>
   intro i m hi hk hm
   rw[xo]
   by_cases h:i<p.Nv.length
   · have h':(i:Int)<(p.Nv.length:Int):=by omega
     simp only[h',decide_true,if_true,vG h,ss,bL fu _ (hr _ (s9 h))]
     rw[zx (by simp; omega),ss,xa h (by omega)]
     obtain⟨z,hz⟩:=ih (i + 1) (m++[p.Nv[i]]) h (by omega) (by simp; omega)
     refine⟨z,?_⟩
     rw[hz,sE,←sL h]
     rfl
   · obtain rfl:i=p.Nv.length:=by omega
     rw[if_neg (by simp),tr,s5]
     exact⟨_,rfl⟩
theorem dM {fu:Nat} (hfu:2097153≤fu) (p:Nd) (hB:yS p):yj fu p=some p:=by
 obtain⟨hN,hL,hR⟩:=hB;unfold yj zj;have h1:=hN.1.1;have h2:=hN.2;rw[ci (by omega),ss,ci (by omega)];obtain⟨z,hz⟩:=mP (fu:=fu) p hL hR fu 0 [] (by omega) (by omega) (by simp);rw[show ((0:Nat):Int)=0 from rfl]at hz;simp only[ss,hz,tx,tA]
end AT
namespace AT
theorem ol {a b:List Int} (h:a.length=b.length):(List.range a.length).any (λi=>gd a i 0 != gd b i 0)=!decide (a=b):=by
 rw[tg,sX];simp only[s8,bne_iff_ne,ne_eq,tu,decide_eq_false_iff_not];constructor;rintro⟨i,hi,hne⟩ rfl;exact hne rfl;intro hne;rcases Az (∃i,i<a.length∧¬gd a i 0=gd b i 0) with h1 | h1
 exact h1;refine absurd (Am h λi h2 h3=>?_) hne;rcases Az (a[i]=b[i]) with h4 | h4
 exact h4;exact absurd ⟨i,h2,by rw[bG 0 h2,bG 0 h3]; exact h4⟩ h1
variable {fu:Nat}
theorem mt (hfu:2097153≤fu) (a b:List Int) (ha:a.length≤2097152):bc fu a b=some (decide (a=b)):=by
 unfold bc;by_cases h:a.length=b.length;have h1:((a.length:Int) != (b.length:Int))=false:=by rw[h]; simp
 rw[h1,if_neg tl];rw[vY (l:=List.range a.length) (G:=xB fu a b) (λi=>gd a i 0 != gd b i 0) (λ_=>false) (by simp; omega)
   (λfk i hi=>by
     have hi':i<a.length:=by simpa using hi
     have h':(i:Int)<(a.length:Int):=by omega
     rw[xB,tm]
     simp only[h',decide_true,if_true,vV 0 hi',vV 0 (show i<b.length by omega),ss])
   (λfk=>by rw[tf,xB,if_neg (by simp)]) fu (by simp; omega),ol h]
 cases decide (a=b) <;> rfl;have h1:((a.length:Int) != (b.length:Int))=true:=by simp; omega
 have h2:¬a=b:=λe=>h (by rw[e]);rw[h1,if_pos rfl,decide_eq_false h2]
theorem mH (hfu:2097153≤fu) (a b:List Int) (ha:a.length≤2097152):xr fu a b=some (decide (a=b)):=by
 unfold xr;by_cases h:a.length=b.length;have h1:((a.length:Int) != (b.length:Int))=false:=by rw[h]; simp
 rw[h1,if_neg tl];rw[vY (l:=List.range a.length) (G:=uX fu a b) (λi=>gd a i 0 != gd b i 0) (λ_=>false) (by simp; omega)
   (λfk i hi=>by
     have hi':i<a.length:=by simpa using hi
     have h':(i:Int)<(a.length:Int):=by omega
     rw[uX,tm]
     simp only[h',decide_true,if_true,vV 0 hi',vV 0 (show i<b.length by omega),ss])
   (λfk=>by rw[tf,uX,if_neg (by simp)]) fu (by simp; omega),ol h]
 cases decide (a=b) <;> rfl;have h1:((a.length:Int) != (b.length:Int))=true:=by simp; omega
 have h2:¬a=b:=λe=>h (by rw[e]);rw[h1,if_pos rfl,decide_eq_false h2]
theorem i1 (x y:Nw):x=y↔x.Id=y.Id∧x.Nz.Pz=y.Nz.Pz∧x.Nz.Nq=y.Nz.Nq∧x.Nj.Px=y.Nj.Px∧x.Nj.Pk=y.Nj.Pk:=by
 rcases x with ⟨i,⟨s,f⟩,⟨a,c⟩⟩
 rcases y with ⟨i',⟨s',f'⟩,⟨a',c'⟩⟩
 simp only[Nw.mk.injEq,Nz.mk.injEq,Nj.mk.injEq,and_assoc]
theorem gN (hfu:2097153≤fu) (x y:Nw) (hx:x.Nz.Nq.length≤2097152):zo fu x y=some (decide (x=y)):=by
 unfold zo a6;rw[mt hfu _ _ hx];have e:=i1 x y;by_cases h1:x.Id=y.Id <;> by_cases h2:x.Nz.Pz=y.Nz.Pz <;> by_cases h3:x.Nz.Nq=y.Nz.Nq <;> by_cases h4:x.Nj.Px=y.Nj.Px <;> by_cases h5:x.Nj.Pk=y.Nj.Pk <;> simp [h1,h2,h3,h4,h5,e]
theorem dt (hfu:2097153≤fu) (x y:Nw) (hx:x.Nz.Nq.length≤2097152):xO fu x y=some (decide (x=y)):=by
 unfold xO;rw[mH hfu _ _ hx];have e:=i1 x y;by_cases h1:x.Id=y.Id <;> by_cases h2:x.Nz.Pz=y.Nz.Pz <;> by_cases h3:x.Nz.Nq=y.Nz.Nq <;> by_cases h4:x.Nj.Px=y.Nj.Px <;> by_cases h5:x.Nj.Pk=y.Nj.Pk <;> simp [h1,h2,h3,h4,h5,e]
def addP (p:Nd) (x:Nw):Nd:={ Nk:=p.Nk,Nv:=putL p.Nv x }
def delP (p:Nd) (i:Nat):Nd:={ Nk:=p.Nk,Nv:=p.Nv.eraseIdx i }
def setP (p:Nd) (i:Nat) (x:Nw):Nd:={ Nk:=p.Nk,Nv:=p.Nv.set i x }
theorem gO (L:List Nw) (id:Int) (G:Nat→Int→Option Int) (hl:L.length≤2097152) (hG:∀fk i,G (fk + 1) i=((if decide (i<(L.length:Int))=true then (idx L i).bind λe=>some (decide (e.Id<id)) else some false).bind λc=>if c=true then G fk (w64 (i + 1)) else some i)) (fu:Nat) (hfu:2097153≤fu):G fu 0=some ((fj L id:Nat):Int) :=
  nL (l:=L) (G:=G) (λy=>!decide (y.Id<id)) (by omega)
    (λfk i hi=>by
      have h':(i:Int)<(L.length:Int):=by omega
      rw[hG]
      simp only[h',decide_true,if_true,vG hi,ss]
      by_cases hc:L[i].Id<id <;> simp [hc])
    (λfk=>by rw[hG]; simp) fu (by omega)
theorem j9 (hfu:2097153≤fu) (p:Nd) (x:Nw) (hB:yS p) (hx:x.Nz.Nq.length≤2097152):zT fu p x=some (addP p x):=by
 have hl:=hB.2.1;have hi:=io p.Nv x.Id;unfold zT;rw[ka hfu p hB,ss,gO p.Nv x.Id (ye fu x p) hl (λfk i=>by rw[ye]) fu hfu,ss,fw hi,ss];have hs:sub p.Nv ((fj p.Nv x.Id:Nat):Int) (p.Nv.length:Int)=some (p.Nv.drop (fj p.Nv x.Id)):=by
   unfold sub
   rw[if_pos (by omega)]
   simp
 rw[hs,ss,ci (by rw[sG]; omega),ss,cI fu x hx,ss,zx (by rw[sG,sY]; omega),ss,zx (by rw[sJ,sG,sY,tB]; omega),ss,sE,tQ];rfl
theorem iD (hfu:2097153≤fu) (p:Nd) (x:Nw) (hB:yS p) (hx:x.Nz.Nq.length≤2097152):zd fu p x=some (addP p x):=by
 have hl:=hB.2.1;have hi:=io p.Nv x.Id;unfold zd;rw[dM hfu p hB,ss,gO p.Nv x.Id (vU fu p x) hl (λfk i=>by rw[vU]) fu hfu,ss,bL fu _ hx,ss];have hs:insl p.Nv ((fj p.Nv x.Id:Nat):Int) [({ Id:=x.Id,Nz:=x.Nz,Nj:=x.Nj }:Nw)]=some (putL p.Nv x):=by
   unfold insl
   rw[if_pos (by rw[sY]; omega),tM]
   rfl
 rw[hs,ss];rfl
theorem fC (hfu:2097153≤fu) (p:Nd) (hB:yS p) {i:Nat} (hi:i<p.Nv.length):yc fu p i=some (delP p i):=by
 have hl:=hB.2.1;unfold yc;rw[dM hfu p hB,ss,xa hi (by omega)];have hs:dell p.Nv (i:Int) ((i + 1:Nat):Int)=some (p.Nv.eraseIdx i):=by
   unfold dell
   rw[if_pos (by omega),tM,tM,tv]
 rw[hs,ss];rfl
def gi:Nd:=⟨⟨[],[]⟩,[]⟩
variable {p:Nd}
theorem om {x:Nw} (hB:yS p) (hs:p.Nv.length≤12) (hx:x.Nz.Nq.length≤2097152):yS (addP p x):=by
 refine⟨hB.1,?_,λy hy=>?_⟩;show (putL p.Nv x).length≤2097152;rw[nB]; omega;rcases ie.1 hy with rfl | h
 exact hx;exact hB.2.2 y h
theorem pX (hB:yS p) (i:Nat):yS (delP p i):=by
 refine⟨hB.1,tL (wG p.Nv i).length_le hB.2.1,λy hy=>hB.2.2 y (wS hy)⟩
theorem nU {x:Nw} (hB:yS p) (i:Nat) (hx:x.Nz.Nq.length≤2097152):yS (setP p i x):=by
 refine⟨hB.1,?_,λy hy=>?_⟩;show (p.Nv.set i x).length≤2097152;rw[sw]; exact hB.2.1;rcases Ah hy with h | rfl
 exact hB.2.2 y h;exact hx
def has_ (p:Nd) (id:Int):Bool:=p.Nv.any λy=>y.Id==id
def act (p:Nd) (a:Nh):Nd×Bool :=
  if a.Pq=1 then (if vb (addP p a.Nw)=true then (addP p a.Nw,true) else (gi,false))
  else if a.Pq=2 then (if has_ p a.Nw.Id=true∧gd p.Nv (atId p.Nv a.Nw.Id) l0=a.Nw then (delP p (atId p.Nv a.Nw.Id),true) else (gi,false))
  else if a.Pq=3 then (if has_ p a.Nw.Id=true∧vb (setP p (atId p.Nv a.Nw.Id) a.Nw)=true then (setP p (atId p.Nv a.Nw.Id) a.Nw,true) else (gi,false))
  else (gi,false)
theorem gM (n:Nat):decide (((n:Nat):Int)≥0)=true:=by simp
theorem fO (n:Nat):decide (((n:Nat):Int)<0)=false:=by simp
variable {a:Nh}
theorem jD (hfu:2097153≤fu) (p:Nd) (a:Nh) (hB:yS p) (hp:vb p=true) (ha:a.Nw.Nz.Nq.length≤2097152):zD fu p a=some (act p a):=by
 have hl:=hB.2.1;have hF:=l7 hp;have hI:=pQ hp;unfold zD;rw[f4 p _ (by omega) hl,ss];unfold act;by_cases k1:a.Pq=1;simp only[k1,beq_self_eq_true,if_true];unfold aK;rw[zZ hfu p hB,hp];simp only[ss,ta,sC,if_false,j9 hfu p _ hB ha,zZ hfu _ (om hB hF.short ha)];cases vb (addP p a.Nw) <;> rfl
 have e1:(a.Pq==1)=false:=by rw[beq_eq_false_iff_ne]; exact k1
 rw[e1,if_neg tl,if_neg k1];by_cases k2:a.Pq=2;simp only[k2,beq_self_eq_true,if_true];cases hh:has_ p a.Nw.Id
 have hh':(p.Nv.any λy=>y.Id==a.Nw.Id)=false:=hh;simp [hh',gi];have hh':(p.Nv.any λy=>y.Id==a.Nw.Id)=true:=hh;have hi:=bN hh';have hr:=hB.2.2 _ (bB l0 hi);simp only[hh',if_true,gM,vV l0 hi,ss,gN hfu _ a.Nw hr,eS hfu p hB hi,true_and,decide_eq_true_eq];by_cases he:gd p.Nv (atId p.Nv a.Nw.Id) l0=a.Nw;simp only[he,if_true,decide_true];rfl;simp only[he,if_false,decide_false,sC];rfl;have e2:(a.Pq==2)=false:=by rw[beq_eq_false_iff_ne]; exact k2
 rw[e2,if_neg tl,if_neg k2];by_cases k3:a.Pq=3;simp only[k3,beq_self_eq_true,if_true];unfold aj;rw[zZ hfu p hB,hp,f4 p _ (by omega) hl];simp only[ss,ta,sC,if_false];cases hh:has_ p a.Nw.Id
 have hh':(p.Nv.any λy=>y.Id==a.Nw.Id)=false:=hh;simp [hh',gi];have hh':(p.Nv.any λy=>y.Id==a.Nw.Id)=true:=hh;have hi:=bN hh';have hs:=lZ hI.ids hi (x:=a.Nw) (mY hh').symm;have hput:addP (delP p (atId p.Nv a.Nw.Id)) a.Nw=setP p (atId p.Nv a.Nw.Id) a.Nw:=by
   unfold addP delP setP
   rw[hs]
 have hput':zT fu ({ Nk:=p.Nk,Nv:=p.Nv.eraseIdx (atId p.Nv a.Nw.Id) }:Nd) ({ Id:=a.Nw.Id,Nz:=a.Nw.Nz,Nj:=a.Nw.Nj }:Nw)=some (setP p (atId p.Nv a.Nw.Id) a.Nw):=by
   rw[←hput]
   exact j9 hfu (delP p (atId p.Nv a.Nw.Id)) a.Nw (pX hB _) ha
 simp only[hh',if_true,fO,sC,if_false,eS hfu p hB hi,ss,hput',zZ hfu _ (nU hB _ ha),true_and];cases vb (setP p (atId p.Nv a.Nw.Id) a.Nw) <;> rfl
 have e3:(a.Pq==3)=false:=by rw[beq_eq_false_iff_ne]; exact k3
 rw[e3,if_neg tl,if_neg k3];rfl
theorem dl (hfu:2097153≤fu) (p:Nd) (id:Int) (hB:yS p):xP fu p id=some (if vb p=true∧has_ p id=true then (((atId p.Nv id:Nat):Int),true) else (0,false)):=by
 have hl:=hB.2.1;unfold xP;rw[eq p id (by omega) hl,ss,bA hfu p hB,ss];cases hp:vb p
 simp;cases hh:has_ p id
 have hh':(p.Nv.any λy=>y.Id==id)=false:=hh;simp [hh'];have hh':(p.Nv.any λy=>y.Id==id)=true:=hh;simp [hh',fO]
theorem iO (hfu:2097153≤fu) (p:Nd) (hB:yS p):zm fu p=some (if vb p=true then (p,true) else (gi,false)):=by
 unfold zm;rw[bA hfu p hB,ss];cases vb p <;> rfl
theorem nT (hfu:2097153≤fu) (p:Nd) (a:Nh) (hB:yS p) (ha:a.Nw.Nz.Nq.length≤2097152):xp fu p a=some (if vb p=true then act p a else (gi,false)):=by
 have hl:=hB.2.1;unfold xp act;by_cases k1:a.Pq=1;simp only[k1,beq_self_eq_true,if_true];unfold aO;rw[bA hfu p hB];cases hp:vb p
 rfl;have hF:=l7 hp;simp only[ss,ta,sC,if_false,if_true,iD hfu p _ hB ha,iO hfu _ (om hB hF.short ha)];have e1:(a.Pq==1)=false:=by rw[beq_eq_false_iff_ne]; exact k1
 rw[e1,if_neg tl,if_neg k1];by_cases k2:a.Pq=2;simp only[k2,beq_self_eq_true,if_true];rw[eq p _ (by omega) hl,ss];cases hh:has_ p a.Nw.Id
 have hh':(p.Nv.any λy=>y.Id==a.Nw.Id)=false:=hh;simp [hh',gi];have hh':(p.Nv.any λy=>y.Id==a.Nw.Id)=true:=hh;have hi:=bN hh';have hr:=hB.2.2 _ (bB l0 hi);simp only[hh',if_true,gM,vV l0 hi,ss,dt hfu _ a.Nw hr,true_and,decide_eq_true_eq];by_cases he:gd p.Nv (atId p.Nv a.Nw.Id) l0=a.Nw;simp only[he,if_true,decide_true];unfold zl;rw[dl hfu p _ hB,hh];cases hp:vb p
 rfl;simp only[and_self,if_true,ss,ta,sC,if_false,fC hfu p hB hi];simp only[he,if_false,decide_false,sC];cases vb p <;> rfl
 have e2:(a.Pq==2)=false:=by rw[beq_eq_false_iff_ne]; exact k2
 rw[e2,if_neg tl,if_neg k2];by_cases k3:a.Pq=3;simp only[k3,beq_self_eq_true,if_true];unfold ak;rw[dl hfu p _ hB];cases hp:vb p
 rfl;cases hh:has_ p a.Nw.Id
 rfl;have hh':(p.Nv.any λy=>y.Id==a.Nw.Id)=true:=hh;have hi:=bN hh';have hpi:zm fu ({ Nk:=p.Nk,Nv:=p.Nv.set (atId p.Nv a.Nw.Id) ({ Id:=a.Nw.Id,Nz:=a.Nw.Nz,Nj:=a.Nw.Nj }:Nw) }:Nd)=some (if vb (setP p (atId p.Nv a.Nw.Id) a.Nw)=true then (setP p (atId p.Nv a.Nw.Id) a.Nw,true) else (gi,false)):=iO hfu (setP p (atId p.Nv a.Nw.Id) a.Nw) (nU hB _ ha)
 simp only[and_self,if_true,ss,ta,sC,if_false,dM hfu p hB,bL fu _ ha,vV l0 hi,tM,hpi,true_and];have e3:(a.Pq==3)=false:=by rw[beq_eq_false_iff_ne]; exact k3
 rw[e3,if_neg tl,if_neg k3];cases vb p <;> rfl
theorem jl (hp:vb p=true) (h:(act p a).2=true):vb (act p a).1=true:=by
 unfold act at h ⊢;split
 rename_i k; rw[if_pos k]at h; split at h
 rename_i h1; rw[if_pos h1]; exact h1;cases h
 rename_i k; rw[if_neg k]at h; split
 rename_i k; rw[if_pos k]at h; split at h
 rename_i h1; rw[if_pos h1]; exact iN hp _;cases h
 rename_i k; rw[if_neg k]at h; split
 rename_i k; rw[if_pos k]at h; split at h
 rename_i h1; rw[if_pos h1]; exact h1.2;cases h
 rename_i k; rw[if_neg k]at h; cases h
theorem m6 (h:(act p a).2=true):(act p a).1.Nk=p.Nk:=by
 unfold act at h ⊢;split
 rename_i k; rw[if_pos k]at h; split at h
 rename_i h1; rw[if_pos h1]; rfl;cases h
 rename_i k; rw[if_neg k]at h; split
 rename_i k; rw[if_pos k]at h; split at h
 rename_i h1; rw[if_pos h1]; rfl;cases h
 rename_i k; rw[if_neg k]at h; split
 rename_i k; rw[if_pos k]at h; split at h
 rename_i h1; rw[if_pos h1]; rfl;cases h
 rename_i k; rw[if_neg k]at h; cases h
theorem m7 (h:(act p a).2=true):∀y∈(act p a).1.Nv,y∈p.Nv∨y=a.Nw:=by
 unfold act at h ⊢;split
 rename_i k; rw[if_pos k]at h; split at h
 rename_i h1; rw[if_pos h1]; exact λy hy=>(ie.1 hy).symm;cases h
 rename_i k; rw[if_neg k]at h; split
 rename_i k; rw[if_pos k]at h; split at h
 rename_i h1; rw[if_pos h1]; exact λy hy=>.inl (wS hy);cases h
 rename_i k; rw[if_neg k]at h; split
 rename_i k; rw[if_pos k]at h; split at h
 rename_i h1; rw[if_pos h1]; exact λy hy=>Ah hy;cases h
 rename_i k; rw[if_neg k]at h; cases h
theorem qv (hB:yS p) (hp:vb p=true) (ha:a.Nw.Nz.Nq.length≤2097152) (h:(act p a).2=true):yS (act p a).1:=by
 refine⟨by rw[m6 h]; exact hB.1,?_,λy hy=>?_⟩;have:=(l7 (jl hp h)).short;omega;rcases m7 h y hy with h1 | rfl
 exact hB.2.2 y h1;exact ha
end AT
namespace AT
def jN (l:List Nh):Prop:=l.length≤2097152∧∀a∈l,a.Nw.Nz.Nq.length≤2097152
theorem jf (fu:Nat) (x:Nw) (h:x.Nz.Nq.length≤2097152):ze fu x=some x:=by
 unfold ze;rw[bL fu _ h];rfl
theorem fq {fu:Nat} (l:List Nh) (hB:jN l):∀(fk i:Nat) (o:List Nh),i≤l.length→l.length - i<fk→o.length≤i→∃z,vB fu l fk o i=some (o++l.drop i,z):=by
 obtain⟨hl,hr⟩:=hB;intro fk;induction fk with
 | zero=>intro i _ _ h; omega
 | succ fk ih =>
   intro i o hi hk ho
   rw[vB]
   by_cases h:i<l.length
   · have h':(i:Int)<(l.length:Int):=by omega
     have ha:app o [l[i]]=some (o++[l[i]]):=zx (by rw[sY]; omega)
     simp only[h',decide_true,if_true,vG h,ss,jf fu _ (hr _ (s9 h)),ha]
     rw[xa h (by omega)]
     obtain⟨z,hz⟩:=ih (i + 1) (o++[l[i]]) h (by omega) (by rw[sJ,sY]; omega)
     exact⟨z,by rw[hz,sE,←sL h]; rfl⟩
   · obtain rfl:i=l.length:=by omega
     rw[if_neg (by simp),tr,s5]
     exact⟨_,rfl⟩
theorem gE {fu:Nat} (hfu:2097153≤fu) (l:List Nh) (hB:jN l):yr fu l=some l:=by
 unfold yr;obtain⟨z,hz⟩:=fq (fu:=fu) l hB fu 0 [] (by omega) (by have:=hB.1; omega) (by simp);rw[show ((0:Nat):Int)=0 from rfl]at hz;rw[hz,ss,tx,tA]
end AT
namespace AT
def acts:List Nh→Nd→Nd×Nat
  | [],p=>(p,0)
  | a::l,p=>if (act p a).2=true then ((acts l (act p a).1).1,(acts l (act p a).1).2 + 1) else (p,0)
theorem m5:∀(l:List Nh) (p:Nd),vb p=true→yS p→(∀a∈l,a.Nw.Nz.Nq.length≤2097152)→vb (acts l p).1=true∧yS (acts l p).1∧(acts l p).1.Nk=p.Nk∧∀y∈(acts l p).1.Nv,y∈p.Nv∨∃a∈l,y=a.Nw
  | [],p,hp,hB,_=>⟨hp,hB,rfl,λy hy=>.inl hy⟩
  | a::l,p,hp,hB,ha=>by
    unfold acts
    split
    · rename_i h
      obtain⟨h1,h2,h3,h4⟩:=m5 l (act p a).1 (jl hp h) (qv hB hp (ha a (by simp)) h) (λb hb=>ha b (by simp [hb]))
      refine⟨h1,h2,by rw[h3,m6 h],λy hy=>?_⟩
      rcases h4 y hy with h5 | ⟨b,hb,rfl⟩
      · rcases m7 h y h5 with h6 | rfl
        · exact .inl h6
        · exact .inr ⟨a,by simp,rfl⟩
      · exact .inr ⟨b,by simp [hb],rfl⟩
    · exact⟨hp,hB,rfl,λy hy=>.inl hy⟩
end AT
namespace AT
def a0:Nh:=⟨0,l0⟩
def pick (L:List Nh) (is:List Nat):List Nh:=is.map λi=>gd L i a0
def ordI (o:List Nat):List Int:=o.map λ(i:Nat)=>(i:Int)
def jm (n:Nat) (dead:List (Int×Bool)) (failed:List Bool):Prop:=failed.length=2 ^ n∧∀v,v<2 ^ n→mget dead ((2 ^ n - 1 - v:Nat):Int)=gd failed v false
structure SfS (n:Nat) (order:List Nat) (u:Nat):Prop where
  lt:u<2 ^ n
  nd:order.Nodup
  mem:∀i,i∈order↔i<n∧u.testBit i=true
structure SfGood (L:List Nh) (p:Nd) (order is:List Nat):Prop where
  acts:(acts (pick L is) p).2=is.length
  nd:(order++is).Nodup
  mem:∀i,i∈order++is↔i<L.length
def qw (L:List Nh) (p:Nd) (order:List Nat) (dead:List (Int×Bool)) (b:Nat) (ri:Option (List Nh×Bool×List (Int×Bool))) (rs:Option (List Int×Bool×List Bool)):Prop :=
  ∃is ok dead' failed',ri=some (if ok=true then pick L is else [],ok,dead')∧rs=some (if ok=true then ordI (order++is) else ordI order,ok,failed') ∧
    jm L.length dead' failed'∧dead'.length≤dead.length + b∧(ok=true→SfGood L p order is)
theorem dR:∀{l m:List Nat},l.Nodup→(∀i∈l,i∈m)→l.length≤m.length
  | [],_,_,_=>wv _
  | x::l,m,hn,hm=>by
    obtain⟨h1,h2⟩:=tT.1 hn
    have hx:x∈m:=hm x (by simp)
    have:=dR (l:=l) (m:=m.erase x) h2 λi hi=>(List.mem_erase_of_ne (by rintro rfl; exact h1 hi)).2 (hm i (by simp [hi]))
    rw[List.length_erase_of_mem hx]at this
    have h3:=List.length_pos_of_mem hx
    simp only[tj]
    omega
variable {n u:Nat} {order:List Nat}
theorem dy {l:List Nat} (hn:l.Nodup) (hl:∀i∈l,i<n):l.length≤n:=by
 have:=dR (m:=List.range n) hn λi hi=>s8.2 (hl i hi);simpa using this
theorem SfS.step {i:Nat} (hn:n≤8) (h:SfS n order u) (hi:i<n) (hb:u.testBit i=false):SfS n (order++[i]) (u + 2 ^ i):=by
 have h2:=(fI hn).2;refine⟨qA hn h.lt hi hb,?_,λj=>?_⟩;rw[sA];refine⟨h.nd,by simp,λa ha b hb2 e=>?_⟩;rw[sD]at hb2;subst e; subst hb2;rw[((h.mem a).1 ha).2]at hb;cases hb
 rw[su,sD,h.mem j];by_cases hj:j<n;rw[pq (by have:=h.lt; omega) (by omega) (by omega) hb];simp [hj];constructor;rintro (h | h)
 exact .inl h;exact .inr h.symm;rintro (h | h)
 exact .inl h;exact .inr h.symm;constructor;rintro (h | rfl)
 exact absurd h.1 hj;exact absurd hi hj;exact λh=>absurd h.1 hj
theorem SfS.full (h:SfS n order u) (hl:order.length=n):u=2 ^ n - 1:=by
 refine oE h.lt λi hi=>?_;have h1:i∈order:=Classical.byContradiction λhc=>by
   have:=dy (n:=n) (l:=i::order) (tT.2 ⟨hc,h.nd⟩) λj hj=>by
     rcases sZ.1 hj with rfl | hj
     · exact hi
     · exact ((h.mem j).1 hj).1
   simp only[tj]at this
   omega
 exact ((h.mem i).1 h1).2
theorem SfS.notfull (h:SfS n order u) (hl:order.length<n):u≠2 ^ n - 1:=λe=>by
  have:=dR (l:=List.range n) (m:=order) List.nodup_range λi hi=>(h.mem i).2 ⟨s8.1 hi,by rw[e,Nat.testBit_two_pow_sub_one]; simpa using hi⟩
  rw[tf]at this
  omega
theorem ig (L:List Nh) (is:List Nat):(pick L is).length=is.length:=by simp [pick]
theorem cV (o:List Nat):(ordI o).length=o.length:=by simp [ordI]
theorem ma (o:List Nat) (i:Nat):ordI o++[(i:Int)]=ordI (o++[i]):=by simp [ordI]
theorem mu (fu:Nat) (l:List Int) (h:l.length≤2097152):zY fu l=some l:=by
 unfold zY;rw[ci (by omega)]; rfl
theorem SfGood.cons {L:List Nh} {p:Nd} {order is:List Nat} {i:Nat} (ha:(act p (gd L i a0)).2=true) (h:SfGood L (act p (gd L i a0)).1 (order++[i]) is):SfGood L p order (i::is):=by
 have e:order++[i]++is=order++i::is:=by simp
 refine⟨?_,e▸h.nd,λj=>by rw[←e]; exact h.mem j⟩;show (AT.acts (gd L i a0::pick L is) p).2=_;rw[AT.acts,if_pos ha];simp only[h.acts,tj]
theorem wuS (h:n≤2097152):wu64 (n:Int)=(n:Int):=by unfold wu64; omega
def SfLoop (L:List Nh) (p:Nd) (order:List Nat) (dead:List (Int×Bool)) (b:Nat) (ri:Option (Out (Int×List (Int×Bool)) (List Nh×Bool×List (Int×Bool)))) (rs:Option (Out (Int×List Bool) (List Int×Bool×List Bool))):Prop :=
  (∃is dead' failed',ri=some (.ret (pick L is,true,dead'))∧rs=some (.ret (ordI (order++is),true,failed'))∧jm L.length dead' failed'∧dead'.length≤dead.length + b∧SfGood L p order is) ∨
  (∃z z' dead' failed',ri=some (.next (z,dead'))∧rs=some (.next (z',failed'))∧jm L.length dead' failed'∧dead'.length≤dead.length + b)
variable {L:List Nh} {m:List (Int×Bool)}
theorem SfLoop.mono {p:Nd} {dead dead2:List (Int×Bool)} {b b2:Nat} {ri:Option (Out (Int×List (Int×Bool)) (List Nh×Bool×List (Int×Bool)))} {rs:Option (Out (Int×List Bool) (List Int×Bool×List Bool))} (h:SfLoop L p order dead b ri rs) (hb:dead.length + b≤dead2.length + b2):SfLoop L p order dead2 b2 ri rs:=by
 rcases h with ⟨is,d,f,h1,h2,h3,h4,h5⟩ | ⟨z,z',d,f,h1,h2,h3,h4⟩
 exact .inl ⟨is,d,f,h1,h2,h3,by omega,h5⟩;exact .inr ⟨z,z',d,f,h1,h2,h3,by omega⟩
theorem oD {fu:Nat} (hfu:2097153≤fu) {L:List Nh} (hA:jN L) (hn:L.length≤8) {p:Nd} (hp:vb p=true) (hB:yS p) {order:List Nat} {u:Nat} (hS:SfS L.length order u) (hol:order.length≤8) (f0:List Bool) (c B:Nat)
    (ri:Nd→List Nh→Int→List (Int×Bool)→Option (List Nh×Bool×List (Int×Bool))) (rs:Ph→Nd→List Int→Int→Option (List Int×Bool×List Bool))
    (hrec:∀i,i<L.length→u.testBit i=false→(act p (gd L i a0)).2=true→∀dead failed,jm L.length dead failed→dead.length + c≤B →
      qw L (act p (gd L i a0)).1 (order++[i]) dead c (ri (act p (gd L i a0)).1 L ((2 ^ L.length - 1 - (u + 2 ^ i):Nat):Int) dead) (rs ⟨L,failed⟩ (act p (gd L i a0)).1 (ordI (order++[i])) ((u + 2 ^ i:Nat):Int))) :
    ∀(k i fk:Nat) (dead:List (Int×Bool)) (failed:List Bool),i + k=L.length→k<fk→jm L.length dead failed→dead.length + k * c≤B →
      SfLoop L p order dead (k * c) (vf fu p L ((2 ^ L.length - 1 - u:Nat):Int) ri fk (i:Int) dead) (uB fu ⟨L,f0⟩ p (ordI order) (u:Int) rs fk (i:Int) failed):=by
 have h2n:=fI hn;have hult:=hS.lt;intro k;induction k with
 | zero =>
   intro i fk dead failed hik hk hR hd
   obtain⟨fk,rfl⟩:∃f,fk=f + 1:=⟨fk - 1,by omega⟩
   rw[vf,uB,if_neg (by simp; omega),if_neg (by simp; omega)]
   exact .inr ⟨_,_,_,_,rfl,rfl,hR,by omega⟩
 | succ k ih =>
   intro i fk dead failed hik hk hR hd
   obtain⟨fk,rfl⟩:∃f,fk=f + 1:=⟨fk - 1,by omega⟩
   have hi:i<L.length:=by omega
   have e1:(k + 1) * c=k * c + c:=by rw[tn,Nat.one_mul]
   have hn9:(L.length:Int)≤9223372036854775807:=by omega
   have hi9:i≤2097152:=by omega
   have hb1:(band (((2 ^ L.length - 1 - u) / 2 ^ i:Nat):Int) 1==0)=u.testBit i:=by
     rw[jw (s:=2 ^ L.length - 1 - u) (i:=i) (by omega) (by omega),lF hult hi]
     cases u.testBit i <;> rfl
   have hb2:(band ((u / 2 ^ i:Nat):Int) 1==1)=u.testBit i:=by
     rw[jw (s:=u) (i:=i) (by omega) (by omega)]
     cases u.testBit i <;> rfl
   rw[vf,uB,if_pos (by simpa using hi),if_pos (by simpa using hi),vV a0 hi,wuS hi9,jU _ _ (by omega),jU _ _ (by omega),iF (by omega),xa hi hn9]
   rw[ss,ss,ss,ss,hb1,hb2]
   have hnext:=λdead2 failed2 (hR2:jm L.length dead2 failed2) (h:dead2.length≤dead.length + c)=>(ih (i + 1) fk dead2 failed2 (by omega) (by omega) hR2 (by omega)).mono (dead2:=dead) (b2:=(k + 1) * c) (by omega)
   cases hb:u.testBit i
   · have hBa:((gd L i a0).Nw.Nz.Nq.length)≤2097152:=hA.2 _ (bB a0 hi)
     rw[nT hfu p _ hB hBa,jD hfu p _ hB hp hBa,if_pos hp]
     have hbn:jk ((2 ^ L.length - 1 - u:Nat):Int) ((2 ^ i:Nat):Int)=((2 ^ L.length - 1 - (u + 2 ^ i):Nat):Int):=by
       rw[g7 (by omega) (by omega) (by rw[lF hult hi,hb]; rfl),show 2 ^ L.length - 1 - u - 2 ^ i=2 ^ L.length - 1 - (u + 2 ^ i) by omega]
     simp only[sC,if_false,hbn,pp (s:=u) (i:=i) (by omega) (by omega) hb,mu fu (ordI order) (by rw[cV]; omega),ss]
     rw[zx (by rw[cV]; simp; omega),ma]
     rw[ss]
     cases ha:(act p (gd L i a0)).2
     · rw[if_pos (by decide),if_pos (by decide)]
       exact hnext dead failed hR (by omega)
     · rw[if_neg (by decide),if_neg (by decide)]
       obtain⟨is,ok,dead',failed',g1,g2,g3,g4,g5⟩:=hrec i hi hb ha dead failed hR (by omega)
       rw[g1,g2]
       rw[ss,ss]
       cases ok
       · simp only[sC,if_false]
         exact hnext dead' failed' g3 g4
       · have hg:=g5 rfl
         have hgl:(pick L is).length≤8:=by
           rw[ig]
           have:=dy hg.nd λj hj=>(hg.mem j).1 hj
           rw[sJ]at this
           omega
         simp only[if_true]
         rw[zx (by simp only[sY]; omega)]
         refine .inl ⟨i::is,dead',failed',rfl,?_,g3,by omega,hg.cons ha⟩
         rw[show order++i::is=order++[i]++is by simp]
   · rw[if_pos rfl,if_pos rfl]
     exact hnext dead failed hR (by omega)
theorem nH {k:Nat} (hk:k<256):kK m (k:Int)=some (mget m (k:Int)):=by
 unfold kK wf64;rw[if_pos];simp only[sH,decide_eq_true_eq];omega
theorem nG {k:Nat} {v:Bool} (hk:k<256) (hm:m.length<1099511627776):kH m (k:Int) v=some (((k:Int),v)::m):=by
 unfold kH wf64;rw[if_pos];simp only[sH,decide_eq_true_eq];omega
theorem po (hA:jN L) (hn:L.length≤8) {B:Nat} (hBB:B<1099511627776):∀(d fu:Nat) (p:Nd) (order:List Nat) (u:Nat) (dead:List (Int×Bool)) (failed:List Bool),2097153 + d<fu→vb p=true→yS p→SfS L.length order u→order.length + d=L.length→jm L.length dead failed→dead.length + 9 ^ d≤B →
    qw L p order dead (9 ^ d) (vH fu p L ((2 ^ L.length - 1 - u:Nat):Int) dead) (uE fu ⟨L,failed⟩ p (ordI order) (u:Int)):=by
 have h2n:=fI hn;intro d;induction d with
 | zero =>
   intro fu p order u dead failed hfu hp hB hS hd hR hlen
   obtain⟨fu,rfl⟩:∃f,fu=f + 1:=⟨fu - 1,by omega⟩
   have e:=hS.full (by omega)
   rw[vH,zk,uE,vy,if_pos (by rw[e]; simp),if_pos (by rw[cV]; simp; omega)]
   refine⟨[],true,dead,failed,rfl,by simp,hR,by omega,λ_=>⟨rfl,by simpa using hS.nd,λi=>?_⟩⟩
   rw[s5,hS.mem i,e,Nat.testBit_two_pow_sub_one]
   simp
 | succ d ih =>
   intro fu p order u dead failed hfu hp hB hS hd hR hlen
   obtain⟨fu,rfl⟩:∃f,fu=f + 1:=⟨fu - 1,by omega⟩
   have hult:=hS.lt
   have e:=hS.notfull (by omega)
   have h9:9 ^ (d + 1)=9 * 9 ^ d:=by rw[Nat.pow_succ,Nat.mul_comm]
   have h91:1≤9 ^ d:=Nat.one_le_pow _ _ (by omega)
   have hkc:L.length * 9 ^ d≤8 * 9 ^ d:=sQ _ hn
   have hfl:=hR.1
   rw[vH,zk,uE,vy,if_neg (by simp; omega),if_neg (by rw[cV]; simp; omega),nH (by omega),hR.2 u hult,vV false (by simp only; omega)]
   simp only[ss]
   cases hf:gd failed u false
   · rw[if_neg (by decide),if_neg (by decide)]
     have hl:=oD (fu:=fu) (by omega) hA hn hp hB hS (by omega) failed (9 ^ d) B (λp list left dead=>vH fu p list left dead) (λx1 p order used=>uE fu x1 p order used)
       (λi hi hb ha dead failed hR hd2=>ih fu (act p (gd L i a0)).1 (order++[i]) (u + 2 ^ i) dead failed (by omega) (jl hp ha) (qv hB hp (hA.2 _ (bB a0 hi)) ha) (hS.step hn hi hb) (by simp; omega) hR hd2)
       L.length 0 fu dead failed (by omega) (by omega) hR (by omega)
     rw[show ((0:Nat):Int)=0 from rfl]at hl
     rcases hl with ⟨is,d',f',h1,h2,h3,h4,h5⟩ | ⟨z,z',d',f',h1,h2,h3,h4⟩
     · rw[h1,h2]
       exact⟨is,true,d',f',rfl,rfl,h3,by omega,λ_=>h5⟩
     · rw[h1,h2]
       simp only[ss,Out.on]
       have hfl2:=h3.1
       have hd':d'.length<1099511627776:=Nat.lt_of_le_of_lt (by omega) hBB
       rw[nG (by omega) hd',vV false (by omega)]
       refine⟨[],false,(((2 ^ L.length - 1 - u:Nat):Int),true)::d',f'.set u true,rfl,by simp,⟨by rw[sw]; exact hfl2,λv hv=>?_⟩,by simp only[tj]; omega,λh=>by cases h⟩
       rw[iX]
       by_cases hvu:v=u
       · subst hvu
         rw[if_pos rfl,gd,wC (by omega)]; rfl
       · rw[if_neg (by omega),gd,List.getElem?_set_ne (λh=>hvu h.symm)]
         exact h3.2 v hv
   · rw[if_pos rfl,if_pos rfl]
     exact⟨[],false,dead,failed,rfl,rfl,hR,by omega,λh=>by cases h⟩
end AT
