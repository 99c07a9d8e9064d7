/- Networks, plainly: names, fibers, validity. -/
import Derived.Test.YtlemonjnolciiaaGreatP1
import Derived.Test.YtlemonjnolciiaaGreatAtL
set_option linter.unusedSimpArgs false
set_option linter.unusedVariables false
namespace AT
def chr (s:ByteArray) (i:Nat):Int:=((s[i]?).map λb=>(b.toNat:Int)).getD 0
theorem lU {s:ByteArray} {i:Nat} (h:i<s.size):sidx s (i:Int)=some ⟨chr s i⟩:=by
 have e:s[i]?=some (s[i]'h):=by simp [h]
 unfold sidx chr;rw[if_pos (by omega),EZ,e];rfl
def od (c:Int):Bool:=decide (97≤c)&&decide (c≤122)
def rU (c:Int):Bool:=decide (48≤c)&&decide (c≤57)
def kT (s:ByteArray) (i:Nat):Bool:=!(od (chr s i)||rU (chr s i))
def lD (s:ByteArray) (i:Nat):Bool:=!od (chr s i)&&(!rU (chr s i)||i==0)
def j0 (s:ByteArray):Bool:=!((List.range s.size).any (lD s))&&(decide (1≤s.size)&&decide (s.size≤8))
theorem rS {fu:Nat} (s:ByteArray) (h:s.size<fu) (hn:s.size≤2097152):d9 fu s=some (j0 s):=by
 unfold d9;rw[xT (l:=List.range s.size) (G:=xD fu s) (lD s) (λi=>false) (by simp; omega)
   (λfk i hi=>by
     have hi':i<s.size:=by simpa using hi
     rw[xD,if_pos (by simpa using hi'),lU hi',Ew]
     simp only[Dw,lD,od,rU,ge_iff_le]
     have e0:((i:Int)==0)=(i==0):=by rw[Ej]; simp only[beq_iff_eq]; omega
     rw[e0]
     obtain⟨b,hb⟩:∃b,b=(i==0):=⟨_,rfl⟩
     simp only[←hb]
     by_cases h1:97≤chr s i <;> by_cases h2:48≤chr s i <;> by_cases h3:chr s i≤122 <;> by_cases h4:chr s i≤57 <;> cases b <;> simp [h1,h2,h3,h4])
   (λfk=>by rw[EH,xD,if_neg (by simp)]) fu (by simpa using h)]
 unfold j0;have e1:decide (1≤(s.size:Int))=decide (1≤s.size):=by simp only[decide_eq_decide]; omega
 have e2:decide ((s.size:Int)≤8)=decide (s.size≤8):=by simp only[decide_eq_decide]; omega
 cases (List.range s.size).any (lD s) <;> simp [Out.on,e1,e2]
theorem rM (fu:Nat) (b:By):dW fu b=some (od b.n||rU b.n):=by
 unfold dW od rU;simp only[ge_iff_le];by_cases h1:97≤b.n <;> by_cases h2:48≤b.n <;> by_cases h3:b.n≤122 <;> by_cases h4:b.n≤57 <;> simp [h1,h2,h3,h4]
theorem rN {fu:Nat} (s:ByteArray) (h:s.size<fu) (hn:s.size≤2097152):dX fu s=some (j0 s):=by
  unfold dX;have e1:decide (1≤(s.size:Int))=decide (1≤s.size):=by simp only[decide_eq_decide]; omega
  have e2:decide ((s.size:Int)≤8)=decide (s.size≤8):=by simp only[decide_eq_decide]; omega
  simp only[fc,Dw,e1,e2];unfold j0;by_cases hb:(decide (1≤s.size)&&decide (s.size≤8))=true
  · rw[hb]
    simp only[DC,decide_eq_true_eq]at hb
    have h0:0<s.size:=by omega
    have hs:=lU h0
    simp only[GV,Int.natCast_zero]at hs
    simp only[ED,DF,if_false,hs,Dw,G9]
    have hl:yn fu s fu 0=some (if (List.range s.size).any (kT s) then .ret false else .next ((List.range s.size).length:Int)) :=
      xT (l:=List.range s.size) (G:=yn fu s) (kT s) (λi=>false) (by simp; omega)
        (λfk i hi=>by
          have hi':i<s.size:=by simpa using hi
          rw[yn,if_pos (by simpa using hi'),lU hi',Ew]
          simp only[Dw,rM,kT]
          rfl)
        (λfk=>by rw[EH,yn,if_neg (by simp)]) fu (by simpa using h)
    rw[hl]
    have ha:(List.range s.size).any (lD s)=(!od (chr s 0)||(List.range s.size).any (kT s)):=by
      rw[Ej]
      simp only[DT,Et,Fv,lD,kT,DC,D9,beq_iff_eq,EL]
      constructor
      · rintro⟨i,hi,h1,h2⟩
        rcases h2 with h2 | h2
        · exact .inr ⟨i,hi,h1,h2⟩
        · subst h2; exact .inl h1
      · rintro (h1 | ⟨i,hi,h1,h2⟩)
        · exact⟨0,h0,h1,.inr rfl⟩
        · exact⟨i,hi,h1,.inl h2⟩
    rw[ha]
    unfold od
    have e3:decide (chr s 0<97)=!decide (97≤chr s 0):=by rw[←decide_not]; simp only[decide_eq_decide]; omega
    have e4:decide (chr s 0 > 122)=!decide (chr s 0≤122):=by rw[←decide_not]; simp only[decide_eq_decide]; omega
    simp only[e3,e4]
    cases decide (97≤chr s 0) <;> cases decide (chr s 0≤122) <;> cases (List.range s.size).any (kT s) <;> rfl
  · rw[FK]at hb
    rw[hb]
    simp
def nm0:ByteArray:=ByteArray.empty
def seen (l:List ByteArray) (i:Nat):Bool:=(l.take i).any λx=>(gd l i nm0).toList==x.toList
theorem nC {α:Type} [BEq α] [LawfulBEq α] (a b:α):(a==b)=(b==a):=by
 rw[Ej]; simp only[beq_iff_eq]; exact eq_comm
variable {fu i:Nat}
theorem rW (l:List ByteArray) (v:ByteArray) (h:l.length<fu) (hn:l.length≤2097152):xu fu l v=some (if l.any (λx=>v.toList==x.toList) then ((l.findIdx λx=>v.toList==x.toList:Nat):Int) else -1):=by
 unfold xu;rw[xT (l:=l) (G:=u6 fu l v) (λx=>v.toList==x.toList) (λi=>(i:Int)) (by omega)
   (λfk i hi=>by rw[u6,if_pos (by simpa using hi),vF hi]; rfl)
   (λfk=>by rw[u6,if_neg (by simp)]) fu h]
 cases l.any (λx=>v.toList==x.toList) <;> rfl
theorem nv (l:List ByteArray) (v:ByteArray) (h:l.length<fu) (hn:l.length≤2097152):vZ fu l v=some (l.any λx=>v.toList==x.toList):=by
 unfold vZ;rw[rW l v h hn];cases l.any (λx=>v.toList==x.toList)
 rfl;simp
theorem rO (l:List ByteArray) (v:ByteArray) (h:l.length<fu) (hn:l.length≤2097152):dY fu l v=some (if l.any (λx=>x.toList==v.toList) then ((l.findIdx λx=>x.toList==v.toList:Nat):Int) else -1):=by
 unfold dY;rw[xT (l:=l) (G:=yW fu l v) (λx=>x.toList==v.toList) (λi=>(i:Int)) (by omega)
   (λfk i hi=>by rw[yW,if_pos (by simpa using hi),vF hi]; rfl)
   (λfk=>by rw[yW,if_neg (by simp)]) fu h]
 cases l.any (λx=>x.toList==v.toList) <;> rfl
theorem ee {α:Type} {l:List α} (h:i≤l.length):sub l 0 (i:Int)=some (l.take i):=by
 unfold sub;rw[if_pos (by omega)];simp
theorem nm {α:Type} {l:List α} {p:α→Bool} (h:i<l.length) (hp:p l[i]=true):(l.findIdx p=i)↔(l.take i).any p=false:=by
 rw[List.findIdx_eq h];constructor;rintro⟨-,h2⟩;rw[DX];intro h3;obtain⟨x,hx,hpx⟩:=DT.1 h3;obtain⟨j,hj,rfl⟩:=Ee.1 hx;simp only[DO]at hj;rw[EN]at hpx;have:=h2 j (by omega);rw[hpx]at this;cases this
 intro h3;refine⟨hp,λj hj=>?_⟩;rw[DX];intro h4;rw[DX]at h3;refine h3 (DT.2 ⟨l[j],?_,h4⟩);refine Ee.2 ⟨j,by simp; omega,by rw[EN]⟩
def gN (l:List ByteArray) (i:Nat):Bool:=!j0 (gd l i nm0)||seen l i
def f0:Nt:=⟨0,0,0,0⟩
def jb (m:Nat) (f:Nt):Bool:=decide (0≤f.A)&&(decide (f.A<f.B)&&(decide (f.B<(m:Int))&&((decide (1≤f.Pk)&&decide (f.Pk≤5000))&&(decide (0≤f.Pd)&&decide (f.Pd≤9)))))
def fGt (f g:Nt):Bool:=decide (g.A<f.A)||(f.A==g.A&&(decide (g.B<f.B)||(f.B==g.B&&(decide (g.Pk<f.Pk)||(f.Pk==g.Pk&&decide (g.Pd<f.Pd))))))
def cmpI (x y:Int):Int:=if x<y then -1 else if x > y then 1 else 0
theorem jd (fu:Nat) (x y:Int):cmp_Compare_int fu x y=some (cmpI x y):=by
 unfold cmp_Compare_int cmp_isNaN_int cmpI;have e:∀z:Int,(z != z)=false:=λz=>by simp
 simp only[e,Dw,DF,if_false,decide_eq_true_eq];by_cases h:x<y;rw[if_pos h,if_pos h];rw[if_neg h,if_neg h];split <;> rfl
theorem jK (x y:Int):0<cmpI x y↔y<x:=by unfold cmpI; split <;> (try split) <;> omega
theorem zO (x y:Int):cmpI x y=0↔x=y:=by unfold cmpI; split <;> (try split) <;> omega
def or4 (a b c d:Int):Int:=if a≠0 then a else if b≠0 then b else if c≠0 then c else if d≠0 then d else 0
theorem AX (a b c d:Int) (h:4<fu):dP fu [a,b,c,d]=some (or4 a b c d):=by
 unfold dP;rw[xT (l:=[a,b,c,d]) (G:=zN fu [a,b,c,d]) (λe=>e != 0) (λi=>gd [a,b,c,d] i 0) (by simp)
   (λfk i hi=>by rw[zN,if_pos (by rw[decide_eq_true_eq]; omega),vF hi,zf 0 hi]; rfl)
   (λfk=>by rw[zN,if_neg (by simp)]) fu (by simpa using h)]
 unfold or4;have e:∀z:Int,(z != 0)=!decide (z=0):=λz=>by by_cases h:z=0 <;> simp [h]
 simp only[e];by_cases ha:a=0 <;> by_cases hb:b=0 <;> by_cases hc:c=0 <;> by_cases hd:d=0 <;> simp [ha,hb,hc,hd,G5,gd,Out.on]
theorem jw (f g:Nt) (h:4<fu):∃r,zJ fu f g=some r∧decide (r > 0)=fGt f g:=by
  unfold zJ;simp only[jd,Dw,AX _ _ _ _ h];refine⟨_,rfl,?_⟩;rw[Ej];simp only[fGt,decide_eq_true_eq,Fv,DC,beq_iff_eq,or4];have a1:=jK f.A g.A;have a2:=zO f.A g.A;have b1:=jK f.B g.B;have b2:=zO f.B g.B;have c1:=jK f.Pk g.Pk;have c2:=zO f.Pk g.Pk;have d1:=jK f.Pd g.Pd;have d2:=zO f.Pd g.Pd;generalize cmpI f.A g.A=a at *;generalize cmpI f.B g.B=b at *;generalize cmpI f.Pk g.Pk=c at *;generalize cmpI f.Pd g.Pd=d at *;split <;> (try split) <;> (try split) <;> (try split) <;> constructor <;> intro h <;> simp only[decide_eq_true_eq]at * <;> omega
def bef (f g:Nt):Int:=if f.A≠g.A then w64 (f.A - g.A) else if f.B≠g.B then w64 (f.B - g.B) else if f.Pk≠g.Pk then w64 (f.Pk - g.Pk) else w64 (f.Pd - g.Pd)
theorem j7 (fu:Nat) (f g:Nt):bz fu f g=some (bef f g):=by
 unfold bz bef;by_cases h1:f.A=g.A;by_cases h2:f.B=g.B;by_cases h3:f.Pk=g.Pk <;> simp [h1,h2,h3]
 simp [h1,h2];simp [h1]
theorem BF {m:Nat} {f g:Nt} (hm:m≤8) (hf:jb m f=true) (hg:jb m g=true):decide (bef f g > 0)=fGt f g:=by
 simp only[jb,DC,decide_eq_true_eq]at hf hg;rw[Ej];simp only[fGt,decide_eq_true_eq,Fv,DC,beq_iff_eq];unfold bef;have e1:w64 (f.A - g.A)=f.A - g.A:=vt (by omega) (by omega);have e2:w64 (f.B - g.B)=f.B - g.B:=vt (by omega) (by omega);have e3:w64 (f.Pk - g.Pk)=f.Pk - g.Pk:=vt (by omega) (by omega);have e4:w64 (f.Pd - g.Pd)=f.Pd - g.Pd:=vt (by omega) (by omega);rw[e1,e2,e3,e4];clear e1 e2 e3 e4;split
 omega;split
 omega;split <;> omega
theorem qd {m:Nat} (f:Nt) (hm:m≤8):dh fu f (m:Int)=some (jb m f):=by
 unfold dh;simp only[fc,Dw];have e0:w64 ((m:Int) - 1)=(m:Int) - 1:=vt (by omega) (by omega);rw[e0];unfold jb;by_cases h1:0≤f.A;by_cases h2:f.A≤(m:Int) - 1;have e1:w64 (f.A + 1)=f.A + 1:=vt (by omega) (by omega);rw[e1];have e2:decide (f.A + 1≤f.B)=decide (f.A<f.B):=by simp only[decide_eq_decide]; omega
 have e3:decide (f.B≤(m:Int) - 1)=decide (f.B<(m:Int)):=by simp only[decide_eq_decide]; omega
 rw[e2,e3];simp only[h1,h2,decide_true,G9,if_true,EV];cases decide (f.A<f.B) <;> cases decide (f.B<(m:Int)) <;> cases decide (1≤f.Pk) <;> cases decide (f.Pk≤5000) <;> cases decide (0≤f.Pd) <;> cases decide (f.Pd≤9) <;> rfl
 have:(decide (f.A<f.B)&&decide (f.B<(m:Int)))=false:=by
   rw[DX]; simp only[ne_eq,DC,decide_eq_true_eq]; omega
 rw[←Ho (decide (f.A<f.B)),this];simp [h1,h2];simp [h1]
def fX (m:Nat) (l:List Nt) (i:Nat):Bool:=!jb m (gd l i f0)||(decide (0<i)&&fGt (gd l (i - 1) f0) (gd l i f0))
def jc (m:Nat) (l:List Nt) (i:Nat):Bool:=!jb m (gd l i f0)||(decide (0<i)&&decide (bef (gd l (i - 1) f0) (gd l i f0) > 0))
theorem sg {m:Nat} (l:List Nt) (hm:m≤8):(List.range l.length).any (jc m l)=(List.range l.length).any (fX m l):=by
 by_cases hv:∃i,i<l.length∧jb m (gd l i f0)=false;obtain⟨i,hi,hb⟩:=hv;have h1:(List.range l.length).any (jc m l)=true:=DT.2 ⟨i,Et.2 hi,by simp [jc,hb]⟩;have h2:(List.range l.length).any (fX m l)=true:=DT.2 ⟨i,Et.2 hi,by simp [fX,hb]⟩;rw[h1,h2];have hv':∀i,i<l.length→jb m (gd l i f0)=true:=λi hi=>by
   cases h:jb m (gd l i f0)
   · exact absurd ⟨i,hi,h⟩ hv
   · rfl
 refine mD λi hi=>?_;have hi':=Et.1 hi;unfold jc fX;by_cases h0:0<i;rw[BF hm (hv' (i - 1) (by omega)) (hv' i hi')];simp [h0]
def eA (n:Nq):Bool:=(decide (2≤n.Nx.length)&&decide (n.Nx.length≤8))&&(decide (n.Nw.length≤14)&&(!((List.range n.Nx.length).any (gN n.Nx))&&!((List.range n.Nw.length).any (fX n.Nx.length n.Nw))))
def NetB (n:Nq):Prop:=(n.Nx.length≤2097152∧∀e∈n.Nx,e.size≤2097152)∧n.Nw.length≤2097152
theorem bT {α:Type} {l:List α} (d:α) (h:i<l.length):gd l i d∈l:=by rw[zf d h]; exact D6 _
theorem lu (hfu:2097153≤fu) (n:Nq) (hB:NetB n):yh fu n=some (eA n):=by
 obtain⟨⟨hl,hs⟩,hl2⟩:=hB;unfold yh;rw[xT (l:=List.range n.Nx.length) (G:=vI fu n) (gN n.Nx) (λi=>false) (by simp; omega)
   (λfk i hi=>by
     have hi':i<n.Nx.length:=by simpa using hi
     have hz:=hs _ (bT nm0 hi')
     rw[vI,if_pos (by simpa using hi'),x5 nm0 hi',Ew]
     simp only[Dw,rS _ (show (gd n.Nx i nm0).size<fu by omega) hz,gN,seen]
     rcases Ha (j0 (gd n.Nx i nm0)) with h1 | h1
     · rw[ee (by omega)]
       simp only[h1,ED,DF,if_false,Dw,nv _ _ (show (n.Nx.take i).length<fu by simp; omega) (by simp; omega),Fo]
     · simp [h1])
   (λfk=>by rw[EH,vI,if_neg (by simp)]) fu (by simp; omega)]
 rw[xT (l:=List.range n.Nw.length) (G:=vH fu n) (fX n.Nx.length n.Nw) (λi=>false) (by simp; omega)
   (λfk i hi=>by
     have hi':i<n.Nw.length:=by simpa using hi
     rw[vH,if_pos (by simpa using hi'),x5 f0 hi',Ew]
     simp only[Dw,bG,fX,jb]
     obtain⟨x,hx⟩:∃x,x=gd n.Nw i f0:=⟨_,rfl⟩
     simp only[←hx]
     have a1:decide (x.A<0)=!decide (0≤x.A):=by rw[←decide_not]; simp only[decide_eq_decide]; omega
     have a2:decide (x.A≥x.B)=!decide (x.A<x.B):=by rw[←decide_not]; simp only[decide_eq_decide]; omega
     have a3:decide (x.B≥(n.Nx.length:Int))=!decide (x.B<(n.Nx.length:Int)):=by rw[←decide_not]; simp only[decide_eq_decide]; omega
     simp only[a1,a2,a3]
     by_cases b1:(decide (0≤x.A))=false
     · simp [b1]
     rw[FF]at b1
     by_cases b2:(decide (x.A<x.B))=false
     · simp [b1,b2]
     rw[FF]at b2
     by_cases b3:(decide (x.B<(n.Nx.length:Int)))=false
     · simp [b1,b2,b3]
     rw[FF]at b3
     by_cases b4:(decide (1≤x.Pk)&&decide (x.Pk≤5000))=false
     · simp only[b1,b2,b3,b4]; simp
     rw[FF]at b4
     by_cases b5:(decide (0≤x.Pd)&&decide (x.Pd≤9))=false
     · simp only[b1,b2,b3,b4,b5]; simp
     rw[FF]at b5
     simp only[b1,b2,b3,b4,b5]
     by_cases h0:0<i
     · rw[eq h0 (by omega),x5 f0 (show i - 1<n.Nw.length by omega)]
       obtain⟨r,h1,h2⟩:=jw (fu:=fu) (gd n.Nw (i - 1) f0) x (by omega)
       have h0':((i:Int) > 0):=by omega
       simp [h0,h1,h2,h0']
     · have h0':¬((i:Int) > 0):=by omega
       simp [h0,h0'])
   (λfk=>by rw[EH,vH,if_neg (by simp)]) fu (by simp; omega)]
 unfold eA;have e1:decide (2≤(n.Nx.length:Int))=decide (2≤n.Nx.length):=by simp only[decide_eq_decide]; omega
 have e2:decide ((n.Nx.length:Int)≤8)=decide (n.Nx.length≤8):=by simp only[decide_eq_decide]; omega
 have e3:decide ((n.Nw.length:Int)≤14)=decide (n.Nw.length≤14):=by simp only[decide_eq_decide]; omega
 simp only[bG,e1,e2,e3];cases (List.range n.Nx.length).any (gN n.Nx) <;> cases (List.range n.Nw.length).any (fX n.Nx.length n.Nw) <;> cases decide (2≤n.Nx.length) <;> cases decide (n.Nx.length≤8) <;> cases decide (n.Nw.length≤14) <;> rfl
theorem iP (hfu:2097153≤fu) (n:Nq) (hB:NetB n):bV fu n=some (eA n):=by
 obtain⟨⟨hl,hs⟩,hl2⟩:=hB;unfold bV eA;have e1:decide (2≤(n.Nx.length:Int))=decide (2≤n.Nx.length):=by simp only[decide_eq_decide]; omega
 have e2:decide ((n.Nx.length:Int)≤8)=decide (n.Nx.length≤8):=by simp only[decide_eq_decide]; omega
 have e3:decide ((n.Nw.length:Int) > 14)=!decide (n.Nw.length≤14):=by rw[←decide_not]; simp only[decide_eq_decide]; omega
 simp only[fc,e1,e2,e3,Dw];cases hb:(decide (2≤n.Nx.length)&&decide (n.Nx.length≤8))
 rfl;cases hc:decide (n.Nw.length≤14)
 rfl;simp only[DC,decide_eq_true_eq]at hb hc;rw[xT (l:=List.range n.Nx.length) (G:=yV fu n) (gN n.Nx) (λi=>false) (by simp; omega)
   (λfk i hi=>by
     have hi':i<n.Nx.length:=by simpa using hi
     have hz:=hs _ (bT nm0 hi')
     rw[yV,if_pos (by simpa using hi'),x5 nm0 hi',Ew]
     simp only[Dw,rN _ (show (gd n.Nx i nm0).size<fu by omega) hz,gN,seen]
     by_cases h1:(j0 (gd n.Nx i nm0))=false
     · simp [h1]
     rw[FF]at h1
     · have hp:(λx:ByteArray=>x.toList==(gd n.Nx i nm0).toList) n.Nx[i]=true:=by simp [zf nm0 hi']
       have ha:n.Nx.any (λx=>x.toList==(gd n.Nx i nm0).toList)=true:=DT.2 ⟨_,D6 hi',hp⟩
       have hfi:=nm (p:=λx:ByteArray=>x.toList==(gd n.Nx i nm0).toList) hi' hp
       have hsy:(n.Nx.take i).any (λx=>(gd n.Nx i nm0).toList==x.toList)=(n.Nx.take i).any (λx=>x.toList==(gd n.Nx i nm0).toList):=mD λx _=>nC _ _
       simp only[h1,ED,DF,if_false,Dw,rO _ _ (show n.Nx.length<fu by omega) hl,ha,if_true,Fo,hsy]
       have he:(((n.Nx.findIdx λx=>x.toList==(gd n.Nx i nm0).toList:Nat):Int) != (i:Int))=(n.Nx.take i).any (λx=>x.toList==(gd n.Nx i nm0).toList):=by
         rw[Ej]
         simp only[bne_iff_ne,ne_eq,Int.natCast_inj,hfi,FF]
       rw[he])
   (λfk=>by rw[EH,yV,if_neg (by simp)]) fu (by simp; omega)]
 rw[xT (l:=List.range n.Nw.length) (G:=yU fu n) (jc n.Nx.length n.Nw) (λi=>false) (by simp; omega)
   (λfk i hi=>by
     have hi':i<n.Nw.length:=by simpa using hi
     rw[yU,if_pos (by simpa using hi'),x5 f0 hi',Ew]
     simp only[Dw,qd _ hb.2,jc]
     by_cases h1:(jb n.Nx.length (gd n.Nw i f0))=false
     · simp [h1]
     rw[FF]at h1
     simp only[h1]
     by_cases h0:0<i
     · rw[eq h0 (by omega),x5 f0 (show i - 1<n.Nw.length by omega)]
       have h0':((i:Int) > 0):=by omega
       simp [h0,j7,h0']
     · have h0':¬((i:Int) > 0):=by omega
       simp [h0,h0'])
   (λfk=>by rw[EH,yU,if_neg (by simp)]) fu (by simp; omega),sg _ hb.2]
 cases (List.range n.Nx.length).any (gN n.Nx) <;> cases (List.range n.Nw.length).any (fX n.Nx.length n.Nw) <;> rfl
structure NetF (n:Nq):Prop where
  lo:2≤n.Nx.length
  hi:n.Nx.length≤8
  fib:n.Nw.length≤14
  each:∀f∈n.Nw,0≤f.A∧f.A<f.B∧f.B<(n.Nx.length:Int)∧1≤f.Pk∧f.Pk≤5000∧0≤f.Pd∧f.Pd≤9
theorem netF {n:Nq} (h:eA n=true):NetF n:=by
 unfold eA at h;simp only[DC,decide_eq_true_eq,D9]at h;obtain⟨⟨h1,h2⟩,h3,h4,h5⟩:=h;refine⟨h1,h2,h3,λf hf=>?_⟩;obtain⟨i,hi,rfl⟩:=Ee.1 hf;rw[DX]at h5;have h6:fX n.Nx.length n.Nw i=false:=by
   rw[DX]
   intro h7
   exact h5 (DT.2 ⟨i,Et.2 hi,h7⟩)
 unfold fX at h6;rw[EL]at h6;have h8:=h6.1;rw[zf f0 hi]at h8;simp only[Gd,jb,DC,decide_eq_true_eq]at h8;omega
end AT
namespace AT
theorem xH {α:Type} {l m:List α} (h:l.length + m.length≤1099511627776):app l m=some (l++m):=by unfold app; rw[if_pos h]
variable {fu:Nat}
theorem rX (l:List Int) (v:Int) (h:l.length<fu) (hn:l.length≤2097152):yI fu l v=some (if l.any (λx=>x==v) then ((l.findIdx λx=>x==v:Nat):Int) else -1):=by
 unfold yI;rw[xT (l:=l) (G:=vw fu l v) (λx=>x==v) (λi=>(i:Int)) (by omega)
   (λfk i hi=>by rw[vw,if_pos (by simpa using hi),vF hi,Dw,nC v])
   (λfk=>by rw[vw,if_neg (by simp)]) fu h]
 cases l.any (λx=>x==v) <;> rfl
theorem fZ (l:List Int) (v:Int) (h:l.length<fu) (hn:l.length≤2097152):vY fu l v=some (l.any λx=>x==v):=by
 unfold vY;rw[rX l v h hn];cases l.any (λx=>x==v)
 rfl;simp
theorem fe (l:List Int) (v:Int) (h:l.length<fu) (hn:l.length≤2097152):ah fu l v=some (l.any λx=>x==v):=by
 unfold ah;rw[xT (l:=l) (G:=zA fu l v) (λx=>x==v) (λi=>true) (by omega)
   (λfk i hi=>by rw[zA,if_pos (by simpa using hi),vF hi,Dw])
   (λfk=>by rw[zA,if_neg (by simp)]) fu h]
 cases l.any (λx=>x==v) <;> rfl
def oth (f:Nt) (v:Int):Int:=if v=f.A then f.B else if v=f.B then f.A else -1
theorem wz {R:Type} (f:Nt) (v:Int) (k:Int→R):(if v==f.A then k f.B else if v==f.B then k f.A else k (-1))=k (oth f v):=by
 unfold oth;by_cases h1:v=f.A;rw[if_pos (beq_iff_eq.2 h1),if_pos h1];rw[if_neg (by simpa using h1),if_neg h1];by_cases h2:v=f.B;rw[if_pos (beq_iff_eq.2 h2),if_pos h2];rw[if_neg (by simpa using h2),if_neg h2]
theorem jX (fu:Nat) (f:Nt) (v:Int):cC fu f v=some (oth f v):=by
 exact wz f v some
theorem gm (fu:Nat) (n:Nq) (i:Nat) (v:Int) (h:i<n.Nw.length):yp fu n (i:Int) v=some (oth (gd n.Nw i f0) v):=by
 unfold yp;rw[x5 f0 h];exact wz _ v some
def dj (F:List Nt):List Int→List Int→Int→Option (List Int)
  | [],out,_=>some out
  | i::r,out,v=>if 0≤i∧i<(F.length:Int) then (if oth (gd F i.toNat f0) v<0∨(out.any λx=>x==oth (gd F i.toNat f0) v)=true then none else dj F r (out++[oth (gd F i.toNat f0) v]) (oth (gd F i.toNat f0) v)) else none
def yM (n:Nq) (r:Nv):Option (List Int):=if (0≤r.Pq∧r.Pq<(n.Nx.length:Int))∧r.Nw≠[] then dj n.Nw r.Nw [r.Pq] r.Pq else none
def gl (l:List Int):Int:=gd l (l.length - 1) 0
theorem kh (l:List Int) (x:Int):gl (l++[x])=x:=by unfold gl gd; simp
theorem mM {F:List Nt}:∀{fs out:List Int} {v:Int} {o:List Int},dj F fs out v=some o→o.length=out.length + fs.length
  | [],out,v,o,h=>by simp only[dj,Ec]at h; subst h; simp
  | i::r,out,v,o,h=>by
    unfold dj at h
    split at h
    · split at h
      · cases h
      · have:=mM h
        simp only[DR,Ep,EY]at this ⊢
        omega
    · cases h
theorem oM {F:List Nt}:∀{fs out:List Int} {v:Int} {o:List Int},dj F fs out v=some o→∀i∈fs,0≤i∧i<(F.length:Int)
  | [],out,v,o,h=>by simp
  | i::r,out,v,o,h=>by
    unfold dj at h
    split at h
    · rename_i hi
      split at h
      · cases h
      · intro j hj
        rcases DZ.1 hj with rfl | hj
        · exact hi
        · exact oM h j hj
    · cases h
variable {n:Nq} {r:Nv} {o:List Int}
theorem mI (hfu:2097153≤fu) (n:Nq) (r:Nv) (hn:n.Nw.length≤2097152) (hr:r.Nw.length≤2097152):∀(fk i:Nat) (out:List Int) (v:Int),i≤r.Nw.length→r.Nw.length - i<fk→out.length=i + 1 →
    ∃z,zm fu n r fk out v i=some (match dj n.Nw (r.Nw.drop i) out v with | some o=>.next (o,z) | none=>.ret ([],false)):=by
 intro fk;induction fk with
 | zero=>intro i _ _ _ h; omega
 | succ fk ih =>
   intro i out v hi hk ho
   rw[zm]
   by_cases h:i<r.Nw.length
   · rw[if_pos (by simpa using h),vF h,←DG h,dj]
     obtain⟨e,he⟩:∃e,e=r.Nw[i]:=⟨_,rfl⟩
     simp only[←he,Dw,bG]
     rw[vt (by omega) (by omega)]
     by_cases hb:0≤e∧e<(n.Nw.length:Int)
     · rw[if_pos hb]
       have hb':(decide (0≤e)&&decide (e≤(n.Nw.length:Int) - 1))=true:=by simp; omega
       have hx:idx n.Nw e=some (gd n.Nw e.toNat f0):=by
         have:=x5 (l:=n.Nw) (i:=e.toNat) f0 (by omega)
         rwa [EW hb.1]at this
       simp only[hb',ED,DF,if_false,hx,Dw,jX]
       obtain⟨y,hy⟩:∃y,y=oth (gd n.Nw e.toNat f0) v:=⟨_,rfl⟩
       simp only[←hy,fZ out y (show out.length<fu by omega) (by omega)]
       by_cases hn:y<0∨(out.any λx=>x==y)=true
       · rw[if_pos hn]
         refine⟨(0,0),?_⟩
         rcases hn with h1 | h1
         · simp [h1]
         · by_cases h2:y<0 <;> simp [h1,h2]
       · rw[if_neg hn]
         have h1:¬y<0:=λh=>hn (.inl h)
         have h2:(out.any λx=>x==y)=false:=by rw[DX]; exact λh=>hn (.inr h)
         simp only[h1,decide_false,DF,if_false,h2,Dw]
         rw[xH (by simp; omega),Dw,vr h (by omega)]
         exact ih (i + 1) _ _ h (by omega) (by simp; omega)
     · rw[if_neg hb]
       have hb':(decide (0≤e)&&decide (e≤(n.Nw.length:Int) - 1))=false:=by rw[DX]; simp; omega
       exact⟨(0,0),by simp [hb']⟩
   · obtain rfl:i=r.Nw.length:=by omega
     rw[if_neg (by simp),Ea]
     exact⟨_,rfl⟩
theorem kQ (hfu:2097153≤fu) (n:Nq) (r:Nv) (hn:n.Nw.length≤2097152) (hm:n.Nx.length≤2097152) (hr:r.Nw.length≤2097152):ck fu n r=some (match yM n r with | some o=>(o,true) | none=>([],false)):=by
 unfold ck;simp only[bG,Dw];rw[vt (by omega) (by omega)];by_cases hs:0≤r.Pq∧r.Pq<(n.Nx.length:Int);have hb':(decide (0≤r.Pq)&&decide (r.Pq≤(n.Nx.length:Int) - 1))=true:=by simp; omega
 by_cases he:r.Nw=[];have er:yM n r=none:=by unfold yM; rw[if_neg λh=>h.2 he]
 simp [hb',he,er];have er:yM n r=dj n.Nw r.Nw [r.Pq] r.Pq:=by unfold yM; rw[if_pos ⟨hs,he⟩]
 have he':((r.Nw.length:Int)==0)=false:=by
   rw[beq_eq_false_iff_ne]
   have:=GR.2 he
   omega
 obtain⟨z,hz⟩:=mI hfu n r hn hr fu 0 [r.Pq] r.Pq (by omega) (by omega) rfl;rw[D4,show ((0:Nat):Int)=0 from rfl]at hz;rw[er];simp only[hb',ED,DF,if_false,he',Dw,hz];cases dj n.Nw r.Nw [r.Pq] r.Pq <;> rfl
 have hb':(decide (0≤r.Pq)&&decide (r.Pq≤(n.Nx.length:Int) - 1))=false:=by rw[DX]; simp; omega
 have er:yM n r=none:=by unfold yM; rw[if_neg λh=>hs h.1]
 simp [hb',er]
theorem qG (hfu:2097153≤fu) (n:Nq) (r:Nv) (hn:n.Nw.length≤2097152) (hr:r.Nw.length≤2097152):∀(fk i:Nat) (out:List Int),i≤r.Nw.length→r.Nw.length - i<fk→out.length=i + 1 →
    ∃z o',zT fu n r fk out i=some (match dj n.Nw (r.Nw.drop i) out (gl out) with | some o=>.next (o,z) | none=>.ret (o',false)):=by
 intro fk;induction fk with
 | zero=>intro i _ _ h; omega
 | succ fk ih =>
   intro i out hi hk ho
   rw[zT]
   by_cases h:i<r.Nw.length
   · rw[if_pos (by simpa using h),vF h,←DG h,dj]
     obtain⟨e,he⟩:∃e,e=r.Nw[i]:=⟨_,rfl⟩
     have hlast:idx out (w64 ((out.length:Int) - 1))=some (gl out):=by
       rw[eq (by omega) (by omega),x5 0 (by omega)]; rfl
     simp only[←he,Dw,fc,hlast]
     rw[vt (by omega) (by omega)]
     by_cases hb:0≤e∧e<(n.Nw.length:Int)
     · rw[if_pos hb]
       have hb':(decide (0≤e)&&decide (e≤(n.Nw.length:Int) - 1))=true:=by simp; omega
       have hx:yp fu n e (gl out)=some (oth (gd n.Nw e.toNat f0) (gl out)):=by
         have:=gm fu n e.toNat (gl out) (by omega)
         rwa [EW hb.1]at this
       simp only[hb',ED,DF,if_false,hx,Dw]
       obtain⟨y,hy⟩:∃y,y=oth (gd n.Nw e.toNat f0) (gl out):=⟨_,rfl⟩
       simp only[←hy,fe out y (show out.length<fu by omega) (by omega)]
       by_cases hn:y<0∨(out.any λx=>x==y)=true
       · rw[if_pos hn]
         refine⟨0,out,?_⟩
         rcases hn with h1 | h1
         · simp [h1]
         · by_cases h2:y<0 <;> simp [h1,h2]
       · rw[if_neg hn]
         have h1:¬y<0:=λh=>hn (.inl h)
         have h2:(out.any λx=>x==y)=false:=by rw[DX]; exact λh=>hn (.inr h)
         simp only[h1,decide_false,DF,if_false,h2,Dw]
         rw[xH (by simp; omega),Dw,vr h (by omega)]
         have:=ih (i + 1) (out++[y]) h (by omega) (by simp; omega)
         rwa [kh]at this
     · rw[if_neg hb]
       have hb':(decide (0≤e)&&decide (e≤(n.Nw.length:Int) - 1))=false:=by rw[DX]; simp; omega
       exact⟨0,out,by simp [hb']⟩
   · obtain rfl:i=r.Nw.length:=by omega
     rw[if_neg (by simp),Ea]
     exact⟨_,[],rfl⟩
theorem walk_eq (hfu:2097153≤fu) (n:Nq) (r:Nv) (hn:n.Nw.length≤2097152) (hm:n.Nx.length≤2097152) (hr:r.Nw.length≤2097152):∃o',cN fu n r=some (match yM n r with | some o=>(o,true) | none=>(o',false)):=by
 unfold cN;simp only[fc,Dw];rw[vt (by omega) (by omega)];by_cases hs:0≤r.Pq∧r.Pq<(n.Nx.length:Int);have hb':(decide (0≤r.Pq)&&decide (r.Pq≤(n.Nx.length:Int) - 1))=true:=by simp; omega
 by_cases he:r.Nw=[];have er:yM n r=none:=by unfold yM; rw[if_neg λh=>h.2 he]
 exact⟨[r.Pq],by simp [hb',he,er]⟩;have er:yM n r=dj n.Nw r.Nw [r.Pq] r.Pq:=by unfold yM; rw[if_pos ⟨hs,he⟩]
 have he':((r.Nw.length:Int)==0)=false:=by
   rw[beq_eq_false_iff_ne]
   have:=GR.2 he
   omega
 obtain⟨z,o',hz⟩:=qG hfu n r hn hr fu 0 [r.Pq] (by omega) (by omega) rfl;rw[D4,show ((0:Nat):Int)=0 from rfl,show gl [r.Pq]=r.Pq from rfl]at hz;refine⟨o',?_⟩;rw[er];simp only[hb',ED,DF,if_false,he',Dw,hz];cases dj n.Nw r.Nw [r.Pq] r.Pq <;> rfl
 have hb':(decide (0≤r.Pq)&&decide (r.Pq≤(n.Nx.length:Int) - 1))=false:=by rw[DX]; simp; omega
 refine⟨[r.Pq],?_⟩;have er:yM n r=none:=by unfold yM; rw[if_neg λh=>hs h.1]
 simp [hb',er]
theorem rL (hfu:2097153≤fu) (n:Nq) (r:Nv) (hB:NetB n) (hr:r.Nw.length≤2097152):dV fu n r=some (eA n&&(yM n r).isSome):=by
 unfold dV;rw[iP hfu n hB,Dw];obtain⟨o',h⟩:=walk_eq hfu n r hB.2 hB.1.1 hr;rw[h];cases eA n
 rfl;cases yM n r <;> rfl
theorem iQ (h:yM n r=some o):o.length=r.Nw.length + 1:=by
 unfold yM at h;split at h
 have:=mM h;simp only[Ep,EY]at this;omega;cases h
theorem ra (h:yM n r=some o):∀i∈r.Nw,0≤i∧i<(n.Nw.length:Int):=by
 unfold yM at h;split at h
 exact oM h;cases h
theorem ig:∀(m:Nat) (l:List Int),l.Nodup→(∀x∈l,0≤x∧x<(m:Int))→l.length≤m
  | 0,l,_,h=>by
    cases l with
    | nil=>simp
    | cons x l=>have:=h x (by simp); omega
  | m + 1,l,hn,h=>by
    have h1:=ig m (l.erase (m:Int)) (hn.erase _) λx hx=>by
      have hx1:=List.mem_of_mem_erase hx
      have:=h x hx1
      refine⟨this.1,?_⟩
      have hne:x≠(m:Int):=λe=>by
        subst e
        exact (hn.not_mem_erase) hx
      omega
    rw[List.length_erase]at h1
    split at h1 <;> omega
theorem nX {f:Nt} {v:Int} (h:0≤oth f v):(v=f.A∧oth f v=f.B)∨(v=f.B∧oth f v=f.A):=by
 unfold oth at h ⊢;split at h
 rename_i h1; rw[if_pos h1]; exact .inl ⟨h1,rfl⟩;rename_i h1;rw[if_neg h1];split at h
 rename_i h2; rw[if_pos h2]; exact .inr ⟨h2,rfl⟩;omega
theorem mN {F:List Nt} (P:Int→Prop) (hF:∀f∈F,P f.A∧P f.B):∀{fs out:List Int} {v:Int} {o:List Int} (U:List Int),dj F fs out v=some o→out.Nodup→(∀x∈out,P x)→v∈out→(∀i∈U,(gd F i.toNat f0).A∈out∧(gd F i.toNat f0).B∈out) →
    o.Nodup∧(∀x∈o,P x)∧fs.Nodup∧∀i∈fs,i∉U
  | [],out,v,o,U,h,h1,h2,h3,h4=>by
    simp only[dj,Ec]at h
    subst h
    exact⟨h1,h2,.nil,by simp⟩
  | i::r,out,v,o,U,h,h1,h2,h3,h4=>by
    unfold dj at h
    split at h
    case isFalse=>cases h
    rename_i hi
    split at h
    case isTrue=>cases h
    rename_i hc
    obtain⟨y,hy⟩:∃y,y=oth (gd F i.toNat f0) v:=⟨_,rfl⟩
    rw[←hy]at h hc
    have hy0:0≤y:=by
      rcases Hw (y<0) with h' | h'
      · exact absurd (.inl h') hc
      · omega
    have hny:y∉out:=λhm=>hc (.inr (DT.2 ⟨y,hm,by simp⟩))
    have hfm:gd F i.toNat f0∈F:=bT f0 (by omega)
    have hm:=nX (f:=gd F i.toNat f0) (v:=v) (by omega)
    rw[←hy]at hm
    have hPy:P y:=by
      rcases hm with ⟨_,e⟩ | ⟨_,e⟩ <;> rw[e]
      · exact (hF _ hfm).2
      · exact (hF _ hfm).1
    have hiU:i∉U:=λhu=>by
      have:=h4 i hu
      rcases hm with ⟨_,e⟩ | ⟨_,e⟩ <;> rw[e]at hny
      · exact hny this.2
      · exact hny this.1
    obtain⟨g1,g2,g3,g4⟩:=mN P hF (i::U) h
      (DW.2 ⟨h1,by simp,λa ha b hb=>by rw[DU]at hb; subst hb; exact λe=>hny (e▸ha)⟩)
      (λx hx=>by
        rcases Dx.1 hx with hx | hx
        · exact h2 x hx
        · rw[DU]at hx; subst hx; exact hPy)
      (by simp)
      (λj hj=>by
        rcases DZ.1 hj with rfl | hj
        · rcases hm with ⟨e1,e2⟩ | ⟨e1,e2⟩
          · exact⟨Dx.2 (.inl (e1▸h3)),Dx.2 (.inr (by rw[e2]; simp))⟩
          · exact⟨Dx.2 (.inr (by rw[e2]; simp)),Dx.2 (.inl (e1▸h3))⟩
        · exact⟨Dx.2 (.inl (h4 j hj).1),Dx.2 (.inl (h4 j hj).2)⟩)
    refine⟨g1,g2,EP.2 ⟨λhm=>g4 i hm (by simp),g3⟩,λj hj=>?_⟩
    rcases DZ.1 hj with rfl | hj
    · exact hiU
    · exact λhu=>g4 j hj (D7 _ hu)
theorem el (hn:NetF n) (h:yM n r=some o):o.Nodup∧(∀x∈o,0≤x∧x<(n.Nx.length:Int))∧r.Nw.Nodup∧r.Nw.length≤7∧r.Nw≠[]∧0≤r.Pq∧r.Pq<(n.Nx.length:Int):=by
  have hl:=iQ h;unfold yM at h;split at h
  case isFalse=>cases h
  rename_i hs;obtain⟨g1,g2,g3,_⟩:=mN (λx=>0≤x∧x<(n.Nx.length:Int)) (λf hf=>by have:=hn.each f hf; omega) [] h (by simp) (by simpa using hs.1) (by simp) (by simp);have:=ig _ _ g1 g2;have:=hn.hi;exact⟨g1,g2,g3,by omega,hs.2,hs.1⟩
end AT
namespace AT
theorem qN {fu:Nat} (hfu:2097153≤fu) (l:List Int) (h:l.length≤2097152):∃l',yc fu l=some l'∧l'.Perm l∧l'.Pairwise λa b=>a≤b:=by
  unfold yc sP;rw[if_pos (by omega)];refine⟨_,rfl,List.mergeSort_perm _ _,?_⟩;have:=Hh (le:=λx y:Int=>decide (x≤y)) (λa b c h1 h2=>by simp only[decide_eq_true_eq]at *; omega) (λa b=>by simp only[Fv,decide_eq_true_eq]; omega) l;exact this.imp λh=>by simpa using h
theorem pu:∀(l:List Int) (p:Int),(p::l).Nodup→dG p l=l
  | [],_,_=>rfl
  | b::l,p,h=>by
    rw[EP]at h
    unfold dG
    rw[if_neg (λe=>h.1 (by rw[e]; exact Ei)),pu l b h.2]
theorem tT (l:List Int) (h:l.Nodup):jf l=l:=by
 cases l with
 | nil=>rfl
 | cons a l=>show a::dG a l=a::l; rw[pu l a h]
theorem qn {fu:Nat} (l:List Int) (hn:l.Nodup) (hl:l.length≤2097152) (hfu:2097153≤fu):xB fu l=some l:=by
 unfold xB;rw[tT l hn]
def meets (a b:List Int):Bool:=a.any λx=>b.any λy=>y==x
variable {fu:Nat}
theorem oD (a b:List Int) (ha:a.length≤2097152) (hb:b.length≤2097152) (hfu:2097153≤fu):∀(fk i:Nat) (out:List Int),a.length - i<fk→i≤a.length→out.length≤i→∃z,yZ fu a b fk out i=some (out++(a.drop i).filter (λx=>b.any λy=>y==x),z):=by
 intro fk;induction fk with
 | zero=>intro i _ h; omega
 | succ fk ih =>
   intro i out hk hi ho
   rw[yZ]
   by_cases h:i<a.length
   · have h':(i:Int)<(a.length:Int):=by omega
     simp only[h',decide_true,if_true,vF h,Dw,fZ b a[i] (show b.length<fu by omega) hb]
     rw[←DG h,EI]
     by_cases hc:(b.any λy=>y==a[i])=true
     · rw[if_pos hc,if_pos hc,xH (by simp; omega),Dw,vr h (by omega)]
       obtain⟨z,hz⟩:=ih (i + 1) (out++[a[i]]) (by omega) h (by simp; omega)
       exact⟨z,by rw[hz,DD]; rfl⟩
     · rw[if_neg hc,if_neg hc,vr h (by omega)]
       exact ih (i + 1) out (by omega) h (by omega)
   · obtain rfl:i=a.length:=by omega
     have h':¬((a.length:Nat):Int)<(a.length:Int):=by omega
     simp only[h',decide_false,DF,if_false,Ea,FQ,D1]
     exact⟨_,rfl⟩
theorem qi {a b:List Int}:(0<(a.filter λx=>b.any λy=>y==x).length)↔meets a b=true:=by
 unfold meets;rw[List.length_pos_iff_exists_mem,DT];constructor;rintro⟨x,hx⟩;rw[EB]at hx;exact⟨x,hx⟩;rintro⟨x,hx⟩;exact⟨x,EB.2 hx⟩
theorem qq (a b:List Int) (ha:a.length≤2097152) (hn:a.Nodup) (hb:b.length≤2097152) (hfu:2097153≤fu):∃c,z7 fu a b=some c∧decide ((c.length:Int) > 0)=meets a b:=by
 unfold z7;obtain⟨z,hz⟩:=oD a b (by omega) hb hfu fu 0 [] (by omega) (by omega) (by simp);rw[show ((0:Nat):Int)=0 from rfl]at hz;simp only[hz,Dw,Ek,D4];have hlen:(a.filter λx=>b.any λy=>y==x).length≤2097152:=EJ (FM _ _) ha;obtain⟨l',h1,h2,-⟩:=qN hfu (a.filter λx=>b.any λy=>y==x) hlen;have hnd:l'.Nodup:=h2.nodup_iff.2 (hn.filter _);have hl':=h2.length_eq;rw[h1,Dw,qn l' hnd (by omega) hfu];refine⟨l',rfl,?_⟩;rw[Ej,decide_eq_true_eq,←qi];omega
theorem f5 (a b:List Int) (ha:a.length≤12) (hn:a.Nodup) (hb:b.length≤2097152) (hfu:2097153≤fu):∃c,z7 fu a b=some c∧decide ((c.length:Int) > 0)=meets a b:=qq a b (by omega) hn hb hfu
end AT
namespace AT
theorem gI {fu:Nat} (hfu:2097153≤fu) (r:Nv) (g:List Int) (hr:r.Nw.length≤2097152) (hg:g.length≤2097152):xQ fu r g=some (meets r.Nw g):=by
 unfold xQ;rw[xT (l:=r.Nw) (G:=yT fu r g) (λx=>g.any λy=>y==x) (λi=>true) (by omega)
   (λfk i hi=>by
     have h':(i:Int)<(r.Nw.length:Int):=by omega
     rw[yT]
     simp only[h',decide_true,if_true,vF hi,Dw,fe g r.Nw[i] (show g.length<fu by omega) hg])
   (λfk=>by rw[yT,if_neg (by simp)]) fu (by omega)]
 unfold meets;cases r.Nw.any λx=>g.any λy=>y==x <;> rfl
def ya (b:Nd):Bool:=decide (0≤b.Pj)&&(decide (1≤b.Px)&&decide (b.Pj + b.Px≤24))
theorem rJ (fu:Nat) (b:Nd):dT fu b=some (ya b):=by
 unfold dT ya;simp only[fc,Dw];by_cases h:0≤b.Pj∧b.Pj≤23;have hc:(decide (0≤b.Pj)&&decide (b.Pj≤23))=true:=by simpa using h
 rw[vt (by omega) (by omega)];simp only[hc,if_true,Dw,Ec];rw[Ej];simp only[DC,decide_eq_true_eq];omega;have hc:(decide (0≤b.Pj)&&decide (b.Pj≤23))=false:=by rw[DX]; simp only[ne_eq,DC,decide_eq_true_eq]; exact h
 simp only[hc,DF,if_false,Dw,Ec];rw[Ej];simp only[DC,decide_eq_true_eq,DF,false_iff];omega
theorem qg (fu:Nat) (b:Nd):ar fu b=some (ya b):=by
 unfold ar ya;simp only[bG,Dw];by_cases h0:0≤b.Pj;by_cases h:1≤b.Px∧b.Px≤24;have hc:(decide (1≤b.Px)&&decide (b.Px≤24))=true:=by simpa using h
 rw[vt (by omega) (by omega)];simp only[ge_iff_le,h0,hc,decide_true,if_true,Dw,Ec,EV];rw[Ej];simp only[DC,decide_eq_true_eq];omega;have hc:(decide (1≤b.Px)&&decide (b.Px≤24))=false:=by rw[DX]; simp only[ne_eq,DC,decide_eq_true_eq]; exact h
 simp only[ge_iff_le,h0,hc,decide_true,if_true,DF,if_false,Dw,Ec];rw[Ej];simp only[DC,decide_eq_true_eq,DF,false_iff];omega;simp [h0]
def bits (b:Nd):Int:=(2 ^ b.Px.toNat - 1) * 2 ^ b.Pj.toNat
theorem jC {k:Nat} (h:k≤24):(1:Int)≤2 ^ k∧(2:Int) ^ k≤16777216:=by
 have h1:(2:Nat) ^ k≤2 ^ 24:=Gn (by omega) h;have h2:1≤(2:Nat) ^ k:=Nat.one_le_two_pow;have h3:((2 ^ k:Nat):Int)=2 ^ k:=by norm_cast
 omega
variable {b:Nd}
theorem lE (h:ya b=true):0≤bits b∧bits b<16777216:=by
  simp only[ya,DC,decide_eq_true_eq]at h;have e:(2:Int) ^ b.Px.toNat * 2 ^ b.Pj.toNat=2 ^ (b.Px.toNat + b.Pj.toNat):=(Int.pow_add _ _ _).symm;have h1:=jC (show b.Px.toNat≤24 by omega);have h2:=jC (show b.Pj.toNat≤24 by omega);have h3:=jC (show b.Px.toNat + b.Pj.toNat≤24 by omega);unfold bits;rw[Int.sub_mul,e,Int.one_mul];refine⟨?_,by omega⟩;have h4:(2:Int) ^ b.Pj.toNat≤2 ^ (b.Px.toNat + b.Pj.toNat):=by
    have:(2:Nat) ^ b.Pj.toNat≤2 ^ (b.Px.toNat + b.Pj.toNat):=Gn (by omega) (by omega)
    have e1:((2 ^ b.Pj.toNat:Nat):Int)=2 ^ b.Pj.toNat:=by norm_cast
    have e2:((2 ^ (b.Px.toNat + b.Pj.toNat):Nat):Int)=2 ^ (b.Px.toNat + b.Pj.toNat):=by norm_cast
    omega
  omega
theorem lV (h:ya b=true):((shl 1 b.Px).bind λq=>(shl (w64 (q - 1)) b.Pj).bind λq2=>some q2)=some (bits b):=by
 have hb:=lE h;simp only[ya,DC,decide_eq_true_eq]at h;have h1:=jC (show b.Px.toNat≤24 by omega);have m1:min b.Px.toNat 64=b.Px.toNat:=by omega
 have m2:min b.Pj.toNat 64=b.Pj.toNat:=by omega
 unfold shl;rw[if_neg (show ¬b.Px<0 by omega),Dw,if_neg (show ¬b.Pj<0 by omega),m1,m2,Int.one_mul,vt (n:=2 ^ b.Px.toNat) (by omega) (by omega),vt (n:=2 ^ b.Px.toNat - 1) (by omega) (by omega)];have:(2 ^ b.Px.toNat - 1) * 2 ^ b.Pj.toNat=bits b:=rfl;rw[this,vt (by omega) (by omega)];rfl
theorem j3 {fu:Nat} (h:ya b=true):bq fu b=some (bits b):=lV h
theorem qD {n:Int} (h:0≤n) (h':n<18446744073709551616):wu64 n=n:=by unfold wu64; omega
theorem d6 {fu:Nat} (h:ya b=true):xP fu b=some (bits b):=by
 unfold xP;have h':=h;simp only[ya,DC,decide_eq_true_eq]at h';rw[qD (by omega) (by omega),qD (by omega) (by omega)];exact lV h
def ap (n:Nq) (x:Nh):Bool:=(decide (1≤x.Id)&&decide (x.Id≤999))&&((yM n x.Nv).isSome&&ya x.Nd)
theorem qe {fu:Nat} (hfu:2097153≤fu) (n:Nq) (x:Nh) (hB:NetB n) (hr:x.Nv.Nw.length≤2097152):dq fu n x=some (ap n x):=by
 unfold dq ap;rw[kQ hfu n x.Nv hB.2 hB.1.1 hr];simp only[bG,qg,Dw];cases yM n x.Nv with
 | none=>simp
 | some o=>cases hc:(decide (1≤x.Id)&&decide (x.Id≤999)) <;> simp [hc]
theorem qb {fu:Nat} (hfu:2097153≤fu) (n:Nq) (x:Nh) (hB:NetB n) (hn:eA n=true) (hr:x.Nv.Nw.length≤2097152):df fu n x=some (ap n x):=by
 unfold df ap;simp only[fc,rJ,rL hfu n x.Nv hB hr,hn,EV,Dw];cases hc:(decide (1≤x.Id)&&decide (x.Id≤999))
 simp;cases (yM n x.Nv).isSome <;> simp
def coll (a b:Nh):Bool:=meets a.Nv.Nw b.Nv.Nw&&(band (bits a.Nd) (bits b.Nd) != 0)
structure LightF (n:Nq) (x:Nh):Prop where
  nodup:x.Nv.Nw.Nodup
  short:x.Nv.Nw.length≤7
  blk:ya x.Nd=true
  route:∃o,yM n x.Nv=some o
  id:1≤x.Id∧x.Id≤999
theorem jm {n:Nq} {x:Nh} (hn:eA n=true) (h:ap n x=true):LightF n x:=by
 unfold ap at h;simp only[DC,decide_eq_true_eq]at h;obtain⟨h1,h2,h3⟩:=h;obtain⟨o,ho⟩:=FD.1 h2;have hf:=el (netF hn) ho;exact⟨hf.2.2.1,hf.2.2.2.1,h3,⟨o,ho⟩,h1⟩
theorem mZ {fu:Nat} (hfu:2097153≤fu) {n:Nq} {a b:Nh} (ha:LightF n a) (hb:LightF n b):bI fu a b=some (coll a b):=by
 unfold bI coll;have h1:=ha.short;have h2:=hb.short;rw[gI hfu a.Nv b.Nv.Nw (by omega) (by omega)];simp only[d6 ha.blk,d6 hb.blk,Dw];cases meets a.Nv.Nw b.Nv.Nw <;> simp
theorem BG (q m:Bool):((if q=true then some m else some false).bind λc=>some c)=some (m&&q):=by cases q <;> cases m <;> rfl
theorem lA {fu:Nat} (hfu:2097153≤fu) {n:Nq} {a b:Nh} (ha:LightF n a) (hb:LightF n b):cm fu a b=some (coll a b):=by
 unfold cm coll;have h1:=ha.short;have h2:=hb.short;obtain⟨c,hc,hd⟩:=f5 (fu:=fu) a.Nv.Nw b.Nv.Nw (by omega) ha.nodup (by omega) hfu;rw[j3 ha.blk,Dw,j3 hb.blk,Dw,hc,Dw,hd];exact BG _ _
theorem qQ {α R:Type} {l:List α} {G:Nat→Int→Option (Out Int R)} (p:Nat→Bool) (r:Nat→R) (hn:(l.length:Int)≤9223372036854775807)
    (hG:∀fk (i:Nat) (h:i<l.length),(∀j,j<i→p j=false)→G (fk + 1) i=if p i=true then some (.ret (r i)) else G fk (w64 ((i:Int) + 1)))
    (hz:∀fk,G (fk + 1) l.length=some (.next (l.length:Int))):∀(fk i:Nat),l.length - i<fk→i≤l.length→(∀j,j<i→p j=false) →
    (∃k,k<l.length∧i≤k∧p k=true∧(∀j,j<k→p j=false)∧G fk i=some (.ret (r k)))∨((∀j,j<l.length→p j=false)∧G fk i=some (.next (l.length:Int))):=by
 intro fk;induction fk with
 | zero=>intro i h; omega
 | succ fk ih =>
   intro i hk hi hp
   by_cases h:i<l.length
   · rw[hG fk i h hp]
     by_cases hc:p i=true
     · rw[if_pos hc]
       exact .inl ⟨i,h,D3 _,hc,hp,rfl⟩
     · rw[if_neg hc,vr h hn]
       rw[FK]at hc
       have hp':∀j,j<i + 1→p j=false:=λj hj=>by
         rcases Fl j i with h' | h'
         · exact hp j h'
         · obtain rfl:j=i:=by omega
           exact hc
       rcases ih (i + 1) (by omega) h hp' with ⟨k,k1,k2,k3,k4,k5⟩ | ⟨h1,h2⟩
       · exact .inl ⟨k,k1,by omega,k3,k4,k5⟩
       · exact .inr ⟨h1,h2⟩
   · obtain rfl:i=l.length:=by omega
     rw[hz]
     exact .inr ⟨hp,rfl⟩
theorem lW {α R:Type} {l:List α} {G:Nat→Int→Option (Out Int R)} (p:Nat→Bool) (r:R) (hn:(l.length:Int)≤9223372036854775807)
    (hG:∀fk (i:Nat) (h:i<l.length),(∀j,j<i→p j=false)→G (fk + 1) i=if p i=true then some (.ret r) else G fk (w64 ((i:Int) + 1)))
    (hz:∀fk,G (fk + 1) l.length=some (.next (l.length:Int))) (fk:Nat) (hk:l.length<fk):G fk 0=some (if (List.range l.length).any p=true then .ret r else .next (l.length:Int)):=by
 rcases qQ p (λ_=>r) hn hG hz fk 0 (by omega) (by omega) (λj h=>by omega) with ⟨k,k1,-,k3,-,k5⟩ | ⟨h1,h2⟩
 rw[if_pos (DT.2 ⟨k,Et.2 k1,k3⟩)];exact k5;rw[if_neg];exact h2;intro h;obtain⟨k,k1,k2⟩:=DT.1 h;rw[h1 k (Et.1 k1)]at k2;cases k2
def l0:Nh:=⟨0,⟨0,[]⟩,⟨0,0⟩⟩
def aD (n:Nq) (L:List Nh) (i:Nat):Bool:=!ap n (gd L i l0)||((decide (0<i)&&decide ((gd L (i - 1) l0).Id≥(gd L i l0).Id))||(L.take i).any λy=>coll y (gd L i l0))
def xv (p:Nz):Bool:=eA p.Nq&&(decide (p.Nk.length≤12)&&!((List.range p.Nk.length).any (aD p.Nq p.Nk)))
def ec (p:Nz):Prop:=NetB p.Nq∧p.Nk.length≤2097152∧∀x∈p.Nk,x.Nv.Nw.length≤2097152
theorem rh {n:Nq} {L:List Nh} {i:Nat} (h:i<L.length) (hp:∀j,j<i→aD n L j=false):∀y∈L.take i,ap n y=true:=by
 intro y hy;obtain⟨j,hj,rfl⟩:=Ee.1 hy;rw[DO]at hj;rw[EN];have:=hp j (by omega);unfold aD at this;rw[EL,zf l0 (show j<L.length by omega)]at this;simpa using this.1
variable {fu:Nat}
theorem nx (hfu:2097153≤fu) {n:Nq} (l:List Nh) (x:Nh) (hl:l.length≤2097152) (hL:∀y∈l,LightF n y) (hx:LightF n x):uz fu l x=some (l.any λy=>coll y x):=by
 unfold uz uO;rw[xT (l:=l) (G:=uo fu l x) (λy=>coll y x) (λi=>(i:Int)) (by omega)
   (λfk i hi=>by
     have h':(i:Int)<(l.length:Int):=by omega
     rw[uo]
     simp only[h',decide_true,if_true,vF hi,Dw,aH,lA hfu (hL _ (D6 hi)) hx])
   (λfk=>by rw[uo,if_neg (by simp)]) fu (by omega)]
 cases l.any λy=>coll y x <;> simp [Out.on]
theorem gU (hfu:2097153≤fu) (p:Nz) (hB:ec p):yH fu p=some (xv p):=by
 obtain⟨hN,hL,hR⟩:=hB;unfold yH xv;rw[lu hfu _ hN,Dw];cases hn:eA p.Nq
 rfl;simp only[ED,DF,if_false,Dw,EV];by_cases h12:p.Nk.length≤12;have h12':¬(p.Nk.length:Int) > 12:=by omega
 simp only[h12',decide_false,DF,if_false,h12,decide_true,EV];rw[lW (l:=p.Nk) (G:=xm fu p) (aD p.Nq p.Nk) false (by omega)
   (λfk i hi hp=>by
     have h':(i:Int)<(p.Nk.length:Int):=by omega
     have hr:=hR _ (bT l0 hi)
     rw[xm]
     simp only[h',decide_true,if_true,x5 l0 hi,Dw,qe hfu _ _ hN hr,ee (show i≤p.Nk.length by omega)]
     by_cases hl:ap p.Nq (gd p.Nk i l0)=true
     · have hf:=jm hn hl
       have hc:=nx hfu (p.Nk.take i) (gd p.Nk i l0) (by simp; omega) (λy hy=>jm hn (rh hi hp y hy)) hf
       simp only[aD,hl,ED,DF,if_false,hc,Dw,Fo]
       by_cases h0:0<i
       · have h0':(i:Int) > 0:=by omega
         simp only[h0',h0,decide_true,if_true,eq h0 (show i≤2097152 by omega),x5 l0 (show i - 1<p.Nk.length by omega),Dw,EV]
         by_cases hid:(gd p.Nk (i - 1) l0).Id≥(gd p.Nk i l0).Id
         · simp [hid]
         · simp only[hid,decide_false,DF,if_false,Fo,Dw]
       · have h0':¬(i:Int) > 0:=by omega
         simp only[h0',h0,decide_false,DF,if_false,Bool.false_and,Fo,Dw]
     · rw[FK]at hl
       simp [aD,hl])
   (λfk=>by rw[xm,if_neg (by simp)]) fu (by omega)]
 cases (List.range p.Nk.length).any (aD p.Nq p.Nk) <;> rfl;have h12':(p.Nk.length:Int) > 12:=by omega
 simp [h12',h12]
theorem nL (hfu:2097153≤fu) (p:Nz) (hB:ec p):dS fu p=some (xv p):=by
  obtain⟨hN,hL,hR⟩:=hB;unfold dS xv;rw[iP hfu _ hN,Dw];cases hn:eA p.Nq
  · rfl
  · simp only[ED,DF,if_false,Dw,EV]
    by_cases h12:p.Nk.length≤12
    · have h12':¬(p.Nk.length:Int) > 12:=by omega
      simp only[h12',decide_false,DF,if_false,h12,decide_true,EV]
      rw[lW (l:=p.Nk) (G:=yP fu p) (aD p.Nq p.Nk) false (by omega)
        (λfk i hi hp=>by
          have h':(i:Int)<(p.Nk.length:Int):=by omega
          have hr:=hR _ (bT l0 hi)
          rw[yP]
          simp only[h',decide_true,if_true,x5 l0 hi,Dw,qb hfu _ _ hN hn hr]
          by_cases hl:ap p.Nq (gd p.Nk i l0)=true
          · have hf:=jm hn hl
            have hc:ym fu p i fu 0=some (if (List.range (p.Nk.take i).length).any (λk=>coll (gd p.Nk k l0) (gd p.Nk i l0))=true then .ret false else .next ((p.Nk.take i).length:Int)) :=
              lW (l:=p.Nk.take i) (G:=ym fu p i) (λk=>coll (gd p.Nk k l0) (gd p.Nk i l0)) false (by simp; omega)
                (λfk k hk _=>by
                  have hk':k<i:=by simp at hk; omega
                  have hk2:(k:Int)<(i:Int):=by omega
                  have hfk:=jm hn (rh hi hp (gd p.Nk k l0) (by
                    rw[zf l0 (show k<p.Nk.length by omega)]
                    refine Ee.2 ⟨k,hk,by rw[EN]⟩))
                  rw[ym]
                  simp only[hk2,decide_true,if_true,x5 l0 hi,x5 l0 (show k<p.Nk.length by omega),Dw,mZ hfu hfk hf])
                (λfk=>by
                  have:(p.Nk.take i).length=i:=by simp; omega
                  rw[this,ym,if_neg (by simp)]) fu (by simp; omega)
            have ha:(List.range (p.Nk.take i).length).any (λk=>coll (gd p.Nk k l0) (gd p.Nk i l0))=(p.Nk.take i).any λy=>coll y (gd p.Nk i l0):=by
              rw[Ej,DT,DT]
              constructor
              · rintro⟨k,k1,k2⟩
                have k1':=Et.1 k1
                have hk':k<i:=by simp at k1'; omega
                rw[zf l0 (show k<p.Nk.length by omega)]at k2
                exact⟨_,Ee.2 ⟨k,k1',by rw[EN]⟩,k2⟩
              · rintro⟨y,y1,y2⟩
                obtain⟨k,k1,rfl⟩:=Ee.1 y1
                have hk':k<i:=by simp at k1; omega
                refine⟨k,Et.2 k1,?_⟩
                rw[zf l0 (show k<p.Nk.length by omega)]
                rw[EN]at y2
                exact y2
            rw[ha]at hc
            simp only[aD,hl,ED,DF,if_false,hc,Dw,Fo]
            by_cases h0:0<i
            · have h0':(i:Int) > 0:=by omega
              simp only[h0',h0,decide_true,if_true,eq h0 (show i≤2097152 by omega),x5 l0 (show i - 1<p.Nk.length by omega),Dw,EV]
              by_cases hid:(gd p.Nk (i - 1) l0).Id≥(gd p.Nk i l0).Id
              · simp [hid]
              · simp only[hid,decide_false,DF,if_false,Fo,Dw]
                cases (p.Nk.take i).any λy=>coll y (gd p.Nk i l0) <;> rfl
            · have h0':¬(i:Int) > 0:=by omega
              simp only[h0',h0,decide_false,DF,if_false,Bool.false_and,Fo,Dw]
              cases (p.Nk.take i).any λy=>coll y (gd p.Nk i l0) <;> rfl
          · rw[FK]at hl
            simp [aD,hl])
        (λfk=>by rw[yP,if_neg (by simp)]) fu (by omega)]
      cases (List.range p.Nk.length).any (aD p.Nq p.Nk) <;> rfl
    · have h12':(p.Nk.length:Int) > 12:=by omega
      simp [h12',h12]
structure PlanF (p:Nz):Prop where
  net:eA p.Nq=true
  short:p.Nk.length≤12
  light:∀x∈p.Nk,LightF p.Nq x
theorem bF {p:Nz} (h:xv p=true):PlanF p:=by
 unfold xv at h;simp only[DC,decide_eq_true_eq,D9]at h;obtain⟨h1,h2,h3⟩:=h;refine⟨h1,h2,λx hx=>?_⟩;obtain⟨i,hi,rfl⟩:=Ee.1 hx;rw[DX]at h3;have h6:aD p.Nq p.Nk i=false:=by
   rw[DX]
   intro h7
   exact h3 (DT.2 ⟨i,Et.2 hi,h7⟩)
 unfold aD at h6;rw[EL,zf l0 hi]at h6;exact jm h1 (by simpa using h6.1)
end AT
namespace AT
def MK (m:Int):Prop:=0≤m∧m<16777216
theorem io {m:Int} (h:MK m):(BitVec.ofInt 64 m).toNat=m.toNat:=by
 rw[BitVec.toNat_ofInt];have:((2 ^ 64:Nat):Int)=18446744073709551616:=by decide
 rw[this];unfold MK at h;omega
variable {a b:Int}
theorem mB (ha:MK a) (hb:MK b):band a b=((a.toNat &&& b.toNat:Nat):Int):=by
 unfold band;rw[BitVec.toNat_and,io ha,io hb];have h1:a.toNat &&& b.toNat<2 ^ 24:=Nat.and_lt_two_pow _ (by unfold MK at hb; omega);exact vt (by omega) (by omega)
theorem wG (ha:MK a) (hb:MK b):bor a b=((a.toNat ||| b.toNat:Nat):Int):=by
 unfold bor;rw[BitVec.toNat_or,io ha,io hb];have h1:a.toNat ||| b.toNat<2 ^ 24:=Nat.or_lt_two_pow (by unfold MK at ha; omega) (by unfold MK at hb; omega)
 exact vt (by omega) (by omega)
theorem sy (ha:MK a) (hb:MK b):MK (bor a b):=by
 rw[wG ha hb];have h1:a.toNat ||| b.toNat<2 ^ 24:=Nat.or_lt_two_pow (by unfold MK at ha; omega) (by unfold MK at hb; omega)
 unfold MK;omega
theorem mk0:MK 0:=by unfold MK; omega
def apart (a b:Int):Bool:=band a b==0
theorem nD {c:Int} (ha:MK a) (hb:MK b) (hc:MK c):apart (bor a b) c=(apart a c&&apart b c):=by
 unfold apart;rw[mB (sy ha hb) hc,mB ha hc,mB hb hc,wG ha hb,EZ,Nat.and_or_distrib_right];rw[Ej];simp only[beq_iff_eq,DC,Int.natCast_eq_zero,Nat.or_eq_zero_iff]
theorem lF {c:Int} (hc:MK c):apart 0 c=true:=by
 unfold apart;rw[mB mk0 hc];simp
theorem jh {b:Nd} (h:ya b=true):MK (bits b):=lE h
theorem pV (a b:List Int):meets a b=meets b a:=by
 rw[Ej];unfold meets;simp only[DT,beq_iff_eq];constructor;rintro⟨x,hx,y,hy,rfl⟩; exact⟨y,hy,y,hx,rfl⟩;rintro⟨x,hx,y,hy,rfl⟩; exact⟨y,hy,y,hx,rfl⟩
def has (l:List Int) (f:Int):Bool:=l.any λx=>x==f
def used (L:List Nh) (f:Int):Int:=L.foldl (λo y=>if has y.Nv.Nw f=true then bor o (bits y.Nd) else o) 0
def along (L:List Nh) (fs:List Int):Int:=fs.foldl (λo f=>bor o (used L f)) 0
variable {L:List Nh}
theorem mJ (hL:∀y∈L,ya y.Nd=true) (f:Int) {c:Int} (hc:MK c):∀{o:Int},MK o→MK (L.foldl (λo y=>if has y.Nv.Nw f=true then bor o (bits y.Nd) else o) o)∧apart (L.foldl (λo y=>if has y.Nv.Nw f=true then bor o (bits y.Nd) else o) o) c=(apart o c&&L.all λy=>!has y.Nv.Nw f||apart (bits y.Nd) c):=by
 induction L with
 | nil=>intro o ho; exact⟨ho,by simp⟩
 | cons y L ih =>
   intro o ho
   have hb:=jh (hL y (by simp))
   have ih':=@ih (λz hz=>hL z (by simp [hz]))
   simp only[Fw,Hv]
   by_cases h:has y.Nv.Nw f=true
   · simp only[h,if_true,ED,Fo]
     have:=ih' (sy ho hb)
     rw[nD ho hb hc]at this
     exact⟨this.1,by rw[this.2,Ho]⟩
   · rw[FK]at h
     simp only[h,DF,if_false,GU,GT,EV]
     exact ih' ho
theorem wI (hL:∀y∈L,ya y.Nd=true) (f:Int):MK (used L f):=(mJ hL f mk0 mk0).1
theorem pH (hL:∀y∈L,ya y.Nd=true) (f:Int) {c:Int} (hc:MK c):apart (used L f) c=L.all λy=>!has y.Nv.Nw f||apart (bits y.Nd) c:=by
 have:=(mJ hL f hc mk0).2;rw[lF hc,EV]at this;exact this
theorem ji {L:List Nh} (hL:∀y∈L,ya y.Nd=true) {c:Int} (hc:MK c):∀(fs:List Int) {o:Int},MK o→MK (fs.foldl (λo f=>bor o (used L f)) o)∧apart (fs.foldl (λo f=>bor o (used L f)) o) c=(apart o c&&fs.all λf=>apart (used L f) c)
  | [],o,ho=>⟨ho,by simp⟩
  | f::fs,o,ho=>by
    have hu:=wI hL f
    have:=ji hL hc fs (sy ho hu)
    rw[nD ho hu hc]at this
    simp only[Fw,Hv]
    exact⟨this.1,by rw[this.2,Ho]⟩
theorem wg (hL:∀y∈L,ya y.Nd=true) (fs:List Int):MK (along L fs):=(ji hL mk0 fs mk0).1
theorem eb (hL:∀y∈L,ya y.Nd=true) (fs:List Int) {c:Int} (hc:MK c):apart (along L fs) c=L.all λy=>!(meets y.Nv.Nw fs&&!apart (bits y.Nd) c):=by
 have h:=(ji hL hc fs mk0).2;rw[lF hc,EV]at h;unfold along;rw[h,Ej];simp only[Eo,pH hL _ hc,Fv,D9,GJ,Gd];constructor;intro hh y hy;rcases Ha (meets y.Nv.Nw fs) with hm | hm
 right;unfold meets at hm;simp only[DT,beq_iff_eq]at hm;obtain⟨x,hx,z,hz,rfl⟩:=hm;rcases hh z hz y hy with h1 | h1
 unfold has at h1;rw[DX]at h1;exact absurd (DT.2 ⟨z,hx,by simp⟩) h1;exact h1;exact .inl hm;intro hh f hf y hy;rcases hh y hy with h1 | h1
 left;rw[DX]at h1 ⊢;intro h2;unfold has at h2;simp only[DT,beq_iff_eq]at h2;obtain⟨x,hx,rfl⟩:=h2;exact h1 (DT.2 ⟨x,hx,DT.2 ⟨x,hf,by simp⟩⟩);exact .inr h1
end AT
namespace AT
theorem qJ {fu:Nat} (hfu:2097153≤fu) (p:Nz) (f:Int) (hl:p.Nk.length≤2097152) (hb:∀y∈p.Nk,ya y.Nd=true) (hr:∀x∈p.Nk,x.Nv.Nw.length≤2097152):∀(fk i:Nat) (o:Int),i≤p.Nk.length→p.Nk.length - i<fk →
    ∃z,yO fu p f fk o i=some ((p.Nk.drop i).foldl (λo y=>if has y.Nv.Nw f=true then bor o (bits y.Nd) else o) o,z):=by
 intro fk;induction fk with
 | zero=>intro i _ _ h; omega
 | succ fk ih =>
   intro i o hi hk
   rw[yO]
   by_cases h:i<p.Nk.length
   · have h':(i:Int)<(p.Nk.length:Int):=by omega
     have hm:=D6 h
     have hr':=hr _ hm
     simp only[h',decide_true,if_true,vF h,Dw,fe _ f (show p.Nk[i].Nv.Nw.length<fu by omega) hr',d6 (hb _ hm)]
     rw[←DG h,Fw,vr h (by omega)]
     have e:(p.Nk[i].Nv.Nw.any λx=>x==f)=has p.Nk[i].Nv.Nw f:=rfl
     rw[e]
     by_cases hc:has p.Nk[i].Nv.Nw f=true
     · rw[if_pos hc,if_pos hc]
       exact ih (i + 1) _ h (by omega)
     · rw[if_neg hc,if_neg hc]
       exact ih (i + 1) _ h (by omega)
   · obtain rfl:i=p.Nk.length:=by omega
     rw[if_neg (by simp),Ea]
     exact⟨_,rfl⟩
theorem rI {fu:Nat} (hfu:2097153≤fu) (p:Nz) (f:Int) (hl:p.Nk.length≤2097152) (hb:∀y∈p.Nk,ya y.Nd=true) (hr:∀x∈p.Nk,x.Nv.Nw.length≤2097152):dR fu p f=some (used p.Nk f):=by
 unfold dR;obtain⟨z,hz⟩:=qJ hfu p f hl hb hr fu 0 0 (by omega) (by omega);rw[show ((0:Nat):Int)=0 from rfl,D4]at hz;rw[hz];rfl
end AT
namespace AT
theorem bY {α:Type} {l:List α} (h:l.length≤1099511627776):app ([]:List α) l=some l:=by rw[xH (by simpa using h)]; rfl
theorem eN (fu:Nat) (x:Nh) (h:x.Nv.Nw.length≤2097152):zR fu x=some x:=by
 unfold zR cO aT;rw[bY (by omega)];rfl
variable {fu:Nat}
theorem tr (p:Nz) (hl:p.Nk.length≤2097152) (hr:∀x∈p.Nk,x.Nv.Nw.length≤2097152):∀(fk i:Nat) (m:List Nh),i≤p.Nk.length→p.Nk.length - i<fk→m.length≤i→∃z,aw fu p fk i m=some (z,m++p.Nk.drop i):=by
 intro fk;induction fk with
 | zero=>intro i _ _ h; omega
 | succ fk ih =>
   intro i m hi hk hm
   rw[aw]
   by_cases h:i<p.Nk.length
   · have h':(i:Int)<(p.Nk.length:Int):=by omega
     simp only[h',decide_true,if_true,vF h,Dw,eN fu _ (hr _ (D6 h))]
     rw[xH (by simp; omega),Dw,vr h (by omega)]
     obtain⟨z,hz⟩:=ih (i + 1) (m++[p.Nk[i]]) h (by omega) (by simp; omega)
     refine⟨z,?_⟩
     rw[hz,DD,←DG h]
     rfl
   · obtain rfl:i=p.Nk.length:=by omega
     rw[if_neg (by simp),Ea,D1]
     exact⟨_,rfl⟩
theorem jE (hfu:2097153≤fu) (p:Nz) (hB:ec p):cc fu p=some p:=by
 obtain⟨hN,hL,hR⟩:=hB;unfold cc gh;have h1:=hN.1.1;have h2:=hN.2;rw[bY (by omega),Dw,bY (by omega)];obtain⟨z,hz⟩:=tr (fu:=fu) p hL hR fu 0 [] (by omega) (by omega) (by simp);rw[show ((0:Nat):Int)=0 from rfl]at hz;simp only[Dw,hz,Ek,D4]
theorem jn (hfu:2097153≤fu) (p:Nz) (hB:ec p) {i:Nat} (hi:i<p.Nk.length):yl fu p i=some { Nq:=p.Nq,Nk:=p.Nk.eraseIdx i }:=by
 have hl:=hB.2.1;unfold yl;rw[jE hfu p hB,Dw,ee (by omega),Dw,vr hi (by omega)];have hs:sub p.Nk ((i + 1:Nat):Int) (p.Nk.length:Int)=some (p.Nk.drop (i + 1)):=by
   unfold sub
   rw[if_pos (by omega)]
   simp
 rw[hs,Dw,bY (by simp; omega),Dw,xH (by simp; omega),Dw,FH]
theorem qA (hfu:2097153≤fu) (p:Nz) (r:Nv) (hl:p.Nk.length≤2097152) (hb:∀y∈p.Nk,ya y.Nd=true) (hr:∀x∈p.Nk,x.Nv.Nw.length≤2097152) (hrl:r.Nw.length≤2097152):∀(fk i:Nat) (o:Int),i≤r.Nw.length→r.Nw.length - i<fk →
    ∃z,zh fu p r fk o i=some ((r.Nw.drop i).foldl (λo f=>bor o (used p.Nk f)) o,z):=by
 intro fk;induction fk with
 | zero=>intro i _ _ h; omega
 | succ fk ih =>
   intro i o hi hk
   rw[zh]
   by_cases h:i<r.Nw.length
   · have h':(i:Int)<(r.Nw.length:Int):=by omega
     simp only[h',decide_true,if_true,vF h,Dw,rI hfu p _ hl hb hr]
     rw[←DG h,Fw,vr h (by omega)]
     exact ih (i + 1) _ h (by omega)
   · obtain rfl:i=r.Nw.length:=by omega
     rw[if_neg (by simp),Ea]
     exact⟨_,rfl⟩
theorem dN (hfu:2097153≤fu) (p:Nz) (r:Nv) (hl:p.Nk.length≤2097152) (hb:∀y∈p.Nk,ya y.Nd=true) (hr:∀x∈p.Nk,x.Nv.Nw.length≤2097152) (hrl:r.Nw.length≤2097152):yo fu p r=some (along p.Nk r.Nw):=by
 unfold yo;obtain⟨z,hz⟩:=qA hfu p r hl hb hr hrl fu 0 0 (by omega) (by omega);rw[show ((0:Nat):Int)=0 from rfl,D4]at hz;rw[hz];rfl
def fits (m C:Int):List Int:=((List.range' 0 (25 - C.toNat)).filter λt:Nat=>apart m (bits ⟨(t:Int),C⟩)).map λt:Nat=>(t:Int)
theorem sC (a b:Int):(band a b==0)=apart a b:=rfl
theorem se (m C:Int) (N:Nat) (hN:(N:Int) + C=25) (h1:1≤C):∀(fk k s:Nat) (out:List Int),N=s + k→k<fk→out.length≤s →
    ∃z,yS fu m C fk out s=some (out++(((List.range' s k).filter λt:Nat=>apart m (bits ⟨(t:Int),C⟩)).map λt:Nat=>(t:Int)),z):=by
 intro fk;induction fk with
 | zero=>intro k s _ _ h; omega
 | succ fk ih =>
   intro k s out hs hk ho
   have hw0:w64 ((s:Int) + C)=(s:Int) + C:=vt (by omega) (by omega)
   rw[yS,hw0]
   clear hw0
   cases k with
   | zero =>
     have h':¬(s:Int) + C≤24:=by omega
     simp only[h',decide_false,DF,if_false,List.range'_zero,FQ,GG,D1]
     exact⟨_,rfl⟩
   | succ k =>
     have h':(s:Int) + C≤24:=by omega
     have hb:ya ⟨(s:Int),C⟩=true:=by simp only[ya,DC,decide_eq_true_eq]; omega
     obtain⟨c,hc⟩:∃c,apart m (bits ⟨(s:Int),C⟩)=c:=⟨_,rfl⟩
     obtain⟨b,hb1,hb2⟩:∃b,xP fu ⟨(s:Int),C⟩=some b∧(band m b==0)=c:=⟨_,d6 hb,hc⟩
     have hw:w64 ((s:Int) + 1)=((s + 1:Nat):Int):=by rw[vt (by omega) (by omega)]; omega
     rw[List.range'_succ,EI,hc,hb1]
     clear hb1 hc hb
     rw[if_pos (by simpa using h'),Dw,hb2,hw]
     clear hw hb2
     cases c
     · rw[if_neg (by decide),if_neg (by decide)]
       exact ih k (s + 1) out (by omega) (by omega) (by omega)
     · have ha:app out [(s:Int)]=some (out++[(s:Int)]):=xH (by simp; omega)
       rw[if_pos rfl,if_pos rfl,ha,Dw]
       obtain⟨z,hz⟩:=ih k (s + 1) (out++[(s:Int)]) (by omega) (by omega) (by simp; omega)
       exact⟨z,by rw[hz,FC,DD,EC]⟩
theorem j5 (hfu:2097153≤fu) (m C:Int) (h1:1≤C) (h2:C≤24):cM fu m C=some (fits m C):=by
 unfold cM fits;obtain⟨N,hN⟩:∃N,N=25 - C.toNat:=⟨_,rfl⟩;rw[←hN];obtain⟨z,hz⟩:=se (fu:=fu) m C N (by omega) h1 fu N 0 [] (by omega) (by omega) (by simp);rw[show ((0:Nat):Int)=0 from rfl]at hz;rw[hz];rfl
theorem iA {m C:Int} {s:Int} (h1:1≤C) (h2:C≤24):s∈fits m C↔0≤s∧s + C≤24∧apart m (bits ⟨s,C⟩)=true:=by
 unfold fits;simp only[Eh,EB,List.mem_range'_1];constructor;rintro⟨t,⟨⟨-,ht⟩,ha⟩,rfl⟩;exact⟨by omega,by omega,ha⟩;rintro⟨h0,h3,ha⟩;refine⟨s.toNat,⟨⟨by omega,by omega⟩,?_⟩,by omega⟩;rw[EW h0];exact ha
theorem tE (m C:Int):(fits m C).length≤25:=by
 unfold fits;rw[Ev];refine EJ (FM _ _) ?_;rw[List.length_range'];omega
structure PlanI (p:Nz):Prop where
  ids:∀i j,i<j→j<p.Nk.length→(gd p.Nk i l0).Id<(gd p.Nk j l0).Id
theorem nV {p:Nz} (h:xv p=true):PlanI p:=by
 unfold xv at h;simp only[DC,decide_eq_true_eq,D9]at h;obtain⟨h1,h2,h3⟩:=h;rw[DX]at h3;have adj:∀j,0<j→j<p.Nk.length→(gd p.Nk (j - 1) l0).Id<(gd p.Nk j l0).Id:=λj h0 hj=>by
   have h6:aD p.Nq p.Nk j=false:=by
     rw[DX]
     intro h7
     exact h3 (DT.2 ⟨j,Et.2 hj,h7⟩)
   unfold aD at h6
   rw[EL,EL]at h6
   have:=h6.2.1
   simp only[h0,decide_true,EV,decide_eq_false_iff_not]at this
   omega
 refine⟨λi j=>?_⟩;induction j with
 | zero=>intro h; omega
 | succ j ih =>
   intro hij hj
   have:=adj (j + 1) (by omega) hj
   rw[Nat.add_sub_cancel]at this
   rcases Fl i j with h' | h'
   · have:=ih h' (by omega)
     omega
   · obtain rfl:i=j:=by omega
     exact this
theorem nq {L:List Nh} {i:Nat} (hi:i<L.length) (hid:∀a b,a<b→b<L.length→(gd L a l0).Id<(gd L b l0).Id) (y:Nh):y∈L.eraseIdx i↔y∈L∧y.Id≠(gd L i l0).Id:=by
 rw[List.mem_eraseIdx_iff_getElem];constructor;rintro⟨j,hj,hne,rfl⟩;refine⟨D6 _,?_⟩;rw[←zf l0 hj];rcases Fl j i with h | h
 have:=hid j i h hi;omega;have:=hid i j (by omega) hj;omega;rintro⟨hy,hne⟩;obtain⟨j,hj,rfl⟩:=Ee.1 hy;refine⟨j,hj,λe=>?_,rfl⟩;subst e;rw[zf l0 hj]at hne;exact hne rfl
end AT
namespace AT
theorem va {p:Nz}:xv p=true↔eA p.Nq=true∧p.Nk.length≤12∧(∀x∈p.Nk,ap p.Nq x=true)∧p.Nk.Pairwise (λa b=>a.Id<b.Id∧coll a b=false):=by
 constructor;intro h;have hI:=nV h;have h':=h;unfold xv at h;simp only[DC,decide_eq_true_eq,D9]at h;obtain⟨h1,h2,h3⟩:=h;have hb:∀j,j<p.Nk.length→aD p.Nq p.Nk j=false:=λj hj=>by
   rw[DX]
   intro h7
   rw[DX]at h3
   exact h3 (DT.2 ⟨j,Et.2 hj,h7⟩)
 refine⟨h1,h2,λx hx=>?_,EG.2 λi j hi hj hij=>⟨?_,?_⟩⟩;obtain⟨i,hi,rfl⟩:=Ee.1 hx;have:=hb i hi;unfold aD at this;rw[EL,zf l0 hi]at this;simpa using this.1;have:=hI.ids i j hij hj;rwa [zf l0 hi,zf l0 hj]at this;have:=hb j hj;unfold aD at this;rw[EL,EL,zf l0 hj]at this;rw[DX];intro hc;have h5:=this.2.2;rw[DX]at h5;exact h5 (DT.2 ⟨p.Nk[i],Ee.2 ⟨i,by rw[DO]; omega,by rw[EN]⟩,hc⟩);rintro⟨h1,h2,h3,h4⟩;rw[EG]at h4;unfold xv;simp only[DC,decide_eq_true_eq,D9];refine⟨h1,h2,?_⟩;rw[DX];intro h;obtain⟨j,hj,hb⟩:=DT.1 h;have hj':=Et.1 hj;unfold aD at hb;rw[Fv,Fv,zf l0 hj',h3 _ (D6 hj')]at hb;rcases hb with hb | hb | hb
 cases hb;simp only[DC,decide_eq_true_eq]at hb;rw[zf l0 (show j - 1<p.Nk.length by omega)]at hb;have:=(h4 (j - 1) j (by omega) hj' (by omega)).1;omega;obtain⟨y,hy,hc⟩:=DT.1 hb;obtain⟨i,hi,rfl⟩:=Ee.1 hy;rw[DO]at hi;rw[EN,(h4 i j (by omega) hj' (by omega)).2]at hc;cases hc
end AT
namespace AT
def atId (L:List Nh) (id:Int):Nat:=L.findIdx λy=>y.Id==id
theorem fq {L:List Nh} {id:Int} (h:(L.any λy=>y.Id==id)=true):atId L id<L.length:=by
 unfold atId;rw[List.findIdx_lt_length];obtain⟨x,hx,hc⟩:=DT.1 h;exact⟨x,hx,hc⟩
theorem iu {fu:Nat} (p:Nz) (id:Int) (h:p.Nk.length<fu) (hn:p.Nk.length≤2097152):zQ fu p id=some (if p.Nk.any (λy=>y.Id==id) then ((atId p.Nk id:Nat):Int) else -1):=by
 unfold zQ;rw[xT (l:=p.Nk) (G:=yQ fu p id) (λy=>y.Id==id) (λi=>(i:Int)) (by omega)
   (λfk i hi=>by
     have h':(i:Int)<(p.Nk.length:Int):=by omega
     rw[yQ]
     simp only[h',decide_true,if_true,vF hi,Dw])
   (λfk=>by rw[yQ,if_neg (by simp)]) fu h]
 unfold atId;cases p.Nk.any λy=>y.Id==id <;> rfl
theorem qa {fu:Nat} (p:Nz) (id:Int) (h:p.Nk.length<fu) (hn:p.Nk.length≤2097152):dp fu p id=some (if p.Nk.any (λy=>y.Id==id) then ((atId p.Nk id:Nat):Int) else -1):=by
 unfold dp uU;rw[xT (l:=p.Nk) (G:=ut fu p.Nk id) (λy=>y.Id==id) (λi=>(i:Int)) (by omega)
   (λfk i hi=>by
     have h':(i:Int)<(p.Nk.length:Int):=by omega
     rw[ut]
     simp only[h',decide_true,if_true,vF hi,Dw,cD])
   (λfk=>by rw[ut,if_neg (by simp)]) fu h]
 unfold atId;cases p.Nk.any λy=>y.Id==id <;> rfl
end AT
namespace AT
variable {G:Nat→Int→Option Int}
theorem sf {α:Type} {l:List α} (p:α→Bool) (hn:(l.length:Int)≤9223372036854775807)
    (hG:∀fk (i:Nat) (h:i<l.length),G (fk + 1) i=if p l[i]=true then some (i:Int) else G fk (w64 ((i:Int) + 1)))
    (hz:∀fk,G (fk + 1) l.length=some (l.length:Int)):∀(fk i:Nat),l.length - i<fk→i≤l.length→G fk i=some ((i + (l.drop i).findIdx p:Nat):Int):=by
 intro fk;induction fk with
 | zero=>intro i h; omega
 | succ fk ih =>
   intro i hk hi
   by_cases h:i<l.length
   · rw[hG fk i h,←DG h,G5]
     by_cases hp:p l[i]=true
     · simp [hp]
     · simp only[hp,DF,if_false,cond_false]
       rw[vr h hn,ih (i + 1) (by omega) h]
       congr 2
       omega
   · obtain rfl:i=l.length:=by omega
     rw[hz,Ea]; rfl
theorem tF {α:Type} {l:List α} (p:α→Bool) (hn:(l.length:Int)≤9223372036854775807)
    (hG:∀fk (i:Nat) (h:i<l.length),G (fk + 1) i=if p l[i]=true then some (i:Int) else G fk (w64 ((i:Int) + 1)))
    (hz:∀fk,G (fk + 1) l.length=some (l.length:Int)) (fk:Nat) (hk:l.length<fk):G fk 0=some ((l.findIdx p:Nat):Int):=by
 have:=sf p hn hG hz fk 0 (by omega) (by omega);simpa using this
def eO (L:List Nh) (id:Int):Nat:=L.findIdx λy=>!decide (y.Id<id)
def putL (L:List Nh) (x:Nh):List Nh:=L.take (eO L x.Id)++x::L.drop (eO L x.Id)
theorem jG (L:List Nh) (id:Int):eO L id≤L.length:=List.findIdx_le_length
theorem jA (L:List Nh) (x:Nh):(putL L x).length=L.length + 1:=by
 have:=jG L x.Id;unfold putL;rw[DR,Ep,DO,Er];omega
variable {L:List Nh}
theorem cy {x y:Nh}:y∈putL L x↔y=x∨y∈L:=by
 unfold putL;rw[Dx,DZ];constructor;rintro (h | h | h)
 exact .inr (GO h);exact .inl h;exact .inr (FU h);rintro (h | h)
 exact .inr (.inl h);rw[←Fp (eO L x.Id) L,Dx]at h;rcases h with h | h
 exact .inl h;exact .inr (.inr h)
theorem ja {α:Type} {p:α→Bool} {l:List α} {i:Nat} (hi:i≤l.length) (h:∀j (hj:j<l.length),j<i→p l[j]=false) (h':∀hj:i<l.length,p l[i]=true):l.findIdx p=i:=by
 rcases Fl i l.length with hj | hj
 rw[List.findIdx_eq hj];exact⟨h' hj,λj hji=>h j (by omega) hji⟩;obtain rfl:i=l.length:=by omega
 rw[List.findIdx_eq_length];intro x hx;obtain⟨j,hj',rfl⟩:=Ee.1 hx;exact h j hj' hj'
theorem gY {id:Int} (h:(L.any λy=>y.Id==id)=true):(gd L (atId L id) l0).Id=id:=by
 have hl:=fq h;rw[zf l0 hl];have:=List.findIdx_getElem (w:=hl);rw[beq_iff_eq]at this;exact this
theorem mC (hid:∀a b,a<b→b<L.length→(gd L a l0).Id<(gd L b l0).Id) {i:Nat} (hi:i<L.length):atId L (gd L i l0).Id=i:=by
 unfold atId;refine ja (by omega) (λj hj hji=>?_) (λ_=>?_);have:=hid j i hji hi;rw[zf l0 hj]at this;rw[beq_eq_false_iff_ne];omega;rw[zf l0 hi];simp
theorem re (hid:∀a b,a<b→b<L.length→(gd L a l0).Id<(gd L b l0).Id) {i:Nat} (hi:i<L.length) {x:Nh} (hx:x.Id=(gd L i l0).Id):putL (L.eraseIdx i) x=L.set i x:=by
 have hlen:(L.eraseIdx i).length=L.length - 1:=by rw[List.length_eraseIdx]; simp [hi]
 have hat:eO (L.eraseIdx i) x.Id=i:=by
   unfold eO
   refine ja (by omega) (λj hj hji=>?_) (λhj=>?_)
   · rw[List.getElem_eraseIdx_of_lt hj hji]
     have:=hid j i hji hi
     rw[zf l0 (by omega)]at this
     simp only[Gd,decide_eq_true_eq]
     omega
   · rw[List.getElem_eraseIdx_of_ge hj (by omega)]
     have:=hid i (i + 1) (by omega) (by omega)
     rw[zf l0 (show i + 1<L.length by omega)]at this
     simp only[D9,decide_eq_false_iff_not]
     omega
 unfold putL;rw[hat,List.set_eq_take_append_cons_drop,if_pos hi];have e1:(L.eraseIdx i).take i=L.take i:=by rw[FH,EM (by rw[DO]; omega),Ft,Nat.min_self]
 have e2:(L.eraseIdx i).drop i=L.drop (i + 1):=by
   rw[FH,Gc (by rw[DO]; omega),Gm,Hy]
   simp
 rw[e1,e2]
end AT
namespace AT
theorem fY (fu:Nat) (r:Nv) (h:r.Nw.length≤2097152):z6 fu r=some r:=by
 unfold z6;rw[bY (by omega)];rfl
theorem so {fu:Nat} (p:Nz) (hl:p.Nk.length≤2097152) (hr:∀x∈p.Nk,x.Nv.Nw.length≤2097152):∀(fk i:Nat) (m:List Nh),i≤p.Nk.length→p.Nk.length - i<fk→m.length≤i→∃z,yG fu p fk i m=some (z,m++p.Nk.drop i):=by
 intro fk;induction fk with
 | zero=>intro i _ _ h; omega
 | succ fk ih =>
   intro i m hi hk hm
   rw[yG]
   by_cases h:i<p.Nk.length
   · have h':(i:Int)<(p.Nk.length:Int):=by omega
     simp only[h',decide_true,if_true,vF h,Dw,fY fu _ (hr _ (D6 h))]
     rw[xH (by simp; omega),Dw,vr h (by omega)]
     obtain⟨z,hz⟩:=ih (i + 1) (m++[p.Nk[i]]) h (by omega) (by simp; omega)
     refine⟨z,?_⟩
     rw[hz,DD,←DG h]
     rfl
   · obtain rfl:i=p.Nk.length:=by omega
     rw[if_neg (by simp),Ea,D1]
     exact⟨_,rfl⟩
theorem gX {fu:Nat} (hfu:2097153≤fu) (p:Nz) (hB:ec p):aG fu p=some p:=by
 obtain⟨hN,hL,hR⟩:=hB;unfold aG bU;have h1:=hN.1.1;have h2:=hN.2;rw[bY (by omega),Dw,bY (by omega)];obtain⟨z,hz⟩:=so (fu:=fu) p hL hR fu 0 [] (by omega) (by omega) (by simp);rw[show ((0:Nat):Int)=0 from rfl]at hz;simp only[Dw,hz,Ek,D4]
theorem wD {α:Type} {l:List α} {i j:Nat} {x d:α}:gd (l.set i x) j d=if i=j∧j<l.length then x else gd l j d:=by
 unfold gd;rw[G6];by_cases h:i=j;subst h;by_cases h':i<l.length;simp [h'];simp [h'];simp [h]
end AT
namespace AT
theorem wE {a b:List Int} (h:a.length=b.length):(List.range a.length).any (λi=>gd a i 0 != gd b i 0)=!decide (a=b):=by
 rw[Ej,DT];simp only[Et,bne_iff_ne,ne_eq,D9,decide_eq_false_iff_not];constructor;rintro⟨i,hi,hne⟩ rfl;exact hne rfl;intro hne;rcases Hw (∃i,i<a.length∧¬gd a i 0=gd b i 0) with h1 | h1
 exact h1;refine absurd (Fx h λi h2 h3=>?_) hne;rcases Hw (a[i]=b[i]) with h4 | h4
 exact h4;exact absurd ⟨i,h2,by rw[zf 0 h2,zf 0 h3]; exact h4⟩ h1
theorem rP {fu:Nat} (hfu:2097153≤fu) (a b:List Int) (ha:a.length≤2097152):dZ fu a b=some (decide (a=b)):=by
 unfold dZ;by_cases h:a.length=b.length;have h1:((a.length:Int) != (b.length:Int))=false:=by rw[h]; simp
 rw[h1,if_neg DV];rw[xT (l:=List.range a.length) (G:=yX fu a b) (λi=>gd a i 0 != gd b i 0) (λ_=>false) (by simp; omega)
   (λfk i hi=>by
     have hi':i<a.length:=by simpa using hi
     have h':(i:Int)<(a.length:Int):=by omega
     rw[yX,Ew]
     simp only[h',decide_true,if_true,x5 0 hi',x5 0 (show i<b.length by omega),Dw])
   (λfk=>by rw[EH,yX,if_neg (by simp)]) fu (by simp; omega),wE h]
 cases decide (a=b) <;> rfl;have h1:((a.length:Int) != (b.length:Int))=true:=by simp; omega
 have h2:¬a=b:=λe=>h (by rw[e]);rw[h1,if_pos rfl,decide_eq_false h2]
theorem sj {fu:Nat} (hfu:2097153≤fu) (a b:List Int) (ha:a.length≤2097152):xY fu a b=some (decide (a=b)):=by
 unfold xY;by_cases h:a.length=b.length;have h1:((a.length:Int) != (b.length:Int))=false:=by rw[h]; simp
 rw[h1,if_neg DV];rw[xT (l:=List.range a.length) (G:=vx fu a b) (λi=>gd a i 0 != gd b i 0) (λ_=>false) (by simp; omega)
   (λfk i hi=>by
     have hi':i<a.length:=by simpa using hi
     have h':(i:Int)<(a.length:Int):=by omega
     rw[vx,Ew]
     simp only[h',decide_true,if_true,x5 0 hi',x5 0 (show i<b.length by omega),Dw])
   (λfk=>by rw[EH,vx,if_neg (by simp)]) fu (by simp; omega),wE h]
 cases decide (a=b) <;> rfl;have h1:((a.length:Int) != (b.length:Int))=true:=by simp; omega
 have h2:¬a=b:=λe=>h (by rw[e]);rw[h1,if_pos rfl,decide_eq_false h2]
theorem j4 (x y:Nh):x=y↔x.Id=y.Id∧x.Nv.Pq=y.Nv.Pq∧x.Nv.Nw=y.Nv.Nw∧x.Nd.Pj=y.Nd.Pj∧x.Nd.Px=y.Nd.Px:=by
 rcases x with ⟨i,⟨s,f⟩,⟨a,c⟩⟩
 rcases y with ⟨i',⟨s',f'⟩,⟨a',c'⟩⟩
 simp only[Nh.mk.injEq,Nv.mk.injEq,Nd.mk.injEq,and_assoc]
def addP (p:Nz) (x:Nh):Nz:={ Nq:=p.Nq,Nk:=putL p.Nk x }
def delP (p:Nz) (i:Nat):Nz:={ Nq:=p.Nq,Nk:=p.Nk.eraseIdx i }
theorem lp (L:List Nh) (id:Int) (G:Nat→Int→Option Int) (hl:L.length≤2097152) (hG:∀fk i,G (fk + 1) i=((if decide (i<(L.length:Int))=true then (idx L i).bind λe=>some (decide (e.Id<id)) else some false).bind λc=>if c=true then G fk (w64 (i + 1)) else some i)) (fu:Nat) (hfu:2097153≤fu):G fu 0=some ((eO L id:Nat):Int) :=
  tF (l:=L) (G:=G) (λy=>!decide (y.Id<id)) (by omega)
    (λfk i hi=>by
      have h':(i:Int)<(L.length:Int):=by omega
      rw[hG]
      simp only[h',decide_true,if_true,vF hi,Dw]
      by_cases hc:L[i].Id<id <;> simp [hc])
    (λfk=>by rw[hG]; simp) fu (by omega)
theorem jD {fu:Nat} (hfu:2097153≤fu) (p:Nz) (x:Nh) (hB:ec p) (hx:x.Nv.Nw.length≤2097152):za fu p x=some (addP p x):=by
 have hl:=hB.2.1;have hi:=jG p.Nk x.Id;unfold za;rw[jE hfu p hB,Dw,lp p.Nk x.Id (av fu x p) hl (λfk i=>by rw[av]) fu hfu,Dw,ee hi,Dw];have hs:sub p.Nk ((eO p.Nk x.Id:Nat):Int) (p.Nk.length:Int)=some (p.Nk.drop (eO p.Nk x.Id)):=by
   unfold sub
   rw[if_pos (by omega)]
   simp
 rw[hs,Dw,bY (by rw[DO]; omega),Dw,eN fu x hx,Dw,xH (by rw[DO,DJ]; omega),Dw,xH (by rw[DR,DO,DJ,Er]; omega),Dw,DD,EC];rfl
theorem jk {fu:Nat} (hfu:2097153≤fu) (p:Nz) (x:Nh) (hB:ec p) (hx:x.Nv.Nw.length≤2097152):aW fu p x=some (addP p x):=by
 have hl:=hB.2.1;have hi:=jG p.Nk x.Id;unfold aW;rw[gX hfu p hB,Dw,lp p.Nk x.Id (yf fu p x) hl (λfk i=>by rw[yf]) fu hfu,Dw,fY fu _ hx,Dw];have hs:insl p.Nk ((eO p.Nk x.Id:Nat):Int) [({ Id:=x.Id,Nv:=x.Nv,Nd:=x.Nd }:Nh)]=some (putL p.Nk x):=by
   unfold insl
   rw[if_pos (by rw[DJ]; omega),EZ]
   rfl
 rw[hs,Dw];rfl
theorem Be {p:Nz} (hB:ec p) (i:Nat):ec (delP p i):=by
 refine⟨hB.1,EJ (List.eraseIdx_sublist p.Nk i).length_le hB.2.1,λy hy=>hB.2.2 y (Hb hy)⟩
theorem nZ (n:Nat):decide (((n:Nat):Int)<0)=false:=by simp
end AT
namespace AT
theorem gp (a b:Nh):coll a b=(meets a.Nv.Nw b.Nv.Nw&&!apart (bits a.Nd) (bits b.Nd)):=by
 unfold coll apart;rw[bne]
theorem qy (a b:Int):apart a b=apart b a:=by
 unfold apart band;rw[BitVec.and_comm]
theorem ny (a b:Nh):coll a b=coll b a:=by
 rw[gp,gp,pV,qy (bits a.Nd)]
def xg (H:List Nh) (id:Int):Nh:=gd H (atId H id) l0
def hasL (L:List Nh) (id:Int):Bool:=L.any λy=>y.Id==id
def ea (L:List Nh) (x:Nh):Bool:=!(L.any λown=>own.Id != x.Id&&coll own x)
def fN (D:List Int) (H L:List Nh) (id:Int):Bool:=hasL L id&&(!decide (gd L (atId L id) l0=xg H id)&&(!meets (xg H id).Nv.Nw D&&ea L (xg H id)))
def rev1 (D:List Int) (H:List Nh) (s:List Nh×List Int) (id:Int):List Nh×List Int:=if fN D H s.1 id=true then (s.1.set (atId s.1 id) (xg H id),s.2++[id]) else s
def rev (D:List Int) (H:List Nh) (l:List Int) (s:List Nh×List Int):List Nh×List Int:=l.foldl (rev1 D H) s
def idsL (L:List Nh):List Int:=L.map (·.Id)
variable {L H:List Nh} {D:List Int} {s:List Nh×List Int}
theorem dd {id:Int}:hasL L id=true↔id∈idsL L:=by
 unfold hasL idsL;rw[DT,Eh];constructor;rintro⟨x,hx,h⟩; exact⟨x,hx,by simpa using h⟩;rintro⟨x,hx,h⟩; exact⟨x,hx,by simpa using h⟩
theorem iz {id:Int} (h:hasL H id=true):(xg H id).Id=id:=gY h
theorem fW {id:Int} (h:hasL H id=true):xg H id∈H:=bT l0 (fq h)
theorem pg {i:Nat} {x:Nh} (h:i<L.length) (hx:x.Id=(gd L i l0).Id):idsL (L.set i x)=idsL L:=by
 unfold idsL;rw[List.map_set,hx,zf l0 h];refine Fx (by simp) λj h1 h2=>?_;rw[He];split
 rename_i e; subst e; simp;rfl
theorem s7 {id:Int} (hH:hasL s.1 id=true→hasL H id=true):idsL (rev1 D H s id).1=idsL s.1:=by
 unfold rev1;split
 rename_i h;unfold fN at h;rw[DC]at h;refine pg (fq h.1) ?_;rw[iz (hH h.1),gY h.1];rfl
theorem rb {id:Int} (h:hasL s.1 id=false):rev1 D H s id=s:=by
 unfold rev1 fN;rw[h]; rfl
theorem pk {M:List Nh} (h:idsL L=idsL M) (id:Int):hasL L id=hasL M id:=by
 rw[Ej,dd,dd,h]
theorem iR {D:List Int} {H:List Nh} (L0:List Nh) (hH:∀id,hasL L0 id=true→hasL H id=true):∀(l:List Int) (s:List Nh×List Int),idsL s.1=idsL L0→rev D H l s=rev D H (l.filter λid=>hasL L0 id) s
  | [],s,_=>rfl
  | id::l,s,hs=>by
    have hi:=pk hs id
    rw[EI]
    cases h:hasL L0 id
    · rw[h]at hi
      show rev D H l (rev1 D H s id)=_
      rw[rb hi,if_neg DV]
      exact iR L0 hH l s hs
    · rw[if_pos rfl]
      show rev D H l (rev1 D H s id)=rev D H _ (rev1 D H s id)
      refine iR L0 hH l _ ?_
      rw[s7 λ_=>hH _ h,hs]
theorem il:∀{A B:List Int},A.Pairwise (·<·)→B.Pairwise (·<·)→(∀x,x∈A↔x∈B)→A=B
  | [],[],_,_,_=>rfl
  | [],b::B,_,_,h=>by have:=(h b).2 (by simp); simp at this
  | a::A,[],_,_,h=>by have:=(h a).1 (by simp); simp at this
  | a::A,b::B,hA,hB,h=>by
    obtain⟨a1,a2⟩:=ET.1 hA
    obtain⟨b1,b2⟩:=ET.1 hB
    have hab:a=b:=by
      have h1:=(h a).1 (by simp)
      have h2:=(h b).2 (by simp)
      rcases DZ.1 h1 with h1 | h1
      · exact h1
      · rcases DZ.1 h2 with h2 | h2
        · exact h2.symm
        · have:=b1 _ h1; have:=a1 _ h2; omega
    subst hab
    rw[il a2 b2 λx=>?_]
    constructor
    · intro hx
      rcases DZ.1 ((h x).1 (D7 _ hx)) with e | e
      · have:=a1 _ hx; omega
      · exact e
    · intro hx
      rcases DZ.1 ((h x).2 (D7 _ hx)) with e | e
      · have:=b1 _ hx; omega
      · exact e
theorem kf (h:L.Pairwise λa b=>a.Id<b.Id):(idsL L).Pairwise (·<·):=by
 unfold idsL;exact FV.2 h
theorem s6 (hH:(idsL H).Pairwise (·<·)) (hL:(idsL L).Pairwise (·<·)) (hs:∀id,hasL L id=true→hasL H id=true) (o:List Int):rev D H (idsL H) (L,o)=rev D H (idsL L) (L,o):=by
 rw[iR L hs (idsL H) (L,o) rfl];congr 1;refine il (hH.filter _) hL λx=>?_;rw[EB];constructor;rintro⟨-,h⟩; exact dd.1 h;intro h; exact⟨dd.1 (hs x (dd.2 h)),dd.2 h⟩
structure RvI (N:Nq) (D:List Int) (H L0:List Nh) (s:List Nh×List Int):Prop where
  ok:xv ⟨N,s.1⟩=true
  ids:idsL s.1=idsL L0
  old:∀i,i<L0.length→(gd L0 i l0).Id∉s.2→gd s.1 i l0=gd L0 i l0
  new:∀i,i<L0.length→(gd L0 i l0).Id∈s.2→gd s.1 i l0=xg H (gd L0 i l0).Id∧meets (gd s.1 i l0).Nv.Nw D=false
variable {N:Nq} {L0:List Nh}
theorem oh {i:Nat} (h:i<L.length):(gd L i l0).Id=gd (idsL L) i 0:=by
 unfold idsL;rw[zf l0 h,zf 0 (by simpa using h),Gq]
theorem fo (L:List Nh):(idsL L).length=L.length:=by simp [idsL]
theorem RvI.len (h:RvI N D H L0 s):s.1.length=L0.length:=by
 rw[←fo,h.ids,fo]
theorem RvI.id (h:RvI N D H L0 s) {i:Nat} (hi:i<L0.length):(gd s.1 i l0).Id=(gd L0 i l0).Id:=by
 rw[oh (by rw[h.len]; exact hi),oh hi,h.ids]
theorem AC (hp:xv ⟨N,L⟩=true) {j:Nat} (hj:j<L.length) {y:Nh} (hy:ap N y=true) (hid:y.Id=(gd L j l0).Id) (hf:ea L y=true):xv ⟨N,L.set j y⟩=true:=by
 obtain⟨n1,n2,n3,n4⟩:=va.1 hp;have hI:=nV hp;have hyc:∀i,i<L.length→i≠j→coll (gd L i l0) y=false:=by
   intro i hi hij
   have hne:(gd L i l0).Id≠(gd L j l0).Id:=by
     rcases GX hij with h | h
     · have:=hI.ids i j h hj; simp only at this; omega
     · have:=hI.ids j i h hi; simp only at this; omega
   unfold ea at hf
   rw[D9,DX]at hf
   rw[DX]
   intro hc
   refine hf (DT.2 ⟨_,bT l0 hi,?_⟩)
   rw[hc,G9,bne_iff_ne,hid]
   exact hne
 refine va.2 ⟨n1,by rw[DN]; exact n2,λx hx'=>?_,?_⟩;rcases FP hx' with h | h
 exact n3 x h;subst h; exact hy;show (L.set j y).Pairwise _;have n4':L.Pairwise λa b=>a.Id<b.Id∧coll a b=false:=n4;rw[EG]at n4' ⊢;intro a b ha hb hab;rw[DN]at ha hb;have q:=n4' a b ha hb hab;have yid:y.Id=L[j].Id:=by rw[hid,zf l0 hj]
 rw[He,He];by_cases e1:j=a;subst e1;have e2:¬j=b:=by omega
 rw[if_pos rfl,if_neg e2];refine⟨by rw[yid]; exact q.1,?_⟩;rw[ny];have:=hyc b hb (by omega);rwa [zf l0 hb]at this;rw[if_neg e1];by_cases e2:j=b;subst e2;rw[if_pos rfl];refine⟨by rw[yid]; exact q.1,?_⟩;have:=hyc a ha (by omega);rwa [zf l0 ha]at this;rw[if_neg e2]; exact q
theorem RvI.step (h:RvI N D H L0 s) (hH:∀x∈H,ap N x=true) {id:Int} (hs:hasL L0 id=true→hasL H id=true):RvI N D H L0 (rev1 D H s id):=by
 have e:=h.ids;unfold rev1;split
 rename_i hm;unfold fN at hm;simp only[DC,D9,decide_eq_false_iff_not]at hm;obtain⟨m1,m2,m3,m4⟩:=hm;have m1':hasL L0 id=true:=by rw[←pk e id]; exact m1
 have hj:=fq m1;have hid:(xg H id).Id=(gd s.1 (atId s.1 id) l0).Id:=by rw[iz (hs m1'),gY m1]
 have hI:=nV h.ok;have hne:∀i,i<L0.length→atId s.1 id≠i→(gd L0 i l0).Id≠id:=by
   intro i hi hji
   have e1:(gd s.1 (atId s.1 id) l0).Id=id:=gY m1
   rw[←h.id hi,←e1]
   have hi':i<s.1.length:=by rw[h.len]; exact hi
   rcases GX hji with q | q
   · have:=hI.ids _ i q hi'; simp only at this; omega
   · have:=hI.ids i _ q hj; simp only at this; omega
 refine⟨AC h.ok hj (hH _ (fW (hs m1'))) hid m4,by simp only; rw[pg hj hid,e],λi hi hn=>?_,λi hi hn=>?_⟩;simp only[Dx,DU,not_or]at hn;simp only;rw[wD];split
 rename_i hc;obtain⟨rfl,-⟩:=hc;exact absurd (by rw[←h.id hi,gY m1]) hn.2;exact h.old i hi hn.1;simp only[Dx,DU]at hn;simp only;rw[wD];by_cases q:atId s.1 id=i;have:(gd L0 i l0).Id=id:=by rw[←h.id hi,←q,gY m1]
 rw[if_pos ⟨q,by rw[h.len]; exact hi⟩,this];exact⟨rfl,m3⟩;rw[if_neg λhc=>q hc.1];rcases hn with hn | hn
 exact h.new i hi hn;exact absurd hn (hne i hi q);exact h
theorem RvI.all {N:Nq} {D:List Int} {H L0:List Nh} (hH:∀x∈H,ap N x=true) (hs:∀id,hasL L0 id=true→hasL H id=true):∀(l:List Int) {s:List Nh×List Int},RvI N D H L0 s→RvI N D H L0 (rev D H l s)
  | [],s,h=>h
  | id::l,s,h=>RvI.all hH hs l (s:=rev1 D H s id) (h.step hH (hs id))
end AT
