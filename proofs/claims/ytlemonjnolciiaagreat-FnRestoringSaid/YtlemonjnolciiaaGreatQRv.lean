/- Networks, plainly: names, fibers, validity. -/
import Derived.Test.YtlemonjnolciiaaGreatP1
import Derived.Test.YtlemonjnolciiaaGreatAtL
set_option linter.unusedSimpArgs false
set_option linter.unusedVariables false
namespace AT
def chr (s:ByteArray) (i:Nat):Int:=((s[i]?).map λb=>(b.toNat:Int)).getD 0
theorem lH {s:ByteArray} {i:Nat} (h:i<s.size):sidx s (i:Int)=some ⟨chr s i⟩:=by
 have e:s[i]?=some (s[i]'h):=by simp [h]
 unfold sidx chr;rw[if_pos (by omega),Ek,e];rfl
def nP (c:Int):Bool:=decide (97≤c)&&decide (c≤122)
def rm (c:Int):Bool:=decide (48≤c)&&decide (c≤57)
def kM (s:ByteArray) (i:Nat):Bool:=!(nP (chr s i)||rm (chr s i))
def lp (s:ByteArray) (i:Nat):Bool:=!nP (chr s i)&&(!rm (chr s i)||i==0)
def jS (s:ByteArray):Bool:=!((List.range s.size).any (lp s))&&(decide (1≤s.size)&&decide (s.size≤8))
theorem rl {fu:Nat} (s:ByteArray) (h:s.size<fu) (hn:s.size≤2097152):dZ fu s=some (jS s):=by
 unfold dZ;rw[xr (l:=List.range s.size) (G:=xy fu s) (lp s) (λi=>false) (by simp; omega)
   (λfk i hi=>by
     have hi':i<s.size:=by simpa using hi
     rw[xy,if_pos (by simpa using hi'),lH hi',DZ]
     simp only[CP,lp,nP,rm,ge_iff_le]
     have e0:((i:Int)==0)=(i==0):=by rw[DD]; simp only[beq_iff_eq]; omega
     rw[e0]
     obtain⟨b,hb⟩:∃b,b=(i==0):=⟨_,rfl⟩
     simp only[←hb]
     by_cases h1:97≤chr s i <;> by_cases h2:48≤chr s i <;> by_cases h3:chr s i≤122 <;> by_cases h4:chr s i≤57 <;> cases b <;> simp [h1,h2,h3,h4])
   (λfk=>by rw[D5,xy,if_neg (by simp)]) fu (by simpa using h)]
 unfold jS;have e1:decide (1≤(s.size:Int))=decide (1≤s.size):=by simp only[decide_eq_decide]; omega
 have e2:decide ((s.size:Int)≤8)=decide (s.size≤8):=by simp only[decide_eq_decide]; omega
 cases (List.range s.size).any (lp s) <;> simp [Out.on,e1,e2]
theorem rc (fu:Nat) (b:By):dP fu b=some (nP b.n||rm b.n):=by
 unfold dP nP rm;simp only[ge_iff_le];by_cases h1:97≤b.n <;> by_cases h2:48≤b.n <;> by_cases h3:b.n≤122 <;> by_cases h4:b.n≤57 <;> simp [h1,h2,h3,h4]
theorem re {fu:Nat} (s:ByteArray) (h:s.size<fu) (hn:s.size≤2097152):dQ fu s=some (jS s):=by
  unfold dQ;have e1:decide (1≤(s.size:Int))=decide (1≤s.size):=by simp only[decide_eq_decide]; omega
  have e2:decide ((s.size:Int)≤8)=decide (s.size≤8):=by simp only[decide_eq_decide]; omega
  simp only[eW,CP,e1,e2];unfold jS;by_cases hb:(decide (1≤s.size)&&decide (s.size≤8))=true
  · rw[hb]
    simp only[CW,decide_eq_true_eq]at hb
    have h0:0<s.size:=by omega
    have hs:=lH h0
    simp only[Gc,Int.natCast_zero]at hs
    simp only[DF,CU,if_false,hs,CP,GD]
    have hl:ye fu s fu 0=some (if (List.range s.size).any (kM s) then .ret false else .next ((List.range s.size).length:Int)) :=
      xr (l:=List.range s.size) (G:=ye fu s) (kM s) (λi=>false) (by simp; omega)
        (λfk i hi=>by
          have hi':i<s.size:=by simpa using hi
          rw[ye,if_pos (by simpa using hi'),lH hi',DZ]
          simp only[CP,rc,kM]
          rfl)
        (λfk=>by rw[D5,ye,if_neg (by simp)]) fu (by simpa using h)
    rw[hl]
    have ha:(List.range s.size).any (lp s)=(!nP (chr s 0)||(List.range s.size).any (kM s)):=by
      rw[DD]
      simp only[C5,DC,Eu,lp,kM,CW,Dl,beq_iff_eq,D3]
      constructor
      · rintro⟨i,hi,h1,h2⟩
        rcases h2 with h2 | h2
        · exact .inr ⟨i,hi,h1,h2⟩
        · subst h2; exact .inl h1
      · rintro (h1 | ⟨i,hi,h1,h2⟩)
        · exact⟨0,h0,h1,.inr rfl⟩
        · exact⟨i,hi,h1,.inl h2⟩
    rw[ha]
    unfold nP
    have e3:decide (chr s 0<97)=!decide (97≤chr s 0):=by rw[←decide_not]; simp only[decide_eq_decide]; omega
    have e4:decide (chr s 0 > 122)=!decide (chr s 0≤122):=by rw[←decide_not]; simp only[decide_eq_decide]; omega
    simp only[e3,e4]
    cases decide (97≤chr s 0) <;> cases decide (chr s 0≤122) <;> cases (List.range s.size).any (kM s) <;> rfl
  · rw[EV]at hb
    rw[hb]
    simp
def nm0:ByteArray:=ByteArray.empty
def seen (l:List ByteArray) (i:Nat):Bool:=(l.take i).any λx=>(gd l i nm0).toList==x.toList
theorem nz {α:Type} [BEq α] [LawfulBEq α] (a b:α):(a==b)=(b==a):=by
 rw[DD]; simp only[beq_iff_eq]; exact eq_comm
variable {fu i:Nat}
theorem rn (l:List ByteArray) (v:ByteArray) (h:l.length<fu) (hn:l.length≤2097152):xm fu l v=some (if l.any (λx=>v.toList==x.toList) then ((l.findIdx λx=>v.toList==x.toList:Nat):Int) else -1):=by
 unfold xm;rw[xr (l:=l) (G:=u7 fu l v) (λx=>v.toList==x.toList) (λi=>(i:Int)) (by omega)
   (λfk i hi=>by rw[u7,if_pos (by simpa using hi),vD hi]; rfl)
   (λfk=>by rw[u7,if_neg (by simp)]) fu h]
 cases l.any (λx=>v.toList==x.toList) <;> rfl
theorem nq (l:List ByteArray) (v:ByteArray) (h:l.length<fu) (hn:l.length≤2097152):vY fu l v=some (l.any λx=>v.toList==x.toList):=by
 unfold vY;rw[rn l v h hn];cases l.any (λx=>v.toList==x.toList)
 rfl;simp
theorem rf (l:List ByteArray) (v:ByteArray) (h:l.length<fu) (hn:l.length≤2097152):dR fu l v=some (if l.any (λx=>x.toList==v.toList) then ((l.findIdx λx=>x.toList==v.toList:Nat):Int) else -1):=by
 unfold dR;rw[xr (l:=l) (G:=yQ fu l v) (λx=>x.toList==v.toList) (λi=>(i:Int)) (by omega)
   (λfk i hi=>by rw[yQ,if_pos (by simpa using hi),vD hi]; rfl)
   (λfk=>by rw[yQ,if_neg (by simp)]) fu h]
 cases l.any (λx=>x.toList==v.toList) <;> rfl
theorem d5 {α:Type} {l:List α} (h:i≤l.length):sub l 0 (i:Int)=some (l.take i):=by
 unfold sub;rw[if_pos (by omega)];simp
theorem nk {α:Type} {l:List α} {p:α→Bool} (h:i<l.length) (hp:p l[i]=true):(l.findIdx p=i)↔(l.take i).any p=false:=by
 rw[List.findIdx_eq h];constructor;rintro⟨-,h2⟩;rw[C6];intro h3;obtain⟨x,hx,hpx⟩:=C5.1 h3;obtain⟨j,hj,rfl⟩:=Dp.1 hx;simp only[C0]at hj;rw[DW]at hpx;have:=h2 j (by omega);rw[hpx]at this;cases this
 intro h3;refine⟨hp,λj hj=>?_⟩;rw[C6];intro h4;rw[C6]at h3;refine h3 (C5.2 ⟨l[j],?_,h4⟩);refine Dp.2 ⟨j,by simp; omega,by rw[DW]⟩
def gG (l:List ByteArray) (i:Nat):Bool:=!jS (gd l i nm0)||seen l i
def f0:Nt:=⟨0,0,0,0⟩
def iZ (m:Nat) (f:Nt):Bool:=decide (0≤f.A)&&(decide (f.A<f.B)&&(decide (f.B<(m:Int))&&((decide (1≤f.Pk)&&decide (f.Pk≤5000))&&(decide (0≤f.Pg)&&decide (f.Pg≤9)))))
def fGt (f g:Nt):Bool:=decide (g.A<f.A)||(f.A==g.A&&(decide (g.B<f.B)||(f.B==g.B&&(decide (g.Pk<f.Pk)||(f.Pk==g.Pk&&decide (g.Pg<f.Pg))))))
def cmpI (x y:Int):Int:=if x<y then -1 else if x > y then 1 else 0
theorem i6 (fu:Nat) (x y:Int):cmp_Compare_int fu x y=some (cmpI x y):=by
 unfold cmp_Compare_int cmp_isNaN_int cmpI;have e:∀z:Int,(z != z)=false:=λz=>by simp
 simp only[e,CP,CU,if_false,decide_eq_true_eq];by_cases h:x<y;rw[if_pos h,if_pos h];rw[if_neg h,if_neg h];split <;> rfl
theorem jz (x y:Int):0<cmpI x y↔y<x:=by unfold cmpI; split <;> (try split) <;> omega
theorem zv (x y:Int):cmpI x y=0↔x=y:=by unfold cmpI; split <;> (try split) <;> omega
def or4 (a b c d:Int):Int:=if a≠0 then a else if b≠0 then b else if c≠0 then c else if d≠0 then d else 0
theorem Aj (a b c d:Int) (h:4<fu):dH fu [a,b,c,d]=some (or4 a b c d):=by
 unfold dH;rw[xr (l:=[a,b,c,d]) (G:=zu fu [a,b,c,d]) (λe=>e != 0) (λi=>gd [a,b,c,d] i 0) (by simp)
   (λfk i hi=>by rw[zu,if_pos (by rw[decide_eq_true_eq]; omega),vD hi,bM 0 hi]; rfl)
   (λfk=>by rw[zu,if_neg (by simp)]) fu (by simpa using h)]
 unfold or4;have e:∀z:Int,(z != 0)=!decide (z=0):=λz=>by by_cases h:z=0 <;> simp [h]
 simp only[e];by_cases ha:a=0 <;> by_cases hb:b=0 <;> by_cases hc:c=0 <;> by_cases hd:d=0 <;> simp [ha,hb,hc,hd,Gg,gd,Out.on]
theorem jm (f g:Nt) (h:4<fu):∃r,zr fu f g=some r∧decide (r > 0)=fGt f g:=by
  unfold zr;simp only[i6,CP,Aj _ _ _ _ h];refine⟨_,rfl,?_⟩;rw[DD];simp only[fGt,decide_eq_true_eq,Eu,CW,beq_iff_eq,or4];have a1:=jz f.A g.A;have a2:=zv f.A g.A;have b1:=jz f.B g.B;have b2:=zv f.B g.B;have c1:=jz f.Pk g.Pk;have c2:=zv f.Pk g.Pk;have d1:=jz f.Pg g.Pg;have d2:=zv f.Pg g.Pg;generalize cmpI f.A g.A=a at *;generalize cmpI f.B g.B=b at *;generalize cmpI f.Pk g.Pk=c at *;generalize cmpI f.Pg g.Pg=d at *;split <;> (try split) <;> (try split) <;> (try split) <;> constructor <;> intro h <;> simp only[decide_eq_true_eq]at * <;> omega
def bef (f g:Nt):Int:=if f.A≠g.A then w64 (f.A - g.A) else if f.B≠g.B then w64 (f.B - g.B) else if f.Pk≠g.Pk then w64 (f.Pk - g.Pk) else w64 (f.Pg - g.Pg)
theorem jX (fu:Nat) (f g:Nt):bg fu f g=some (bef f g):=by
 unfold bg bef;by_cases h1:f.A=g.A;by_cases h2:f.B=g.B;by_cases h3:f.Pk=g.Pk <;> simp [h1,h2,h3]
 simp [h1,h2];simp [h1]
theorem AU {m:Nat} {f g:Nt} (hm:m≤8) (hf:iZ m f=true) (hg:iZ m g=true):decide (bef f g > 0)=fGt f g:=by
 simp only[iZ,CW,decide_eq_true_eq]at hf hg;rw[DD];simp only[fGt,decide_eq_true_eq,Eu,CW,beq_iff_eq];unfold bef;have e1:w64 (f.A - g.A)=f.A - g.A:=vq (by omega) (by omega);have e2:w64 (f.B - g.B)=f.B - g.B:=vq (by omega) (by omega);have e3:w64 (f.Pk - g.Pk)=f.Pk - g.Pk:=vq (by omega) (by omega);have e4:w64 (f.Pg - g.Pg)=f.Pg - g.Pg:=vq (by omega) (by omega);rw[e1,e2,e3,e4];clear e1 e2 e3 e4;split
 omega;split
 omega;split <;> omega
theorem pu {m:Nat} (f:Nt) (hm:m≤8):cX fu f (m:Int)=some (iZ m f):=by
 unfold cX;simp only[eW,CP];have e0:w64 ((m:Int) - 1)=(m:Int) - 1:=vq (by omega) (by omega);rw[e0];unfold iZ;by_cases h1:0≤f.A;by_cases h2:f.A≤(m:Int) - 1;have e1:w64 (f.A + 1)=f.A + 1:=vq (by omega) (by omega);rw[e1];have e2:decide (f.A + 1≤f.B)=decide (f.A<f.B):=by simp only[decide_eq_decide]; omega
 have e3:decide (f.B≤(m:Int) - 1)=decide (f.B<(m:Int)):=by simp only[decide_eq_decide]; omega
 rw[e2,e3];simp only[h1,h2,decide_true,GD,if_true,Eo];cases decide (f.A<f.B) <;> cases decide (f.B<(m:Int)) <;> cases decide (1≤f.Pk) <;> cases decide (f.Pk≤5000) <;> cases decide (0≤f.Pg) <;> cases decide (f.Pg≤9) <;> rfl
 have:(decide (f.A<f.B)&&decide (f.B<(m:Int)))=false:=by
   rw[C6]; simp only[ne_eq,CW,decide_eq_true_eq]; omega
 rw[←Gx (decide (f.A<f.B)),this];simp [h1,h2];simp [h1]
def fU (m:Nat) (l:List Nt) (i:Nat):Bool:=!iZ m (gd l i f0)||(decide (0<i)&&fGt (gd l (i - 1) f0) (gd l i f0))
def i5 (m:Nat) (l:List Nt) (i:Nat):Bool:=!iZ m (gd l i f0)||(decide (0<i)&&decide (bef (gd l (i - 1) f0) (gd l i f0) > 0))
theorem rB {m:Nat} (l:List Nt) (hm:m≤8):(List.range l.length).any (i5 m l)=(List.range l.length).any (fU m l):=by
 by_cases hv:∃i,i<l.length∧iZ m (gd l i f0)=false;obtain⟨i,hi,hb⟩:=hv;have h1:(List.range l.length).any (i5 m l)=true:=C5.2 ⟨i,DC.2 hi,by simp [i5,hb]⟩;have h2:(List.range l.length).any (fU m l)=true:=C5.2 ⟨i,DC.2 hi,by simp [fU,hb]⟩;rw[h1,h2];have hv':∀i,i<l.length→iZ m (gd l i f0)=true:=λi hi=>by
   cases h:iZ m (gd l i f0)
   · exact absurd ⟨i,hi,h⟩ hv
   · rfl
 refine my λi hi=>?_;have hi':=DC.1 hi;unfold i5 fU;by_cases h0:0<i;rw[AU hm (hv' (i - 1) (by omega)) (hv' i hi')];simp [h0]
def eq (n:Nq):Bool:=(decide (2≤n.Nx.length)&&decide (n.Nx.length≤8))&&(decide (n.Nw.length≤14)&&(!((List.range n.Nx.length).any (gG n.Nx))&&!((List.range n.Nw.length).any (fU n.Nx.length n.Nw))))
def NetB (n:Nq):Prop:=(n.Nx.length≤2097152∧∀e∈n.Nx,e.size≤2097152)∧n.Nw.length≤2097152
theorem eN {α:Type} {l:List α} (d:α) (h:i<l.length):gd l i d∈l:=by rw[bM d h]; exact Dh _
theorem kZ (hfu:2097153≤fu) (n:Nq) (hB:NetB n):x9 fu n=some (eq n):=by
 obtain⟨⟨hl,hs⟩,hl2⟩:=hB;unfold x9;rw[xr (l:=List.range n.Nx.length) (G:=vG fu n) (gG n.Nx) (λi=>false) (by simp; omega)
   (λfk i hi=>by
     have hi':i<n.Nx.length:=by simpa using hi
     have hz:=hs _ (eN nm0 hi')
     rw[vG,if_pos (by simpa using hi'),zH nm0 hi',DZ]
     simp only[CP,rl _ (show (gd n.Nx i nm0).size<fu by omega) hz,gG,seen]
     rcases Gk (jS (gd n.Nx i nm0)) with h1 | h1
     · rw[d5 (by omega)]
       simp only[h1,DF,CU,if_false,CP,nq _ _ (show (n.Nx.take i).length<fu by simp; omega) (by simp; omega),Et]
     · simp [h1])
   (λfk=>by rw[D5,vG,if_neg (by simp)]) fu (by simp; omega)]
 rw[xr (l:=List.range n.Nw.length) (G:=vF fu n) (fU n.Nx.length n.Nw) (λi=>false) (by simp; omega)
   (λfk i hi=>by
     have hi':i<n.Nw.length:=by simpa using hi
     rw[vF,if_pos (by simpa using hi'),zH f0 hi',DZ]
     simp only[CP,bA,fU,iZ]
     obtain⟨x,hx⟩:∃x,x=gd n.Nw i f0:=⟨_,rfl⟩
     simp only[←hx]
     have a1:decide (x.A<0)=!decide (0≤x.A):=by rw[←decide_not]; simp only[decide_eq_decide]; omega
     have a2:decide (x.A≥x.B)=!decide (x.A<x.B):=by rw[←decide_not]; simp only[decide_eq_decide]; omega
     have a3:decide (x.B≥(n.Nx.length:Int))=!decide (x.B<(n.Nx.length:Int)):=by rw[←decide_not]; simp only[decide_eq_decide]; omega
     simp only[a1,a2,a3]
     by_cases b1:(decide (0≤x.A))=false
     · simp [b1]
     rw[EF]at b1
     by_cases b2:(decide (x.A<x.B))=false
     · simp [b1,b2]
     rw[EF]at b2
     by_cases b3:(decide (x.B<(n.Nx.length:Int)))=false
     · simp [b1,b2,b3]
     rw[EF]at b3
     by_cases b4:(decide (1≤x.Pk)&&decide (x.Pk≤5000))=false
     · simp only[b1,b2,b3,b4]; simp
     rw[EF]at b4
     by_cases b5:(decide (0≤x.Pg)&&decide (x.Pg≤9))=false
     · simp only[b1,b2,b3,b4,b5]; simp
     rw[EF]at b5
     simp only[b1,b2,b3,b4,b5]
     by_cases h0:0<i
     · rw[dJ h0 (by omega),zH f0 (show i - 1<n.Nw.length by omega)]
       obtain⟨r,h1,h2⟩:=jm (fu:=fu) (gd n.Nw (i - 1) f0) x (by omega)
       have h0':((i:Int) > 0):=by omega
       simp [h0,h1,h2,h0']
     · have h0':¬((i:Int) > 0):=by omega
       simp [h0,h0'])
   (λfk=>by rw[D5,vF,if_neg (by simp)]) fu (by simp; omega)]
 unfold eq;have e1:decide (2≤(n.Nx.length:Int))=decide (2≤n.Nx.length):=by simp only[decide_eq_decide]; omega
 have e2:decide ((n.Nx.length:Int)≤8)=decide (n.Nx.length≤8):=by simp only[decide_eq_decide]; omega
 have e3:decide ((n.Nw.length:Int)≤14)=decide (n.Nw.length≤14):=by simp only[decide_eq_decide]; omega
 simp only[bA,e1,e2,e3];cases (List.range n.Nx.length).any (gG n.Nx) <;> cases (List.range n.Nw.length).any (fU n.Nx.length n.Nw) <;> cases decide (2≤n.Nx.length) <;> cases decide (n.Nx.length≤8) <;> cases decide (n.Nw.length≤14) <;> rfl
theorem iH (hfu:2097153≤fu) (n:Nq) (hB:NetB n):bQ fu n=some (eq n):=by
 obtain⟨⟨hl,hs⟩,hl2⟩:=hB;unfold bQ eq;have e1:decide (2≤(n.Nx.length:Int))=decide (2≤n.Nx.length):=by simp only[decide_eq_decide]; omega
 have e2:decide ((n.Nx.length:Int)≤8)=decide (n.Nx.length≤8):=by simp only[decide_eq_decide]; omega
 have e3:decide ((n.Nw.length:Int) > 14)=!decide (n.Nw.length≤14):=by rw[←decide_not]; simp only[decide_eq_decide]; omega
 simp only[eW,e1,e2,e3,CP];cases hb:(decide (2≤n.Nx.length)&&decide (n.Nx.length≤8))
 rfl;cases hc:decide (n.Nw.length≤14)
 rfl;simp only[CW,decide_eq_true_eq]at hb hc;rw[xr (l:=List.range n.Nx.length) (G:=yP fu n) (gG n.Nx) (λi=>false) (by simp; omega)
   (λfk i hi=>by
     have hi':i<n.Nx.length:=by simpa using hi
     have hz:=hs _ (eN nm0 hi')
     rw[yP,if_pos (by simpa using hi'),zH nm0 hi',DZ]
     simp only[CP,re _ (show (gd n.Nx i nm0).size<fu by omega) hz,gG,seen]
     by_cases h1:(jS (gd n.Nx i nm0))=false
     · simp [h1]
     rw[EF]at h1
     · have hp:(λx:ByteArray=>x.toList==(gd n.Nx i nm0).toList) n.Nx[i]=true:=by simp [bM nm0 hi']
       have ha:n.Nx.any (λx=>x.toList==(gd n.Nx i nm0).toList)=true:=C5.2 ⟨_,Dh hi',hp⟩
       have hfi:=nk (p:=λx:ByteArray=>x.toList==(gd n.Nx i nm0).toList) hi' hp
       have hsy:(n.Nx.take i).any (λx=>(gd n.Nx i nm0).toList==x.toList)=(n.Nx.take i).any (λx=>x.toList==(gd n.Nx i nm0).toList):=my λx _=>nz _ _
       simp only[h1,DF,CU,if_false,CP,rf _ _ (show n.Nx.length<fu by omega) hl,ha,if_true,Et,hsy]
       have he:(((n.Nx.findIdx λx=>x.toList==(gd n.Nx i nm0).toList:Nat):Int) != (i:Int))=(n.Nx.take i).any (λx=>x.toList==(gd n.Nx i nm0).toList):=by
         rw[DD]
         simp only[bne_iff_ne,ne_eq,Int.natCast_inj,hfi,EF]
       rw[he])
   (λfk=>by rw[D5,yP,if_neg (by simp)]) fu (by simp; omega)]
 rw[xr (l:=List.range n.Nw.length) (G:=yO fu n) (i5 n.Nx.length n.Nw) (λi=>false) (by simp; omega)
   (λfk i hi=>by
     have hi':i<n.Nw.length:=by simpa using hi
     rw[yO,if_pos (by simpa using hi'),zH f0 hi',DZ]
     simp only[CP,pu _ hb.2,i5]
     by_cases h1:(iZ n.Nx.length (gd n.Nw i f0))=false
     · simp [h1]
     rw[EF]at h1
     simp only[h1]
     by_cases h0:0<i
     · rw[dJ h0 (by omega),zH f0 (show i - 1<n.Nw.length by omega)]
       have h0':((i:Int) > 0):=by omega
       simp [h0,jX,h0']
     · have h0':¬((i:Int) > 0):=by omega
       simp [h0,h0'])
   (λfk=>by rw[D5,yO,if_neg (by simp)]) fu (by simp; omega),rB _ hb.2]
 cases (List.range n.Nx.length).any (gG n.Nx) <;> cases (List.range n.Nw.length).any (fU n.Nx.length n.Nw) <;> rfl
structure NetF (n:Nq):Prop where
  lo:2≤n.Nx.length
  hi:n.Nx.length≤8
  fib:n.Nw.length≤14
  each:∀f∈n.Nw,0≤f.A∧f.A<f.B∧f.B<(n.Nx.length:Int)∧1≤f.Pk∧f.Pk≤5000∧0≤f.Pg∧f.Pg≤9
theorem netF {n:Nq} (h:eq n=true):NetF n:=by
 unfold eq at h;simp only[CW,decide_eq_true_eq,Dl]at h;obtain⟨⟨h1,h2⟩,h3,h4,h5⟩:=h;refine⟨h1,h2,h3,λf hf=>?_⟩;obtain⟨i,hi,rfl⟩:=Dp.1 hf;rw[C6]at h5;have h6:fU n.Nx.length n.Nw i=false:=by
   rw[C6]
   intro h7
   exact h5 (C5.2 ⟨i,DC.2 hi,h7⟩)
 unfold fU at h6;rw[D3]at h6;have h8:=h6.1;rw[bM f0 hi]at h8;simp only[FB,iZ,CW,decide_eq_true_eq]at h8;omega
end AT
namespace AT
theorem yc {α:Type} {l m:List α} (h:l.length + m.length≤1099511627776):app l m=some (l++m):=by unfold app; rw[if_pos h]
variable {fu:Nat}
theorem rp (l:List Int) (v:Int) (h:l.length<fu) (hn:l.length≤2097152):yB fu l v=some (if l.any (λx=>x==v) then ((l.findIdx λx=>x==v:Nat):Int) else -1):=by
 unfold yB;rw[xr (l:=l) (G:=vu fu l v) (λx=>x==v) (λi=>(i:Int)) (by omega)
   (λfk i hi=>by rw[vu,if_pos (by simpa using hi),vD hi,CP,nz v])
   (λfk=>by rw[vu,if_neg (by simp)]) fu h]
 cases l.any (λx=>x==v) <;> rfl
theorem ed (l:List Int) (v:Int) (h:l.length<fu) (hn:l.length≤2097152):vv fu l v=some (l.any λx=>x==v):=by
 unfold vv;rw[rp l v h hn];cases l.any (λx=>x==v)
 rfl;simp
theorem eX (l:List Int) (v:Int) (h:l.length<fu) (hn:l.length≤2097152):zK fu l v=some (l.any λx=>x==v):=by
 unfold zK;rw[xr (l:=l) (G:=zl fu l v) (λx=>x==v) (λi=>true) (by omega)
   (λfk i hi=>by rw[zl,if_pos (by simpa using hi),vD hi,CP])
   (λfk=>by rw[zl,if_neg (by simp)]) fu h]
 cases l.any (λx=>x==v) <;> rfl
def oth (f:Nt) (v:Int):Int:=if v=f.A then f.B else if v=f.B then f.A else -1
theorem tG {R:Type} (f:Nt) (v:Int) (k:Int→R):(if v==f.A then k f.B else if v==f.B then k f.A else k (-1))=k (oth f v):=by
 unfold oth;by_cases h1:v=f.A;rw[if_pos (beq_iff_eq.2 h1),if_pos h1];rw[if_neg (by simpa using h1),if_neg h1];by_cases h2:v=f.B;rw[if_pos (beq_iff_eq.2 h2),if_pos h2];rw[if_neg (by simpa using h2),if_neg h2]
theorem jP (fu:Nat) (f:Nt) (v:Int):cr fu f v=some (oth f v):=by
 exact tG f v some
theorem f9 (fu:Nat) (n:Nq) (i:Nat) (v:Int) (h:i<n.Nw.length):yh fu n (i:Int) v=some (oth (gd n.Nw i f0) v):=by
 unfold yh;rw[zH f0 h];exact tG _ v some
def db (F:List Nt):List Int→List Int→Int→Option (List Int)
  | [],out,_=>some out
  | i::r,out,v=>if 0≤i∧i<(F.length:Int) then (if oth (gd F i.toNat f0) v<0∨(out.any λx=>x==oth (gd F i.toNat f0) v)=true then none else db F r (out++[oth (gd F i.toNat f0) v]) (oth (gd F i.toNat f0) v)) else none
def yF (n:Nq) (r:Nv):Option (List Int):=if (0≤r.Pq∧r.Pq<(n.Nx.length:Int))∧r.Nw≠[] then db n.Nw r.Nw [r.Pq] r.Pq else none
def gl (l:List Int):Int:=gd l (l.length - 1) 0
theorem ml (l:List Int) (x:Int):gl (l++[x])=x:=by unfold gl gd; simp
theorem mF {F:List Nt}:∀{fs out:List Int} {v:Int} {o:List Int},db F fs out v=some o→o.length=out.length + fs.length
  | [],out,v,o,h=>by simp only[db,Dj]at h; subst h; simp
  | i::r,out,v,o,h=>by
    unfold db at h
    split at h
    · split at h
      · cases h
      · have:=mF h
        simp only[C3,Dz,En]at this ⊢
        omega
    · cases h
theorem oe {F:List Nt}:∀{fs out:List Int} {v:Int} {o:List Int},db F fs out v=some o→∀i∈fs,0≤i∧i<(F.length:Int)
  | [],out,v,o,h=>by simp
  | i::r,out,v,o,h=>by
    unfold db at h
    split at h
    · rename_i hi
      split at h
      · cases h
      · intro j hj
        rcases De.1 hj with rfl | hj
        · exact hi
        · exact oe h j hj
    · cases h
variable {n:Nq} {r:Nv} {o:List Int}
theorem mB (hfu:2097153≤fu) (n:Nq) (r:Nv) (hn:n.Nw.length≤2097152) (hr:r.Nw.length≤2097152):∀(fk i:Nat) (out:List Int) (v:Int),i≤r.Nw.length→r.Nw.length - i<fk→out.length=i + 1 →
    ∃z,zb fu n r fk out v i=some (match db n.Nw (r.Nw.drop i) out v with | some o=>.next (o,z) | none=>.ret ([],false)):=by
 intro fk;induction fk with
 | zero=>intro i _ _ _ h; omega
 | succ fk ih =>
   intro i out v hi hk ho
   rw[zb]
   by_cases h:i<r.Nw.length
   · rw[if_pos (by simpa using h),vD h,←C7 h,db]
     obtain⟨e,he⟩:∃e,e=r.Nw[i]:=⟨_,rfl⟩
     simp only[←he,CP,bA]
     rw[vq (by omega) (by omega)]
     by_cases hb:0≤e∧e<(n.Nw.length:Int)
     · rw[if_pos hb]
       have hb':(decide (0≤e)&&decide (e≤(n.Nw.length:Int) - 1))=true:=by simp; omega
       have hx:idx n.Nw e=some (gd n.Nw e.toNat f0):=by
         have:=zH (l:=n.Nw) (i:=e.toNat) f0 (by omega)
         rwa [Ec hb.1]at this
       simp only[hb',DF,CU,if_false,hx,CP,jP]
       obtain⟨y,hy⟩:∃y,y=oth (gd n.Nw e.toNat f0) v:=⟨_,rfl⟩
       simp only[←hy,ed out y (show out.length<fu by omega) (by omega)]
       by_cases hn:y<0∨(out.any λx=>x==y)=true
       · rw[if_pos hn]
         refine⟨(0,0),?_⟩
         rcases hn with h1 | h1
         · simp [h1]
         · by_cases h2:y<0 <;> simp [h1,h2]
       · rw[if_neg hn]
         have h1:¬y<0:=λh=>hn (.inl h)
         have h2:(out.any λx=>x==y)=false:=by rw[C6]; exact λh=>hn (.inr h)
         simp only[h1,decide_false,CU,if_false,h2,CP]
         rw[yc (by simp; omega),CP,vV h (by omega)]
         exact ih (i + 1) _ _ h (by omega) (by simp; omega)
     · rw[if_neg hb]
       have hb':(decide (0≤e)&&decide (e≤(n.Nw.length:Int) - 1))=false:=by rw[C6]; simp; omega
       exact⟨(0,0),by simp [hb']⟩
   · obtain rfl:i=r.Nw.length:=by omega
     rw[if_neg (by simp),Dn]
     exact⟨_,rfl⟩
theorem kK (hfu:2097153≤fu) (n:Nq) (r:Nv) (hn:n.Nw.length≤2097152) (hm:n.Nx.length≤2097152) (hr:r.Nw.length≤2097152):cc fu n r=some (match yF n r with | some o=>(o,true) | none=>([],false)):=by
 unfold cc;simp only[bA,CP];rw[vq (by omega) (by omega)];by_cases hs:0≤r.Pq∧r.Pq<(n.Nx.length:Int);have hb':(decide (0≤r.Pq)&&decide (r.Pq≤(n.Nx.length:Int) - 1))=true:=by simp; omega
 by_cases he:r.Nw=[];have er:yF n r=none:=by unfold yF; rw[if_neg λh=>h.2 he]
 simp [hb',he,er];have er:yF n r=db n.Nw r.Nw [r.Pq] r.Pq:=by unfold yF; rw[if_pos ⟨hs,he⟩]
 have he':((r.Nw.length:Int)==0)=false:=by
   rw[beq_eq_false_iff_ne]
   have:=FZ.2 he
   omega
 obtain⟨z,hz⟩:=mB hfu n r hn hr fu 0 [r.Pq] r.Pq (by omega) (by omega) rfl;rw[Di,show ((0:Nat):Int)=0 from rfl]at hz;rw[er];simp only[hb',DF,CU,if_false,he',CP,hz];cases db n.Nw r.Nw [r.Pq] r.Pq <;> rfl
 have hb':(decide (0≤r.Pq)&&decide (r.Pq≤(n.Nx.length:Int) - 1))=false:=by rw[C6]; simp; omega
 have er:yF n r=none:=by unfold yF; rw[if_neg λh=>hs h.1]
 simp [hb',er]
theorem qe (hfu:2097153≤fu) (n:Nq) (r:Nv) (hn:n.Nw.length≤2097152) (hr:r.Nw.length≤2097152):∀(fk i:Nat) (out:List Int),i≤r.Nw.length→r.Nw.length - i<fk→out.length=i + 1 →
    ∃z o',zx fu n r fk out i=some (match db n.Nw (r.Nw.drop i) out (gl out) with | some o=>.next (o,z) | none=>.ret (o',false)):=by
 intro fk;induction fk with
 | zero=>intro i _ _ h; omega
 | succ fk ih =>
   intro i out hi hk ho
   rw[zx]
   by_cases h:i<r.Nw.length
   · rw[if_pos (by simpa using h),vD h,←C7 h,db]
     obtain⟨e,he⟩:∃e,e=r.Nw[i]:=⟨_,rfl⟩
     have hlast:idx out (w64 ((out.length:Int) - 1))=some (gl out):=by
       rw[dJ (by omega) (by omega),zH 0 (by omega)]; rfl
     simp only[←he,CP,eW,hlast]
     rw[vq (by omega) (by omega)]
     by_cases hb:0≤e∧e<(n.Nw.length:Int)
     · rw[if_pos hb]
       have hb':(decide (0≤e)&&decide (e≤(n.Nw.length:Int) - 1))=true:=by simp; omega
       have hx:yh fu n e (gl out)=some (oth (gd n.Nw e.toNat f0) (gl out)):=by
         have:=f9 fu n e.toNat (gl out) (by omega)
         rwa [Ec hb.1]at this
       simp only[hb',DF,CU,if_false,hx,CP]
       obtain⟨y,hy⟩:∃y,y=oth (gd n.Nw e.toNat f0) (gl out):=⟨_,rfl⟩
       simp only[←hy,eX out y (show out.length<fu by omega) (by omega)]
       by_cases hn:y<0∨(out.any λx=>x==y)=true
       · rw[if_pos hn]
         refine⟨0,out,?_⟩
         rcases hn with h1 | h1
         · simp [h1]
         · by_cases h2:y<0 <;> simp [h1,h2]
       · rw[if_neg hn]
         have h1:¬y<0:=λh=>hn (.inl h)
         have h2:(out.any λx=>x==y)=false:=by rw[C6]; exact λh=>hn (.inr h)
         simp only[h1,decide_false,CU,if_false,h2,CP]
         rw[yc (by simp; omega),CP,vV h (by omega)]
         have:=ih (i + 1) (out++[y]) h (by omega) (by simp; omega)
         rwa [ml]at this
     · rw[if_neg hb]
       have hb':(decide (0≤e)&&decide (e≤(n.Nw.length:Int) - 1))=false:=by rw[C6]; simp; omega
       exact⟨0,out,by simp [hb']⟩
   · obtain rfl:i=r.Nw.length:=by omega
     rw[if_neg (by simp),Dn]
     exact⟨_,[],rfl⟩
theorem walk_eq (hfu:2097153≤fu) (n:Nq) (r:Nv) (hn:n.Nw.length≤2097152) (hm:n.Nx.length≤2097152) (hr:r.Nw.length≤2097152):∃o',cE fu n r=some (match yF n r with | some o=>(o,true) | none=>(o',false)):=by
 unfold cE;simp only[eW,CP];rw[vq (by omega) (by omega)];by_cases hs:0≤r.Pq∧r.Pq<(n.Nx.length:Int);have hb':(decide (0≤r.Pq)&&decide (r.Pq≤(n.Nx.length:Int) - 1))=true:=by simp; omega
 by_cases he:r.Nw=[];have er:yF n r=none:=by unfold yF; rw[if_neg λh=>h.2 he]
 exact⟨[r.Pq],by simp [hb',he,er]⟩;have er:yF n r=db n.Nw r.Nw [r.Pq] r.Pq:=by unfold yF; rw[if_pos ⟨hs,he⟩]
 have he':((r.Nw.length:Int)==0)=false:=by
   rw[beq_eq_false_iff_ne]
   have:=FZ.2 he
   omega
 obtain⟨z,o',hz⟩:=qe hfu n r hn hr fu 0 [r.Pq] (by omega) (by omega) rfl;rw[Di,show ((0:Nat):Int)=0 from rfl,show gl [r.Pq]=r.Pq from rfl]at hz;refine⟨o',?_⟩;rw[er];simp only[hb',DF,CU,if_false,he',CP,hz];cases db n.Nw r.Nw [r.Pq] r.Pq <;> rfl
 have hb':(decide (0≤r.Pq)&&decide (r.Pq≤(n.Nx.length:Int) - 1))=false:=by rw[C6]; simp; omega
 refine⟨[r.Pq],?_⟩;have er:yF n r=none:=by unfold yF; rw[if_neg λh=>hs h.1]
 simp [hb',er]
theorem rb (hfu:2097153≤fu) (n:Nq) (r:Nv) (hB:NetB n) (hr:r.Nw.length≤2097152):dO fu n r=some (eq n&&(yF n r).isSome):=by
 unfold dO;rw[iH hfu n hB,CP];obtain⟨o',h⟩:=walk_eq hfu n r hB.2 hB.1.1 hr;rw[h];cases eq n
 rfl;cases yF n r <;> rfl
theorem iJ (h:yF n r=some o):o.length=r.Nw.length + 1:=by
 unfold yF at h;split at h
 have:=mF h;simp only[Dz,En]at this;omega;cases h
theorem qF (h:yF n r=some o):∀i∈r.Nw,0≤i∧i<(n.Nw.length:Int):=by
 unfold yF at h;split at h
 exact oe h;cases h
theorem gZ:∀(m:Nat) (l:List Int),l.Nodup→(∀x∈l,0≤x∧x<(m:Int))→l.length≤m
  | 0,l,_,h=>by
    cases l with
    | nil=>simp
    | cons x l=>have:=h x (by simp); omega
  | m + 1,l,hn,h=>by
    have h1:=gZ m (l.erase (m:Int)) (hn.erase _) λx hx=>by
      have hx1:=List.mem_of_mem_erase hx
      have:=h x hx1
      refine⟨this.1,?_⟩
      have hne:x≠(m:Int):=λe=>by
        subst e
        exact (hn.not_mem_erase) hx
      omega
    rw[List.length_erase]at h1
    split at h1 <;> omega
theorem nN {f:Nt} {v:Int} (h:0≤oth f v):(v=f.A∧oth f v=f.B)∨(v=f.B∧oth f v=f.A):=by
 unfold oth at h ⊢;split at h
 rename_i h1; rw[if_pos h1]; exact .inl ⟨h1,rfl⟩;rename_i h1;rw[if_neg h1];split at h
 rename_i h2; rw[if_pos h2]; exact .inr ⟨h2,rfl⟩;omega
theorem mG {F:List Nt} (P:Int→Prop) (hF:∀f∈F,P f.A∧P f.B):∀{fs out:List Int} {v:Int} {o:List Int} (U:List Int),db F fs out v=some o→out.Nodup→(∀x∈out,P x)→v∈out→(∀i∈U,(gd F i.toNat f0).A∈out∧(gd F i.toNat f0).B∈out) →
    o.Nodup∧(∀x∈o,P x)∧fs.Nodup∧∀i∈fs,i∉U
  | [],out,v,o,U,h,h1,h2,h3,h4=>by
    simp only[db,Dj]at h
    subst h
    exact⟨h1,h2,.nil,by simp⟩
  | i::r,out,v,o,U,h,h1,h2,h3,h4=>by
    unfold db at h
    split at h
    case isFalse=>cases h
    rename_i hi
    split at h
    case isTrue=>cases h
    rename_i hc
    obtain⟨y,hy⟩:∃y,y=oth (gd F i.toNat f0) v:=⟨_,rfl⟩
    rw[←hy]at h hc
    have hy0:0≤y:=by
      rcases Classical.em (y<0) with h' | h'
      · exact absurd (.inl h') hc
      · omega
    have hny:y∉out:=λhm=>hc (.inr (C5.2 ⟨y,hm,by simp⟩))
    have hfm:gd F i.toNat f0∈F:=eN f0 (by omega)
    have hm:=nN (f:=gd F i.toNat f0) (v:=v) (by omega)
    rw[←hy]at hm
    have hPy:P y:=by
      rcases hm with ⟨_,e⟩ | ⟨_,e⟩ <;> rw[e]
      · exact (hF _ hfm).2
      · exact (hF _ hfm).1
    have hiU:i∉U:=λhu=>by
      have:=h4 i hu
      rcases hm with ⟨_,e⟩ | ⟨_,e⟩ <;> rw[e]at hny
      · exact hny this.2
      · exact hny this.1
    obtain⟨g1,g2,g3,g4⟩:=mG P hF (i::U) h
      (C1.2 ⟨h1,by simp,λa ha b hb=>by rw[C2]at hb; subst hb; exact λe=>hny (e▸ha)⟩)
      (λx hx=>by
        rcases CQ.1 hx with hx | hx
        · exact h2 x hx
        · rw[C2]at hx; subst hx; exact hPy)
      (by simp)
      (λj hj=>by
        rcases De.1 hj with rfl | hj
        · rcases hm with ⟨e1,e2⟩ | ⟨e1,e2⟩
          · exact⟨CQ.2 (.inl (e1▸h3)),CQ.2 (.inr (by rw[e2]; simp))⟩
          · exact⟨CQ.2 (.inr (by rw[e2]; simp)),CQ.2 (.inl (e1▸h3))⟩
        · exact⟨CQ.2 (.inl (h4 j hj).1),CQ.2 (.inl (h4 j hj).2)⟩)
    refine⟨g1,g2,D6.2 ⟨λhm=>g4 i hm (by simp),g3⟩,λj hj=>?_⟩
    rcases De.1 hj with rfl | hj
    · exact hiU
    · exact λhu=>g4 j hj (Df _ hu)
theorem fK (hn:NetF n) (h:yF n r=some o):o.Nodup∧(∀x∈o,0≤x∧x<(n.Nx.length:Int))∧r.Nw.Nodup∧r.Nw.length≤7∧r.Nw≠[]∧0≤r.Pq∧r.Pq<(n.Nx.length:Int):=by
  have hl:=iJ h;unfold yF at h;split at h
  case isFalse=>cases h
  rename_i hs;obtain⟨g1,g2,g3,_⟩:=mG (λx=>0≤x∧x<(n.Nx.length:Int)) (λf hf=>by have:=hn.each f hf; omega) [] h (by simp) (by simpa using hs.1) (by simp) (by simp);have:=gZ _ _ g1 g2;have:=hn.hi;exact⟨g1,g2,g3,by omega,hs.2,hs.1⟩
end AT
namespace AT
theorem qk {fu:Nat} (hfu:2097153≤fu) (l:List Int) (h:l.length≤2097152):∃l',x4 fu l=some l'∧l'.Perm l∧l'.Pairwise λa b=>a≤b:=by
  unfold x4 rZ;rw[if_pos (by omega)];refine⟨_,rfl,List.mergeSort_perm _ _,?_⟩;have:=Gq (le:=λx y:Int=>decide (x≤y)) (λa b c h1 h2=>by simp only[decide_eq_true_eq]at *; omega) (λa b=>by simp only[Eu,decide_eq_true_eq]; omega) l;exact this.imp λh=>by simpa using h
theorem oN:∀(l:List Int) (p:Int),(p::l).Nodup→dB p l=l
  | [],_,_=>rfl
  | b::l,p,h=>by
    rw[D6]at h
    unfold dB
    rw[if_neg (λe=>h.1 (by rw[e]; exact Ds)),oN l b h.2]
theorem s5 (l:List Int) (h:l.Nodup):i8 l=l:=by
 cases l with
 | nil=>rfl
 | cons a l=>show a::dB a l=a::l; rw[oN l a h]
theorem pM {fu:Nat} (l:List Int) (hn:l.Nodup) (hl:l.length≤2097152) (hfu:2097153≤fu):xv fu l=some l:=by
 unfold xv;rw[s5 l hn]
def meets (a b:List Int):Bool:=a.any λx=>b.any λy=>y==x
variable {fu:Nat}
theorem nV (a b:List Int) (ha:a.length≤2097152) (hb:b.length≤2097152) (hfu:2097153≤fu):∀(fk i:Nat) (out:List Int),a.length - i<fk→i≤a.length→out.length≤i→∃z,yS fu a b fk out i=some (out++(a.drop i).filter (λx=>b.any λy=>y==x),z):=by
 intro fk;induction fk with
 | zero=>intro i _ h; omega
 | succ fk ih =>
   intro i out hk hi ho
   rw[yS]
   by_cases h:i<a.length
   · have h':(i:Int)<(a.length:Int):=by omega
     simp only[h',decide_true,if_true,vD h,CP,ed b a[i] (show b.length<fu by omega) hb]
     rw[←C7 h,D4]
     by_cases hc:(b.any λy=>y==a[i])=true
     · rw[if_pos hc,if_pos hc,yc (by simp; omega),CP,vV h (by omega)]
       obtain⟨z,hz⟩:=ih (i + 1) (out++[a[i]]) (by omega) h (by simp; omega)
       exact⟨z,by rw[hz,CX]; rfl⟩
     · rw[if_neg hc,if_neg hc,vV h (by omega)]
       exact ih (i + 1) out (by omega) h (by omega)
   · obtain rfl:i=a.length:=by omega
     have h':¬((a.length:Nat):Int)<(a.length:Int):=by omega
     simp only[h',decide_false,CU,if_false,Dn,Ff,Db]
     exact⟨_,rfl⟩
theorem pH {a b:List Int}:(0<(a.filter λx=>b.any λy=>y==x).length)↔meets a b=true:=by
 unfold meets;rw[List.length_pos_iff_exists_mem,C5];constructor;rintro⟨x,hx⟩;rw[Ej]at hx;exact⟨x,hx⟩;rintro⟨x,hx⟩;exact⟨x,Ej.2 hx⟩
theorem pP (a b:List Int) (ha:a.length≤2097152) (hn:a.Nodup) (hb:b.length≤2097152) (hfu:2097153≤fu):∃c,zD fu a b=some c∧decide ((c.length:Int) > 0)=meets a b:=by
 unfold zD;obtain⟨z,hz⟩:=nV a b (by omega) hb hfu fu 0 [] (by omega) (by omega) (by simp);rw[show ((0:Nat):Int)=0 from rfl]at hz;simp only[hz,CP,Dt,Di];have hlen:(a.filter λx=>b.any λy=>y==x).length≤2097152:=DU (Ez _ _) ha;obtain⟨l',h1,h2,-⟩:=qk hfu (a.filter λx=>b.any λy=>y==x) hlen;have hnd:l'.Nodup:=h2.nodup_iff.2 (hn.filter _);have hl':=h2.length_eq;rw[h1,CP,pM l' hnd (by omega) hfu];refine⟨l',rfl,?_⟩;rw[DD,decide_eq_true_eq,←pH];omega
theorem fV (a b:List Int) (ha:a.length≤12) (hn:a.Nodup) (hb:b.length≤2097152) (hfu:2097153≤fu):∃c,zD fu a b=some c∧decide ((c.length:Int) > 0)=meets a b:=pP a b (by omega) hn hb hfu
end AT
namespace AT
theorem jA {fu:Nat} (hfu:2097153≤fu) (r:Nv) (g:List Int) (hr:r.Nw.length≤2097152) (hg:g.length≤2097152):yW fu r g=some (meets r.Nw g):=by
 unfold yW;rw[xr (l:=r.Nw) (G:=yN fu r g) (λx=>g.any λy=>y==x) (λi=>true) (by omega)
   (λfk i hi=>by
     have h':(i:Int)<(r.Nw.length:Int):=by omega
     rw[yN]
     simp only[h',decide_true,if_true,vD hi,CP,eX g r.Nw[i] (show g.length<fu by omega) hg])
   (λfk=>by rw[yN,if_neg (by simp)]) fu (by omega)]
 unfold meets;cases r.Nw.any λx=>g.any λy=>y==x <;> rfl
def yA (b:Nd):Bool:=decide (0≤b.Pj)&&(decide (1≤b.Px)&&decide (b.Pj + b.Px≤24))
theorem q9 (fu:Nat) (b:Nd):dM fu b=some (yA b):=by
 unfold dM yA;simp only[eW,CP];by_cases h:0≤b.Pj∧b.Pj≤23;have hc:(decide (0≤b.Pj)&&decide (b.Pj≤23))=true:=by simpa using h
 rw[vq (by omega) (by omega)];simp only[hc,if_true,CP,Dj];rw[DD];simp only[CW,decide_eq_true_eq];omega;have hc:(decide (0≤b.Pj)&&decide (b.Pj≤23))=false:=by rw[C6]; simp only[ne_eq,CW,decide_eq_true_eq]; exact h
 simp only[hc,CU,if_false,CP,Dj];rw[DD];simp only[CW,decide_eq_true_eq,CU,false_iff];omega
theorem pD (fu:Nat) (b:Nd):zX fu b=some (yA b):=by
 unfold zX yA;simp only[bA,CP];by_cases h0:0≤b.Pj;by_cases h:1≤b.Px∧b.Px≤24;have hc:(decide (1≤b.Px)&&decide (b.Px≤24))=true:=by simpa using h
 rw[vq (by omega) (by omega)];simp only[ge_iff_le,h0,hc,decide_true,if_true,CP,Dj,Eo];rw[DD];simp only[CW,decide_eq_true_eq];omega;have hc:(decide (1≤b.Px)&&decide (b.Px≤24))=false:=by rw[C6]; simp only[ne_eq,CW,decide_eq_true_eq]; exact h
 simp only[ge_iff_le,h0,hc,decide_true,if_true,CU,if_false,CP,Dj];rw[DD];simp only[CW,decide_eq_true_eq,CU,false_iff];omega;simp [h0]
def bits (b:Nd):Int:=(2 ^ b.Px.toNat - 1) * 2 ^ b.Pj.toNat
theorem js {k:Nat} (h:k≤24):(1:Int)≤2 ^ k∧(2:Int) ^ k≤16777216:=by
 have h1:(2:Nat) ^ k≤2 ^ 24:=Fp (by omega) h;have h2:1≤(2:Nat) ^ k:=Nat.one_le_two_pow;have h3:((2 ^ k:Nat):Int)=2 ^ k:=by norm_cast
 omega
variable {b:Nd}
theorem lq (h:yA b=true):0≤bits b∧bits b<16777216:=by
  simp only[yA,CW,decide_eq_true_eq]at h;have e:(2:Int) ^ b.Px.toNat * 2 ^ b.Pj.toNat=2 ^ (b.Px.toNat + b.Pj.toNat):=(Int.pow_add _ _ _).symm;have h1:=js (show b.Px.toNat≤24 by omega);have h2:=js (show b.Pj.toNat≤24 by omega);have h3:=js (show b.Px.toNat + b.Pj.toNat≤24 by omega);unfold bits;rw[Int.sub_mul,e,Int.one_mul];refine⟨?_,by omega⟩;have h4:(2:Int) ^ b.Pj.toNat≤2 ^ (b.Px.toNat + b.Pj.toNat):=by
    have:(2:Nat) ^ b.Pj.toNat≤2 ^ (b.Px.toNat + b.Pj.toNat):=Fp (by omega) (by omega)
    have e1:((2 ^ b.Pj.toNat:Nat):Int)=2 ^ b.Pj.toNat:=by norm_cast
    have e2:((2 ^ (b.Px.toNat + b.Pj.toNat):Nat):Int)=2 ^ (b.Px.toNat + b.Pj.toNat):=by norm_cast
    omega
  omega
theorem lJ (h:yA b=true):((shl 1 b.Px).bind λq=>(shl (w64 (q - 1)) b.Pj).bind λq2=>some q2)=some (bits b):=by
 have hb:=lq h;simp only[yA,CW,decide_eq_true_eq]at h;have h1:=js (show b.Px.toNat≤24 by omega);have m1:min b.Px.toNat 64=b.Px.toNat:=by omega
 have m2:min b.Pj.toNat 64=b.Pj.toNat:=by omega
 unfold shl;rw[if_neg (show ¬b.Px<0 by omega),CP,if_neg (show ¬b.Pj<0 by omega),m1,m2,Int.one_mul,vq (n:=2 ^ b.Px.toNat) (by omega) (by omega),vq (n:=2 ^ b.Px.toNat - 1) (by omega) (by omega)];have:(2 ^ b.Px.toNat - 1) * 2 ^ b.Pj.toNat=bits b:=rfl;rw[this,vq (by omega) (by omega)];rfl
theorem jT {fu:Nat} (h:yA b=true):aX fu b=some (bits b):=lJ h
theorem qb {n:Int} (h:0≤n) (h':n<18446744073709551616):wu64 n=n:=by unfold wu64; omega
theorem fM {fu:Nat} (h:yA b=true):yV fu b=some (bits b):=by
 unfold yV;have h':=h;simp only[yA,CW,decide_eq_true_eq]at h';rw[qb (by omega) (by omega),qb (by omega) (by omega)];exact lJ h
def zT (n:Nq) (x:Nh):Bool:=(decide (1≤x.Id)&&decide (x.Id≤999))&&((yF n x.Nv).isSome&&yA x.Nd)
theorem pC {fu:Nat} (hfu:2097153≤fu) (n:Nq) (x:Nh) (hB:NetB n) (hr:x.Nv.Nw.length≤2097152):dj fu n x=some (zT n x):=by
 unfold dj zT;rw[kK hfu n x.Nv hB.2 hB.1.1 hr];simp only[bA,pD,CP];cases yF n x.Nv with
 | none=>simp
 | some o=>cases hc:(decide (1≤x.Id)&&decide (x.Id≤999)) <;> simp [hc]
theorem pq {fu:Nat} (hfu:2097153≤fu) (n:Nq) (x:Nh) (hB:NetB n) (hn:eq n=true) (hr:x.Nv.Nw.length≤2097152):cW fu n x=some (zT n x):=by
 unfold cW zT;simp only[eW,q9,rb hfu n x.Nv hB hr,hn,Eo,CP];cases hc:(decide (1≤x.Id)&&decide (x.Id≤999))
 simp;cases (yF n x.Nv).isSome <;> simp
def coll (a b:Nh):Bool:=meets a.Nv.Nw b.Nv.Nw&&(band (bits a.Nd) (bits b.Nd) != 0)
structure LightF (n:Nq) (x:Nh):Prop where
  nodup:x.Nv.Nw.Nodup
  short:x.Nv.Nw.length≤7
  blk:yA x.Nd=true
  route:∃o,yF n x.Nv=some o
  id:1≤x.Id∧x.Id≤999
theorem jg {n:Nq} {x:Nh} (hn:eq n=true) (h:zT n x=true):LightF n x:=by
 unfold zT at h;simp only[CW,decide_eq_true_eq]at h;obtain⟨h1,h2,h3⟩:=h;obtain⟨o,ho⟩:=EC.1 h2;have hf:=fK (netF hn) ho;exact⟨hf.2.2.1,hf.2.2.2.1,h3,⟨o,ho⟩,h1⟩
theorem mY {fu:Nat} (hfu:2097153≤fu) {n:Nq} {a b:Nh} (ha:LightF n a) (hb:LightF n b):bB fu a b=some (coll a b):=by
 unfold bB coll;have h1:=ha.short;have h2:=hb.short;rw[jA hfu a.Nv b.Nv.Nw (by omega) (by omega)];simp only[fM ha.blk,fM hb.blk,CP];cases meets a.Nv.Nw b.Nv.Nw <;> simp
theorem AV (q m:Bool):((if q=true then some m else some false).bind λc=>some c)=some (m&&q):=by cases q <;> cases m <;> rfl
theorem lj {fu:Nat} (hfu:2097153≤fu) {n:Nq} {a b:Nh} (ha:LightF n a) (hb:LightF n b):cd fu a b=some (coll a b):=by
 unfold cd coll;have h1:=ha.short;have h2:=hb.short;obtain⟨c,hc,hd⟩:=fV (fu:=fu) a.Nv.Nw b.Nv.Nw (by omega) ha.nodup (by omega) hfu;rw[jT ha.blk,CP,jT hb.blk,CP,hc,CP,hd];exact AV _ _
theorem qo {α R:Type} {l:List α} {G:Nat→Int→Option (Out Int R)} (p:Nat→Bool) (r:Nat→R) (hn:(l.length:Int)≤9223372036854775807)
    (hG:∀fk (i:Nat) (h:i<l.length),(∀j,j<i→p j=false)→G (fk + 1) i=if p i=true then some (.ret (r i)) else G fk (w64 ((i:Int) + 1)))
    (hz:∀fk,G (fk + 1) l.length=some (.next (l.length:Int))):∀(fk i:Nat),l.length - i<fk→i≤l.length→(∀j,j<i→p j=false) →
    (∃k,k<l.length∧i≤k∧p k=true∧(∀j,j<k→p j=false)∧G fk i=some (.ret (r k)))∨((∀j,j<l.length→p j=false)∧G fk i=some (.next (l.length:Int))):=by
 intro fk;induction fk with
 | zero=>intro i h; omega
 | succ fk ih =>
   intro i hk hi hp
   by_cases h:i<l.length
   · rw[hG fk i h hp]
     by_cases hc:p i=true
     · rw[if_pos hc]
       exact .inl ⟨i,h,Da _,hc,hp,rfl⟩
     · rw[if_neg hc,vV h hn]
       rw[EV]at hc
       have hp':∀j,j<i + 1→p j=false:=λj hj=>by
         rcases Ep j i with h' | h'
         · exact hp j h'
         · obtain rfl:j=i:=by omega
           exact hc
       rcases ih (i + 1) (by omega) h hp' with ⟨k,k1,k2,k3,k4,k5⟩ | ⟨h1,h2⟩
       · exact .inl ⟨k,k1,by omega,k3,k4,k5⟩
       · exact .inr ⟨h1,h2⟩
   · obtain rfl:i=l.length:=by omega
     rw[hz]
     exact .inr ⟨hp,rfl⟩
theorem lK {α R:Type} {l:List α} {G:Nat→Int→Option (Out Int R)} (p:Nat→Bool) (r:R) (hn:(l.length:Int)≤9223372036854775807)
    (hG:∀fk (i:Nat) (h:i<l.length),(∀j,j<i→p j=false)→G (fk + 1) i=if p i=true then some (.ret r) else G fk (w64 ((i:Int) + 1)))
    (hz:∀fk,G (fk + 1) l.length=some (.next (l.length:Int))) (fk:Nat) (hk:l.length<fk):G fk 0=some (if (List.range l.length).any p=true then .ret r else .next (l.length:Int)):=by
 rcases qo p (λ_=>r) hn hG hz fk 0 (by omega) (by omega) (λj h=>by omega) with ⟨k,k1,-,k3,-,k5⟩ | ⟨h1,h2⟩
 rw[if_pos (C5.2 ⟨k,DC.2 k1,k3⟩)];exact k5;rw[if_neg];exact h2;intro h;obtain⟨k,k1,k2⟩:=C5.1 h;rw[h1 k (DC.1 k1)]at k2;cases k2
def l0:Nh:=⟨0,⟨0,[]⟩,⟨0,0⟩⟩
def ah (n:Nq) (L:List Nh) (i:Nat):Bool:=!zT n (gd L i l0)||((decide (0<i)&&decide ((gd L (i - 1) l0).Id≥(gd L i l0).Id))||(L.take i).any λy=>coll y (gd L i l0))
def yb (p:Nz):Bool:=eq p.Nq&&(decide (p.Nk.length≤12)&&!((List.range p.Nk.length).any (ah p.Nq p.Nk)))
def gu (p:Nz):Prop:=NetB p.Nq∧p.Nk.length≤2097152∧∀x∈p.Nk,x.Nv.Nw.length≤2097152
theorem qH {n:Nq} {L:List Nh} {i:Nat} (h:i<L.length) (hp:∀j,j<i→ah n L j=false):∀y∈L.take i,zT n y=true:=by
 intro y hy;obtain⟨j,hj,rfl⟩:=Dp.1 hy;rw[C0]at hj;rw[DW];have:=hp j (by omega);unfold ah at this;rw[D3,bM l0 (show j<L.length by omega)]at this;simpa using this.1
variable {fu:Nat}
theorem nr (hfu:2097153≤fu) {n:Nq} (l:List Nh) (x:Nh) (hl:l.length≤2097152) (hL:∀y∈l,LightF n y) (hx:LightF n x):uA fu l x=some (l.any λy=>coll y x):=by
 unfold uA uP;rw[xr (l:=l) (G:=uq fu l x) (λy=>coll y x) (λi=>(i:Int)) (by omega)
   (λfk i hi=>by
     have h':(i:Int)<(l.length:Int):=by omega
     rw[uq]
     simp only[h',decide_true,if_true,vD hi,CP,am,lj hfu (hL _ (Dh hi)) hx])
   (λfk=>by rw[uq,if_neg (by simp)]) fu (by omega)]
 cases l.any λy=>coll y x <;> simp [Out.on]
theorem j5 (hfu:2097153≤fu) (p:Nz) (hB:gu p):zh fu p=some (yb p):=by
 obtain⟨hN,hL,hR⟩:=hB;unfold zh yb;rw[kZ hfu _ hN,CP];cases hn:eq p.Nq
 rfl;simp only[DF,CU,if_false,CP,Eo];by_cases h12:p.Nk.length≤12;have h12':¬(p.Nk.length:Int) > 12:=by omega
 simp only[h12',decide_false,CU,if_false,h12,decide_true,Eo];rw[lK (l:=p.Nk) (G:=xf fu p) (ah p.Nq p.Nk) false (by omega)
   (λfk i hi hp=>by
     have h':(i:Int)<(p.Nk.length:Int):=by omega
     have hr:=hR _ (eN l0 hi)
     rw[xf]
     simp only[h',decide_true,if_true,zH l0 hi,CP,pC hfu _ _ hN hr,d5 (show i≤p.Nk.length by omega)]
     by_cases hl:zT p.Nq (gd p.Nk i l0)=true
     · have hf:=jg hn hl
       have hc:=nr hfu (p.Nk.take i) (gd p.Nk i l0) (by simp; omega) (λy hy=>jg hn (qH hi hp y hy)) hf
       simp only[ah,hl,DF,CU,if_false,hc,CP,Et]
       by_cases h0:0<i
       · have h0':(i:Int) > 0:=by omega
         simp only[h0',h0,decide_true,if_true,dJ h0 (show i≤2097152 by omega),zH l0 (show i - 1<p.Nk.length by omega),CP,Eo]
         by_cases hid:(gd p.Nk (i - 1) l0).Id≥(gd p.Nk i l0).Id
         · simp [hid]
         · simp only[hid,decide_false,CU,if_false,Et,CP]
       · have h0':¬(i:Int) > 0:=by omega
         simp only[h0',h0,decide_false,CU,if_false,Bool.false_and,Et,CP]
     · rw[EV]at hl
       simp [ah,hl])
   (λfk=>by rw[xf,if_neg (by simp)]) fu (by omega)]
 cases (List.range p.Nk.length).any (ah p.Nq p.Nk) <;> rfl;have h12':(p.Nk.length:Int) > 12:=by omega
 simp [h12',h12]
theorem gC (hfu:2097153≤fu) (p:Nz) (hB:gu p):bP fu p=some (yb p):=by
  obtain⟨hN,hL,hR⟩:=hB;unfold bP yb;rw[iH hfu _ hN,CP];cases hn:eq p.Nq
  · rfl
  · simp only[DF,CU,if_false,CP,Eo]
    by_cases h12:p.Nk.length≤12
    · have h12':¬(p.Nk.length:Int) > 12:=by omega
      simp only[h12',decide_false,CU,if_false,h12,decide_true,Eo]
      rw[lK (l:=p.Nk) (G:=yK fu p) (ah p.Nq p.Nk) false (by omega)
        (λfk i hi hp=>by
          have h':(i:Int)<(p.Nk.length:Int):=by omega
          have hr:=hR _ (eN l0 hi)
          rw[yK]
          simp only[h',decide_true,if_true,zH l0 hi,CP,pq hfu _ _ hN hn hr]
          by_cases hl:zT p.Nq (gd p.Nk i l0)=true
          · have hf:=jg hn hl
            have hc:yd fu p i fu 0=some (if (List.range (p.Nk.take i).length).any (λk=>coll (gd p.Nk k l0) (gd p.Nk i l0))=true then .ret false else .next ((p.Nk.take i).length:Int)) :=
              lK (l:=p.Nk.take i) (G:=yd fu p i) (λk=>coll (gd p.Nk k l0) (gd p.Nk i l0)) false (by simp; omega)
                (λfk k hk _=>by
                  have hk':k<i:=by simp at hk; omega
                  have hk2:(k:Int)<(i:Int):=by omega
                  have hfk:=jg hn (qH hi hp (gd p.Nk k l0) (by
                    rw[bM l0 (show k<p.Nk.length by omega)]
                    refine Dp.2 ⟨k,hk,by rw[DW]⟩))
                  rw[yd]
                  simp only[hk2,decide_true,if_true,zH l0 hi,zH l0 (show k<p.Nk.length by omega),CP,mY hfu hfk hf])
                (λfk=>by
                  have:(p.Nk.take i).length=i:=by simp; omega
                  rw[this,yd,if_neg (by simp)]) fu (by simp; omega)
            have ha:(List.range (p.Nk.take i).length).any (λk=>coll (gd p.Nk k l0) (gd p.Nk i l0))=(p.Nk.take i).any λy=>coll y (gd p.Nk i l0):=by
              rw[DD,C5,C5]
              constructor
              · rintro⟨k,k1,k2⟩
                have k1':=DC.1 k1
                have hk':k<i:=by simp at k1'; omega
                rw[bM l0 (show k<p.Nk.length by omega)]at k2
                exact⟨_,Dp.2 ⟨k,k1',by rw[DW]⟩,k2⟩
              · rintro⟨y,y1,y2⟩
                obtain⟨k,k1,rfl⟩:=Dp.1 y1
                have hk':k<i:=by simp at k1; omega
                refine⟨k,DC.2 k1,?_⟩
                rw[bM l0 (show k<p.Nk.length by omega)]
                rw[DW]at y2
                exact y2
            rw[ha]at hc
            simp only[ah,hl,DF,CU,if_false,hc,CP,Et]
            by_cases h0:0<i
            · have h0':(i:Int) > 0:=by omega
              simp only[h0',h0,decide_true,if_true,dJ h0 (show i≤2097152 by omega),zH l0 (show i - 1<p.Nk.length by omega),CP,Eo]
              by_cases hid:(gd p.Nk (i - 1) l0).Id≥(gd p.Nk i l0).Id
              · simp [hid]
              · simp only[hid,decide_false,CU,if_false,Et,CP]
                cases (p.Nk.take i).any λy=>coll y (gd p.Nk i l0) <;> rfl
            · have h0':¬(i:Int) > 0:=by omega
              simp only[h0',h0,decide_false,CU,if_false,Bool.false_and,Et,CP]
              cases (p.Nk.take i).any λy=>coll y (gd p.Nk i l0) <;> rfl
          · rw[EV]at hl
            simp [ah,hl])
        (λfk=>by rw[yK,if_neg (by simp)]) fu (by omega)]
      cases (List.range p.Nk.length).any (ah p.Nq p.Nk) <;> rfl
    · have h12':(p.Nk.length:Int) > 12:=by omega
      simp [h12',h12]
structure PlanF (p:Nz):Prop where
  net:eq p.Nq=true
  short:p.Nk.length≤12
  light:∀x∈p.Nk,LightF p.Nq x
theorem ep {p:Nz} (h:yb p=true):PlanF p:=by
 unfold yb at h;simp only[CW,decide_eq_true_eq,Dl]at h;obtain⟨h1,h2,h3⟩:=h;refine⟨h1,h2,λx hx=>?_⟩;obtain⟨i,hi,rfl⟩:=Dp.1 hx;rw[C6]at h3;have h6:ah p.Nq p.Nk i=false:=by
   rw[C6]
   intro h7
   exact h3 (C5.2 ⟨i,DC.2 hi,h7⟩)
 unfold ah at h6;rw[D3,bM l0 hi]at h6;exact jg h1 (by simpa using h6.1)
end AT
namespace AT
def MK (m:Int):Prop:=0≤m∧m<16777216
theorem ia {m:Int} (h:MK m):(BitVec.ofInt 64 m).toNat=m.toNat:=by
 rw[BitVec.toNat_ofInt];have:((2 ^ 64:Nat):Int)=18446744073709551616:=by decide
 rw[this];unfold MK at h;omega
variable {a b:Int}
theorem mw (ha:MK a) (hb:MK b):band a b=((a.toNat &&& b.toNat:Nat):Int):=by
 unfold band;rw[BitVec.toNat_and,ia ha,ia hb];have h1:a.toNat &&& b.toNat<2 ^ 24:=Nat.and_lt_two_pow _ (by unfold MK at hb; omega);exact vq (by omega) (by omega)
theorem tN (ha:MK a) (hb:MK b):bor a b=((a.toNat ||| b.toNat:Nat):Int):=by
 unfold bor;rw[BitVec.toNat_or,ia ha,ia hb];have h1:a.toNat ||| b.toNat<2 ^ 24:=Nat.or_lt_two_pow (by unfold MK at ha; omega) (by unfold MK at hb; omega)
 exact vq (by omega) (by omega)
theorem rK (ha:MK a) (hb:MK b):MK (bor a b):=by
 rw[tN ha hb];have h1:a.toNat ||| b.toNat<2 ^ 24:=Nat.or_lt_two_pow (by unfold MK at ha; omega) (by unfold MK at hb; omega)
 unfold MK;omega
theorem mk0:MK 0:=by unfold MK; omega
def apart (a b:Int):Bool:=band a b==0
theorem nA {c:Int} (ha:MK a) (hb:MK b) (hc:MK c):apart (bor a b) c=(apart a c&&apart b c):=by
 unfold apart;rw[mw (rK ha hb) hc,mw ha hc,mw hb hc,tN ha hb,Ek,Nat.and_or_distrib_right];rw[DD];simp only[beq_iff_eq,CW,Int.natCast_eq_zero,Nat.or_eq_zero_iff]
theorem lu {c:Int} (hc:MK c):apart 0 c=true:=by
 unfold apart;rw[mw mk0 hc];simp
theorem mu {b:Nd} (h:yA b=true):MK (bits b):=lq h
theorem pj (a b:List Int):meets a b=meets b a:=by
 rw[DD];unfold meets;simp only[C5,beq_iff_eq];constructor;rintro⟨x,hx,y,hy,rfl⟩; exact⟨y,hy,y,hx,rfl⟩;rintro⟨x,hx,y,hy,rfl⟩; exact⟨y,hy,y,hx,rfl⟩
def has (l:List Int) (f:Int):Bool:=l.any λx=>x==f
def used (L:List Nh) (f:Int):Int:=L.foldl (λo y=>if has y.Nv.Nw f=true then bor o (bits y.Nd) else o) 0
def along (L:List Nh) (fs:List Int):Int:=fs.foldl (λo f=>bor o (used L f)) 0
variable {L:List Nh}
theorem mD (hL:∀y∈L,yA y.Nd=true) (f:Int) {c:Int} (hc:MK c):∀{o:Int},MK o→MK (L.foldl (λo y=>if has y.Nv.Nw f=true then bor o (bits y.Nd) else o) o)∧apart (L.foldl (λo y=>if has y.Nv.Nw f=true then bor o (bits y.Nd) else o) o) c=(apart o c&&L.all λy=>!has y.Nv.Nw f||apart (bits y.Nd) c):=by
 induction L with
 | nil=>intro o ho; exact⟨ho,by simp⟩
 | cons y L ih =>
   intro o ho
   have hb:=mu (hL y (by simp))
   have ih':=@ih (λz hz=>hL z (by simp [hz]))
   simp only[Ev,GF]
   by_cases h:has y.Nv.Nw f=true
   · simp only[h,if_true,DF,Et]
     have:=ih' (rK ho hb)
     rw[nA ho hb hc]at this
     exact⟨this.1,by rw[this.2,Gx]⟩
   · rw[EV]at h
     simp only[h,CU,if_false,Gb,FH,Eo]
     exact ih' ho
theorem tQ (hL:∀y∈L,yA y.Nd=true) (f:Int):MK (used L f):=(mD hL f mk0 mk0).1
theorem oU (hL:∀y∈L,yA y.Nd=true) (f:Int) {c:Int} (hc:MK c):apart (used L f) c=L.all λy=>!has y.Nv.Nw f||apart (bits y.Nd) c:=by
 have:=(mD hL f hc mk0).2;rw[lu hc,Eo]at this;exact this
theorem jc {L:List Nh} (hL:∀y∈L,yA y.Nd=true) {c:Int} (hc:MK c):∀(fs:List Int) {o:Int},MK o→MK (fs.foldl (λo f=>bor o (used L f)) o)∧apart (fs.foldl (λo f=>bor o (used L f)) o) c=(apart o c&&fs.all λf=>apart (used L f) c)
  | [],o,ho=>⟨ho,by simp⟩
  | f::fs,o,ho=>by
    have hu:=tQ hL f
    have:=jc hL hc fs (rK ho hu)
    rw[nA ho hu hc]at this
    simp only[Ev,GF]
    exact⟨this.1,by rw[this.2,Gx]⟩
theorem tn (hL:∀y∈L,yA y.Nd=true) (fs:List Int):MK (along L fs):=(jc hL mk0 fs mk0).1
theorem gQ (hL:∀y∈L,yA y.Nd=true) (fs:List Int) {c:Int} (hc:MK c):apart (along L fs) c=L.all λy=>!(meets y.Nv.Nw fs&&!apart (bits y.Nd) c):=by
 have h:=(jc hL hc fs mk0).2;rw[lu hc,Eo]at h;unfold along;rw[h,DD];simp only[Dx,oU hL _ hc,Eu,Dl,FQ,FB];constructor;intro hh y hy;rcases Gk (meets y.Nv.Nw fs) with hm | hm
 right;unfold meets at hm;simp only[C5,beq_iff_eq]at hm;obtain⟨x,hx,z,hz,rfl⟩:=hm;rcases hh z hz y hy with h1 | h1
 unfold has at h1;rw[C6]at h1;exact absurd (C5.2 ⟨z,hx,by simp⟩) h1;exact h1;exact .inl hm;intro hh f hf y hy;rcases hh y hy with h1 | h1
 left;rw[C6]at h1 ⊢;intro h2;unfold has at h2;simp only[C5,beq_iff_eq]at h2;obtain⟨x,hx,rfl⟩:=h2;exact h1 (C5.2 ⟨x,hx,C5.2 ⟨x,hf,by simp⟩⟩);exact .inr h1
end AT
namespace AT
theorem qg {fu:Nat} (hfu:2097153≤fu) (p:Nz) (f:Int) (hl:p.Nk.length≤2097152) (hb:∀y∈p.Nk,yA y.Nd=true) (hr:∀x∈p.Nk,x.Nv.Nw.length≤2097152):∀(fk i:Nat) (o:Int),i≤p.Nk.length→p.Nk.length - i<fk →
    ∃z,yJ fu p f fk o i=some ((p.Nk.drop i).foldl (λo y=>if has y.Nv.Nw f=true then bor o (bits y.Nd) else o) o,z):=by
 intro fk;induction fk with
 | zero=>intro i _ _ h; omega
 | succ fk ih =>
   intro i o hi hk
   rw[yJ]
   by_cases h:i<p.Nk.length
   · have h':(i:Int)<(p.Nk.length:Int):=by omega
     have hm:=Dh h
     have hr':=hr _ hm
     simp only[h',decide_true,if_true,vD h,CP,eX _ f (show p.Nk[i].Nv.Nw.length<fu by omega) hr',fM (hb _ hm)]
     rw[←C7 h,Ev,vV h (by omega)]
     have e:(p.Nk[i].Nv.Nw.any λx=>x==f)=has p.Nk[i].Nv.Nw f:=rfl
     rw[e]
     by_cases hc:has p.Nk[i].Nv.Nw f=true
     · rw[if_pos hc,if_pos hc]
       exact ih (i + 1) _ h (by omega)
     · rw[if_neg hc,if_neg hc]
       exact ih (i + 1) _ h (by omega)
   · obtain rfl:i=p.Nk.length:=by omega
     rw[if_neg (by simp),Dn]
     exact⟨_,rfl⟩
theorem q8 {fu:Nat} (hfu:2097153≤fu) (p:Nz) (f:Int) (hl:p.Nk.length≤2097152) (hb:∀y∈p.Nk,yA y.Nd=true) (hr:∀x∈p.Nk,x.Nv.Nw.length≤2097152):dK fu p f=some (used p.Nk f):=by
 unfold dK;obtain⟨z,hz⟩:=qg hfu p f hl hb hr fu 0 0 (by omega) (by omega);rw[show ((0:Nat):Int)=0 from rfl,Di]at hz;rw[hz];rfl
end AT
namespace AT
theorem bT {α:Type} {l:List α} (h:l.length≤1099511627776):app ([]:List α) l=some l:=by rw[yc (by simpa using h)]; rfl
theorem ij (fu:Nat) (x:Nh) (h:x.Nv.Nw.length≤2097152):aP fu x=some x:=by
 unfold aP cF ax;rw[bT (by omega)];rfl
variable {fu:Nat}
theorem sy (p:Nz) (hl:p.Nk.length≤2097152) (hr:∀x∈p.Nk,x.Nv.Nw.length≤2097152):∀(fk i:Nat) (m:List Nh),i≤p.Nk.length→p.Nk.length - i<fk→m.length≤i→∃z,aa fu p fk i m=some (z,m++p.Nk.drop i):=by
 intro fk;induction fk with
 | zero=>intro i _ _ h; omega
 | succ fk ih =>
   intro i m hi hk hm
   rw[aa]
   by_cases h:i<p.Nk.length
   · have h':(i:Int)<(p.Nk.length:Int):=by omega
     simp only[h',decide_true,if_true,vD h,CP,ij fu _ (hr _ (Dh h))]
     rw[yc (by simp; omega),CP,vV h (by omega)]
     obtain⟨z,hz⟩:=ih (i + 1) (m++[p.Nk[i]]) h (by omega) (by simp; omega)
     refine⟨z,?_⟩
     rw[hz,CX,←C7 h]
     rfl
   · obtain rfl:i=p.Nk.length:=by omega
     rw[if_neg (by simp),Dn,Db]
     exact⟨_,rfl⟩
theorem jt (hfu:2097153≤fu) (p:Nz) (hB:gu p):bV fu p=some p:=by
 obtain⟨hN,hL,hR⟩:=hB;unfold bV f5;have h1:=hN.1.1;have h2:=hN.2;rw[bT (by omega),CP,bT (by omega)];obtain⟨z,hz⟩:=sy (fu:=fu) p hL hR fu 0 [] (by omega) (by omega) (by simp);rw[show ((0:Nat):Int)=0 from rfl]at hz;simp only[CP,hz,Dt,Di]
theorem mW (hfu:2097153≤fu) (p:Nz) (hB:gu p) {i:Nat} (hi:i<p.Nk.length):aw fu p i=some { Nq:=p.Nq,Nk:=p.Nk.eraseIdx i }:=by
 have hl:=hB.2.1;unfold aw;rw[jt hfu p hB,CP,d5 (by omega),CP,vV hi (by omega)];have hs:sub p.Nk ((i + 1:Nat):Int) (p.Nk.length:Int)=some (p.Nk.drop (i + 1)):=by
   unfold sub
   rw[if_pos (by omega)]
   simp
 rw[hs,CP,bT (by simp; omega),CP,yc (by simp; omega),CP,FO]
theorem pY (hfu:2097153≤fu) (p:Nz) (r:Nv) (hl:p.Nk.length≤2097152) (hb:∀y∈p.Nk,yA y.Nd=true) (hr:∀x∈p.Nk,x.Nv.Nw.length≤2097152) (hrl:r.Nw.length≤2097152):∀(fk i:Nat) (o:Int),i≤r.Nw.length→r.Nw.length - i<fk →
    ∃z,yU fu p r fk o i=some ((r.Nw.drop i).foldl (λo f=>bor o (used p.Nk f)) o,z):=by
 intro fk;induction fk with
 | zero=>intro i _ _ h; omega
 | succ fk ih =>
   intro i o hi hk
   rw[yU]
   by_cases h:i<r.Nw.length
   · have h':(i:Int)<(r.Nw.length:Int):=by omega
     simp only[h',decide_true,if_true,vD h,CP,q8 hfu p _ hl hb hr]
     rw[←C7 h,Ev,vV h (by omega)]
     exact ih (i + 1) _ h (by omega)
   · obtain rfl:i=r.Nw.length:=by omega
     rw[if_neg (by simp),Dn]
     exact⟨_,rfl⟩
theorem iQ (hfu:2097153≤fu) (p:Nz) (r:Nv) (hl:p.Nk.length≤2097152) (hb:∀y∈p.Nk,yA y.Nd=true) (hr:∀x∈p.Nk,x.Nv.Nw.length≤2097152) (hrl:r.Nw.length≤2097152):z6 fu p r=some (along p.Nk r.Nw):=by
 unfold z6;obtain⟨z,hz⟩:=pY hfu p r hl hb hr hrl fu 0 0 (by omega) (by omega);rw[show ((0:Nat):Int)=0 from rfl,Di]at hz;rw[hz];rfl
def fits (m C:Int):List Int:=((List.range' 0 (25 - C.toNat)).filter λt:Nat=>apart m (bits ⟨(t:Int),C⟩)).map λt:Nat=>(t:Int)
theorem rz (m C:Int) (N:Nat) (hN:(N:Int) + C=25) (h1:1≤C):∀(fk k s:Nat) (out:List Int),N=s + k→k<fk→out.length≤s →
    ∃z,yM fu m C fk out s=some (out++(((List.range' s k).filter λt:Nat=>apart m (bits ⟨(t:Int),C⟩)).map λt:Nat=>(t:Int)),z):=by
 intro fk;induction fk with
 | zero=>intro k s _ _ h; omega
 | succ fk ih =>
   intro k s out hs hk ho
   have hw0:w64 ((s:Int) + C)=(s:Int) + C:=vq (by omega) (by omega)
   rw[yM,hw0]
   clear hw0
   cases k with
   | zero =>
     have h':¬(s:Int) + C≤24:=by omega
     simp only[h',decide_false,CU,if_false,List.range'_zero,Ff,Ga,Db]
     exact⟨_,rfl⟩
   | succ k =>
     have h':(s:Int) + C≤24:=by omega
     have hb:yA ⟨(s:Int),C⟩=true:=by simp only[yA,CW,decide_eq_true_eq]; omega
     obtain⟨c,hc⟩:∃c,apart m (bits ⟨(s:Int),C⟩)=c:=⟨_,rfl⟩
     obtain⟨b,hb1,hb2⟩:∃b,yV fu ⟨(s:Int),C⟩=some b∧(band m b==0)=c:=⟨_,fM hb,hc⟩
     have hw:w64 ((s:Int) + 1)=((s + 1:Nat):Int):=by rw[vq (by omega) (by omega)]; omega
     rw[List.range'_succ,D4,hc,hb1]
     clear hb1 hc hb
     rw[if_pos (by simpa using h'),CP,hb2,hw]
     clear hw hb2
     cases c
     · rw[if_neg (by decide),if_neg (by decide)]
       exact ih k (s + 1) out (by omega) (by omega) (by omega)
     · have ha:app out [(s:Int)]=some (out++[(s:Int)]):=yc (by simp; omega)
       rw[if_pos rfl,if_pos rfl,ha,CP]
       obtain⟨z,hz⟩:=ih k (s + 1) (out++[(s:Int)]) (by omega) (by omega) (by simp; omega)
       exact⟨z,by rw[hz,EJ,CX,DY]⟩
theorem mZ (hfu:2097153≤fu) (m C:Int) (h1:1≤C) (h2:C≤24):cD fu m C=some (fits m C):=by
 unfold cD fits;obtain⟨N,hN⟩:∃N,N=25 - C.toNat:=⟨_,rfl⟩;rw[←hN];obtain⟨z,hz⟩:=rz (fu:=fu) m C N (by omega) h1 fu N 0 [] (by omega) (by omega) (by simp);rw[show ((0:Nat):Int)=0 from rfl]at hz;rw[hz];rfl
theorem ir {m C:Int} {s:Int} (h1:1≤C) (h2:C≤24):s∈fits m C↔0≤s∧s + C≤24∧apart m (bits ⟨s,C⟩)=true:=by
 unfold fits;simp only[Do,Ej,List.mem_range'_1];constructor;rintro⟨t,⟨⟨-,ht⟩,ha⟩,rfl⟩;exact⟨by omega,by omega,ha⟩;rintro⟨h0,h3,ha⟩;refine⟨s.toNat,⟨⟨by omega,by omega⟩,?_⟩,by omega⟩;rw[Ec h0];exact ha
theorem sP (m C:Int):(fits m C).length≤25:=by
 unfold fits;rw[DT];refine DU (Ez _ _) ?_;rw[List.length_range'];omega
structure PlanI (p:Nz):Prop where
  ids:∀i j,i<j→j<p.Nk.length→(gd p.Nk i l0).Id<(gd p.Nk j l0).Id
theorem su {p:Nz} (h:yb p=true):PlanI p:=by
 unfold yb at h;simp only[CW,decide_eq_true_eq,Dl]at h;obtain⟨h1,h2,h3⟩:=h;rw[C6]at h3;have adj:∀j,0<j→j<p.Nk.length→(gd p.Nk (j - 1) l0).Id<(gd p.Nk j l0).Id:=λj h0 hj=>by
   have h6:ah p.Nq p.Nk j=false:=by
     rw[C6]
     intro h7
     exact h3 (C5.2 ⟨j,DC.2 hj,h7⟩)
   unfold ah at h6
   rw[D3,D3]at h6
   have:=h6.2.1
   simp only[h0,decide_true,Eo,decide_eq_false_iff_not]at this
   omega
 refine⟨λi j=>?_⟩;induction j with
 | zero=>intro h; omega
 | succ j ih =>
   intro hij hj
   have:=adj (j + 1) (by omega) hj
   rw[Nat.add_sub_cancel]at this
   rcases Ep i j with h' | h'
   · have:=ih h' (by omega)
     omega
   · obtain rfl:i=j:=by omega
     exact this
end AT
namespace AT
theorem ve {p:Nz}:yb p=true↔eq p.Nq=true∧p.Nk.length≤12∧(∀x∈p.Nk,zT p.Nq x=true)∧p.Nk.Pairwise (λa b=>a.Id<b.Id∧coll a b=false):=by
 constructor;intro h;have hI:=su h;have h':=h;unfold yb at h;simp only[CW,decide_eq_true_eq,Dl]at h;obtain⟨h1,h2,h3⟩:=h;have hb:∀j,j<p.Nk.length→ah p.Nq p.Nk j=false:=λj hj=>by
   rw[C6]
   intro h7
   rw[C6]at h3
   exact h3 (C5.2 ⟨j,DC.2 hj,h7⟩)
 refine⟨h1,h2,λx hx=>?_,Ed.2 λi j hi hj hij=>⟨?_,?_⟩⟩;obtain⟨i,hi,rfl⟩:=Dp.1 hx;have:=hb i hi;unfold ah at this;rw[D3,bM l0 hi]at this;simpa using this.1;have:=hI.ids i j hij hj;rwa [bM l0 hi,bM l0 hj]at this;have:=hb j hj;unfold ah at this;rw[D3,D3,bM l0 hj]at this;rw[C6];intro hc;have h5:=this.2.2;rw[C6]at h5;exact h5 (C5.2 ⟨p.Nk[i],Dp.2 ⟨i,by rw[C0]; omega,by rw[DW]⟩,hc⟩);rintro⟨h1,h2,h3,h4⟩;rw[Ed]at h4;unfold yb;simp only[CW,decide_eq_true_eq,Dl];refine⟨h1,h2,?_⟩;rw[C6];intro h;obtain⟨j,hj,hb⟩:=C5.1 h;have hj':=DC.1 hj;unfold ah at hb;rw[Eu,Eu,bM l0 hj',h3 _ (Dh hj')]at hb;rcases hb with hb | hb | hb
 cases hb;simp only[CW,decide_eq_true_eq]at hb;rw[bM l0 (show j - 1<p.Nk.length by omega)]at hb;have:=(h4 (j - 1) j (by omega) hj' (by omega)).1;omega;obtain⟨y,hy,hc⟩:=C5.1 hb;obtain⟨i,hi,rfl⟩:=Dp.1 hy;rw[C0]at hi;rw[DW,(h4 i j (by omega) hj' (by omega)).2]at hc;cases hc
end AT
namespace AT
def atId (L:List Nh) (id:Int):Nat:=L.findIdx λy=>y.Id==id
theorem ja {L:List Nh} {id:Int} (h:(L.any λy=>y.Id==id)=true):atId L id<L.length:=by
 unfold atId;rw[List.findIdx_lt_length];obtain⟨x,hx,hc⟩:=C5.1 h;exact⟨x,hx,hc⟩
theorem mX {fu:Nat} (p:Nz) (id:Int) (h:p.Nk.length<fu) (hn:p.Nk.length≤2097152):aO fu p id=some (if p.Nk.any (λy=>y.Id==id) then ((atId p.Nk id:Nat):Int) else -1):=by
 unfold aO;rw[xr (l:=p.Nk) (G:=yL fu p id) (λy=>y.Id==id) (λi=>(i:Int)) (by omega)
   (λfk i hi=>by
     have h':(i:Int)<(p.Nk.length:Int):=by omega
     rw[yL]
     simp only[h',decide_true,if_true,vD hi,CP])
   (λfk=>by rw[yL,if_neg (by simp)]) fu h]
 unfold atId;cases p.Nk.any λy=>y.Id==id <;> rfl
theorem pp {fu:Nat} (p:Nz) (id:Int) (h:p.Nk.length<fu) (hn:p.Nk.length≤2097152):di fu p id=some (if p.Nk.any (λy=>y.Id==id) then ((atId p.Nk id:Nat):Int) else -1):=by
 unfold di uU;rw[xr (l:=p.Nk) (G:=ut fu p.Nk id) (λy=>y.Id==id) (λi=>(i:Int)) (by omega)
   (λfk i hi=>by
     have h':(i:Int)<(p.Nk.length:Int):=by omega
     rw[ut]
     simp only[h',decide_true,if_true,vD hi,CP,ct])
   (λfk=>by rw[ut,if_neg (by simp)]) fu h]
 unfold atId;cases p.Nk.any λy=>y.Id==id <;> rfl
end AT
namespace AT
variable {G:Nat→Int→Option Int}
theorem rA {α:Type} {l:List α} (p:α→Bool) (hn:(l.length:Int)≤9223372036854775807)
    (hG:∀fk (i:Nat) (h:i<l.length),G (fk + 1) i=if p l[i]=true then some (i:Int) else G fk (w64 ((i:Int) + 1)))
    (hz:∀fk,G (fk + 1) l.length=some (l.length:Int)):∀(fk i:Nat),l.length - i<fk→i≤l.length→G fk i=some ((i + (l.drop i).findIdx p:Nat):Int):=by
 intro fk;induction fk with
 | zero=>intro i h; omega
 | succ fk ih =>
   intro i hk hi
   by_cases h:i<l.length
   · rw[hG fk i h,←C7 h,Gg]
     by_cases hp:p l[i]=true
     · simp [hp]
     · simp only[hp,CU,if_false,cond_false]
       rw[vV h hn,ih (i + 1) (by omega) h]
       congr 2
       omega
   · obtain rfl:i=l.length:=by omega
     rw[hz,Dn]; rfl
theorem sQ {α:Type} {l:List α} (p:α→Bool) (hn:(l.length:Int)≤9223372036854775807)
    (hG:∀fk (i:Nat) (h:i<l.length),G (fk + 1) i=if p l[i]=true then some (i:Int) else G fk (w64 ((i:Int) + 1)))
    (hz:∀fk,G (fk + 1) l.length=some (l.length:Int)) (fk:Nat) (hk:l.length<fk):G fk 0=some ((l.findIdx p:Nat):Int):=by
 have:=rA p hn hG hz fk 0 (by omega) (by omega);simpa using this
def fC (L:List Nh) (id:Int):Nat:=L.findIdx λy=>!decide (y.Id<id)
def putL (L:List Nh) (x:Nh):List Nh:=L.take (fC L x.Id)++x::L.drop (fC L x.Id)
theorem jv (L:List Nh) (id:Int):fC L id≤L.length:=List.findIdx_le_length
theorem jq (L:List Nh) (x:Nh):(putL L x).length=L.length + 1:=by
 have:=jv L x.Id;unfold putL;rw[C3,Dz,C0,Du];omega
variable {L:List Nh}
theorem dz {x y:Nh}:y∈putL L x↔y=x∨y∈L:=by
 unfold putL;rw[CQ,De];constructor;rintro (h | h | h)
 exact .inr (FW h);exact .inl h;exact .inr (EK h);rintro (h | h)
 exact .inr (.inl h);rw[←EA (fC L x.Id) L,CQ]at h;rcases h with h | h
 exact .inl h;exact .inr (.inr h)
theorem pG {α:Type} {p:α→Bool} {l:List α} {i:Nat} (hi:i≤l.length) (h:∀j (hj:j<l.length),j<i→p l[j]=false) (h':∀hj:i<l.length,p l[i]=true):l.findIdx p=i:=by
 rcases Ep i l.length with hj | hj
 rw[List.findIdx_eq hj];exact⟨h' hj,λj hji=>h j (by omega) hji⟩;obtain rfl:i=l.length:=by omega
 rw[List.findIdx_eq_length];intro x hx;obtain⟨j,hj',rfl⟩:=Dp.1 hx;exact h j hj' hj'
theorem kg {id:Int} (h:(L.any λy=>y.Id==id)=true):(gd L (atId L id) l0).Id=id:=by
 have hl:=ja h;rw[bM l0 hl];have:=List.findIdx_getElem (w:=hl);rw[beq_iff_eq]at this;exact this
end AT
namespace AT
theorem ji (fu:Nat) (r:Nv) (h:r.Nw.length≤2097152):aC fu r=some r:=by
 unfold aC;rw[bT (by omega)];rfl
theorem rD {fu:Nat} (p:Nz) (hl:p.Nk.length≤2097152) (hr:∀x∈p.Nk,x.Nv.Nw.length≤2097152):∀(fk i:Nat) (m:List Nh),i≤p.Nk.length→p.Nk.length - i<fk→m.length≤i→∃z,yz fu p fk i m=some (z,m++p.Nk.drop i):=by
 intro fk;induction fk with
 | zero=>intro i _ _ h; omega
 | succ fk ih =>
   intro i m hi hk hm
   rw[yz]
   by_cases h:i<p.Nk.length
   · have h':(i:Int)<(p.Nk.length:Int):=by omega
     simp only[h',decide_true,if_true,vD h,CP,ji fu _ (hr _ (Dh h))]
     rw[yc (by simp; omega),CP,vV h (by omega)]
     obtain⟨z,hz⟩:=ih (i + 1) (m++[p.Nk[i]]) h (by omega) (by simp; omega)
     refine⟨z,?_⟩
     rw[hz,CX,←C7 h]
     rfl
   · obtain rfl:i=p.Nk.length:=by omega
     rw[if_neg (by simp),Dn,Db]
     exact⟨_,rfl⟩
theorem gP {fu:Nat} (hfu:2097153≤fu) (p:Nz) (hB:gu p):ak fu p=some p:=by
 obtain⟨hN,hL,hR⟩:=hB;unfold ak bO;have h1:=hN.1.1;have h2:=hN.2;rw[bT (by omega),CP,bT (by omega)];obtain⟨z,hz⟩:=rD (fu:=fu) p hL hR fu 0 [] (by omega) (by omega) (by simp);rw[show ((0:Nat):Int)=0 from rfl]at hz;simp only[CP,hz,Dt,Di]
theorem tL {α:Type} {l:List α} {i j:Nat} {x d:α}:gd (l.set i x) j d=if i=j∧j<l.length then x else gd l j d:=by
 unfold gd;rw[Gh];by_cases h:i=j;subst h;by_cases h':i<l.length;simp [h'];simp [h'];simp [h]
end AT
namespace AT
def addP (p:Nz) (x:Nh):Nz:={ Nq:=p.Nq,Nk:=putL p.Nk x }
theorem kX (L:List Nh) (id:Int) (G:Nat→Int→Option Int) (hl:L.length≤2097152) (hG:∀fk i,G (fk + 1) i=((if decide (i<(L.length:Int))=true then (idx L i).bind λe=>some (decide (e.Id<id)) else some false).bind λc=>if c=true then G fk (w64 (i + 1)) else some i)) (fu:Nat) (hfu:2097153≤fu):G fu 0=some ((fC L id:Nat):Int) :=
  sQ (l:=L) (G:=G) (λy=>!decide (y.Id<id)) (by omega)
    (λfk i hi=>by
      have h':(i:Int)<(L.length:Int):=by omega
      rw[hG]
      simp only[h',decide_true,if_true,vD hi,CP]
      by_cases hc:L[i].Id<id <;> simp [hc])
    (λfk=>by rw[hG]; simp) fu (by omega)
theorem oI {fu:Nat} (hfu:2097153≤fu) (p:Nz) (x:Nh) (hB:gu p) (hx:x.Nv.Nw.length≤2097152):ba fu p x=some (addP p x):=by
 have hl:=hB.2.1;have hi:=jv p.Nk x.Id;unfold ba;rw[jt hfu p hB,CP,kX p.Nk x.Id (z8 fu x p) hl (λfk i=>by rw[z8]) fu hfu,CP,d5 hi,CP];have hs:sub p.Nk ((fC p.Nk x.Id:Nat):Int) (p.Nk.length:Int)=some (p.Nk.drop (fC p.Nk x.Id)):=by
   unfold sub
   rw[if_pos (by omega)]
   simp
 rw[hs,CP,bT (by rw[C0]; omega),CP,ij fu x hx,CP,yc (by rw[C0,C4]; omega),CP,yc (by rw[C3,C0,C4,Du]; omega),CP,CX,DY];rfl
theorem je {fu:Nat} (hfu:2097153≤fu) (p:Nz) (x:Nh) (hB:gu p) (hx:x.Nv.Nw.length≤2097152):aB fu p x=some (addP p x):=by
 have hl:=hB.2.1;have hi:=jv p.Nk x.Id;unfold aB;rw[gP hfu p hB,CP,kX p.Nk x.Id (x7 fu p x) hl (λfk i=>by rw[x7]) fu hfu,CP,ji fu _ hx,CP];have hs:insl p.Nk ((fC p.Nk x.Id:Nat):Int) [({ Id:=x.Id,Nv:=x.Nv,Nd:=x.Nd }:Nh)]=some (putL p.Nk x):=by
   unfold insl
   rw[if_pos (by rw[C4]; omega),Ek]
   rfl
 rw[hs,CP];rfl
theorem jR (n:Nat):decide (((n:Nat):Int)<0)=false:=by simp
end AT
namespace AT
theorem ms (a b:Nh):coll a b=(meets a.Nv.Nw b.Nv.Nw&&!apart (bits a.Nd) (bits b.Nd)):=by
 unfold coll apart;rw[bne]
theorem pV (a b:Int):apart a b=apart b a:=by
 unfold apart band;rw[BitVec.and_comm]
theorem nu (a b:Nh):coll a b=coll b a:=by
 rw[ms,ms,pj,pV (bits a.Nd)]
def xK (H:List Nh) (id:Int):Nh:=gd H (atId H id) l0
def hasL (L:List Nh) (id:Int):Bool:=L.any λy=>y.Id==id
def kI (L:List Nh) (x:Nh):Bool:=!(L.any λown=>own.Id != x.Id&&coll own x)
def tJ (D:List Int) (H L:List Nh) (id:Int):Bool:=hasL L id&&(!decide (gd L (atId L id) l0=xK H id)&&(!meets (xK H id).Nv.Nw D&&kI L (xK H id)))
def rev1 (D:List Int) (H:List Nh) (s:List Nh×List Int) (id:Int):List Nh×List Int:=if tJ D H s.1 id=true then (s.1.set (atId s.1 id) (xK H id),s.2++[id]) else s
def rev (D:List Int) (H:List Nh) (l:List Int) (s:List Nh×List Int):List Nh×List Int:=l.foldl (rev1 D H) s
def idsL (L:List Nh):List Int:=L.map (·.Id)
variable {L H:List Nh}
theorem jw {id:Int}:hasL L id=true↔id∈idsL L:=by
 unfold hasL idsL;rw[C5,Do];constructor;rintro⟨x,hx,h⟩; exact⟨x,hx,by simpa using h⟩;rintro⟨x,hx,h⟩; exact⟨x,hx,by simpa using h⟩
theorem mi {id:Int} (h:hasL H id=true):(xK H id).Id=id:=kg h
theorem fT {id:Int} (h:hasL H id=true):xK H id∈H:=eN l0 (ja h)
theorem sM {i:Nat} {x:Nh} (h:i<L.length) (hx:x.Id=(gd L i l0).Id):idsL (L.set i x)=idsL L:=by
 unfold idsL;rw[List.map_set,hx,bM l0 h];refine EI (by simp) λj h1 h2=>?_;rw[Gm];split
 rename_i e; subst e; simp;rfl
theorem sO {M:List Nh} (h:idsL L=idsL M) (id:Int):hasL L id=hasL M id:=by
 rw[DD,jw,jw,h]
theorem oh:∀{A B:List Int},A.Pairwise (·<·)→B.Pairwise (·<·)→(∀x,x∈A↔x∈B)→A=B
  | [],[],_,_,_=>rfl
  | [],b::B,_,_,h=>by have:=(h b).2 (by simp); simp at this
  | a::A,[],_,_,h=>by have:=(h a).1 (by simp); simp at this
  | a::A,b::B,hA,hB,h=>by
    obtain⟨a1,a2⟩:=ED.1 hA
    obtain⟨b1,b2⟩:=ED.1 hB
    have hab:a=b:=by
      have h1:=(h a).1 (by simp)
      have h2:=(h b).2 (by simp)
      rcases De.1 h1 with h1 | h1
      · exact h1
      · rcases De.1 h2 with h2 | h2
        · exact h2.symm
        · have:=b1 _ h1; have:=a1 _ h2; omega
    subst hab
    rw[oh a2 b2 λx=>?_]
    constructor
    · intro hx
      rcases De.1 ((h x).1 (Df _ hx)) with e | e
      · have:=a1 _ hx; omega
      · exact e
    · intro hx
      rcases De.1 ((h x).2 (Df _ hx)) with e | e
      · have:=b1 _ hx; omega
      · exact e
theorem rq (h:L.Pairwise λa b=>a.Id<b.Id):(idsL L).Pairwise (·<·):=by
 unfold idsL;exact ES.2 h
structure RvI (N:Nq) (D:List Int) (H L0:List Nh) (s:List Nh×List Int):Prop where
  ok:yb ⟨N,s.1⟩=true
  ids:idsL s.1=idsL L0
  old:∀i,i<L0.length→(gd L0 i l0).Id∉s.2→gd s.1 i l0=gd L0 i l0
  new:∀i,i<L0.length→(gd L0 i l0).Id∈s.2→gd s.1 i l0=xK H (gd L0 i l0).Id∧meets (gd s.1 i l0).Nv.Nw D=false
variable {N:Nq} {D:List Int} {L0:List Nh} {s:List Nh×List Int}
theorem rv {i:Nat} (h:i<L.length):(gd L i l0).Id=gd (idsL L) i 0:=by
 unfold idsL;rw[bM l0 h,bM 0 (by simpa using h),Gl]
theorem gf (L:List Nh):(idsL L).length=L.length:=by simp [idsL]
theorem RvI.len (h:RvI N D H L0 s):s.1.length=L0.length:=by
 rw[←gf,h.ids,gf]
theorem RvI.id (h:RvI N D H L0 s) {i:Nat} (hi:i<L0.length):(gd s.1 i l0).Id=(gd L0 i l0).Id:=by
 rw[rv (by rw[h.len]; exact hi),rv hi,h.ids]
theorem wR (hp:yb ⟨N,L⟩=true) {j:Nat} (hj:j<L.length) {y:Nh} (hy:zT N y=true) (hid:y.Id=(gd L j l0).Id) (hf:kI L y=true):yb ⟨N,L.set j y⟩=true:=by
 obtain⟨n1,n2,n3,n4⟩:=ve.1 hp;have hI:=su hp;have hyc:∀i,i<L.length→i≠j→coll (gd L i l0) y=false:=by
   intro i hi hij
   have hne:(gd L i l0).Id≠(gd L j l0).Id:=by
     rcases Ge hij with h | h
     · have:=hI.ids i j h hj; simp only at this; omega
     · have:=hI.ids j i h hi; simp only at this; omega
   unfold kI at hf
   rw[Dl,C6]at hf
   rw[C6]
   intro hc
   refine hf (C5.2 ⟨_,eN l0 hi,?_⟩)
   rw[hc,GD,bne_iff_ne,hid]
   exact hne
 refine ve.2 ⟨n1,by rw[CY]; exact n2,λx hx'=>?_,?_⟩;rcases EH hx' with h | h
 exact n3 x h;subst h; exact hy;show (L.set j y).Pairwise _;have n4':L.Pairwise λa b=>a.Id<b.Id∧coll a b=false:=n4;rw[Ed]at n4' ⊢;intro a b ha hb hab;rw[CY]at ha hb;have q:=n4' a b ha hb hab;have yid:y.Id=L[j].Id:=by rw[hid,bM l0 hj]
 rw[Gm,Gm];by_cases e1:j=a;subst e1;have e2:¬j=b:=by omega
 rw[if_pos rfl,if_neg e2];refine⟨by rw[yid]; exact q.1,?_⟩;rw[nu];have:=hyc b hb (by omega);rwa [bM l0 hb]at this;rw[if_neg e1];by_cases e2:j=b;subst e2;rw[if_pos rfl];refine⟨by rw[yid]; exact q.1,?_⟩;have:=hyc a ha (by omega);rwa [bM l0 ha]at this;rw[if_neg e2]; exact q
theorem RvI.step (h:RvI N D H L0 s) (hH:∀x∈H,zT N x=true) {id:Int} (hs:hasL L0 id=true→hasL H id=true):RvI N D H L0 (rev1 D H s id):=by
 have e:=h.ids;unfold rev1;split
 rename_i hm;unfold tJ at hm;simp only[CW,Dl,decide_eq_false_iff_not]at hm;obtain⟨m1,m2,m3,m4⟩:=hm;have m1':hasL L0 id=true:=by rw[←sO e id]; exact m1
 have hj:=ja m1;have hid:(xK H id).Id=(gd s.1 (atId s.1 id) l0).Id:=by rw[mi (hs m1'),kg m1]
 have hI:=su h.ok;have hne:∀i,i<L0.length→atId s.1 id≠i→(gd L0 i l0).Id≠id:=by
   intro i hi hji
   have e1:(gd s.1 (atId s.1 id) l0).Id=id:=kg m1
   rw[←h.id hi,←e1]
   have hi':i<s.1.length:=by rw[h.len]; exact hi
   rcases Ge hji with q | q
   · have:=hI.ids _ i q hi'; simp only at this; omega
   · have:=hI.ids i _ q hj; simp only at this; omega
 refine⟨wR h.ok hj (hH _ (fT (hs m1'))) hid m4,by simp only; rw[sM hj hid,e],λi hi hn=>?_,λi hi hn=>?_⟩;simp only[CQ,C2,not_or]at hn;simp only;rw[tL];split
 rename_i hc;obtain⟨rfl,-⟩:=hc;exact absurd (by rw[←h.id hi,kg m1]) hn.2;exact h.old i hi hn.1;simp only[CQ,C2]at hn;simp only;rw[tL];by_cases q:atId s.1 id=i;have:(gd L0 i l0).Id=id:=by rw[←h.id hi,←q,kg m1]
 rw[if_pos ⟨q,by rw[h.len]; exact hi⟩,this];exact⟨rfl,m3⟩;rw[if_neg λhc=>q hc.1];rcases hn with hn | hn
 exact h.new i hi hn;exact absurd hn (hne i hi q);exact h
theorem RvI.all {N:Nq} {D:List Int} {H L0:List Nh} (hH:∀x∈H,zT N x=true) (hs:∀id,hasL L0 id=true→hasL H id=true):∀(l:List Int) {s:List Nh×List Int},RvI N D H L0 s→RvI N D H L0 (rev D H l s)
  | [],s,h=>h
  | id::l,s,h=>RvI.all hH hs l (s:=rev1 D H s id) (h.step hH (hs id))
end AT
