/- Networks, plainly: names, fibers, validity. -/
import Derived.Test.YtlemonjnolciiaaGreatP1
import Derived.Test.YtlemonjnolciiaaGreatAtL
set_option linter.unusedSimpArgs false
set_option linter.unusedVariables false
namespace AT
def chr (s:ByteArray) (i:Nat):Int:=((s[i]?).map fun b=>(b.toNat:Int)).getD 0
theorem gfc {s:ByteArray} {i:Nat} (h:i<s.size):sidx s (i:Int)=some ⟨chr s i⟩:=by
 have e:s[i]?=some (s[i]'h):=by simp [h]
 unfold sidx chr
 rw [if_pos (by omega),Int.toNat_natCast,e]
 rfl
def ggz (c:Int):Bool:=decide (97≤c)&&decide (c≤122)
def giA (c:Int):Bool:=decide (48≤c)&&decide (c≤57)
def geX (s:ByteArray) (i:Nat):Bool:=!(ggz (chr s i)||giA (chr s i))
def ge4 (s:ByteArray) (i:Nat):Bool:=!ggz (chr s i)&&(!giA (chr s i)||i==0)
def gek (s:ByteArray):Bool:=!((List.range s.size).any (ge4 s))&&(decide (1≤s.size)&&decide (s.size≤8))
theorem giz {fu:Nat} (s:ByteArray) (h:s.size<fu) (hn:s.size≤2097152):gbv fu s=some (gek s):=by
 unfold gbv
 rw [xb (l:=List.range s.size) (G:=v1 fu s) (ge4 s) (fun i=>false) (by simp; omega)
   (fun fk i hi=>by
     have hi':i<s.size:=by simpa using hi
     rw [v1,if_pos (by simpa using hi'),gfc hi',List.getElem_range]
     simp only [Option.bind_some,ge4,ggz,giA,ge_iff_le]
     have e0:((i:Int)==0)=(i==0):=by rw [Bool.eq_iff_iff]; simp only [beq_iff_eq]; omega
     rw [e0]
     obtain ⟨b,hb⟩:∃ b,b=(i==0):=⟨_,rfl⟩
     simp only [←hb]
     by_cases h1:97≤chr s i <;> by_cases h2:48≤chr s i <;> by_cases h3:chr s i≤122 <;> by_cases h4:chr s i≤57 <;> cases b <;> simp [h1,h2,h3,h4])
   (fun fk=>by rw [List.length_range,v1,if_neg (by simp)]) fu (by simpa using h)]
 unfold gek
 have e1:decide (1≤(s.size:Int))=decide (1≤s.size):=by simp only [decide_eq_decide]; omega
 have e2:decide ((s.size:Int)≤8)=decide (s.size≤8):=by simp only [decide_eq_decide]; omega
 cases (List.range s.size).any (ge4 s) <;> simp [Out.on,e1,e2]
theorem git (fu:Nat) (b:By):gbj fu b=some (ggz b.n||giA b.n):=by
 unfold gbj ggz giA
 simp only [ge_iff_le]
 by_cases h1:97≤b.n <;> by_cases h2:48≤b.n <;> by_cases h3:b.n≤122 <;> by_cases h4:b.n≤57 <;> simp [h1,h2,h3,h4]
theorem giu {fu:Nat} (s:ByteArray) (h:s.size<fu) (hn:s.size≤2097152):gbl fu s=some (gek s):=by
  unfold gbl
  have e1:decide (1≤(s.size:Int))=decide (1≤s.size):=by simp only [decide_eq_decide]; omega
  have e2:decide ((s.size:Int)≤8)=decide (s.size≤8):=by simp only [decide_eq_decide]; omega
  simp only [gcW,Option.bind_some,e1,e2]
  unfold gek
  by_cases hb:(decide (1≤s.size)&&decide (s.size≤8))=true
  · rw [hb]
    simp only [Bool.and_eq_true,decide_eq_true_eq] at hb
    have h0:0<s.size:=by omega
    have hs:=gfc h0
    simp only [Int.ofNat_zero,Int.natCast_zero] at hs
    simp only [Bool.not_true,Bool.false_eq_true,if_false,hs,Option.bind_some,Bool.and_true]
    have hl:xC fu s fu 0=some (if (List.range s.size).any (geX s) then .ret false else .next ((List.range s.size).length:Int)) :=
      xb (l:=List.range s.size) (G:=xC fu s) (geX s) (fun i=>false) (by simp; omega)
        (fun fk i hi=>by
          have hi':i<s.size:=by simpa using hi
          rw [xC,if_pos (by simpa using hi'),gfc hi',List.getElem_range]
          simp only [Option.bind_some,git,geX]
          rfl)
        (fun fk=>by rw [List.length_range,xC,if_neg (by simp)]) fu (by simpa using h)
    rw [hl]
    have ha:(List.range s.size).any (ge4 s)=(!ggz (chr s 0)||(List.range s.size).any (geX s)):=by
      rw [Bool.eq_iff_iff]
      simp only [List.any_eq_true,List.mem_range,Bool.or_eq_true,ge4,geX,Bool.and_eq_true,Bool.not_eq_true',beq_iff_eq,Bool.or_eq_false_iff]
      constructor
      · rintro ⟨i,hi,h1,h2⟩
        rcases h2 with h2 | h2
        · exact .inr ⟨i,hi,h1,h2⟩
        · subst h2; exact .inl h1
      · rintro (h1 | ⟨i,hi,h1,h2⟩)
        · exact ⟨0,h0,h1,.inr rfl⟩
        · exact ⟨i,hi,h1,.inl h2⟩
    rw [ha]
    unfold ggz
    have e3:decide (chr s 0<97)=!decide (97≤chr s 0):=by rw [←decide_not]; simp only [decide_eq_decide]; omega
    have e4:decide (chr s 0 > 122)=!decide (chr s 0≤122):=by rw [←decide_not]; simp only [decide_eq_decide]; omega
    simp only [e3,e4]
    cases decide (97≤chr s 0) <;> cases decide (chr s 0≤122) <;> cases (List.range s.size).any (geX s) <;> rfl
  · rw [Bool.not_eq_true] at hb
    rw [hb]
    simp
def nm0:ByteArray:=ByteArray.empty
def seen (l:List ByteArray) (i:Nat):Bool:=(l.take i).any fun x=>(gd l i nm0).toList==x.toList
theorem gge {α:Type} [BEq α] [LawfulBEq α] (a b:α):(a==b)=(b==a):=by
 rw [Bool.eq_iff_iff]; simp only [beq_iff_eq]; exact eq_comm
theorem giB {fu:Nat} (l:List ByteArray) (v:ByteArray) (h:l.length<fu) (hn:l.length≤2097152):vT fu l v=some (if l.any (fun x=>v.toList==x.toList) then ((l.findIdx fun x=>v.toList==x.toList:Nat):Int) else -1):=by
 unfold vT
 rw [xb (l:=l) (G:=uW fu l v) (fun x=>v.toList==x.toList) (fun i=>(i:Int)) (by omega)
   (fun fk i hi=>by rw [uW,if_pos (by simpa using hi),xa hi]; rfl)
   (fun fk=>by rw [uW,if_neg (by simp)]) fu h]
 cases l.any (fun x=>v.toList==x.toList) <;> rfl
theorem gf8 {fu:Nat} (l:List ByteArray) (v:ByteArray) (h:l.length<fu) (hn:l.length≤2097152):vC fu l v=some (l.any fun x=>v.toList==x.toList):=by
 unfold vC
 rw [giB l v h hn]
 cases l.any (fun x=>v.toList==x.toList)
 rfl
 simp
theorem giv {fu:Nat} (l:List ByteArray) (v:ByteArray) (h:l.length<fu) (hn:l.length≤2097152):gbm fu l v=some (if l.any (fun x=>x.toList==v.toList) then ((l.findIdx fun x=>x.toList==v.toList:Nat):Int) else -1):=by
 unfold gbm
 rw [xb (l:=l) (G:=x9 fu l v) (fun x=>x.toList==v.toList) (fun i=>(i:Int)) (by omega)
   (fun fk i hi=>by rw [x9,if_pos (by simpa using hi),xa hi]; rfl)
   (fun fk=>by rw [x9,if_neg (by simp)]) fu h]
 cases l.any (fun x=>x.toList==v.toList) <;> rfl
theorem gct {α:Type} {l:List α} {i:Nat} (h:i≤l.length):sub l 0 (i:Int)=some (l.take i):=by
 unfold sub
 rw [if_pos (by omega)]
 simp
theorem gf4 {α:Type} {l:List α} {p:α→Bool} {i:Nat} (h:i<l.length) (hp:p l[i]=true):(l.findIdx p=i)↔(l.take i).any p=false:=by
 rw [List.findIdx_eq h]
 constructor
 rintro ⟨-,h2⟩
 rw [Bool.eq_false_iff]
 intro h3
 obtain ⟨x,hx,hpx⟩:=List.any_eq_true.1 h3
 obtain ⟨j,hj,rfl⟩:=List.mem_iff_getElem.1 hx
 simp only [List.length_take] at hj
 rw [List.getElem_take] at hpx
 have:=h2 j (by omega)
 rw [hpx] at this
 cases this
 intro h3
 refine ⟨hp,fun j hj=>?_⟩
 rw [Bool.eq_false_iff]
 intro h4
 rw [Bool.eq_false_iff] at h3
 refine h3 (List.any_eq_true.2 ⟨l[j],?_,h4⟩)
 refine List.mem_iff_getElem.2 ⟨j,by simp; omega,by rw [List.getElem_take]⟩
def gcR (l:List ByteArray) (i:Nat):Bool:=!gek (gd l i nm0)||seen l i
def f0:Fiber:=⟨0,0,0,0⟩
def gdJ (m:Nat) (f:Fiber):Bool:=decide (0≤f.A)&&(decide (f.A<f.B)&&(decide (f.B<(m:Int))&&((decide (1≤f.Length)&&decide (f.Length≤5000))&&(decide (0≤f.Risk)&&decide (f.Risk≤9)))))
def fGt (f g:Fiber):Bool:=decide (g.A<f.A)||(f.A==g.A&&(decide (g.B<f.B)||(f.B==g.B&&(decide (g.Length<f.Length)||(f.Length==g.Length&&decide (g.Risk<f.Risk))))))
def cmpI (x y:Int):Int:=if x<y then -1 else if x > y then 1 else 0
theorem ghs (fu:Nat) (x y:Int):cmp_Compare_int fu x y=some (cmpI x y):=by
 unfold cmp_Compare_int cmp_isNaN_int cmpI
 have e:∀ z:Int,(z != z)=false:=fun z=>by simp
 simp only [e,Option.bind_some,Bool.false_eq_true,if_false,decide_eq_true_eq]
 by_cases h:x<y
 rw [if_pos h,if_pos h]
 rw [if_neg h,if_neg h]
 split <;> rfl
theorem gea (x y:Int):0<cmpI x y↔y<x:=by unfold cmpI; split <;> (try split) <;> omega
theorem gdp (x y:Int):cmpI x y=0↔x=y:=by unfold cmpI; split <;> (try split) <;> omega
def or4 (a b c d:Int):Int:=if a≠0 then a else if b≠0 then b else if c≠0 then c else if d≠0 then d else 0
theorem glC {fu:Nat} (a b c d:Int) (h:4<fu):gbV fu [a,b,c,d]=some (or4 a b c d):=by
 unfold gbV
 rw [xb (l:=[a,b,c,d]) (G:=yI fu [a,b,c,d]) (fun e=>e != 0) (fun i=>gd [a,b,c,d] i 0) (by simp)
   (fun fk i hi=>by rw [yI,if_pos (by rw [decide_eq_true_eq]; omega),xa hi,gbG 0 hi]; rfl)
   (fun fk=>by rw [yI,if_neg (by simp)]) fu (by simpa using h)]
 unfold or4
 have e:∀ z:Int,(z != 0)=!decide (z=0):=fun z=>by by_cases h:z=0 <;> simp [h]
 simp only [e]
 by_cases ha:a=0 <;> by_cases hb:b=0 <;> by_cases hc:c=0 <;> by_cases hd:d=0 <;> simp [ha,hb,hc,hd,List.findIdx_cons,gd,Out.on]
theorem gd3 {fu:Nat} (f g:Fiber) (h:4<fu):∃ r,yH fu f g=some r∧decide (r > 0)=fGt f g:=by
  unfold yH
  simp only [ghs,Option.bind_some,glC _ _ _ _ h]
  refine ⟨_,rfl,?_⟩
  rw [Bool.eq_iff_iff]
  simp only [fGt,decide_eq_true_eq,Bool.or_eq_true,Bool.and_eq_true,beq_iff_eq,or4]
  have a1:=gea f.A g.A
  have a2:=gdp f.A g.A
  have b1:=gea f.B g.B
  have b2:=gdp f.B g.B
  have c1:=gea f.Length g.Length
  have c2:=gdp f.Length g.Length
  have d1:=gea f.Risk g.Risk
  have d2:=gdp f.Risk g.Risk
  generalize cmpI f.A g.A=a at *
  generalize cmpI f.B g.B=b at *
  generalize cmpI f.Length g.Length=c at *
  generalize cmpI f.Risk g.Risk=d at *
  split <;> (try split) <;> (try split) <;> (try split) <;> constructor <;> intro h <;> simp only [decide_eq_true_eq] at * <;> omega
def bef (f g:Fiber):Int:=if f.A≠g.A then w64 (f.A - g.A) else if f.B≠g.B then w64 (f.B - g.B) else if f.Length≠g.Length then w64 (f.Length - g.Length) else w64 (f.Risk - g.Risk)
theorem gep (fu:Nat) (f g:Fiber):zJ fu f g=some (bef f g):=by
 unfold zJ bef
 by_cases h1:f.A=g.A
 by_cases h2:f.B=g.B
 by_cases h3:f.Length=g.Length <;> simp [h1,h2,h3]
 simp [h1,h2]
 simp [h1]
theorem glv {m:Nat} {f g:Fiber} (hm:m≤8) (hf:gdJ m f=true) (hg:gdJ m g=true):decide (bef f g > 0)=fGt f g:=by
 simp only [gdJ,Bool.and_eq_true,decide_eq_true_eq] at hf hg
 rw [Bool.eq_iff_iff]
 simp only [fGt,decide_eq_true_eq,Bool.or_eq_true,Bool.and_eq_true,beq_iff_eq]
 unfold bef
 have e1:w64 (f.A - g.A)=f.A - g.A:=vV (by omega) (by omega)
 have e2:w64 (f.B - g.B)=f.B - g.B:=vV (by omega) (by omega)
 have e3:w64 (f.Length - g.Length)=f.Length - g.Length:=vV (by omega) (by omega)
 have e4:w64 (f.Risk - g.Risk)=f.Risk - g.Risk:=vV (by omega) (by omega)
 rw [e1,e2,e3,e4]
 clear e1 e2 e3 e4
 split
 omega
 split
 omega
 split <;> omega
theorem ghl {fu m:Nat} (f:Fiber) (hm:m≤8):gaM fu f (m:Int)=some (gdJ m f):=by
 unfold gaM
 simp only [gcW,Option.bind_some]
 have e0:w64 ((m:Int) - 1)=(m:Int) - 1:=vV (by omega) (by omega)
 rw [e0]
 unfold gdJ
 by_cases h1:0≤f.A
 by_cases h2:f.A≤(m:Int) - 1
 have e1:w64 (f.A + 1)=f.A + 1:=vV (by omega) (by omega)
 rw [e1]
 have e2:decide (f.A + 1≤f.B)=decide (f.A<f.B):=by simp only [decide_eq_decide]; omega
 have e3:decide (f.B≤(m:Int) - 1)=decide (f.B<(m:Int)):=by simp only [decide_eq_decide]; omega
 rw [e2,e3]
 simp only [h1,h2,decide_true,Bool.and_true,if_true,Bool.true_and]
 cases decide (f.A<f.B) <;> cases decide (f.B<(m:Int)) <;> cases decide (1≤f.Length) <;> cases decide (f.Length≤5000) <;> cases decide (0≤f.Risk) <;> cases decide (f.Risk≤9) <;> rfl
 have:(decide (f.A<f.B)&&decide (f.B<(m:Int)))=false:=by
   rw [Bool.eq_false_iff]; simp only [ne_eq,Bool.and_eq_true,decide_eq_true_eq]; omega
 rw [←Bool.and_assoc (decide (f.A<f.B)),this]
 simp [h1,h2]
 simp [h1]
def gco (m:Nat) (l:List Fiber) (i:Nat):Bool:=!gdJ m (gd l i f0)||(decide (0<i)&&fGt (gd l (i - 1) f0) (gd l i f0))
def gdK (m:Nat) (l:List Fiber) (i:Nat):Bool:=!gdJ m (gd l i f0)||(decide (0<i)&&decide (bef (gd l (i - 1) f0) (gd l i f0) > 0))
theorem giI {m:Nat} (l:List Fiber) (hm:m≤8):(List.range l.length).any (gdK m l)=(List.range l.length).any (gco m l):=by
 by_cases hv:∃ i,i<l.length∧gdJ m (gd l i f0)=false
 obtain ⟨i,hi,hb⟩:=hv
 have h1:(List.range l.length).any (gdK m l)=true:=List.any_eq_true.2 ⟨i,List.mem_range.2 hi,by simp [gdK,hb]⟩
 have h2:(List.range l.length).any (gco m l)=true:=List.any_eq_true.2 ⟨i,List.mem_range.2 hi,by simp [gco,hb]⟩
 rw [h1,h2]
 have hv':∀ i,i<l.length→gdJ m (gd l i f0)=true:=fun i hi=>by
   cases h:gdJ m (gd l i f0)
   · exact absurd ⟨i,hi,h⟩ hv
   · rfl
 refine gfw fun i hi=>?_
 have hi':=List.mem_range.1 hi
 unfold gdK gco
 by_cases h0:0<i
 rw [glv hm (hv' (i - 1) (by omega)) (hv' i hi')]
 simp [h0]
def gcS (n:Network):Bool:=(decide (2≤n.Nodes.length)&&decide (n.Nodes.length≤8))&&(decide (n.Fibers.length≤14)&&(!((List.range n.Nodes.length).any (gcR n.Nodes))&&!((List.range n.Fibers.length).any (gco n.Nodes.length n.Fibers))))
def NetB (n:Network):Prop:=(n.Nodes.length≤2097152∧∀ e∈n.Nodes,e.size≤2097152)∧n.Fibers.length≤2097152
theorem gav {α:Type} {l:List α} {i:Nat} (d:α) (h:i<l.length):gd l i d∈l:=by rw [gbG d h]; exact List.getElem_mem _
theorem ghn {fu:Nat} (hfu:2097153≤fu) (n:Network) (hB:NetB n):yt fu n=some (gcS n):=by
 obtain ⟨⟨hl,hs⟩,hl2⟩:=hB
 unfold yt
 rw [xb (l:=List.range n.Nodes.length) (G:=vv fu n) (gcR n.Nodes) (fun i=>false) (by simp; omega)
   (fun fk i hi=>by
     have hi':i<n.Nodes.length:=by simpa using hi
     have hz:=hs _ (gav nm0 hi')
     rw [vv,if_pos (by simpa using hi'),vW nm0 hi',List.getElem_range]
     simp only [Option.bind_some,giz _ (show (gd n.Nodes i nm0).size<fu by omega) hz,gcR,seen]
     rcases Bool.eq_false_or_eq_true (gek (gd n.Nodes i nm0)) with h1 | h1
     · rw [gct (by omega)]
       simp only [h1,Bool.not_true,Bool.false_eq_true,if_false,Option.bind_some,gf8 _ _ (show (n.Nodes.take i).length<fu by simp; omega) (by simp; omega),Bool.false_or]
     · simp [h1])
   (fun fk=>by rw [List.length_range,vv,if_neg (by simp)]) fu (by simp; omega)]
 rw [xb (l:=List.range n.Fibers.length) (G:=vu fu n) (gco n.Nodes.length n.Fibers) (fun i=>false) (by simp; omega)
   (fun fk i hi=>by
     have hi':i<n.Fibers.length:=by simpa using hi
     rw [vu,if_pos (by simpa using hi'),vW f0 hi',List.getElem_range]
     simp only [Option.bind_some,gbP,gco,gdJ]
     obtain ⟨x,hx⟩:∃ x,x=gd n.Fibers i f0:=⟨_,rfl⟩
     simp only [←hx]
     have a1:decide (x.A<0)=!decide (0≤x.A):=by rw [←decide_not]; simp only [decide_eq_decide]; omega
     have a2:decide (x.A≥x.B)=!decide (x.A<x.B):=by rw [←decide_not]; simp only [decide_eq_decide]; omega
     have a3:decide (x.B≥(n.Nodes.length:Int))=!decide (x.B<(n.Nodes.length:Int)):=by rw [←decide_not]; simp only [decide_eq_decide]; omega
     simp only [a1,a2,a3]
     by_cases b1:(decide (0≤x.A))=false
     · simp [b1]
     rw [Bool.not_eq_false] at b1
     by_cases b2:(decide (x.A<x.B))=false
     · simp [b1,b2]
     rw [Bool.not_eq_false] at b2
     by_cases b3:(decide (x.B<(n.Nodes.length:Int)))=false
     · simp [b1,b2,b3]
     rw [Bool.not_eq_false] at b3
     by_cases b4:(decide (1≤x.Length)&&decide (x.Length≤5000))=false
     · simp only [b1,b2,b3,b4]; simp
     rw [Bool.not_eq_false] at b4
     by_cases b5:(decide (0≤x.Risk)&&decide (x.Risk≤9))=false
     · simp only [b1,b2,b3,b4,b5]; simp
     rw [Bool.not_eq_false] at b5
     simp only [b1,b2,b3,b4,b5]
     by_cases h0:0<i
     · rw [gbb h0 (by omega),vW f0 (show i - 1<n.Fibers.length by omega)]
       obtain ⟨r,h1,h2⟩:=gd3 (fu:=fu) (gd n.Fibers (i - 1) f0) x (by omega)
       have h0':((i:Int) > 0):=by omega
       simp [h0,h1,h2,h0']
     · have h0':¬((i:Int) > 0):=by omega
       simp [h0,h0'])
   (fun fk=>by rw [List.length_range,vu,if_neg (by simp)]) fu (by simp; omega)]
 unfold gcS
 have e1:decide (2≤(n.Nodes.length:Int))=decide (2≤n.Nodes.length):=by simp only [decide_eq_decide]; omega
 have e2:decide ((n.Nodes.length:Int)≤8)=decide (n.Nodes.length≤8):=by simp only [decide_eq_decide]; omega
 have e3:decide ((n.Fibers.length:Int)≤14)=decide (n.Fibers.length≤14):=by simp only [decide_eq_decide]; omega
 simp only [gbP,e1,e2,e3]
 cases (List.range n.Nodes.length).any (gcR n.Nodes) <;> cases (List.range n.Fibers.length).any (gco n.Nodes.length n.Fibers) <;> cases decide (2≤n.Nodes.length) <;> cases decide (n.Nodes.length≤8) <;> cases decide (n.Fibers.length≤14) <;> rfl
theorem geW {fu:Nat} (hfu:2097153≤fu) (n:Network) (hB:NetB n):gax fu n=some (gcS n):=by
 obtain ⟨⟨hl,hs⟩,hl2⟩:=hB
 unfold gax gcS
 have e1:decide (2≤(n.Nodes.length:Int))=decide (2≤n.Nodes.length):=by simp only [decide_eq_decide]; omega
 have e2:decide ((n.Nodes.length:Int)≤8)=decide (n.Nodes.length≤8):=by simp only [decide_eq_decide]; omega
 have e3:decide ((n.Fibers.length:Int) > 14)=!decide (n.Fibers.length≤14):=by rw [←decide_not]; simp only [decide_eq_decide]; omega
 simp only [gcW,e1,e2,e3,Option.bind_some]
 cases hb:(decide (2≤n.Nodes.length)&&decide (n.Nodes.length≤8))
 rfl
 cases hc:decide (n.Fibers.length≤14)
 rfl
 simp only [Bool.and_eq_true,decide_eq_true_eq] at hb hc
 rw [xb (l:=List.range n.Nodes.length) (G:=x8 fu n) (gcR n.Nodes) (fun i=>false) (by simp; omega)
   (fun fk i hi=>by
     have hi':i<n.Nodes.length:=by simpa using hi
     have hz:=hs _ (gav nm0 hi')
     rw [x8,if_pos (by simpa using hi'),vW nm0 hi',List.getElem_range]
     simp only [Option.bind_some,giu _ (show (gd n.Nodes i nm0).size<fu by omega) hz,gcR,seen]
     by_cases h1:(gek (gd n.Nodes i nm0))=false
     · simp [h1]
     rw [Bool.not_eq_false] at h1
     · have hp:(fun x:ByteArray=>x.toList==(gd n.Nodes i nm0).toList) n.Nodes[i]=true:=by simp [gbG nm0 hi']
       have ha:n.Nodes.any (fun x=>x.toList==(gd n.Nodes i nm0).toList)=true:=List.any_eq_true.2 ⟨_,List.getElem_mem hi',hp⟩
       have hfi:=gf4 (p:=fun x:ByteArray=>x.toList==(gd n.Nodes i nm0).toList) hi' hp
       have hsy:(n.Nodes.take i).any (fun x=>(gd n.Nodes i nm0).toList==x.toList)=(n.Nodes.take i).any (fun x=>x.toList==(gd n.Nodes i nm0).toList):=gfw fun x _=>gge _ _
       simp only [h1,Bool.not_true,Bool.false_eq_true,if_false,Option.bind_some,giv _ _ (show n.Nodes.length<fu by omega) hl,ha,if_true,Bool.false_or,hsy]
       have he:(((n.Nodes.findIdx fun x=>x.toList==(gd n.Nodes i nm0).toList:Nat):Int) != (i:Int))=(n.Nodes.take i).any (fun x=>x.toList==(gd n.Nodes i nm0).toList):=by
         rw [Bool.eq_iff_iff]
         simp only [bne_iff_ne,ne_eq,Int.natCast_inj,hfi,Bool.not_eq_false]
       rw [he])
   (fun fk=>by rw [List.length_range,x8,if_neg (by simp)]) fu (by simp; omega)]
 rw [xb (l:=List.range n.Fibers.length) (G:=x7 fu n) (gdK n.Nodes.length n.Fibers) (fun i=>false) (by simp; omega)
   (fun fk i hi=>by
     have hi':i<n.Fibers.length:=by simpa using hi
     rw [x7,if_pos (by simpa using hi'),vW f0 hi',List.getElem_range]
     simp only [Option.bind_some,ghl _ hb.2,gdK]
     by_cases h1:(gdJ n.Nodes.length (gd n.Fibers i f0))=false
     · simp [h1]
     rw [Bool.not_eq_false] at h1
     simp only [h1]
     by_cases h0:0<i
     · rw [gbb h0 (by omega),vW f0 (show i - 1<n.Fibers.length by omega)]
       have h0':((i:Int) > 0):=by omega
       simp [h0,gep,h0']
     · have h0':¬((i:Int) > 0):=by omega
       simp [h0,h0'])
   (fun fk=>by rw [List.length_range,x7,if_neg (by simp)]) fu (by simp; omega),giI _ hb.2]
 cases (List.range n.Nodes.length).any (gcR n.Nodes) <;> cases (List.range n.Fibers.length).any (gco n.Nodes.length n.Fibers) <;> rfl
structure NetF (n:Network):Prop where
  lo:2≤n.Nodes.length
  hi:n.Nodes.length≤8
  fib:n.Fibers.length≤14
  each:∀ f∈n.Fibers,0≤f.A∧f.A<f.B∧f.B<(n.Nodes.length:Int)∧1≤f.Length∧f.Length≤5000∧0≤f.Risk∧f.Risk≤9
theorem netF {n:Network} (h:gcS n=true):NetF n:=by
 unfold gcS at h
 simp only [Bool.and_eq_true,decide_eq_true_eq,Bool.not_eq_true'] at h
 obtain ⟨⟨h1,h2⟩,h3,h4,h5⟩:=h
 refine ⟨h1,h2,h3,fun f hf=>?_⟩
 obtain ⟨i,hi,rfl⟩:=List.mem_iff_getElem.1 hf
 rw [Bool.eq_false_iff] at h5
 have h6:gco n.Nodes.length n.Fibers i=false:=by
   rw [Bool.eq_false_iff]
   intro h7
   exact h5 (List.any_eq_true.2 ⟨i,List.mem_range.2 hi,h7⟩)
 unfold gco at h6
 rw [Bool.or_eq_false_iff] at h6
 have h8:=h6.1
 rw [gbG f0 hi] at h8
 simp only [Bool.not_eq_false',gdJ,Bool.and_eq_true,decide_eq_true_eq] at h8
 omega
end AT
namespace AT
theorem zz {α:Type} {l m:List α} (h:l.length + m.length≤1099511627776):app l m=some (l++m):=by unfold app; rw [if_pos h]
theorem giC {fu:Nat} (l:List Int) (v:Int) (h:l.length<fu) (hn:l.length≤2097152):xS fu l v=some (if l.any (fun x=>x==v) then ((l.findIdx fun x=>x==v:Nat):Int) else -1):=by
 unfold xS
 rw [xb (l:=l) (G:=vk fu l v) (fun x=>x==v) (fun i=>(i:Int)) (by omega)
   (fun fk i hi=>by rw [vk,if_pos (by simpa using hi),xa hi,Option.bind_some,gge v])
   (fun fk=>by rw [vk,if_neg (by simp)]) fu h]
 cases l.any (fun x=>x==v) <;> rfl
theorem gdR {fu:Nat} (l:List Int) (v:Int) (h:l.length<fu) (hn:l.length≤2097152):vS fu l v=some (l.any fun x=>x==v):=by
 unfold vS
 rw [giC l v h hn]
 cases l.any (fun x=>x==v)
 rfl
 simp
theorem gd9 {fu:Nat} (l:List Int) (v:Int) (h:l.length<fu) (hn:l.length≤2097152):zL fu l v=some (l.any fun x=>x==v):=by
 unfold zL
 rw [xb (l:=l) (G:=yB fu l v) (fun x=>x==v) (fun i=>true) (by omega)
   (fun fk i hi=>by rw [yB,if_pos (by simpa using hi),xa hi,Option.bind_some])
   (fun fk=>by rw [yB,if_neg (by simp)]) fu h]
 cases l.any (fun x=>x==v) <;> rfl
def oth (f:Fiber) (v:Int):Int:=if v=f.A then f.B else if v=f.B then f.A else -1
theorem gjV {R:Type} (f:Fiber) (v:Int) (k:Int→R):(if v==f.A then k f.B else if v==f.B then k f.A else k (-1))=k (oth f v):=by
 unfold oth
 by_cases h1:v=f.A
 rw [if_pos (beq_iff_eq.2 h1),if_pos h1]
 rw [if_neg (by simpa using h1),if_neg h1]
 by_cases h2:v=f.B
 rw [if_pos (beq_iff_eq.2 h2),if_pos h2]
 rw [if_neg (by simpa using h2),if_neg h2]
theorem ggv (fu:Nat) (f:Fiber) (v:Int):ga5 fu f v=some (oth f v):=by
 exact gjV f v some
theorem gdA (fu:Nat) (n:Network) (i:Nat) (v:Int) (h:i<n.Fibers.length):yz fu n (i:Int) v=some (oth (gd n.Fibers i f0) v):=by
 unfold yz
 rw [vW f0 h]
 exact gjV _ v some
def gcy (F:List Fiber):List Int→List Int→Int→Option (List Int)
  | [],out,_=>some out
  | i::r,out,v=>if 0≤i∧i<(F.length:Int) then (if oth (gd F i.toNat f0) v<0∨(out.any fun x=>x==oth (gd F i.toNat f0) v)=true then none else gcy F r (out++[oth (gd F i.toNat f0) v]) (oth (gd F i.toNat f0) v)) else none
def zD (n:Network) (r:Route):Option (List Int):=if (0≤r.Start∧r.Start<(n.Nodes.length:Int))∧r.Fibers≠[] then gcy n.Fibers r.Fibers [r.Start] r.Start else none
def gl (l:List Int):Int:=gd l (l.length - 1) 0
theorem gkv (l:List Int) (x:Int):gl (l++[x])=x:=by unfold gl gd; simp
theorem gfE {F:List Fiber}:∀ {fs out:List Int} {v:Int} {o:List Int},gcy F fs out v=some o→o.length=out.length + fs.length
  | [],out,v,o,h=>by simp only [gcy,Option.some.injEq] at h; subst h; simp
  | i::r,out,v,o,h=>by
    unfold gcy at h
    split at h
    · split at h
      · cases h
      · have:=gfE h
        simp only [List.length_append,List.length_cons,List.length_nil] at this ⊢
        omega
    · cases h
theorem gfB {fu:Nat} (hfu:2097153≤fu) (n:Network) (r:Route) (hn:n.Fibers.length≤2097152) (hr:r.Fibers.length≤2097152):∀ (fk i:Nat) (out:List Int) (v:Int),i≤r.Fibers.length→r.Fibers.length - i<fk→out.length=i + 1 →
    ∃ z,yq fu n r fk out v i=some (match gcy n.Fibers (r.Fibers.drop i) out v with | some o=>.next (o,z) | none=>.ret ([],false)):=by
 intro fk
 induction fk with
 | zero=>intro i _ _ _ h; omega
 | succ fk ih =>
   intro i out v hi hk ho
   rw [yq]
   by_cases h:i<r.Fibers.length
   · rw [if_pos (by simpa using h),xa h,←List.getElem_cons_drop h,gcy]
     obtain ⟨e,he⟩:∃ e,e=r.Fibers[i]:=⟨_,rfl⟩
     simp only [←he,Option.bind_some,gbP]
     rw [vV (by omega) (by omega)]
     by_cases hb:0≤e∧e<(n.Fibers.length:Int)
     · rw [if_pos hb]
       have hb':(decide (0≤e)&&decide (e≤(n.Fibers.length:Int) - 1))=true:=by simp; omega
       have hx:idx n.Fibers e=some (gd n.Fibers e.toNat f0):=by
         have:=vW (l:=n.Fibers) (i:=e.toNat) f0 (by omega)
         rwa [Int.toNat_of_nonneg hb.1] at this
       simp only [hb',Bool.not_true,Bool.false_eq_true,if_false,hx,Option.bind_some,ggv]
       obtain ⟨y,hy⟩:∃ y,y=oth (gd n.Fibers e.toNat f0) v:=⟨_,rfl⟩
       simp only [←hy,gdR out y (show out.length<fu by omega) (by omega)]
       by_cases hn:y<0∨(out.any fun x=>x==y)=true
       · rw [if_pos hn]
         refine ⟨(0,0),?_⟩
         rcases hn with h1 | h1
         · simp [h1]
         · by_cases h2:y<0 <;> simp [h1,h2]
       · rw [if_neg hn]
         have h1:¬y<0:=fun h=>hn (.inl h)
         have h2:(out.any fun x=>x==y)=false:=by rw [Bool.eq_false_iff]; exact fun h=>hn (.inr h)
         simp only [h1,decide_false,Bool.false_eq_true,if_false,h2,Option.bind_some]
         rw [zz (by simp; omega),Option.bind_some,xo h (by omega)]
         exact ih (i + 1) _ _ h (by omega) (by simp; omega)
     · rw [if_neg hb]
       have hb':(decide (0≤e)&&decide (e≤(n.Fibers.length:Int) - 1))=false:=by rw [Bool.eq_false_iff]; simp; omega
       exact ⟨(0,0),by simp [hb']⟩
   · obtain rfl:i=r.Fibers.length:=by omega
     rw [if_neg (by simp),List.drop_length]
     exact ⟨_,rfl⟩
theorem gg8 {fu:Nat} (hfu:2097153≤fu) (n:Network) (r:Route) (hn:n.Fibers.length≤2097152) (hm:n.Nodes.length≤2097152) (hr:r.Fibers.length≤2097152):gaT fu n r=some (match zD n r with | some o=>(o,true) | none=>([],false)):=by
 unfold gaT
 simp only [gbP,Option.bind_some]
 rw [vV (by omega) (by omega)]
 by_cases hs:0≤r.Start∧r.Start<(n.Nodes.length:Int)
 have hb':(decide (0≤r.Start)&&decide (r.Start≤(n.Nodes.length:Int) - 1))=true:=by simp; omega
 by_cases he:r.Fibers=[]
 have er:zD n r=none:=by unfold zD; rw [if_neg fun h=>h.2 he]
 simp [hb',he,er]
 have er:zD n r=gcy n.Fibers r.Fibers [r.Start] r.Start:=by unfold zD; rw [if_pos ⟨hs,he⟩]
 have he':((r.Fibers.length:Int)==0)=false:=by
   rw [beq_eq_false_iff_ne]
   have:=List.length_pos_iff.2 he
   omega
 obtain ⟨z,hz⟩:=gfB hfu n r hn hr fu 0 [r.Start] r.Start (by omega) (by omega) rfl
 rw [List.drop_zero,show ((0:Nat):Int)=0 from rfl] at hz
 rw [er]
 simp only [hb',Bool.not_true,Bool.false_eq_true,if_false,he',Option.bind_some,hz]
 cases gcy n.Fibers r.Fibers [r.Start] r.Start <;> rfl
 have hb':(decide (0≤r.Start)&&decide (r.Start≤(n.Nodes.length:Int) - 1))=false:=by rw [Bool.eq_false_iff]; simp; omega
 have er:zD n r=none:=by unfold zD; rw [if_neg fun h=>hs h.1]
 simp [hb',er]
theorem ghL {fu:Nat} (hfu:2097153≤fu) (n:Network) (r:Route) (hn:n.Fibers.length≤2097152) (hr:r.Fibers.length≤2097152):∀ (fk i:Nat) (out:List Int),i≤r.Fibers.length→r.Fibers.length - i<fk→out.length=i + 1 →
    ∃ z o',yN fu n r fk out i=some (match gcy n.Fibers (r.Fibers.drop i) out (gl out) with | some o=>.next (o,z) | none=>.ret (o',false)):=by
 intro fk
 induction fk with
 | zero=>intro i _ _ h; omega
 | succ fk ih =>
   intro i out hi hk ho
   rw [yN]
   by_cases h:i<r.Fibers.length
   · rw [if_pos (by simpa using h),xa h,←List.getElem_cons_drop h,gcy]
     obtain ⟨e,he⟩:∃ e,e=r.Fibers[i]:=⟨_,rfl⟩
     have hlast:idx out (w64 ((out.length:Int) - 1))=some (gl out):=by
       rw [gbb (by omega) (by omega),vW 0 (by omega)]; rfl
     simp only [←he,Option.bind_some,gcW,hlast]
     rw [vV (by omega) (by omega)]
     by_cases hb:0≤e∧e<(n.Fibers.length:Int)
     · rw [if_pos hb]
       have hb':(decide (0≤e)&&decide (e≤(n.Fibers.length:Int) - 1))=true:=by simp; omega
       have hx:yz fu n e (gl out)=some (oth (gd n.Fibers e.toNat f0) (gl out)):=by
         have:=gdA fu n e.toNat (gl out) (by omega)
         rwa [Int.toNat_of_nonneg hb.1] at this
       simp only [hb',Bool.not_true,Bool.false_eq_true,if_false,hx,Option.bind_some]
       obtain ⟨y,hy⟩:∃ y,y=oth (gd n.Fibers e.toNat f0) (gl out):=⟨_,rfl⟩
       simp only [←hy,gd9 out y (show out.length<fu by omega) (by omega)]
       by_cases hn:y<0∨(out.any fun x=>x==y)=true
       · rw [if_pos hn]
         refine ⟨0,out,?_⟩
         rcases hn with h1 | h1
         · simp [h1]
         · by_cases h2:y<0 <;> simp [h1,h2]
       · rw [if_neg hn]
         have h1:¬y<0:=fun h=>hn (.inl h)
         have h2:(out.any fun x=>x==y)=false:=by rw [Bool.eq_false_iff]; exact fun h=>hn (.inr h)
         simp only [h1,decide_false,Bool.false_eq_true,if_false,h2,Option.bind_some]
         rw [zz (by simp; omega),Option.bind_some,xo h (by omega)]
         have:=ih (i + 1) (out++[y]) h (by omega) (by simp; omega)
         rwa [gkv] at this
     · rw [if_neg hb]
       have hb':(decide (0≤e)&&decide (e≤(n.Fibers.length:Int) - 1))=false:=by rw [Bool.eq_false_iff]; simp; omega
       exact ⟨0,out,by simp [hb']⟩
   · obtain rfl:i=r.Fibers.length:=by omega
     rw [if_neg (by simp),List.drop_length]
     exact ⟨_,[],rfl⟩
theorem walk_eq {fu:Nat} (hfu:2097153≤fu) (n:Network) (r:Route) (hn:n.Fibers.length≤2097152) (hm:n.Nodes.length≤2097152) (hr:r.Fibers.length≤2097152):∃ o',gbf fu n r=some (match zD n r with | some o=>(o,true) | none=>(o',false)):=by
 unfold gbf
 simp only [gcW,Option.bind_some]
 rw [vV (by omega) (by omega)]
 by_cases hs:0≤r.Start∧r.Start<(n.Nodes.length:Int)
 have hb':(decide (0≤r.Start)&&decide (r.Start≤(n.Nodes.length:Int) - 1))=true:=by simp; omega
 by_cases he:r.Fibers=[]
 have er:zD n r=none:=by unfold zD; rw [if_neg fun h=>h.2 he]
 exact ⟨[r.Start],by simp [hb',he,er]⟩
 have er:zD n r=gcy n.Fibers r.Fibers [r.Start] r.Start:=by unfold zD; rw [if_pos ⟨hs,he⟩]
 have he':((r.Fibers.length:Int)==0)=false:=by
   rw [beq_eq_false_iff_ne]
   have:=List.length_pos_iff.2 he
   omega
 obtain ⟨z,o',hz⟩:=ghL hfu n r hn hr fu 0 [r.Start] (by omega) (by omega) rfl
 rw [List.drop_zero,show ((0:Nat):Int)=0 from rfl,show gl [r.Start]=r.Start from rfl] at hz
 refine ⟨o',?_⟩
 rw [er]
 simp only [hb',Bool.not_true,Bool.false_eq_true,if_false,he',Option.bind_some,hz]
 cases gcy n.Fibers r.Fibers [r.Start] r.Start <;> rfl
 have hb':(decide (0≤r.Start)&&decide (r.Start≤(n.Nodes.length:Int) - 1))=false:=by rw [Bool.eq_false_iff]; simp; omega
 refine ⟨[r.Start],?_⟩
 have er:zD n r=none:=by unfold zD; rw [if_neg fun h=>hs h.1]
 simp [hb',er]
theorem gis {fu:Nat} (hfu:2097153≤fu) (n:Network) (r:Route) (hB:NetB n) (hr:r.Fibers.length≤2097152):gbi fu n r=some (gcS n&&(zD n r).isSome):=by
 unfold gbi
 rw [geW hfu n hB,Option.bind_some]
 obtain ⟨o',h⟩:=walk_eq hfu n r hB.2 hB.1.1 hr
 rw [h]
 cases gcS n
 rfl
 cases zD n r <;> rfl
theorem ghd {n:Network} {r:Route} {o:List Int} (h:zD n r=some o):o.length=r.Fibers.length + 1:=by
 unfold zD at h
 split at h
 have:=gfE h
 simp only [List.length_cons,List.length_nil] at this
 omega
 cases h
theorem ggN:∀ (m:Nat) (l:List Int),l.Nodup→(∀ x∈l,0≤x∧x<(m:Int))→l.length≤m
  | 0,l,_,h=>by
    cases l with
    | nil=>simp
    | cons x l=>have:=h x (by simp); omega
  | m + 1,l,hn,h=>by
    have h1:=ggN m (l.erase (m:Int)) (hn.erase _) fun x hx=>by
      have hx1:=List.mem_of_mem_erase hx
      have:=h x hx1
      refine ⟨this.1,?_⟩
      have hne:x≠(m:Int):=fun e=>by
        subst e
        exact (hn.not_mem_erase) hx
      omega
    rw [List.length_erase] at h1
    split at h1 <;> omega
theorem gkl {f:Fiber} {v:Int} (h:0≤oth f v):(v=f.A∧oth f v=f.B)∨(v=f.B∧oth f v=f.A):=by
 unfold oth at h ⊢
 split at h
 rename_i h1; rw [if_pos h1]; exact .inl ⟨h1,rfl⟩
 rename_i h1
 rw [if_neg h1]
 split at h
 rename_i h2; rw [if_pos h2]; exact .inr ⟨h2,rfl⟩
 omega
theorem gfF {F:List Fiber} (P:Int→Prop) (hF:∀ f∈F,P f.A∧P f.B):∀ {fs out:List Int} {v:Int} {o:List Int} (U:List Int),gcy F fs out v=some o→out.Nodup→(∀ x∈out,P x)→v∈out→(∀ i∈U,(gd F i.toNat f0).A∈out∧(gd F i.toNat f0).B∈out) →
    o.Nodup∧(∀ x∈o,P x)∧fs.Nodup∧∀ i∈fs,i∉U
  | [],out,v,o,U,h,h1,h2,h3,h4=>by
    simp only [gcy,Option.some.injEq] at h
    subst h
    exact ⟨h1,h2,.nil,by simp⟩
  | i::r,out,v,o,U,h,h1,h2,h3,h4=>by
    unfold gcy at h
    split at h
    case isFalse=>cases h
    rename_i hi
    split at h
    case isTrue=>cases h
    rename_i hc
    obtain ⟨y,hy⟩:∃ y,y=oth (gd F i.toNat f0) v:=⟨_,rfl⟩
    rw [←hy] at h hc
    have hy0:0≤y:=by
      rcases Classical.em (y<0) with h' | h'
      · exact absurd (.inl h') hc
      · omega
    have hny:y∉out:=fun hm=>hc (.inr (List.any_eq_true.2 ⟨y,hm,by simp⟩))
    have hfm:gd F i.toNat f0∈F:=gav f0 (by omega)
    have hm:=gkl (f:=gd F i.toNat f0) (v:=v) (by omega)
    rw [←hy] at hm
    have hPy:P y:=by
      rcases hm with ⟨_,e⟩ | ⟨_,e⟩ <;> rw [e]
      · exact (hF _ hfm).2
      · exact (hF _ hfm).1
    have hiU:i∉U:=fun hu=>by
      have:=h4 i hu
      rcases hm with ⟨_,e⟩ | ⟨_,e⟩ <;> rw [e] at hny
      · exact hny this.2
      · exact hny this.1
    obtain ⟨g1,g2,g3,g4⟩:=gfF P hF (i::U) h
      (List.nodup_append.2 ⟨h1,by simp,fun a ha b hb=>by rw [List.mem_singleton] at hb; subst hb; exact fun e=>hny (e▸ha)⟩)
      (fun x hx=>by
        rcases List.mem_append.1 hx with hx | hx
        · exact h2 x hx
        · rw [List.mem_singleton] at hx; subst hx; exact hPy)
      (by simp)
      (fun j hj=>by
        rcases List.mem_cons.1 hj with rfl | hj
        · rcases hm with ⟨e1,e2⟩ | ⟨e1,e2⟩
          · exact ⟨List.mem_append.2 (.inl (e1▸h3)),List.mem_append.2 (.inr (by rw [e2]; simp))⟩
          · exact ⟨List.mem_append.2 (.inr (by rw [e2]; simp)),List.mem_append.2 (.inl (e1▸h3))⟩
        · exact ⟨List.mem_append.2 (.inl (h4 j hj).1),List.mem_append.2 (.inl (h4 j hj).2)⟩)
    refine ⟨g1,g2,List.nodup_cons.2 ⟨fun hm=>g4 i hm (by simp),g3⟩,fun j hj=>?_⟩
    rcases List.mem_cons.1 hj with rfl | hj
    · exact hiU
    · exact fun hu=>g4 j hj (List.mem_cons_of_mem _ hu)
theorem gfK {n:Network} {r:Route} {o:List Int} (hn:NetF n) (h:zD n r=some o):o.Nodup∧(∀ x∈o,0≤x∧x<(n.Nodes.length:Int))∧r.Fibers.Nodup∧r.Fibers.length≤7∧r.Fibers≠[]∧0≤r.Start∧r.Start<(n.Nodes.length:Int):=by
  have hl:=ghd h
  unfold zD at h
  split at h
  case isFalse=>cases h
  rename_i hs
  obtain ⟨g1,g2,g3,_⟩:=gfF (fun x=>0≤x∧x<(n.Nodes.length:Int)) (fun f hf=>by have:=hn.each f hf; omega) [] h (by simp) (by simpa using hs.1) (by simp) (by simp)
  have:=ggN _ _ g1 g2
  have:=hn.hi
  exact ⟨g1,g2,g3,by omega,hs.2,hs.1⟩
end AT
namespace AT
theorem gkq (fu:Nat) (x y:Int):cmp_Less_int fu x y=some (decide (x<y)):=by
 unfold cmp_Less_int cmp_isNaN_int
 have e:(x != x)=false:=by simp
 simp [e]
theorem gjs {fu:Nat}:∀ (fk j:Nat) (l:List Int),j<fk→j<l.length→l.length≤2097152→∃ l' j',uN fu 0 fk l j=some (l',j')∧l'.Perm l:=by
 intro fk
 induction fk with
 | zero=>intro j _ h; omega
 | succ fk ih =>
   intro j l hk hj hl
   rw [uN]
   by_cases h0:0<j
   · have h0':(j:Int) > 0:=by omega
     have hj1:j - 1<l.length:=by omega
     simp only [h0',decide_true,if_true,xa hj,gbb h0 (show j≤2097152 by omega),xa hj1,Option.bind_some,gkq]
     by_cases hc:l[j]<l[j - 1]
     · have hj2:j - 1<(l.set j l[j - 1]).length:=by rw [List.length_set]; exact hj1
       simp only [hc,decide_true,if_true,Int.toNat_natCast,xa hj2,Option.bind_some]
       obtain ⟨l',j',h1,h2⟩:=ih (j - 1) ((l.set j l[j - 1]).set (j - 1) l[j]) (by omega) (by simp; omega) (by simpa using hl)
       exact ⟨l',j',h1,h2.trans (List.set_set_perm hj hj1)⟩
     · simp only [hc,decide_false,Bool.false_eq_true,if_false]
       exact ⟨_,_,rfl,.refl _⟩
   · have h0':¬(j:Int) > 0:=by omega
     simp only [h0',decide_false,Bool.false_eq_true,if_false,Option.bind_some]
     exact ⟨_,_,rfl,.refl _⟩
theorem gks {fu:Nat} (n:Nat) (hn:n≤2097152) (hfu:n<fu):∀ (fk i:Nat) (l:List Int),n - i<fk→1≤i→l.length=n→∃ l' i',uO fu 0 n fk l i=some (l',i')∧l'.Perm l:=by
 intro fk
 induction fk with
 | zero=>intro i _ h; omega
 | succ fk ih =>
   intro i l hk hi hl
   rw [uO]
   by_cases h:i<n
   · have h':(i:Int)<(n:Int):=by omega
     obtain ⟨l',j',h1,h2⟩:=gjs (fu:=fu) fu i l (by omega) (by omega) (by omega)
     obtain ⟨l2,i2,h3,h4⟩:=ih (i + 1) l' (by omega) (by omega) (by rw [h2.length_eq]; exact hl)
     simp only [h',decide_true,if_true,h1,Option.bind_some,xo h (show (n:Int)≤9223372036854775807 by omega)]
     exact ⟨l2,i2,h3,h4.trans h2⟩
   · have h':¬(i:Int)<(n:Int):=by omega
     simp only [h',decide_false,Bool.false_eq_true,if_false]
     exact ⟨_,_,rfl,.refl _⟩
theorem giR {s:ByteArray} {i:Int} {g:By→Int} (h:s.size=256) (h0:0≤i) (h1:i<256):∃ k,((sidx s i).bind fun e=>some (g e))=some k:=by
 unfold sidx
 have e:s[i.toNat]?=some (s[i.toNat]'(by omega)):=by simp
 rw [if_pos h0,e]
 exact ⟨_,rfl⟩
set_option maxRecDepth 20000 in
theorem gi5 {s:ByteArray} {i:Int} (h:s.size=256) (h0:0≤i) (h1:i<256):∃ k,(((sidx s i).bind fun e=>some (w64 (0 + w64 e.n))).bind fun y=>some y)=some k:=by
 obtain ⟨k,hk⟩:=giR (g:=fun e=>w64 (0 + w64 e.n)) h h0 h1
 rw [hk]
 exact ⟨k,rfl⟩
set_option maxRecDepth 20000 in
theorem len8 {fu:Nat} {x:U64} (h0:0≤x.n) (h:x.n<256):∃ k,gan fu x=some k:=by
 unfold gan gam
 have a1:¬x.n≥4294967296:=by omega
 have a2:¬x.n≥65536:=by omega
 have a3:¬x.n≥256:=by omega
 rw [if_neg (by simpa using a1),if_neg (by simpa using a2),if_neg (by simpa using a3)]
 have hw:wu8 x.n=x.n:=by unfold wu8; omega
 rw [hw]
 exact gi5 rfl h0 h
theorem gj6 {fu:Nat} (hfu:2097153≤fu) (l:List Int) (h:l.length≤12):∃ l',yp fu l=some l'∧l'.Perm l:=by
 unfold yp xD
 obtain ⟨k,hk⟩:=len8 (fu:=fu) (x:=(⟨wu64 (l.length:Int)⟩:U64)) (by simp only [wu64]; omega) (by simp only [wu64]; omega)
 obtain ⟨fk,rfl⟩:=Nat.exists_eq_succ_of_ne_zero (show fu≠0 by omega)
 obtain ⟨l',i',h1,h2⟩:=gks (fu:=fk.succ) l.length (by omega) (by omega) fk.succ 1 l (by omega) (by omega) rfl
 rw [hk,Option.bind_some,vI]
 have hd:decide (w64 ((l.length:Int) - 0)≤12)=true:=by rw [vV (by omega) (by omega)]; simp; omega
 have h01:w64 (0 + 1)=((1:Nat):Int):=by decide
 simp only [hd,if_true,vR,h01,h1,Option.bind_some]
 exact ⟨_,rfl,h2⟩
theorem gga {fu:Nat} (l:List Int) (hn:l.Nodup) (hl:l.length≤2097152):∀ (fk k:Nat),l.length - k<fk→1≤k→∃ z,vq fu l fk k=some (.next z):=by
 intro fk
 induction fk with
 | zero=>intro k h; omega
 | succ fk ih =>
   intro k hk h1
   rw [vq]
   by_cases h:k<l.length
   · have h':(k:Int)<(l.length:Int):=by omega
     have hne:(l[k]==l[k - 1])=false:=by
       rw [beq_eq_false_iff_ne]
       intro e
       have:=(List.getElem_inj hn).1 e
       omega
     simp only [h',decide_true,if_true,xa h,gbb (show 0<k by omega) (show k≤2097152 by omega),xa (show k - 1<l.length by omega),Option.bind_some,hne,Bool.false_eq_true,if_false,xo h (show (l.length:Int)≤9223372036854775807 by omega)]
     exact ih (k + 1) (by omega) (by omega)
   · have h':¬(k:Int)<(l.length:Int):=by omega
     simp only [h',decide_false,Bool.false_eq_true,if_false]
     exact ⟨_,rfl⟩
theorem ght {fu:Nat} (l:List Int) (hn:l.Nodup) (hl:l.length≤2097152) (hfu:2097153≤fu):xq fu l=some l:=by
 unfold xq
 obtain ⟨z,hz⟩:=gga (fu:=fu) l hn hl fu 1 (by omega) (by omega)
 rw [show ((1:Nat):Int)=1 from rfl] at hz
 rw [hz]
 split <;> rfl
def meets (a b:List Int):Bool:=a.any fun x=>b.any fun y=>y==x
theorem ggA {fu:Nat} (a b:List Int) (ha:a.length≤2097152) (hb:b.length≤2097152) (hfu:2097153≤fu):∀ (fk i:Nat) (out:List Int),a.length - i<fk→i≤a.length→out.length≤i→∃ z,yd fu a b fk out i=some (out++(a.drop i).filter (fun x=>b.any fun y=>y==x),z):=by
 intro fk
 induction fk with
 | zero=>intro i _ h; omega
 | succ fk ih =>
   intro i out hk hi ho
   rw [yd]
   by_cases h:i<a.length
   · have h':(i:Int)<(a.length:Int):=by omega
     simp only [h',decide_true,if_true,xa h,Option.bind_some,gdR b a[i] (show b.length<fu by omega) hb]
     rw [←List.getElem_cons_drop h,List.filter_cons]
     by_cases hc:(b.any fun y=>y==a[i])=true
     · rw [if_pos hc,if_pos hc,zz (by simp; omega),Option.bind_some,xo h (by omega)]
       obtain ⟨z,hz⟩:=ih (i + 1) (out++[a[i]]) (by omega) h (by simp; omega)
       exact ⟨z,by rw [hz,List.append_assoc]; rfl⟩
     · rw [if_neg hc,if_neg hc,xo h (by omega)]
       exact ih (i + 1) out (by omega) h (by omega)
   · obtain rfl:i=a.length:=by omega
     have h':¬((a.length:Nat):Int)<(a.length:Int):=by omega
     simp only [h',decide_false,Bool.false_eq_true,if_false,List.drop_length,List.filter_nil,List.append_nil]
     exact ⟨_,rfl⟩
theorem ghq {a b:List Int}:(0<(a.filter fun x=>b.any fun y=>y==x).length)↔meets a b=true:=by
 unfold meets
 rw [List.length_pos_iff_exists_mem,List.any_eq_true]
 constructor
 rintro ⟨x,hx⟩
 rw [List.mem_filter] at hx
 exact ⟨x,hx⟩
 rintro ⟨x,hx⟩
 exact ⟨x,List.mem_filter.2 hx⟩
theorem giN {fu:Nat} (a b:List Int) (ha:a.length≤12) (hn:a.Nodup) (hb:b.length≤2097152) (hfu:2097153≤fu):∃ c,gbx fu a b=some c∧decide ((c.length:Int) > 0)=meets a b:=by
 unfold gbx
 obtain ⟨z,hz⟩:=ggA a b (by omega) hb hfu fu 0 [] (by omega) (by omega) (by simp)
 rw [show ((0:Nat):Int)=0 from rfl] at hz
 simp only [hz,Option.bind_some,List.nil_append,List.drop_zero]
 have hlen:(a.filter fun x=>b.any fun y=>y==x).length≤12:=Nat.le_trans (List.length_filter_le _ _) ha
 obtain ⟨l',h1,h2⟩:=gj6 hfu (a.filter fun x=>b.any fun y=>y==x) hlen
 have hnd:l'.Nodup:=h2.nodup_iff.2 (hn.filter _)
 have hl':=h2.length_eq
 rw [h1,Option.bind_some,ght l' hnd (by omega) hfu]
 refine ⟨l',rfl,?_⟩
 rw [Bool.eq_iff_iff,decide_eq_true_eq,←ghq]
 omega
end AT
namespace AT
theorem gj4 {fu:Nat} (hfu:2097153≤fu) (r:Route) (g:List Int) (hr:r.Fibers.length≤2097152) (hg:g.length≤2097152):gbg fu r g=some (meets r.Fibers g):=by
 unfold gbg
 rw [xb (l:=r.Fibers) (G:=x6 fu r g) (fun x=>g.any fun y=>y==x) (fun i=>true) (by omega)
   (fun fk i hi=>by
     have h':(i:Int)<(r.Fibers.length:Int):=by omega
     rw [x6]
     simp only [h',decide_true,if_true,xa hi,Option.bind_some,gd9 g r.Fibers[i] (show g.length<fu by omega) hg])
   (fun fk=>by rw [x6,if_neg (by simp)]) fu (by omega)]
 unfold meets
 cases r.Fibers.any fun x=>g.any fun y=>y==x <;> rfl
def gbA (b:Block):Bool:=decide (0≤b.First)&&(decide (1≤b.Count)&&decide (b.First + b.Count≤24))
theorem giq (fu:Nat) (b:Block):gbd fu b=some (gbA b):=by
 unfold gbd gbA
 simp only [gcW,Option.bind_some]
 by_cases h:0≤b.First∧b.First≤23
 have hc:(decide (0≤b.First)&&decide (b.First≤23))=true:=by simpa using h
 rw [vV (by omega) (by omega)]
 simp only [hc,if_true,Option.bind_some,Option.some.injEq]
 rw [Bool.eq_iff_iff]
 simp only [Bool.and_eq_true,decide_eq_true_eq]
 omega
 have hc:(decide (0≤b.First)&&decide (b.First≤23))=false:=by rw [Bool.eq_false_iff]; simp only [ne_eq,Bool.and_eq_true,decide_eq_true_eq]; exact h
 simp only [hc,Bool.false_eq_true,if_false,Option.bind_some,Option.some.injEq]
 rw [Bool.eq_iff_iff]
 simp only [Bool.and_eq_true,decide_eq_true_eq,Bool.false_eq_true,false_iff]
 omega
theorem gho (fu:Nat) (b:Block):yZ fu b=some (gbA b):=by
 unfold yZ gbA
 simp only [gbP,Option.bind_some]
 by_cases h0:0≤b.First
 by_cases h:1≤b.Count∧b.Count≤24
 have hc:(decide (1≤b.Count)&&decide (b.Count≤24))=true:=by simpa using h
 rw [vV (by omega) (by omega)]
 simp only [ge_iff_le,h0,hc,decide_true,if_true,Option.bind_some,Option.some.injEq,Bool.true_and]
 rw [Bool.eq_iff_iff]
 simp only [Bool.and_eq_true,decide_eq_true_eq]
 omega
 have hc:(decide (1≤b.Count)&&decide (b.Count≤24))=false:=by rw [Bool.eq_false_iff]; simp only [ne_eq,Bool.and_eq_true,decide_eq_true_eq]; exact h
 simp only [ge_iff_le,h0,hc,decide_true,if_true,Bool.false_eq_true,if_false,Option.bind_some,Option.some.injEq]
 rw [Bool.eq_iff_iff]
 simp only [Bool.and_eq_true,decide_eq_true_eq,Bool.false_eq_true,false_iff]
 omega
 simp [h0]
def bits (b:Block):Int:=(2 ^ b.Count.toNat - 1) * 2 ^ b.First.toNat
theorem gd7 {k:Nat} (h:k≤24):(1:Int)≤2 ^ k∧(2:Int) ^ k≤16777216:=by
 have h1:(2:Nat) ^ k≤2 ^ 24:=Nat.pow_le_pow_right (by omega) h
 have h2:1≤(2:Nat) ^ k:=Nat.one_le_two_pow
 have h3:((2 ^ k:Nat):Int)=2 ^ k:=by norm_cast
 omega
theorem ghy {b:Block} (h:gbA b=true):0≤bits b∧bits b<16777216:=by
  simp only [gbA,Bool.and_eq_true,decide_eq_true_eq] at h
  have e:(2:Int) ^ b.Count.toNat * 2 ^ b.First.toNat=2 ^ (b.Count.toNat + b.First.toNat):=(Int.pow_add _ _ _).symm
  have h1:=gd7 (show b.Count.toNat≤24 by omega)
  have h2:=gd7 (show b.First.toNat≤24 by omega)
  have h3:=gd7 (show b.Count.toNat + b.First.toNat≤24 by omega)
  unfold bits
  rw [Int.sub_mul,e,Int.one_mul]
  refine ⟨?_,by omega⟩
  have h4:(2:Int) ^ b.First.toNat≤2 ^ (b.Count.toNat + b.First.toNat):=by
    have:(2:Nat) ^ b.First.toNat≤2 ^ (b.Count.toNat + b.First.toNat):=Nat.pow_le_pow_right (by omega) (by omega)
    have e1:((2 ^ b.First.toNat:Nat):Int)=2 ^ b.First.toNat:=by norm_cast
    have e2:((2 ^ (b.Count.toNat + b.First.toNat):Nat):Int)=2 ^ (b.Count.toNat + b.First.toNat):=by norm_cast
    omega
  omega
theorem ggO {b:Block} (h:gbA b=true):((shl 1 b.Count).bind fun q=>(shl (w64 (q - 1)) b.First).bind fun q2=>some q2)=some (bits b):=by
 have hb:=ghy h
 simp only [gbA,Bool.and_eq_true,decide_eq_true_eq] at h
 have h1:=gd7 (show b.Count.toNat≤24 by omega)
 have m1:min b.Count.toNat 64=b.Count.toNat:=by omega
 have m2:min b.First.toNat 64=b.First.toNat:=by omega
 unfold shl
 rw [if_neg (show ¬b.Count<0 by omega),Option.bind_some,if_neg (show ¬b.First<0 by omega),m1,m2,Int.one_mul,vV (n:=2 ^ b.Count.toNat) (by omega) (by omega),vV (n:=2 ^ b.Count.toNat - 1) (by omega) (by omega)]
 have:(2 ^ b.Count.toNat - 1) * 2 ^ b.First.toNat=bits b:=rfl
 rw [this,vV (by omega) (by omega)]
 rfl
theorem gfV {fu:Nat} {b:Block} (h:gbA b=true):gbu fu b=some (bits b):=ggO h
theorem ghI {n:Int} (h:0≤n) (h':n<18446744073709551616):wu64 n=n:=by unfold wu64; omega
theorem gdl {fu:Nat} {b:Block} (h:gbA b=true):zf fu b=some (bits b):=by
 unfold zf
 have h':=h
 simp only [gbA,Bool.and_eq_true,decide_eq_true_eq] at h'
 rw [ghI (by omega) (by omega),ghI (by omega) (by omega)]
 exact ggO h
def gbt (n:Network) (x:Light):Bool:=(decide (1≤x.Id)&&decide (x.Id≤999))&&((zD n x.Route).isSome&&gbA x.Block)
theorem ghm {fu:Nat} (hfu:2097153≤fu) (n:Network) (x:Light) (hB:NetB n) (hr:x.Route.Fibers.length≤2097152):gaU fu n x=some (gbt n x):=by
 unfold gaU gbt
 rw [gg8 hfu n x.Route hB.2 hB.1.1 hr]
 simp only [gbP,gho,Option.bind_some]
 cases zD n x.Route with
 | none=>simp
 | some o=>cases hc:(decide (1≤x.Id)&&decide (x.Id≤999)) <;> simp [hc]
theorem ghi {fu:Nat} (hfu:2097153≤fu) (n:Network) (x:Light) (hB:NetB n) (hn:gcS n=true) (hr:x.Route.Fibers.length≤2097152):gaK fu n x=some (gbt n x):=by
 unfold gaK gbt
 simp only [gcW,giq,gis hfu n x.Route hB hr,hn,Bool.true_and,Option.bind_some]
 cases hc:(decide (1≤x.Id)&&decide (x.Id≤999))
 simp
 cases (zD n x.Route).isSome <;> simp
def coll (a b:Light):Bool:=meets a.Route.Fibers b.Route.Fibers&&(band (bits a.Block) (bits b.Block) != 0)
structure LightF (n:Network) (x:Light):Prop where
  nodup:x.Route.Fibers.Nodup
  short:x.Route.Fibers.length≤7
  blk:gbA x.Block=true
  route:∃ o,zD n x.Route=some o
  id:1≤x.Id∧x.Id≤999
theorem gfY {n:Network} {x:Light} (hn:gcS n=true) (h:gbt n x=true):LightF n x:=by
 unfold gbt at h
 simp only [Bool.and_eq_true,decide_eq_true_eq] at h
 obtain ⟨h1,h2,h3⟩:=h
 obtain ⟨o,ho⟩:=Option.isSome_iff_exists.1 h2
 have hf:=gfK (netF hn) ho
 exact ⟨hf.2.2.1,hf.2.2.2.1,h3,⟨o,ho⟩,h1⟩
theorem gf1 {fu:Nat} (hfu:2097153≤fu) {n:Network} {a b:Light} (ha:LightF n a) (hb:LightF n b):zT fu a b=some (coll a b):=by
 unfold zT coll
 have h1:=ha.short
 have h2:=hb.short
 rw [gj4 hfu a.Route b.Route.Fibers (by omega) (by omega)]
 simp only [gdl ha.blk,gdl hb.blk,Option.bind_some]
 cases meets a.Route.Fibers b.Route.Fibers <;> simp
theorem glw (q m:Bool):((if q=true then some m else some false).bind fun c=>some c)=some (m&&q):=by cases q <;> cases m <;> rfl
theorem ghu {fu:Nat} (hfu:2097153≤fu) {n:Network} {a b:Light} (ha:LightF n a) (hb:LightF n b):gaV fu a b=some (coll a b):=by
 unfold gaV coll
 have h1:=ha.short
 have h2:=hb.short
 obtain ⟨c,hc,hd⟩:=giN (fu:=fu) a.Route.Fibers b.Route.Fibers (by omega) ha.nodup (by omega) hfu
 rw [gfV ha.blk,Option.bind_some,gfV hb.blk,Option.bind_some,hc,Option.bind_some,hd]
 exact glw _ _
theorem ghQ {α R:Type} {l:List α} {G:Nat→Int→Option (Out Int R)} (p:Nat→Bool) (r:Nat→R) (hn:(l.length:Int)≤9223372036854775807)
    (hG:∀ fk (i:Nat) (h:i<l.length),(∀ j,j<i→p j=false)→G (fk + 1) i=if p i=true then some (.ret (r i)) else G fk (w64 ((i:Int) + 1)))
    (hz:∀ fk,G (fk + 1) l.length=some (.next (l.length:Int))):∀ (fk i:Nat),l.length - i<fk→i≤l.length→(∀ j,j<i→p j=false) →
    (∃ k,k<l.length∧i≤k∧p k=true∧(∀ j,j<k→p j=false)∧G fk i=some (.ret (r k)))∨((∀ j,j<l.length→p j=false)∧G fk i=some (.next (l.length:Int))):=by
 intro fk
 induction fk with
 | zero=>intro i h; omega
 | succ fk ih =>
   intro i hk hi hp
   by_cases h:i<l.length
   · rw [hG fk i h hp]
     by_cases hc:p i=true
     · rw [if_pos hc]
       exact .inl ⟨i,h,Nat.le_refl _,hc,hp,rfl⟩
     · rw [if_neg hc,xo h hn]
       rw [Bool.not_eq_true] at hc
       have hp':∀ j,j<i + 1→p j=false:=fun j hj=>by
         rcases Nat.lt_or_ge j i with h' | h'
         · exact hp j h'
         · obtain rfl:j=i:=by omega
           exact hc
       rcases ih (i + 1) (by omega) h hp' with ⟨k,k1,k2,k3,k4,k5⟩ | ⟨h1,h2⟩
       · exact .inl ⟨k,k1,by omega,k3,k4,k5⟩
       · exact .inr ⟨h1,h2⟩
   · obtain rfl:i=l.length:=by omega
     rw [hz]
     exact .inr ⟨hp,rfl⟩
theorem gfd {α R:Type} {l:List α} {G:Nat→Int→Option (Out Int R)} (p:Nat→Bool) (r:R) (hn:(l.length:Int)≤9223372036854775807)
    (hG:∀ fk (i:Nat) (h:i<l.length),(∀ j,j<i→p j=false)→G (fk + 1) i=if p i=true then some (.ret r) else G fk (w64 ((i:Int) + 1)))
    (hz:∀ fk,G (fk + 1) l.length=some (.next (l.length:Int))) (fk:Nat) (hk:l.length<fk):G fk 0=some (if (List.range l.length).any p=true then .ret r else .next (l.length:Int)):=by
 rcases ghQ p (fun _=>r) hn hG hz fk 0 (by omega) (by omega) (fun j h=>by omega) with ⟨k,k1,-,k3,-,k5⟩ | ⟨h1,h2⟩
 rw [if_pos (List.any_eq_true.2 ⟨k,List.mem_range.2 k1,k3⟩)]
 exact k5
 rw [if_neg]
 exact h2
 intro h
 obtain ⟨k,k1,k2⟩:=List.any_eq_true.1 h
 rw [h1 k (List.mem_range.1 k1)] at k2
 cases k2
def l0:Light:=⟨0,⟨0,[]⟩,⟨0,0⟩⟩
def zl (n:Network) (L:List Light) (i:Nat):Bool:=!gbt n (gd L i l0)||((decide (0<i)&&decide ((gd L (i - 1) l0).Id≥(gd L i l0).Id))||(L.take i).any fun y=>coll y (gd L i l0))
def vm (p:Plan):Bool:=gcS p.Network&&(decide (p.Lights.length≤12)&&!((List.range p.Lights.length).any (zl p.Network p.Lights)))
def yS (p:Plan):Prop:=NetB p.Network∧p.Lights.length≤2097152∧∀ x∈p.Lights,x.Route.Fibers.length≤2097152
theorem gh6 {n:Network} {L:List Light} {i:Nat} (h:i<L.length) (hp:∀ j,j<i→zl n L j=false):∀ y∈L.take i,gbt n y=true:=by
 intro y hy
 obtain ⟨j,hj,rfl⟩:=List.mem_iff_getElem.1 hy
 rw [List.length_take] at hj
 rw [List.getElem_take]
 have:=hp j (by omega)
 unfold zl at this
 rw [Bool.or_eq_false_iff,gbG l0 (show j<L.length by omega)] at this
 simpa using this.1
theorem gf9 {fu:Nat} (hfu:2097153≤fu) {n:Network} (l:List Light) (x:Light) (hl:l.length≤2097152) (hL:∀ y∈l,LightF n y) (hx:LightF n x):uC fu l x=some (l.any fun y=>coll y x):=by
 unfold uC uL
 rw [xb (l:=l) (G:=ut fu l x) (fun y=>coll y x) (fun i=>(i:Int)) (by omega)
   (fun fk i hi=>by
     have h':(i:Int)<(l.length:Int):=by omega
     rw [ut]
     simp only [h',decide_true,if_true,xa hi,Option.bind_some,zn,ghu hfu (hL _ (List.getElem_mem hi)) hx])
   (fun fk=>by rw [ut,if_neg (by simp)]) fu (by omega)]
 cases l.any fun y=>coll y x <;> simp [Out.on]
theorem gaC {fu:Nat} (hfu:2097153≤fu) (p:Plan) (hB:yS p):vP fu p=some (vm p):=by
 obtain ⟨hN,hL,hR⟩:=hB
 unfold vP vm
 rw [ghn hfu _ hN,Option.bind_some]
 cases hn:gcS p.Network
 rfl
 simp only [Bool.not_true,Bool.false_eq_true,if_false,Option.bind_some,Bool.true_and]
 by_cases h12:p.Lights.length≤12
 have h12':¬(p.Lights.length:Int) > 12:=by omega
 simp only [h12',decide_false,Bool.false_eq_true,if_false,h12,decide_true,Bool.true_and]
 rw [gfd (l:=p.Lights) (G:=vO fu p) (zl p.Network p.Lights) false (by omega)
   (fun fk i hi hp=>by
     have h':(i:Int)<(p.Lights.length:Int):=by omega
     have hr:=hR _ (gav l0 hi)
     rw [vO]
     simp only [h',decide_true,if_true,vW l0 hi,Option.bind_some,ghm hfu _ _ hN hr,gct (show i≤p.Lights.length by omega)]
     by_cases hl:gbt p.Network (gd p.Lights i l0)=true
     · have hf:=gfY hn hl
       have hc:=gf9 hfu (p.Lights.take i) (gd p.Lights i l0) (by simp; omega) (fun y hy=>gfY hn (gh6 hi hp y hy)) hf
       simp only [zl,hl,Bool.not_true,Bool.false_eq_true,if_false,hc,Option.bind_some,Bool.false_or]
       by_cases h0:0<i
       · have h0':(i:Int) > 0:=by omega
         simp only [h0',h0,decide_true,if_true,gbb h0 (show i≤2097152 by omega),vW l0 (show i - 1<p.Lights.length by omega),Option.bind_some,Bool.true_and]
         by_cases hid:(gd p.Lights (i - 1) l0).Id≥(gd p.Lights i l0).Id
         · simp [hid]
         · simp only [hid,decide_false,Bool.false_eq_true,if_false,Bool.false_or,Option.bind_some]
       · have h0':¬(i:Int) > 0:=by omega
         simp only [h0',h0,decide_false,Bool.false_eq_true,if_false,Bool.false_and,Bool.false_or,Option.bind_some]
     · rw [Bool.not_eq_true] at hl
       simp [zl,hl])
   (fun fk=>by rw [vO,if_neg (by simp)]) fu (by omega)]
 cases (List.range p.Lights.length).any (zl p.Network p.Lights) <;> rfl
 have h12':(p.Lights.length:Int) > 12:=by omega
 simp [h12',h12]
theorem yP {fu:Nat} (hfu:2097153≤fu) (p:Plan) (hB:yS p):xr fu p=some (vm p):=by
  obtain ⟨hN,hL,hR⟩:=hB
  unfold xr vm
  rw [geW hfu _ hN,Option.bind_some]
  cases hn:gcS p.Network
  · rfl
  · simp only [Bool.not_true,Bool.false_eq_true,if_false,Option.bind_some,Bool.true_and]
    by_cases h12:p.Lights.length≤12
    · have h12':¬(p.Lights.length:Int) > 12:=by omega
      simp only [h12',decide_false,Bool.false_eq_true,if_false,h12,decide_true,Bool.true_and]
      rw [gfd (l:=p.Lights) (G:=x2 fu p) (zl p.Network p.Lights) false (by omega)
        (fun fk i hi hp=>by
          have h':(i:Int)<(p.Lights.length:Int):=by omega
          have hr:=hR _ (gav l0 hi)
          rw [x2]
          simp only [h',decide_true,if_true,vW l0 hi,Option.bind_some,ghi hfu _ _ hN hn hr]
          by_cases hl:gbt p.Network (gd p.Lights i l0)=true
          · have hf:=gfY hn hl
            have hc:xB fu p i fu 0=some (if (List.range (p.Lights.take i).length).any (fun k=>coll (gd p.Lights k l0) (gd p.Lights i l0))=true then .ret false else .next ((p.Lights.take i).length:Int)) :=
              gfd (l:=p.Lights.take i) (G:=xB fu p i) (fun k=>coll (gd p.Lights k l0) (gd p.Lights i l0)) false (by simp; omega)
                (fun fk k hk _=>by
                  have hk':k<i:=by simp at hk; omega
                  have hk2:(k:Int)<(i:Int):=by omega
                  have hfk:=gfY hn (gh6 hi hp (gd p.Lights k l0) (by
                    rw [gbG l0 (show k<p.Lights.length by omega)]
                    refine List.mem_iff_getElem.2 ⟨k,hk,by rw [List.getElem_take]⟩))
                  rw [xB]
                  simp only [hk2,decide_true,if_true,vW l0 hi,vW l0 (show k<p.Lights.length by omega),Option.bind_some,gf1 hfu hfk hf])
                (fun fk=>by
                  have:(p.Lights.take i).length=i:=by simp; omega
                  rw [this,xB,if_neg (by simp)]) fu (by simp; omega)
            have ha:(List.range (p.Lights.take i).length).any (fun k=>coll (gd p.Lights k l0) (gd p.Lights i l0))=(p.Lights.take i).any fun y=>coll y (gd p.Lights i l0):=by
              rw [Bool.eq_iff_iff,List.any_eq_true,List.any_eq_true]
              constructor
              · rintro ⟨k,k1,k2⟩
                have k1':=List.mem_range.1 k1
                have hk':k<i:=by simp at k1'; omega
                rw [gbG l0 (show k<p.Lights.length by omega)] at k2
                exact ⟨_,List.mem_iff_getElem.2 ⟨k,k1',by rw [List.getElem_take]⟩,k2⟩
              · rintro ⟨y,y1,y2⟩
                obtain ⟨k,k1,rfl⟩:=List.mem_iff_getElem.1 y1
                have hk':k<i:=by simp at k1; omega
                refine ⟨k,List.mem_range.2 k1,?_⟩
                rw [gbG l0 (show k<p.Lights.length by omega)]
                rw [List.getElem_take] at y2
                exact y2
            rw [ha] at hc
            simp only [zl,hl,Bool.not_true,Bool.false_eq_true,if_false,hc,Option.bind_some,Bool.false_or]
            by_cases h0:0<i
            · have h0':(i:Int) > 0:=by omega
              simp only [h0',h0,decide_true,if_true,gbb h0 (show i≤2097152 by omega),vW l0 (show i - 1<p.Lights.length by omega),Option.bind_some,Bool.true_and]
              by_cases hid:(gd p.Lights (i - 1) l0).Id≥(gd p.Lights i l0).Id
              · simp [hid]
              · simp only [hid,decide_false,Bool.false_eq_true,if_false,Bool.false_or,Option.bind_some]
                cases (p.Lights.take i).any fun y=>coll y (gd p.Lights i l0) <;> rfl
            · have h0':¬(i:Int) > 0:=by omega
              simp only [h0',h0,decide_false,Bool.false_eq_true,if_false,Bool.false_and,Bool.false_or,Option.bind_some]
              cases (p.Lights.take i).any fun y=>coll y (gd p.Lights i l0) <;> rfl
          · rw [Bool.not_eq_true] at hl
            simp [zl,hl])
        (fun fk=>by rw [x2,if_neg (by simp)]) fu (by omega)]
      cases (List.range p.Lights.length).any (zl p.Network p.Lights) <;> rfl
    · have h12':(p.Lights.length:Int) > 12:=by omega
      simp [h12',h12]
structure PlanF (p:Plan):Prop where
  net:gcS p.Network=true
  short:p.Lights.length≤12
  light:∀ x∈p.Lights,LightF p.Network x
theorem ghe {p:Plan} (h:vm p=true):PlanF p:=by
 unfold vm at h
 simp only [Bool.and_eq_true,decide_eq_true_eq,Bool.not_eq_true'] at h
 obtain ⟨h1,h2,h3⟩:=h
 refine ⟨h1,h2,fun x hx=>?_⟩
 obtain ⟨i,hi,rfl⟩:=List.mem_iff_getElem.1 hx
 rw [Bool.eq_false_iff] at h3
 have h6:zl p.Network p.Lights i=false:=by
   rw [Bool.eq_false_iff]
   intro h7
   exact h3 (List.any_eq_true.2 ⟨i,List.mem_range.2 hi,h7⟩)
 unfold zl at h6
 rw [Bool.or_eq_false_iff,gbG l0 hi] at h6
 exact gfY h1 (by simpa using h6.1)
end AT
namespace AT
def apart (a b:Int):Bool:=band a b==0
def has (l:List Int) (f:Int):Bool:=l.any fun x=>x==f
def used (L:List Light) (f:Int):Int:=L.foldl (fun o y=>if has y.Route.Fibers f=true then bor o (bits y.Block) else o) 0
def along (L:List Light) (fs:List Int):Int:=fs.foldl (fun o f=>bor o (used L f)) 0
end AT
namespace AT
theorem ghM {fu:Nat} (hfu:2097153≤fu) (p:Plan) (f:Int) (hl:p.Lights.length≤2097152) (hb:∀ y∈p.Lights,gbA y.Block=true) (hr:∀ x∈p.Lights,x.Route.Fibers.length≤2097152):∀ (fk i:Nat) (o:Int),i≤p.Lights.length→p.Lights.length - i<fk →
    ∃ z,xX fu p f fk o i=some ((p.Lights.drop i).foldl (fun o y=>if has y.Route.Fibers f=true then bor o (bits y.Block) else o) o,z):=by
 intro fk
 induction fk with
 | zero=>intro i _ _ h; omega
 | succ fk ih =>
   intro i o hi hk
   rw [xX]
   by_cases h:i<p.Lights.length
   · have h':(i:Int)<(p.Lights.length:Int):=by omega
     have hm:=List.getElem_mem h
     have hr':=hr _ hm
     simp only [h',decide_true,if_true,xa h,Option.bind_some,gd9 _ f (show p.Lights[i].Route.Fibers.length<fu by omega) hr',gdl (hb _ hm)]
     rw [←List.getElem_cons_drop h,List.foldl_cons,xo h (by omega)]
     have e:(p.Lights[i].Route.Fibers.any fun x=>x==f)=has p.Lights[i].Route.Fibers f:=rfl
     rw [e]
     by_cases hc:has p.Lights[i].Route.Fibers f=true
     · rw [if_pos hc,if_pos hc]
       exact ih (i + 1) _ h (by omega)
     · rw [if_neg hc,if_neg hc]
       exact ih (i + 1) _ h (by omega)
   · obtain rfl:i=p.Lights.length:=by omega
     rw [if_neg (by simp),List.drop_length]
     exact ⟨_,rfl⟩
theorem gip {fu:Nat} (hfu:2097153≤fu) (p:Plan) (f:Int) (hl:p.Lights.length≤2097152) (hb:∀ y∈p.Lights,gbA y.Block=true) (hr:∀ x∈p.Lights,x.Route.Fibers.length≤2097152):gbc fu p f=some (used p.Lights f):=by
 unfold gbc
 obtain ⟨z,hz⟩:=ghM hfu p f hl hb hr fu 0 0 (by omega) (by omega)
 rw [show ((0:Nat):Int)=0 from rfl,List.drop_zero] at hz
 rw [hz]
 rfl
end AT
namespace AT
theorem gbC {α:Type} {l:List α} (h:l.length≤1099511627776):app ([]:List α) l=some l:=by rw [zz (by simpa using h)]; rfl
theorem gbU (fu:Nat) (x:Light) (h:x.Route.Fibers.length≤2097152):yM fu x=some x:=by
 unfold yM gaw gac
 rw [gbC (by omega)]
 rfl
theorem gjh {fu:Nat} (p:Plan) (hl:p.Lights.length≤2097152) (hr:∀ x∈p.Lights,x.Route.Fibers.length≤2097152):∀ (fk i:Nat) (m:List Light),i≤p.Lights.length→p.Lights.length - i<fk→m.length≤i→∃ z,xz fu p fk i m=some (z,m++p.Lights.drop i):=by
 intro fk
 induction fk with
 | zero=>intro i _ _ h; omega
 | succ fk ih =>
   intro i m hi hk hm
   rw [xz]
   by_cases h:i<p.Lights.length
   · have h':(i:Int)<(p.Lights.length:Int):=by omega
     simp only [h',decide_true,if_true,xa h,Option.bind_some,gbU fu _ (hr _ (List.getElem_mem h))]
     rw [zz (by simp; omega),Option.bind_some,xo h (by omega)]
     obtain ⟨z,hz⟩:=ih (i + 1) (m++[p.Lights[i]]) h (by omega) (by simp; omega)
     refine ⟨z,?_⟩
     rw [hz,List.append_assoc,←List.getElem_cons_drop h]
     rfl
   · obtain rfl:i=p.Lights.length:=by omega
     rw [if_neg (by simp),List.drop_length,List.append_nil]
     exact ⟨_,rfl⟩
theorem gd8 {fu:Nat} (hfu:2097153≤fu) (p:Plan) (hB:yS p):zB fu p=some p:=by
 obtain ⟨hN,hL,hR⟩:=hB
 unfold zB gcu
 have h1:=hN.1.1
 have h2:=hN.2
 rw [gbC (by omega),Option.bind_some,gbC (by omega)]
 obtain ⟨z,hz⟩:=gjh (fu:=fu) p hL hR fu 0 [] (by omega) (by omega) (by simp)
 rw [show ((0:Nat):Int)=0 from rfl] at hz
 simp only [Option.bind_some,hz,List.nil_append,List.drop_zero]
theorem gcl {fu:Nat} (hfu:2097153≤fu) (p:Plan) (hB:yS p) {i:Nat} (hi:i<p.Lights.length):zA fu p i=some { Network:=p.Network,Lights:=p.Lights.eraseIdx i }:=by
 have hl:=hB.2.1
 unfold zA
 rw [gd8 hfu p hB,Option.bind_some,gct (by omega),Option.bind_some,xo hi (by omega)]
 have hs:sub p.Lights ((i + 1:Nat):Int) (p.Lights.length:Int)=some (p.Lights.drop (i + 1)):=by
   unfold sub
   rw [if_pos (by omega)]
   simp
 rw [hs,Option.bind_some,gbC (by simp; omega),Option.bind_some,zz (by simp; omega),Option.bind_some,List.eraseIdx_eq_take_drop_succ]
theorem ghB {fu:Nat} (hfu:2097153≤fu) (p:Plan) (r:Route) (hl:p.Lights.length≤2097152) (hb:∀ y∈p.Lights,gbA y.Block=true) (hr:∀ x∈p.Lights,x.Route.Fibers.length≤2097152) (hrl:r.Fibers.length≤2097152):∀ (fk i:Nat) (o:Int),i≤r.Fibers.length→r.Fibers.length - i<fk →
    ∃ z,ym fu p r fk o i=some ((r.Fibers.drop i).foldl (fun o f=>bor o (used p.Lights f)) o,z):=by
 intro fk
 induction fk with
 | zero=>intro i _ _ h; omega
 | succ fk ih =>
   intro i o hi hk
   rw [ym]
   by_cases h:i<r.Fibers.length
   · have h':(i:Int)<(r.Fibers.length:Int):=by omega
     simp only [h',decide_true,if_true,xa h,Option.bind_some,gip hfu p _ hl hb hr]
     rw [←List.getElem_cons_drop h,List.foldl_cons,xo h (by omega)]
     exact ih (i + 1) _ h (by omega)
   · obtain rfl:i=r.Fibers.length:=by omega
     rw [if_neg (by simp),List.drop_length]
     exact ⟨_,rfl⟩
theorem ghj {fu:Nat} (hfu:2097153≤fu) (p:Plan) (r:Route) (hl:p.Lights.length≤2097152) (hb:∀ y∈p.Lights,gbA y.Block=true) (hr:∀ x∈p.Lights,x.Route.Fibers.length≤2097152) (hrl:r.Fibers.length≤2097152):gaL fu p r=some (along p.Lights r.Fibers):=by
 unfold gaL
 obtain ⟨z,hz⟩:=ghB hfu p r hl hb hr hrl fu 0 0 (by omega) (by omega)
 rw [show ((0:Nat):Int)=0 from rfl,List.drop_zero] at hz
 rw [hz]
 rfl
def fits (m C:Int):List Int:=((List.range' 0 (25 - C.toNat)).filter fun t:Nat=>apart m (bits ⟨(t:Int),C⟩)).map fun t:Nat=>(t:Int)
theorem giG {fu:Nat} (m C:Int) (N:Nat) (hN:(N:Int) + C=25) (h1:1≤C):∀ (fk k s:Nat) (out:List Int),N=s + k→k<fk→out.length≤s →
    ∃ z,x5 fu m C fk out s=some (out++(((List.range' s k).filter fun t:Nat=>apart m (bits ⟨(t:Int),C⟩)).map fun t:Nat=>(t:Int)),z):=by
 intro fk
 induction fk with
 | zero=>intro k s _ _ h; omega
 | succ fk ih =>
   intro k s out hs hk ho
   have hw0:w64 ((s:Int) + C)=(s:Int) + C:=vV (by omega) (by omega)
   rw [x5,hw0]
   clear hw0
   cases k with
   | zero =>
     have h':¬(s:Int) + C≤24:=by omega
     simp only [h',decide_false,Bool.false_eq_true,if_false,List.range'_zero,List.filter_nil,List.map_nil,List.append_nil]
     exact ⟨_,rfl⟩
   | succ k =>
     have h':(s:Int) + C≤24:=by omega
     have hb:gbA ⟨(s:Int),C⟩=true:=by simp only [gbA,Bool.and_eq_true,decide_eq_true_eq]; omega
     obtain ⟨c,hc⟩:∃ c,apart m (bits ⟨(s:Int),C⟩)=c:=⟨_,rfl⟩
     obtain ⟨b,hb1,hb2⟩:∃ b,zf fu ⟨(s:Int),C⟩=some b∧(band m b==0)=c:=⟨_,gdl hb,hc⟩
     have hw:w64 ((s:Int) + 1)=((s + 1:Nat):Int):=by rw [vV (by omega) (by omega)]; omega
     rw [List.range'_succ,List.filter_cons,hc,hb1]
     clear hb1 hc hb
     rw [if_pos (by simpa using h'),Option.bind_some,hb2,hw]
     clear hw hb2
     cases c
     · rw [if_neg (by decide),if_neg (by decide)]
       exact ih k (s + 1) out (by omega) (by omega) (by omega)
     · have ha:app out [(s:Int)]=some (out++[(s:Int)]):=zz (by simp; omega)
       rw [if_pos rfl,if_pos rfl,ha,Option.bind_some]
       obtain ⟨z,hz⟩:=ih k (s + 1) (out++[(s:Int)]) (by omega) (by omega) (by simp; omega)
       exact ⟨z,by rw [hz,List.map_cons,List.append_assoc,List.singleton_append]⟩
theorem gir {fu:Nat} (hfu:2097153≤fu) (m C:Int) (h1:1≤C) (h2:C≤24):gbe fu m C=some (fits m C):=by
 unfold gbe fits
 obtain ⟨N,hN⟩:∃ N,N=25 - C.toNat:=⟨_,rfl⟩
 rw [←hN]
 obtain ⟨z,hz⟩:=giG (fu:=fu) m C N (by omega) h1 fu N 0 [] (by omega) (by omega) (by simp)
 rw [show ((0:Nat):Int)=0 from rfl] at hz
 rw [hz]
 rfl
theorem gjt {m C:Int} {s:Int} (h1:1≤C) (h2:C≤24):s∈fits m C↔0≤s∧s + C≤24∧apart m (bits ⟨s,C⟩)=true:=by
 unfold fits
 simp only [List.mem_map,List.mem_filter,List.mem_range'_1]
 constructor
 rintro ⟨t,⟨⟨-,ht⟩,ha⟩,rfl⟩
 exact ⟨by omega,by omega,ha⟩
 rintro ⟨h0,h3,ha⟩
 refine ⟨s.toNat,⟨⟨by omega,by omega⟩,?_⟩,by omega⟩
 rw [Int.toNat_of_nonneg h0]
 exact ha
theorem gju (m C:Int):(fits m C).length≤25:=by
 unfold fits
 rw [List.length_map]
 refine Nat.le_trans (List.length_filter_le _ _) ?_
 rw [List.length_range']
 omega
structure PlanI (p:Plan):Prop where
  ids:∀ i j,i<j→j<p.Lights.length→(gd p.Lights i l0).Id<(gd p.Lights j l0).Id
theorem gk7 {p:Plan} (h:vm p=true):PlanI p:=by
 unfold vm at h
 simp only [Bool.and_eq_true,decide_eq_true_eq,Bool.not_eq_true'] at h
 obtain ⟨h1,h2,h3⟩:=h
 rw [Bool.eq_false_iff] at h3
 have adj:∀ j,0<j→j<p.Lights.length→(gd p.Lights (j - 1) l0).Id<(gd p.Lights j l0).Id:=fun j h0 hj=>by
   have h6:zl p.Network p.Lights j=false:=by
     rw [Bool.eq_false_iff]
     intro h7
     exact h3 (List.any_eq_true.2 ⟨j,List.mem_range.2 hj,h7⟩)
   unfold zl at h6
   rw [Bool.or_eq_false_iff,Bool.or_eq_false_iff] at h6
   have:=h6.2.1
   simp only [h0,decide_true,Bool.true_and,decide_eq_false_iff_not] at this
   omega
 refine ⟨fun i j=>?_⟩
 induction j with
 | zero=>intro h; omega
 | succ j ih =>
   intro hij hj
   have:=adj (j + 1) (by omega) hj
   rw [Nat.add_sub_cancel] at this
   rcases Nat.lt_or_ge i j with h' | h'
   · have:=ih h' (by omega)
     omega
   · obtain rfl:i=j:=by omega
     exact this
end AT
namespace AT
theorem gdw {p:Plan}:vm p=true↔gcS p.Network=true∧p.Lights.length≤12∧(∀ x∈p.Lights,gbt p.Network x=true)∧p.Lights.Pairwise (fun a b=>a.Id<b.Id∧coll a b=false):=by
 constructor
 intro h
 have hI:=gk7 h
 have h':=h
 unfold vm at h
 simp only [Bool.and_eq_true,decide_eq_true_eq,Bool.not_eq_true'] at h
 obtain ⟨h1,h2,h3⟩:=h
 have hb:∀ j,j<p.Lights.length→zl p.Network p.Lights j=false:=fun j hj=>by
   rw [Bool.eq_false_iff]
   intro h7
   rw [Bool.eq_false_iff] at h3
   exact h3 (List.any_eq_true.2 ⟨j,List.mem_range.2 hj,h7⟩)
 refine ⟨h1,h2,fun x hx=>?_,List.pairwise_iff_getElem.2 fun i j hi hj hij=>⟨?_,?_⟩⟩
 obtain ⟨i,hi,rfl⟩:=List.mem_iff_getElem.1 hx
 have:=hb i hi
 unfold zl at this
 rw [Bool.or_eq_false_iff,gbG l0 hi] at this
 simpa using this.1
 have:=hI.ids i j hij hj
 rwa [gbG l0 hi,gbG l0 hj] at this
 have:=hb j hj
 unfold zl at this
 rw [Bool.or_eq_false_iff,Bool.or_eq_false_iff,gbG l0 hj] at this
 rw [Bool.eq_false_iff]
 intro hc
 have h5:=this.2.2
 rw [Bool.eq_false_iff] at h5
 exact h5 (List.any_eq_true.2 ⟨p.Lights[i],List.mem_iff_getElem.2 ⟨i,by rw [List.length_take]; omega,by rw [List.getElem_take]⟩,hc⟩)
 rintro ⟨h1,h2,h3,h4⟩
 rw [List.pairwise_iff_getElem] at h4
 unfold vm
 simp only [Bool.and_eq_true,decide_eq_true_eq,Bool.not_eq_true']
 refine ⟨h1,h2,?_⟩
 rw [Bool.eq_false_iff]
 intro h
 obtain ⟨j,hj,hb⟩:=List.any_eq_true.1 h
 have hj':=List.mem_range.1 hj
 unfold zl at hb
 rw [Bool.or_eq_true,Bool.or_eq_true,gbG l0 hj',h3 _ (List.getElem_mem hj')] at hb
 rcases hb with hb | hb | hb
 cases hb
 simp only [Bool.and_eq_true,decide_eq_true_eq] at hb
 rw [gbG l0 (show j - 1<p.Lights.length by omega)] at hb
 have:=(h4 (j - 1) j (by omega) hj' (by omega)).1
 omega
 obtain ⟨y,hy,hc⟩:=List.any_eq_true.1 hb
 obtain ⟨i,hi,rfl⟩:=List.mem_iff_getElem.1 hy
 rw [List.length_take] at hi
 rw [List.getElem_take,(h4 i j (by omega) hj' (by omega)).2] at hc
 cases hc
theorem gfL {p:Plan} (h:vm p=true) (i:Nat):vm { p with Lights:=p.Lights.eraseIdx i }=true:=by
 obtain ⟨h1,h2,h3,h4⟩:=gdw.1 h
 refine gdw.2 ⟨h1,?_,fun x hx=>h3 x (List.mem_of_mem_eraseIdx hx),h4.sublist (List.eraseIdx_sublist _ _)⟩
 exact Nat.le_trans (List.eraseIdx_sublist p.Lights i).length_le h2
end AT
namespace AT
def atId (L:List Light) (id:Int):Nat:=L.findIdx fun y=>y.Id==id
theorem gbB {L:List Light} {id:Int} (h:(L.any fun y=>y.Id==id)=true):atId L id<L.length:=by
 unfold atId
 rw [List.findIdx_lt_length]
 obtain ⟨x,hx,hc⟩:=List.any_eq_true.1 h
 exact ⟨x,hx,hc⟩
theorem gdk {fu:Nat} (p:Plan) (id:Int) (h:p.Lights.length<fu) (hn:p.Lights.length≤2097152):yl fu p id=some (if p.Lights.any (fun y=>y.Id==id) then ((atId p.Lights id:Nat):Int) else -1):=by
 unfold yl
 rw [xb (l:=p.Lights) (G:=x4 fu p id) (fun y=>y.Id==id) (fun i=>(i:Int)) (by omega)
   (fun fk i hi=>by
     have h':(i:Int)<(p.Lights.length:Int):=by omega
     rw [x4]
     simp only [h',decide_true,if_true,xa hi,Option.bind_some])
   (fun fk=>by rw [x4,if_neg (by simp)]) fu h]
 unfold atId
 cases p.Lights.any fun y=>y.Id==id <;> rfl
theorem gdy {fu:Nat} (p:Plan) (id:Int) (h:p.Lights.length<fu) (hn:p.Lights.length≤2097152):yF fu p id=some (if p.Lights.any (fun y=>y.Id==id) then ((atId p.Lights id:Nat):Int) else -1):=by
 unfold yF uR
 rw [xb (l:=p.Lights) (G:=uw fu p.Lights id) (fun y=>y.Id==id) (fun i=>(i:Int)) (by omega)
   (fun fk i hi=>by
     have h':(i:Int)<(p.Lights.length:Int):=by omega
     rw [uw]
     simp only [h',decide_true,if_true,xa hi,Option.bind_some,gap])
   (fun fk=>by rw [uw,if_neg (by simp)]) fu h]
 unfold atId
 cases p.Lights.any fun y=>y.Id==id <;> rfl
end AT
namespace AT
theorem giH {α:Type} {l:List α} {G:Nat→Int→Option Int} (p:α→Bool) (hn:(l.length:Int)≤9223372036854775807)
    (hG:∀ fk (i:Nat) (h:i<l.length),G (fk + 1) i=if p l[i]=true then some (i:Int) else G fk (w64 ((i:Int) + 1)))
    (hz:∀ fk,G (fk + 1) l.length=some (l.length:Int)):∀ (fk i:Nat),l.length - i<fk→i≤l.length→G fk i=some ((i + (l.drop i).findIdx p:Nat):Int):=by
 intro fk
 induction fk with
 | zero=>intro i h; omega
 | succ fk ih =>
   intro i hk hi
   by_cases h:i<l.length
   · rw [hG fk i h,←List.getElem_cons_drop h,List.findIdx_cons]
     by_cases hp:p l[i]=true
     · simp [hp]
     · simp only [hp,Bool.false_eq_true,if_false,cond_false]
       rw [xo h hn,ih (i + 1) (by omega) h]
       congr 2
       omega
   · obtain rfl:i=l.length:=by omega
     rw [hz,List.drop_length]; rfl
theorem gjv {α:Type} {l:List α} {G:Nat→Int→Option Int} (p:α→Bool) (hn:(l.length:Int)≤9223372036854775807)
    (hG:∀ fk (i:Nat) (h:i<l.length),G (fk + 1) i=if p l[i]=true then some (i:Int) else G fk (w64 ((i:Int) + 1)))
    (hz:∀ fk,G (fk + 1) l.length=some (l.length:Int)) (fk:Nat) (hk:l.length<fk):G fk 0=some ((l.findIdx p:Nat):Int):=by
 have:=giH p hn hG hz fk 0 (by omega) (by omega)
 simpa using this
def gdY (L:List Light) (id:Int):Nat:=L.findIdx fun y=>!decide (y.Id<id)
def putL (L:List Light) (x:Light):List Light:=L.take (gdY L x.Id)++x::L.drop (gdY L x.Id)
theorem gfn (L:List Light) (id:Int):gdY L id≤L.length:=List.findIdx_le_length
theorem ggV (L:List Light) (x:Light):(putL L x).length=L.length + 1:=by
 have:=gfn L x.Id
 unfold putL
 rw [List.length_append,List.length_cons,List.length_take,List.length_drop]
 omega
theorem gdf {L:List Light} {x y:Light}:y∈putL L x↔y=x∨y∈L:=by
 unfold putL
 rw [List.mem_append,List.mem_cons]
 constructor
 rintro (h | h | h)
 exact .inr (List.mem_of_mem_take h)
 exact .inl h
 exact .inr (List.mem_of_mem_drop h)
 rintro (h | h)
 exact .inr (.inl h)
 rw [←List.take_append_drop (gdY L x.Id) L,List.mem_append] at h
 rcases h with h | h
 exact .inl h
 exact .inr (.inr h)
theorem ghp {α:Type} {p:α→Bool} {l:List α} {i:Nat} (hi:i≤l.length) (h:∀ j (hj:j<l.length),j<i→p l[j]=false) (h':∀ hj:i<l.length,p l[i]=true):l.findIdx p=i:=by
 rcases Nat.lt_or_ge i l.length with hj | hj
 rw [List.findIdx_eq hj]
 exact ⟨h' hj,fun j hji=>h j (by omega) hji⟩
 obtain rfl:i=l.length:=by omega
 rw [List.findIdx_eq_length]
 intro x hx
 obtain ⟨j,hj',rfl⟩:=List.mem_iff_getElem.1 hx
 exact h j hj' hj'
theorem giS {L:List Light} {id:Int} (h:(L.any fun y=>y.Id==id)=true):(gd L (atId L id) l0).Id=id:=by
 have hl:=gbB h
 rw [gbG l0 hl]
 have:=List.findIdx_getElem (w:=hl)
 rw [beq_iff_eq] at this
 exact this
theorem gh5 {L:List Light} (hid:∀ a b,a<b→b<L.length→(gd L a l0).Id<(gd L b l0).Id) {i:Nat} (hi:i<L.length) {x:Light} (hx:x.Id=(gd L i l0).Id):putL (L.eraseIdx i) x=L.set i x:=by
 have hlen:(L.eraseIdx i).length=L.length - 1:=by rw [List.length_eraseIdx]; simp [hi]
 have hat:gdY (L.eraseIdx i) x.Id=i:=by
   unfold gdY
   refine ghp (by omega) (fun j hj hji=>?_) (fun hj=>?_)
   · rw [List.getElem_eraseIdx_of_lt hj hji]
     have:=hid j i hji hi
     rw [gbG l0 (by omega)] at this
     simp only [Bool.not_eq_false',decide_eq_true_eq]
     omega
   · rw [List.getElem_eraseIdx_of_ge hj (by omega)]
     have:=hid i (i + 1) (by omega) (by omega)
     rw [gbG l0 (show i + 1<L.length by omega)] at this
     simp only [Bool.not_eq_true',decide_eq_false_iff_not]
     omega
 unfold putL
 rw [hat,List.set_eq_take_append_cons_drop,if_pos hi]
 have e1:(L.eraseIdx i).take i=L.take i:=by rw [List.eraseIdx_eq_take_drop_succ,List.take_append_of_le_length (by rw [List.length_take]; omega),List.take_take,Nat.min_self]
 have e2:(L.eraseIdx i).drop i=L.drop (i + 1):=by
   rw [List.eraseIdx_eq_take_drop_succ,List.drop_append_of_le_length (by rw [List.length_take]; omega),List.drop_take,Nat.sub_self]
   simp
 rw [e1,e2]
end AT
namespace AT
theorem gbL (fu:Nat) (r:Route) (h:r.Fibers.length≤2097152):yc fu r=some r:=by
 unfold yc
 rw [gbC (by omega)]
 rfl
theorem giL {fu:Nat} (p:Plan) (hl:p.Lights.length≤2097152) (hr:∀ x∈p.Lights,x.Route.Fibers.length≤2097152):∀ (fk i:Nat) (m:List Light),i≤p.Lights.length→p.Lights.length - i<fk→m.length≤i→∃ z,xN fu p fk i m=some (z,m++p.Lights.drop i):=by
 intro fk
 induction fk with
 | zero=>intro i _ _ h; omega
 | succ fk ih =>
   intro i m hi hk hm
   rw [xN]
   by_cases h:i<p.Lights.length
   · have h':(i:Int)<(p.Lights.length:Int):=by omega
     simp only [h',decide_true,if_true,xa h,Option.bind_some,gbL fu _ (hr _ (List.getElem_mem h))]
     rw [zz (by simp; omega),Option.bind_some,xo h (by omega)]
     obtain ⟨z,hz⟩:=ih (i + 1) (m++[p.Lights[i]]) h (by omega) (by simp; omega)
     refine ⟨z,?_⟩
     rw [hz,List.append_assoc,←List.getElem_cons_drop h]
     rfl
   · obtain rfl:i=p.Lights.length:=by omega
     rw [if_neg (by simp),List.drop_length,List.append_nil]
     exact ⟨_,rfl⟩
theorem gb5 {fu:Nat} (hfu:2097153≤fu) (p:Plan) (hB:yS p):xW fu p=some p:=by
 obtain ⟨hN,hL,hR⟩:=hB
 unfold xW z6
 have h1:=hN.1.1
 have h2:=hN.2
 rw [gbC (by omega),Option.bind_some,gbC (by omega)]
 obtain ⟨z,hz⟩:=giL (fu:=fu) p hL hR fu 0 [] (by omega) (by omega) (by simp)
 rw [show ((0:Nat):Int)=0 from rfl] at hz
 simp only [Option.bind_some,hz,List.nil_append,List.drop_zero]
end AT
namespace AT
theorem gjZ {a b:List Int} (h:a.length=b.length):(List.range a.length).any (fun i=>gd a i 0 != gd b i 0)=!decide (a=b):=by
 rw [Bool.eq_iff_iff,List.any_eq_true]
 simp only [List.mem_range,bne_iff_ne,ne_eq,Bool.not_eq_true',decide_eq_false_iff_not]
 constructor
 rintro ⟨i,hi,hne⟩ rfl
 exact hne rfl
 intro hne
 rcases Classical.em (∃ i,i<a.length∧¬gd a i 0=gd b i 0) with h1 | h1
 exact h1
 refine absurd (List.ext_getElem h fun i h2 h3=>?_) hne
 rcases Classical.em (a[i]=b[i]) with h4 | h4
 exact h4
 exact absurd ⟨i,h2,by rw [gbG 0 h2,gbG 0 h3]; exact h4⟩ h1
theorem gix {fu:Nat} (hfu:2097153≤fu) (a b:List Int) (ha:a.length≤2097152):gbp fu a b=some (decide (a=b)):=by
 unfold gbp
 by_cases h:a.length=b.length
 have h1:((a.length:Int) != (b.length:Int))=false:=by rw [h]; simp
 rw [h1,if_neg Bool.false_ne_true]
 rw [xb (l:=List.range a.length) (G:=ya fu a b) (fun i=>gd a i 0 != gd b i 0) (fun _=>false) (by simp; omega)
   (fun fk i hi=>by
     have hi':i<a.length:=by simpa using hi
     have h':(i:Int)<(a.length:Int):=by omega
     rw [ya,List.getElem_range]
     simp only [h',decide_true,if_true,vW 0 hi',vW 0 (show i<b.length by omega),Option.bind_some])
   (fun fk=>by rw [List.length_range,ya,if_neg (by simp)]) fu (by simp; omega),gjZ h]
 cases decide (a=b) <;> rfl
 have h1:((a.length:Int) != (b.length:Int))=true:=by simp; omega
 have h2:¬a=b:=fun e=>h (by rw [e])
 rw [h1,if_pos rfl,decide_eq_false h2]
theorem giJ {fu:Nat} (hfu:2097153≤fu) (a b:List Int) (ha:a.length≤2097152):xT fu a b=some (decide (a=b)):=by
 unfold xT
 by_cases h:a.length=b.length
 have h1:((a.length:Int) != (b.length:Int))=false:=by rw [h]; simp
 rw [h1,if_neg Bool.false_ne_true]
 rw [xb (l:=List.range a.length) (G:=vl fu a b) (fun i=>gd a i 0 != gd b i 0) (fun _=>false) (by simp; omega)
   (fun fk i hi=>by
     have hi':i<a.length:=by simpa using hi
     have h':(i:Int)<(a.length:Int):=by omega
     rw [vl,List.getElem_range]
     simp only [h',decide_true,if_true,vW 0 hi',vW 0 (show i<b.length by omega),Option.bind_some])
   (fun fk=>by rw [List.length_range,vl,if_neg (by simp)]) fu (by simp; omega),gjZ h]
 cases decide (a=b) <;> rfl
 have h1:((a.length:Int) != (b.length:Int))=true:=by simp; omega
 have h2:¬a=b:=fun e=>h (by rw [e])
 rw [h1,if_pos rfl,decide_eq_false h2]
theorem gfX (x y:Light):x=y↔x.Id=y.Id∧x.Route.Start=y.Route.Start∧x.Route.Fibers=y.Route.Fibers∧x.Block.First=y.Block.First∧x.Block.Count=y.Block.Count:=by
 rcases x with ⟨i,⟨s,f⟩,⟨a,c⟩⟩
 rcases y with ⟨i',⟨s',f'⟩,⟨a',c'⟩⟩
 simp only [Light.mk.injEq,Route.mk.injEq,Block.mk.injEq,and_assoc]
theorem gdB {fu:Nat} (hfu:2097153≤fu) (x y:Light) (hx:x.Route.Fibers.length≤2097152):gab fu x y=some (decide (x=y)):=by
 unfold gab gbh
 rw [gix hfu _ _ hx]
 have e:=gfX x y
 by_cases h1:x.Id=y.Id <;> by_cases h2:x.Route.Start=y.Route.Start <;> by_cases h3:x.Route.Fibers=y.Route.Fibers <;> by_cases h4:x.Block.First=y.Block.First <;> by_cases h5:x.Block.Count=y.Block.Count <;> simp [h1,h2,h3,h4,h5,e]
theorem gcL {fu:Nat} (hfu:2097153≤fu) (x y:Light) (hx:x.Route.Fibers.length≤2097152):yw fu x y=some (decide (x=y)):=by
 unfold yw
 rw [giJ hfu _ _ hx]
 have e:=gfX x y
 by_cases h1:x.Id=y.Id <;> by_cases h2:x.Route.Start=y.Route.Start <;> by_cases h3:x.Route.Fibers=y.Route.Fibers <;> by_cases h4:x.Block.First=y.Block.First <;> by_cases h5:x.Block.Count=y.Block.Count <;> simp [h1,h2,h3,h4,h5,e]
def addP (p:Plan) (x:Light):Plan:={ Network:=p.Network,Lights:=putL p.Lights x }
def delP (p:Plan) (i:Nat):Plan:={ Network:=p.Network,Lights:=p.Lights.eraseIdx i }
def setP (p:Plan) (i:Nat) (x:Light):Plan:={ Network:=p.Network,Lights:=p.Lights.set i x }
theorem ge3 (L:List Light) (id:Int) (G:Nat→Int→Option Int) (hl:L.length≤2097152) (hG:∀ fk i,G (fk + 1) i=((if decide (i<(L.length:Int))=true then (idx L i).bind fun e=>some (decide (e.Id<id)) else some false).bind fun c=>if c=true then G fk (w64 (i + 1)) else some i)) (fu:Nat) (hfu:2097153≤fu):G fu 0=some ((gdY L id:Nat):Int) :=
  gjv (l:=L) (G:=G) (fun y=>!decide (y.Id<id)) (by omega)
    (fun fk i hi=>by
      have h':(i:Int)<(L.length:Int):=by omega
      rw [hG]
      simp only [h',decide_true,if_true,xa hi,Option.bind_some]
      by_cases hc:L[i].Id<id <;> simp [hc])
    (fun fk=>by rw [hG]; simp) fu (by omega)
theorem gfm {fu:Nat} (hfu:2097153≤fu) (p:Plan) (x:Light) (hB:yS p) (hx:x.Route.Fibers.length≤2097152):yW fu p x=some (addP p x):=by
 have hl:=hB.2.1
 have hi:=gfn p.Lights x.Id
 unfold yW
 rw [gd8 hfu p hB,Option.bind_some,ge3 p.Lights x.Id (ze fu x p) hl (fun fk i=>by rw [ze]) fu hfu,Option.bind_some,gct hi,Option.bind_some]
 have hs:sub p.Lights ((gdY p.Lights x.Id:Nat):Int) (p.Lights.length:Int)=some (p.Lights.drop (gdY p.Lights x.Id)):=by
   unfold sub
   rw [if_pos (by omega)]
   simp
 rw [hs,Option.bind_some,gbC (by rw [List.length_take]; omega),Option.bind_some,gbU fu x hx,Option.bind_some,zz (by rw [List.length_take,List.length_singleton]; omega),Option.bind_some,zz (by rw [List.length_append,List.length_take,List.length_singleton,List.length_drop]; omega),Option.bind_some,List.append_assoc,List.singleton_append]
 rfl
theorem gfA {fu:Nat} (hfu:2097153≤fu) (p:Plan) (x:Light) (hB:yS p) (hx:x.Route.Fibers.length≤2097152):zX fu p x=some (addP p x):=by
 have hl:=hB.2.1
 have hi:=gfn p.Lights x.Id
 unfold zX
 rw [gb5 hfu p hB,Option.bind_some,ge3 p.Lights x.Id (xw fu p x) hl (fun fk i=>by rw [xw]) fu hfu,Option.bind_some,gbL fu _ hx,Option.bind_some]
 have hs:insl p.Lights ((gdY p.Lights x.Id:Nat):Int) [({ Id:=x.Id,Route:=x.Route,Block:=x.Block }:Light)]=some (putL p.Lights x):=by
   unfold insl
   rw [if_pos (by rw [List.length_singleton]; omega),Int.toNat_natCast]
   rfl
 rw [hs,Option.bind_some]
 rfl
theorem ged {fu:Nat} (hfu:2097153≤fu) (p:Plan) (hB:yS p) {i:Nat} (hi:i<p.Lights.length):yY fu p i=some (delP p i):=by
 have hl:=hB.2.1
 unfold yY
 rw [gb5 hfu p hB,Option.bind_some,xo hi (by omega)]
 have hs:dell p.Lights (i:Int) ((i + 1:Nat):Int)=some (p.Lights.eraseIdx i):=by
   unfold dell
   rw [if_pos (by omega),Int.toNat_natCast,Int.toNat_natCast,List.eraseIdx_eq_take_drop_succ]
 rw [hs,Option.bind_some]
 rfl
def geC:Plan:=⟨⟨[],[]⟩,[]⟩
theorem gj0 {p:Plan} {x:Light} (hB:yS p) (hs:p.Lights.length≤12) (hx:x.Route.Fibers.length≤2097152):yS (addP p x):=by
 refine ⟨hB.1,?_,fun y hy=>?_⟩
 show (putL p.Lights x).length≤2097152
 rw [ggV]; omega
 rcases gdf.1 hy with rfl | h
 exact hx
 exact hB.2.2 y h
theorem glb {p:Plan} (hB:yS p) (i:Nat):yS (delP p i):=by
 refine ⟨hB.1,Nat.le_trans (List.eraseIdx_sublist p.Lights i).length_le hB.2.1,fun y hy=>hB.2.2 y (List.mem_of_mem_eraseIdx hy)⟩
theorem gjN {p:Plan} {x:Light} (hB:yS p) (i:Nat) (hx:x.Route.Fibers.length≤2097152):yS (setP p i x):=by
 refine ⟨hB.1,?_,fun y hy=>?_⟩
 show (p.Lights.set i x).length≤2097152
 rw [List.length_set]; exact hB.2.1
 rcases List.mem_or_eq_of_mem_set hy with h | rfl
 exact hB.2.2 y h
 exact hx
def has_ (p:Plan) (id:Int):Bool:=p.Lights.any fun y=>y.Id==id
def act (p:Plan) (a:Action):Plan×Bool :=
  if a.Kind=1 then (if vm (addP p a.Light)=true then (addP p a.Light,true) else (geC,false))
  else if a.Kind=2 then (if has_ p a.Light.Id=true∧gd p.Lights (atId p.Lights a.Light.Id) l0=a.Light then (delP p (atId p.Lights a.Light.Id),true) else (geC,false))
  else if a.Kind=3 then (if has_ p a.Light.Id=true∧vm (setP p (atId p.Lights a.Light.Id) a.Light)=true then (setP p (atId p.Lights a.Light.Id) a.Light,true) else (geC,false))
  else (geC,false)
theorem gdx (n:Nat):decide (((n:Nat):Int)≥0)=true:=by simp
theorem gej (n:Nat):decide (((n:Nat):Int)<0)=false:=by simp
theorem gcV {fu:Nat} (hfu:2097153≤fu) (p:Plan) (a:Action) (hB:yS p) (hp:vm p=true) (ha:a.Light.Route.Fibers.length≤2097152):vH fu p a=some (act p a):=by
 have hl:=hB.2.1
 have hF:=ghe hp
 have hI:=gk7 hp
 unfold vH
 rw [gdk p _ (by omega) hl,Option.bind_some]
 unfold act
 by_cases k1:a.Kind=1
 simp only [k1,beq_self_eq_true,if_true]
 unfold gak
 rw [yP hfu p hB,hp]
 simp only [Option.bind_some,Bool.not_true,Bool.false_eq_true,if_false,gfm hfu p _ hB ha,yP hfu _ (gj0 hB hF.short ha)]
 cases vm (addP p a.Light) <;> rfl
 have e1:(a.Kind==1)=false:=by rw [beq_eq_false_iff_ne]; exact k1
 rw [e1,if_neg Bool.false_ne_true,if_neg k1]
 by_cases k2:a.Kind=2
 simp only [k2,beq_self_eq_true,if_true]
 cases hh:has_ p a.Light.Id
 have hh':(p.Lights.any fun y=>y.Id==a.Light.Id)=false:=hh
 simp [hh',geC]
 have hh':(p.Lights.any fun y=>y.Id==a.Light.Id)=true:=hh
 have hi:=gbB hh'
 have hr:=hB.2.2 _ (gav l0 hi)
 simp only [hh',if_true,gdx,vW l0 hi,Option.bind_some,gdB hfu _ a.Light hr,gcl hfu p hB hi,true_and,decide_eq_true_eq]
 by_cases he:gd p.Lights (atId p.Lights a.Light.Id) l0=a.Light
 simp only [he,if_true,decide_true]
 rfl
 simp only [he,if_false,decide_false,Bool.false_eq_true]
 rfl
 have e2:(a.Kind==2)=false:=by rw [beq_eq_false_iff_ne]; exact k2
 rw [e2,if_neg Bool.false_ne_true,if_neg k2]
 by_cases k3:a.Kind=3
 simp only [k3,beq_self_eq_true,if_true]
 unfold zW
 rw [yP hfu p hB,hp,gdk p _ (by omega) hl]
 simp only [Option.bind_some,Bool.not_true,Bool.false_eq_true,if_false]
 cases hh:has_ p a.Light.Id
 have hh':(p.Lights.any fun y=>y.Id==a.Light.Id)=false:=hh
 simp [hh',geC]
 have hh':(p.Lights.any fun y=>y.Id==a.Light.Id)=true:=hh
 have hi:=gbB hh'
 have hs:=gh5 hI.ids hi (x:=a.Light) (giS hh').symm
 have hput:addP (delP p (atId p.Lights a.Light.Id)) a.Light=setP p (atId p.Lights a.Light.Id) a.Light:=by
   unfold addP delP setP
   rw [hs]
 have hput':yW fu ({ Network:=p.Network,Lights:=p.Lights.eraseIdx (atId p.Lights a.Light.Id) }:Plan) ({ Id:=a.Light.Id,Route:=a.Light.Route,Block:=a.Light.Block }:Light)=some (setP p (atId p.Lights a.Light.Id) a.Light):=by
   rw [←hput]
   exact gfm hfu (delP p (atId p.Lights a.Light.Id)) a.Light (glb hB _) ha
 simp only [hh',if_true,gej,Bool.false_eq_true,if_false,gcl hfu p hB hi,Option.bind_some,hput',yP hfu _ (gjN hB _ ha),true_and]
 cases vm (setP p (atId p.Lights a.Light.Id) a.Light) <;> rfl
 have e3:(a.Kind==3)=false:=by rw [beq_eq_false_iff_ne]; exact k3
 rw [e3,if_neg Bool.false_ne_true,if_neg k3]
 rfl
theorem gcH {fu:Nat} (hfu:2097153≤fu) (p:Plan) (id:Int) (hB:yS p):yx fu p id=some (if vm p=true∧has_ p id=true then (((atId p.Lights id:Nat):Int),true) else (0,false)):=by
 have hl:=hB.2.1
 unfold yx
 rw [gdy p id (by omega) hl,Option.bind_some,gaC hfu p hB,Option.bind_some]
 cases hp:vm p
 simp
 cases hh:has_ p id
 have hh':(p.Lights.any fun y=>y.Id==id)=false:=hh
 simp [hh']
 have hh':(p.Lights.any fun y=>y.Id==id)=true:=hh
 simp [hh',gej]
theorem gfM {fu:Nat} (hfu:2097153≤fu) (p:Plan) (hB:yS p):gaa fu p=some (if vm p=true then (p,true) else (geC,false)):=by
 unfold gaa
 rw [gaC hfu p hB,Option.bind_some]
 cases vm p <;> rfl
theorem gg4 {fu:Nat} (hfu:2097153≤fu) (p:Plan) (a:Action) (hB:yS p) (ha:a.Light.Route.Fibers.length≤2097152):xO fu p a=some (if vm p=true then act p a else (geC,false)):=by
 have hl:=hB.2.1
 unfold xO act
 by_cases k1:a.Kind=1
 simp only [k1,beq_self_eq_true,if_true]
 unfold ga6
 rw [gaC hfu p hB]
 cases hp:vm p
 rfl
 have hF:=ghe hp
 simp only [Option.bind_some,Bool.not_true,Bool.false_eq_true,if_false,if_true,gfA hfu p _ hB ha,gfM hfu _ (gj0 hB hF.short ha)]
 have e1:(a.Kind==1)=false:=by rw [beq_eq_false_iff_ne]; exact k1
 rw [e1,if_neg Bool.false_ne_true,if_neg k1]
 by_cases k2:a.Kind=2
 simp only [k2,beq_self_eq_true,if_true]
 rw [gdy p _ (by omega) hl,Option.bind_some]
 cases hh:has_ p a.Light.Id
 have hh':(p.Lights.any fun y=>y.Id==a.Light.Id)=false:=hh
 simp [hh',geC]
 have hh':(p.Lights.any fun y=>y.Id==a.Light.Id)=true:=hh
 have hi:=gbB hh'
 have hr:=hB.2.2 _ (gav l0 hi)
 simp only [hh',if_true,gdx,vW l0 hi,Option.bind_some,gcL hfu _ a.Light hr,true_and,decide_eq_true_eq]
 by_cases he:gd p.Lights (atId p.Lights a.Light.Id) l0=a.Light
 simp only [he,if_true,decide_true]
 unfold z7
 rw [gcH hfu p _ hB,hh]
 cases hp:vm p
 rfl
 simp only [and_self,if_true,Option.bind_some,Bool.not_true,Bool.false_eq_true,if_false,ged hfu p hB hi]
 simp only [he,if_false,decide_false,Bool.false_eq_true]
 cases vm p <;> rfl
 have e2:(a.Kind==2)=false:=by rw [beq_eq_false_iff_ne]; exact k2
 rw [e2,if_neg Bool.false_ne_true,if_neg k2]
 by_cases k3:a.Kind=3
 simp only [k3,beq_self_eq_true,if_true]
 unfold gaJ
 rw [gcH hfu p _ hB]
 cases hp:vm p
 rfl
 cases hh:has_ p a.Light.Id
 rfl
 have hh':(p.Lights.any fun y=>y.Id==a.Light.Id)=true:=hh
 have hi:=gbB hh'
 have hpi:gaa fu ({ Network:=p.Network,Lights:=p.Lights.set (atId p.Lights a.Light.Id) ({ Id:=a.Light.Id,Route:=a.Light.Route,Block:=a.Light.Block }:Light) }:Plan)=some (if vm (setP p (atId p.Lights a.Light.Id) a.Light)=true then (setP p (atId p.Lights a.Light.Id) a.Light,true) else (geC,false)):=gfM hfu (setP p (atId p.Lights a.Light.Id) a.Light) (gjN hB _ ha)
 simp only [and_self,if_true,Option.bind_some,Bool.not_true,Bool.false_eq_true,if_false,gb5 hfu p hB,gbL fu _ ha,vW l0 hi,Int.toNat_natCast,hpi,true_and]
 have e3:(a.Kind==3)=false:=by rw [beq_eq_false_iff_ne]; exact k3
 rw [e3,if_neg Bool.false_ne_true,if_neg k3]
 cases vm p <;> rfl
theorem gdU {p:Plan} {a:Action} (hp:vm p=true) (h:(act p a).2=true):vm (act p a).1=true:=by
 unfold act at h ⊢
 split
 rename_i k; rw [if_pos k] at h; split at h
 rename_i h1; rw [if_pos h1]; exact h1
 cases h
 rename_i k; rw [if_neg k] at h; split
 rename_i k; rw [if_pos k] at h; split at h
 rename_i h1; rw [if_pos h1]; exact gfL hp _
 cases h
 rename_i k; rw [if_neg k] at h; split
 rename_i k; rw [if_pos k] at h; split at h
 rename_i h1; rw [if_pos h1]; exact h1.2
 cases h
 rename_i k; rw [if_neg k] at h; cases h
theorem ggH {p:Plan} {a:Action} (h:(act p a).2=true):(act p a).1.Network=p.Network:=by
 unfold act at h ⊢
 split
 rename_i k; rw [if_pos k] at h; split at h
 rename_i h1; rw [if_pos h1]; rfl
 cases h
 rename_i k; rw [if_neg k] at h; split
 rename_i k; rw [if_pos k] at h; split at h
 rename_i h1; rw [if_pos h1]; rfl
 cases h
 rename_i k; rw [if_neg k] at h; split
 rename_i k; rw [if_pos k] at h; split at h
 rename_i h1; rw [if_pos h1]; rfl
 cases h
 rename_i k; rw [if_neg k] at h; cases h
theorem giX {p:Plan} {a:Action} (h:(act p a).2=true):∀ y∈(act p a).1.Lights,y∈p.Lights∨y=a.Light:=by
 unfold act at h ⊢
 split
 rename_i k; rw [if_pos k] at h; split at h
 rename_i h1; rw [if_pos h1]; exact fun y hy=>(gdf.1 hy).symm
 cases h
 rename_i k; rw [if_neg k] at h; split
 rename_i k; rw [if_pos k] at h; split at h
 rename_i h1; rw [if_pos h1]; exact fun y hy=>.inl (List.mem_of_mem_eraseIdx hy)
 cases h
 rename_i k; rw [if_neg k] at h; split
 rename_i k; rw [if_pos k] at h; split at h
 rename_i h1; rw [if_pos h1]; exact fun y hy=>List.mem_or_eq_of_mem_set hy
 cases h
 rename_i k; rw [if_neg k] at h; cases h
theorem gjI {p:Plan} {a:Action} (hB:yS p) (hp:vm p=true) (ha:a.Light.Route.Fibers.length≤2097152) (h:(act p a).2=true):yS (act p a).1:=by
 refine ⟨by rw [ggH h]; exact hB.1,?_,fun y hy=>?_⟩
 have:=(ghe (gdU hp h)).short
 omega
 rcases giX h y hy with h1 | rfl
 exact hB.2.2 y h1
 exact ha
end AT
namespace AT
def gdM (l:List Action):Prop:=l.length≤2097152∧∀ a∈l,a.Light.Route.Fibers.length≤2097152
theorem gf7 (fu:Nat) (x:Light) (h:x.Route.Fibers.length≤2097152):zY fu x=some x:=by
 unfold zY
 rw [gbL fu _ h]
 rfl
theorem gd2 {fu:Nat} (l:List Action) (hB:gdM l):∀ (fk i:Nat) (o:List Action),i≤l.length→l.length - i<fk→o.length≤i→∃ z,xh fu l fk o i=some (o++l.drop i,z):=by
 obtain ⟨hl,hr⟩:=hB
 intro fk
 induction fk with
 | zero=>intro i _ _ h; omega
 | succ fk ih =>
   intro i o hi hk ho
   rw [xh]
   by_cases h:i<l.length
   · have h':(i:Int)<(l.length:Int):=by omega
     have ha:app o [l[i]]=some (o++[l[i]]):=zz (by rw [List.length_singleton]; omega)
     simp only [h',decide_true,if_true,xa h,Option.bind_some,gf7 fu _ (hr _ (List.getElem_mem h)),ha]
     rw [xo h (by omega)]
     obtain ⟨z,hz⟩:=ih (i + 1) (o++[l[i]]) h (by omega) (by rw [List.length_append,List.length_singleton]; omega)
     exact ⟨z,by rw [hz,List.append_assoc,←List.getElem_cons_drop h]; rfl⟩
   · obtain rfl:i=l.length:=by omega
     rw [if_neg (by simp),List.drop_length,List.append_nil]
     exact ⟨_,rfl⟩
theorem geV {fu:Nat} (hfu:2097153≤fu) (l:List Action) (hB:gdM l):zx fu l=some l:=by
 unfold zx
 obtain ⟨z,hz⟩:=gd2 (fu:=fu) l hB fu 0 [] (by omega) (by have:=hB.1; omega) (by simp)
 rw [show ((0:Nat):Int)=0 from rfl] at hz
 rw [hz,Option.bind_some,List.nil_append,List.drop_zero]
end AT
namespace AT
def acts:List Action→Plan→Plan×Nat
  | [],p=>(p,0)
  | a::l,p=>if (act p a).2=true then ((acts l (act p a).1).1,(acts l (act p a).1).2 + 1) else (p,0)
theorem gfy:∀ (l:List Action) (p:Plan),vm p=true→yS p→(∀ a∈l,a.Light.Route.Fibers.length≤2097152)→vm (acts l p).1=true∧yS (acts l p).1∧(acts l p).1.Network=p.Network∧∀ y∈(acts l p).1.Lights,y∈p.Lights∨∃ a∈l,y=a.Light
  | [],p,hp,hB,_=>⟨hp,hB,rfl,fun y hy=>.inl hy⟩
  | a::l,p,hp,hB,ha=>by
    unfold acts
    split
    · rename_i h
      obtain ⟨h1,h2,h3,h4⟩:=gfy l (act p a).1 (gdU hp h) (gjI hB hp (ha a (by simp)) h) (fun b hb=>ha b (by simp [hb]))
      refine ⟨h1,h2,by rw [h3,ggH h],fun y hy=>?_⟩
      rcases h4 y hy with h5 | ⟨b,hb,rfl⟩
      · rcases giX h y h5 with h6 | rfl
        · exact .inl h6
        · exact .inr ⟨a,by simp,rfl⟩
      · exact .inr ⟨b,by simp [hb],rfl⟩
    · exact ⟨hp,hB,rfl,fun y hy=>.inl hy⟩
def gb6 (l:List Action) (i:Nat) (q:Plan):Out (Int×List ByteArray×List Fiber×List Light) (Plan×Int) :=
  if (acts (l.drop i) q).2=l.length - i then .next ((l.length:Int),(acts (l.drop i) q).1.Network.Nodes,(acts (l.drop i) q).1.Network.Fibers,(acts (l.drop i) q).1.Lights) else .ret ((acts (l.drop i) q).1,((i + (acts (l.drop i) q).2:Nat):Int))
theorem gdT {l:List Action} {i:Nat} {q:Plan} (h:i<l.length):gb6 l i q=if (act q l[i]).2=true then gb6 l (i + 1) (act q l[i]).1 else .ret (q,(i:Int)):=by
 unfold gb6
 rw [←List.getElem_cons_drop h]
 have e:acts (l[i]::l.drop (i + 1)) q=if (act q l[i]).2=true then ((acts (l.drop (i + 1)) (act q l[i]).1).1,(acts (l.drop (i + 1)) (act q l[i]).1).2 + 1) else (q,0):=rfl
 rw [e]
 cases (act q l[i]).2
 simp only [Bool.false_eq_true,if_false]
 rw [if_neg (by omega)]
 rfl
 simp only [if_true]
 by_cases h1:(acts (l.drop (i + 1)) (act q l[i]).1).2=l.length - (i + 1)
 rw [if_pos h1,if_pos (by omega)]
 rw [if_neg h1,if_neg (by omega)]
 congr 3
 omega
theorem ggy {fu:Nat} (hfu:2097153≤fu) (l:List Action) (hA:gdM l):∀ (fk i:Nat) (q:Plan),vm q=true→yS q→i≤l.length→l.length - i<fk→yO fu l fk i q.Network.Nodes q.Network.Fibers q.Lights=some (gb6 l i q):=by
 have hl:=hA.1
 intro fk
 induction fk with
 | zero=>intro i _ _ _ _ h; omega
 | succ fk ih =>
   intro i q hp hB hi hk
   rw [yO]
   by_cases h:i<l.length
   · have h':(i:Int)<(l.length:Int):=by omega
     have ha:=hA.2 _ (List.getElem_mem h)
     have hap:vH fu ({ Network:=({ Nodes:=q.Network.Nodes,Fibers:=q.Network.Fibers }:Network),Lights:=q.Lights }:Plan) l[i]=some (act q l[i]):=gcV hfu q l[i] hB hp ha
     rw [gdT h]
     simp only [h',decide_true,if_true,xa h,Option.bind_some,hap]
     cases hc:(act q l[i]).2
     · rfl
     · simp only [Bool.not_true,Bool.false_eq_true,if_false,if_true]
       rw [xo h (by omega)]
       exact ih (i + 1) (act q l[i]).1 (gdU hp hc) (gjI hB hp ha hc) h (by omega)
   · obtain rfl:i=l.length:=by omega
     rw [if_neg (by simp)]
     unfold gb6
     rw [List.drop_length]
     simp [acts]
theorem ggf {fu:Nat} (hfu:2097153≤fu) (l:List Action) (hA:gdM l):∀ (fk i:Nat) (q:Plan),vm q=true→yS q→i≤l.length→l.length - i<fk→yr fu l fk i q.Network.Nodes q.Network.Fibers q.Lights=some (gb6 l i q):=by
 have hl:=hA.1
 intro fk
 induction fk with
 | zero=>intro i _ _ _ _ h; omega
 | succ fk ih =>
   intro i q hp hB hi hk
   rw [yr]
   by_cases h:i<l.length
   · have h':(i:Int)<(l.length:Int):=by omega
     have ha:=hA.2 _ (List.getElem_mem h)
     have hap:xO fu ({ Network:=({ Nodes:=q.Network.Nodes,Fibers:=q.Network.Fibers }:Network),Lights:=q.Lights }:Plan) l[i]=some (act q l[i]):=by
       have:=gg4 hfu q l[i] hB ha
       rwa [hp] at this
     rw [gdT h]
     simp only [h',decide_true,if_true,xa h,Option.bind_some,hap]
     cases hc:(act q l[i]).2
     · rfl
     · simp only [Bool.not_true,Bool.false_eq_true,if_false,if_true]
       rw [xo h (by omega)]
       exact ih (i + 1) (act q l[i]).1 (gdU hp hc) (gjI hB hp ha hc) h (by omega)
   · obtain rfl:i=l.length:=by omega
     rw [if_neg (by simp)]
     unfold gb6
     rw [List.drop_length]
     simp [acts]
theorem ge5 {l:List Action} {p:Plan}:(gb6 l 0 p).on some (fun z=>some (({ Network:=({ Nodes:=z.2.1,Fibers:=z.2.2.1 }:Network),Lights:=z.2.2.2 }:Plan),(l.length:Int)))=some ((acts l p).1,((acts l p).2:Int)):=by
 unfold gb6
 rw [List.drop_zero,Nat.sub_zero]
 split
 rename_i h; rw [h]; rfl
 rw [Nat.zero_add]; rfl
theorem giw {fu:Nat} (hfu:2097153≤fu) (p:Plan) (l:List Action) (hA:gdM l) (hp:vm p=true) (hB:yS p):gbo fu p l=some ((acts l p).1,((acts l p).2:Int)):=by
 have hl:=hA.1
 unfold gbo
 have:=ggy hfu l hA fu 0 p hp hB (by omega) (by omega)
 rw [show ((0:Nat):Int)=0 from rfl] at this
 rw [gd8 hfu p hB,Option.bind_some,this,Option.bind_some,ge5]
theorem ghz {fu:Nat} (hfu:2097153≤fu) (p:Plan) (l:List Action) (hA:gdM l) (hp:vm p=true) (hB:yS p):gaW fu p l=some ((acts l p).1,((acts l p).2:Int)):=by
 have hl:=hA.1
 unfold gaW
 have:=ggf hfu l hA fu 0 p hp hB (by omega) (by omega)
 rw [show ((0:Nat):Int)=0 from rfl] at this
 rw [gb5 hfu p hB,Option.bind_some,this,Option.bind_some,ge5]
end AT
