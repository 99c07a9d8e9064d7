/- Networks, plainly: names, fibers, validity. -/
import Derived.Test.YtlemonjnolciiaaGreatP1
import Derived.Test.YtlemonjnolciiaaGreatAtL
set_option linter.unusedSimpArgs false
set_option linter.unusedVariables false
namespace AT
def chr (s:ByteArray) (i:Nat):Int:=((s[i]?).map fun b=>(b.toNat:Int)).getD 0
theorem sidx_chr {s:ByteArray} {i:Nat} (h:i<s.size):sidx s (i:Int)=some ⟨chr s i⟩:=by
  have e:s[i]?=some (s[i]'h):=by simp [h]
  unfold sidx chr
  rw [if_pos (by omega),Int.toNat_natCast,e]
  rfl
def isLet (c:Int):Bool:=decide (97≤c)&&decide (c≤122)
def isDig (c:Int):Bool:=decide (48≤c)&&decide (c≤57)
def sgnBad (s:ByteArray) (i:Nat):Bool:=!(isLet (chr s i)||isDig (chr s i))
def chrBad (s:ByteArray) (i:Nat):Bool:=!isLet (chr s i)&&(!isDig (chr s i)||i==0)
def nameOk (s:ByteArray):Bool:=!((List.range s.size).any (chrBad s))&&(decide (1≤s.size)&&decide (s.size≤8))
theorem isName_eq {fu:Nat} (s:ByteArray) (h:s.size<fu) (hn:s.size≤2097152):impl_isName fu s=some (nameOk s):=by
  unfold impl_isName
  rw [scan_all (l:=List.range s.size) (G:=impl_isName_L1 fu s) (chrBad s) (fun i=>false) (by simp; omega)
    (fun fk i hi=>by
      have hi':i<s.size:=by simpa using hi
      rw [impl_isName_L1,if_pos (by simpa using hi'),sidx_chr hi',List.getElem_range]
      simp only [Option.bind_some,chrBad,isLet,isDig,ge_iff_le]
      have e0:((i:Int)==0)=(i==0):=by rw [Bool.eq_iff_iff]; simp only [beq_iff_eq]; omega
      rw [e0]
      obtain ⟨b,hb⟩:∃ b,b=(i==0):=⟨_,rfl⟩
      simp only [←hb]
      by_cases h1:97≤chr s i <;> by_cases h2:48≤chr s i <;> by_cases h3:chr s i≤122 <;> by_cases h4:chr s i≤57 <;> cases b <;> simp [h1,h2,h3,h4])
    (fun fk=>by rw [List.length_range,impl_isName_L1,if_neg (by simp)]) fu (by simpa using h)]
  unfold nameOk
  have e1:decide (1≤(s.size:Int))=decide (1≤s.size):=by simp only [decide_eq_decide]; omega
  have e2:decide ((s.size:Int)≤8)=decide (s.size≤8):=by simp only [decide_eq_decide]; omega
  cases (List.range s.size).any (chrBad s) <;> simp [Out.on,e1,e2]
theorem l2Sign_eq (fu:Nat) (b:By):spec_l2Sign fu b=some (isLet b.n||isDig b.n):=by
  unfold spec_l2Sign isLet isDig
  simp only [ge_iff_le]
  by_cases h1:97≤b.n <;> by_cases h2:48≤b.n <;> by_cases h3:b.n≤122 <;> by_cases h4:b.n≤57 <;> simp [h1,h2,h3,h4]
theorem l2Name_eq {fu:Nat} (s:ByteArray) (h:s.size<fu) (hn:s.size≤2097152):spec_l2Name fu s=some (nameOk s):=by
  unfold spec_l2Name
  have e1:decide (1≤(s.size:Int))=decide (1≤s.size):=by simp only [decide_eq_decide]; omega
  have e2:decide ((s.size:Int)≤8)=decide (s.size≤8):=by simp only [decide_eq_decide]; omega
  simp only [l1In_eq,Option.bind_some,e1,e2]
  unfold nameOk
  by_cases hb:(decide (1≤s.size)&&decide (s.size≤8))=true
  · rw [hb]
    simp only [Bool.and_eq_true,decide_eq_true_eq] at hb
    have h0:0<s.size:=by omega
    have hs:=sidx_chr h0
    simp only [Int.ofNat_zero,Int.natCast_zero] at hs
    simp only [Bool.not_true,Bool.false_eq_true,if_false,hs,Option.bind_some,Bool.and_true]
    have hl:spec_l2Name_L1 fu s fu 0=some (if (List.range s.size).any (sgnBad s) then .ret false else .next ((List.range s.size).length:Int)) :=
      scan_all (l:=List.range s.size) (G:=spec_l2Name_L1 fu s) (sgnBad s) (fun i=>false) (by simp; omega)
        (fun fk i hi=>by
          have hi':i<s.size:=by simpa using hi
          rw [spec_l2Name_L1,if_pos (by simpa using hi'),sidx_chr hi',List.getElem_range]
          simp only [Option.bind_some,l2Sign_eq,sgnBad]
          rfl)
        (fun fk=>by rw [List.length_range,spec_l2Name_L1,if_neg (by simp)]) fu (by simpa using h)
    rw [hl]
    have ha:(List.range s.size).any (chrBad s)=(!isLet (chr s 0)||(List.range s.size).any (sgnBad s)):=by
      rw [Bool.eq_iff_iff]
      simp only [List.any_eq_true,List.mem_range,Bool.or_eq_true,chrBad,sgnBad,Bool.and_eq_true,Bool.not_eq_true',beq_iff_eq,Bool.or_eq_false_iff]
      constructor
      · rintro ⟨i,hi,h1,h2⟩
        rcases h2 with h2 | h2
        · exact .inr ⟨i,hi,h1,h2⟩
        subst h2; exact .inl h1
      rintro (h1 | ⟨i,hi,h1,h2⟩)
      · exact ⟨0,h0,h1,.inr rfl⟩
      exact ⟨i,hi,h1,.inl h2⟩
    rw [ha]
    unfold isLet
    have e3:decide (chr s 0<97)=!decide (97≤chr s 0):=by rw [←decide_not]; simp only [decide_eq_decide]; omega
    have e4:decide (chr s 0 > 122)=!decide (chr s 0≤122):=by rw [←decide_not]; simp only [decide_eq_decide]; omega
    simp only [e3,e4]
    cases decide (97≤chr s 0) <;> cases decide (chr s 0≤122) <;> cases (List.range s.size).any (sgnBad s) <;> rfl
  rw [Bool.not_eq_true] at hb
  rw [hb]
  simp
def nm0:ByteArray:=ByteArray.empty
def seen (l:List ByteArray) (i:Nat):Bool:=(l.take i).any fun x=>(gd l i nm0).toList==x.toList
theorem beq_symm' {α:Type} [BEq α] [LawfulBEq α] (a b:α):(a==b)=(b==a):=by
  rw [Bool.eq_iff_iff]; simp only [beq_iff_eq]; exact eq_comm
theorem indexS_eq {fu:Nat} (l:List ByteArray) (v:ByteArray) (h:l.length<fu) (hn:l.length≤2097152):slices_Index_string_string fu l v=some (if l.any (fun x=>v.toList==x.toList) then ((l.findIdx fun x=>v.toList==x.toList:Nat):Int) else -1):=by
  unfold slices_Index_string_string
  rw [scan_all (l:=l) (G:=slices_Index_string_string_L1 fu l v) (fun x=>v.toList==x.toList) (fun i=>(i:Int)) (by omega)
    (fun fk i hi=>by rw [slices_Index_string_string_L1,if_pos (by simpa using hi),idx_in hi]; rfl)
    (fun fk=>by rw [slices_Index_string_string_L1,if_neg (by simp)]) fu h]
  cases l.any (fun x=>v.toList==x.toList) <;> rfl
theorem containsS_eq {fu:Nat} (l:List ByteArray) (v:ByteArray) (h:l.length<fu) (hn:l.length≤2097152):slices_Contains_string_string fu l v=some (l.any fun x=>v.toList==x.toList):=by
  unfold slices_Contains_string_string
  rw [indexS_eq l v h hn]
  cases l.any (fun x=>v.toList==x.toList)
  · rfl
  simp
theorem l2Find_eq {fu:Nat} (l:List ByteArray) (v:ByteArray) (h:l.length<fu) (hn:l.length≤2097152):spec_l2Find fu l v=some (if l.any (fun x=>x.toList==v.toList) then ((l.findIdx fun x=>x.toList==v.toList:Nat):Int) else -1):=by
  unfold spec_l2Find
  rw [scan_all (l:=l) (G:=spec_l2Find_L1 fu l v) (fun x=>x.toList==v.toList) (fun i=>(i:Int)) (by omega)
    (fun fk i hi=>by rw [spec_l2Find_L1,if_pos (by simpa using hi),idx_in hi]; rfl)
    (fun fk=>by rw [spec_l2Find_L1,if_neg (by simp)]) fu h]
  cases l.any (fun x=>x.toList==v.toList) <;> rfl
theorem sub_take {α:Type} {l:List α} {i:Nat} (h:i≤l.length):sub l 0 (i:Int)=some (l.take i):=by
  unfold sub
  rw [if_pos (by omega)]
  simp
theorem findIdx_self {α:Type} {l:List α} {p:α→Bool} {i:Nat} (h:i<l.length) (hp:p l[i]=true):(l.findIdx p=i)↔(l.take i).any p=false:=by
  rw [List.findIdx_eq h]
  constructor
  · rintro ⟨-,h2⟩
    rw [Bool.eq_false_iff]
    intro h3
    obtain ⟨x,hx,hpx⟩:=List.any_eq_true.1 h3
    obtain ⟨j,hj,rfl⟩:=List.mem_iff_getElem.1 hx
    simp only [List.length_take] at hj
    rw [List.getElem_take] at hpx
    have:=h2 j (by omega)
    rw [hpx] at this
    cases this
  intro h3
  refine ⟨hp,fun j hj=>?_⟩
  rw [Bool.eq_false_iff]
  intro h4
  rw [Bool.eq_false_iff] at h3
  refine h3 (List.any_eq_true.2 ⟨l[j],?_,h4⟩)
  refine List.mem_iff_getElem.2 ⟨j,by simp; omega,by rw [List.getElem_take]⟩
def nodeBad (l:List ByteArray) (i:Nat):Bool:=!nameOk (gd l i nm0)||seen l i
def f0:Fiber:=⟨0,0,0,0⟩
def fibOk (m:Nat) (f:Fiber):Bool:=decide (0≤f.A)&&(decide (f.A<f.B)&&(decide (f.B<(m:Int))&&((decide (1≤f.Length)&&decide (f.Length≤5000))&&(decide (0≤f.Risk)&&decide (f.Risk≤9)))))
def fGt (f g:Fiber):Bool:=decide (g.A<f.A)||(f.A==g.A&&(decide (g.B<f.B)||(f.B==g.B&&(decide (g.Length<f.Length)||(f.Length==g.Length&&decide (g.Risk<f.Risk))))))
def cmpI (x y:Int):Int:=if x<y then -1 else if x > y then 1 else 0
theorem compare_eq (fu:Nat) (x y:Int):cmp_Compare_int fu x y=some (cmpI x y):=by
  unfold cmp_Compare_int cmp_isNaN_int cmpI
  have e:∀ z:Int,(z != z)=false:=fun z=>by simp
  simp only [e,Option.bind_some,Bool.false_eq_true,if_false,decide_eq_true_eq]
  by_cases h:x<y
  · rw [if_pos h,if_pos h]
  rw [if_neg h,if_neg h]
  split <;> rfl
theorem cmpI_pos (x y:Int):0<cmpI x y↔y<x:=by unfold cmpI; split <;> (try split) <;> omega
theorem cmpI_zero (x y:Int):cmpI x y=0↔x=y:=by unfold cmpI; split <;> (try split) <;> omega
def or4 (a b c d:Int):Int:=if a≠0 then a else if b≠0 then b else if c≠0 then c else if d≠0 then d else 0
theorem or_eq {fu:Nat} (a b c d:Int) (h:4<fu):cmp_Or_int fu [a,b,c,d]=some (or4 a b c d):=by
  unfold cmp_Or_int
  rw [scan_all (l:=[a,b,c,d]) (G:=cmp_Or_int_L1 fu [a,b,c,d]) (fun e=>e != 0) (fun i=>gd [a,b,c,d] i 0) (by simp)
    (fun fk i hi=>by rw [cmp_Or_int_L1,if_pos (by rw [decide_eq_true_eq]; omega),idx_in hi,gd_in 0 hi]; rfl)
    (fun fk=>by rw [cmp_Or_int_L1,if_neg (by simp)]) fu (by simpa using h)]
  unfold or4
  have e:∀ z:Int,(z != 0)=!decide (z=0):=fun z=>by by_cases h:z=0 <;> simp [h]
  simp only [e]
  by_cases ha:a=0 <;> by_cases hb:b=0 <;> by_cases hc:c=0 <;> by_cases hd:d=0 <;> simp [ha,hb,hc,hd,List.findIdx_cons,gd,Out.on]
theorem compareFibers_eq {fu:Nat} (f g:Fiber) (h:4<fu):∃ r,impl_compareFibers fu f g=some r∧decide (r > 0)=fGt f g:=by
  unfold impl_compareFibers
  simp only [compare_eq,Option.bind_some,or_eq _ _ _ _ h]
  refine ⟨_,rfl,?_⟩
  rw [Bool.eq_iff_iff]
  simp only [fGt,decide_eq_true_eq,Bool.or_eq_true,Bool.and_eq_true,beq_iff_eq,or4]
  have a1:=cmpI_pos f.A g.A
  have a2:=cmpI_zero f.A g.A
  have b1:=cmpI_pos f.B g.B
  have b2:=cmpI_zero f.B g.B
  have c1:=cmpI_pos f.Length g.Length
  have c2:=cmpI_zero f.Length g.Length
  have d1:=cmpI_pos f.Risk g.Risk
  have d2:=cmpI_zero f.Risk g.Risk
  generalize cmpI f.A g.A=a at *
  generalize cmpI f.B g.B=b at *
  generalize cmpI f.Length g.Length=c at *
  generalize cmpI f.Risk g.Risk=d at *
  split <;> (try split) <;> (try split) <;> (try split) <;> constructor <;> intro h <;> simp only [decide_eq_true_eq] at * <;> omega
def bef (f g:Fiber):Int:=if f.A≠g.A then w64 (f.A - g.A) else if f.B≠g.B then w64 (f.B - g.B) else if f.Length≠g.Length then w64 (f.Length - g.Length) else w64 (f.Risk - g.Risk)
theorem l2Before_eq (fu:Nat) (f g:Fiber):spec_l2Before fu f g=some (bef f g):=by
  unfold spec_l2Before bef
  by_cases h1:f.A=g.A
  · by_cases h2:f.B=g.B
    · by_cases h3:f.Length=g.Length <;> simp [h1,h2,h3]
    simp [h1,h2]
  simp [h1]
theorem bef_gt {m:Nat} {f g:Fiber} (hm:m≤8) (hf:fibOk m f=true) (hg:fibOk m g=true):decide (bef f g > 0)=fGt f g:=by
  simp only [fibOk,Bool.and_eq_true,decide_eq_true_eq] at hf hg
  rw [Bool.eq_iff_iff]
  simp only [fGt,decide_eq_true_eq,Bool.or_eq_true,Bool.and_eq_true,beq_iff_eq]
  unfold bef
  have e1:w64 (f.A - g.A)=f.A - g.A:=w64_in (by omega) (by omega)
  have e2:w64 (f.B - g.B)=f.B - g.B:=w64_in (by omega) (by omega)
  have e3:w64 (f.Length - g.Length)=f.Length - g.Length:=w64_in (by omega) (by omega)
  have e4:w64 (f.Risk - g.Risk)=f.Risk - g.Risk:=w64_in (by omega) (by omega)
  rw [e1,e2,e3,e4]
  clear e1 e2 e3 e4
  split
  · omega
  split
  · omega
  split <;> omega
theorem l2Fiber_eq {fu m:Nat} (f:Fiber) (hm:m≤8):spec_l2Fiber fu f (m:Int)=some (fibOk m f):=by
  unfold spec_l2Fiber
  simp only [l1In_eq,Option.bind_some]
  have e0:w64 ((m:Int) - 1)=(m:Int) - 1:=w64_in (by omega) (by omega)
  rw [e0]
  unfold fibOk
  by_cases h1:0≤f.A
  · by_cases h2:f.A≤(m:Int) - 1
    · have e1:w64 (f.A + 1)=f.A + 1:=w64_in (by omega) (by omega)
      rw [e1]
      have e2:decide (f.A + 1≤f.B)=decide (f.A<f.B):=by simp only [decide_eq_decide]; omega
      have e3:decide (f.B≤(m:Int) - 1)=decide (f.B<(m:Int)):=by simp only [decide_eq_decide]; omega
      rw [e2,e3]
      simp only [h1,h2,decide_true,Bool.and_true,if_true,Bool.true_and]
      cases decide (f.A<f.B) <;> cases decide (f.B<(m:Int)) <;> cases decide (1≤f.Length) <;> cases decide (f.Length≤5000) <;> cases decide (0≤f.Risk) <;> cases decide (f.Risk≤9) <;> rfl
    have:(decide (f.A<f.B)&&decide (f.B<(m:Int)))=false:=by
      rw [Bool.eq_false_iff]; simp only [ne_eq,Bool.and_eq_true,decide_eq_true_eq]; omega
    rw [←Bool.and_assoc (decide (f.A<f.B)),this]
    simp [h1,h2]
  simp [h1]
def fibBad (m:Nat) (l:List Fiber) (i:Nat):Bool:=!fibOk m (gd l i f0)||(decide (0<i)&&fGt (gd l (i - 1) f0) (gd l i f0))
def fibBadS (m:Nat) (l:List Fiber) (i:Nat):Bool:=!fibOk m (gd l i f0)||(decide (0<i)&&decide (bef (gd l (i - 1) f0) (gd l i f0) > 0))
theorem fibBad_eq {m:Nat} (l:List Fiber) (hm:m≤8):(List.range l.length).any (fibBadS m l)=(List.range l.length).any (fibBad m l):=by
  by_cases hv:∃ i,i<l.length∧fibOk m (gd l i f0)=false
  · obtain ⟨i,hi,hb⟩:=hv
    have h1:(List.range l.length).any (fibBadS m l)=true:=List.any_eq_true.2 ⟨i,List.mem_range.2 hi,by simp [fibBadS,hb]⟩
    have h2:(List.range l.length).any (fibBad m l)=true:=List.any_eq_true.2 ⟨i,List.mem_range.2 hi,by simp [fibBad,hb]⟩
    rw [h1,h2]
  have hv':∀ i,i<l.length→fibOk m (gd l i f0)=true:=fun i hi=>by
    cases h:fibOk m (gd l i f0)
    · exact absurd ⟨i,hi,h⟩ hv
    rfl
  refine any_same fun i hi=>?_
  have hi':=List.mem_range.1 hi
  unfold fibBadS fibBad
  by_cases h0:0<i
  · rw [bef_gt hm (hv' (i - 1) (by omega)) (hv' i hi')]
  simp [h0]
def netOk (n:Network):Bool:=(decide (2≤n.Nodes.length)&&decide (n.Nodes.length≤8))&&(decide (n.Fibers.length≤14)&&(!((List.range n.Nodes.length).any (nodeBad n.Nodes))&&!((List.range n.Fibers.length).any (fibBad n.Nodes.length n.Fibers))))
def NetB (n:Network):Prop:=(n.Nodes.length≤2097152∧∀ e∈n.Nodes,e.size≤2097152)∧n.Fibers.length≤2097152
theorem gd_mem {α:Type} {l:List α} {i:Nat} (d:α) (h:i<l.length):gd l i d∈l:=by rw [gd_in d h]; exact List.getElem_mem _
theorem implNet_eq {fu:Nat} (hfu:2097153≤fu) (n:Network) (hB:NetB n):impl_IsValidNetwork fu n=some (netOk n):=by
  obtain ⟨⟨hl,hs⟩,hl2⟩:=hB
  unfold impl_IsValidNetwork
  rw [scan_all (l:=List.range n.Nodes.length) (G:=impl_IsValidNetwork_L1 fu n) (nodeBad n.Nodes) (fun i=>false) (by simp; omega)
    (fun fk i hi=>by
      have hi':i<n.Nodes.length:=by simpa using hi
      have hz:=hs _ (gd_mem nm0 hi')
      rw [impl_IsValidNetwork_L1,if_pos (by simpa using hi'),idx_gd nm0 hi',List.getElem_range]
      simp only [Option.bind_some,isName_eq _ (show (gd n.Nodes i nm0).size<fu by omega) hz,nodeBad,seen]
      rcases Bool.eq_false_or_eq_true (nameOk (gd n.Nodes i nm0)) with h1 | h1
      · rw [sub_take (by omega)]
        simp only [h1,Bool.not_true,Bool.false_eq_true,if_false,Option.bind_some,containsS_eq _ _ (show (n.Nodes.take i).length<fu by simp; omega) (by simp; omega),Bool.false_or]
      simp [h1])
    (fun fk=>by rw [List.length_range,impl_IsValidNetwork_L1,if_neg (by simp)]) fu (by simp; omega)]
  rw [scan_all (l:=List.range n.Fibers.length) (G:=impl_IsValidNetwork_L2 fu n) (fibBad n.Nodes.length n.Fibers) (fun i=>false) (by simp; omega)
    (fun fk i hi=>by
      have hi':i<n.Fibers.length:=by simpa using hi
      rw [impl_IsValidNetwork_L2,if_pos (by simpa using hi'),idx_gd f0 hi',List.getElem_range]
      simp only [Option.bind_some,within_eq,fibBad,fibOk]
      obtain ⟨x,hx⟩:∃ x,x=gd n.Fibers i f0:=⟨_,rfl⟩
      simp only [←hx]
      have a1:decide (x.A<0)=!decide (0≤x.A):=by rw [←decide_not]; simp only [decide_eq_decide]; omega
      have a2:decide (x.A≥x.B)=!decide (x.A<x.B):=by rw [←decide_not]; simp only [decide_eq_decide]; omega
      have a3:decide (x.B≥(n.Nodes.length:Int))=!decide (x.B<(n.Nodes.length:Int)):=by rw [←decide_not]; simp only [decide_eq_decide]; omega
      simp only [a1,a2,a3]
      by_cases b1:(decide (0≤x.A))=false
      · simp [b1]
      rw [Bool.not_eq_false] at b1
      by_cases b2:(decide (x.A<x.B))=false
      · simp [b1,b2]
      rw [Bool.not_eq_false] at b2
      by_cases b3:(decide (x.B<(n.Nodes.length:Int)))=false
      · simp [b1,b2,b3]
      rw [Bool.not_eq_false] at b3
      by_cases b4:(decide (1≤x.Length)&&decide (x.Length≤5000))=false
      · simp only [b1,b2,b3,b4]; simp
      rw [Bool.not_eq_false] at b4
      by_cases b5:(decide (0≤x.Risk)&&decide (x.Risk≤9))=false
      · simp only [b1,b2,b3,b4,b5]; simp
      rw [Bool.not_eq_false] at b5
      simp only [b1,b2,b3,b4,b5]
      by_cases h0:0<i
      · rw [w64_dec h0 (by omega),idx_gd f0 (show i - 1<n.Fibers.length by omega)]
        obtain ⟨r,h1,h2⟩:=compareFibers_eq (fu:=fu) (gd n.Fibers (i - 1) f0) x (by omega)
        have h0':((i:Int) > 0):=by omega
        simp [h0,h1,h2,h0']
      have h0':¬((i:Int) > 0):=by omega
      simp [h0,h0'])
    (fun fk=>by rw [List.length_range,impl_IsValidNetwork_L2,if_neg (by simp)]) fu (by simp; omega)]
  unfold netOk
  have e1:decide (2≤(n.Nodes.length:Int))=decide (2≤n.Nodes.length):=by simp only [decide_eq_decide]; omega
  have e2:decide ((n.Nodes.length:Int)≤8)=decide (n.Nodes.length≤8):=by simp only [decide_eq_decide]; omega
  have e3:decide ((n.Fibers.length:Int)≤14)=decide (n.Fibers.length≤14):=by simp only [decide_eq_decide]; omega
  simp only [within_eq,e1,e2,e3]
  cases (List.range n.Nodes.length).any (nodeBad n.Nodes) <;> cases (List.range n.Fibers.length).any (fibBad n.Nodes.length n.Fibers) <;> cases decide (2≤n.Nodes.length) <;> cases decide (n.Nodes.length≤8) <;> cases decide (n.Fibers.length≤14) <;> rfl
theorem specNet_eq {fu:Nat} (hfu:2097153≤fu) (n:Network) (hB:NetB n):spec_l2Good fu n=some (netOk n):=by
  obtain ⟨⟨hl,hs⟩,hl2⟩:=hB
  unfold spec_l2Good netOk
  have e1:decide (2≤(n.Nodes.length:Int))=decide (2≤n.Nodes.length):=by simp only [decide_eq_decide]; omega
  have e2:decide ((n.Nodes.length:Int)≤8)=decide (n.Nodes.length≤8):=by simp only [decide_eq_decide]; omega
  have e3:decide ((n.Fibers.length:Int) > 14)=!decide (n.Fibers.length≤14):=by rw [←decide_not]; simp only [decide_eq_decide]; omega
  simp only [l1In_eq,e1,e2,e3,Option.bind_some]
  cases hb:(decide (2≤n.Nodes.length)&&decide (n.Nodes.length≤8))
  · rfl
  cases hc:decide (n.Fibers.length≤14)
  · rfl
  simp only [Bool.and_eq_true,decide_eq_true_eq] at hb hc
  rw [scan_all (l:=List.range n.Nodes.length) (G:=spec_l2Good_L1 fu n) (nodeBad n.Nodes) (fun i=>false) (by simp; omega)
    (fun fk i hi=>by
      have hi':i<n.Nodes.length:=by simpa using hi
      have hz:=hs _ (gd_mem nm0 hi')
      rw [spec_l2Good_L1,if_pos (by simpa using hi'),idx_gd nm0 hi',List.getElem_range]
      simp only [Option.bind_some,l2Name_eq _ (show (gd n.Nodes i nm0).size<fu by omega) hz,nodeBad,seen]
      by_cases h1:(nameOk (gd n.Nodes i nm0))=false
      · simp [h1]
      rw [Bool.not_eq_false] at h1
      have hp:(fun x:ByteArray=>x.toList==(gd n.Nodes i nm0).toList) n.Nodes[i]=true:=by simp [gd_in nm0 hi']
      have ha:n.Nodes.any (fun x=>x.toList==(gd n.Nodes i nm0).toList)=true:=List.any_eq_true.2 ⟨_,List.getElem_mem hi',hp⟩
      have hfi:=findIdx_self (p:=fun x:ByteArray=>x.toList==(gd n.Nodes i nm0).toList) hi' hp
      have hsy:(n.Nodes.take i).any (fun x=>(gd n.Nodes i nm0).toList==x.toList)=(n.Nodes.take i).any (fun x=>x.toList==(gd n.Nodes i nm0).toList):=any_same fun x _=>beq_symm' _ _
      simp only [h1,Bool.not_true,Bool.false_eq_true,if_false,Option.bind_some,l2Find_eq _ _ (show n.Nodes.length<fu by omega) hl,ha,if_true,Bool.false_or,hsy]
      have he:(((n.Nodes.findIdx fun x=>x.toList==(gd n.Nodes i nm0).toList:Nat):Int) != (i:Int))=(n.Nodes.take i).any (fun x=>x.toList==(gd n.Nodes i nm0).toList):=by
        rw [Bool.eq_iff_iff]
        simp only [bne_iff_ne,ne_eq,Int.natCast_inj,hfi,Bool.not_eq_false]
      rw [he])
    (fun fk=>by rw [List.length_range,spec_l2Good_L1,if_neg (by simp)]) fu (by simp; omega)]
  rw [scan_all (l:=List.range n.Fibers.length) (G:=spec_l2Good_L2 fu n) (fibBadS n.Nodes.length n.Fibers) (fun i=>false) (by simp; omega)
    (fun fk i hi=>by
      have hi':i<n.Fibers.length:=by simpa using hi
      rw [spec_l2Good_L2,if_pos (by simpa using hi'),idx_gd f0 hi',List.getElem_range]
      simp only [Option.bind_some,l2Fiber_eq _ hb.2,fibBadS]
      by_cases h1:(fibOk n.Nodes.length (gd n.Fibers i f0))=false
      · simp [h1]
      rw [Bool.not_eq_false] at h1
      simp only [h1]
      by_cases h0:0<i
      · rw [w64_dec h0 (by omega),idx_gd f0 (show i - 1<n.Fibers.length by omega)]
        have h0':((i:Int) > 0):=by omega
        simp [h0,l2Before_eq,h0']
      have h0':¬((i:Int) > 0):=by omega
      simp [h0,h0'])
    (fun fk=>by rw [List.length_range,spec_l2Good_L2,if_neg (by simp)]) fu (by simp; omega),fibBad_eq _ hb.2]
  cases (List.range n.Nodes.length).any (nodeBad n.Nodes) <;> cases (List.range n.Fibers.length).any (fibBad n.Nodes.length n.Fibers) <;> rfl
structure NetF (n:Network):Prop where
  lo:2≤n.Nodes.length
  hi:n.Nodes.length≤8
  fib:n.Fibers.length≤14
  each:∀ f∈n.Fibers,0≤f.A∧f.A<f.B∧f.B<(n.Nodes.length:Int)∧1≤f.Length∧f.Length≤5000∧0≤f.Risk∧f.Risk≤9
theorem netF {n:Network} (h:netOk n=true):NetF n:=by
  unfold netOk at h
  simp only [Bool.and_eq_true,decide_eq_true_eq,Bool.not_eq_true'] at h
  obtain ⟨⟨h1,h2⟩,h3,h4,h5⟩:=h
  refine ⟨h1,h2,h3,fun f hf=>?_⟩
  obtain ⟨i,hi,rfl⟩:=List.mem_iff_getElem.1 hf
  rw [Bool.eq_false_iff] at h5
  have h6:fibBad n.Nodes.length n.Fibers i=false:=by
    rw [Bool.eq_false_iff]
    intro h7
    exact h5 (List.any_eq_true.2 ⟨i,List.mem_range.2 hi,h7⟩)
  unfold fibBad at h6
  rw [Bool.or_eq_false_iff] at h6
  have h8:=h6.1
  rw [gd_in f0 hi] at h8
  simp only [Bool.not_eq_false',fibOk,Bool.and_eq_true,decide_eq_true_eq] at h8
  omega
end AT
namespace AT
theorem app_ok {α:Type} {l m:List α} (h:l.length + m.length≤1099511627776):app l m=some (l++m):=by unfold app; rw [if_pos h]
theorem indexI_eq {fu:Nat} (l:List Int) (v:Int) (h:l.length<fu) (hn:l.length≤2097152):slices_Index_int_int fu l v=some (if l.any (fun x=>x==v) then ((l.findIdx fun x=>x==v:Nat):Int) else -1):=by
  unfold slices_Index_int_int
  rw [scan_all (l:=l) (G:=slices_Index_int_int_L1 fu l v) (fun x=>x==v) (fun i=>(i:Int)) (by omega)
    (fun fk i hi=>by rw [slices_Index_int_int_L1,if_pos (by simpa using hi),idx_in hi,Option.bind_some,beq_symm' v])
    (fun fk=>by rw [slices_Index_int_int_L1,if_neg (by simp)]) fu h]
  cases l.any (fun x=>x==v) <;> rfl
theorem containsI_eq {fu:Nat} (l:List Int) (v:Int) (h:l.length<fu) (hn:l.length≤2097152):slices_Contains_int_int fu l v=some (l.any fun x=>x==v):=by
  unfold slices_Contains_int_int
  rw [indexI_eq l v h hn]
  cases l.any (fun x=>x==v)
  · rfl
  simp
theorem l1Has_eq {fu:Nat} (l:List Int) (v:Int) (h:l.length<fu) (hn:l.length≤2097152):spec_l1Has fu l v=some (l.any fun x=>x==v):=by
  unfold spec_l1Has
  rw [scan_all (l:=l) (G:=spec_l1Has_L1 fu l v) (fun x=>x==v) (fun i=>true) (by omega)
    (fun fk i hi=>by rw [spec_l1Has_L1,if_pos (by simpa using hi),idx_in hi,Option.bind_some])
    (fun fk=>by rw [spec_l1Has_L1,if_neg (by simp)]) fu h]
  cases l.any (fun x=>x==v) <;> rfl
def oth (f:Fiber) (v:Int):Int:=if v=f.A then f.B else if v=f.B then f.A else -1
theorem oth_if {R:Type} (f:Fiber) (v:Int) (k:Int→R):(if v==f.A then k f.B else if v==f.B then k f.A else k (-1))=k (oth f v):=by
  unfold oth
  by_cases h1:v=f.A
  · rw [if_pos (beq_iff_eq.2 h1),if_pos h1]
  rw [if_neg (by simpa using h1),if_neg h1]
  by_cases h2:v=f.B
  · rw [if_pos (beq_iff_eq.2 h2),if_pos h2]
  rw [if_neg (by simpa using h2),if_neg h2]
theorem otherEnd_eq (fu:Nat) (f:Fiber) (v:Int):impl_otherEnd fu f v=some (oth f v):=by
  exact oth_if f v some
theorem l2Other_eq (fu:Nat) (n:Network) (i:Nat) (v:Int) (h:i<n.Fibers.length):spec_l2Other fu n (i:Int) v=some (oth (gd n.Fibers i f0) v):=by
  unfold spec_l2Other
  rw [idx_gd f0 h]
  exact oth_if _ v some
def rwalk (F:List Fiber):List Int→List Int→Int→Option (List Int)
  | [],out,_=>some out
  | i::r,out,v=>if 0≤i∧i<(F.length:Int) then (if oth (gd F i.toNat f0) v<0∨(out.any fun x=>x==oth (gd F i.toNat f0) v)=true then none else rwalk F r (out++[oth (gd F i.toNat f0) v]) (oth (gd F i.toNat f0) v)) else none
def rnodes (n:Network) (r:Route):Option (List Int):=if (0≤r.Start∧r.Start<(n.Nodes.length:Int))∧r.Fibers≠[] then rwalk n.Fibers r.Fibers [r.Start] r.Start else none
def gl (l:List Int):Int:=gd l (l.length - 1) 0
theorem gl_snoc (l:List Int) (x:Int):gl (l++[x])=x:=by unfold gl gd; simp
theorem rwalk_len {F:List Fiber}:∀ {fs out:List Int} {v:Int} {o:List Int},rwalk F fs out v=some o→o.length=out.length + fs.length
  | [],out,v,o,h=>by simp only [rwalk,Option.some.injEq] at h; subst h; simp
  | i::r,out,v,o,h=>by
    unfold rwalk at h
    split at h
    · split at h
      · cases h
      have:=rwalk_len h
      simp only [List.length_append,List.length_cons,List.length_nil] at this ⊢
      omega
    cases h
theorem visited_loop {fu:Nat} (hfu:2097153≤fu) (n:Network) (r:Route) (hn:n.Fibers.length≤2097152) (hr:r.Fibers.length≤2097152):∀ (fk i:Nat) (out:List Int) (v:Int),i≤r.Fibers.length→r.Fibers.length - i<fk→out.length=i + 1 →
    ∃ z,impl_visited_L1 fu n r fk out v i=some (match rwalk n.Fibers (r.Fibers.drop i) out v with | some o=>.next (o,z) | none=>.ret ([],false)):=by
  intro fk
  induction fk with
  | zero=>intro i _ _ _ h; omega
  | succ fk ih =>
    intro i out v hi hk ho
    rw [impl_visited_L1]
    by_cases h:i<r.Fibers.length
    · rw [if_pos (by simpa using h),idx_in h,←List.getElem_cons_drop h,rwalk]
      obtain ⟨e,he⟩:∃ e,e=r.Fibers[i]:=⟨_,rfl⟩
      simp only [←he,Option.bind_some,within_eq]
      rw [w64_in (by omega) (by omega)]
      by_cases hb:0≤e∧e<(n.Fibers.length:Int)
      · rw [if_pos hb]
        have hb':(decide (0≤e)&&decide (e≤(n.Fibers.length:Int) - 1))=true:=by simp; omega
        have hx:idx n.Fibers e=some (gd n.Fibers e.toNat f0):=by
          have:=idx_gd (l:=n.Fibers) (i:=e.toNat) f0 (by omega)
          rwa [Int.toNat_of_nonneg hb.1] at this
        simp only [hb',Bool.not_true,Bool.false_eq_true,if_false,hx,Option.bind_some,otherEnd_eq]
        obtain ⟨y,hy⟩:∃ y,y=oth (gd n.Fibers e.toNat f0) v:=⟨_,rfl⟩
        simp only [←hy,containsI_eq out y (show out.length<fu by omega) (by omega)]
        by_cases hn:y<0∨(out.any fun x=>x==y)=true
        · rw [if_pos hn]
          refine ⟨(0,0),?_⟩
          rcases hn with h1 | h1
          · simp [h1]
          by_cases h2:y<0 <;> simp [h1,h2]
        rw [if_neg hn]
        have h1:¬y<0:=fun h=>hn (.inl h)
        have h2:(out.any fun x=>x==y)=false:=by rw [Bool.eq_false_iff]; exact fun h=>hn (.inr h)
        simp only [h1,decide_false,Bool.false_eq_true,if_false,h2,Option.bind_some]
        rw [app_ok (by simp; omega),Option.bind_some,w64_inc h (by omega)]
        exact ih (i + 1) _ _ h (by omega) (by simp; omega)
      rw [if_neg hb]
      have hb':(decide (0≤e)&&decide (e≤(n.Fibers.length:Int) - 1))=false:=by rw [Bool.eq_false_iff]; simp; omega
      exact ⟨(0,0),by simp [hb']⟩
    obtain rfl:i=r.Fibers.length:=by omega
    rw [if_neg (by simp),List.drop_length]
    exact ⟨_,rfl⟩
theorem visited_eq {fu:Nat} (hfu:2097153≤fu) (n:Network) (r:Route) (hn:n.Fibers.length≤2097152) (hm:n.Nodes.length≤2097152) (hr:r.Fibers.length≤2097152):impl_visited fu n r=some (match rnodes n r with | some o=>(o,true) | none=>([],false)):=by
  unfold impl_visited
  simp only [within_eq,Option.bind_some]
  rw [w64_in (by omega) (by omega)]
  by_cases hs:0≤r.Start∧r.Start<(n.Nodes.length:Int)
  · have hb':(decide (0≤r.Start)&&decide (r.Start≤(n.Nodes.length:Int) - 1))=true:=by simp; omega
    by_cases he:r.Fibers=[]
    · have er:rnodes n r=none:=by unfold rnodes; rw [if_neg fun h=>h.2 he]
      simp [hb',he,er]
    have er:rnodes n r=rwalk n.Fibers r.Fibers [r.Start] r.Start:=by unfold rnodes; rw [if_pos ⟨hs,he⟩]
    have he':((r.Fibers.length:Int)==0)=false:=by
      rw [beq_eq_false_iff_ne]
      have:=List.length_pos_iff.2 he
      omega
    obtain ⟨z,hz⟩:=visited_loop hfu n r hn hr fu 0 [r.Start] r.Start (by omega) (by omega) rfl
    rw [List.drop_zero,show ((0:Nat):Int)=0 from rfl] at hz
    rw [er]
    simp only [hb',Bool.not_true,Bool.false_eq_true,if_false,he',Option.bind_some,hz]
    cases rwalk n.Fibers r.Fibers [r.Start] r.Start <;> rfl
  have hb':(decide (0≤r.Start)&&decide (r.Start≤(n.Nodes.length:Int) - 1))=false:=by rw [Bool.eq_false_iff]; simp; omega
  have er:rnodes n r=none:=by unfold rnodes; rw [if_neg fun h=>hs h.1]
  simp [hb',er]
theorem walk_loop {fu:Nat} (hfu:2097153≤fu) (n:Network) (r:Route) (hn:n.Fibers.length≤2097152) (hr:r.Fibers.length≤2097152):∀ (fk i:Nat) (out:List Int),i≤r.Fibers.length→r.Fibers.length - i<fk→out.length=i + 1 →
    ∃ z o',spec_l4Walk_L1 fu n r fk out i=some (match rwalk n.Fibers (r.Fibers.drop i) out (gl out) with | some o=>.next (o,z) | none=>.ret (o',false)):=by
  intro fk
  induction fk with
  | zero=>intro i _ _ h; omega
  | succ fk ih =>
    intro i out hi hk ho
    rw [spec_l4Walk_L1]
    by_cases h:i<r.Fibers.length
    · rw [if_pos (by simpa using h),idx_in h,←List.getElem_cons_drop h,rwalk]
      obtain ⟨e,he⟩:∃ e,e=r.Fibers[i]:=⟨_,rfl⟩
      have hlast:idx out (w64 ((out.length:Int) - 1))=some (gl out):=by
        rw [w64_dec (by omega) (by omega),idx_gd 0 (by omega)]; rfl
      simp only [←he,Option.bind_some,l1In_eq,hlast]
      rw [w64_in (by omega) (by omega)]
      by_cases hb:0≤e∧e<(n.Fibers.length:Int)
      · rw [if_pos hb]
        have hb':(decide (0≤e)&&decide (e≤(n.Fibers.length:Int) - 1))=true:=by simp; omega
        have hx:spec_l2Other fu n e (gl out)=some (oth (gd n.Fibers e.toNat f0) (gl out)):=by
          have:=l2Other_eq fu n e.toNat (gl out) (by omega)
          rwa [Int.toNat_of_nonneg hb.1] at this
        simp only [hb',Bool.not_true,Bool.false_eq_true,if_false,hx,Option.bind_some]
        obtain ⟨y,hy⟩:∃ y,y=oth (gd n.Fibers e.toNat f0) (gl out):=⟨_,rfl⟩
        simp only [←hy,l1Has_eq out y (show out.length<fu by omega) (by omega)]
        by_cases hn:y<0∨(out.any fun x=>x==y)=true
        · rw [if_pos hn]
          refine ⟨0,out,?_⟩
          rcases hn with h1 | h1
          · simp [h1]
          by_cases h2:y<0 <;> simp [h1,h2]
        rw [if_neg hn]
        have h1:¬y<0:=fun h=>hn (.inl h)
        have h2:(out.any fun x=>x==y)=false:=by rw [Bool.eq_false_iff]; exact fun h=>hn (.inr h)
        simp only [h1,decide_false,Bool.false_eq_true,if_false,h2,Option.bind_some]
        rw [app_ok (by simp; omega),Option.bind_some,w64_inc h (by omega)]
        have:=ih (i + 1) (out++[y]) h (by omega) (by simp; omega)
        rwa [gl_snoc] at this
      rw [if_neg hb]
      have hb':(decide (0≤e)&&decide (e≤(n.Fibers.length:Int) - 1))=false:=by rw [Bool.eq_false_iff]; simp; omega
      exact ⟨0,out,by simp [hb']⟩
    obtain rfl:i=r.Fibers.length:=by omega
    rw [if_neg (by simp),List.drop_length]
    exact ⟨_,[],rfl⟩
theorem walk_eq {fu:Nat} (hfu:2097153≤fu) (n:Network) (r:Route) (hn:n.Fibers.length≤2097152) (hm:n.Nodes.length≤2097152) (hr:r.Fibers.length≤2097152):∃ o',spec_l4Walk fu n r=some (match rnodes n r with | some o=>(o,true) | none=>(o',false)):=by
  unfold spec_l4Walk
  simp only [l1In_eq,Option.bind_some]
  rw [w64_in (by omega) (by omega)]
  by_cases hs:0≤r.Start∧r.Start<(n.Nodes.length:Int)
  · have hb':(decide (0≤r.Start)&&decide (r.Start≤(n.Nodes.length:Int) - 1))=true:=by simp; omega
    by_cases he:r.Fibers=[]
    · have er:rnodes n r=none:=by unfold rnodes; rw [if_neg fun h=>h.2 he]
      exact ⟨[r.Start],by simp [hb',he,er]⟩
    have er:rnodes n r=rwalk n.Fibers r.Fibers [r.Start] r.Start:=by unfold rnodes; rw [if_pos ⟨hs,he⟩]
    have he':((r.Fibers.length:Int)==0)=false:=by
      rw [beq_eq_false_iff_ne]
      have:=List.length_pos_iff.2 he
      omega
    obtain ⟨z,o',hz⟩:=walk_loop hfu n r hn hr fu 0 [r.Start] (by omega) (by omega) rfl
    rw [List.drop_zero,show ((0:Nat):Int)=0 from rfl,show gl [r.Start]=r.Start from rfl] at hz
    refine ⟨o',?_⟩
    rw [er]
    simp only [hb',Bool.not_true,Bool.false_eq_true,if_false,he',Option.bind_some,hz]
    cases rwalk n.Fibers r.Fibers [r.Start] r.Start <;> rfl
  have hb':(decide (0≤r.Start)&&decide (r.Start≤(n.Nodes.length:Int) - 1))=false:=by rw [Bool.eq_false_iff]; simp; omega
  refine ⟨[r.Start],?_⟩
  have er:rnodes n r=none:=by unfold rnodes; rw [if_neg fun h=>hs h.1]
  simp [hb',er]
theorem l4Good_eq {fu:Nat} (hfu:2097153≤fu) (n:Network) (r:Route) (hB:NetB n) (hr:r.Fibers.length≤2097152):spec_l4Good fu n r=some (netOk n&&(rnodes n r).isSome):=by
  unfold spec_l4Good
  rw [specNet_eq hfu n hB,Option.bind_some]
  obtain ⟨o',h⟩:=walk_eq hfu n r hB.2 hB.1.1 hr
  rw [h]
  cases netOk n
  · rfl
  cases rnodes n r <;> rfl
theorem rnodes_len {n:Network} {r:Route} {o:List Int} (h:rnodes n r=some o):o.length=r.Fibers.length + 1:=by
  unfold rnodes at h
  split at h
  · have:=rwalk_len h
    simp only [List.length_cons,List.length_nil] at this
    omega
  cases h
theorem short_of:∀ (m:Nat) (l:List Int),l.Nodup→(∀ x∈l,0≤x∧x<(m:Int))→l.length≤m
  | 0,l,_,h=>by
    cases l with
    | nil=>simp
    | cons x l=>have:=h x (by simp); omega
  | m + 1,l,hn,h=>by
    have h1:=short_of m (l.erase (m:Int)) (hn.erase _) fun x hx=>by
      have hx1:=List.mem_of_mem_erase hx
      have:=h x hx1
      refine ⟨this.1,?_⟩
      have hne:x≠(m:Int):=fun e=>by
        subst e
        exact (hn.not_mem_erase) hx
      omega
    rw [List.length_erase] at h1
    split at h1 <;> omega
theorem oth_mem {f:Fiber} {v:Int} (h:0≤oth f v):(v=f.A∧oth f v=f.B)∨(v=f.B∧oth f v=f.A):=by
  unfold oth at h ⊢
  split at h
  · rename_i h1; rw [if_pos h1]; exact .inl ⟨h1,rfl⟩
  rename_i h1
  rw [if_neg h1]
  split at h
  · rename_i h2; rw [if_pos h2]; exact .inr ⟨h2,rfl⟩
  omega
theorem rwalk_all {F:List Fiber} (P:Int→Prop) (hF:∀ f∈F,P f.A∧P f.B):∀ {fs out:List Int} {v:Int} {o:List Int} (U:List Int),rwalk F fs out v=some o→out.Nodup→(∀ x∈out,P x)→v∈out→(∀ i∈U,(gd F i.toNat f0).A∈out∧(gd F i.toNat f0).B∈out) →
    o.Nodup∧(∀ x∈o,P x)∧fs.Nodup∧∀ i∈fs,i∉U
  | [],out,v,o,U,h,h1,h2,h3,h4=>by
    simp only [rwalk,Option.some.injEq] at h
    subst h
    exact ⟨h1,h2,.nil,by simp⟩
  | i::r,out,v,o,U,h,h1,h2,h3,h4=>by
    unfold rwalk at h
    split at h
    case isFalse=>cases h
    rename_i hi
    split at h
    case isTrue=>cases h
    rename_i hc
    obtain ⟨y,hy⟩:∃ y,y=oth (gd F i.toNat f0) v:=⟨_,rfl⟩
    rw [←hy] at h hc
    have hy0:0≤y:=by
      rcases Classical.em (y<0) with h' | h'
      · exact absurd (.inl h') hc
      omega
    have hny:y∉out:=fun hm=>hc (.inr (List.any_eq_true.2 ⟨y,hm,by simp⟩))
    have hfm:gd F i.toNat f0∈F:=gd_mem f0 (by omega)
    have hm:=oth_mem (f:=gd F i.toNat f0) (v:=v) (by omega)
    rw [←hy] at hm
    have hPy:P y:=by
      rcases hm with ⟨_,e⟩ | ⟨_,e⟩ <;> rw [e]
      · exact (hF _ hfm).2
      exact (hF _ hfm).1
    have hiU:i∉U:=fun hu=>by
      have:=h4 i hu
      rcases hm with ⟨_,e⟩ | ⟨_,e⟩ <;> rw [e] at hny
      · exact hny this.2
      exact hny this.1
    obtain ⟨g1,g2,g3,g4⟩:=rwalk_all P hF (i::U) h
      (List.nodup_append.2 ⟨h1,by simp,fun a ha b hb=>by rw [List.mem_singleton] at hb; subst hb; exact fun e=>hny (e▸ha)⟩)
      (fun x hx=>by
        rcases List.mem_append.1 hx with hx | hx
        · exact h2 x hx
        rw [List.mem_singleton] at hx; subst hx; exact hPy)
      (by simp)
      (fun j hj=>by
        rcases List.mem_cons.1 hj with rfl | hj
        · rcases hm with ⟨e1,e2⟩ | ⟨e1,e2⟩
          · exact ⟨List.mem_append.2 (.inl (e1▸h3)),List.mem_append.2 (.inr (by rw [e2]; simp))⟩
          exact ⟨List.mem_append.2 (.inr (by rw [e2]; simp)),List.mem_append.2 (.inl (e1▸h3))⟩
        exact ⟨List.mem_append.2 (.inl (h4 j hj).1),List.mem_append.2 (.inl (h4 j hj).2)⟩)
    refine ⟨g1,g2,List.nodup_cons.2 ⟨fun hm=>g4 i hm (by simp),g3⟩,fun j hj=>?_⟩
    rcases List.mem_cons.1 hj with rfl | hj
    · exact hiU
    exact fun hu=>g4 j hj (List.mem_cons_of_mem _ hu)
theorem rnodes_facts {n:Network} {r:Route} {o:List Int} (hn:NetF n) (h:rnodes n r=some o):o.Nodup∧(∀ x∈o,0≤x∧x<(n.Nodes.length:Int))∧r.Fibers.Nodup∧r.Fibers.length≤7∧r.Fibers≠[]∧0≤r.Start∧r.Start<(n.Nodes.length:Int):=by
  have hl:=rnodes_len h
  unfold rnodes at h
  split at h
  case isFalse=>cases h
  rename_i hs
  obtain ⟨g1,g2,g3,_⟩:=rwalk_all (fun x=>0≤x∧x<(n.Nodes.length:Int)) (fun f hf=>by have:=hn.each f hf; omega) [] h (by simp) (by simpa using hs.1) (by simp) (by simp)
  have:=short_of _ _ g1 g2
  have:=hn.hi
  exact ⟨g1,g2,g3,by omega,hs.2,hs.1⟩
end AT
namespace AT
theorem less_eq (fu:Nat) (x y:Int):cmp_Less_int fu x y=some (decide (x<y)):=by
  unfold cmp_Less_int cmp_isNaN_int
  have e:(x != x)=false:=by simp
  simp [e]
theorem ins_loop {fu:Nat}:∀ (fk j:Nat) (l:List Int),j<fk→j<l.length→l.length≤2097152→∃ l' j',slices_insertionSortOrdered_int_L2 fu 0 fk l j=some (l',j')∧l'.Perm l:=by
  intro fk
  induction fk with
  | zero=>intro j _ h; omega
  | succ fk ih =>
    intro j l hk hj hl
    rw [slices_insertionSortOrdered_int_L2]
    by_cases h0:0<j
    · have h0':(j:Int) > 0:=by omega
      have hj1:j - 1<l.length:=by omega
      simp only [h0',decide_true,if_true,idx_in hj,w64_dec h0 (show j≤2097152 by omega),idx_in hj1,Option.bind_some,less_eq]
      by_cases hc:l[j]<l[j - 1]
      · have hj2:j - 1<(l.set j l[j - 1]).length:=by rw [List.length_set]; exact hj1
        simp only [hc,decide_true,if_true,Int.toNat_natCast,idx_in hj2,Option.bind_some]
        obtain ⟨l',j',h1,h2⟩:=ih (j - 1) ((l.set j l[j - 1]).set (j - 1) l[j]) (by omega) (by simp; omega) (by simpa using hl)
        exact ⟨l',j',h1,h2.trans (List.set_set_perm hj hj1)⟩
      simp only [hc,decide_false,Bool.false_eq_true,if_false]
      exact ⟨_,_,rfl,.refl _⟩
    have h0':¬(j:Int) > 0:=by omega
    simp only [h0',decide_false,Bool.false_eq_true,if_false,Option.bind_some]
    exact ⟨_,_,rfl,.refl _⟩
theorem ins_all {fu:Nat} (n:Nat) (hn:n≤2097152) (hfu:n<fu):∀ (fk i:Nat) (l:List Int),n - i<fk→1≤i→l.length=n→∃ l' i',slices_insertionSortOrdered_int_L1 fu 0 n fk l i=some (l',i')∧l'.Perm l:=by
  intro fk
  induction fk with
  | zero=>intro i _ h; omega
  | succ fk ih =>
    intro i l hk hi hl
    rw [slices_insertionSortOrdered_int_L1]
    by_cases h:i<n
    · have h':(i:Int)<(n:Int):=by omega
      obtain ⟨l',j',h1,h2⟩:=ins_loop (fu:=fu) fu i l (by omega) (by omega) (by omega)
      obtain ⟨l2,i2,h3,h4⟩:=ih (i + 1) l' (by omega) (by omega) (by rw [h2.length_eq]; exact hl)
      simp only [h',decide_true,if_true,h1,Option.bind_some,w64_inc h (show (n:Int)≤9223372036854775807 by omega)]
      exact ⟨l2,i2,h3,h4.trans h2⟩
    have h':¬(i:Int)<(n:Int):=by omega
    simp only [h',decide_false,Bool.false_eq_true,if_false]
    exact ⟨_,_,rfl,.refl _⟩
theorem bind_sidx {s:ByteArray} {i:Int} {g:By→Int} (h:s.size=256) (h0:0≤i) (h1:i<256):∃ k,((sidx s i).bind fun e=>some (g e))=some k:=by
  unfold sidx
  have e:s[i.toNat]?=some (s[i.toNat]'(by omega)):=by simp
  rw [if_pos h0,e]
  exact ⟨_,rfl⟩
set_option maxRecDepth 20000 in
theorem tab_some {s:ByteArray} {i:Int} (h:s.size=256) (h0:0≤i) (h1:i<256):∃ k,(((sidx s i).bind fun e=>some (w64 (0 + w64 e.n))).bind fun y=>some y)=some k:=by
  obtain ⟨k,hk⟩:=bind_sidx (g:=fun e=>w64 (0 + w64 e.n)) h h0 h1
  rw [hk]
  exact ⟨k,rfl⟩
set_option maxRecDepth 20000 in
theorem len8 {fu:Nat} {x:U64} (h0:0≤x.n) (h:x.n<256):∃ k,math_bits_Len fu x=some k:=by
  unfold math_bits_Len math_bits_Len64
  have a1:¬x.n≥4294967296:=by omega
  have a2:¬x.n≥65536:=by omega
  have a3:¬x.n≥256:=by omega
  rw [if_neg (by simpa using a1),if_neg (by simpa using a2),if_neg (by simpa using a3)]
  have hw:wu8 x.n=x.n:=by unfold wu8; omega
  rw [hw]
  exact tab_some rfl h0 h
theorem sort_ok {fu:Nat} (hfu:2097153≤fu) (l:List Int) (h:l.length≤12):∃ l',slices_Sort_int_int fu l=some l'∧l'.Perm l:=by
  unfold slices_Sort_int_int slices_pdqsortOrdered_int
  obtain ⟨k,hk⟩:=len8 (fu:=fu) (x:=(⟨wu64 (l.length:Int)⟩:U64)) (by simp only [wu64]; omega) (by simp only [wu64]; omega)
  obtain ⟨fk,rfl⟩:=Nat.exists_eq_succ_of_ne_zero (show fu≠0 by omega)
  obtain ⟨l',i',h1,h2⟩:=ins_all (fu:=fk.succ) l.length (by omega) (by omega) fk.succ 1 l (by omega) (by omega) rfl
  rw [hk,Option.bind_some,slices_pdqsortOrdered_int_L1]
  have hd:decide (w64 ((l.length:Int) - 0)≤12)=true:=by rw [w64_in (by omega) (by omega)]; simp; omega
  have h01:w64 (0 + 1)=((1:Nat):Int):=by decide
  simp only [hd,if_true,slices_insertionSortOrdered_int,h01,h1,Option.bind_some]
  exact ⟨_,rfl,h2⟩
theorem compact_loop {fu:Nat} (l:List Int) (hn:l.Nodup) (hl:l.length≤2097152):∀ (fk k:Nat),l.length - k<fk→1≤k→∃ z,slices_Compact_int_int_L1 fu l fk k=some (.next z):=by
  intro fk
  induction fk with
  | zero=>intro k h; omega
  | succ fk ih =>
    intro k hk h1
    rw [slices_Compact_int_int_L1]
    by_cases h:k<l.length
    · have h':(k:Int)<(l.length:Int):=by omega
      have hne:(l[k]==l[k - 1])=false:=by
        rw [beq_eq_false_iff_ne]
        intro e
        have:=(List.getElem_inj hn).1 e
        omega
      simp only [h',decide_true,if_true,idx_in h,w64_dec (show 0<k by omega) (show k≤2097152 by omega),idx_in (show k - 1<l.length by omega),Option.bind_some,hne,Bool.false_eq_true,if_false,w64_inc h (show (l.length:Int)≤9223372036854775807 by omega)]
      exact ih (k + 1) (by omega) (by omega)
    have h':¬(k:Int)<(l.length:Int):=by omega
    simp only [h',decide_false,Bool.false_eq_true,if_false]
    exact ⟨_,rfl⟩
theorem compact_ok {fu:Nat} (l:List Int) (hn:l.Nodup) (hl:l.length≤2097152) (hfu:2097153≤fu):slices_Compact_int_int fu l=some l:=by
  unfold slices_Compact_int_int
  obtain ⟨z,hz⟩:=compact_loop (fu:=fu) l hn hl fu 1 (by omega) (by omega)
  rw [show ((1:Nat):Int)=1 from rfl] at hz
  rw [hz]
  split <;> rfl
def meets (a b:List Int):Bool:=a.any fun x=>b.any fun y=>y==x
theorem common_loop {fu:Nat} (a b:List Int) (ha:a.length≤2097152) (hb:b.length≤2097152) (hfu:2097153≤fu):∀ (fk i:Nat) (out:List Int),a.length - i<fk→i≤a.length→out.length≤i→∃ z,impl_common_L1 fu a b fk out i=some (out++(a.drop i).filter (fun x=>b.any fun y=>y==x),z):=by
  intro fk
  induction fk with
  | zero=>intro i _ h; omega
  | succ fk ih =>
    intro i out hk hi ho
    rw [impl_common_L1]
    by_cases h:i<a.length
    · have h':(i:Int)<(a.length:Int):=by omega
      simp only [h',decide_true,if_true,idx_in h,Option.bind_some,containsI_eq b a[i] (show b.length<fu by omega) hb]
      rw [←List.getElem_cons_drop h,List.filter_cons]
      by_cases hc:(b.any fun y=>y==a[i])=true
      · rw [if_pos hc,if_pos hc,app_ok (by simp; omega),Option.bind_some,w64_inc h (by omega)]
        obtain ⟨z,hz⟩:=ih (i + 1) (out++[a[i]]) (by omega) h (by simp; omega)
        exact ⟨z,by rw [hz,List.append_assoc]; rfl⟩
      rw [if_neg hc,if_neg hc,w64_inc h (by omega)]
      exact ih (i + 1) out (by omega) h (by omega)
    obtain rfl:i=a.length:=by omega
    have h':¬((a.length:Nat):Int)<(a.length:Int):=by omega
    simp only [h',decide_false,Bool.false_eq_true,if_false,List.drop_length,List.filter_nil,List.append_nil]
    exact ⟨_,rfl⟩
theorem filter_pos {a b:List Int}:(0<(a.filter fun x=>b.any fun y=>y==x).length)↔meets a b=true:=by
  unfold meets
  rw [List.length_pos_iff_exists_mem,List.any_eq_true]
  constructor
  · rintro ⟨x,hx⟩
    rw [List.mem_filter] at hx
    exact ⟨x,hx⟩
  rintro ⟨x,hx⟩
  exact ⟨x,List.mem_filter.2 hx⟩
theorem common_ok {fu:Nat} (a b:List Int) (ha:a.length≤12) (hn:a.Nodup) (hb:b.length≤2097152) (hfu:2097153≤fu):∃ c,impl_common fu a b=some c∧decide ((c.length:Int) > 0)=meets a b:=by
  unfold impl_common
  obtain ⟨z,hz⟩:=common_loop a b (by omega) hb hfu fu 0 [] (by omega) (by omega) (by simp)
  rw [show ((0:Nat):Int)=0 from rfl] at hz
  simp only [hz,Option.bind_some,List.nil_append,List.drop_zero]
  have hlen:(a.filter fun x=>b.any fun y=>y==x).length≤12:=Nat.le_trans (List.length_filter_le _ _) ha
  obtain ⟨l',h1,h2⟩:=sort_ok hfu (a.filter fun x=>b.any fun y=>y==x) hlen
  have hnd:l'.Nodup:=h2.nodup_iff.2 (hn.filter _)
  have hl':=h2.length_eq
  rw [h1,Option.bind_some,compact_ok l' hnd (by omega) hfu]
  refine ⟨l',rfl,?_⟩
  rw [Bool.eq_iff_iff,decide_eq_true_eq,←filter_pos]
  omega
end AT
namespace AT
theorem uses_eq {fu:Nat} (hfu:2097153≤fu) (r:Route) (g:List Int) (hr:r.Fibers.length≤2097152) (hg:g.length≤2097152):spec_l4Uses fu r g=some (meets r.Fibers g):=by
  unfold spec_l4Uses
  rw [scan_all (l:=r.Fibers) (G:=spec_l4Uses_L1 fu r g) (fun x=>g.any fun y=>y==x) (fun i=>true) (by omega)
    (fun fk i hi=>by
      have h':(i:Int)<(r.Fibers.length:Int):=by omega
      rw [spec_l4Uses_L1]
      simp only [h',decide_true,if_true,idx_in hi,Option.bind_some,l1Has_eq g r.Fibers[i] (show g.length<fu by omega) hg])
    (fun fk=>by rw [spec_l4Uses_L1,if_neg (by simp)]) fu (by omega)]
  unfold meets
  cases r.Fibers.any fun x=>g.any fun y=>y==x <;> rfl
def blkOk (b:Block):Bool:=decide (0≤b.First)&&(decide (1≤b.Count)&&decide (b.First + b.Count≤24))
theorem l8Good_eq (fu:Nat) (b:Block):spec_l8Good fu b=some (blkOk b):=by
  unfold spec_l8Good blkOk
  simp only [l1In_eq,Option.bind_some]
  by_cases h:0≤b.First∧b.First≤23
  · have hc:(decide (0≤b.First)&&decide (b.First≤23))=true:=by simpa using h
    rw [w64_in (by omega) (by omega)]
    simp only [hc,if_true,Option.bind_some,Option.some.injEq]
    rw [Bool.eq_iff_iff]
    simp only [Bool.and_eq_true,decide_eq_true_eq]
    omega
  have hc:(decide (0≤b.First)&&decide (b.First≤23))=false:=by rw [Bool.eq_false_iff]; simp only [ne_eq,Bool.and_eq_true,decide_eq_true_eq]; exact h
  simp only [hc,Bool.false_eq_true,if_false,Option.bind_some,Option.some.injEq]
  rw [Bool.eq_iff_iff]
  simp only [Bool.and_eq_true,decide_eq_true_eq,Bool.false_eq_true,false_iff]
  omega
theorem implBlk_eq (fu:Nat) (b:Block):impl_IsValidBlock fu b=some (blkOk b):=by
  unfold impl_IsValidBlock blkOk
  simp only [within_eq,Option.bind_some]
  by_cases h0:0≤b.First
  · by_cases h:1≤b.Count∧b.Count≤24
    · have hc:(decide (1≤b.Count)&&decide (b.Count≤24))=true:=by simpa using h
      rw [w64_in (by omega) (by omega)]
      simp only [ge_iff_le,h0,hc,decide_true,if_true,Option.bind_some,Option.some.injEq,Bool.true_and]
      rw [Bool.eq_iff_iff]
      simp only [Bool.and_eq_true,decide_eq_true_eq]
      omega
    have hc:(decide (1≤b.Count)&&decide (b.Count≤24))=false:=by rw [Bool.eq_false_iff]; simp only [ne_eq,Bool.and_eq_true,decide_eq_true_eq]; exact h
    simp only [ge_iff_le,h0,hc,decide_true,if_true,Bool.false_eq_true,if_false,Option.bind_some,Option.some.injEq]
    rw [Bool.eq_iff_iff]
    simp only [Bool.and_eq_true,decide_eq_true_eq,Bool.false_eq_true,false_iff]
    omega
  simp [h0]
def bits (b:Block):Int:=(2 ^ b.Count.toNat - 1) * 2 ^ b.First.toNat
theorem pow_le24 {k:Nat} (h:k≤24):(1:Int)≤2 ^ k∧(2:Int) ^ k≤16777216:=by
  have h1:(2:Nat) ^ k≤2 ^ 24:=Nat.pow_le_pow_right (by omega) h
  have h2:1≤(2:Nat) ^ k:=Nat.one_le_two_pow
  have h3:((2 ^ k:Nat):Int)=2 ^ k:=by norm_cast
  omega
theorem bits_bound {b:Block} (h:blkOk b=true):0≤bits b∧bits b<16777216:=by
  simp only [blkOk,Bool.and_eq_true,decide_eq_true_eq] at h
  have e:(2:Int) ^ b.Count.toNat * 2 ^ b.First.toNat=2 ^ (b.Count.toNat + b.First.toNat):=(Int.pow_add _ _ _).symm
  have h1:=pow_le24 (show b.Count.toNat≤24 by omega)
  have h2:=pow_le24 (show b.First.toNat≤24 by omega)
  have h3:=pow_le24 (show b.Count.toNat + b.First.toNat≤24 by omega)
  unfold bits
  rw [Int.sub_mul,e,Int.one_mul]
  refine ⟨?_,by omega⟩
  have h4:(2:Int) ^ b.First.toNat≤2 ^ (b.Count.toNat + b.First.toNat):=by
    have:(2:Nat) ^ b.First.toNat≤2 ^ (b.Count.toNat + b.First.toNat):=Nat.pow_le_pow_right (by omega) (by omega)
    have e1:((2 ^ b.First.toNat:Nat):Int)=2 ^ b.First.toNat:=by norm_cast
    have e2:((2 ^ (b.Count.toNat + b.First.toNat):Nat):Int)=2 ^ (b.Count.toNat + b.First.toNat):=by norm_cast
    omega
  omega
theorem shl_bits {b:Block} (h:blkOk b=true):((shl 1 b.Count).bind fun q=>(shl (w64 (q - 1)) b.First).bind fun q2=>some q2)=some (bits b):=by
  have hb:=bits_bound h
  simp only [blkOk,Bool.and_eq_true,decide_eq_true_eq] at h
  have h1:=pow_le24 (show b.Count.toNat≤24 by omega)
  have m1:min b.Count.toNat 64=b.Count.toNat:=by omega
  have m2:min b.First.toNat 64=b.First.toNat:=by omega
  unfold shl
  rw [if_neg (show ¬b.Count<0 by omega),Option.bind_some,if_neg (show ¬b.First<0 by omega),m1,m2,Int.one_mul,w64_in (n:=2 ^ b.Count.toNat) (by omega) (by omega),w64_in (n:=2 ^ b.Count.toNat - 1) (by omega) (by omega)]
  have:(2 ^ b.Count.toNat - 1) * 2 ^ b.First.toNat=bits b:=rfl
  rw [this,w64_in (by omega) (by omega)]
  rfl
theorem maskOf_eq {fu:Nat} {b:Block} (h:blkOk b=true):impl_maskOf fu b=some (bits b):=shl_bits h
theorem wu64_in {n:Int} (h:0≤n) (h':n<18446744073709551616):wu64 n=n:=by unfold wu64; omega
theorem l8Bits_eq {fu:Nat} {b:Block} (h:blkOk b=true):spec_l8Bits fu b=some (bits b):=by
  unfold spec_l8Bits
  have h':=h
  simp only [blkOk,Bool.and_eq_true,decide_eq_true_eq] at h'
  rw [wu64_in (by omega) (by omega),wu64_in (by omega) (by omega)]
  exact shl_bits h
def lightOk (n:Network) (x:Light):Bool:=(decide (1≤x.Id)&&decide (x.Id≤999))&&((rnodes n x.Route).isSome&&blkOk x.Block)
theorem isLight_eq {fu:Nat} (hfu:2097153≤fu) (n:Network) (x:Light) (hB:NetB n) (hr:x.Route.Fibers.length≤2097152):impl_isLight fu n x=some (lightOk n x):=by
  unfold impl_isLight lightOk
  rw [visited_eq hfu n x.Route hB.2 hB.1.1 hr]
  simp only [within_eq,implBlk_eq,Option.bind_some]
  cases rnodes n x.Route with
  | none=>simp
  | some o=>cases hc:(decide (1≤x.Id)&&decide (x.Id≤999)) <;> simp [hc]
theorem l9Light_eq {fu:Nat} (hfu:2097153≤fu) (n:Network) (x:Light) (hB:NetB n) (hn:netOk n=true) (hr:x.Route.Fibers.length≤2097152):spec_l9Light fu n x=some (lightOk n x):=by
  unfold spec_l9Light lightOk
  simp only [l1In_eq,l8Good_eq,l4Good_eq hfu n x.Route hB hr,hn,Bool.true_and,Option.bind_some]
  cases hc:(decide (1≤x.Id)&&decide (x.Id≤999))
  · simp
  cases (rnodes n x.Route).isSome <;> simp
def coll (a b:Light):Bool:=meets a.Route.Fibers b.Route.Fibers&&(band (bits a.Block) (bits b.Block) != 0)
structure LightF (n:Network) (x:Light):Prop where
  nodup:x.Route.Fibers.Nodup
  short:x.Route.Fibers.length≤7
  blk:blkOk x.Block=true
  route:∃ o,rnodes n x.Route=some o
  id:1≤x.Id∧x.Id≤999
theorem lightF {n:Network} {x:Light} (hn:netOk n=true) (h:lightOk n x=true):LightF n x:=by
  unfold lightOk at h
  simp only [Bool.and_eq_true,decide_eq_true_eq] at h
  obtain ⟨h1,h2,h3⟩:=h
  obtain ⟨o,ho⟩:=Option.isSome_iff_exists.1 h2
  have hf:=rnodes_facts (netF hn) ho
  exact ⟨hf.2.2.1,hf.2.2.2.1,h3,⟨o,ho⟩,h1⟩
theorem l9Collide_eq {fu:Nat} (hfu:2097153≤fu) {n:Network} {a b:Light} (ha:LightF n a) (hb:LightF n b):spec_l9Collide fu a b=some (coll a b):=by
  unfold spec_l9Collide coll
  have h1:=ha.short
  have h2:=hb.short
  rw [uses_eq hfu a.Route b.Route.Fibers (by omega) (by omega)]
  simp only [l8Bits_eq ha.blk,l8Bits_eq hb.blk,Option.bind_some]
  cases meets a.Route.Fibers b.Route.Fibers <;> simp
theorem and_of (q m:Bool):((if q=true then some m else some false).bind fun c=>some c)=some (m&&q):=by cases q <;> cases m <;> rfl
theorem collide_eq {fu:Nat} (hfu:2097153≤fu) {n:Network} {a b:Light} (ha:LightF n a) (hb:LightF n b):impl_collide fu a b=some (coll a b):=by
  unfold impl_collide coll
  have h1:=ha.short
  have h2:=hb.short
  obtain ⟨c,hc,hd⟩:=common_ok (fu:=fu) a.Route.Fibers b.Route.Fibers (by omega) ha.nodup (by omega) hfu
  rw [maskOf_eq ha.blk,Option.bind_some,maskOf_eq hb.blk,Option.bind_some,hc,Option.bind_some,hd]
  exact and_of _ _
theorem scan_prev {α R:Type} {l:List α} {G:Nat→Int→Option (Out Int R)} (p:Nat→Bool) (r:Nat→R) (hn:(l.length:Int)≤9223372036854775807)
    (hG:∀ fk (i:Nat) (h:i<l.length),(∀ j,j<i→p j=false)→G (fk + 1) i=if p i=true then some (.ret (r i)) else G fk (w64 ((i:Int) + 1)))
    (hz:∀ fk,G (fk + 1) l.length=some (.next (l.length:Int))):∀ (fk i:Nat),l.length - i<fk→i≤l.length→(∀ j,j<i→p j=false) →
    (∃ k,k<l.length∧i≤k∧p k=true∧(∀ j,j<k→p j=false)∧G fk i=some (.ret (r k)))∨((∀ j,j<l.length→p j=false)∧G fk i=some (.next (l.length:Int))):=by
  intro fk
  induction fk with
  | zero=>intro i h; omega
  | succ fk ih =>
    intro i hk hi hp
    by_cases h:i<l.length
    · rw [hG fk i h hp]
      by_cases hc:p i=true
      · rw [if_pos hc]
        exact .inl ⟨i,h,Nat.le_refl _,hc,hp,rfl⟩
      rw [if_neg hc,w64_inc h hn]
      rw [Bool.not_eq_true] at hc
      have hp':∀ j,j<i + 1→p j=false:=fun j hj=>by
        rcases Nat.lt_or_ge j i with h' | h'
        · exact hp j h'
        obtain rfl:j=i:=by omega
        exact hc
      rcases ih (i + 1) (by omega) h hp' with ⟨k,k1,k2,k3,k4,k5⟩ | ⟨h1,h2⟩
      · exact .inl ⟨k,k1,by omega,k3,k4,k5⟩
      exact .inr ⟨h1,h2⟩
    obtain rfl:i=l.length:=by omega
    rw [hz]
    exact .inr ⟨hp,rfl⟩
theorem scan_any {α R:Type} {l:List α} {G:Nat→Int→Option (Out Int R)} (p:Nat→Bool) (r:R) (hn:(l.length:Int)≤9223372036854775807)
    (hG:∀ fk (i:Nat) (h:i<l.length),(∀ j,j<i→p j=false)→G (fk + 1) i=if p i=true then some (.ret r) else G fk (w64 ((i:Int) + 1)))
    (hz:∀ fk,G (fk + 1) l.length=some (.next (l.length:Int))) (fk:Nat) (hk:l.length<fk):G fk 0=some (if (List.range l.length).any p=true then .ret r else .next (l.length:Int)):=by
  rcases scan_prev p (fun _=>r) hn hG hz fk 0 (by omega) (by omega) (fun j h=>by omega) with ⟨k,k1,-,k3,-,k5⟩ | ⟨h1,h2⟩
  · rw [if_pos (List.any_eq_true.2 ⟨k,List.mem_range.2 k1,k3⟩)]
    exact k5
  rw [if_neg]
  · exact h2
  intro h
  obtain ⟨k,k1,k2⟩:=List.any_eq_true.1 h
  rw [h1 k (List.mem_range.1 k1)] at k2
  cases k2
def l0:Light:=⟨0,⟨0,[]⟩,⟨0,0⟩⟩
def planBad (n:Network) (L:List Light) (i:Nat):Bool:=!lightOk n (gd L i l0)||((decide (0<i)&&decide ((gd L (i - 1) l0).Id≥(gd L i l0).Id))||(L.take i).any fun y=>coll y (gd L i l0))
def planOk (p:Plan):Bool:=netOk p.Network&&(decide (p.Lights.length≤12)&&!((List.range p.Lights.length).any (planBad p.Network p.Lights)))
def PlanB (p:Plan):Prop:=NetB p.Network∧p.Lights.length≤2097152∧∀ x∈p.Lights,x.Route.Fibers.length≤2097152
theorem prev_ok {n:Network} {L:List Light} {i:Nat} (h:i<L.length) (hp:∀ j,j<i→planBad n L j=false):∀ y∈L.take i,lightOk n y=true:=by
  intro y hy
  obtain ⟨j,hj,rfl⟩:=List.mem_iff_getElem.1 hy
  rw [List.length_take] at hj
  rw [List.getElem_take]
  have:=hp j (by omega)
  unfold planBad at this
  rw [Bool.or_eq_false_iff,gd_in l0 (show j<L.length by omega)] at this
  simpa using this.1
theorem containsC_eq {fu:Nat} (hfu:2097153≤fu) {n:Network} (l:List Light) (x:Light) (hl:l.length≤2097152) (hL:∀ y∈l,LightF n y) (hx:LightF n x):slices_ContainsFunc_impl_Light_impl_Light_of_IsValidPlan_c1 fu l x=some (l.any fun y=>coll y x):=by
  unfold slices_ContainsFunc_impl_Light_impl_Light_of_IsValidPlan_c1 slices_IndexFunc_impl_Light_impl_Light_of_IsValidPlan_c1
  rw [scan_all (l:=l) (G:=slices_IndexFunc_impl_Light_impl_Light_of_IsValidPlan_c1_L1 fu l x) (fun y=>coll y x) (fun i=>(i:Int)) (by omega)
    (fun fk i hi=>by
      have h':(i:Int)<(l.length:Int):=by omega
      rw [slices_IndexFunc_impl_Light_impl_Light_of_IsValidPlan_c1_L1]
      simp only [h',decide_true,if_true,idx_in hi,Option.bind_some,impl_IsValidPlan_c1,collide_eq hfu (hL _ (List.getElem_mem hi)) hx])
    (fun fk=>by rw [slices_IndexFunc_impl_Light_impl_Light_of_IsValidPlan_c1_L1,if_neg (by simp)]) fu (by omega)]
  cases l.any fun y=>coll y x <;> simp [Out.on]
theorem implPlan_eq {fu:Nat} (hfu:2097153≤fu) (p:Plan) (hB:PlanB p):impl_IsValidPlan fu p=some (planOk p):=by
  obtain ⟨hN,hL,hR⟩:=hB
  unfold impl_IsValidPlan planOk
  rw [implNet_eq hfu _ hN,Option.bind_some]
  cases hn:netOk p.Network
  · rfl
  simp only [Bool.not_true,Bool.false_eq_true,if_false,Option.bind_some,Bool.true_and]
  by_cases h12:p.Lights.length≤12
  · have h12':¬(p.Lights.length:Int) > 12:=by omega
    simp only [h12',decide_false,Bool.false_eq_true,if_false,h12,decide_true,Bool.true_and]
    rw [scan_any (l:=p.Lights) (G:=impl_IsValidPlan_L1 fu p) (planBad p.Network p.Lights) false (by omega)
      (fun fk i hi hp=>by
        have h':(i:Int)<(p.Lights.length:Int):=by omega
        have hr:=hR _ (gd_mem l0 hi)
        rw [impl_IsValidPlan_L1]
        simp only [h',decide_true,if_true,idx_gd l0 hi,Option.bind_some,isLight_eq hfu _ _ hN hr,sub_take (show i≤p.Lights.length by omega)]
        by_cases hl:lightOk p.Network (gd p.Lights i l0)=true
        · have hf:=lightF hn hl
          have hc:=containsC_eq hfu (p.Lights.take i) (gd p.Lights i l0) (by simp; omega) (fun y hy=>lightF hn (prev_ok hi hp y hy)) hf
          simp only [planBad,hl,Bool.not_true,Bool.false_eq_true,if_false,hc,Option.bind_some,Bool.false_or]
          by_cases h0:0<i
          · have h0':(i:Int) > 0:=by omega
            simp only [h0',h0,decide_true,if_true,w64_dec h0 (show i≤2097152 by omega),idx_gd l0 (show i - 1<p.Lights.length by omega),Option.bind_some,Bool.true_and]
            by_cases hid:(gd p.Lights (i - 1) l0).Id≥(gd p.Lights i l0).Id
            · simp [hid]
            simp only [hid,decide_false,Bool.false_eq_true,if_false,Bool.false_or,Option.bind_some]
          have h0':¬(i:Int) > 0:=by omega
          simp only [h0',h0,decide_false,Bool.false_eq_true,if_false,Bool.false_and,Bool.false_or,Option.bind_some]
        rw [Bool.not_eq_true] at hl
        simp [planBad,hl])
      (fun fk=>by rw [impl_IsValidPlan_L1,if_neg (by simp)]) fu (by omega)]
    cases (List.range p.Lights.length).any (planBad p.Network p.Lights) <;> rfl
  have h12':(p.Lights.length:Int) > 12:=by omega
  simp [h12',h12]
theorem specPlan_eq {fu:Nat} (hfu:2097153≤fu) (p:Plan) (hB:PlanB p):spec_l9Good fu p=some (planOk p):=by
  obtain ⟨hN,hL,hR⟩:=hB
  unfold spec_l9Good planOk
  rw [specNet_eq hfu _ hN,Option.bind_some]
  cases hn:netOk p.Network
  · rfl
  simp only [Bool.not_true,Bool.false_eq_true,if_false,Option.bind_some,Bool.true_and]
  by_cases h12:p.Lights.length≤12
  · have h12':¬(p.Lights.length:Int) > 12:=by omega
    simp only [h12',decide_false,Bool.false_eq_true,if_false,h12,decide_true,Bool.true_and]
    rw [scan_any (l:=p.Lights) (G:=spec_l9Good_L1 fu p) (planBad p.Network p.Lights) false (by omega)
      (fun fk i hi hp=>by
        have h':(i:Int)<(p.Lights.length:Int):=by omega
        have hr:=hR _ (gd_mem l0 hi)
        rw [spec_l9Good_L1]
        simp only [h',decide_true,if_true,idx_gd l0 hi,Option.bind_some,l9Light_eq hfu _ _ hN hn hr]
        by_cases hl:lightOk p.Network (gd p.Lights i l0)=true
        · have hf:=lightF hn hl
          have hc:spec_l9Good_L2 fu p i fu 0=some (if (List.range (p.Lights.take i).length).any (fun k=>coll (gd p.Lights k l0) (gd p.Lights i l0))=true then .ret false else .next ((p.Lights.take i).length:Int)) :=
            scan_any (l:=p.Lights.take i) (G:=spec_l9Good_L2 fu p i) (fun k=>coll (gd p.Lights k l0) (gd p.Lights i l0)) false (by simp; omega)
              (fun fk k hk _=>by
                have hk':k<i:=by simp at hk; omega
                have hk2:(k:Int)<(i:Int):=by omega
                have hfk:=lightF hn (prev_ok hi hp (gd p.Lights k l0) (by
                  rw [gd_in l0 (show k<p.Lights.length by omega)]
                  refine List.mem_iff_getElem.2 ⟨k,hk,by rw [List.getElem_take]⟩))
                rw [spec_l9Good_L2]
                simp only [hk2,decide_true,if_true,idx_gd l0 hi,idx_gd l0 (show k<p.Lights.length by omega),Option.bind_some,l9Collide_eq hfu hfk hf])
              (fun fk=>by
                have:(p.Lights.take i).length=i:=by simp; omega
                rw [this,spec_l9Good_L2,if_neg (by simp)]) fu (by simp; omega)
          have ha:(List.range (p.Lights.take i).length).any (fun k=>coll (gd p.Lights k l0) (gd p.Lights i l0))=(p.Lights.take i).any fun y=>coll y (gd p.Lights i l0):=by
            rw [Bool.eq_iff_iff,List.any_eq_true,List.any_eq_true]
            constructor
            · rintro ⟨k,k1,k2⟩
              have k1':=List.mem_range.1 k1
              have hk':k<i:=by simp at k1'; omega
              rw [gd_in l0 (show k<p.Lights.length by omega)] at k2
              exact ⟨_,List.mem_iff_getElem.2 ⟨k,k1',by rw [List.getElem_take]⟩,k2⟩
            rintro ⟨y,y1,y2⟩
            obtain ⟨k,k1,rfl⟩:=List.mem_iff_getElem.1 y1
            have hk':k<i:=by simp at k1; omega
            refine ⟨k,List.mem_range.2 k1,?_⟩
            rw [gd_in l0 (show k<p.Lights.length by omega)]
            rw [List.getElem_take] at y2
            exact y2
          rw [ha] at hc
          simp only [planBad,hl,Bool.not_true,Bool.false_eq_true,if_false,hc,Option.bind_some,Bool.false_or]
          by_cases h0:0<i
          · have h0':(i:Int) > 0:=by omega
            simp only [h0',h0,decide_true,if_true,w64_dec h0 (show i≤2097152 by omega),idx_gd l0 (show i - 1<p.Lights.length by omega),Option.bind_some,Bool.true_and]
            by_cases hid:(gd p.Lights (i - 1) l0).Id≥(gd p.Lights i l0).Id
            · simp [hid]
            simp only [hid,decide_false,Bool.false_eq_true,if_false,Bool.false_or,Option.bind_some]
            cases (p.Lights.take i).any fun y=>coll y (gd p.Lights i l0) <;> rfl
          have h0':¬(i:Int) > 0:=by omega
          simp only [h0',h0,decide_false,Bool.false_eq_true,if_false,Bool.false_and,Bool.false_or,Option.bind_some]
          cases (p.Lights.take i).any fun y=>coll y (gd p.Lights i l0) <;> rfl
        rw [Bool.not_eq_true] at hl
        simp [planBad,hl])
      (fun fk=>by rw [spec_l9Good_L1,if_neg (by simp)]) fu (by omega)]
    cases (List.range p.Lights.length).any (planBad p.Network p.Lights) <;> rfl
  have h12':(p.Lights.length:Int) > 12:=by omega
  simp [h12',h12]
structure PlanF (p:Plan):Prop where
  net:netOk p.Network=true
  short:p.Lights.length≤12
  light:∀ x∈p.Lights,LightF p.Network x
theorem planF {p:Plan} (h:planOk p=true):PlanF p:=by
  unfold planOk at h
  simp only [Bool.and_eq_true,decide_eq_true_eq,Bool.not_eq_true'] at h
  obtain ⟨h1,h2,h3⟩:=h
  refine ⟨h1,h2,fun x hx=>?_⟩
  obtain ⟨i,hi,rfl⟩:=List.mem_iff_getElem.1 hx
  rw [Bool.eq_false_iff] at h3
  have h6:planBad p.Network p.Lights i=false:=by
    rw [Bool.eq_false_iff]
    intro h7
    exact h3 (List.any_eq_true.2 ⟨i,List.mem_range.2 hi,h7⟩)
  unfold planBad at h6
  rw [Bool.or_eq_false_iff,gd_in l0 hi] at h6
  exact lightF h1 (by simpa using h6.1)
end AT
namespace AT
def MK (m:Int):Prop:=0≤m∧m<16777216
theorem ofInt_nat {m:Int} (h:MK m):(BitVec.ofInt 64 m).toNat=m.toNat:=by
  rw [BitVec.toNat_ofInt]
  have:((2 ^ 64:Nat):Int)=18446744073709551616:=by decide
  rw [this]
  unfold MK at h
  omega
theorem band_eq {a b:Int} (ha:MK a) (hb:MK b):band a b=((a.toNat &&& b.toNat:Nat):Int):=by
  unfold band
  rw [BitVec.toNat_and,ofInt_nat ha,ofInt_nat hb]
  have h1:a.toNat &&& b.toNat<2 ^ 24:=Nat.and_lt_two_pow _ (by unfold MK at hb; omega)
  exact w64_in (by omega) (by omega)
theorem bor_eq {a b:Int} (ha:MK a) (hb:MK b):bor a b=((a.toNat ||| b.toNat:Nat):Int):=by
  unfold bor
  rw [BitVec.toNat_or,ofInt_nat ha,ofInt_nat hb]
  have h1:a.toNat ||| b.toNat<2 ^ 24:=Nat.or_lt_two_pow (by unfold MK at ha; omega) (by unfold MK at hb; omega)
  exact w64_in (by omega) (by omega)
theorem bor_mk {a b:Int} (ha:MK a) (hb:MK b):MK (bor a b):=by
  rw [bor_eq ha hb]
  have h1:a.toNat ||| b.toNat<2 ^ 24:=Nat.or_lt_two_pow (by unfold MK at ha; omega) (by unfold MK at hb; omega)
  unfold MK
  omega
theorem mk0:MK 0:=by unfold MK; omega
def apart (a b:Int):Bool:=band a b==0
theorem apart_bor {a b c:Int} (ha:MK a) (hb:MK b) (hc:MK c):apart (bor a b) c=(apart a c&&apart b c):=by
  unfold apart
  rw [band_eq (bor_mk ha hb) hc,band_eq ha hc,band_eq hb hc,bor_eq ha hb,Int.toNat_natCast,Nat.and_or_distrib_right]
  rw [Bool.eq_iff_iff]
  simp only [beq_iff_eq,Bool.and_eq_true,Int.natCast_eq_zero,Nat.or_eq_zero_iff]
theorem apart_zero {c:Int} (hc:MK c):apart 0 c=true:=by
  unfold apart
  rw [band_eq mk0 hc]
  simp
theorem bits_mk {b:Block} (h:blkOk b=true):MK (bits b):=bits_bound h
theorem meets_comm (a b:List Int):meets a b=meets b a:=by
  rw [Bool.eq_iff_iff]
  unfold meets
  simp only [List.any_eq_true,beq_iff_eq]
  constructor
  · rintro ⟨x,hx,y,hy,rfl⟩; exact ⟨y,hy,y,hx,rfl⟩
  rintro ⟨x,hx,y,hy,rfl⟩; exact ⟨y,hy,y,hx,rfl⟩
def has (l:List Int) (f:Int):Bool:=l.any fun x=>x==f
def used (L:List Light) (f:Int):Int:=L.foldl (fun o y=>if has y.Route.Fibers f=true then bor o (bits y.Block) else o) 0
def along (L:List Light) (fs:List Int):Int:=fs.foldl (fun o f=>bor o (used L f)) 0
theorem used_from {L:List Light} (hL:∀ y∈L,blkOk y.Block=true) (f:Int) {c:Int} (hc:MK c):∀ {o:Int},MK o→MK (L.foldl (fun o y=>if has y.Route.Fibers f=true then bor o (bits y.Block) else o) o)∧apart (L.foldl (fun o y=>if has y.Route.Fibers f=true then bor o (bits y.Block) else o) o) c=(apart o c&&L.all fun y=>!has y.Route.Fibers f||apart (bits y.Block) c):=by
  induction L with
  | nil=>intro o ho; exact ⟨ho,by simp⟩
  | cons y L ih =>
    intro o ho
    have hb:=bits_mk (hL y (by simp))
    have ih':=@ih (fun z hz=>hL z (by simp [hz]))
    simp only [List.foldl_cons,List.all_cons]
    by_cases h:has y.Route.Fibers f=true
    · simp only [h,if_true,Bool.not_true,Bool.false_or]
      have:=ih' (bor_mk ho hb)
      rw [apart_bor ho hb hc] at this
      exact ⟨this.1,by rw [this.2,Bool.and_assoc]⟩
    rw [Bool.not_eq_true] at h
    simp only [h,Bool.false_eq_true,if_false,Bool.not_false,Bool.true_or,Bool.true_and]
    exact ih' ho
theorem used_mk {L:List Light} (hL:∀ y∈L,blkOk y.Block=true) (f:Int):MK (used L f):=(used_from hL f mk0 mk0).1
theorem used_apart {L:List Light} (hL:∀ y∈L,blkOk y.Block=true) (f:Int) {c:Int} (hc:MK c):apart (used L f) c=L.all fun y=>!has y.Route.Fibers f||apart (bits y.Block) c:=by
  have:=(used_from hL f hc mk0).2
  rw [apart_zero hc,Bool.true_and] at this
  exact this
theorem along_from {L:List Light} (hL:∀ y∈L,blkOk y.Block=true) {c:Int} (hc:MK c):∀ (fs:List Int) {o:Int},MK o→MK (fs.foldl (fun o f=>bor o (used L f)) o)∧apart (fs.foldl (fun o f=>bor o (used L f)) o) c=(apart o c&&fs.all fun f=>apart (used L f) c)
  | [],o,ho=>⟨ho,by simp⟩
  | f::fs,o,ho=>by
    have hu:=used_mk hL f
    have:=along_from hL hc fs (bor_mk ho hu)
    rw [apart_bor ho hu hc] at this
    simp only [List.foldl_cons,List.all_cons]
    exact ⟨this.1,by rw [this.2,Bool.and_assoc]⟩
theorem along_apart {L:List Light} (hL:∀ y∈L,blkOk y.Block=true) (fs:List Int) {c:Int} (hc:MK c):apart (along L fs) c=L.all fun y=>!(meets y.Route.Fibers fs&&!apart (bits y.Block) c):=by
  have h:=(along_from hL hc fs mk0).2
  rw [apart_zero hc,Bool.true_and] at h
  unfold along
  rw [h,Bool.eq_iff_iff]
  simp only [List.all_eq_true,used_apart hL _ hc,Bool.or_eq_true,Bool.not_eq_true',Bool.and_eq_false_iff,Bool.not_eq_false']
  constructor
  · intro hh y hy
    rcases Bool.eq_false_or_eq_true (meets y.Route.Fibers fs) with hm | hm
    · right
      unfold meets at hm
      simp only [List.any_eq_true,beq_iff_eq] at hm
      obtain ⟨x,hx,z,hz,rfl⟩:=hm
      rcases hh z hz y hy with h1 | h1
      · unfold has at h1
        rw [Bool.eq_false_iff] at h1
        exact absurd (List.any_eq_true.2 ⟨z,hx,by simp⟩) h1
      exact h1
    exact .inl hm
  intro hh f hf y hy
  rcases hh y hy with h1 | h1
  · left
    rw [Bool.eq_false_iff] at h1 ⊢
    intro h2
    unfold has at h2
    simp only [List.any_eq_true,beq_iff_eq] at h2
    obtain ⟨x,hx,rfl⟩:=h2
    exact h1 (List.any_eq_true.2 ⟨x,hx,List.any_eq_true.2 ⟨x,hf,by simp⟩⟩)
  exact .inr h1
end AT
namespace AT
theorem used_loop {fu:Nat} (hfu:2097153≤fu) (p:Plan) (f:Int) (hl:p.Lights.length≤2097152) (hb:∀ y∈p.Lights,blkOk y.Block=true) (hr:∀ x∈p.Lights,x.Route.Fibers.length≤2097152):∀ (fk i:Nat) (o:Int),i≤p.Lights.length→p.Lights.length - i<fk →
    ∃ z,spec_l9Used_L1 fu p f fk o i=some ((p.Lights.drop i).foldl (fun o y=>if has y.Route.Fibers f=true then bor o (bits y.Block) else o) o,z):=by
  intro fk
  induction fk with
  | zero=>intro i _ _ h; omega
  | succ fk ih =>
    intro i o hi hk
    rw [spec_l9Used_L1]
    by_cases h:i<p.Lights.length
    · have h':(i:Int)<(p.Lights.length:Int):=by omega
      have hm:=List.getElem_mem h
      have hr':=hr _ hm
      simp only [h',decide_true,if_true,idx_in h,Option.bind_some,l1Has_eq _ f (show p.Lights[i].Route.Fibers.length<fu by omega) hr',l8Bits_eq (hb _ hm)]
      rw [←List.getElem_cons_drop h,List.foldl_cons,w64_inc h (by omega)]
      have e:(p.Lights[i].Route.Fibers.any fun x=>x==f)=has p.Lights[i].Route.Fibers f:=rfl
      rw [e]
      by_cases hc:has p.Lights[i].Route.Fibers f=true
      · rw [if_pos hc,if_pos hc]
        exact ih (i + 1) _ h (by omega)
      rw [if_neg hc,if_neg hc]
      exact ih (i + 1) _ h (by omega)
    obtain rfl:i=p.Lights.length:=by omega
    rw [if_neg (by simp),List.drop_length]
    exact ⟨_,rfl⟩
theorem l9Used_eq {fu:Nat} (hfu:2097153≤fu) (p:Plan) (f:Int) (hl:p.Lights.length≤2097152) (hb:∀ y∈p.Lights,blkOk y.Block=true) (hr:∀ x∈p.Lights,x.Route.Fibers.length≤2097152):spec_l9Used fu p f=some (used p.Lights f):=by
  unfold spec_l9Used
  obtain ⟨z,hz⟩:=used_loop hfu p f hl hb hr fu 0 0 (by omega) (by omega)
  rw [show ((0:Nat):Int)=0 from rfl,List.drop_zero] at hz
  rw [hz]
  rfl
end AT
namespace AT
theorem app_nil {α:Type} {l:List α} (h:l.length≤1099511627776):app ([]:List α) l=some l:=by rw [app_ok (by simpa using h)]; rfl
theorem l9Copy_eq (fu:Nat) (x:Light) (h:x.Route.Fibers.length≤2097152):spec_l9Copy fu x=some x:=by
  unfold spec_l9Copy spec_l4Own spec_l1Own
  rw [app_nil (by omega)]
  rfl
theorem own_loop {fu:Nat} (p:Plan) (hl:p.Lights.length≤2097152) (hr:∀ x∈p.Lights,x.Route.Fibers.length≤2097152):∀ (fk i:Nat) (m:List Light),i≤p.Lights.length→p.Lights.length - i<fk→m.length≤i→∃ z,spec_l9Own_L1 fu p fk i m=some (z,m++p.Lights.drop i):=by
  intro fk
  induction fk with
  | zero=>intro i _ _ h; omega
  | succ fk ih =>
    intro i m hi hk hm
    rw [spec_l9Own_L1]
    by_cases h:i<p.Lights.length
    · have h':(i:Int)<(p.Lights.length:Int):=by omega
      simp only [h',decide_true,if_true,idx_in h,Option.bind_some,l9Copy_eq fu _ (hr _ (List.getElem_mem h))]
      rw [app_ok (by simp; omega),Option.bind_some,w64_inc h (by omega)]
      obtain ⟨z,hz⟩:=ih (i + 1) (m++[p.Lights[i]]) h (by omega) (by simp; omega)
      refine ⟨z,?_⟩
      rw [hz,List.append_assoc,←List.getElem_cons_drop h]
      rfl
    obtain rfl:i=p.Lights.length:=by omega
    rw [if_neg (by simp),List.drop_length,List.append_nil]
    exact ⟨_,rfl⟩
theorem l9Own_eq {fu:Nat} (hfu:2097153≤fu) (p:Plan) (hB:PlanB p):spec_l9Own fu p=some p:=by
  obtain ⟨hN,hL,hR⟩:=hB
  unfold spec_l9Own spec_l2Own
  have h1:=hN.1.1
  have h2:=hN.2
  rw [app_nil (by omega),Option.bind_some,app_nil (by omega)]
  obtain ⟨z,hz⟩:=own_loop (fu:=fu) p hL hR fu 0 [] (by omega) (by omega) (by simp)
  rw [show ((0:Nat):Int)=0 from rfl] at hz
  simp only [Option.bind_some,hz,List.nil_append,List.drop_zero]
theorem l9Without_eq {fu:Nat} (hfu:2097153≤fu) (p:Plan) (hB:PlanB p) {i:Nat} (hi:i<p.Lights.length):spec_l9Without fu p i=some { Network:=p.Network,Lights:=p.Lights.eraseIdx i }:=by
  have hl:=hB.2.1
  unfold spec_l9Without
  rw [l9Own_eq hfu p hB,Option.bind_some,sub_take (by omega),Option.bind_some,w64_inc hi (by omega)]
  have hs:sub p.Lights ((i + 1:Nat):Int) (p.Lights.length:Int)=some (p.Lights.drop (i + 1)):=by
    unfold sub
    rw [if_pos (by omega)]
    simp
  rw [hs,Option.bind_some,app_nil (by simp; omega),Option.bind_some,app_ok (by simp; omega),Option.bind_some,List.eraseIdx_eq_take_drop_succ]
theorem along_loop {fu:Nat} (hfu:2097153≤fu) (p:Plan) (r:Route) (hl:p.Lights.length≤2097152) (hb:∀ y∈p.Lights,blkOk y.Block=true) (hr:∀ x∈p.Lights,x.Route.Fibers.length≤2097152) (hrl:r.Fibers.length≤2097152):∀ (fk i:Nat) (o:Int),i≤r.Fibers.length→r.Fibers.length - i<fk →
    ∃ z,spec_l9Along_L1 fu p r fk o i=some ((r.Fibers.drop i).foldl (fun o f=>bor o (used p.Lights f)) o,z):=by
  intro fk
  induction fk with
  | zero=>intro i _ _ h; omega
  | succ fk ih =>
    intro i o hi hk
    rw [spec_l9Along_L1]
    by_cases h:i<r.Fibers.length
    · have h':(i:Int)<(r.Fibers.length:Int):=by omega
      simp only [h',decide_true,if_true,idx_in h,Option.bind_some,l9Used_eq hfu p _ hl hb hr]
      rw [←List.getElem_cons_drop h,List.foldl_cons,w64_inc h (by omega)]
      exact ih (i + 1) _ h (by omega)
    obtain rfl:i=r.Fibers.length:=by omega
    rw [if_neg (by simp),List.drop_length]
    exact ⟨_,rfl⟩
theorem l9Along_eq {fu:Nat} (hfu:2097153≤fu) (p:Plan) (r:Route) (hl:p.Lights.length≤2097152) (hb:∀ y∈p.Lights,blkOk y.Block=true) (hr:∀ x∈p.Lights,x.Route.Fibers.length≤2097152) (hrl:r.Fibers.length≤2097152):spec_l9Along fu p r=some (along p.Lights r.Fibers):=by
  unfold spec_l9Along
  obtain ⟨z,hz⟩:=along_loop hfu p r hl hb hr hrl fu 0 0 (by omega) (by omega)
  rw [show ((0:Nat):Int)=0 from rfl,List.drop_zero] at hz
  rw [hz]
  rfl
def fits (m C:Int):List Int:=((List.range' 0 (25 - C.toNat)).filter fun t:Nat=>apart m (bits ⟨(t:Int),C⟩)).map fun t:Nat=>(t:Int)
theorem fits_loop {fu:Nat} (m C:Int) (N:Nat) (hN:(N:Int) + C=25) (h1:1≤C):∀ (fk k s:Nat) (out:List Int),N=s + k→k<fk→out.length≤s →
    ∃ z,spec_l8Fits_L1 fu m C fk out s=some (out++(((List.range' s k).filter fun t:Nat=>apart m (bits ⟨(t:Int),C⟩)).map fun t:Nat=>(t:Int)),z):=by
  intro fk
  induction fk with
  | zero=>intro k s _ _ h; omega
  | succ fk ih =>
    intro k s out hs hk ho
    have hw0:w64 ((s:Int) + C)=(s:Int) + C:=w64_in (by omega) (by omega)
    rw [spec_l8Fits_L1,hw0]
    clear hw0
    cases k with
    | zero =>
      have h':¬(s:Int) + C≤24:=by omega
      simp only [h',decide_false,Bool.false_eq_true,if_false,List.range'_zero,List.filter_nil,List.map_nil,List.append_nil]
      exact ⟨_,rfl⟩
    | succ k =>
      have h':(s:Int) + C≤24:=by omega
      have hb:blkOk ⟨(s:Int),C⟩=true:=by simp only [blkOk,Bool.and_eq_true,decide_eq_true_eq]; omega
      obtain ⟨c,hc⟩:∃ c,apart m (bits ⟨(s:Int),C⟩)=c:=⟨_,rfl⟩
      obtain ⟨b,hb1,hb2⟩:∃ b,spec_l8Bits fu ⟨(s:Int),C⟩=some b∧(band m b==0)=c:=⟨_,l8Bits_eq hb,hc⟩
      have hw:w64 ((s:Int) + 1)=((s + 1:Nat):Int):=by rw [w64_in (by omega) (by omega)]; omega
      rw [List.range'_succ,List.filter_cons,hc,hb1]
      clear hb1 hc hb
      rw [if_pos (by simpa using h'),Option.bind_some,hb2,hw]
      clear hw hb2
      cases c
      · rw [if_neg (by decide),if_neg (by decide)]
        exact ih k (s + 1) out (by omega) (by omega) (by omega)
      have ha:app out [(s:Int)]=some (out++[(s:Int)]):=app_ok (by simp; omega)
      rw [if_pos rfl,if_pos rfl,ha,Option.bind_some]
      obtain ⟨z,hz⟩:=ih k (s + 1) (out++[(s:Int)]) (by omega) (by omega) (by simp; omega)
      exact ⟨z,by rw [hz,List.map_cons,List.append_assoc,List.singleton_append]⟩
theorem l8Fits_eq {fu:Nat} (hfu:2097153≤fu) (m C:Int) (h1:1≤C) (h2:C≤24):spec_l8Fits fu m C=some (fits m C):=by
  unfold spec_l8Fits fits
  obtain ⟨N,hN⟩:∃ N,N=25 - C.toNat:=⟨_,rfl⟩
  rw [←hN]
  obtain ⟨z,hz⟩:=fits_loop (fu:=fu) m C N (by omega) h1 fu N 0 [] (by omega) (by omega) (by simp)
  rw [show ((0:Nat):Int)=0 from rfl] at hz
  rw [hz]
  rfl
theorem fits_mem {m C:Int} {s:Int} (h1:1≤C) (h2:C≤24):s∈fits m C↔0≤s∧s + C≤24∧apart m (bits ⟨s,C⟩)=true:=by
  unfold fits
  simp only [List.mem_map,List.mem_filter,List.mem_range'_1]
  constructor
  · rintro ⟨t,⟨⟨-,ht⟩,ha⟩,rfl⟩
    exact ⟨by omega,by omega,ha⟩
  rintro ⟨h0,h3,ha⟩
  refine ⟨s.toNat,⟨⟨by omega,by omega⟩,?_⟩,by omega⟩
  rw [Int.toNat_of_nonneg h0]
  exact ha
theorem fits_len (m C:Int):(fits m C).length≤25:=by
  unfold fits
  rw [List.length_map]
  refine Nat.le_trans (List.length_filter_le _ _) ?_
  rw [List.length_range']
  omega
structure PlanI (p:Plan):Prop where
  ids:∀ i j,i<j→j<p.Lights.length→(gd p.Lights i l0).Id<(gd p.Lights j l0).Id
theorem planI {p:Plan} (h:planOk p=true):PlanI p:=by
  unfold planOk at h
  simp only [Bool.and_eq_true,decide_eq_true_eq,Bool.not_eq_true'] at h
  obtain ⟨h1,h2,h3⟩:=h
  rw [Bool.eq_false_iff] at h3
  have adj:∀ j,0<j→j<p.Lights.length→(gd p.Lights (j - 1) l0).Id<(gd p.Lights j l0).Id:=fun j h0 hj=>by
    have h6:planBad p.Network p.Lights j=false:=by
      rw [Bool.eq_false_iff]
      intro h7
      exact h3 (List.any_eq_true.2 ⟨j,List.mem_range.2 hj,h7⟩)
    unfold planBad at h6
    rw [Bool.or_eq_false_iff,Bool.or_eq_false_iff] at h6
    have:=h6.2.1
    simp only [h0,decide_true,Bool.true_and,decide_eq_false_iff_not] at this
    omega
  refine ⟨fun i j=>?_⟩
  induction j with
  | zero=>intro h; omega
  | succ j ih =>
    intro hij hj
    have:=adj (j + 1) (by omega) hj
    rw [Nat.add_sub_cancel] at this
    rcases Nat.lt_or_ge i j with h' | h'
    · have:=ih h' (by omega)
      omega
    obtain rfl:i=j:=by omega
    exact this
theorem erase_mem {L:List Light} {i:Nat} (hi:i<L.length) (hid:∀ a b,a<b→b<L.length→(gd L a l0).Id<(gd L b l0).Id) (y:Light):y∈L.eraseIdx i↔y∈L∧y.Id≠(gd L i l0).Id:=by
  rw [List.mem_eraseIdx_iff_getElem]
  constructor
  · rintro ⟨j,hj,hne,rfl⟩
    refine ⟨List.getElem_mem _,?_⟩
    rw [←gd_in l0 hj]
    rcases Nat.lt_or_ge j i with h | h
    · have:=hid j i h hi
      omega
    have:=hid i j (by omega) hj
    omega
  rintro ⟨hy,hne⟩
  obtain ⟨j,hj,rfl⟩:=List.mem_iff_getElem.1 hy
  refine ⟨j,hj,fun e=>?_,rfl⟩
  subst e
  rw [gd_in l0 hj] at hne
  exact hne rfl
end AT
namespace AT
theorem planOk_iff {p:Plan}:planOk p=true↔netOk p.Network=true∧p.Lights.length≤12∧(∀ x∈p.Lights,lightOk p.Network x=true)∧p.Lights.Pairwise (fun a b=>a.Id<b.Id∧coll a b=false):=by
  constructor
  · intro h
    have hI:=planI h
    have h':=h
    unfold planOk at h
    simp only [Bool.and_eq_true,decide_eq_true_eq,Bool.not_eq_true'] at h
    obtain ⟨h1,h2,h3⟩:=h
    have hb:∀ j,j<p.Lights.length→planBad p.Network p.Lights j=false:=fun j hj=>by
      rw [Bool.eq_false_iff]
      intro h7
      rw [Bool.eq_false_iff] at h3
      exact h3 (List.any_eq_true.2 ⟨j,List.mem_range.2 hj,h7⟩)
    refine ⟨h1,h2,fun x hx=>?_,List.pairwise_iff_getElem.2 fun i j hi hj hij=>⟨?_,?_⟩⟩
    · obtain ⟨i,hi,rfl⟩:=List.mem_iff_getElem.1 hx
      have:=hb i hi
      unfold planBad at this
      rw [Bool.or_eq_false_iff,gd_in l0 hi] at this
      simpa using this.1
    · have:=hI.ids i j hij hj
      rwa [gd_in l0 hi,gd_in l0 hj] at this
    have:=hb j hj
    unfold planBad at this
    rw [Bool.or_eq_false_iff,Bool.or_eq_false_iff,gd_in l0 hj] at this
    rw [Bool.eq_false_iff]
    intro hc
    have h5:=this.2.2
    rw [Bool.eq_false_iff] at h5
    exact h5 (List.any_eq_true.2 ⟨p.Lights[i],List.mem_iff_getElem.2 ⟨i,by rw [List.length_take]; omega,by rw [List.getElem_take]⟩,hc⟩)
  rintro ⟨h1,h2,h3,h4⟩
  rw [List.pairwise_iff_getElem] at h4
  unfold planOk
  simp only [Bool.and_eq_true,decide_eq_true_eq,Bool.not_eq_true']
  refine ⟨h1,h2,?_⟩
  rw [Bool.eq_false_iff]
  intro h
  obtain ⟨j,hj,hb⟩:=List.any_eq_true.1 h
  have hj':=List.mem_range.1 hj
  unfold planBad at hb
  rw [Bool.or_eq_true,Bool.or_eq_true,gd_in l0 hj',h3 _ (List.getElem_mem hj')] at hb
  rcases hb with hb | hb | hb
  · cases hb
  · simp only [Bool.and_eq_true,decide_eq_true_eq] at hb
    rw [gd_in l0 (show j - 1<p.Lights.length by omega)] at hb
    have:=(h4 (j - 1) j (by omega) hj' (by omega)).1
    omega
  obtain ⟨y,hy,hc⟩:=List.any_eq_true.1 hb
  obtain ⟨i,hi,rfl⟩:=List.mem_iff_getElem.1 hy
  rw [List.length_take] at hi
  rw [List.getElem_take,(h4 i j (by omega) hj' (by omega)).2] at hc
  cases hc
end AT
namespace AT
def atId (L:List Light) (id:Int):Nat:=L.findIdx fun y=>y.Id==id
theorem atId_lt {L:List Light} {id:Int} (h:(L.any fun y=>y.Id==id)=true):atId L id<L.length:=by
  unfold atId
  rw [List.findIdx_lt_length]
  obtain ⟨x,hx,hc⟩:=List.any_eq_true.1 h
  exact ⟨x,hx,hc⟩
theorem l9Find_eq {fu:Nat} (p:Plan) (id:Int) (h:p.Lights.length<fu) (hn:p.Lights.length≤2097152):spec_l9Find fu p id=some (if p.Lights.any (fun y=>y.Id==id) then ((atId p.Lights id:Nat):Int) else -1):=by
  unfold spec_l9Find
  rw [scan_all (l:=p.Lights) (G:=spec_l9Find_L1 fu p id) (fun y=>y.Id==id) (fun i=>(i:Int)) (by omega)
    (fun fk i hi=>by
      have h':(i:Int)<(p.Lights.length:Int):=by omega
      rw [spec_l9Find_L1]
      simp only [h',decide_true,if_true,idx_in hi,Option.bind_some])
    (fun fk=>by rw [spec_l9Find_L1,if_neg (by simp)]) fu h]
  unfold atId
  cases p.Lights.any fun y=>y.Id==id <;> rfl
end AT
namespace AT
theorem find_loop {α:Type} {l:List α} {G:Nat→Int→Option Int} (p:α→Bool) (hn:(l.length:Int)≤9223372036854775807)
    (hG:∀ fk (i:Nat) (h:i<l.length),G (fk + 1) i=if p l[i]=true then some (i:Int) else G fk (w64 ((i:Int) + 1)))
    (hz:∀ fk,G (fk + 1) l.length=some (l.length:Int)):∀ (fk i:Nat),l.length - i<fk→i≤l.length→G fk i=some ((i + (l.drop i).findIdx p:Nat):Int):=by
  intro fk
  induction fk with
  | zero=>intro i h; omega
  | succ fk ih =>
    intro i hk hi
    by_cases h:i<l.length
    · rw [hG fk i h,←List.getElem_cons_drop h,List.findIdx_cons]
      by_cases hp:p l[i]=true
      · simp [hp]
      simp only [hp,Bool.false_eq_true,if_false,cond_false]
      rw [w64_inc h hn,ih (i + 1) (by omega) h]
      congr 2
      omega
    obtain rfl:i=l.length:=by omega
    rw [hz,List.drop_length]; rfl
theorem find_all {α:Type} {l:List α} {G:Nat→Int→Option Int} (p:α→Bool) (hn:(l.length:Int)≤9223372036854775807)
    (hG:∀ fk (i:Nat) (h:i<l.length),G (fk + 1) i=if p l[i]=true then some (i:Int) else G fk (w64 ((i:Int) + 1)))
    (hz:∀ fk,G (fk + 1) l.length=some (l.length:Int)) (fk:Nat) (hk:l.length<fk):G fk 0=some ((l.findIdx p:Nat):Int):=by
  have:=find_loop p hn hG hz fk 0 (by omega) (by omega)
  simpa using this
def insAt (L:List Light) (id:Int):Nat:=L.findIdx fun y=>!decide (y.Id<id)
def putL (L:List Light) (x:Light):List Light:=L.take (insAt L x.Id)++x::L.drop (insAt L x.Id)
theorem insAt_le (L:List Light) (id:Int):insAt L id≤L.length:=List.findIdx_le_length
theorem putL_len (L:List Light) (x:Light):(putL L x).length=L.length + 1:=by
  have:=insAt_le L x.Id
  unfold putL
  rw [List.length_append,List.length_cons,List.length_take,List.length_drop]
  omega
theorem putL_mem {L:List Light} {x y:Light}:y∈putL L x↔y=x∨y∈L:=by
  unfold putL
  rw [List.mem_append,List.mem_cons]
  constructor
  · rintro (h | h | h)
    · exact .inr (List.mem_of_mem_take h)
    · exact .inl h
    exact .inr (List.mem_of_mem_drop h)
  rintro (h | h)
  · exact .inr (.inl h)
  rw [←List.take_append_drop (insAt L x.Id) L,List.mem_append] at h
  rcases h with h | h
  · exact .inl h
  exact .inr (.inr h)
theorem findIdx_at {α:Type} {p:α→Bool} {l:List α} {i:Nat} (hi:i≤l.length) (h:∀ j (hj:j<l.length),j<i→p l[j]=false) (h':∀ hj:i<l.length,p l[i]=true):l.findIdx p=i:=by
  rcases Nat.lt_or_ge i l.length with hj | hj
  · rw [List.findIdx_eq hj]
    exact ⟨h' hj,fun j hji=>h j (by omega) hji⟩
  obtain rfl:i=l.length:=by omega
  rw [List.findIdx_eq_length]
  intro x hx
  obtain ⟨j,hj',rfl⟩:=List.mem_iff_getElem.1 hx
  exact h j hj' hj'
theorem atId_gd {L:List Light} {id:Int} (h:(L.any fun y=>y.Id==id)=true):(gd L (atId L id) l0).Id=id:=by
  have hl:=atId_lt h
  rw [gd_in l0 hl]
  have:=List.findIdx_getElem (w:=hl)
  rw [beq_iff_eq] at this
  exact this
theorem atId_eq {L:List Light} (hid:∀ a b,a<b→b<L.length→(gd L a l0).Id<(gd L b l0).Id) {i:Nat} (hi:i<L.length):atId L (gd L i l0).Id=i:=by
  unfold atId
  refine findIdx_at (by omega) (fun j hj hji=>?_) (fun _=>?_)
  · have:=hid j i hji hi
    rw [gd_in l0 hj] at this
    rw [beq_eq_false_iff_ne]
    omega
  rw [gd_in l0 hi]
  simp
theorem put_erase {L:List Light} (hid:∀ a b,a<b→b<L.length→(gd L a l0).Id<(gd L b l0).Id) {i:Nat} (hi:i<L.length) {x:Light} (hx:x.Id=(gd L i l0).Id):putL (L.eraseIdx i) x=L.set i x:=by
  have hlen:(L.eraseIdx i).length=L.length - 1:=by rw [List.length_eraseIdx]; simp [hi]
  have hat:insAt (L.eraseIdx i) x.Id=i:=by
    unfold insAt
    refine findIdx_at (by omega) (fun j hj hji=>?_) (fun hj=>?_)
    · rw [List.getElem_eraseIdx_of_lt hj hji]
      have:=hid j i hji hi
      rw [gd_in l0 (by omega)] at this
      simp only [Bool.not_eq_false',decide_eq_true_eq]
      omega
    rw [List.getElem_eraseIdx_of_ge hj (by omega)]
    have:=hid i (i + 1) (by omega) (by omega)
    rw [gd_in l0 (show i + 1<L.length by omega)] at this
    simp only [Bool.not_eq_true',decide_eq_false_iff_not]
    omega
  unfold putL
  rw [hat,List.set_eq_take_append_cons_drop,if_pos hi]
  have e1:(L.eraseIdx i).take i=L.take i:=by rw [List.eraseIdx_eq_take_drop_succ,List.take_append_of_le_length (by rw [List.length_take]; omega),List.take_take,Nat.min_self]
  have e2:(L.eraseIdx i).drop i=L.drop (i + 1):=by
    rw [List.eraseIdx_eq_take_drop_succ,List.drop_append_of_le_length (by rw [List.length_take]; omega),List.drop_take,Nat.sub_self]
    simp
  rw [e1,e2]
end AT
namespace AT
theorem copyRoute_eq (fu:Nat) (r:Route) (h:r.Fibers.length≤2097152):impl_copyRoute fu r=some r:=by
  unfold impl_copyRoute
  rw [app_nil (by omega)]
  rfl
theorem copy_loop {fu:Nat} (p:Plan) (hl:p.Lights.length≤2097152) (hr:∀ x∈p.Lights,x.Route.Fibers.length≤2097152):∀ (fk i:Nat) (m:List Light),i≤p.Lights.length→p.Lights.length - i<fk→m.length≤i→∃ z,impl_copyPlan_L1 fu p fk i m=some (z,m++p.Lights.drop i):=by
  intro fk
  induction fk with
  | zero=>intro i _ _ h; omega
  | succ fk ih =>
    intro i m hi hk hm
    rw [impl_copyPlan_L1]
    by_cases h:i<p.Lights.length
    · have h':(i:Int)<(p.Lights.length:Int):=by omega
      simp only [h',decide_true,if_true,idx_in h,Option.bind_some,copyRoute_eq fu _ (hr _ (List.getElem_mem h))]
      rw [app_ok (by simp; omega),Option.bind_some,w64_inc h (by omega)]
      obtain ⟨z,hz⟩:=ih (i + 1) (m++[p.Lights[i]]) h (by omega) (by simp; omega)
      refine ⟨z,?_⟩
      rw [hz,List.append_assoc,←List.getElem_cons_drop h]
      rfl
    obtain rfl:i=p.Lights.length:=by omega
    rw [if_neg (by simp),List.drop_length,List.append_nil]
    exact ⟨_,rfl⟩
theorem copyPlan_eq {fu:Nat} (hfu:2097153≤fu) (p:Plan) (hB:PlanB p):impl_copyPlan fu p=some p:=by
  obtain ⟨hN,hL,hR⟩:=hB
  unfold impl_copyPlan impl_copyNetwork
  have h1:=hN.1.1
  have h2:=hN.2
  rw [app_nil (by omega),Option.bind_some,app_nil (by omega)]
  obtain ⟨z,hz⟩:=copy_loop (fu:=fu) p hL hR fu 0 [] (by omega) (by omega) (by simp)
  rw [show ((0:Nat):Int)=0 from rfl] at hz
  simp only [Option.bind_some,hz,List.nil_append,List.drop_zero]
theorem gd_set {α:Type} {l:List α} {i j:Nat} {x d:α}:gd (l.set i x) j d=if i=j∧j<l.length then x else gd l j d:=by
  unfold gd
  rw [List.getElem?_set]
  by_cases h:i=j
  · subst h
    by_cases h':i<l.length
    · simp [h']
    simp [h']
  simp [h]
end AT
namespace AT
theorem eq_any {a b:List Int} (h:a.length=b.length):(List.range a.length).any (fun i=>gd a i 0 != gd b i 0)=!decide (a=b):=by
  rw [Bool.eq_iff_iff,List.any_eq_true]
  simp only [List.mem_range,bne_iff_ne,ne_eq,Bool.not_eq_true',decide_eq_false_iff_not]
  constructor
  · rintro ⟨i,hi,hne⟩ rfl
    exact hne rfl
  intro hne
  rcases Classical.em (∃ i,i<a.length∧¬gd a i 0=gd b i 0) with h1 | h1
  · exact h1
  refine absurd (List.ext_getElem h fun i h2 h3=>?_) hne
  rcases Classical.em (a[i]=b[i]) with h4 | h4
  · exact h4
  exact absurd ⟨i,h2,by rw [gd_in 0 h2,gd_in 0 h3]; exact h4⟩ h1
theorem l1Same_eq {fu:Nat} (hfu:2097153≤fu) (a b:List Int) (ha:a.length≤2097152):spec_l1Same fu a b=some (decide (a=b)):=by
  unfold spec_l1Same
  by_cases h:a.length=b.length
  · have h1:((a.length:Int) != (b.length:Int))=false:=by rw [h]; simp
    rw [h1,if_neg Bool.false_ne_true]
    rw [scan_all (l:=List.range a.length) (G:=spec_l1Same_L1 fu a b) (fun i=>gd a i 0 != gd b i 0) (fun _=>false) (by simp; omega)
      (fun fk i hi=>by
        have hi':i<a.length:=by simpa using hi
        have h':(i:Int)<(a.length:Int):=by omega
        rw [spec_l1Same_L1,List.getElem_range]
        simp only [h',decide_true,if_true,idx_gd 0 hi',idx_gd 0 (show i<b.length by omega),Option.bind_some])
      (fun fk=>by rw [List.length_range,spec_l1Same_L1,if_neg (by simp)]) fu (by simp; omega),eq_any h]
    cases decide (a=b) <;> rfl
  have h1:((a.length:Int) != (b.length:Int))=true:=by simp; omega
  have h2:¬a=b:=fun e=>h (by rw [e])
  rw [h1,if_pos rfl,decide_eq_false h2]
theorem equalI_eq {fu:Nat} (hfu:2097153≤fu) (a b:List Int) (ha:a.length≤2097152):slices_Equal_int_int fu a b=some (decide (a=b)):=by
  unfold slices_Equal_int_int
  by_cases h:a.length=b.length
  · have h1:((a.length:Int) != (b.length:Int))=false:=by rw [h]; simp
    rw [h1,if_neg Bool.false_ne_true]
    rw [scan_all (l:=List.range a.length) (G:=slices_Equal_int_int_L1 fu a b) (fun i=>gd a i 0 != gd b i 0) (fun _=>false) (by simp; omega)
      (fun fk i hi=>by
        have hi':i<a.length:=by simpa using hi
        have h':(i:Int)<(a.length:Int):=by omega
        rw [slices_Equal_int_int_L1,List.getElem_range]
        simp only [h',decide_true,if_true,idx_gd 0 hi',idx_gd 0 (show i<b.length by omega),Option.bind_some])
      (fun fk=>by rw [List.length_range,slices_Equal_int_int_L1,if_neg (by simp)]) fu (by simp; omega),eq_any h]
    cases decide (a=b) <;> rfl
  have h1:((a.length:Int) != (b.length:Int))=true:=by simp; omega
  have h2:¬a=b:=fun e=>h (by rw [e])
  rw [h1,if_pos rfl,decide_eq_false h2]
theorem light_ext (x y:Light):x=y↔x.Id=y.Id∧x.Route.Start=y.Route.Start∧x.Route.Fibers=y.Route.Fibers∧x.Block.First=y.Block.First∧x.Block.Count=y.Block.Count:=by
  rcases x with ⟨i,⟨s,f⟩,⟨a,c⟩⟩
  rcases y with ⟨i',⟨s',f'⟩,⟨a',c'⟩⟩
  simp only [Light.mk.injEq,Route.mk.injEq,Block.mk.injEq,and_assoc]
def addP (p:Plan) (x:Light):Plan:={ Network:=p.Network,Lights:=putL p.Lights x }
def delP (p:Plan) (i:Nat):Plan:={ Network:=p.Network,Lights:=p.Lights.eraseIdx i }
theorem insAt_loop (L:List Light) (id:Int) (G:Nat→Int→Option Int) (hl:L.length≤2097152) (hG:∀ fk i,G (fk + 1) i=((if decide (i<(L.length:Int))=true then (idx L i).bind fun e=>some (decide (e.Id<id)) else some false).bind fun c=>if c=true then G fk (w64 (i + 1)) else some i)) (fu:Nat) (hfu:2097153≤fu):G fu 0=some ((insAt L id:Nat):Int) :=
  find_all (l:=L) (G:=G) (fun y=>!decide (y.Id<id)) (by omega)
    (fun fk i hi=>by
      have h':(i:Int)<(L.length:Int):=by omega
      rw [hG]
      simp only [h',decide_true,if_true,idx_in hi,Option.bind_some]
      by_cases hc:L[i].Id<id <;> simp [hc])
    (fun fk=>by rw [hG]; simp) fu (by omega)
theorem l9Put_eq {fu:Nat} (hfu:2097153≤fu) (p:Plan) (x:Light) (hB:PlanB p) (hx:x.Route.Fibers.length≤2097152):spec_l9Put fu p x=some (addP p x):=by
  have hl:=hB.2.1
  have hi:=insAt_le p.Lights x.Id
  unfold spec_l9Put
  rw [l9Own_eq hfu p hB,Option.bind_some,insAt_loop p.Lights x.Id (spec_l9Put_L1 fu x p) hl (fun fk i=>by rw [spec_l9Put_L1]) fu hfu,Option.bind_some,sub_take hi,Option.bind_some]
  have hs:sub p.Lights ((insAt p.Lights x.Id:Nat):Int) (p.Lights.length:Int)=some (p.Lights.drop (insAt p.Lights x.Id)):=by
    unfold sub
    rw [if_pos (by omega)]
    simp
  rw [hs,Option.bind_some,app_nil (by rw [List.length_take]; omega),Option.bind_some,l9Copy_eq fu x hx,Option.bind_some,app_ok (by rw [List.length_take,List.length_singleton]; omega),Option.bind_some,app_ok (by rw [List.length_append,List.length_take,List.length_singleton,List.length_drop]; omega),Option.bind_some,List.append_assoc,List.singleton_append]
  rfl
theorem delP_B {p:Plan} (hB:PlanB p) (i:Nat):PlanB (delP p i):=by
  refine ⟨hB.1,Nat.le_trans (List.eraseIdx_sublist p.Lights i).length_le hB.2.1,fun y hy=>hB.2.2 y (List.mem_of_mem_eraseIdx hy)⟩
theorem not_neg_nat (n:Nat):decide (((n:Nat):Int)<0)=false:=by simp
end AT
namespace AT
theorem coll_apR (a b:Light):coll a b=(meets a.Route.Fibers b.Route.Fibers&&!apart (bits a.Block) (bits b.Block)):=by
  unfold coll apart
  rw [bne]
theorem apart_comR (a b:Int):apart a b=apart b a:=by
  unfold apart band
  rw [BitVec.and_comm]
theorem coll_comR (a b:Light):coll a b=coll b a:=by
  rw [coll_apR,coll_apR,meets_comm,apart_comR (bits a.Block)]
def homeI (H:List Light) (id:Int):Light:=gd H (atId H id) l0
def hasL (L:List Light) (id:Int):Bool:=L.any fun y=>y.Id==id
def freeL (L:List Light) (x:Light):Bool:=!(L.any fun own=>own.Id != x.Id&&coll own x)
def mayRev (D:List Int) (H L:List Light) (id:Int):Bool:=hasL L id&&(!decide (gd L (atId L id) l0=homeI H id)&&(!meets (homeI H id).Route.Fibers D&&freeL L (homeI H id)))
def rev1 (D:List Int) (H:List Light) (s:List Light×List Int) (id:Int):List Light×List Int:=if mayRev D H s.1 id=true then (s.1.set (atId s.1 id) (homeI H id),s.2++[id]) else s
def rev (D:List Int) (H:List Light) (l:List Int) (s:List Light×List Int):List Light×List Int:=l.foldl (rev1 D H) s
def idsL (L:List Light):List Int:=L.map (·.Id)
theorem hasL_iff {L:List Light} {id:Int}:hasL L id=true↔id∈idsL L:=by
  unfold hasL idsL
  rw [List.any_eq_true,List.mem_map]
  constructor
  · rintro ⟨x,hx,h⟩; exact ⟨x,hx,by simpa using h⟩
  rintro ⟨x,hx,h⟩; exact ⟨x,hx,by simpa using h⟩
theorem homeI_id {H:List Light} {id:Int} (h:hasL H id=true):(homeI H id).Id=id:=atId_gd h
theorem homeI_mem {H:List Light} {id:Int} (h:hasL H id=true):homeI H id∈H:=gd_mem l0 (atId_lt h)
theorem idsL_set {L:List Light} {i:Nat} {x:Light} (h:i<L.length) (hx:x.Id=(gd L i l0).Id):idsL (L.set i x)=idsL L:=by
  unfold idsL
  rw [List.map_set,hx,gd_in l0 h]
  refine List.ext_getElem (by simp) fun j h1 h2=>?_
  rw [List.getElem_set]
  split
  · rename_i e; subst e; simp
  rfl
theorem rev1_ids {D:List Int} {H:List Light} {s:List Light×List Int} {id:Int} (hH:hasL s.1 id=true→hasL H id=true):idsL (rev1 D H s id).1=idsL s.1:=by
  unfold rev1
  split
  · rename_i h
    unfold mayRev at h
    rw [Bool.and_eq_true] at h
    refine idsL_set (atId_lt h.1) ?_
    rw [homeI_id (hH h.1),atId_gd h.1]
  rfl
theorem rev1_none {D:List Int} {H:List Light} {s:List Light×List Int} {id:Int} (h:hasL s.1 id=false):rev1 D H s id=s:=by
  unfold rev1 mayRev
  rw [h]; rfl
theorem hasL_ids {L M:List Light} (h:idsL L=idsL M) (id:Int):hasL L id=hasL M id:=by
  rw [Bool.eq_iff_iff,hasL_iff,hasL_iff,h]
theorem rev_filter {D:List Int} {H:List Light} (L0:List Light) (hH:∀ id,hasL L0 id=true→hasL H id=true):∀ (l:List Int) (s:List Light×List Int),idsL s.1=idsL L0→rev D H l s=rev D H (l.filter fun id=>hasL L0 id) s
  | [],s,_=>rfl
  | id::l,s,hs=>by
    have hi:=hasL_ids hs id
    rw [List.filter_cons]
    cases h:hasL L0 id
    · rw [h] at hi
      show rev D H l (rev1 D H s id)=_
      rw [rev1_none hi,if_neg Bool.false_ne_true]
      exact rev_filter L0 hH l s hs
    rw [if_pos rfl]
    show rev D H l (rev1 D H s id)=rev D H _ (rev1 D H s id)
    refine rev_filter L0 hH l _ ?_
    rw [rev1_ids fun _=>hH _ h,hs]
theorem rise_ext:∀ {A B:List Int},A.Pairwise (·<·)→B.Pairwise (·<·)→(∀ x,x∈A↔x∈B)→A=B
  | [],[],_,_,_=>rfl
  | [],b::B,_,_,h=>by have:=(h b).2 (by simp); simp at this
  | a::A,[],_,_,h=>by have:=(h a).1 (by simp); simp at this
  | a::A,b::B,hA,hB,h=>by
    obtain ⟨a1,a2⟩:=List.pairwise_cons.1 hA
    obtain ⟨b1,b2⟩:=List.pairwise_cons.1 hB
    have hab:a=b:=by
      have h1:=(h a).1 (by simp)
      have h2:=(h b).2 (by simp)
      rcases List.mem_cons.1 h1 with h1 | h1
      · exact h1
      rcases List.mem_cons.1 h2 with h2 | h2
      · exact h2.symm
      have:=b1 _ h1; have:=a1 _ h2; omega
    subst hab
    rw [rise_ext a2 b2 fun x=>?_]
    constructor
    · intro hx
      rcases List.mem_cons.1 ((h x).1 (List.mem_cons_of_mem _ hx)) with e | e
      · have:=a1 _ hx; omega
      exact e
    intro hx
    rcases List.mem_cons.1 ((h x).2 (List.mem_cons_of_mem _ hx)) with e | e
    · have:=b1 _ hx; omega
    exact e
theorem idsL_rise {L:List Light} (h:L.Pairwise fun a b=>a.Id<b.Id):(idsL L).Pairwise (·<·):=by
  unfold idsL
  exact List.pairwise_map.2 h
theorem rev_over {D:List Int} {H L:List Light} (hH:(idsL H).Pairwise (·<·)) (hL:(idsL L).Pairwise (·<·)) (hs:∀ id,hasL L id=true→hasL H id=true) (o:List Int):rev D H (idsL H) (L,o)=rev D H (idsL L) (L,o):=by
  rw [rev_filter L hs (idsL H) (L,o) rfl]
  congr 1
  refine rise_ext (hH.filter _) hL fun x=>?_
  rw [List.mem_filter]
  constructor
  · rintro ⟨-,h⟩; exact hasL_iff.1 h
  intro h; exact ⟨hasL_iff.1 (hs x (hasL_iff.2 h)),hasL_iff.2 h⟩
structure RvI (N:Network) (D:List Int) (H L0:List Light) (s:List Light×List Int):Prop where
  ok:planOk ⟨N,s.1⟩=true
  ids:idsL s.1=idsL L0
  old:∀ i,i<L0.length→(gd L0 i l0).Id∉s.2→gd s.1 i l0=gd L0 i l0
  new:∀ i,i<L0.length→(gd L0 i l0).Id∈s.2→gd s.1 i l0=homeI H (gd L0 i l0).Id∧meets (gd s.1 i l0).Route.Fibers D=false
theorem gd_idsL {L:List Light} {i:Nat} (h:i<L.length):(gd L i l0).Id=gd (idsL L) i 0:=by
  unfold idsL
  rw [gd_in l0 h,gd_in 0 (by simpa using h),List.getElem_map]
theorem idsL_len (L:List Light):(idsL L).length=L.length:=by simp [idsL]
theorem RvI.len {N:Network} {D:List Int} {H L0:List Light} {s:List Light×List Int} (h:RvI N D H L0 s):s.1.length=L0.length:=by
  rw [←idsL_len,h.ids,idsL_len]
theorem RvI.id {N:Network} {D:List Int} {H L0:List Light} {s:List Light×List Int} (h:RvI N D H L0 s) {i:Nat} (hi:i<L0.length):(gd s.1 i l0).Id=(gd L0 i l0).Id:=by
  rw [gd_idsL (by rw [h.len]; exact hi),gd_idsL hi,h.ids]
theorem set_ok {N:Network} {L:List Light} (hp:planOk ⟨N,L⟩=true) {j:Nat} (hj:j<L.length) {y:Light} (hy:lightOk N y=true) (hid:y.Id=(gd L j l0).Id) (hf:freeL L y=true):planOk ⟨N,L.set j y⟩=true:=by
  obtain ⟨n1,n2,n3,n4⟩:=planOk_iff.1 hp
  have hI:=planI hp
  have hyc:∀ i,i<L.length→i≠j→coll (gd L i l0) y=false:=by
    intro i hi hij
    have hne:(gd L i l0).Id≠(gd L j l0).Id:=by
      rcases Nat.lt_or_gt_of_ne hij with h | h
      · have:=hI.ids i j h hj; simp only at this; omega
      have:=hI.ids j i h hi; simp only at this; omega
    unfold freeL at hf
    rw [Bool.not_eq_true',Bool.eq_false_iff] at hf
    rw [Bool.eq_false_iff]
    intro hc
    refine hf (List.any_eq_true.2 ⟨_,gd_mem l0 hi,?_⟩)
    rw [hc,Bool.and_true,bne_iff_ne,hid]
    exact hne
  refine planOk_iff.2 ⟨n1,by rw [List.length_set]; exact n2,fun x hx'=>?_,?_⟩
  · rcases List.mem_or_eq_of_mem_set hx' with h | h
    · exact n3 x h
    subst h; exact hy
  show (L.set j y).Pairwise _
  have n4':L.Pairwise fun a b=>a.Id<b.Id∧coll a b=false:=n4
  rw [List.pairwise_iff_getElem] at n4' ⊢
  intro a b ha hb hab
  rw [List.length_set] at ha hb
  have q:=n4' a b ha hb hab
  have yid:y.Id=L[j].Id:=by rw [hid,gd_in l0 hj]
  rw [List.getElem_set,List.getElem_set]
  by_cases e1:j=a
  · subst e1
    have e2:¬j=b:=by omega
    rw [if_pos rfl,if_neg e2]
    refine ⟨by rw [yid]; exact q.1,?_⟩
    rw [coll_comR]
    have:=hyc b hb (by omega)
    rwa [gd_in l0 hb] at this
  rw [if_neg e1]
  by_cases e2:j=b
  · subst e2
    rw [if_pos rfl]
    refine ⟨by rw [yid]; exact q.1,?_⟩
    have:=hyc a ha (by omega)
    rwa [gd_in l0 ha] at this
  rw [if_neg e2]; exact q
theorem RvI.step {N:Network} {D:List Int} {H L0:List Light} {s:List Light×List Int} (h:RvI N D H L0 s) (hH:∀ x∈H,lightOk N x=true) {id:Int} (hs:hasL L0 id=true→hasL H id=true):RvI N D H L0 (rev1 D H s id):=by
  have e:=h.ids
  unfold rev1
  split
  · rename_i hm
    unfold mayRev at hm
    simp only [Bool.and_eq_true,Bool.not_eq_true',decide_eq_false_iff_not] at hm
    obtain ⟨m1,m2,m3,m4⟩:=hm
    have m1':hasL L0 id=true:=by rw [←hasL_ids e id]; exact m1
    have hj:=atId_lt m1
    have hid:(homeI H id).Id=(gd s.1 (atId s.1 id) l0).Id:=by rw [homeI_id (hs m1'),atId_gd m1]
    have hI:=planI h.ok
    have hne:∀ i,i<L0.length→atId s.1 id≠i→(gd L0 i l0).Id≠id:=by
      intro i hi hji
      have e1:(gd s.1 (atId s.1 id) l0).Id=id:=atId_gd m1
      rw [←h.id hi,←e1]
      have hi':i<s.1.length:=by rw [h.len]; exact hi
      rcases Nat.lt_or_gt_of_ne hji with q | q
      · have:=hI.ids _ i q hi'; simp only at this; omega
      have:=hI.ids i _ q hj; simp only at this; omega
    refine ⟨set_ok h.ok hj (hH _ (homeI_mem (hs m1'))) hid m4,by simp only; rw [idsL_set hj hid,e],fun i hi hn=>?_,fun i hi hn=>?_⟩
    · simp only [List.mem_append,List.mem_singleton,not_or] at hn
      simp only
      rw [gd_set]
      split
      · rename_i hc
        obtain ⟨rfl,-⟩:=hc
        exact absurd (by rw [←h.id hi,atId_gd m1]) hn.2
      exact h.old i hi hn.1
    simp only [List.mem_append,List.mem_singleton] at hn
    simp only
    rw [gd_set]
    by_cases q:atId s.1 id=i
    · have:(gd L0 i l0).Id=id:=by rw [←h.id hi,←q,atId_gd m1]
      rw [if_pos ⟨q,by rw [h.len]; exact hi⟩,this]
      exact ⟨rfl,m3⟩
    rw [if_neg fun hc=>q hc.1]
    rcases hn with hn | hn
    · exact h.new i hi hn
    exact absurd hn (hne i hi q)
  exact h
theorem RvI.all {N:Network} {D:List Int} {H L0:List Light} (hH:∀ x∈H,lightOk N x=true) (hs:∀ id,hasL L0 id=true→hasL H id=true):∀ (l:List Int) {s:List Light×List Int},RvI N D H L0 s→RvI N D H L0 (rev D H l s)
  | [],s,h=>h
  | id::l,s,h=>RvI.all hH hs l (s:=rev1 D H s id) (h.step hH (hs id))
theorem rev_len {D:List Int} {H:List Light}:∀ (l:List Int) (s:List Light×List Int),(rev D H l s).2.length≤s.2.length + l.length
  | [],s=>by simp [rev]
  | id::l,s=>by
    have:=rev_len (D:=D) (H:=H) l (rev1 D H s id)
    have h1:(rev1 D H s id).2.length≤s.2.length + 1:=by unfold rev1; split <;> simp
    show (rev D H l (rev1 D H s id)).2.length≤_
    rw [List.length_cons]
    omega
end AT
