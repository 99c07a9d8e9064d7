/- What the laws' own small functions do (copies, comparisons, sizes, marks), by program (pure.py). -/
import Derived.Test.YtlemonjnolciiaaGreatOk
import Derived.Test.YtlemonjnolciiaaGreatAtL
set_option linter.unusedVariables false
set_option linter.unusedSimpArgs false
namespace AT
def cO (x:List ByteArray):Prop:=x.length≤2097152∧∀ e∈x,e.size≤2097152
def iB (x:Np):Prop:=True
def ec (x:List Np):Prop:=x.length≤2097152∧∀ e∈x,iB e
def d9 (x:Nk):Prop:=cO x.Ng∧ec x.Nq
def gV (x:List Int):Prop:=x.length≤2097152∧∀ e∈x,True
def iA (x:Nz):Prop:=gV x.Nq
def jM (x:Nj):Prop:=True
def dO (x:Nw):Prop:=iA x.Nz∧jM x.Nj
def ea (x:List Nw):Prop:=x.length≤2097152∧∀ e∈x,dO e
def gU (x:Nd):Prop:=d9 x.Nk∧ea x.Nv
def iC (x:Nh):Prop:=dO x.Nw
def cP (x:List Nh):Prop:=x.length≤2097152∧∀ e∈x,iC e
variable {fu:Nat}
theorem oR:∀ (fk:Nat) (k:Int) (m:Nat) (o:ByteArray),m<fk→0≤k→k≤2305843009213693952→k<(10 ^ m:Nat)→o.size + m≤100→∃ z,xk fu fk k o=some z∧z.2.size≤100:=by
  intro fk
  induction fk with
  | zero=>intro k m _ h; omega
  | succ fk ih =>
    intro k m o h h0 hc h1 hs
    rw [xk]
    by_cases hk:k > 0
    · cases m with
      | zero=>simp at h1; omega
      | succ m =>
        have hq:quo k 10=some (k / 10):=by
          unfold quo
          rw [if_neg (by decide),Int.tdiv_eq_ediv_of_nonneg h0,vu (by omega) (by omega)]
        have hr:rem k 10=some (k.tmod 10):=by unfold rem; rw [if_neg (by decide)]
        obtain ⟨c,hc'⟩:∃ c,c=bstr [(⟨wu8 (w64 (48 + k.tmod 10))⟩:By)]:=⟨_,rfl⟩
        have hcs:c.size=1:=by subst hc'; rfl
        have hsc:scat c o=some (c++o):=by unfold scat; rw [if_pos (by omega)]
        rw [if_pos (by simpa using hk),hr]
        simp only [Option.bind_some,←hc',hsc,hq]
        refine ih (k / 10) m (c++o) (by omega) (by omega) (by omega) ?_ (by rw [ByteArray.size_append]; omega)
        rw [Nat.pow_succ] at h1
        omega
    · rw [if_neg (by simpa using hk)]
      exact ⟨_,rfl,by simp only; omega⟩
theorem qJ (hfu:2097153≤fu) {k:Int} (h0:0≤k) (h1:k≤2305843009213693952):∃ t,yH fu k=some t:=by
  unfold yH
  by_cases hk:k≤0
  · rw [if_pos (by simpa using hk)]; exact ⟨_,rfl⟩
  · rw [if_neg (by simpa using hk)]
    obtain ⟨z,h2,h3⟩:=oR (fu:=fu) fu k 19 ByteArray.empty (by omega) h0 h1 (by simp; omega) (by simp)
    rw [h2,Option.bind_some]
    unfold scat
    have:(⟨#[109]⟩:ByteArray).size=1:=rfl
    rw [if_pos (by omega)]
    exact ⟨_,rfl⟩
theorem kw (hfu:2097153≤fu) {x:List ByteArray} (ho:jz x) {l:Int} (h0:0≤l) (h1:l≤1048576):∃ r,yZ fu x l=some r∧(0≤r→cO x∧r≤l):=by
  obtain ⟨hoe,hol⟩:=ho
  have e1:w64 (l - (x.length:Int))=l - (x.length:Int):=vu (by omega) (by omega)
  unfold yZ
  simp only [e1]
  by_cases hn:l - (x.length:Int)<0
  · exact ⟨-1,by simp [hn],by omega⟩
  · obtain ⟨o,h2,h3⟩:=lz x (fun e=>e.size≤2097152) (vR fu x) (fun e l=>some (w64 (l - (e.size:Int)))) (by omega) (fun e he l h0 h1=>⟨_,rfl,fun h=>by have:=hoe e he; unfold mc at this; rw [vu (by omega) (by omega)] at h ⊢; omega⟩) (fun fk l i=>by rw [vR]; rfl) fu 0 (l - x.length) (by omega) (by omega) (by omega) (by omega)
    rw [Int.ofNat_zero] at h2
    simp only [hn,decide_false,Bool.false_eq_true,if_false,h2,Option.bind_some]
    cases o with
    | ret r=>exact ⟨r,rfl,fun h=>by simp only at h3; omega⟩
    | next z=>exact ⟨z.1,rfl,fun _=>⟨⟨by omega,by simpa using h3.2.2⟩,by have:=h3.2.1; omega⟩⟩
theorem lD (hfu:2097153≤fu) {x:List Np} (ho:fN x) {l:Int} (h0:0≤l) (h1:l≤1048576):∃ r,zI fu x l=some r∧(0≤r→ec x∧r≤l):=by
  obtain ⟨hoe,hol⟩:=ho
  have e1:w64 (l - (x.length:Int))=l - (x.length:Int):=vu (by omega) (by omega)
  unfold zI
  simp only [e1]
  by_cases hn:l - (x.length:Int)<0
  · exact ⟨-1,by simp [hn],by omega⟩
  · refine ⟨l - x.length,by simp [hn],fun _=>⟨⟨by omega,fun e he=>trivial⟩,by omega⟩⟩
theorem ky (hfu:2097153≤fu) {x:Nk} (ho:eo x) {l:Int} (h0:0≤l) (h1:l≤1048576):∃ r,za fu x l=some r∧(0≤r→d9 x∧r≤l):=by
  unfold za
  obtain ⟨r0,e0,b0⟩:=kw hfu (x:=x.Ng) (ho.1) (l:=l) h0 h1
  simp only [e0,Option.bind_some]
  by_cases n0:r0<0
  · exact ⟨-1,by simp [n0],by omega⟩
  obtain ⟨c0,d0⟩:=b0 (by omega)
  simp only [n0,decide_false,Bool.false_eq_true,if_false]
  obtain ⟨r1,e1,b1⟩:=lD hfu (x:=x.Nq) (ho.2) (l:=r0) (by omega) (by omega)
  simp only [e1,Option.bind_some]
  by_cases n1:r1<0
  · exact ⟨-1,by simp [n1],by omega⟩
  obtain ⟨c1,d1⟩:=b1 (by omega)
  simp only [n1,decide_false,Bool.false_eq_true,if_false]
  exact ⟨_,rfl,fun _=>⟨⟨c0,c1⟩,by omega⟩⟩
theorem oA (hfu:2097153≤fu) {x:List Int} (ho:jA x) {l:Int} (h0:0≤l) (h1:l≤1048576):∃ r,bn fu x l=some r∧(0≤r→gV x∧r≤l):=by
  obtain ⟨hoe,hol⟩:=ho
  have e1:w64 (l - (x.length:Int))=l - (x.length:Int):=vu (by omega) (by omega)
  unfold bn
  simp only [e1]
  by_cases hn:l - (x.length:Int)<0
  · exact ⟨-1,by simp [hn],by omega⟩
  · refine ⟨l - x.length,by simp [hn],fun _=>⟨⟨by omega,fun e he=>trivial⟩,by omega⟩⟩
theorem np (hfu:2097153≤fu) {x:Nz} (ho:ij x) {l:Int} (h0:0≤l) (h1:l≤1048576):∃ r,ax fu x l=some r∧(0≤r→iA x∧r≤l):=by
  unfold ax
  obtain ⟨r0,e0,b0⟩:=oA hfu (x:=x.Nq) (ho.2) (l:=l) h0 h1
  simp only [e0,Option.bind_some]
  by_cases n0:r0<0
  · exact ⟨-1,by simp [n0],by omega⟩
  obtain ⟨c0,d0⟩:=b0 (by omega)
  simp only [n0,decide_false,Bool.false_eq_true,if_false]
  exact ⟨_,rfl,fun _=>⟨c0,by omega⟩⟩
theorem nq (hfu:2097153≤fu) {x:Nw} (ho:ik x) {l:Int} (h0:0≤l) (h1:l≤1048576):∃ r,zu fu x l=some r∧(0≤r→dO x∧r≤l):=by
  unfold zu
  obtain ⟨r0,e0,b0⟩:=np hfu (x:=x.Nz) (ho.2.1) (l:=l) h0 h1
  simp only [e0,Option.bind_some]
  by_cases n0:r0<0
  · exact ⟨-1,by simp [n0],by omega⟩
  obtain ⟨c0,d0⟩:=b0 (by omega)
  simp only [n0,decide_false,Bool.false_eq_true,if_false]
  exact ⟨_,rfl,fun _=>⟨⟨c0,trivial⟩,by omega⟩⟩
theorem lC (hfu:2097153≤fu) {x:List Nw} (ho:fM x) {l:Int} (h0:0≤l) (h1:l≤1048576):∃ r,zH fu x l=some r∧(0≤r→ea x∧r≤l):=by
  obtain ⟨hoe,hol⟩:=ho
  have e1:w64 (l - (x.length:Int))=l - (x.length:Int):=vu (by omega) (by omega)
  unfold zH
  simp only [e1]
  by_cases hn:l - (x.length:Int)<0
  · exact ⟨-1,by simp [hn],by omega⟩
  · obtain ⟨o,h2,h3⟩:=lz x dO (xj fu x) (fun e l=>zu fu e l) (by omega) (fun e he l h0 h1=>nq hfu (hoe e he) h0 h1) (fun fk l i=>by rw [xj]) fu 0 (l - x.length) (by omega) (by omega) (by omega) (by omega)
    rw [Int.ofNat_zero] at h2
    simp only [hn,decide_false,Bool.false_eq_true,if_false,h2,Option.bind_some]
    cases o with
    | ret r=>exact ⟨r,rfl,fun h=>by simp only at h3; omega⟩
    | next z=>exact ⟨z.1,rfl,fun _=>⟨⟨by omega,by simpa using h3.2.2⟩,by have:=h3.2.1; omega⟩⟩
theorem lA (hfu:2097153≤fu) {x:Nd} (ho:el x) {l:Int} (h0:0≤l) (h1:l≤1048576):∃ r,z8 fu x l=some r∧(0≤r→gU x∧r≤l):=by
  unfold z8
  obtain ⟨r0,e0,b0⟩:=ky hfu (x:=x.Nk) (ho.1) (l:=l) h0 h1
  simp only [e0,Option.bind_some]
  by_cases n0:r0<0
  · exact ⟨-1,by simp [n0],by omega⟩
  obtain ⟨c0,d0⟩:=b0 (by omega)
  simp only [n0,decide_false,Bool.false_eq_true,if_false]
  obtain ⟨r1,e1,b1⟩:=lC hfu (x:=x.Nv) (ho.2) (l:=r0) (by omega) (by omega)
  simp only [e1,Option.bind_some]
  by_cases n1:r1<0
  · exact ⟨-1,by simp [n1],by omega⟩
  obtain ⟨c1,d1⟩:=b1 (by omega)
  simp only [n1,decide_false,Bool.false_eq_true,if_false]
  exact ⟨_,rfl,fun _=>⟨⟨c0,c1⟩,by omega⟩⟩
theorem ks (hfu:2097153≤fu) {x:List ByteArray} (h:cO x):yX fu x=some x:=by
  have hl:=h.1
  unfold yX
  rw [j6 h.1,Option.bind_some,lv x (vQ fu x) h.1 (fun fk o i=>by rw [vQ]) fu _ (by simp) (by omega)]
  rfl
theorem jP {fu:Nat} (hfu:2097153≤fu) {x:Np} (h:iB x):aw fu x=some x:=by
  rfl
theorem ly (hfu:2097153≤fu) {x:List Np} (h:ec x):zG fu x=some x:=by
  have hl:=h.1
  unfold zG
  rw [j6 h.1,Option.bind_some,lu x (xi fu x) (fun e=>aw fu e) h.1 (fun e he=>jP hfu (h.2 e he)) (fun fk o i=>by rw [xi]) fu _ (by simp) (by omega)]
  rfl
theorem ku (hfu:2097153≤fu) {x:Nk} (h:d9 x):yY fu x=some x:=by
  simp [yY,ks hfu (h.1),ly hfu (h.2)]
theorem oy (hfu:2097153≤fu) {x:List Int} (h:gV x):bh fu x=some x:=by
  have hl:=h.1
  unfold bh
  rw [j6 h.1,Option.bind_some,lv x (x6 fu x) h.1 (fun fk o i=>by rw [x6]) fu _ (by simp) (by omega)]
  rfl
theorem nk (hfu:2097153≤fu) {x:Nz} (h:iA x):av fu x=some x:=by
  simp [av,oy hfu (h)]
theorem jQ {fu:Nat} (hfu:2097153≤fu) {x:Nj} (h:jM x):bK fu x=some x:=by
  rfl
theorem nl (hfu:2097153≤fu) {x:Nw} (h:dO x):zt fu x=some x:=by
  simp [zt,nk hfu (h.1),jQ hfu (h.2)]
theorem lx (hfu:2097153≤fu) {x:List Nw} (h:ea x):zF fu x=some x:=by
  have hl:=h.1
  unfold zF
  rw [j6 h.1,Option.bind_some,lu x (xh fu x) (fun e=>zt fu e) h.1 (fun e he=>nl hfu (h.2 e he)) (fun fk o i=>by rw [xh]) fu _ (by simp) (by omega)]
  rfl
theorem lw (hfu:2097153≤fu) {x:Nd} (h:gU x):xg fu x=some x:=by
  simp [xg,ku hfu (h.1),lx hfu (h.2)]
theorem oZ (hfu:2097153≤fu) {x:List Int} (h:gV x):bq fu x x=some true:=by
  have hl:=h.1
  unfold bq
  rw [if_neg (by simp),oY x (x7 fu x x) h.1 (fun fk i=>by rw [x7]) fu (by omega)]
  rfl
theorem nN (hfu:2097153≤fu) {x:Nz} (h:iA x):ay fu x x=some true:=by
  simp [ay,oZ hfu (h)]
theorem ki {fu:Nat} (hfu:2097153≤fu) {x:Nj} (h:jM x):az fu x x=some true:=by
  simp [az]
theorem kg (hfu:2097153≤fu) {x:Nw} (h:dO x):yE fu x x=some true:=by
  simp [yE,nN hfu (h.1),ki hfu (h.2)]
theorem mL (hfu:2097153≤fu) {x:Nh} (h:iC x):yK fu x x=some true:=by
  simp [yK,kg hfu (h)]
theorem kV (hfu:2097153≤fu) {x:List Nh} (h:cP x):x8 fu x x=some true:=by
  have hl:=h.1
  unfold x8
  rw [if_neg (by simp),ir x (vT fu x x) (fun e e2=>yK fu e e2) h.1 (fun e he=>mL hfu (h.2 e he)) (fun fk i=>by rw [vT]) fu (by omega)]
  rfl
theorem kT (hfu:2097153≤fu) {x:List ByteArray} (h:cO x):zb fu x x=some true:=by
  have hl:=h.1
  unfold zb
  rw [if_neg (by simp),ir x (vS fu x x) (fun e e2=>some (e.toList==e2.toList)) h.1 (fun e he=>by simp) (fun fk i=>by rw [vS]; rfl) fu (by omega)]
  rfl
theorem kh {fu:Nat} (hfu:2097153≤fu) {x:Np} (h:iB x):zv fu x x=some true:=by
  simp [zv]
theorem mK (hfu:2097153≤fu) {x:List Np} (h:ec x):zK fu x x=some true:=by
  have hl:=h.1
  unfold zK
  rw [if_neg (by simp),ir x (xm fu x x) (fun e e2=>zv fu e e2) h.1 (fun e he=>kh hfu (h.2 e he)) (fun fk i=>by rw [xm]) fu (by omega)]
  rfl
theorem kU (hfu:2097153≤fu) {x:Nk} (h:d9 x):zc fu x x=some true:=by
  simp [zc,kT hfu (h.1),mK hfu (h.2)]
theorem mJ (hfu:2097153≤fu) {x:List Nw} (h:ea x):zJ fu x x=some true:=by
  have hl:=h.1
  unfold zJ
  rw [if_neg (by simp),ir x (xl fu x x) (fun e e2=>yE fu e e2) h.1 (fun e he=>kg hfu (h.2 e he)) (fun fk i=>by rw [xl]) fu (by omega)]
  rfl
theorem mI (hfu:2097153≤fu) {x:Nd} (h:gU x):aa fu x x=some true:=by
  simp [aa,kU hfu (h.1),mJ hfu (h.2)]
theorem kI (hfu:2097153≤fu) {x:List ByteArray} (h:cO x) {k:Int} (h0:0≤k) (h1:k≤1152921504606846976):∃ k' x',yp fu x k=some (k',x')∧k≤k'∧k'≤k + 2097152:=by
  obtain ⟨k',a',g1,g5,g6⟩:=dX (fun e=>e.size≤2097152) 1 2305843009213693888 (by omega) (by omega) (vm fu)
    (fun (e:ByteArray) (k:Int)=>(yH fu k).bind fun y1=>some ((w64 (k + 1)),y1))
    (fun e k hb h0 h1=>by
      obtain ⟨t1,mt1⟩:=qJ hfu (k:=k) (by omega) (by omega)
      have w0:w64 (k + 1)=k + 1:=vu (by omega) (by omega)
      refine ⟨(k + 1),t1,?_,by omega,by omega⟩ <;> simp [mt1,w0])
    (fun fk a i k hi=>by
      rw [vm,if_pos (by simpa using hi)]
      simp [vG hi,eE hi,Option.bind_assoc])
    (fun fk a k=>by rw [vm,if_neg (by simp)])
    x.length 0 x k h.1 (by omega) (by omega) (fun e he=>h.2 e (by simpa using he)) h0 (by have:=h.1; omega)
  have hl:=h.1
  refine ⟨k',a',?_,g5,by omega⟩
  · unfold yp; rw [show (0:Int)=((0:Nat):Int) from rfl,g1 fu (by omega)]; rfl
theorem mi (hfu:2097153≤fu) {x:List Np} (h:ec x) {k:Int} (h0:0≤k) (h1:k≤1152921504606846976):∃ k' x',yD fu x k=some (k',x')∧k≤k'∧k'≤k + 8388608:=by
  obtain ⟨k',a',g1,g5,g6⟩:=dX (fun e=>iB e) 4 2305843009213693888 (by omega) (by omega) (vx fu)
    (fun (e:Np) (k:Int)=>some ((w64 ((w64 ((w64 ((w64 (k + 1)) + 1)) + 1)) + 1)),({ A:=k,B:=(w64 (k + 1)),Nt:=(w64 ((w64 (k + 1)) + 1)),Pj:=(w64 ((w64 ((w64 (k + 1)) + 1)) + 1)) }:Np)))
    (fun e k hb h0 h1=>by
      have w0:w64 (k + 1)=k + 1:=vu (by omega) (by omega)
      have w1:w64 ((k + 1) + 1)=(k + 1) + 1:=vu (by omega) (by omega)
      have w2:w64 (((k + 1) + 1) + 1)=((k + 1) + 1) + 1:=vu (by omega) (by omega)
      have w3:w64 ((((k + 1) + 1) + 1) + 1)=(((k + 1) + 1) + 1) + 1:=vu (by omega) (by omega)
      refine ⟨((((k + 1) + 1) + 1) + 1),({ A:=k,B:=(k + 1),Nt:=((k + 1) + 1),Pj:=(((k + 1) + 1) + 1) }:Np),?_,by omega,by omega⟩ <;> simp [w0,w1,w2,w3])
    (fun fk a i k hi=>by
      rw [vx,if_pos (by simpa using hi)]
      simp [vG hi,eE hi,Option.bind_assoc])
    (fun fk a k=>by rw [vx,if_neg (by simp)])
    x.length 0 x k h.1 (by omega) (by omega) (fun e he=>h.2 e (by simpa using he)) h0 (by have:=h.1; omega)
  have hl:=h.1
  refine ⟨k',a',?_,g5,by omega⟩
  · unfold yD; rw [show (0:Int)=((0:Nat):Int) from rfl,g1 fu (by omega)]; rfl
theorem oS (hfu:2097153≤fu) {x:List Int} (h:gV x) {k:Int} (h0:0≤k) (h1:k≤1152921504606846976):∃ k' x',vZ fu x k=some (k',x')∧k≤k'∧k'≤k + 2097152:=by
  obtain ⟨k',a',g1,g5,g6⟩:=dX (fun e=>True) 1 2305843009213693888 (by omega) (by omega) (vd fu)
    (fun (e:Int) (k:Int)=>some ((w64 (k + 1)),k))
    (fun e k hb h0 h1=>by
      have w0:w64 (k + 1)=k + 1:=vu (by omega) (by omega)
      refine ⟨(k + 1),k,?_,by omega,by omega⟩ <;> simp [w0])
    (fun fk a i k hi=>by
      rw [vd,if_pos (by simpa using hi)]
      simp [vG hi,eE hi,Option.bind_assoc])
    (fun fk a k=>by rw [vd,if_neg (by simp)])
    x.length 0 x k h.1 (by omega) (by omega) (fun e he=>h.2 e (by simpa using he)) h0 (by have:=h.1; omega)
  have hl:=h.1
  refine ⟨k',a',?_,g5,by omega⟩
  · unfold vZ; rw [show (0:Int)=((0:Nat):Int) from rfl,g1 fu (by omega)]; rfl
theorem mh (hfu:2097153≤fu) {x:List Nw} (h:ea x) {k:Int} (h0:0≤k) (h1:k≤576460752303423488):∃ k' x',yC fu x k=some (k',x')∧k≤k'∧k'≤k + 4398054899712:=by
  obtain ⟨k',a',g1,g5,g6⟩:=dX (fun e=>dO e) 2097156 1152921504606846912 (by omega) (by omega) (vw fu)
    (fun (e:Nw) (k:Int)=>(vZ fu e.Nz.Nq (w64 ((w64 (k + 1)) + 1))).bind fun y1=>some ((w64 ((w64 (y1.1 + 1)) + 1)),({ Id:=k,Nz:=({ Pz:=(w64 (k + 1)),Nq:=y1.2 }:Nz),Nj:=({ Px:=y1.1,Pk:=(w64 (y1.1 + 1)) }:Nj) }:Nw)))
    (fun e k hb h0 h1=>by
      have w0:w64 (k + 1)=k + 1:=vu (by omega) (by omega)
      have w1:w64 ((k + 1) + 1)=(k + 1) + 1:=vu (by omega) (by omega)
      obtain ⟨q1,x1,m1,l1,u1⟩:=oS hfu (hb.1) (k:=((k + 1) + 1)) (by omega) (by omega)
      have n1:¬q1<0:=by omega
      have w2:w64 (q1 + 1)=q1 + 1:=vu (by omega) (by omega)
      have w3:w64 ((q1 + 1) + 1)=(q1 + 1) + 1:=vu (by omega) (by omega)
      refine ⟨((q1 + 1) + 1),({ Id:=k,Nz:=({ Pz:=(k + 1),Nq:=x1 }:Nz),Nj:=({ Px:=q1,Pk:=(q1 + 1) }:Nj) }:Nw),?_,by omega,by omega⟩ <;> simp [w0,w1,m1,n1,w2,w3])
    (fun fk a i k hi=>by
      rw [vw,if_pos (by simpa using hi)]
      simp [vG hi,eE hi,Option.bind_assoc])
    (fun fk a k=>by rw [vw,if_neg (by simp)])
    x.length 0 x k h.1 (by omega) (by omega) (fun e he=>h.2 e (by simpa using he)) h0 (by have:=h.1; omega)
  have hl:=h.1
  refine ⟨k',a',?_,g5,by omega⟩
  · unfold yC; rw [show (0:Int)=((0:Nat):Int) from rfl,g1 fu (by omega)]; rfl
theorem mg (hfu:2097153≤fu) {x:Nd} (h:gU x) {k:Int} (h0:0≤k) (h1:k≤288230376151711744):∃ k',∃ (x0:List ByteArray) (x1:List Np) (x2:List Nw),yI fu x k=some (k',({ Nk:=({ Ng:=x0,Nq:=x1 }:Nk),Nv:=x2 }:Nd))∧k≤k'∧k'≤k + 4398065385472:=by
  obtain ⟨q0,x0,m0,l0,u0⟩:=kI hfu (h.1.1) (k:=k) (by omega) (by omega)
  have n0:¬q0<0:=by omega
  obtain ⟨q1,x1,m1,l1,u1⟩:=mi hfu (h.1.2) (k:=q0) (by omega) (by omega)
  have n1:¬q1<0:=by omega
  obtain ⟨q2,x2,m2,l2,u2⟩:=mh hfu (h.2) (k:=q1) (by omega) (by omega)
  have n2:¬q2<0:=by omega
  refine ⟨q2,x0,x1,x2,?_,by omega,by omega⟩ <;> simp [yI,zi,m0,n0,m1,n1,m2,n2]
theorem oT (hfu:2097153≤fu) {x:List Int} (h:gV x) {k:Int} (h0:0≤k) (h1:k≤1152921504606846976):∃ k' x',vZ fu x k=some (k',x')∧yJ fu x' k=some k'∧k≤k'∧k'≤k + 2097152:=by
  obtain ⟨k',a',g1,g2,-,g4,g5,g6⟩:=iZ (fun e=>True) 1 2305843009213693888 (by omega) (by omega) (vd fu) (fun a=>vK fu a)
    (fun (e:Int) (k:Int)=>some ((w64 (k + 1)),k))
    (fun (e:Int) (k:Int)=>if e != k then some (.ret (-1)) else some (.next (w64 (k + 1))))
    (fun e k hb h0 h1=>by
      have w0:w64 (k + 1)=k + 1:=vu (by omega) (by omega)
      refine ⟨(k + 1),k,?_,?_,by omega,by omega⟩ <;> simp [w0])
    (fun fk a i k hi=>by
      rw [vd,if_pos (by simpa using hi)]
      simp [vG hi,eE hi,Option.bind_assoc])
    (fun fk a k=>by rw [vd,if_neg (by simp)])
    (fun a fk i k hi=>by
      rw [vK,if_pos (by simpa using hi)]
      simp only [vG hi,Option.bind_some]
      repeat (first | rfl | split | (simp only [Option.bind_assoc,Option.bind_some]; congr 1; funext z)))
    (fun a fk k=>by rw [vK,if_neg (by simp)])
    x.length 0 x k h.1 (by omega) (by omega) (fun e he=>h.2 e (by simpa using he)) h0 (by have:=h.1; omega)
  have hl:=h.1
  refine ⟨k',a',?_,?_,g5,by omega⟩
  · unfold vZ; rw [show (0:Int)=((0:Nat):Int) from rfl,g1 fu (by omega)]; rfl
  · unfold yJ; rw [show (0:Int)=((0:Nat):Int) from rfl,g4 fu (by omega)]; rfl
theorem kJ (hfu:2097153≤fu) {x:List Nh} (h:cP x) {k:Int} (h0:0≤k) (h1:k≤576460752303423488):∃ k' x',yq fu x k=some (k',x')∧xN fu x' k=some k'∧k≤k'∧k'≤k + 4398056996864:=by
  obtain ⟨k',a',g1,g2,-,g4,g5,g6⟩:=iZ (fun e=>iC e) 2097157 1152921504606846912 (by omega) (by omega) (vn fu) (fun a=>vo fu a)
    (fun (e:Nh) (k:Int)=>(vZ fu e.Nw.Nz.Nq (w64 ((w64 ((w64 (k + 1)) + 1)) + 1))).bind fun y1=>some ((w64 ((w64 (y1.1 + 1)) + 1)),({ Pq:=k,Nw:=({ Id:=(w64 (k + 1)),Nz:=({ Pz:=(w64 ((w64 (k + 1)) + 1)),Nq:=y1.2 }:Nz),Nj:=({ Px:=y1.1,Pk:=(w64 (y1.1 + 1)) }:Nj) }:Nw) }:Nh)))
    (fun (e:Nh) (k:Int)=>if e.Pq != k then some (.ret (-1)) else if e.Nw.Id != (w64 (k + 1)) then some (.ret (-1)) else if e.Nw.Nz.Pz != (w64 ((w64 (k + 1)) + 1)) then some (.ret (-1)) else (yJ fu e.Nw.Nz.Nq (w64 ((w64 ((w64 (k + 1)) + 1)) + 1))).bind fun z1=>if decide (z1<0) then some (.ret (-1)) else if e.Nw.Nj.Px != z1 then some (.ret (-1)) else if e.Nw.Nj.Pk != (w64 (z1 + 1)) then some (.ret (-1)) else some (.next (w64 ((w64 (z1 + 1)) + 1))))
    (fun e k hb h0 h1=>by
      have w0:w64 (k + 1)=k + 1:=vu (by omega) (by omega)
      have w1:w64 ((k + 1) + 1)=(k + 1) + 1:=vu (by omega) (by omega)
      have w2:w64 (((k + 1) + 1) + 1)=((k + 1) + 1) + 1:=vu (by omega) (by omega)
      obtain ⟨q1,x1,m1,g1,l1,u1⟩:=oT hfu (hb.1) (k:=(((k + 1) + 1) + 1)) (by omega) (by omega)
      have n1:¬q1<0:=by omega
      have w3:w64 (q1 + 1)=q1 + 1:=vu (by omega) (by omega)
      have w4:w64 ((q1 + 1) + 1)=(q1 + 1) + 1:=vu (by omega) (by omega)
      refine ⟨((q1 + 1) + 1),({ Pq:=k,Nw:=({ Id:=(k + 1),Nz:=({ Pz:=((k + 1) + 1),Nq:=x1 }:Nz),Nj:=({ Px:=q1,Pk:=(q1 + 1) }:Nj) }:Nw) }:Nh),?_,?_,by omega,by omega⟩ <;> simp [w0,w1,w2,m1,n1,g1,w3,w4])
    (fun fk a i k hi=>by
      rw [vn,if_pos (by simpa using hi)]
      simp [vG hi,eE hi,Option.bind_assoc])
    (fun fk a k=>by rw [vn,if_neg (by simp)])
    (fun a fk i k hi=>by
      rw [vo,if_pos (by simpa using hi)]
      simp only [vG hi,Option.bind_some]
      repeat (first | rfl | split | (simp only [Option.bind_assoc,Option.bind_some]; congr 1; funext z)))
    (fun a fk k=>by rw [vo,if_neg (by simp)])
    x.length 0 x k h.1 (by omega) (by omega) (fun e he=>h.2 e (by simpa using he)) h0 (by have:=h.1; omega)
  have hl:=h.1
  refine ⟨k',a',?_,?_,g5,by omega⟩
  · unfold yq; rw [show (0:Int)=((0:Nat):Int) from rfl,g1 fu (by omega)]; rfl
  · unfold xN; rw [show (0:Int)=((0:Nat):Int) from rfl,g4 fu (by omega)]; rfl
end AT
