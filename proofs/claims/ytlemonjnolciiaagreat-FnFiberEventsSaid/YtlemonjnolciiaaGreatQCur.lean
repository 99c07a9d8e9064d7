/- Restorations, plainly: ends of routes, sets of fibers, validity. -/
import Derived.Test.YtlemonjnolciiaaGreatQRv
import Derived.Test.YtlemonjnolciiaaGreatAtR
import Derived.Test.YtlemonjnolciiaaGreatAtPI
import Derived.Test.YtlemonjnolciiaaGreatOk
import Derived.Test.YtlemonjnolciiaaGreatAtL
set_option linter.unusedSimpArgs false
set_option linter.unusedVariables false
namespace AT
def endR (n:Nq) (r:Nv):Int:=match yM n r with | some o=>gl o | none=>0
theorem jH {o:List Int} (h:0<o.length) (h2:o.length≤4194304):idx o (w64 ((o.length:Int) - 1))=some (gl o):=by
 rw[show w64 ((o.length:Int) - 1)=((o.length - 1:Nat):Int) by rw[vt (by omega) (by omega)]; omega,x5 0 (by omega)]; rfl
theorem kS {fu:Nat} (hfu:2097153≤fu) (n:Nq) (r:Nv) (hB:NetB n) (hr:r.Nw.length≤2097152) (ho:(yM n r).isSome=true):bw fu n r=some (endR n r):=by
 obtain⟨o,h⟩:=FD.1 ho;obtain⟨o',hw⟩:=walk_eq hfu n r hB.2 hB.1.1 hr;have hl:=iQ h;unfold bw ef endR;rw[hw,h,Dw,Dw];show ((idx o (w64 ((o.length:Int) - 1))).bind _)=_;rw[jH (by omega) (by omega)];rfl
theorem i7 {fu:Nat} (hfu:2097153≤fu) (n:Nq) (r:Nv) (hB:NetB n) (hr:r.Nw.length≤2097152) (ho:(yM n r).isSome=true):cS fu n r=some (endR n r):=by
 obtain⟨o,h⟩:=FD.1 ho;have hl:=iQ h;unfold cS endR;rw[kQ hfu n r hB.2 hB.1.1 hr,h,Dw];show ((idx o (w64 ((o.length:Int) - 1))).bind _)=_;rw[jH (by omega) (by omega)];rfl
def ky (l:List Int) (hi:Int) (i:Nat):Bool:=!(decide (0≤gd l i 0)&&decide (gd l i 0≤hi))||(decide (0<i)&&decide (gd l (i - 1) 0≥gd l i 0))
def stOk (l:List Int) (m:Nat):Bool:=!((List.range l.length).any (ky l ((m:Int) - 1)))
theorem lq {fu:Nat} (hfu:2097153≤fu) (l:List Int) (m:Nat) (hm:m≤2097152) (hn:l.length≤2097152):dO fu l (m:Int)=some (stOk l m):=by
 unfold dO stOk;rw[xT (l:=List.range l.length) (G:=zH fu l (m:Int)) (ky l ((m:Int) - 1)) (λi=>false) (by simp; omega)
   (λfk i hk=>by
     have hi':i<l.length:=by simpa using hk
     rw[zH,if_pos (by simpa using hi'),x5 0 hi',Ew,vt (n:=(m:Int) - 1) (by omega) (by omega)]
     obtain⟨b1,h1⟩:∃b,b=(decide (0≤gd l i 0)&&decide (gd l i 0≤(m:Int) - 1)):=⟨_,rfl⟩
     simp only[Dw,bG,ky,←h1]
     cases b1
     · rfl
     by_cases h0:0<i
     · rw[eq h0 (by omega),x5 0 (show i - 1<l.length by omega)]
       simp [h0]
     · simp [h0])
   (λfk=>by rw[EH,zH,if_neg (by simp)]) fu (by simp; omega)]
 cases (List.range l.length).any (ky l ((m:Int) - 1)) <;> rfl
theorem pJ {fu:Nat} (hfu:2097153≤fu) (l:List Int) (m:Nat) (hm:m≤2097152) (hn:l.length≤2097152):cr fu l 0 (w64 ((m:Int) - 1))=some (stOk l m):=by
 rw[vt (n:=(m:Int) - 1) (by omega) (by omega)];unfold cr stOk;rw[xT (l:=List.range l.length) (G:=x3 fu l 0 ((m:Int) - 1)) (ky l ((m:Int) - 1)) (λi=>false) (by simp; omega)
   (λfk i hk=>by
     have hi':i<l.length:=by simpa using hk
     rw[x3,if_pos (by simpa using hi'),x5 0 hi',Ew]
     obtain⟨b1,h1⟩:∃b,b=(decide (0≤gd l i 0)&&decide (gd l i 0≤(m:Int) - 1)):=⟨_,rfl⟩
     simp only[Dw,fc,ky,←h1]
     cases b1
     · rfl
     by_cases h0:0<i
     · rw[eq h0 (by omega),x5 0 (show i - 1<l.length by omega)]
       simp [h0]
     · simp [h0])
   (λfk=>by rw[EH,x3,if_neg (by simp)]) fu (by simp; omega)]
 cases (List.range l.length).any (ky l ((m:Int) - 1)) <;> rfl
variable {l:List Int}
theorem cX {m:Nat}:stOk l m=true↔(∀x∈l,0≤x∧x<(m:Int))∧l.Pairwise (·<·):=by
 unfold stOk;rw[D9,DX];constructor;intro h;have hb:∀i,i<l.length→ky l ((m:Int) - 1) i=false:=λi hi=>by
   rw[DX]; exact λh7=>h (DT.2 ⟨i,Et.2 hi,h7⟩)
 have h1:∀i,i<l.length→(0≤gd l i 0∧gd l i 0<(m:Int))∧(0<i→gd l (i - 1) 0<gd l i 0):=λi hi=>by
   have:=hb i hi
   unfold ky at this
   simp only[EL,Gd,DC,decide_eq_true_eq,GJ,decide_eq_false_iff_not]at this
   refine⟨by omega,λh0=>?_⟩
   rcases this.2 with h3 | h3
   · exact absurd h0 h3
   · omega
 have up:∀j i,i<j→j<l.length→gd l i 0<gd l j 0:=by
   intro j
   induction j with
   | zero=>intro i h; omega
   | succ j ih =>
     intro i hi hj
     have h2:=(h1 (j + 1) hj).2 (by omega)
     rw[Nat.add_sub_cancel]at h2
     rcases Fl i j with h3 | h3
     · have:=ih i h3 (by omega); omega
     · obtain rfl:i=j:=by omega
       exact h2
 refine⟨λx hx=>?_,EG.2 λi j hi hj hij=>?_⟩;obtain⟨i,hi,rfl⟩:=Ee.1 hx;have:=(h1 i hi).1;rwa [zf 0 hi]at this;have:=up j i hij hj;rwa [zf 0 hi,zf 0 hj]at this;rintro⟨h1,h2⟩ h;obtain⟨i,hi,hb⟩:=DT.1 h;have hi':=Et.1 hi;have h3:=h1 _ (bT 0 hi');unfold ky at hb;simp only[Fv,D9,DC,decide_eq_true_eq,GJ,decide_eq_false_iff_not]at hb;rcases hb with hb | ⟨h0,hb⟩
 omega;rw[EG]at h2;have:=h2 (i - 1) i (by omega) hi' (by omega);rw[zf 0 hi',zf 0 (show i - 1<l.length by omega)]at hb;omega
theorem gg {m:Nat} (h:stOk l m=true):l.length≤m:=by
  obtain⟨h1,h2⟩:=cX.1 h;refine ig m l (h2.imp λh=>?_) h1;simp only[ne_eq]at *;omega
def nN (r:Nj) (x:Nh):Bool:=(!hasL r.Ng x.Id||meets x.Nv.Nw r.Np)||(x.Nv.Pq != (xg r.Ng x.Id).Nv.Pq||(endR r.Nz.Nq x.Nv != endR r.Nz.Nq (xg r.Ng x.Id).Nv||x.Nd.Px != (xg r.Ng x.Id).Nd.Px))
def rsOk (r:Nj):Bool:=xv r.Nz&&(xv ⟨r.Nz.Nq,r.Ng⟩&&(stOk r.Np r.Nz.Nq.Nw.length&&!r.Nz.Nk.any (nN r)))
def RestB (r:Nj):Prop:=ec r.Nz∧(r.Ng.length≤2097152∧∀x∈r.Ng,x.Nv.Nw.length≤2097152)∧r.Np.length≤2097152
theorem RestB.home {r:Nj} (h:RestB r):ec ⟨r.Nz.Nq,r.Ng⟩:=⟨h.1.1,h.2.1.1,h.2.1.2⟩
variable {fu:Nat}
theorem kg (r:Nj) (id:Int) (h:r.Ng.length<fu) (hn:r.Ng.length≤2097152):bW fu r id=some (if hasL r.Ng id=true then ((atId r.Ng id:Nat):Int) else -1):=by
 unfold bW uX;rw[xT (l:=r.Ng) (G:=uv fu r.Ng id) (λy=>y.Id==id) (λi=>(i:Int)) (by omega)
   (λfk i hi=>by
     have h':(i:Int)<(r.Ng.length:Int):=by omega
     rw[uv]
     simp only[h',decide_true,if_true,vF hi,Dw,dc])
   (λfk=>by rw[uv,if_neg (by simp)]) fu h]
 unfold atId hasL;cases r.Ng.any λy=>y.Id==id <;> rfl
theorem neg1:decide ((-1:Int)<0)=true:=rfl
theorem rY {r:Nj} (hH:xv ⟨r.Nz.Nq,r.Ng⟩=true) {id:Int} (h:hasL r.Ng id=true):LightF r.Nz.Nq (xg r.Ng id):=(bF hH).light _ (fW h)
theorem fl (hfu:2097153≤fu) (r:Nj) (hB:RestB r):vz fu r=some (rsOk r):=by
 have hN:=hB.1.1;unfold vz rsOk;rw[gU hfu r.Nz hB.1,Dw];cases hp:xv r.Nz
 rfl;rw[if_neg (by decide),gU hfu _ hB.home,Dw];cases hh:xv ⟨r.Nz.Nq,r.Ng⟩
 rfl;rw[if_neg (by decide),lq hfu _ _ hN.2 hB.2.2,Dw];cases hs:stOk r.Np r.Nz.Nq.Nw.length
 rfl;rw[Dw,if_neg (by decide)];have hF:=bF hp;unfold uG uI;rw[xT (l:=r.Nz.Nk) (G:=uj fu r.Nz.Nk r r.Nz.Nq) (nN r) (λi=>(i:Int)) (by have:=hF.short; omega)
   (λfk i hi=>by
     have h':(i:Int)<(r.Nz.Nk.length:Int):=by omega
     have hx:=hF.light _ (D6 hi)
     have hxr:=hx.short
     obtain⟨x,ex⟩:∃x,x=r.Nz.Nk[i]:=⟨_,rfl⟩
     rw[←ex]at hx hxr
     obtain⟨c,hc,hd⟩:=f5 (fu:=fu) x.Nv.Nw r.Np (by omega) hx.nodup hB.2.2 hfu
     rw[uj]
     simp only[h',decide_true,if_true,vF hi,←ex,Dw,x7,kg r x.Id (show r.Ng.length<fu by have:=hB.2.1.1; omega) hB.2.1.1,hc,hd]
     unfold nN
     cases hid:hasL r.Ng x.Id
     · simp only[DF,if_false,neg1,if_true,Dw,GU,GT]
     simp only[if_true,nZ,DF,if_false,Dw,ED,Fo]
     cases hm:meets x.Nv.Nw r.Np
     · have hy:=rY hh hid
       have hyr:=hy.short
       obtain⟨o1,ho1⟩:=hx.route
       obtain⟨o2,ho2⟩:=hy.route
       have e2:idx r.Ng ((atId r.Ng x.Id:Nat):Int)=some (xg r.Ng x.Id):=x5 l0 (fq hid)
       have q1:((xg r.Ng x.Id).Nv.Pq != x.Nv.Pq)=(x.Nv.Pq != (xg r.Ng x.Id).Nv.Pq):=by rw[bne,bne,Ht]
       have q2:(endR r.Nz.Nq (xg r.Ng x.Id).Nv != endR r.Nz.Nq x.Nv)=(endR r.Nz.Nq x.Nv != endR r.Nz.Nq (xg r.Ng x.Id).Nv):=by rw[bne,bne,Ht]
       have q3:((xg r.Ng x.Id).Nd.Px != x.Nd.Px)=(x.Nd.Px != (xg r.Ng x.Id).Nd.Px):=by rw[bne,bne,Ht]
       rw[if_neg (by decide),e2,Dw,i7 hfu _ x.Nv hN (by omega) (by rw[ho1]; rfl),i7 hfu _ (xg r.Ng x.Id).Nv hN (by omega) (by rw[ho2]; rfl)]
       simp only[Dw,q1,q2,q3]
       cases h1:x.Nv.Pq != (xg r.Ng x.Id).Nv.Pq <;> cases h2:endR r.Nz.Nq x.Nv != endR r.Nz.Nq (xg r.Ng x.Id).Nv <;> simp
     · simp)
   (λfk=>by rw[uj,if_neg (by simp)]) fu (by have:=hF.short; omega)]
 cases r.Nz.Nk.any (nN r) <;> simp [Out.on]
theorem na (L:List Nh) (hl:L.length≤2097152) (hr:∀x∈L,x.Nv.Nw.length≤2097152):∀(fk i:Nat) (m:List Nh),i≤L.length→L.length - i<fk→m.length≤i→∃z,zl fu L fk m i=some (m++L.drop i,z):=by
 intro fk;induction fk with
 | zero=>intro i _ _ h; omega
 | succ fk ih =>
   intro i m hi hk hm
   rw[zl]
   by_cases h:i<L.length
   · have h':(i:Int)<(L.length:Int):=by omega
     simp only[h',decide_true,if_true,vF h,Dw,eN fu _ (hr _ (D6 h))]
     rw[xH (by simp; omega),Dw,vr h (by omega)]
     obtain⟨z,hz⟩:=ih (i + 1) (m++[L[i]]) h (by omega) (by simp; omega)
     refine⟨z,?_⟩
     rw[hz,DD,←DG h]
     rfl
   · obtain rfl:i=L.length:=by omega
     rw[if_neg (by simp),Ea,D1]
     exact⟨_,rfl⟩
theorem ln (hfu:2097153≤fu) (L:List Nh) (hl:L.length≤2097152) (hr:∀x∈L,x.Nv.Nw.length≤2097152):cg fu L=some L:=by
 unfold cg;obtain⟨z,hz⟩:=na (fu:=fu) L hl hr fu 0 [] (by omega) (by omega) (by simp);rw[show ((0:Nat):Int)=0 from rfl]at hz;rw[hz]; rfl
theorem j8 (fu:Nat) (l:List Int) (h:l.length≤2097152):aT fu l=some l:=by
 unfold aT;rw[bY (by omega)]; rfl
theorem d7 (hfu:2097153≤fu) (r:Nj) (hB:RestB r):aA fu r=some r:=by
 unfold aA;rw[jE hfu _ hB.1,Dw,ln hfu _ hB.2.1.1 hB.2.1.2,Dw,j8 fu _ hB.2.2];rfl
theorem cU (hfu:2097153≤fu) (r:Nj) (hB:RestB r):vf fu r=some r:=by
 have hz:ec ⟨⟨[],[]⟩,r.Ng⟩:=⟨⟨⟨by simp,by simp⟩,by simp⟩,hB.2.1.1,hB.2.1.2⟩;have hd:app ([]:List Int) r.Np=some r.Np:=bY (by have:=hB.2.2; omega);unfold vf dF;rw[gX hfu _ hB.1,Dw,gX hfu _ hz,Dw,hd];rfl
def nG:Nj:=⟨⟨⟨[],[]⟩,[]⟩,[],[]⟩
structure RestF (r:Nj):Prop where
  plan:xv r.Nz=true
  home:xv ⟨r.Nz.Nq,r.Ng⟩=true
  down:stOk r.Np r.Nz.Nq.Nw.length=true
  each:∀x∈r.Nz.Nk,nN r x=false
variable {r:Nj}
theorem kK:rsOk r=true↔RestF r:=by
 unfold rsOk;rw[DC,DC,DC,D9];constructor;rintro⟨a,b,c,d⟩;refine⟨a,b,c,λx hx=>?_⟩;rw[DX]at d ⊢;exact λh=>d (DT.2 ⟨x,hx,h⟩);rintro⟨a,b,c,d⟩;refine⟨a,b,c,?_⟩;rw[DX];intro h;obtain⟨x,hx,hc⟩:=DT.1 h;rw[d x hx]at hc;cases hc
theorem aM {x:Nh}:nN r x=false↔hasL r.Ng x.Id=true∧meets x.Nv.Nw r.Np=false∧x.Nv.Pq=(xg r.Ng x.Id).Nv.Pq∧endR r.Nz.Nq x.Nv=endR r.Nz.Nq (xg r.Ng x.Id).Nv∧x.Nd.Px=(xg r.Ng x.Id).Nd.Px:=by
 unfold nN;simp only[EL,Gd,bne_eq_false_iff_eq,and_assoc]
theorem RestF.sub (h:RestF r):∀id,hasL r.Nz.Nk id=true→hasL r.Ng id=true:=by
 intro id hid;obtain⟨x,hx,he⟩:=DT.1 hid;rw[beq_iff_eq]at he;rw[←he];exact (aM.1 (h.each x hx)).1
end AT
namespace AT
def rt0:Nv:=⟨0,[]⟩
def jz (n:Nq) (fs:List Int):Prop:=∀x∈fs,0≤x∧x<(n.Nw.length:Int)
structure RtB (n:Nq) (r:Nv):Prop where
  short:r.Nw.length≤7
  fib:jz n r.Nw
  lo:0≤r.Pq
  hi:r.Pq<(n.Nx.length:Int)
def lenR (F:List Nt):List Int→Int
  | []=>0
  | i::l=>(gd F i.toNat f0).Pk + lenR F l
theorem ou {n:Nq} {i:Int} (h:0≤i∧i<(n.Nw.length:Int)):idx n.Nw i=some (gd n.Nw i.toNat f0)∧gd n.Nw i.toNat f0∈n.Nw:=by
 have:=x5 (l:=n.Nw) (i:=i.toNat) f0 (by omega);rw[EW h.1]at this;exact⟨this,bT f0 (by omega)⟩
theorem n0 {n:Nq} (hn:NetF n):∀{fs:List Int},jz n fs→0≤lenR n.Nw fs∧lenR n.Nw fs≤5000 * (fs.length:Int)
  | [],_=>by simp [lenR]
  | i::l,h=>by
    have h1:=n0 hn (fs:=l) λx hx=>h x (D7 _ hx)
    have h2:=hn.each _ (ou (h i (by simp))).2
    simp only[lenR,Ep]
    omega
theorem mg {fu:Nat} {n:Nq} (hn:NetF n) (r:Nv) (hf:jz n r.Nw) (hl:r.Nw.length≤100):∀(fk i:Nat) (s:Int),i≤r.Nw.length→r.Nw.length - i<fk→0≤s→s≤5000 * (i:Int)→∃z,yC fu n r fk s i=some (s + lenR n.Nw (r.Nw.drop i),z):=by
 intro fk;induction fk with
 | zero=>intro i _ _ h; omega
 | succ fk ih =>
   intro i s hi hk h0 h1
   rw[yC]
   by_cases h:i<r.Nw.length
   · obtain⟨e1,e2⟩:=ou (hf _ (D6 h))
     have h2:=hn.each _ e2
     rw[if_pos (by simpa using h),vF h,Dw,e1,Dw,vr h (by omega),vt (by omega) (by omega),←DG h,lenR]
     obtain⟨z,hz⟩:=ih (i + 1) (s + (gd n.Nw r.Nw[i].toNat f0).Pk) h (by omega) (by omega) (by omega)
     exact⟨z,by rw[hz]; congr 2; omega⟩
   · obtain rfl:i=r.Nw.length:=by omega
     rw[if_neg (by simp),Ea,lenR,Int.add_zero]
     exact⟨_,rfl⟩
theorem j6 {fu:Nat} (hfu:2097153≤fu) {n:Nq} (hn:NetF n) (r:Nv) (hf:jz n r.Nw) (hl:r.Nw.length≤100):bv fu n r=some (lenR n.Nw r.Nw):=by
 obtain⟨z,hz⟩:=mg (fu:=fu) hn r hf hl fu 0 0 (by omega) (by omega) (by omega) (by omega);rw[show ((0:Nat):Int)=0 from rfl,D4,Int.zero_add]at hz;unfold bv;rw[hz]; rfl
theorem lT (fu:Nat) (x:Int):bg fu x=some (cmpI x 0):=by
 unfold bg cmpI;by_cases h:x<0;simp [h];by_cases h2:x > 0 <;> simp [h,h2]
theorem jJ (a b:Int):cmpI (a - b) 0=cmpI a b:=by
 unfold cmpI;by_cases h:a<b;rw[if_pos (by omega),if_pos h];rw[if_neg (by omega),if_neg h];by_cases h2:a > b;rw[if_pos (by omega),if_pos h2];rw[if_neg (by omega),if_neg h2]
def cmpL:List Int→List Int→Int
  | [],[]=>0
  | [],_::_=>-1
  | _::_,[]=>1
  | a::x,b::y=>if a=b then cmpL x y else cmpI a b
def cmpR (F:List Nt) (a b:Nv):Int:=or4 (cmpI (lenR F a.Nw) (lenR F b.Nw)) (cmpI (a.Nw.length:Int) (b.Nw.length:Int)) (cmpL a.Nw b.Nw) (cmpI a.Pq b.Pq)
variable {a b c d:Int}
theorem BX (h:a≠0):or4 a b c d=a:=by unfold or4; rw[if_pos h]
theorem BW (h:a=0) (h2:b≠0):or4 a b c d=b:=by unfold or4; rw[if_neg (by simpa using h),if_pos h2]
theorem BV (h:a=0) (h2:b=0) (h3:c≠0):or4 a b c d=c:=by unfold or4; rw[if_neg (by simpa using h),if_neg (by simpa using h2),if_pos h3]
theorem BU (h:a=0) (h2:b=0) (h3:c=0):or4 a b c d=d:=by
 unfold or4;rw[if_neg (by simpa using h),if_neg (by simpa using h2),if_neg (by simpa using h3)];by_cases h4:d=0;rw[if_neg (by simpa using h4),h4];rw[if_pos h4]
theorem kL {fu:Nat} {n:Nq} (hn:NetF n) (a b:Nv) (ha:jz n a.Nw) (hb:jz n b.Nw) (hl:a.Nw.length≤100) (he:b.Nw.length=a.Nw.length):∀(fk i:Nat),i≤a.Nw.length→a.Nw.length - i<fk →
    yb fu a b fk i=some (if cmpL (a.Nw.drop i) (b.Nw.drop i)=0 then .next (a.Nw.length:Int) else .ret (cmpL (a.Nw.drop i) (b.Nw.drop i))):=by
 have hff:=hn.fib;intro fk;induction fk with
 | zero=>intro i _ h; omega
 | succ fk ih =>
   intro i hi hk
   rw[yb]
   by_cases h:i<a.Nw.length
   · have h2:i<b.Nw.length:=by omega
     have b1:=ha _ (D6 h)
     have b2:=hb _ (D6 h2)
     rw[if_pos (by simpa using h),vF h,vF h2,←DG h,←DG h2,cmpL]
     simp only[Dw]
     by_cases hc:a.Nw[i]=b.Nw[i]
     · rw[if_pos hc,hc,bne_self_eq_false,if_neg DV,vr h (by omega)]
       exact ih (i + 1) h (by omega)
     · have hne:cmpI a.Nw[i] b.Nw[i]≠0:=λe=>hc ((zO _ _).1 e)
       rw[if_neg hc,if_neg hne,if_pos (by rw[bne_iff_ne]; exact hc),lT,Dw,vt (by omega) (by omega),jJ]
   · obtain rfl:i=a.Nw.length:=by omega
     have e2:b.Nw.drop a.Nw.length=[]:=by rw[←he,Ea]
     rw[if_neg (by simp),Ea,e2]
     rfl
theorem m0 {fu:Nat} (hfu:2097153≤fu) {n:Nq} (hn:NetF n) {a b:Nv} (ha:RtB n a) (hb:RtB n b):bK fu n a b=some (cmpR n.Nw a b):=by
 have a1:=ha.short;have b1:=hb.short;have a2:=n0 hn ha.fib;have b2:=n0 hn hb.fib;have hm:=hn.hi;have s1:=ha.lo;have s2:=ha.hi;have s3:=hb.lo;have s4:=hb.hi;unfold bK cmpR;rw[j6 hfu hn a ha.fib (by omega),j6 hfu hn b hb.fib (by omega)];simp only[Dw];rw[vt (n:=lenR n.Nw a.Nw - lenR n.Nw b.Nw) (by omega) (by omega),vt (n:=(a.Nw.length:Int) - (b.Nw.length:Int)) (by omega) (by omega),vt (n:=a.Pq - b.Pq) (by omega) (by omega),lT,lT,lT,jJ,jJ,jJ];by_cases h1:lenR n.Nw a.Nw=lenR n.Nw b.Nw;have z1:=(zO _ _).2 h1;rw[if_neg (by rw[bne_iff_ne]; omega)];by_cases h2:a.Nw.length=b.Nw.length;have z2:=(zO (a.Nw.length:Int) (b.Nw.length:Int)).2 (by omega);have hl:=kL (fu:=fu) hn a b ha.fib hb.fib (by omega) h2.symm fu 0 (by omega) (by omega);rw[show ((0:Nat):Int)=0 from rfl,D4,D4]at hl;rw[if_neg (by rw[bne_iff_ne]; omega),hl];by_cases h3:cmpL a.Nw b.Nw=0;rw[if_pos h3,Dw,BU z1 z2 h3];rfl;rw[if_neg h3,BV z1 z2 h3]; rfl;have z2:cmpI (a.Nw.length:Int) (b.Nw.length:Int)≠0:=λe=>h2 (by have:=(zO _ _).1 e; omega);rw[if_pos (by rw[bne_iff_ne]; omega),BW z1 z2]; rfl;have z1:cmpI (lenR n.Nw a.Nw) (lenR n.Nw b.Nw)≠0:=λe=>h1 ((zO _ _).1 e);rw[if_pos (by rw[bne_iff_ne]; omega),BX z1]; rfl
def insN (F:List Nt) (l:List Nv) (r:Nv):Nat→Nat
  | 0=>0
  | i + 1=>if cmpR F r (gd l i rt0)<0 then insN F l r i else i + 1
theorem mh (F:List Nt) (l:List Nv) (r:Nv):∀i,insN F l r i≤i
  | 0=>D3 0
  | i + 1=>by
    unfold insN
    split
    · have:=mh F l r i; omega
    · exact D3 _
def insR (F:List Nt) (l:List Nv) (r:Nv):List Nv:=l.take (insN F l r l.length)++r::l.drop (insN F l r l.length)
theorem jF (F:List Nt) (l:List Nv) (r:Nv):(insR F l r).length=l.length + 1:=by
 have:=mh F l r l.length;unfold insR;rw[DR,Ep,DO,Er];omega
theorem j9 (F:List Nt) (l:List Nv) (r:Nv):(insR F l r).Perm (r::l):=by
 unfold insR;refine Gt.trans ?_;rw[Fp]
theorem td {fu:Nat} (hfu:2097153≤fu) {n:Nq} (hn:NetF n) (to:Int) (l:List Nv) (r:Nv) (hl:l.length≤1000) (hL:∀a∈l,RtB n a) (hr:RtB n r):∀(fk i:Nat),i≤l.length→i<fk→xw fu ⟨n,to,l⟩ r fk i=some ((insN n.Nw l r i:Nat):Int):=by
 intro fk;induction fk with
 | zero=>intro i _ h; omega
 | succ fk ih =>
   intro i hi hk
   rw[xw]
   cases i with
   | zero =>
     rw[if_neg (by simp),Dw,if_neg DV]
     rfl
   | succ i =>
     have hi':i<l.length:=by omega
     have e1:w64 (((i + 1:Nat):Int) - 1)=(i:Int):=by rw[vt (by omega) (by omega)]; omega
     have e2:idx (⟨n,to,l⟩:Ph).list (i:Int)=some (gd l i rt0):=x5 rt0 hi'
     rw[if_pos (by simp),e1,e2,Dw,m0 hfu hn hr (hL _ (bT rt0 hi')),insN]
     simp only[Dw,decide_eq_true_eq]
     by_cases hc:cmpR n.Nw r (gd l i rt0)<0
     · rw[if_pos hc,if_pos hc]
       exact ih i (by omega) (by omega)
     · rw[if_neg hc,if_neg hc]
theorem put_eq {fu:Nat} (hfu:2097153≤fu) {n:Nq} (hn:NetF n) (to:Int) (l:List Nv) (r:Nv) (hl:l.length≤1000) (hL:∀a∈l,RtB n a) (hr:RtB n r):ae fu ⟨n,to,l⟩ r=some ⟨n,to,insR n.Nw l r⟩:=by
 have hle:=mh n.Nw l r l.length;unfold ae;rw[td hfu hn to l r hl hL hr fu l.length (D3 _) (by omega),Dw];show ((sub l 0 ((insN n.Nw l r l.length:Nat):Int)).bind _)=_;rw[ee hle,Dw];have hs:sub l ((insN n.Nw l r l.length:Nat):Int) (l.length:Int)=some (l.drop (insN n.Nw l r l.length)):=by
   unfold sub
   rw[if_pos (by omega)]
   simp
 show ((sub l ((insN n.Nw l r l.length:Nat):Int) (l.length:Int)).bind _)=_;rw[hs,Dw,bY (by rw[DO]; omega),Dw,xH (by rw[DO,DJ]; omega),Dw,xH (by rw[DR,DO,DJ,Er]; omega),Dw,DD,EC];rfl
def pth (F:List Nt) (to:Int):Nat→List Int→Int→List Int→List (List Int)
  | 0,_,_,_=>[]
  | k + 1,seen,v,fs=>if v=to then [fs] else (List.range F.length).flatMap λi=>if 0≤oth (gd F i f0) v∧(seen.any λx=>x==oth (gd F i f0) v)=false then pth F to k (seen++[oth (gd F i f0) v]) (oth (gd F i f0) v) (fs++[(i:Int)]) else []
theorem oS {F:List Nt} {to:Int} {k:Nat} {seen:List Int} {v:Int} {fs:List Int} (h:¬v=to):pth F to (k + 1) seen v fs=(List.range F.length).flatMap λi=>if 0≤oth (gd F i f0) v∧(seen.any λx=>x==oth (gd F i f0) v)=false then pth F to k (seen++[oth (gd F i f0) v]) (oth (gd F i f0) v) (fs++[(i:Int)]) else []:=by rw[pth,if_neg h]
def aP (F:List Nt) (s:Int) (l:List Nv) (ps:List (List Int)):List Nv:=ps.foldl (λl p=>if l.length≤200 then insR F l ⟨s,p⟩ else l) l
theorem pQ (F:List Nt) (s:Int) (l:List Nv) (p q:List (List Int)):aP F s l (p++q)=aP F s (aP F s l p) q:=List.foldl_append
theorem jW {F:List Nt} {s:Int} {l:List Nv} (h:200<l.length):∀ps,aP F s l ps=l
  | []=>rfl
  | p::ps=>by
    show aP F s (if l.length≤200 then _ else l) ps=l
    rw[if_neg (by omega)]
    exact jW h ps
theorem jB {n:Nq} {s:Int}:∀(ps:List (List Int)) {l:List Nv},(∀p∈ps,RtB n ⟨s,p⟩)→(∀a∈l,RtB n a)→l.length≤201→(∀a∈aP n.Nw s l ps,RtB n a)∧(aP n.Nw s l ps).length≤201
  | [],l,_,hl,hn=>⟨hl,hn⟩
  | p::ps,l,hp,hl,hn=>by
    show (∀a∈aP n.Nw s (if l.length≤200 then insR n.Nw l ⟨s,p⟩ else l) ps,RtB n a)∧_
    by_cases h:l.length≤200
    · have:=jB ps (l:=insR n.Nw l ⟨s,p⟩) (λq hq=>hp q (D7 _ hq)) (λa ha=>by
        rcases DZ.1 ((j9 n.Nw l ⟨s,p⟩).mem_iff.1 ha) with e | e
        · rw[e]; exact hp p (by simp)
        · exact hl a e) (by rw[jF]; omega)
      rw[if_pos h]
      show _∧(aP n.Nw s (if l.length≤200 then insR n.Nw l ⟨s,p⟩ else l) ps).length≤201
      rw[if_pos h]
      exact this
    · have:=jB ps (l:=l) (λq hq=>hp q (D7 _ hq)) hl hn
      rw[if_neg h]
      show _∧(aP n.Nw s (if l.length≤200 then insR n.Nw l ⟨s,p⟩ else l) ps).length≤201
      rw[if_neg h]
      exact this
theorem lc {F:List Nt} {s:Int}:∀(ps:List (List Int)) {l:List Nv} {a:Nv},a∈aP F s l ps→a∈l∨∃p∈ps,a=⟨s,p⟩
  | [],l,a,h=>.inl h
  | p::ps,l,a,h=>by
    have h':a∈aP F s (if l.length≤200 then insR F l ⟨s,p⟩ else l) ps:=h
    rcases lc ps h' with h1 | ⟨q,hq,e⟩
    · split at h1
      · rcases DZ.1 ((j9 F l ⟨s,p⟩).mem_iff.1 h1) with e | e
        · exact .inr ⟨p,by simp,e⟩
        · exact .inl e
      · exact .inl h1
    · exact .inr ⟨q,D7 _ hq,e⟩
theorem tg {n:Nq} {to:Int}:∀(k:Nat) {seen:List Int} {v:Int} {fs:List Int},jz n fs→∀p∈pth n.Nw to k seen v fs,jz n p∧p.length + 1≤fs.length + k
  | 0,seen,v,fs,_,p,h=>by simp [pth]at h
  | k + 1,seen,v,fs,hf,p,h=>by
    unfold pth at h
    split at h
    · rw[DU]at h
      subst h
      exact⟨hf,by omega⟩
    · obtain⟨i,hi,h1⟩:=Es.1 h
      have hi':=Et.1 hi
      split at h1
      · obtain⟨g1,g2⟩:=tg k (λx hx=>by
          rcases Dx.1 hx with hx | hx
          · exact hf x hx
          · rw[DU]at hx; subst hx; omega) p h1
        rw[DR,DJ]at g2
        exact⟨g1,by omega⟩
      · simp at h1
theorem tH {fu:Nat} (hfu:2097153≤fu) {n:Nq} (hn:NetF n) (to:Int) (r:Nv) (seen:List Int) (rec_:Ph→Nv→List Int→Option Ph) (v:Int) (k:Nat) (hs:seen.length≤1000) (hr:r.Nw.length≤1000)
    (hB:∀i,i<n.Nw.length→∀p∈(if 0≤oth (gd n.Nw i f0) v∧(seen.any λx=>x==oth (gd n.Nw i f0) v)=false then pth n.Nw to k (seen++[oth (gd n.Nw i f0) v]) (oth (gd n.Nw i f0) v) (r.Nw++[(i:Int)]) else []),RtB n ⟨r.Pq,p⟩)
    (hrec:∀i l,i<n.Nw.length→0≤oth (gd n.Nw i f0) v→(seen.any λx=>x==oth (gd n.Nw i f0) v)=false→l.length≤200→(∀a∈l,RtB n a)→rec_ ⟨n,to,l⟩ ⟨r.Pq,r.Nw++[(i:Int)]⟩ (seen++[oth (gd n.Nw i f0) v])=some ⟨n,to,aP n.Nw r.Pq l (pth n.Nw to k (seen++[oth (gd n.Nw i f0) v]) (oth (gd n.Nw i f0) v) (r.Nw++[(i:Int)]))⟩) :
    ∀(fk i:Nat) (l:List Nv),i≤n.Nw.length→n.Nw.length - i<fk→(∀a∈l,RtB n a)→l.length≤201 →
    ∃z,vg fu r seen rec_ v fk i n.Nx n.Nw to l=some (z,n.Nx,n.Nw,to,aP n.Nw r.Pq l (((List.range n.Nw.length).drop i).flatMap λi=>if 0≤oth (gd n.Nw i f0) v∧(seen.any λx=>x==oth (gd n.Nw i f0) v)=false then pth n.Nw to k (seen++[oth (gd n.Nw i f0) v]) (oth (gd n.Nw i f0) v) (r.Nw++[(i:Int)]) else [])):=by
 have hff:=hn.fib;intro fk;induction fk with
 | zero=>intro i _ _ h; omega
 | succ fk ih =>
   intro i l hi hk hL hl
   rw[vg]
   by_cases h:i<n.Nw.length
   · by_cases h2:l.length≤200
     · have hoth:yp fu (⟨n.Nx,n.Nw⟩:Nq) (i:Int) v=some (oth (gd n.Nw i f0) v):=gm fu n i v h
       have hdr:(List.range n.Nw.length).drop i=i::(List.range n.Nw.length).drop (i + 1):=by
         rw[←DG (as:=List.range n.Nw.length) (i:=i) (h:=by simpa using h),Ew]
       have hwi:=vr h (show (n.Nw.length:Int)≤9223372036854775807 by omega)
       rw[if_pos (by simpa using h),decide_eq_true (by omega),Dw,if_pos rfl,hoth,Dw,hdr,Ef,pQ,hwi]
       clear hwi
       have hBi:=hB i h
       have hri:=hrec i l h
       obtain⟨y,hy⟩:∃y,y=oth (gd n.Nw i f0) v:=⟨_,rfl⟩
       rw[←hy]at hBi hri ⊢
       by_cases h3:0≤y
       · cases h4:seen.any λx=>x==y
         · rw[h4]at hBi
           rw[if_pos ⟨h3,rfl⟩]at hBi
           rw[if_pos (by simpa using h3),fe seen y (by omega) (by omega),h4,Dw,Dw,if_pos (by decide),if_pos ⟨h3,rfl⟩,j8 fu r.Nw (by omega),Dw,xH (by rw[DJ]; omega),Dw,j8 fu seen (by omega),Dw,xH (by rw[DJ]; omega),Dw]
           have:=hri h3 h4 h2 hL
           have this':rec_ ({ n:=({ Nx:=n.Nx,Nw:=n.Nw }:Nq),to:=to,list:=l }:Ph) ({ Pq:=r.Pq,Nw:=r.Nw++[(i:Int)] }:Nv) (seen++[y])=_:=this
           rw[this',Dw]
           obtain⟨g1,g2⟩:=jB _ hBi hL hl
           exact ih (i + 1) _ h (by omega) g1 g2
         · rw[if_pos (by simpa using h3),fe seen y (by omega) (by omega),h4,Dw,Dw,if_neg (by decide),if_neg (λc=>by cases c.2)]
           exact ih (i + 1) l h (by omega) hL hl
       · rw[if_neg (by simpa using h3),Dw,if_neg DV,if_neg λc=>h3 c.1]
         exact ih (i + 1) l h (by omega) hL hl
     · rw[if_pos (by simpa using h),decide_eq_false (by omega),Dw,if_neg DV,jW (by omega)]
       exact⟨_,rfl⟩
   · obtain rfl:i=n.Nw.length:=by omega
     have e:(List.range n.Nw.length).drop n.Nw.length=[]:=by rw[List.drop_eq_nil_iff]; simp
     rw[if_neg (by simp),Dw,if_neg DV,e]
     exact⟨_,rfl⟩
theorem ext_eq {n:Nq} (hn:NetF n) (to:Int):∀(k:Nat) {fu:Nat},2097153 + k≤fu→∀(l:List Nv) (r:Nv) (seen:List Int),seen.length + k=n.Nx.length + 1→1≤k→seen.Nodup→(∀x∈seen,0≤x∧x<(n.Nx.length:Int))→r.Nw.length + 1=seen.length→jz n r.Nw→0≤r.Pq→r.Pq<(n.Nx.length:Int)→l.length≤200→(∀a∈l,RtB n a) →
    vn fu ⟨n,to,l⟩ r seen=some ⟨n,to,aP n.Nw r.Pq l (pth n.Nw to k seen (gl seen) r.Nw)⟩:=by
 have hm:=hn.hi;have hff:=hn.fib;intro k;induction k with
 | zero=>intro fu _ _ _ _ _ h; omega
 | succ k ih =>
   intro fu hfu l r seen hsl _ hnd hin hrf hfi hs0 hs1 hl hL
   obtain⟨fu',rfl⟩:∃f,fu=f + 1:=⟨fu - 1,by omega⟩
   have hfu':2097153 + k≤fu':=by omega
   rw[vn]
   unfold zr
   have hlast:idx seen (w64 ((seen.length:Int) - 1))=some (gl seen):=jH (by omega) (by omega)
   have hpB:=λp hp=>tg (to:=to) (k + 1) (seen:=seen) (v:=gl seen) hfi p hp
   rw[hlast,Dw]
   by_cases hv:gl seen=to
   · have e1:(gl seen==to)=true:=by rw[beq_iff_eq]; exact hv
     have hpe:pth n.Nw to (k + 1) seen (gl seen) r.Nw=[r.Nw]:=by rw[pth,if_pos hv]
     rw[e1,if_pos rfl,put_eq (by omega) hn to l r (by omega) hL ⟨by omega,hfi,hs0,hs1⟩,hpe]
     show some _=some (⟨n,to,if l.length≤200 then insR n.Nw l r else l⟩:Ph)
     rw[if_pos hl]
   · have e1:(gl seen==to)=false:=by rw[beq_eq_false_iff_ne]; exact hv
     have hpe:=oS (F:=n.Nw) (k:=k) (seen:=seen) (fs:=r.Nw) hv
     rw[hpe]at hpB
     obtain⟨z,hz⟩:=tH (fu:=fu') (by omega) hn to r seen (λx1 r' seen=>vn fu' x1 r' seen) (gl seen) k (by omega) (by omega)
       (λi hi p hp=>by
         obtain⟨g1,g2⟩:=hpB p (Es.2 ⟨i,Et.2 hi,hp⟩)
         exact⟨by simp only; omega,g1,hs0,hs1⟩)
       (λi l' hi h0 hns hl' hL'=>by
         have hfm:gd n.Nw i f0∈n.Nw:=bT f0 hi
         have hev:=hn.each _ hfm
         have hom:=nX h0
         have hnot:oth (gd n.Nw i f0) (gl seen)∉seen:=λhm=>by
           rw[DX]at hns
           exact hns (DT.2 ⟨_,hm,by simp⟩)
         have hnd':(seen++[oth (gd n.Nw i f0) (gl seen)]).Nodup:=DW.2 ⟨hnd,by simp,λa ha b hb=>by rw[DU]at hb; subst hb; exact λe=>hnot (e▸ha)⟩
         have hin':∀x∈seen++[oth (gd n.Nw i f0) (gl seen)],0≤x∧x<(n.Nx.length:Int):=λx hx=>by
           rcases Dx.1 hx with hx | hx
           · exact hin x hx
           · rw[DU]at hx
             subst hx
             omega
         have hsh:=ig _ _ hnd' hin'
         rw[DR,DJ]at hsh
         have:=ih hfu' l' (⟨r.Pq,r.Nw++[(i:Int)]⟩:Nv) (seen++[oth (gd n.Nw i f0) (gl seen)]) (by rw[DR,DJ]; omega) (by omega) hnd' hin' (by simp only[DR,DJ]; omega) (λx hx=>by
           rcases Dx.1 hx with hx | hx
           · exact hfi x hx
           · rw[DU]at hx; subst hx; omega) hs0 hs1 hl' hL'
         rw[kh]at this
         exact this) fu' 0 l (by omega) (by omega) hL (by omega)
     rw[show ((0:Nat):Int)=0 from rfl,D4]at hz
     rw[e1,if_neg DV,hpe]
     have hz':vg fu' r seen (λx1 r' seen=>vn fu' x1 r' seen) (gl seen) fu' 0 (⟨n,to,l⟩:Ph).n.Nx (⟨n,to,l⟩:Ph).n.Nw (⟨n,to,l⟩:Ph).to (⟨n,to,l⟩:Ph).list=_:=hz
     rw[hz',Dw]
def rts (n:Nq) (s t:Int):List Nv:=aP n.Nw s [] (pth n.Nw t n.Nx.length [s] s [])
theorem sW {n:Nq} (hn:NetF n) {s:Int} (h0:0≤s) (h1:s<(n.Nx.length:Int)) (t:Int):(∀a∈rts n s t,RtB n a)∧(rts n s t).length≤201:=by
 have hm:=hn.hi;refine jB _ (λp hp=>?_) (by simp) (by simp);obtain⟨g1,g2⟩:=tg _ (λx hx=>by simp at hx) p hp;simp only[EY]at g2;exact⟨by simp only; omega,g1,h0,h1⟩
theorem tC {fu:Nat} (hfu:2097200≤fu) {n:Nq} (hn:NetF n) (s t:Int) (h0:0≤s) (h1:s<(n.Nx.length:Int)):eE fu n s t=some (if (rts n s t).length≤200 then (rts n s t,true) else ([],false)):=by
 have hm:=hn.hi;have hlo:=hn.lo;have hB:=sW hn h0 h1 t;unfold eE;rw[ext_eq hn t n.Nx.length (by omega) [] ⟨s,[]⟩ [s] (by simp; omega) (by omega) (by simp) (by simpa using ⟨h0,h1⟩) (by simp) (λx hx=>by simp at hx) h0 h1 (by simp) (by simp),Dw];show (if decide (((rts n s t).length:Int) > 200)=true then _ else (app ([]:List Nv) (rts n s t)).bind _)=_
 by_cases h:(rts n s t).length≤200;rw[if_neg (by simp; omega),bY (by omega),if_pos h]; rfl;rw[if_pos (by simp; omega),if_neg h]
def dB (n:Nq) (s t:Int):Bool:=eA n&&(decide (0≤s∧s<(n.Nx.length:Int))&&(decide (0≤t∧t<(n.Nx.length:Int))&&s != t))
theorem rK {fu:Nat} (hfu:2097153≤fu) (n:Nq) (s t:Int) (hB:NetB n):dU fu n s t=some (dB n s t):=by
 have hm:=hB.1.1;unfold dU dB;rw[iP hfu n hB,Dw];cases hn:eA n
 rfl;have e:∀x:Int,(decide (0≤x)&&decide (x≤w64 ((n.Nx.length:Int) - 1)))=decide (0≤x∧x<(n.Nx.length:Int)):=λx=>by
   rw[vt (n:=(n.Nx.length:Int) - 1) (by omega) (by omega),Ej]
   simp only[DC,decide_eq_true_eq]
   omega
 simp only[fc,e,Dw,if_true];cases decide (0≤s∧s<(n.Nx.length:Int)) <;> cases decide (0≤t∧t<(n.Nx.length:Int)) <;> rfl
theorem ic {fu:Nat} (hfu:2097200≤fu) (n:Nq) (s t:Int) (hB:NetB n):zY fu n s t=some (if dB n s t=true∧(rts n s t).length≤200 then (rts n s t,true) else ([],false)):=by
 unfold zY;rw[rK (by omega) n s t hB,Dw];cases hp:dB n s t
 rfl;have hp':=hp;unfold dB at hp';simp only[DC,decide_eq_true_eq]at hp';rw[if_neg (by decide),tC hfu (netF hp'.1) s t hp'.2.1.1 hp'.2.1.2,Dw];by_cases h:(rts n s t).length≤200;rw[if_pos h,if_pos ⟨rfl,h⟩];rw[if_neg h,if_neg λc=>h c.2]
end AT
namespace AT
variable {s i n:Nat}
theorem wL (hs:s<256) (hi:i<8):band ((s / 2 ^ i:Nat):Int) 1=if s.testBit i=true then 1 else 0:=by
 have:∀s:Fin 256,∀i:Fin 8,band ((s.1 / 2 ^ i.1:Nat):Int) 1=if s.1.testBit i.1=true then 1 else 0:=by decide +kernel
 exact this ⟨s,hs⟩ ⟨i,hi⟩
theorem AA (hs:s<256) (hi:i<8) (h:s.testBit i=false):bor (s:Int) ((2 ^ i:Nat):Int)=((s + 2 ^ i:Nat):Int):=by
 have:∀s:Fin 256,∀i:Fin 8,s.1.testBit i.1=false→bor (s.1:Int) ((2 ^ i.1:Nat):Int)=((s.1 + 2 ^ i.1:Nat):Int):=by decide +kernel
 exact this ⟨s,hs⟩ ⟨i,hi⟩ h
theorem AB {j:Nat} (hs:s<256) (hi:i<8) (hj:j<8) (h:s.testBit i=false):(s + 2 ^ i).testBit j=(s.testBit j||decide (i=j)):=by
 have:∀s:Fin 256,∀i:Fin 8,∀j:Fin 8,s.1.testBit i.1=false→(s.1 + 2 ^ i.1).testBit j.1=(s.1.testBit j.1||decide (i.1=j.1)):=by decide +kernel
 exact this ⟨s,hs⟩ ⟨i,hi⟩ ⟨j,hj⟩ h
theorem wj (hn:n≤8):1≤2 ^ n∧2 ^ n≤256:=by
 have:∀n:Fin 9,1≤2 ^ n.1∧2 ^ n.1≤256:=by decide +kernel
 exact this ⟨n,by omega⟩
theorem BQ (hn:n≤8) (hs:s<2 ^ n) (hi:i<n) (h:s.testBit i=false):s + 2 ^ i<2 ^ n:=by
 have:∀n:Fin 9,∀s:Fin 256,∀i:Fin 8,s.1<2 ^ n.1→i.1<n.1→s.1.testBit i.1=false→s.1 + 2 ^ i.1<2 ^ n.1:=by decide +kernel
 have h2:=(wj hn).2;exact this ⟨n,by omega⟩ ⟨s,by omega⟩ ⟨i,by omega⟩ hs hi h
theorem wi (h:n≤8):shl 1 (n:Int)=some ((2 ^ n:Nat):Int):=by
 have:∀n:Fin 9,shl 1 ((n:Nat):Int)=some ((2 ^ (n:Nat):Nat):Int):=by decide +kernel
 exact this ⟨n,by omega⟩
theorem Az (s i:Nat) (hi:i≤64):shr (s:Int) (i:Int)=some ((s / 2 ^ i:Nat):Int):=by
 unfold shr;rw[if_neg (by omega),EZ,ER hi,Int.fdiv_eq_ediv_of_nonneg _ (Int.pow_nonneg (by omega))];congr 1
end AT
namespace AT
theorem kj {α β:Type} {f:α→List β} {b:Nat}:∀(l:List α),(∀a∈l,(f a).length≤b)→(l.flatMap f).length≤l.length * b
  | [],_=>by simp
  | a::l,h=>by
    rw[Ef,DR,Ep,Fq]
    have h1:=h a Ei
    have h2:=kj l λx hx=>h x (D7 _ hx)
    omega
theorem nU {F:List Nt} (hF:F.length≤14) (to:Int):∀(k:Nat) (seen:List Int) (v:Int) (fs:List Int),(pth F to k seen v fs).length≤14 ^ k
  | 0,_,_,_=>by simp [pth]
  | k + 1,seen,v,fs=>by
    by_cases hv:v=to
    · rw[pth,if_pos hv]
      exact Nat.one_le_pow _ _ (by omega)
    · rw[oS hv,Nat.pow_succ,Gu]
      refine EJ (kj (b:=14 ^ k) _ λi _=>?_) ?_
      · split
        · exact nU hF to k _ _ _
        · exact Fu _
      · rw[EH]
        exact D5 _ hF
theorem Bf {fu:Nat} (l:List Int) (h:l.length≤2097152):yL fu l=some l:=by
 have hc:app ([]:List Int) l=some l:=by unfold app; rw[if_pos (by simp; omega)]; rfl
 unfold yL;rw[hc];unfold iU;cases l <;> simp
def pthB (F:List Nt) (to:Int) (k:Nat) (seen:List Int) (v:Int) (fs:List Int) (i:Nat):List (List Int):=if 0≤oth (gd F i f0) v∧(seen.any λx=>x==oth (gd F i f0) v)=false then pth F to k (seen++[oth (gd F i f0) v]) (oth (gd F i f0) v) (fs++[(i:Int)]) else []
variable {F:List Nt} {n:Nq} {fu:Nat} {a b:Nv}
theorem ti (hF:F.length≤14) {to:Int} {k:Nat} {seen:List Int} {v:Int} {fs:List Int} (i:Nat):(pthB F to k seen v fs i).length≤14 ^ k:=by
 unfold pthB;split
 exact nU hF _ _ _ _ _;exact Fu _
theorem rq (hn:NetF n) {i:Nat} (hi:i<n.Nw.length) {v:Int} (h:0≤oth (gd n.Nw i f0) v):oth (gd n.Nw i f0) v<(n.Nx.length:Int):=by
 have hev:=hn.each _ (bT f0 hi);have hom:=nX h;omega
theorem rm (hn:NetF n) (to from_ v:Int) (s:Nat) (fs seen:List Int) (k:Nat) (rec_:Int→Int→List Int→Int→List Nv→Int→Nq→Option (List Nv)) (hs:s<256) (hb:∀j:Nat,j<n.Nx.length→s.testBit j=seen.any λx=>x==(j:Int)) (hfs:fs.length≤1000)
    (hrec:∀(i:Nat) (acc:List Nv),i<n.Nw.length→0≤oth (gd n.Nw i f0) v→(seen.any λx=>x==oth (gd n.Nw i f0) v)=false→acc.length + 14 ^ k≤1099511627776 →
      rec_ (oth (gd n.Nw i f0) v) ((s + 2 ^ (oth (gd n.Nw i f0) v).toNat:Nat):Int) (fs++[(i:Int)]) to acc from_ n=some (acc++(pth n.Nw to k (seen++[oth (gd n.Nw i f0) v]) (oth (gd n.Nw i f0) v) (fs++[(i:Int)])).map λp=>(⟨from_,p⟩:Nv))) :
    ∀(fk i:Nat) (acc:List Nv),i≤n.Nw.length→n.Nw.length - i<fk→acc.length + (n.Nw.length - i) * 14 ^ k≤1099511627776 →
      ∃z,vm fu v (s:Int) fs to from_ n rec_ fk i acc=some (z,acc++(((List.range n.Nw.length).drop i).flatMap (pthB n.Nw to k seen v fs)).map λp=>(⟨from_,p⟩:Nv)):=by
 have hff:=hn.fib;have hnn:=hn.hi;intro fk;induction fk with
 | zero=>intro i _ _ h; omega
 | succ fk ih =>
   intro i acc hi hk hl
   rw[vm]
   by_cases h:i<n.Nw.length
   · have hdr:(List.range n.Nw.length).drop i=i::(List.range n.Nw.length).drop (i + 1):=by
       rw[←DG (by rw[EH]; exact h),Ew]
     have hsub:(n.Nw.length - i) * 14 ^ k=14 ^ k + (n.Nw.length - (i + 1)) * 14 ^ k:=by
       rw[show n.Nw.length - i=(n.Nw.length - (i + 1)) + 1 by omega,Fq,GH]
     have hbl:=ti (F:=n.Nw) hff (to:=to) (k:=k) (seen:=seen) (v:=v) (fs:=fs) i
     rw[if_pos (by simpa using h),x5 f0 h,Dw,jX,Dw,hdr,Ef,Hn,←DD,vr h (by omega)]
     by_cases h0:0≤oth (gd n.Nw i f0) v
     · have hlt:=rq hn h h0
       obtain⟨y,hy⟩:∃y:Nat,oth (gd n.Nw i f0) v=(y:Int):=⟨(oth (gd n.Nw i f0) v).toNat,by omega⟩
       have hrec':=hrec i
       have hpB:pthB n.Nw to k seen v fs i=if (seen.any λx=>x==(y:Int))=false then pth n.Nw to k (seen++[(y:Int)]) (y:Int) (fs++[(i:Int)]) else []:=by
         unfold pthB
         rw[hy]
         by_cases hs2:(seen.any λx=>x==(y:Int))=false
         · rw[if_pos ⟨Gz y,hs2⟩,if_pos hs2]
         · rw[if_neg (λh=>hs2 h.2),if_neg hs2]
       rw[hy]at hlt hrec' h0 ⊢
       have hy8:y<8:=by omega
       have hbit:=hb y (by omega)
       rw[if_pos (by simp),Az s y (by omega),Dw,wL hs hy8,Dw,wi (by omega),Dw]
       by_cases ht:s.testBit y=true
       · have hsn:(seen.any λx=>x==(y:Int))=true:=by rw[←hbit]; exact ht
         rw[if_pos ht,if_neg (by decide)]
         rw[hpB,if_neg (by rw[hsn]; decide),GG,D1]
         exact ih (i + 1) acc h (by omega) (by omega)
       · have ht':s.testBit y=false:=by simpa using ht
         have hsn:(seen.any λx=>x==(y:Int))=false:=by rw[←hbit]; exact ht'
         rw[if_neg ht,if_pos (by decide),xH (by rw[DJ]; omega),Dw,AA hs hy8 ht']
         have h5:=hrec' acc h h0 hsn (by omega)
         rw[EZ]at h5
         rw[h5,Dw,hpB,if_pos hsn]
         refine ih (i + 1) _ h (by omega) ?_
         rw[hpB,if_pos hsn]at hbl
         rw[DR,Ev]
         omega
     · rw[if_neg (by simpa using h0),Dw,if_neg DV]
       have hpB:pthB n.Nw to k seen v fs i=[]:=by unfold pthB; rw[if_neg (λh=>h0 h.1)]
       rw[hpB,GG,D1]
       exact ih (i + 1) acc h (by omega) (by omega)
   · obtain rfl:i=n.Nw.length:=by omega
     rw[if_neg (by simp),En (by rw[EH]; exact D3 _),Ex,GG,D1]
     exact⟨_,rfl⟩
theorem tn (hn:NetF n) (to from_:Int):∀(k:Nat) {fu:Nat},2097153 + k≤fu→∀(acc:List Nv) (v:Int) (seen:List Int) (s:Nat) (fs:List Int),seen.length + k=n.Nx.length + 1→1≤k→seen.Nodup→(∀x∈seen,0≤x∧x<(n.Nx.length:Int))→fs.length + 1=seen.length→s<2 ^ n.Nx.length→(∀j:Nat,j<n.Nx.length→s.testBit j=seen.any λx=>x==(j:Int))→acc.length + 14 ^ k≤1099511627776 →
    vi fu v (s:Int) fs to acc from_ n=some (acc++(pth n.Nw to k seen v fs).map λp=>(⟨from_,p⟩:Nv)):=by
 have hm:=hn.hi;have hff:=hn.fib;intro k;induction k with
 | zero=>intro fu _ _ _ _ _ _ _ h; omega
 | succ k ih =>
   intro fu hfu acc v seen s fs hsl _ hnd hin hrf hsm hb hl
   obtain⟨fu',rfl⟩:∃f,fu=f + 1:=⟨fu - 1,by omega⟩
   have hs256:s<256:=by have:=(wj hm).2; omega
   have h14:1≤14 ^ (k + 1):=Nat.one_le_pow _ _ (by omega)
   rw[vi]
   unfold yN
   by_cases hv:v=to
   · rw[if_pos (by rw[beq_iff_eq]; exact hv),Bf fs (by omega),Dw,xH (by rw[DJ]; omega),pth,if_pos hv]
     rfl
   · rw[if_neg (by rw[beq_iff_eq]; exact hv),oS hv]
     have hsp:14 ^ (k + 1)=14 * 14 ^ k:=by rw[Nat.pow_succ,Gu]
     have hmul:n.Nw.length * 14 ^ k≤14 * 14 ^ k:=D5 _ hff
     obtain⟨z,hz⟩:=rm (fu:=fu') hn to from_ v s fs seen k (λat' seen fibers cap cap2 cap3 cap4=>vi fu' at' seen fibers cap cap2 cap3 cap4) hs256 hb (by omega)
       (λi acc' hi h0 hns hl'=>by
         have hlt:=rq hn hi h0
         obtain⟨y,hy⟩:∃y:Nat,oth (gd n.Nw i f0) v=(y:Int):=⟨(oth (gd n.Nw i f0) v).toNat,by omega⟩
         rw[hy]at hlt h0 hns ⊢
         have hyn:y<n.Nx.length:=by omega
         have hbit:s.testBit y=false:=by rw[hb y hyn]; exact hns
         have hnot:(y:Int)∉seen:=λhmem=>by
           rw[DX]at hns
           exact hns (DT.2 ⟨_,hmem,by simp⟩)
         have hnd':(seen++[(y:Int)]).Nodup:=DW.2 ⟨hnd,by simp,λa ha b hb=>by rw[DU]at hb; subst hb; exact λe=>hnot (e▸ha)⟩
         have hin':∀x∈seen++[(y:Int)],0≤x∧x<(n.Nx.length:Int):=λx hx=>by
           rcases Dx.1 hx with hx | hx
           · exact hin x hx
           · rw[DU]at hx; subst hx; omega
         have hsh:=ig _ _ hnd' hin'
         rw[DR,DJ]at hsh
         rw[EZ]
         refine ih (by omega) acc' (y:Int) (seen++[(y:Int)]) (s + 2 ^ y) (fs++[(i:Int)]) (by rw[DR,DJ]; omega) (by omega) hnd' hin' (by simp only[DR,DJ]; omega) (BQ hm hsm hyn hbit) (λj hj=>?_) hl'
         rw[AB hs256 (by omega) (by omega) hbit,hb j hj,List.any_append]
         congr 1
         by_cases e:y=j
         · subst e; simp
         · simp [e]; omega) fu' 0 acc (by omega) (by omega) (by rw[Fz]; omega)
     rw[show ((0:Nat):Int)=0 from rfl,D4]at hz
     rw[hz,Dw]
     rfl
theorem nj (hn:NetF n) (r:Nv) (hf:jz n r.Nw) (hl:r.Nw.length≤100):∀(fk i:Nat) (s:Int),i≤r.Nw.length→r.Nw.length - i<fk→0≤s→s≤5000 * (i:Int)→∃z,yF fu n r fk s i=some (s + lenR n.Nw (r.Nw.drop i),z):=by
 intro fk;induction fk with
 | zero=>intro i _ _ h; omega
 | succ fk ih =>
   intro i s hi hk h0 h1
   rw[yF]
   by_cases h:i<r.Nw.length
   · obtain⟨e1,e2⟩:=ou (hf _ (D6 h))
     have h2:=hn.each _ e2
     rw[if_pos (by simpa using h),vF h,Dw,e1,Dw,vr h (by omega),vt (by omega) (by omega),←DG h,lenR]
     obtain⟨z,hz⟩:=ih (i + 1) (s + (gd n.Nw r.Nw[i].toNat f0).Pk) h (by omega) (by omega) (by omega)
     exact⟨z,by rw[hz]; congr 2; omega⟩
   · obtain rfl:i=r.Nw.length:=by omega
     rw[if_neg (by simp),Ea,lenR,Int.add_zero]
     exact⟨_,rfl⟩
theorem lv (hfu:2097153≤fu) {n:Nq} (hn:NetF n) (r:Nv) (hf:jz n r.Nw) (hl:r.Nw.length≤100):bC fu n r=some (lenR n.Nw r.Nw):=by
 obtain⟨z,hz⟩:=nj (fu:=fu) hn r hf hl fu 0 0 (by omega) (by omega) (by omega) (by omega);rw[show ((0:Nat):Int)=0 from rfl,D4,Int.zero_add]at hz;unfold bC;rw[hz]; rfl
theorem qt (a b:List Int) (ha:a.length≤2097152):∀(fk i:Nat),i≤a.length→a.length - i<fk →
    ((vE fu a b fk i).bind λout=>out.on some λz=>if decide ((a.length:Int)<(b.length:Int)) then some (-1) else some 0)=some (cmpL (a.drop i) (b.drop i)):=by
 intro fk;induction fk with
 | zero=>intro i _ h; omega
 | succ fk ih =>
   intro i hi hk
   rw[vE]
   by_cases h:i<a.length
   · rw[if_pos (by simpa using h),vF h,Dw,←DG h]
     by_cases h2:i<b.length
     · rw[if_neg (by simpa using h2),vF h2,Dw,jd,Dw,←DG h2,cmpL]
       by_cases hc:a[i]=b[i]
       · rw[if_pos hc,hc,(zO _ _).2 rfl,if_neg (by decide),vr h (by omega)]
         exact ih (i + 1) h (by omega)
       · have hne:cmpI a[i] b[i]≠0:=λe=>hc ((zO _ _).1 e)
         rw[if_neg hc,if_pos (by rw[bne_iff_ne]; exact hne)]
         rfl
     · rw[if_pos (by simp; omega),En (show b.length≤i by omega)]
       rfl
   · obtain rfl:i=a.length:=by omega
     rw[if_neg (by simp),Ea]
     show (if decide ((a.length:Int)<(b.length:Int)) then some (-1) else some 0)=_
     by_cases h2:a.length<b.length
     · rw[if_pos (by simpa using h2),←DG h2]; rfl
     · rw[if_neg (by simpa using h2),En (by omega)]; rfl
theorem tV (hfu:2097153≤fu) (a b:List Int) (ha:a.length≤2097152):zt fu a b=some (cmpL a b):=by
 have:=qt (fu:=fu) a b ha fu 0 (by omega) (by omega);rw[show ((0:Nat):Int)=0 from rfl,D4,D4]at this;exact this
theorem i8 (hfu:2097153≤fu) {n:Nq} (hn:NetF n) {a b:Nv} (ha:RtB n a) (hb:RtB n b):vy fu a b n=some (cmpR n.Nw a b):=by
 have a1:=ha.short;have b1:=hb.short;unfold vy ba;rw[lv hfu hn a ha.fib (by omega),lv hfu hn b hb.fib (by omega)];simp only[Dw,jd,tV hfu a.Nw b.Nw (by omega),AX _ _ _ _ (show 4<fu by omega)];rfl
theorem dH (x y:Int):cmpI x y<0↔x<y:=by unfold cmpI; split <;> (try split) <;> omega
theorem ss (x y:Int):cmpI y x=- cmpI x y:=by unfold cmpI; split <;> (try split) <;> (try split) <;> omega
theorem iC:∀{a b:List Int},cmpL a b=0↔a=b
  | [],[]=>by simp [cmpL]
  | [],b::y=>by simp [cmpL]
  | a::x,[]=>by simp [cmpL]
  | a::x,b::y=>by
    unfold cmpL
    by_cases h:a=b
    · rw[if_pos h,iC,h]; simp
    · rw[if_neg h,zO]; simp [h]
theorem nz:∀(a b:List Int),cmpL b a=- cmpL a b
  | [],[]=>by simp [cmpL]
  | [],b::y=>by simp [cmpL]
  | a::x,[]=>by simp [cmpL]
  | a::x,b::y=>by
    unfold cmpL
    by_cases h:a=b
    · rw[if_pos h,if_pos h.symm]; exact nz x y
    · rw[if_neg h,if_neg (λe=>h e.symm)]; exact ss a b
theorem lC:∀{a b c:List Int},cmpL a b<0→cmpL b c<0→cmpL a c<0
  | [],b,[],h1,h2=>by
    cases b with
    | nil=>simp [cmpL]at h1
    | cons b y=>simp [cmpL]at h2
  | [],b,c::z,h1,h2=>by simp [cmpL]
  | a::x,[],c,h1,h2=>by simp [cmpL]at h1
  | a::x,b::y,[],h1,h2=>by simp [cmpL]at h2
  | a::x,b::y,c::z,h1,h2=>by
    unfold cmpL at h1 h2 ⊢
    by_cases e1:a=b
    · rw[if_pos e1]at h1
      by_cases e2:b=c
      · rw[if_pos e2]at h2
        rw[if_pos (e1.trans e2)]
        exact lC h1 h2
      · rw[if_neg e2,dH]at h2
        rw[if_neg (by omega),dH]
        omega
    · rw[if_neg e1,dH]at h1
      by_cases e2:b=c
      · rw[if_neg (by omega),dH]
        omega
      · rw[if_neg e2,dH]at h2
        rw[if_neg (by omega),dH]
        omega
theorem Ab {a b c d:Int}:or4 a b c d<0↔a<0∨(a=0∧(b<0∨(b=0∧(c<0∨(c=0∧d<0))))):=by
 unfold or4;by_cases h1:a=0;by_cases h2:b=0;by_cases h3:c=0;by_cases h4:d=0 <;> simp [h1,h2,h3,h4]
 simp [h1,h2,h3];simp [h1,h2];simp [h1]
theorem mA:cmpR F a b<0↔lenR F a.Nw<lenR F b.Nw∨(lenR F a.Nw=lenR F b.Nw∧(a.Nw.length<b.Nw.length∨(a.Nw.length=b.Nw.length∧(cmpL a.Nw b.Nw<0∨(a.Nw=b.Nw∧a.Pq<b.Pq))))):=by
 unfold cmpR;rw[Ab,dH,zO,dH,zO,iC,dH,Int.ofNat_lt,Int.natCast_inj]
theorem pw (F:List Nt) (a:Nv):¬cmpR F a a<0:=by
 rw[mA];have:=(iC (a:=a.Nw) (b:=a.Nw)).2 rfl;omega
theorem jg {c:Nv} (h1:cmpR F a b<0) (h2:cmpR F b c<0):cmpR F a c<0:=by
  rw[mA]at *;have t:=@lC a.Nw b.Nw c.Nw;rcases h1 with h1 | ⟨e1,h1 | ⟨e2,h1 | ⟨e3,h1⟩⟩⟩ <;> rcases h2 with h2 | ⟨g1,h2 | ⟨g2,h2 | ⟨g3,h2⟩⟩⟩ <;> (try rw[e3]at *) <;> (try rw[←g3]at *) <;> (first | (left; omega) | (right; refine⟨by omega,?_⟩; first | (left; omega) | (right; refine⟨by omega,?_⟩; first | (left; first | assumption | exact t h1 h2) | (right; exact⟨rfl,by omega⟩))))
theorem pv (h1:¬cmpR F a b<0) (h2:¬cmpR F b a<0):a=b:=by
 rw[mA]at h1 h2;have h3:=nz a.Nw b.Nw;have e:a.Nw=b.Nw:=by
   rw[←iC]
   omega
 obtain⟨sa,fa⟩:=a;obtain⟨sb,fb⟩:=b;simp only at e;subst e;have h1':¬sa<sb:=λh=>h1 (.inr ⟨rfl,.inr ⟨rfl,.inr ⟨rfl,h⟩⟩⟩);have h2':¬sb<sa:=λh=>h2 (.inr ⟨rfl,.inr ⟨rfl,.inr ⟨rfl,h⟩⟩⟩);have:sa=sb:=by omega
 rw[this]
def RtS (F:List Nt) (l:List Nv):Prop:=l.Pairwise λa b=>¬cmpR F b a<0
theorem ng (F:List Nt) (l:List Nv) (r:Nv):∀i,(∀q,insN F l r i≤q→q<i→cmpR F r (gd l q rt0)<0)∧(insN F l r i=0∨¬cmpR F r (gd l (insN F l r i - 1) rt0)<0)
  | 0=>⟨λq h1 h2=>by omega,.inl rfl⟩
  | i + 1=>by
    unfold insN
    by_cases h:cmpR F r (gd l i rt0)<0
    · rw[if_pos h]
      obtain⟨h1,h2⟩:=ng F l r i
      refine⟨λq h3 h4=>?_,h2⟩
      by_cases e:q=i
      · rw[e]; exact h
      · exact h1 q h3 (by omega)
    · rw[if_neg h]
      exact⟨λq h3 h4=>by omega,.inr (by simpa using h)⟩
theorem tW {c:Nv} (h1:¬cmpR F b a<0) (h2:¬cmpR F c b<0):¬cmpR F c a<0:=by
 intro h;by_cases h3:cmpR F a b<0;exact h2 (jg h h3);have:=pv h3 h1;subst this;exact h2 h
theorem oe {l:List Nv} (r:Nv) (h:RtS F l):RtS F (insR F l r):=by
 have hle:=mh F l r l.length;obtain⟨h1,h2⟩:=ng F l r l.length;unfold insR;generalize insN F l r l.length=j at hle h1 h2;have hs:RtS F (l.take j++l.drop j):=by rw[Fp]; exact h
 obtain⟨s1,s2,s3⟩:=FI.1 hs;refine FI.2 ⟨s1,ET.2 ⟨λx hx=>?_,s2⟩,λa ha b hb=>?_⟩;obtain⟨q,hq,rfl⟩:=Ee.1 hx;rw[Er]at hq;have:=h1 (j + q) (by omega) (by omega);rw[zf rt0 (by omega)]at this;rw[GF];exact λh=>pw F r (jg this h);have har:¬cmpR F r a<0:=by
   rcases h2 with h2 | h2
   · subst h2; simp at ha
   · obtain⟨q,hq,rfl⟩:=Ee.1 ha
     rw[DO]at hq
     rw[EN]
     rw[zf rt0 (by omega)]at h2
     by_cases e:q=j - 1
     · subst e; exact h2
     · exact tW (EG.1 h q (j - 1) (by omega) (by omega) (by omega)) h2
 rcases DZ.1 hb with rfl | hb
 exact har;exact s3 a ha b hb
theorem jV (F:List Nt) (s:Int):∀(ps:List (List Int)) (l:List Nv),l.length + ps.length≤201→RtS F l→RtS F (aP F s l ps)∧(aP F s l ps).Perm (l++ps.map λp=>(⟨s,p⟩:Nv))
  | [],l,_,h=>⟨h,by simp [aP]⟩
  | p::ps,l,hl,h=>by
    rw[Ep]at hl
    have e:aP F s l (p::ps)=aP F s (insR F l ⟨s,p⟩) ps:=by
      show aP F s (if l.length≤200 then insR F l ⟨s,p⟩ else l) ps=_
      rw[if_pos (by omega)]
    rw[e]
    obtain⟨h1,h2⟩:=jV F s ps (insR F l ⟨s,p⟩) (by rw[jF]; omega) (oe _ h)
    refine⟨h1,h2.trans ?_⟩
    rw[FC]
    exact ((j9 F l ⟨s,p⟩).append_right _).trans Gt.symm
theorem iS (F:List Nt) (s:Int):∀(ps:List (List Int)) (l:List Nv),l.length≤201→(aP F s l ps).length=min (l.length + ps.length) 201
  | [],l,h=>by show l.length=_; rw[EY]; omega
  | p::ps,l,h=>by
    show (aP F s (if l.length≤200 then insR F l ⟨s,p⟩ else l) ps).length=_
    rw[Ep]
    split
    · rw[iS F s ps _ (by rw[jF]; omega),jF]; omega
    · rw[iS F s ps _ h]; omega
theorem pM {α:Type} [DecidableEq α] {cmp:α→α→Option Int} {l:List α} (hF:SoF cmp l):∃r,jR cmp l=some r:=by
 unfold jR;rw[if_pos (soF.2 hF)];exact⟨_,rfl⟩
theorem oX {α:Type} {cmp:α→α→Option Int} {a b:α} {c:Int} (h:cmp a b=some c):ltO cmp a b=decide (c<0):=by
 unfold ltO;rw[h]
theorem soR (hfu:2097153≤fu) {n:Nq} (hn:NetF n) {l:List Nv} (hl:∀a∈l,RtB n a) (hlen:l.length≤1099511627776):SoF (λa b=>vy fu a b n) l:=by
 have e:∀a∈l,∀b∈l,ltO (λa b=>vy fu a b n) a b=decide (cmpR n.Nw a b<0):=λa ha b hb=>oX (i8 hfu hn (hl a ha) (hl b hb));refine⟨λa ha=>?_,λa ha b hb h1 h2=>?_,λa ha b hb c hc h1 h2=>?_,λa ha b hb=>?_,by omega⟩;rw[e a ha a ha]; exact decide_eq_false (pw _ _);rw[e a ha b hb,decide_eq_false_iff_not]at h1;rw[e b hb a ha,decide_eq_false_iff_not]at h2;exact pv h1 h2;rw[e a ha b hb,decide_eq_true_eq]at h1;rw[e b hb c hc,decide_eq_true_eq]at h2;rw[e a ha c hc,decide_eq_true_eq];exact jg h1 h2;rw[i8 hfu hn (hl a ha) (hl b hb)]; rfl
theorem BP (hfu:2097153≤fu) {n:Nq} (hn:NetF n) {s:Int} {ps:List (List Int)} (hl:∀p∈ps,RtB n ⟨s,p⟩) (hlen:ps.length≤1099511627776):∃r,jR (λa b=>vy fu a b n) (ps.map λp=>(⟨s,p⟩:Nv))=some r∧r.length=ps.length∧(ps.length≤200→r=aP n.Nw s [] ps):=by
 have hm:∀a∈ps.map (λp=>(⟨s,p⟩:Nv)),RtB n a:=λa ha=>by
   obtain⟨p,hp,rfl⟩:=Eh.1 ha
   exact hl p hp
 have hF:=soR hfu hn hm (by rw[Ev]; exact hlen);obtain⟨r,hr⟩:=pM hF;refine⟨r,hr,?_,λh=>?_⟩;have:=(lS hr).2.1.length_eq;rwa [Ev]at this;obtain⟨h1,h2⟩:=jV n.Nw s ps [] (by rw[EY]; omega) .nil;rw[Ek]at h2;have h3:=oL hF h2 (h1.imp_of_mem λha hb h=>by
   rw[oX (cmp:=λa b=>vy fu a b n) (i8 hfu hn (hm _ (h2.mem_iff.1 hb)) (hm _ (h2.mem_iff.1 ha)))]
   exact decide_eq_false h)
 rw[hr]at h3;exact Dz h3
theorem rQ (n:Nq) (h1:2≤n.Nx.length) (h2:n.Nx.length≤8) (l:List Int) (hl:l.length≤100) (hfu:2097153≤fu):u9 fu l n=some (l.any λv=>!(decide (0≤v)&&decide (v≤(n.Nx.length:Int) - 1))):=by
 unfold u9 vJ;rw[xT (l:=l) (G:=uD fu l n) (λv=>!(decide (0≤v)&&decide (v≤(n.Nx.length:Int) - 1))) (λi=>(i:Int)) (by omega)
   (λfk i hi=>by
     rw[uD,if_pos (by simpa using hi),vF hi]
     simp only[Dw,db,bG]
     rw[vt (n:=(n.Nx.length:Int) - 1) (by omega) (by omega)])
   (λfk=>by rw[uD,if_neg (by simp)]) fu (by omega)]
 cases h:l.any (λv=>!(decide (0≤v)&&decide (v≤(n.Nx.length:Int) - 1)));rfl;rw[if_pos rfl];show some (decide (((l.findIdx _:Nat):Int)≥0))=some true;rw[decide_eq_true (Gz _)]
theorem rR (hfu:2097153≤fu) (n:Nq) (s t:Int) (hB:NetB n):((d8 fu n [s,t]).bind λy=>if (!y)=true then some true else some (s==t))=some (!dB n s t):=by
 unfold d8 dB;rw[lu hfu n hB];simp only[Dw];cases hn:eA n
 rfl;have hF:=netF hn;rw[if_pos rfl,rQ n hF.lo hF.hi [s,t] (by simp) hfu];simp only[Dw,Gg,Hx,Hu,EV,Bool.not_or,Bool.not_not];by_cases h1:0≤s∧s<(n.Nx.length:Int);have e1:(decide (0≤s)&&decide (s≤(n.Nx.length:Int) - 1))=true:=by simp; omega
 by_cases h2:0≤t∧t<(n.Nx.length:Int);have e2:(decide (0≤t)&&decide (t≤(n.Nx.length:Int) - 1))=true:=by simp; omega
 rw[e1,e2,decide_eq_true h1,decide_eq_true h2];simp [bne];have e2:(decide (0≤t)&&decide (t≤(n.Nx.length:Int) - 1))=false:=by
   rw[DX]
   intro h
   simp only[DC,decide_eq_true_eq]at h
   omega
 rw[e1,e2,decide_eq_true h1,decide_eq_false h2];rfl;have e1:(decide (0≤s)&&decide (s≤(n.Nx.length:Int) - 1))=false:=by
   rw[DX]
   intro h
   simp only[DC,decide_eq_true_eq]at h
   omega
 rw[e1,decide_eq_false h1];rfl
theorem mm (hfu:2097200≤fu) (n:Nq) (s t:Int) (hB:NetB n):bS fu n s t=some (if dB n s t=true∧(rts n s t).length≤200 then (rts n s t,true) else ([],false)):=by
 unfold bS;have h:=rR (show 2097153≤fu by omega) n s t hB;rw[h,Dw];cases hp:dB n s t
 rw[if_pos (by rfl),if_neg (λh=>by simp at h)];have hp':=hp;unfold dB at hp';simp only[DC,decide_eq_true_eq,bne_iff_ne]at hp';obtain⟨hn,⟨s0,s1⟩,ht,hne⟩:=hp';have hF:=netF hn;have hm:=hF.hi;have hlo:=hF.lo;obtain⟨sn,hsn⟩:∃k:Nat,s=(k:Int):=⟨s.toNat,by omega⟩;have hps:vi fu s ((2 ^ sn:Nat):Int) [] t [] s n=some ((pth n.Nw t n.Nx.length [s] s []).map λp=>(⟨s,p⟩:Nv)):=by
   have:=tn hF t s n.Nx.length (fu:=fu) (by omega) [] s [s] (2 ^ sn) [] (by simp; omega) (by omega) (by simp) (λx hx=>by rw[DU]at hx; subst hx; exact⟨s0,s1⟩) rfl (Nat.pow_lt_pow_right (by omega) (by omega)) (λj hj=>by
     rw[Nat.testBit_two_pow,Gg,Hx,Hu,hsn]
     by_cases e:sn=j
     · subst e; simp
     · simp [e]; omega) (by
     have:(14:Nat) ^ n.Nx.length≤14 ^ 8:=Gn (by omega) hm
     have e8:(14:Nat) ^ 8=1475789056:=by decide
     rw[EY]; omega)
   rwa [Ek]at this
 have hpl:=nU hF.fib t n.Nx.length [s] s [];have h148:(14:Nat) ^ n.Nx.length≤14 ^ 8:=Gn (by omega) hm;have e8:(14:Nat) ^ 8=1475789056:=by decide
 have hpB:∀p∈pth n.Nw t n.Nx.length [s] s [],RtB n ⟨s,p⟩:=λp hp=>by
   obtain⟨g1,g2⟩:=tg (n:=n) (to:=t) n.Nx.length (seen:=[s]) (v:=s) (fs:=[]) (λx hx=>by simp at hx) p hp
   exact⟨by simp only; simp only[EY]at g2; omega,g1,s0,s1⟩
 obtain⟨r,hr,hrl,hr2⟩:=BP (fu:=fu) (by omega) hF hpB (by omega);have hlen:(rts n s t).length=min (pth n.Nw t n.Nx.length [s] s []).length 201:=by
   unfold rts
   rw[iS _ _ _ _ (by simp),EY,Ey]
 rw[if_neg (by simp)];unfold a7 uN;rw[if_pos (by rw[bne_iff_ne]; exact hne)];have hsh:shl 1 s=some ((2 ^ sn:Nat):Int):=by rw[hsn]; exact wi (by omega)
 rw[hsh,Dw,hps,Dw,hr];simp only[Dw];by_cases h200:(pth n.Nw t n.Nx.length [s] s []).length≤200;rw[if_neg (by simp; omega),if_pos ⟨trivial,by omega⟩,hr2 h200];rfl;rw[if_pos (by simp; omega),if_neg (λh=>by omega)]
end AT
namespace AT
variable {fu:Nat} {L:List Nh}
theorem nc (hfu:2097153≤fu) (r:Nj) (x:Nh) {n:Nq} (hL:r.Nz.Nk.length≤2097152) (hp:∀y∈r.Nz.Nk,LightF n y) (hx:LightF n x) (hD:r.Np.length≤2097152):cR fu r x=some (!meets x.Nv.Nw r.Np&&ea r.Nz.Nk x):=by
 have hxr:=hx.short;obtain⟨c,hc,hd⟩:=f5 (fu:=fu) x.Nv.Nw r.Np (by omega) hx.nodup hD hfu;unfold cR uQ uW;rw[hc,Dw];have e:((c.length:Int)==0)=!meets x.Nv.Nw r.Np:=by
   rw[←hd,Ej,beq_iff_eq,D9,decide_eq_false_iff_not]
   omega
 rw[e];cases meets x.Nv.Nw r.Np
 rw[if_pos (by decide),xT (l:=r.Nz.Nk) (G:=uu fu r.Nz.Nk x) (λown=>own.Id != x.Id&&coll own x) (λi=>(i:Int)) (by omega)
   (λfk i hi=>by
     have h':(i:Int)<(r.Nz.Nk.length:Int):=by omega
     rw[uu]
     simp only[h',decide_true,if_true,vF hi,Dw,da,lA hfu (hp _ (D6 hi)) hx]
     cases r.Nz.Nk[i].Id != x.Id <;> simp)
   (λfk=>by rw[uu,if_neg (by simp)]) fu (by omega)]
 unfold ea;cases r.Nz.Nk.any λown=>own.Id != x.Id&&coll own x <;> simp [Out.on]
 rfl
theorem same_eq (hfu:2097153≤fu) (x y:Nh) (hx:x.Nv.Nw.length≤2097152) (hid:x.Id=y.Id):(if (x.Nv.Pq==y.Nv.Pq)=true then (xY fu x.Nv.Nw y.Nv.Nw).bind λy4=>if y4=true then some (([x.Nd.Pj,x.Nd.Px]:List Int)==([y.Nd.Pj,y.Nd.Px]:List Int)) else some false else some false)=some (decide (x=y)):=by
 rw[sj hfu _ _ hx];have e:=j4 x y;by_cases h2:x.Nv.Pq=y.Nv.Pq <;> by_cases h3:x.Nv.Nw=y.Nv.Nw <;> by_cases h4:x.Nd.Pj=y.Nd.Pj <;> by_cases h5:x.Nd.Px=y.Nd.Px <;> simp [hid,h2,h3,h4,h5,e]
theorem sR (hfu:2097153≤fu) (x y:Nh) (hx:x.Nv.Nw.length≤2097152):zc fu x y=some (decide (x=y)):=by
 unfold zc eV;rw[rP hfu _ _ hx];have e:=j4 x y;by_cases h1:x.Id=y.Id <;> by_cases h2:x.Nv.Pq=y.Nv.Pq <;> by_cases h3:x.Nv.Nw=y.Nv.Nw <;> by_cases h4:x.Nd.Pj=y.Nd.Pj <;> by_cases h5:x.Nd.Px=y.Nd.Px <;> simp [h1,h2,h3,h4,h5,e]
theorem r9 {i:Nat} (h:i<L.length):(idsL L).drop i=(gd L i l0).Id::(idsL L).drop (i + 1):=by
 rw[←DG (as:=idsL L) (h:=by rw[fo]; exact h)];congr 1;rw[oh h,zf 0]
theorem lw (L:List Nh):(idsL L).drop L.length=[]:=by rw[←fo,Ea]
theorem ni (hfu:2097153≤fu) (r:Nj) (hB:RestB r) (hh:xv ⟨r.Nz.Nq,r.Ng⟩=true) (hs:∀id,hasL r.Nz.Nk id=true→hasL r.Ng id=true) (h12:r.Nz.Nk.length≤12):∀(fk i:Nat) (s:List Nh×List Int),RvI r.Nz.Nq r.Np r.Ng r.Nz.Nk s→i≤r.Nz.Nk.length→r.Nz.Nk.length - i<fk→s.2.length≤i →
    ∃z,xd fu r fk s.2 i s.1=some ((rev r.Np r.Ng ((idsL r.Nz.Nk).drop i) s).2,z,(rev r.Np r.Ng ((idsL r.Nz.Nk).drop i) s).1):=by
 intro fk;induction fk with
 | zero=>intro i _ _ _ h; omega
 | succ fk ih =>
   intro i s hI hi hk hsl
   rw[xd]
   by_cases h:i<r.Nz.Nk.length
   · have hlen:=hI.len
     have h':(i:Int)<(r.Nz.Nk.length:Int):=by omega
     have hF:=bF hI.ok
     obtain⟨x,ex⟩:∃x,x=gd s.1 i l0:=⟨_,rfl⟩
     have hxm:x∈s.1:=by rw[ex]; exact bT l0 (by omega)
     have hx:=hF.light x hxm
     have hxr:=hx.short
     have hid0:x.Id=(gd r.Nz.Nk i l0).Id:=by rw[ex]; exact hI.id h
     have hL0:hasL r.Nz.Nk x.Id=true:=DT.2 ⟨_,bT l0 h,by rw[hid0]; simp⟩
     have hLs:hasL s.1 x.Id=true:=DT.2 ⟨x,hxm,by simp⟩
     have hH:=hs _ hL0
     have hat:atId s.1 x.Id=i:=by rw[ex]; exact mC (L:=s.1) (λa b=>(nV hI.ok).ids a b) (by omega)
     have hy:=rY hh hH
     have hyr:=hy.short
     have hyi:=iz hH
     have e2:idx r.Ng ((atId r.Ng x.Id:Nat):Int)=some (xg r.Ng x.Id):=x5 l0 (fq hH)
     have ei:idx s.1 (i:Int)=some x:=by rw[ex]; exact x5 l0 (by omega)
     have hho:=kg (fu:=fu) (⟨⟨r.Nz.Nq,s.1⟩,r.Ng,r.Np⟩:Nj) x.Id (by have:=hB.2.1.1; simp only; omega) hB.2.1.1
     have hop:=nc hfu (⟨⟨r.Nz.Nq,s.1⟩,r.Ng,r.Np⟩:Nj) (xg r.Ng x.Id) (n:=r.Nz.Nq) (show s.1.length≤2097152 by omega) hF.light hy hB.2.2
     rw[r9 h,←hid0]
     simp only[h',decide_true,if_true,ei,Dw,hho,hH,e2,same_eq hfu x _ (by omega) hyi.symm,hop]
     have hrev:fN r.Np r.Ng s.1 x.Id=(!decide (x=xg r.Ng x.Id)&&(!meets (xg r.Ng x.Id).Nv.Nw r.Np&&ea s.1 (xg r.Ng x.Id))):=by
       unfold fN
       rw[hLs,hat,←ex,EV]
     have hc:(if (!decide (x=xg r.Ng x.Id))=true then some (!meets (xg r.Ng x.Id).Nv.Nw r.Np&&ea s.1 (xg r.Ng x.Id)) else some false)=some (fN r.Np r.Ng s.1 x.Id):=by
       rw[hrev]
       cases !decide (x=xg r.Ng x.Id) <;> rfl
     rw[hc,Dw,vr h (by omega)]
     have hstep:=hI.step (D:=r.Np) (λy hy=>(va.1 hh).2.2.1 y hy) (id:=x.Id) (λ_=>hH)
     show ∃z,_=some ((rev r.Np r.Ng ((idsL r.Nz.Nk).drop (i + 1)) (rev1 r.Np r.Ng s x.Id)).2,z,(rev r.Np r.Ng ((idsL r.Nz.Nk).drop (i + 1)) (rev1 r.Np r.Ng s x.Id)).1)
     cases hm:fN r.Np r.Ng s.1 x.Id
     · have e1:rev1 r.Np r.Ng s x.Id=s:=by unfold rev1; rw[hm]; rfl
       rw[if_neg DV,e1]
       exact ih (i + 1) s hI h (by omega) (by omega)
     · have e1:rev1 r.Np r.Ng s x.Id=(s.1.set i (xg r.Ng x.Id),s.2++[x.Id]):=by unfold rev1; rw[hm,if_pos rfl,hat]
       rw[e1]at hstep ⊢
       have hcp:(⟨x.Id,(xg r.Ng x.Id).Nv,(xg r.Ng x.Id).Nd⟩:Nh)=xg r.Ng x.Id:=by rw[j4]; exact⟨hyi.symm,rfl,rfl,rfl,rfl⟩
       rw[if_pos rfl,fY fu _ (by omega),Dw,xH (by simp; omega),Dw,EZ]
       simp only[hcp]
       exact ih (i + 1) _ hstep h (by omega) (by simp; omega)
   · obtain rfl:i=r.Nz.Nk.length:=by omega
     rw[if_neg (by simp),lw]
     exact⟨_,rfl⟩
theorem free_eq (hid:∀a b,a<b→b<L.length→(gd L a l0).Id<(gd L b l0).Id) {j:Nat} (hj:j<L.length) {x:Nh} (hx:x.Id=(gd L j l0).Id):((L.eraseIdx j).all λy=>!(meets y.Nv.Nw x.Nv.Nw&&!apart (bits y.Nd) (bits x.Nd)))=ea L x:=by
 unfold ea;rw[Ej,Eo,D9,DX];constructor;intro h hc;obtain⟨y,hy,hyc⟩:=DT.1 hc;rw[DC,bne_iff_ne]at hyc;have:=h y ((nq hj hid y).2 ⟨hy,by rw[←hx]; exact hyc.1⟩);rw[←gp,hyc.2]at this;cases this
 intro h y hy;obtain⟨h1,h2⟩:=(nq hj hid y).1 hy;rw[←gp,D9,DX];intro hc;refine h (DT.2 ⟨y,h1,?_⟩);rw[hc,G9,bne_iff_ne,hx];exact h2
theorem wY (hfu:2097153≤fu) (L:List Nh) (y:Nh) (D:List Int) (hL:∀x∈L,x.Nv.Nw.length≤2097152) (hy:y.Nv.Nw.length≤2097152) (hD:D.length≤2097152) {q:Int} (hq:q=if hasL L y.Id=true then ((atId L y.Id:Nat):Int) else -1) :
    (if decide (q<0)=true then some true else (idx L q).bind λe2=>(zc fu e2 y).bind λy3=>if y3=true then some true else (xQ fu y.Nv D).bind λy4=>some y4)=some (!hasL L y.Id||(decide (gd L (atId L y.Id) l0=y)||meets y.Nv.Nw D)):=by
 rw[gI hfu y.Nv D hy hD];cases hid:hasL L y.Id
 rw[hid]at hq;subst hq;rfl;have hj:=fq hid;have hq':q=((atId L y.Id:Nat):Int):=by rw[hq,hid]; rfl
 rw[hq',decide_eq_false (by omega),if_neg DV,x5 l0 hj,Dw,sR hfu _ y (hL _ (bT l0 hj)),Dw];cases decide (gd L (atId L y.Id) l0=y) <;> cases meets y.Nv.Nw D <;> rfl
theorem wX (hfu:2097153≤fu) {R:Type} (N:Nq) (L:List Nh) (y:Nh) (hp:xv ⟨N,L⟩=true) (hN:NetB N) (hy:LightF N y) (hid:hasL L y.Id=true) (ids:List Int) (hi:ids.length≤100) {q:Int} (hq:q=if hasL L y.Id=true then ((atId L y.Id:Nat):Int) else -1) (A:List Int→List ByteArray→List Nt→List Nh→Option R) (B:Option R) :
    ((yl fu (⟨⟨N.Nx,N.Nw⟩,L⟩:Nz) q).bind λy5=>(yo fu y5 y.Nv).bind λy6=>(xP fu y.Nd).bind λy7=>if (band y6 y7==0)=true then (zR fu y).bind λy8=>(za fu y5 y8).bind λy9=>(app ids [y.Id]).bind λl=>A l y9.Nq.Nx y9.Nq.Nw y9.Nk else B)=if ea L y=true then A (ids++[y.Id]) N.Nx N.Nw (L.set (atId L y.Id) y) else B:=by
 have hF:=bF hp;have h12:L.length≤12:=hF.short;have hyr:=hy.short;have hj:=fq hid;have hjd:=gY hid;have hidp:∀a b,a<b→b<L.length→(gd L a l0).Id<(gd L b l0).Id:=λa b=>(nV hp).ids a b;have hPB:ec ⟨N,L⟩:=⟨hN,by simp only; omega,λx hx=>by have:=(hF.light x hx).short; omega⟩;have hb:∀z∈L.eraseIdx (atId L y.Id),ya z.Nd=true:=λz hz=>(hF.light z (Hb hz)).blk;have hq':q=((atId L y.Id:Nat):Int):=by rw[hq,hid]; rfl
 have hwo:yl fu (⟨⟨N.Nx,N.Nw⟩,L⟩:Nz) q=some (⟨N,L.eraseIdx (atId L y.Id)⟩:Nz):=by rw[hq']; exact jn hfu ⟨N,L⟩ hPB hj
 have hEB:ec ⟨N,L.eraseIdx (atId L y.Id)⟩:=Be hPB (atId L y.Id);have hal:=dN hfu (⟨N,L.eraseIdx (atId L y.Id)⟩:Nz) y.Nv hEB.2.1 hb hEB.2.2 (by omega);have hap:(band (along (L.eraseIdx (atId L y.Id)) y.Nv.Nw) (bits y.Nd)==0)=ea L y:=by
   rw[←free_eq hidp hj hjd.symm]
   exact eb hb y.Nv.Nw (jh hy.blk)
 have hput:za fu (⟨N,L.eraseIdx (atId L y.Id)⟩:Nz) y=some (⟨N,L.set (atId L y.Id) y⟩:Nz):=by
   rw[jD hfu _ y hEB (by omega)]
   show some (⟨N,putL (L.eraseIdx (atId L y.Id)) y⟩:Nz)=_
   rw[re hidp hj hjd.symm]
 rw[hwo,Dw,hal,Dw,d6 hy.blk,Dw,hap];cases ea L y
 rfl;rw[if_pos rfl,if_pos rfl,eN fu y (by omega),Dw,hput,Dw,xH (by simp; omega),Dw]
theorem mL (hfu:2097153≤fu) (r:Nj) (hB:RestB r) (hh:xv ⟨r.Nz.Nq,r.Ng⟩=true) (hs:∀id,hasL r.Nz.Nk id=true→hasL r.Ng id=true):∀(fk i:Nat) (s:List Nh×List Int),RvI r.Nz.Nq r.Np r.Ng r.Nz.Nk s→i≤r.Ng.length→r.Ng.length - i<fk→s.2.length≤i →
    ∃z,vO fu r fk i s.2 r.Nz.Nq.Nx r.Nz.Nq.Nw s.1=some (z,(rev r.Np r.Ng ((idsL r.Ng).drop i) s).2,r.Nz.Nq.Nx,r.Nz.Nq.Nw,(rev r.Np r.Ng ((idsL r.Ng).drop i) s).1):=by
 have hHF:=bF hh;have hHI:=nV hh;have h12:r.Ng.length≤12:=hHF.short;intro fk;induction fk with
 | zero=>intro i _ _ _ h; omega
 | succ fk ih =>
   intro i s hI hi hk hsl
   rw[vO]
   by_cases h:i<r.Ng.length
   · have hF:=bF hI.ok
     have h12s:s.1.length≤12:=hF.short
     have h':(i:Int)<(r.Ng.length:Int):=by omega
     obtain⟨y,ey⟩:∃y,y=gd r.Ng i l0:=⟨_,rfl⟩
     have hym:y∈r.Ng:=by rw[ey]; exact bT l0 h
     have hy:LightF r.Nz.Nq y:=hHF.light y hym
     have hyr:=hy.short
     have hat:atId r.Ng y.Id=i:=by rw[ey]; exact mC (λa b=>hHI.ids a b) h
     have hhome:xg r.Ng y.Id=y:=by unfold xg; rw[hat,ey]
     have ei:idx r.Ng (i:Int)=some y:=by rw[ey]; exact x5 l0 h
     have hfind:zQ fu (⟨⟨r.Nz.Nq.Nx,r.Nz.Nq.Nw⟩,s.1⟩:Nz) y.Id=some (if hasL s.1 y.Id=true then ((atId s.1 y.Id:Nat):Int) else -1):=iu _ _ (show s.1.length<fu by omega) (show s.1.length≤2097152 by omega)
     obtain⟨q,hq⟩:∃q,q=if hasL s.1 y.Id=true then ((atId s.1 y.Id:Nat):Int) else -1:=⟨_,rfl⟩
     rw[←hq]at hfind
     have hwi:=vr h (show (r.Ng.length:Int)≤9223372036854775807 by omega)
     rw[r9 h,←ey]
     show ∃z,_=some (z,(rev r.Np r.Ng ((idsL r.Ng).drop (i + 1)) (rev1 r.Np r.Ng s y.Id)).2,_,_,(rev r.Np r.Ng ((idsL r.Ng).drop (i + 1)) (rev1 r.Np r.Ng s y.Id)).1)
     rw[if_pos (by simpa using h'),ei,Dw,hfind,Dw,wY hfu s.1 y r.Np (λx hx=>by have:=(hF.light x hx).short; omega) (by omega) hB.2.2 hq,Dw,hwi]
     clear hwi
     have e0:(fN r.Np r.Ng s.1 y.Id)=(hasL s.1 y.Id&&(!decide (gd s.1 (atId s.1 y.Id) l0=y)&&(!meets y.Nv.Nw r.Np&&ea s.1 y))):=by unfold fN; rw[hhome]
     have e1:rev1 r.Np r.Ng s y.Id=if fN r.Np r.Ng s.1 y.Id=true then (s.1.set (atId s.1 y.Id) y,s.2++[y.Id]) else s:=by unfold rev1; rw[hhome]
     have hw:=hI.step (D:=r.Np) (λz hz=>(va.1 hh).2.2.1 z hz) (id:=y.Id) (λq=>hs _ q)
     cases hL:hasL s.1 y.Id
     · rw[hL]at e0
       rw[e0]at e1
       rw[e1]
       exact ih (i + 1) s hI h (by omega) (by omega)
     · rw[hL]at e0
       cases h1:decide (gd s.1 (atId s.1 y.Id) l0=y)
       · cases h2:meets y.Nv.Nw r.Np
         · rw[h1,h2]at e0
           rw[if_neg (show ¬(!true||(false||false))=true by decide),wX hfu r.Nz.Nq s.1 y hI.ok hB.1.1 hy hL s.2 (by omega) hq (λl a b c=>vO fu r fk ((i + 1:Nat):Int) l a b c) (vO fu r fk ((i + 1:Nat):Int) s.2 r.Nz.Nq.Nx r.Nz.Nq.Nw s.1)]
           cases hf:ea s.1 y
           · rw[hf]at e0
             rw[e0]at e1
             rw[e1]
             exact ih (i + 1) s hI h (by omega) (by omega)
           · rw[hf]at e0
             rw[e0]at e1
             rw[e1]at hw ⊢
             exact ih (i + 1) _ hw h (by omega) (by simp; omega)
         · rw[h1,h2]at e0
           rw[e0]at e1
           rw[e1]
           exact ih (i + 1) s hI h (by omega) (by omega)
       · rw[h1]at e0
         rw[e0]at e1
         rw[e1]
         exact ih (i + 1) s hI h (by omega) (by omega)
   · obtain rfl:i=r.Ng.length:=by omega
     rw[if_neg (by simp),lw]
     exact⟨_,rfl⟩
def revd (r:Nj):List Nh×List Int:=rev r.Np r.Ng (idsL r.Nz.Nk) (r.Nz.Nk,[])
variable {r:Nj}
theorem RestF.start (h:RestF r):RvI r.Nz.Nq r.Np r.Ng r.Nz.Nk (r.Nz.Nk,[]):=⟨h.plan,rfl,λ_ _ _=>rfl,λ_ _ hn=>by simp at hn⟩
theorem RestF.rvI (h:RestF r):RvI r.Nz.Nq r.Np r.Ng r.Nz.Nk (revd r):=RvI.all (λy hy=>(va.1 h.home).2.2.1 y hy) h.sub _ h.start
theorem mn (hfu:2097153≤fu) (r:Nj) (hB:RestB r):xN fu r=some (if rsOk r=true then (⟨⟨r.Nz.Nq,(revd r).1⟩,r.Ng,r.Np⟩,(revd r).2,true) else (nG,[],false)):=by
 unfold xN;rw[fl hfu r hB,Dw];cases hr:rsOk r
 rfl;have hF:=kK.1 hr;have h12:r.Nz.Nk.length≤12:=(bF hF.plan).short;obtain⟨z,hz⟩:=ni hfu r hB hF.home hF.sub h12 fu 0 (r.Nz.Nk,[]) hF.start (by omega) (by omega) (by simp);rw[show ((0:Nat):Int)=0 from rfl,D4]at hz;rw[if_neg (by decide),cU hfu r hB,Dw,hz];rfl
theorem wV (h:RestF r):RestF ⟨⟨r.Nz.Nq,(revd r).1⟩,r.Ng,r.Np⟩:=by
 have hI:=h.rvI;refine⟨hI.ok,h.home,h.down,λx hx=>?_⟩;obtain⟨i,hi,rfl⟩:=Ee.1 (show x∈(revd r).1 from hx);have hi':i<r.Nz.Nk.length:=by rw[←hI.len]; exact hi
 have hold:=aM.1 (h.each _ (bT l0 hi'));rw[←zf l0 hi];by_cases hm:(gd r.Nz.Nk i l0).Id∈(revd r).2;obtain⟨h1,h2⟩:=hI.new i hi' hm;have hid:=hI.id hi';refine aM.2 ⟨by rw[hid]; exact hold.1,h2,?_⟩;rw[hid,←h1];exact⟨rfl,rfl,rfl⟩;rw[hI.old i hi' hm];exact aM.2 hold
end AT
namespace AT
structure Cur (c:Pz) (k:Int):Prop where
  by_:∀e∈c.code,0≤e.n∧e.n≤255
  len:c.code.length≤65536
  lo:0≤c.at_
  hi:c.at_≤k
theorem BH (q:Int):0≤iE q 255∧iE q 255≤255:=by
 unfold iE;have h:(BitVec.ofInt 64 q &&& BitVec.ofInt 64 255).toNat≤255:=by
   rw[BitVec.toNat_and]
   exact EJ Nat.and_le_right (by decide)
 unfold wu64;omega
variable {fu:Nat} {c:Pz} {k:Int}
theorem rz (hc:Cur c k) (hk:k≤4611686018427387904):∃r c',am fu c=some (r,c')∧0≤r∧r≤255∧Cur c' (k + 1):=by
 have h0:=hc.lo;have h1:=hc.hi;have hl:=hc.len;have e1:w64 (c.at_ + 1)=c.at_ + 1:=vt (by omega) (by omega);unfold am;have hsh:∀x:Int,shrk 64 x 40=some (x.fdiv (2 ^ (min (40:Int).toNat 64))):=λx=>by unfold shrk; rw[if_neg (by omega)]
 simp only[e1,hsh,Dw];have hcur:∀s,Cur ⟨c.code,c.at_ + 1,s⟩ (k + 1):=λs=>⟨hc.by_,hc.len,by simp only; omega,by simp only; omega⟩;have ha:∀q:Int,0≤w64 (iE q 255)∧w64 (iE q 255)≤255:=λq=>by
   have:=BH q
   rw[vt (by omega) (by omega)]; exact this
 by_cases h:c.at_<c.code.length;simp only[h,decide_true,if_true];obtain⟨e,he,hm⟩:=ab (l:=c.code) (i:=c.at_) h0 h;have hb:=hc.by_ e hm;have e2:w64 e.n=e.n:=vt (by omega) (by omega);simp only[he,Dw,e2];split
 exact⟨_,_,rfl,hb.1,hb.2,hcur _⟩;exact⟨_,_,rfl,(ha _).1,(ha _).2,hcur _⟩;simp only[h,decide_false,DF,if_false];split
 exact⟨_,_,rfl,by omega,by omega,hcur _⟩;exact⟨_,_,rfl,(ha _).1,(ha _).2,hcur _⟩
theorem Cur.mono {k':Int} (hc:Cur c k) (h:k≤k'):Cur c k':=⟨hc.by_,hc.len,hc.lo,Int.le_trans hc.hi h⟩
theorem xf (hc:Cur c k) (hk:k≤4611686018427387000) (n:Int) (hn:n≤1099511627776):∃r c',uq fu c n=some (r,c')∧0≤r∧(1≤n→r<n)∧Cur c' (k + 2):=by
 unfold uq;by_cases h:n≤1;simp only[h,decide_true,if_true];exact⟨_,_,rfl,by omega,by omega,hc.mono (by omega)⟩;simp only[h,decide_false,DF,if_false];obtain⟨r,c',g1,g2,g3,g4⟩:=rz (fu:=fu) hc (by omega);simp only[g1,Dw];have hr:∀x:Int,0≤x→∃q,rem x n=some q∧0≤q∧q<n:=λx hx=>by
   unfold rem
   rw[if_neg (by omega),GW hx]
   exact⟨_,rfl,Int.emod_nonneg _ (by omega),Int.emod_lt_of_pos _ (by omega)⟩
 by_cases h2:n > 200;simp only[h2,decide_true,if_true];obtain⟨r2,c2,q1,q2,q3,q4⟩:=rz (fu:=fu) g4 (by omega);simp only[q1,Dw];rw[vt (n:=r * 256) (by omega) (by omega),vt (by omega) (by omega)];obtain⟨q,p1,p2,p3⟩:=hr (r * 256 + r2) (by omega);rw[p1];exact⟨_,_,rfl,p2,λ_=>p3,q4.mono (by omega)⟩;simp only[h2,decide_false,DF,if_false];obtain⟨q,p1,p2,p3⟩:=hr r g2;rw[p1];exact⟨_,_,rfl,p2,λ_=>p3,g4.mono (by omega)⟩
theorem iF (hc:Cur c k) (hk:k≤4611686018427387000) (l:List Int) (h1:1≤l.length) (hn:l.length≤1099511627776):∃r c',xF fu c l=some (r,c')∧r∈l∧Cur c' (k + 2):=by
 unfold xF;obtain⟨r,c',g1,g2,g3,g4⟩:=xf (fu:=fu) hc hk (l.length:Int) (by omega);obtain⟨e,he,hm⟩:=ab (l:=l) (i:=r) g2 (g3 (by omega));simp only[g1,Dw,he];exact⟨_,_,rfl,hm,g4⟩
theorem qL {code:List By} (h:∀e∈code,0≤e.n∧e.n≤255) (hl:code.length≤65536):Cur ⟨code,0,⟨0⟩⟩ 0:=⟨h,hl,Gl _,Gl _⟩
end AT
