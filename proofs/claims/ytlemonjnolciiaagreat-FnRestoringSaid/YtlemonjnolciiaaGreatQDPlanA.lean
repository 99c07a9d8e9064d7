/- Restorations, plainly: ends of routes, sets of fibers, validity. -/
import Derived.Test.YtlemonjnolciiaaGreatQRv
import Derived.Test.YtlemonjnolciiaaGreatAtR
import Derived.Test.YtlemonjnolciiaaGreatAtPI
import Derived.Test.YtlemonjnolciiaaGreatOk
import Derived.Test.YtlemonjnolciiaaGreatAtL
set_option linter.unusedSimpArgs false
set_option linter.unusedVariables false
namespace AT
def endR (n:Nq) (r:Nv):Int:=match yF n r with | some o=>gl o | none=>0
theorem mg {o:List Int} (h:0<o.length) (h2:o.length≤4194304):idx o (w64 ((o.length:Int) - 1))=some (gl o):=by
 rw[show w64 ((o.length:Int) - 1)=((o.length - 1:Nat):Int) by rw[vq (by omega) (by omega)]; omega,zH 0 (by omega)]; rfl
theorem iI {fu:Nat} (hfu:2097153≤fu) (n:Nq) (r:Nv) (hB:NetB n) (hr:r.Nw.length≤2097152) (ho:(yF n r).isSome=true):bf fu n r=some (endR n r):=by
 obtain⟨o,h⟩:=EC.1 ho;obtain⟨o',hw⟩:=walk_eq hfu n r hB.2 hB.1.1 hr;have hl:=iJ h;unfold bf d7 endR;rw[hw,h,CP,CP];show ((idx o (w64 ((o.length:Int) - 1))).bind _)=_;rw[mg (by omega) (by omega)];rfl
theorem iW {fu:Nat} (hfu:2097153≤fu) (n:Nq) (r:Nv) (hB:NetB n) (hr:r.Nw.length≤2097152) (ho:(yF n r).isSome=true):cL fu n r=some (endR n r):=by
 obtain⟨o,h⟩:=EC.1 ho;have hl:=iJ h;unfold cL endR;rw[kK hfu n r hB.2 hB.1.1 hr,h,CP];show ((idx o (w64 ((o.length:Int) - 1))).bind _)=_;rw[mg (by omega) (by omega)];rfl
def kn (l:List Int) (hi:Int) (i:Nat):Bool:=!(decide (0≤gd l i 0)&&decide (gd l i 0≤hi))||(decide (0<i)&&decide (gd l (i - 1) 0≥gd l i 0))
def stOk (l:List Int) (m:Nat):Bool:=!((List.range l.length).any (kn l ((m:Int) - 1)))
theorem kY {fu:Nat} (hfu:2097153≤fu) (l:List Int) (m:Nat) (hm:m≤2097152) (hn:l.length≤2097152):dG fu l (m:Int)=some (stOk l m):=by
 unfold dG stOk;rw[xr (l:=List.range l.length) (G:=zo fu l (m:Int)) (kn l ((m:Int) - 1)) (λi=>false) (by simp; omega)
   (λfk i hk=>by
     have hi':i<l.length:=by simpa using hk
     rw[zo,if_pos (by simpa using hi'),zH 0 hi',DZ,vq (n:=(m:Int) - 1) (by omega) (by omega)]
     obtain⟨b1,h1⟩:∃b,b=(decide (0≤gd l i 0)&&decide (gd l i 0≤(m:Int) - 1)):=⟨_,rfl⟩
     simp only[CP,bA,kn,←h1]
     cases b1
     · rfl
     by_cases h0:0<i
     · rw[dJ h0 (by omega),zH 0 (show i - 1<l.length by omega)]
       simp [h0]
     · simp [h0])
   (λfk=>by rw[D5,zo,if_neg (by simp)]) fu (by simp; omega)]
 cases (List.range l.length).any (kn l ((m:Int) - 1)) <;> rfl
theorem kL {fu:Nat} (hfu:2097153≤fu) (l:List Int) (m:Nat) (hm:m≤2097152) (hn:l.length≤2097152):bh fu l 0 (w64 ((m:Int) - 1))=some (stOk l m):=by
 rw[vq (n:=(m:Int) - 1) (by omega) (by omega)];unfold bh stOk;rw[xr (l:=List.range l.length) (G:=xS fu l 0 ((m:Int) - 1)) (kn l ((m:Int) - 1)) (λi=>false) (by simp; omega)
   (λfk i hk=>by
     have hi':i<l.length:=by simpa using hk
     rw[xS,if_pos (by simpa using hi'),zH 0 hi',DZ]
     obtain⟨b1,h1⟩:∃b,b=(decide (0≤gd l i 0)&&decide (gd l i 0≤(m:Int) - 1)):=⟨_,rfl⟩
     simp only[CP,eW,kn,←h1]
     cases b1
     · rfl
     by_cases h0:0<i
     · rw[dJ h0 (by omega),zH 0 (show i - 1<l.length by omega)]
       simp [h0]
     · simp [h0])
   (λfk=>by rw[D5,xS,if_neg (by simp)]) fu (by simp; omega)]
 cases (List.range l.length).any (kn l ((m:Int) - 1)) <;> rfl
variable {l:List Int}
theorem f4 {m:Nat}:stOk l m=true↔(∀x∈l,0≤x∧x<(m:Int))∧l.Pairwise (·<·):=by
 unfold stOk;rw[Dl,C6];constructor;intro h;have hb:∀i,i<l.length→kn l ((m:Int) - 1) i=false:=λi hi=>by
   rw[C6]; exact λh7=>h (C5.2 ⟨i,DC.2 hi,h7⟩)
 have h1:∀i,i<l.length→(0≤gd l i 0∧gd l i 0<(m:Int))∧(0<i→gd l (i - 1) 0<gd l i 0):=λi hi=>by
   have:=hb i hi
   unfold kn at this
   simp only[D3,FB,CW,decide_eq_true_eq,FQ,decide_eq_false_iff_not]at this
   refine⟨by omega,λh0=>?_⟩
   rcases this.2 with h3 | h3
   · exact absurd h0 h3
   · omega
 have up:∀j i,i<j→j<l.length→gd l i 0<gd l j 0:=by
   intro j
   induction j with
   | zero=>intro i h; omega
   | succ j ih =>
     intro i hi hj
     have h2:=(h1 (j + 1) hj).2 (by omega)
     rw[Nat.add_sub_cancel]at h2
     rcases Ep i j with h3 | h3
     · have:=ih i h3 (by omega); omega
     · obtain rfl:i=j:=by omega
       exact h2
 refine⟨λx hx=>?_,Ed.2 λi j hi hj hij=>?_⟩;obtain⟨i,hi,rfl⟩:=Dp.1 hx;have:=(h1 i hi).1;rwa [bM 0 hi]at this;have:=up j i hij hj;rwa [bM 0 hi,bM 0 hj]at this;rintro⟨h1,h2⟩ h;obtain⟨i,hi,hb⟩:=C5.1 h;have hi':=DC.1 hi;have h3:=h1 _ (eN 0 hi');unfold kn at hb;simp only[Eu,Dl,CW,decide_eq_true_eq,FQ,decide_eq_false_iff_not]at hb;rcases hb with hb | ⟨h0,hb⟩
 omega;rw[Ed]at h2;have:=h2 (i - 1) i (by omega) hi' (by omega);rw[bM 0 hi',bM 0 (show i - 1<l.length by omega)]at hb;omega
theorem d6 {m:Nat} (h:stOk l m=true):l.length≤m:=by
  obtain⟨h1,h2⟩:=f4.1 h;refine gZ m l (h2.imp λh=>?_) h1;simp only[ne_eq]at *;omega
def kA (r:Nj) (x:Nh):Bool:=(!hasL r.Ng x.Id||meets x.Nv.Nw r.Np)||(x.Nv.Pq != (xK r.Ng x.Id).Nv.Pq||(endR r.Nz.Nq x.Nv != endR r.Nz.Nq (xK r.Ng x.Id).Nv||x.Nd.Px != (xK r.Ng x.Id).Nd.Px))
def rsOk (r:Nj):Bool:=yb r.Nz&&(yb ⟨r.Nz.Nq,r.Ng⟩&&(stOk r.Np r.Nz.Nq.Nw.length&&!r.Nz.Nk.any (kA r)))
def RestB (r:Nj):Prop:=gu r.Nz∧(r.Ng.length≤2097152∧∀x∈r.Ng,x.Nv.Nw.length≤2097152)∧r.Np.length≤2097152
theorem RestB.home {r:Nj} (h:RestB r):gu ⟨r.Nz.Nq,r.Ng⟩:=⟨h.1.1,h.2.1.1,h.2.1.2⟩
variable {fu:Nat}
theorem pw (H:List Nh) (id:Int) (h:H.length<fu) (hn:H.length≤2097152):da fu H id=some (if hasL H id=true then ((atId H id:Nat):Int) else -1):=by
 unfold da;rw[xr (l:=H) (G:=yl fu H id) (λy=>y.Id==id) (λi=>(i:Int)) (by omega)
   (λfk i hi=>by
     have h':(i:Int)<(H.length:Int):=by omega
     rw[yl]
     simp only[h',decide_true,if_true,vD hi,CP])
   (λfk=>by rw[yl,if_neg (by simp)]) fu h]
 unfold atId hasL;cases H.any λy=>y.Id==id <;> rfl
theorem nh (r:Nj) (id:Int) (h:r.Ng.length<fu) (hn:r.Ng.length≤2097152):cK fu r id=some (if hasL r.Ng id=true then ((atId r.Ng id:Nat):Int) else -1):=by
 unfold cK uX;rw[xr (l:=r.Ng) (G:=uv fu r.Ng id) (λy=>y.Id==id) (λi=>(i:Int)) (by omega)
   (λfk i hi=>by
     have h':(i:Int)<(r.Ng.length:Int):=by omega
     rw[uv]
     simp only[h',decide_true,if_true,vD hi,CP,cU])
   (λfk=>by rw[uv,if_neg (by simp)]) fu h]
 unfold atId hasL;cases r.Ng.any λy=>y.Id==id <;> rfl
theorem neg1:decide ((-1:Int)<0)=true:=rfl
theorem rr {r:Nj} (hH:yb ⟨r.Nz.Nq,r.Ng⟩=true) {id:Int} (h:hasL r.Ng id=true):LightF r.Nz.Nq (xK r.Ng id):=(ep hH).light _ (fT h)
theorem nH (hfu:2097153≤fu) (r:Nj) (hB:RestB r):cZ fu r=some (rsOk r):=by
 have hN:=hB.1.1;unfold cZ rsOk;rw[gC hfu r.Nz hB.1,CP];cases hp:yb r.Nz
 rfl;rw[if_neg (by decide),gC hfu _ hB.home,CP];cases hh:yb ⟨r.Nz.Nq,r.Ng⟩
 rfl;rw[if_neg (by decide),kL hfu _ _ hN.2 hB.2.2,CP];cases hs:stOk r.Np r.Nz.Nq.Nw.length
 rfl;rw[CP,if_neg (by decide)];have hF:=ep hp;rw[xr (l:=r.Nz.Nk) (G:=yj fu r) (kA r) (λ_=>false) (by have:=hF.short; omega)
   (λfk i hi=>by
     have h':(i:Int)<(r.Nz.Nk.length:Int):=by omega
     have hx:=hF.light _ (Dh hi)
     have hxr:=hx.short
     obtain⟨x,ex⟩:∃x,x=r.Nz.Nk[i]:=⟨_,rfl⟩
     rw[←ex]at hx hxr
     rw[yj]
     simp only[h',decide_true,if_true,vD hi,←ex,CP,pw r.Ng x.Id (show r.Ng.length<fu by have:=hB.2.1.1; omega) hB.2.1.1,jA hfu x.Nv r.Np (by omega) hB.2.2]
     unfold kA
     cases hid:hasL r.Ng x.Id
     · simp only[CU,if_false,neg1,if_true,CP,Gb,FH]
     simp only[if_true,jR,CU,if_false,CP,DF,Et]
     cases hm:meets x.Nv.Nw r.Np
     · have hy:=rr hh hid
       have hyr:=hy.short
       obtain⟨o1,ho1⟩:=hx.route
       obtain⟨o2,ho2⟩:=hy.route
       have e2:idx r.Ng ((atId r.Ng x.Id:Nat):Int)=some (xK r.Ng x.Id):=zH l0 (ja hid)
       rw[if_neg (by decide),e2,CP,iI hfu _ x.Nv hN (by omega) (by rw[ho1]; rfl),iI hfu _ (xK r.Ng x.Id).Nv hN (by omega) (by rw[ho2]; rfl)]
       simp only[CP]
       cases h1:x.Nv.Pq != (xK r.Ng x.Id).Nv.Pq <;> cases h2:endR r.Nz.Nq x.Nv != endR r.Nz.Nq (xK r.Ng x.Id).Nv <;> simp
     · simp)
   (λfk=>by rw[yj,if_neg (by simp)]) fu (by have:=hF.short; omega)]
 cases r.Nz.Nk.any (kA r) <;> rfl
theorem bS (hfu:2097153≤fu) (r:Nj) (hB:RestB r):uQ fu r=some (rsOk r):=by
 have hN:=hB.1.1;unfold uQ rsOk;rw[j5 hfu r.Nz hB.1,CP];cases hp:yb r.Nz
 rfl;rw[if_neg (by decide),j5 hfu _ hB.home,CP];cases hh:yb ⟨r.Nz.Nq,r.Ng⟩
 rfl;rw[if_neg (by decide),kY hfu _ _ hN.2 hB.2.2,CP];cases hs:stOk r.Np r.Nz.Nq.Nw.length
 rfl;rw[CP,if_neg (by decide)];have hF:=ep hp;unfold uF uH;rw[xr (l:=r.Nz.Nk) (G:=uk fu r.Nz.Nk r r.Nz.Nq) (kA r) (λi=>(i:Int)) (by have:=hF.short; omega)
   (λfk i hi=>by
     have h':(i:Int)<(r.Nz.Nk.length:Int):=by omega
     have hx:=hF.light _ (Dh hi)
     have hxr:=hx.short
     obtain⟨x,ex⟩:∃x,x=r.Nz.Nk[i]:=⟨_,rfl⟩
     rw[←ex]at hx hxr
     obtain⟨c,hc,hd⟩:=fV (fu:=fu) x.Nv.Nw r.Np (by omega) hx.nodup hB.2.2 hfu
     rw[uk]
     simp only[h',decide_true,if_true,vD hi,←ex,CP,xW,nh r x.Id (show r.Ng.length<fu by have:=hB.2.1.1; omega) hB.2.1.1,hc,hd]
     unfold kA
     cases hid:hasL r.Ng x.Id
     · simp only[CU,if_false,neg1,if_true,CP,Gb,FH]
     simp only[if_true,jR,CU,if_false,CP,DF,Et]
     cases hm:meets x.Nv.Nw r.Np
     · have hy:=rr hh hid
       have hyr:=hy.short
       obtain⟨o1,ho1⟩:=hx.route
       obtain⟨o2,ho2⟩:=hy.route
       have e2:idx r.Ng ((atId r.Ng x.Id:Nat):Int)=some (xK r.Ng x.Id):=zH l0 (ja hid)
       have q1:((xK r.Ng x.Id).Nv.Pq != x.Nv.Pq)=(x.Nv.Pq != (xK r.Ng x.Id).Nv.Pq):=by rw[bne,bne,GE]
       have q2:(endR r.Nz.Nq (xK r.Ng x.Id).Nv != endR r.Nz.Nq x.Nv)=(endR r.Nz.Nq x.Nv != endR r.Nz.Nq (xK r.Ng x.Id).Nv):=by rw[bne,bne,GE]
       have q3:((xK r.Ng x.Id).Nd.Px != x.Nd.Px)=(x.Nd.Px != (xK r.Ng x.Id).Nd.Px):=by rw[bne,bne,GE]
       rw[if_neg (by decide),e2,CP,iW hfu _ x.Nv hN (by omega) (by rw[ho1]; rfl),iW hfu _ (xK r.Ng x.Id).Nv hN (by omega) (by rw[ho2]; rfl)]
       simp only[CP,q1,q2,q3]
       cases h1:x.Nv.Pq != (xK r.Ng x.Id).Nv.Pq <;> cases h2:endR r.Nz.Nq x.Nv != endR r.Nz.Nq (xK r.Ng x.Id).Nv <;> simp
     · simp)
   (λfk=>by rw[uk,if_neg (by simp)]) fu (by have:=hF.short; omega)]
 cases r.Nz.Nk.any (kA r) <;> simp [Out.on]
theorem na (L:List Nh) (hl:L.length≤2097152) (hr:∀x∈L,x.Nv.Nw.length≤2097152):∀(fk i:Nat) (m:List Nh),i≤L.length→L.length - i<fk→m.length≤i→∃z,yZ fu L fk m i=some (m++L.drop i,z):=by
 intro fk;induction fk with
 | zero=>intro i _ _ h; omega
 | succ fk ih =>
   intro i m hi hk hm
   rw[yZ]
   by_cases h:i<L.length
   · have h':(i:Int)<(L.length:Int):=by omega
     simp only[h',decide_true,if_true,vD h,CP,ij fu _ (hr _ (Dh h))]
     rw[yc (by simp; omega),CP,vV h (by omega)]
     obtain⟨z,hz⟩:=ih (i + 1) (m++[L[i]]) h (by omega) (by simp; omega)
     refine⟨z,?_⟩
     rw[hz,CX,←C7 h]
     rfl
   · obtain rfl:i=L.length:=by omega
     rw[if_neg (by simp),Dn,Db]
     exact⟨_,rfl⟩
theorem kW (hfu:2097153≤fu) (L:List Nh) (hl:L.length≤2097152) (hr:∀x∈L,x.Nv.Nw.length≤2097152):bX fu L=some L:=by
 unfold bX;obtain⟨z,hz⟩:=na (fu:=fu) L hl hr fu 0 [] (by omega) (by omega) (by simp);rw[show ((0:Nat):Int)=0 from rfl]at hz;rw[hz]; rfl
theorem jY (fu:Nat) (l:List Int) (h:l.length≤2097152):ax fu l=some l:=by
 unfold ax;rw[bT (by omega)]; rfl
theorem ik (hfu:2097153≤fu) (r:Nj) (hB:RestB r):aR fu r=some r:=by
 unfold aR;rw[jt hfu _ hB.1,CP,kW hfu _ hB.2.1.1 hB.2.1.2,CP,jY fu _ hB.2.2];rfl
theorem fg (hfu:2097153≤fu) (r:Nj) (hB:RestB r):xa fu r=some r:=by
 have hz:gu ⟨⟨[],[]⟩,r.Ng⟩:=⟨⟨⟨by simp,by simp⟩,by simp⟩,hB.2.1.1,hB.2.1.2⟩;have hd:app ([]:List Int) r.Np=some r.Np:=bT (by have:=hB.2.2; omega);unfold xa dA;rw[gP hfu _ hB.1,CP,gP hfu _ hz,CP,hd];rfl
def iA:Nj:=⟨⟨⟨[],[]⟩,[]⟩,[],[]⟩
structure RestF (r:Nj):Prop where
  plan:yb r.Nz=true
  home:yb ⟨r.Nz.Nq,r.Ng⟩=true
  down:stOk r.Np r.Nz.Nq.Nw.length=true
  each:∀x∈r.Nz.Nk,kA r x=false
variable {r:Nj}
theorem iK:rsOk r=true↔RestF r:=by
 unfold rsOk;rw[CW,CW,CW,Dl];constructor;rintro⟨a,b,c,d⟩;refine⟨a,b,c,λx hx=>?_⟩;rw[C6]at d ⊢;exact λh=>d (C5.2 ⟨x,hx,h⟩);rintro⟨a,b,c,d⟩;refine⟨a,b,c,?_⟩;rw[C6];intro h;obtain⟨x,hx,hc⟩:=C5.1 h;rw[d x hx]at hc;cases hc
theorem dc {x:Nh}:kA r x=false↔hasL r.Ng x.Id=true∧meets x.Nv.Nw r.Np=false∧x.Nv.Pq=(xK r.Ng x.Id).Nv.Pq∧endR r.Nz.Nq x.Nv=endR r.Nz.Nq (xK r.Ng x.Id).Nv∧x.Nd.Px=(xK r.Ng x.Id).Nd.Px:=by
 unfold kA;simp only[D3,FB,bne_eq_false_iff_eq,and_assoc]
theorem RestF.sub (h:RestF r):∀id,hasL r.Nz.Nk id=true→hasL r.Ng id=true:=by
 intro id hid;obtain⟨x,hx,he⟩:=C5.1 hid;rw[beq_iff_eq]at he;rw[←he];exact (dc.1 (h.each x hx)).1
end AT
namespace AT
def rt0:Nv:=⟨0,[]⟩
def jp (n:Nq) (fs:List Int):Prop:=∀x∈fs,0≤x∧x<(n.Nw.length:Int)
structure RtB (n:Nq) (r:Nv):Prop where
  short:r.Nw.length≤7
  fib:jp n r.Nw
  lo:0≤r.Pq
  hi:r.Pq<(n.Nx.length:Int)
def lenR (F:List Nt):List Int→Int
  | []=>0
  | i::l=>(gd F i.toNat f0).Pk + lenR F l
theorem nT {n:Nq} {i:Int} (h:0≤i∧i<(n.Nw.length:Int)):idx n.Nw i=some (gd n.Nw i.toNat f0)∧gd n.Nw i.toNat f0∈n.Nw:=by
 have:=zH (l:=n.Nw) (i:=i.toNat) f0 (by omega);rw[Ec h.1]at this;exact⟨this,eN f0 (by omega)⟩
theorem nO {n:Nq} (hn:NetF n):∀{fs:List Int},jp n fs→0≤lenR n.Nw fs∧lenR n.Nw fs≤5000 * (fs.length:Int)
  | [],_=>by simp [lenR]
  | i::l,h=>by
    have h1:=nO hn (fs:=l) λx hx=>h x (Df _ hx)
    have h2:=hn.each _ (nT (h i (by simp))).2
    simp only[lenR,Dz]
    omega
theorem lW {fu:Nat} {n:Nq} (hn:NetF n) (r:Nv) (hf:jp n r.Nw) (hl:r.Nw.length≤100):∀(fk i:Nat) (s:Int),i≤r.Nw.length→r.Nw.length - i<fk→0≤s→s≤5000 * (i:Int)→∃z,yv fu n r fk s i=some (s + lenR n.Nw (r.Nw.drop i),z):=by
 intro fk;induction fk with
 | zero=>intro i _ _ h; omega
 | succ fk ih =>
   intro i s hi hk h0 h1
   rw[yv]
   by_cases h:i<r.Nw.length
   · obtain⟨e1,e2⟩:=nT (hf _ (Dh h))
     have h2:=hn.each _ e2
     rw[if_pos (by simpa using h),vD h,CP,e1,CP,vV h (by omega),vq (by omega) (by omega),←C7 h,lenR]
     obtain⟨z,hz⟩:=ih (i + 1) (s + (gd n.Nw r.Nw[i].toNat f0).Pk) h (by omega) (by omega) (by omega)
     exact⟨z,by rw[hz]; congr 2; omega⟩
   · obtain rfl:i=r.Nw.length:=by omega
     rw[if_neg (by simp),Dn,lenR,Int.add_zero]
     exact⟨_,rfl⟩
theorem jW {fu:Nat} (hfu:2097153≤fu) {n:Nq} (hn:NetF n) (r:Nv) (hf:jp n r.Nw) (hl:r.Nw.length≤100):bc fu n r=some (lenR n.Nw r.Nw):=by
 obtain⟨z,hz⟩:=lW (fu:=fu) hn r hf hl fu 0 0 (by omega) (by omega) (by omega) (by omega);rw[show ((0:Nat):Int)=0 from rfl,Di,Int.zero_add]at hz;unfold bc;rw[hz]; rfl
theorem lG (fu:Nat) (x:Int):aQ fu x=some (cmpI x 0):=by
 unfold aQ cmpI;by_cases h:x<0;simp [h];by_cases h2:x > 0 <;> simp [h,h2]
theorem jy (a b:Int):cmpI (a - b) 0=cmpI a b:=by
 unfold cmpI;by_cases h:a<b;rw[if_pos (by omega),if_pos h];rw[if_neg (by omega),if_neg h];by_cases h2:a > b;rw[if_pos (by omega),if_pos h2];rw[if_neg (by omega),if_neg h2]
def cmpL:List Int→List Int→Int
  | [],[]=>0
  | [],_::_=>-1
  | _::_,[]=>1
  | a::x,b::y=>if a=b then cmpL x y else cmpI a b
def cmpR (F:List Nt) (a b:Nv):Int:=or4 (cmpI (lenR F a.Nw) (lenR F b.Nw)) (cmpI (a.Nw.length:Int) (b.Nw.length:Int)) (cmpL a.Nw b.Nw) (cmpI a.Pq b.Pq)
variable {a b c d:Int}
theorem Bm (h:a≠0):or4 a b c d=a:=by unfold or4; rw[if_pos h]
theorem Bl (h:a=0) (h2:b≠0):or4 a b c d=b:=by unfold or4; rw[if_neg (by simpa using h),if_pos h2]
theorem Bj (h:a=0) (h2:b=0) (h3:c≠0):or4 a b c d=c:=by unfold or4; rw[if_neg (by simpa using h),if_neg (by simpa using h2),if_pos h3]
theorem Bi (h:a=0) (h2:b=0) (h3:c=0):or4 a b c d=d:=by
 unfold or4;rw[if_neg (by simpa using h),if_neg (by simpa using h2),if_neg (by simpa using h3)];by_cases h4:d=0;rw[if_neg (by simpa using h4),h4];rw[if_pos h4]
theorem kD {fu:Nat} {n:Nq} (hn:NetF n) (a b:Nv) (ha:jp n a.Nw) (hb:jp n b.Nw) (hl:a.Nw.length≤100) (he:b.Nw.length=a.Nw.length):∀(fk i:Nat),i≤a.Nw.length→a.Nw.length - i<fk →
    xZ fu a b fk i=some (if cmpL (a.Nw.drop i) (b.Nw.drop i)=0 then .next (a.Nw.length:Int) else .ret (cmpL (a.Nw.drop i) (b.Nw.drop i))):=by
 have hff:=hn.fib;intro fk;induction fk with
 | zero=>intro i _ h; omega
 | succ fk ih =>
   intro i hi hk
   rw[xZ]
   by_cases h:i<a.Nw.length
   · have h2:i<b.Nw.length:=by omega
     have b1:=ha _ (Dh h)
     have b2:=hb _ (Dh h2)
     rw[if_pos (by simpa using h),vD h,vD h2,←C7 h,←C7 h2,cmpL]
     simp only[CP]
     by_cases hc:a.Nw[i]=b.Nw[i]
     · rw[if_pos hc,hc,bne_self_eq_false,if_neg C9,vV h (by omega)]
       exact ih (i + 1) h (by omega)
     · have hne:cmpI a.Nw[i] b.Nw[i]≠0:=λe=>hc ((zv _ _).1 e)
       rw[if_neg hc,if_neg hne,if_pos (by rw[bne_iff_ne]; exact hc),lG,CP,vq (by omega) (by omega),jy]
   · obtain rfl:i=a.Nw.length:=by omega
     have e2:b.Nw.drop a.Nw.length=[]:=by rw[←he,Dn]
     rw[if_neg (by simp),Dn,e2]
     rfl
theorem m0 {fu:Nat} (hfu:2097153≤fu) {n:Nq} (hn:NetF n) {a b:Nv} (ha:RtB n a) (hb:RtB n b):bE fu n a b=some (cmpR n.Nw a b):=by
 have a1:=ha.short;have b1:=hb.short;have a2:=nO hn ha.fib;have b2:=nO hn hb.fib;have hm:=hn.hi;have s1:=ha.lo;have s2:=ha.hi;have s3:=hb.lo;have s4:=hb.hi;unfold bE cmpR;rw[jW hfu hn a ha.fib (by omega),jW hfu hn b hb.fib (by omega)];simp only[CP];rw[vq (n:=lenR n.Nw a.Nw - lenR n.Nw b.Nw) (by omega) (by omega),vq (n:=(a.Nw.length:Int) - (b.Nw.length:Int)) (by omega) (by omega),vq (n:=a.Pq - b.Pq) (by omega) (by omega),lG,lG,lG,jy,jy,jy];by_cases h1:lenR n.Nw a.Nw=lenR n.Nw b.Nw;have z1:=(zv _ _).2 h1;rw[if_neg (by rw[bne_iff_ne]; omega)];by_cases h2:a.Nw.length=b.Nw.length;have z2:=(zv (a.Nw.length:Int) (b.Nw.length:Int)).2 (by omega);have hl:=kD (fu:=fu) hn a b ha.fib hb.fib (by omega) h2.symm fu 0 (by omega) (by omega);rw[show ((0:Nat):Int)=0 from rfl,Di,Di]at hl;rw[if_neg (by rw[bne_iff_ne]; omega),hl];by_cases h3:cmpL a.Nw b.Nw=0;rw[if_pos h3,CP,Bi z1 z2 h3];rfl;rw[if_neg h3,Bj z1 z2 h3]; rfl;have z2:cmpI (a.Nw.length:Int) (b.Nw.length:Int)≠0:=λe=>h2 (by have:=(zv _ _).1 e; omega);rw[if_pos (by rw[bne_iff_ne]; omega),Bl z1 z2]; rfl;have z1:cmpI (lenR n.Nw a.Nw) (lenR n.Nw b.Nw)≠0:=λe=>h1 ((zv _ _).1 e);rw[if_pos (by rw[bne_iff_ne]; omega),Bm z1]; rfl
def insN (F:List Nt) (l:List Nv) (r:Nv):Nat→Nat
  | 0=>0
  | i + 1=>if cmpR F r (gd l i rt0)<0 then insN F l r i else i + 1
theorem lX (F:List Nt) (l:List Nv) (r:Nv):∀i,insN F l r i≤i
  | 0=>Da 0
  | i + 1=>by
    unfold insN
    split
    · have:=lX F l r i; omega
    · exact Da _
def insR (F:List Nt) (l:List Nv) (r:Nv):List Nv:=l.take (insN F l r l.length)++r::l.drop (insN F l r l.length)
theorem ju (F:List Nt) (l:List Nv) (r:Nv):(insR F l r).length=l.length + 1:=by
 have:=lX F l r l.length;unfold insR;rw[C3,Dz,C0,Du];omega
theorem j0 (F:List Nt) (l:List Nv) (r:Nv):(insR F l r).Perm (r::l):=by
 unfold insR;refine Fu.trans ?_;rw[EA]
theorem sk {fu:Nat} (hfu:2097153≤fu) {n:Nq} (hn:NetF n) (to:Int) (l:List Nv) (r:Nv) (hl:l.length≤1000) (hL:∀a∈l,RtB n a) (hr:RtB n r):∀(fk i:Nat),i≤l.length→i<fk→xn fu ⟨n,to,l⟩ r fk i=some ((insN n.Nw l r i:Nat):Int):=by
 intro fk;induction fk with
 | zero=>intro i _ h; omega
 | succ fk ih =>
   intro i hi hk
   rw[xn]
   cases i with
   | zero =>
     rw[if_neg (by simp),CP,if_neg C9]
     rfl
   | succ i =>
     have hi':i<l.length:=by omega
     have e1:w64 (((i + 1:Nat):Int) - 1)=(i:Int):=by rw[vq (by omega) (by omega)]; omega
     have e2:idx (⟨n,to,l⟩:Ph).list (i:Int)=some (gd l i rt0):=zH rt0 hi'
     rw[if_pos (by simp),e1,e2,CP,m0 hfu hn hr (hL _ (eN rt0 hi')),insN]
     simp only[CP,decide_eq_true_eq]
     by_cases hc:cmpR n.Nw r (gd l i rt0)<0
     · rw[if_pos hc,if_pos hc]
       exact ih i (by omega) (by omega)
     · rw[if_neg hc,if_neg hc]
theorem put_eq {fu:Nat} (hfu:2097153≤fu) {n:Nq} (hn:NetF n) (to:Int) (l:List Nv) (r:Nv) (hl:l.length≤1000) (hL:∀a∈l,RtB n a) (hr:RtB n r):zJ fu ⟨n,to,l⟩ r=some ⟨n,to,insR n.Nw l r⟩:=by
 have hle:=lX n.Nw l r l.length;unfold zJ;rw[sk hfu hn to l r hl hL hr fu l.length (Da _) (by omega),CP];show ((sub l 0 ((insN n.Nw l r l.length:Nat):Int)).bind _)=_;rw[d5 hle,CP];have hs:sub l ((insN n.Nw l r l.length:Nat):Int) (l.length:Int)=some (l.drop (insN n.Nw l r l.length)):=by
   unfold sub
   rw[if_pos (by omega)]
   simp
 show ((sub l ((insN n.Nw l r l.length:Nat):Int) (l.length:Int)).bind _)=_;rw[hs,CP,bT (by rw[C0]; omega),CP,yc (by rw[C0,C4]; omega),CP,yc (by rw[C3,C0,C4,Du]; omega),CP,CX,DY];rfl
def pth (F:List Nt) (to:Int):Nat→List Int→Int→List Int→List (List Int)
  | 0,_,_,_=>[]
  | k + 1,seen,v,fs=>if v=to then [fs] else (List.range F.length).flatMap λi=>if 0≤oth (gd F i f0) v∧(seen.any λx=>x==oth (gd F i f0) v)=false then pth F to k (seen++[oth (gd F i f0) v]) (oth (gd F i f0) v) (fs++[(i:Int)]) else []
theorem ox {F:List Nt} {to:Int} {k:Nat} {seen:List Int} {v:Int} {fs:List Int} (h:¬v=to):pth F to (k + 1) seen v fs=(List.range F.length).flatMap λi=>if 0≤oth (gd F i f0) v∧(seen.any λx=>x==oth (gd F i f0) v)=false then pth F to k (seen++[oth (gd F i f0) v]) (oth (gd F i f0) v) (fs++[(i:Int)]) else []:=by rw[pth,if_neg h]
def au (F:List Nt) (s:Int) (l:List Nv) (ps:List (List Int)):List Nv:=ps.foldl (λl p=>if l.length≤200 then insR F l ⟨s,p⟩ else l) l
theorem pd (F:List Nt) (s:Int) (l:List Nv) (p q:List (List Int)):au F s l (p++q)=au F s (au F s l p) q:=List.foldl_append
theorem jO {F:List Nt} {s:Int} {l:List Nv} (h:200<l.length):∀ps,au F s l ps=l
  | []=>rfl
  | p::ps=>by
    show au F s (if l.length≤200 then _ else l) ps=l
    rw[if_neg (by omega)]
    exact jO h ps
theorem jr {n:Nq} {s:Int}:∀(ps:List (List Int)) {l:List Nv},(∀p∈ps,RtB n ⟨s,p⟩)→(∀a∈l,RtB n a)→l.length≤201→(∀a∈au n.Nw s l ps,RtB n a)∧(au n.Nw s l ps).length≤201
  | [],l,_,hl,hn=>⟨hl,hn⟩
  | p::ps,l,hp,hl,hn=>by
    show (∀a∈au n.Nw s (if l.length≤200 then insR n.Nw l ⟨s,p⟩ else l) ps,RtB n a)∧_
    by_cases h:l.length≤200
    · have:=jr ps (l:=insR n.Nw l ⟨s,p⟩) (λq hq=>hp q (Df _ hq)) (λa ha=>by
        rcases De.1 ((j0 n.Nw l ⟨s,p⟩).mem_iff.1 ha) with e | e
        · rw[e]; exact hp p (by simp)
        · exact hl a e) (by rw[ju]; omega)
      rw[if_pos h]
      show _∧(au n.Nw s (if l.length≤200 then insR n.Nw l ⟨s,p⟩ else l) ps).length≤201
      rw[if_pos h]
      exact this
    · have:=jr ps (l:=l) (λq hq=>hp q (Df _ hq)) hl hn
      rw[if_neg h]
      show _∧(au n.Nw s (if l.length≤200 then insR n.Nw l ⟨s,p⟩ else l) ps).length≤201
      rw[if_neg h]
      exact this
theorem kR {F:List Nt} {s:Int}:∀(ps:List (List Int)) {l:List Nv} {a:Nv},a∈au F s l ps→a∈l∨∃p∈ps,a=⟨s,p⟩
  | [],l,a,h=>.inl h
  | p::ps,l,a,h=>by
    have h':a∈au F s (if l.length≤200 then insR F l ⟨s,p⟩ else l) ps:=h
    rcases kR ps h' with h1 | ⟨q,hq,e⟩
    · split at h1
      · rcases De.1 ((j0 F l ⟨s,p⟩).mem_iff.1 h1) with e | e
        · exact .inr ⟨p,by simp,e⟩
        · exact .inl e
      · exact .inl h1
    · exact .inr ⟨q,Df _ hq,e⟩
theorem so {n:Nq} {to:Int}:∀(k:Nat) {seen:List Int} {v:Int} {fs:List Int},jp n fs→∀p∈pth n.Nw to k seen v fs,jp n p∧p.length + 1≤fs.length + k
  | 0,seen,v,fs,_,p,h=>by simp [pth]at h
  | k + 1,seen,v,fs,hf,p,h=>by
    unfold pth at h
    split at h
    · rw[C2]at h
      subst h
      exact⟨hf,by omega⟩
    · obtain⟨i,hi,h1⟩:=Dv.1 h
      have hi':=DC.1 hi
      split at h1
      · obtain⟨g1,g2⟩:=so k (λx hx=>by
          rcases CQ.1 hx with hx | hx
          · exact hf x hx
          · rw[C2]at hx; subst hx; omega) p h1
        rw[C3,C4]at g2
        exact⟨g1,by omega⟩
      · simp at h1
theorem sR {fu:Nat} (hfu:2097153≤fu) {n:Nq} (hn:NetF n) (to:Int) (r:Nv) (seen:List Int) (rec_:Ph→Nv→List Int→Option Ph) (v:Int) (k:Nat) (hs:seen.length≤1000) (hr:r.Nw.length≤1000)
    (hB:∀i,i<n.Nw.length→∀p∈(if 0≤oth (gd n.Nw i f0) v∧(seen.any λx=>x==oth (gd n.Nw i f0) v)=false then pth n.Nw to k (seen++[oth (gd n.Nw i f0) v]) (oth (gd n.Nw i f0) v) (r.Nw++[(i:Int)]) else []),RtB n ⟨r.Pq,p⟩)
    (hrec:∀i l,i<n.Nw.length→0≤oth (gd n.Nw i f0) v→(seen.any λx=>x==oth (gd n.Nw i f0) v)=false→l.length≤200→(∀a∈l,RtB n a)→rec_ ⟨n,to,l⟩ ⟨r.Pq,r.Nw++[(i:Int)]⟩ (seen++[oth (gd n.Nw i f0) v])=some ⟨n,to,au n.Nw r.Pq l (pth n.Nw to k (seen++[oth (gd n.Nw i f0) v]) (oth (gd n.Nw i f0) v) (r.Nw++[(i:Int)]))⟩) :
    ∀(fk i:Nat) (l:List Nv),i≤n.Nw.length→n.Nw.length - i<fk→(∀a∈l,RtB n a)→l.length≤201 →
    ∃z,vh fu r seen rec_ v fk i n.Nx n.Nw to l=some (z,n.Nx,n.Nw,to,au n.Nw r.Pq l (((List.range n.Nw.length).drop i).flatMap λi=>if 0≤oth (gd n.Nw i f0) v∧(seen.any λx=>x==oth (gd n.Nw i f0) v)=false then pth n.Nw to k (seen++[oth (gd n.Nw i f0) v]) (oth (gd n.Nw i f0) v) (r.Nw++[(i:Int)]) else [])):=by
 have hff:=hn.fib;intro fk;induction fk with
 | zero=>intro i _ _ h; omega
 | succ fk ih =>
   intro i l hi hk hL hl
   rw[vh]
   by_cases h:i<n.Nw.length
   · by_cases h2:l.length≤200
     · have hoth:yh fu (⟨n.Nx,n.Nw⟩:Nq) (i:Int) v=some (oth (gd n.Nw i f0) v):=f9 fu n i v h
       have hdr:(List.range n.Nw.length).drop i=i::(List.range n.Nw.length).drop (i + 1):=by
         rw[←C7 (as:=List.range n.Nw.length) (i:=i) (h:=by simpa using h),DZ]
       have hwi:=vV h (show (n.Nw.length:Int)≤9223372036854775807 by omega)
       rw[if_pos (by simpa using h),decide_eq_true (by omega),CP,if_pos rfl,hoth,CP,hdr,Dm,pd,hwi]
       clear hwi
       have hBi:=hB i h
       have hri:=hrec i l h
       obtain⟨y,hy⟩:∃y,y=oth (gd n.Nw i f0) v:=⟨_,rfl⟩
       rw[←hy]at hBi hri ⊢
       by_cases h3:0≤y
       · cases h4:seen.any λx=>x==y
         · rw[h4]at hBi
           rw[if_pos ⟨h3,rfl⟩]at hBi
           rw[if_pos (by simpa using h3),eX seen y (by omega) (by omega),h4,CP,CP,if_pos (by decide),if_pos ⟨h3,rfl⟩,jY fu r.Nw (by omega),CP,yc (by rw[C4]; omega),CP,jY fu seen (by omega),CP,yc (by rw[C4]; omega),CP]
           have:=hri h3 h4 h2 hL
           have this':rec_ ({ n:=({ Nx:=n.Nx,Nw:=n.Nw }:Nq),to:=to,list:=l }:Ph) ({ Pq:=r.Pq,Nw:=r.Nw++[(i:Int)] }:Nv) (seen++[y])=_:=this
           rw[this',CP]
           obtain⟨g1,g2⟩:=jr _ hBi hL hl
           exact ih (i + 1) _ h (by omega) g1 g2
         · rw[if_pos (by simpa using h3),eX seen y (by omega) (by omega),h4,CP,CP,if_neg (by decide),if_neg (λc=>by cases c.2)]
           exact ih (i + 1) l h (by omega) hL hl
       · rw[if_neg (by simpa using h3),CP,if_neg C9,if_neg λc=>h3 c.1]
         exact ih (i + 1) l h (by omega) hL hl
     · rw[if_pos (by simpa using h),decide_eq_false (by omega),CP,if_neg C9,jO (by omega)]
       exact⟨_,rfl⟩
   · obtain rfl:i=n.Nw.length:=by omega
     have e:(List.range n.Nw.length).drop n.Nw.length=[]:=by rw[List.drop_eq_nil_iff]; simp
     rw[if_neg (by simp),CP,if_neg C9,e]
     exact⟨_,rfl⟩
theorem ext_eq {n:Nq} (hn:NetF n) (to:Int):∀(k:Nat) {fu:Nat},2097153 + k≤fu→∀(l:List Nv) (r:Nv) (seen:List Int),seen.length + k=n.Nx.length + 1→1≤k→seen.Nodup→(∀x∈seen,0≤x∧x<(n.Nx.length:Int))→r.Nw.length + 1=seen.length→jp n r.Nw→0≤r.Pq→r.Pq<(n.Nx.length:Int)→l.length≤200→(∀a∈l,RtB n a) →
    vn fu ⟨n,to,l⟩ r seen=some ⟨n,to,au n.Nw r.Pq l (pth n.Nw to k seen (gl seen) r.Nw)⟩:=by
 have hm:=hn.hi;have hff:=hn.fib;intro k;induction k with
 | zero=>intro fu _ _ _ _ _ h; omega
 | succ k ih =>
   intro fu hfu l r seen hsl _ hnd hin hrf hfi hs0 hs1 hl hL
   obtain⟨fu',rfl⟩:∃f,fu=f + 1:=⟨fu - 1,by omega⟩
   have hfu':2097153 + k≤fu':=by omega
   rw[vn]
   unfold zc
   have hlast:idx seen (w64 ((seen.length:Int) - 1))=some (gl seen):=mg (by omega) (by omega)
   have hpB:=λp hp=>so (to:=to) (k + 1) (seen:=seen) (v:=gl seen) hfi p hp
   rw[hlast,CP]
   by_cases hv:gl seen=to
   · have e1:(gl seen==to)=true:=by rw[beq_iff_eq]; exact hv
     have hpe:pth n.Nw to (k + 1) seen (gl seen) r.Nw=[r.Nw]:=by rw[pth,if_pos hv]
     rw[e1,if_pos rfl,put_eq (by omega) hn to l r (by omega) hL ⟨by omega,hfi,hs0,hs1⟩,hpe]
     show some _=some (⟨n,to,if l.length≤200 then insR n.Nw l r else l⟩:Ph)
     rw[if_pos hl]
   · have e1:(gl seen==to)=false:=by rw[beq_eq_false_iff_ne]; exact hv
     have hpe:=ox (F:=n.Nw) (k:=k) (seen:=seen) (fs:=r.Nw) hv
     rw[hpe]at hpB
     obtain⟨z,hz⟩:=sR (fu:=fu') (by omega) hn to r seen (λx1 r' seen=>vn fu' x1 r' seen) (gl seen) k (by omega) (by omega)
       (λi hi p hp=>by
         obtain⟨g1,g2⟩:=hpB p (Dv.2 ⟨i,DC.2 hi,hp⟩)
         exact⟨by simp only; omega,g1,hs0,hs1⟩)
       (λi l' hi h0 hns hl' hL'=>by
         have hfm:gd n.Nw i f0∈n.Nw:=eN f0 hi
         have hev:=hn.each _ hfm
         have hom:=nN h0
         have hnot:oth (gd n.Nw i f0) (gl seen)∉seen:=λhm=>by
           rw[C6]at hns
           exact hns (C5.2 ⟨_,hm,by simp⟩)
         have hnd':(seen++[oth (gd n.Nw i f0) (gl seen)]).Nodup:=C1.2 ⟨hnd,by simp,λa ha b hb=>by rw[C2]at hb; subst hb; exact λe=>hnot (e▸ha)⟩
         have hin':∀x∈seen++[oth (gd n.Nw i f0) (gl seen)],0≤x∧x<(n.Nx.length:Int):=λx hx=>by
           rcases CQ.1 hx with hx | hx
           · exact hin x hx
           · rw[C2]at hx
             subst hx
             omega
         have hsh:=gZ _ _ hnd' hin'
         rw[C3,C4]at hsh
         have:=ih hfu' l' (⟨r.Pq,r.Nw++[(i:Int)]⟩:Nv) (seen++[oth (gd n.Nw i f0) (gl seen)]) (by rw[C3,C4]; omega) (by omega) hnd' hin' (by simp only[C3,C4]; omega) (λx hx=>by
           rcases CQ.1 hx with hx | hx
           · exact hfi x hx
           · rw[C2]at hx; subst hx; omega) hs0 hs1 hl' hL'
         rw[ml]at this
         exact this) fu' 0 l (by omega) (by omega) hL (by omega)
     rw[show ((0:Nat):Int)=0 from rfl,Di]at hz
     rw[e1,if_neg C9,hpe]
     have hz':vh fu' r seen (λx1 r' seen=>vn fu' x1 r' seen) (gl seen) fu' 0 (⟨n,to,l⟩:Ph).n.Nx (⟨n,to,l⟩:Ph).n.Nw (⟨n,to,l⟩:Ph).to (⟨n,to,l⟩:Ph).list=_:=hz
     rw[hz',CP]
def rts (n:Nq) (s t:Int):List Nv:=au n.Nw s [] (pth n.Nw t n.Nx.length [s] s [])
theorem tW {n:Nq} (hn:NetF n) {s:Int} (h0:0≤s) (h1:s<(n.Nx.length:Int)) (t:Int):(∀a∈rts n s t,RtB n a)∧(rts n s t).length≤201:=by
 have hm:=hn.hi;refine jr _ (λp hp=>?_) (by simp) (by simp);obtain⟨g1,g2⟩:=so _ (λx hx=>by simp at hx) p hp;simp only[En]at g2;exact⟨by simp only; omega,g1,h0,h1⟩
theorem sK {fu:Nat} (hfu:2097200≤fu) {n:Nq} (hn:NetF n) (s t:Int) (h0:0≤s) (h1:s<(n.Nx.length:Int)):ew fu n s t=some (if (rts n s t).length≤200 then (rts n s t,true) else ([],false)):=by
 have hm:=hn.hi;have hlo:=hn.lo;have hB:=tW hn h0 h1 t;unfold ew;rw[ext_eq hn t n.Nx.length (by omega) [] ⟨s,[]⟩ [s] (by simp; omega) (by omega) (by simp) (by simpa using ⟨h0,h1⟩) (by simp) (λx hx=>by simp at hx) h0 h1 (by simp) (by simp),CP];show (if decide (((rts n s t).length:Int) > 200)=true then _ else (app ([]:List Nv) (rts n s t)).bind _)=_
 by_cases h:(rts n s t).length≤200;rw[if_neg (by simp; omega),bT (by omega),if_pos h]; rfl;rw[if_pos (by simp; omega),if_neg h]
def dU (n:Nq) (s t:Int):Bool:=eq n&&(decide (0≤s∧s<(n.Nx.length:Int))&&(decide (0≤t∧t<(n.Nx.length:Int))&&s != t))
theorem ra {fu:Nat} (hfu:2097153≤fu) (n:Nq) (s t:Int) (hB:NetB n):dN fu n s t=some (dU n s t):=by
 have hm:=hB.1.1;unfold dN dU;rw[iH hfu n hB,CP];cases hn:eq n
 rfl;have e:∀x:Int,(decide (0≤x)&&decide (x≤w64 ((n.Nx.length:Int) - 1)))=decide (0≤x∧x<(n.Nx.length:Int)):=λx=>by
   rw[vq (n:=(n.Nx.length:Int) - 1) (by omega) (by omega),DD]
   simp only[CW,decide_eq_true_eq]
   omega
 simp only[eW,e,CP,if_true];cases decide (0≤s∧s<(n.Nx.length:Int)) <;> cases decide (0≤t∧t<(n.Nx.length:Int)) <;> rfl
theorem lC {fu:Nat} (hfu:2097200≤fu) (n:Nq) (s t:Int) (hB:NetB n):aA fu n s t=some (if dU n s t=true∧(rts n s t).length≤200 then (rts n s t,true) else ([],false)):=by
 unfold aA;rw[ra (by omega) n s t hB,CP];cases hp:dU n s t
 rfl;have hp':=hp;unfold dU at hp';simp only[CW,decide_eq_true_eq]at hp';rw[if_neg (by decide),sK hfu (netF hp'.1) s t hp'.2.1.1 hp'.2.1.2,CP];by_cases h:(rts n s t).length≤200;rw[if_pos h,if_pos ⟨rfl,h⟩];rw[if_neg h,if_neg λc=>h c.2]
end AT
namespace AT
variable {s i n:Nat}
theorem tT (hs:s<256) (hi:i<8):band ((s / 2 ^ i:Nat):Int) 1=if s.testBit i=true then 1 else 0:=by
 have:∀s:Fin 256,∀i:Fin 8,band ((s.1 / 2 ^ i.1:Nat):Int) 1=if s.1.testBit i.1=true then 1 else 0:=by decide +kernel
 exact this ⟨s,hs⟩ ⟨i,hi⟩
theorem wP (hs:s<256) (hi:i<8) (h:s.testBit i=false):bor (s:Int) ((2 ^ i:Nat):Int)=((s + 2 ^ i:Nat):Int):=by
 have:∀s:Fin 256,∀i:Fin 8,s.1.testBit i.1=false→bor (s.1:Int) ((2 ^ i.1:Nat):Int)=((s.1 + 2 ^ i.1:Nat):Int):=by decide +kernel
 exact this ⟨s,hs⟩ ⟨i,hi⟩ h
theorem wQ {j:Nat} (hs:s<256) (hi:i<8) (hj:j<8) (h:s.testBit i=false):(s + 2 ^ i).testBit j=(s.testBit j||decide (i=j)):=by
 have:∀s:Fin 256,∀i:Fin 8,∀j:Fin 8,s.1.testBit i.1=false→(s.1 + 2 ^ i.1).testBit j.1=(s.1.testBit j.1||decide (i.1=j.1)):=by decide +kernel
 exact this ⟨s,hs⟩ ⟨i,hi⟩ ⟨j,hj⟩ h
theorem tt (hn:n≤8):1≤2 ^ n∧2 ^ n≤256:=by
 have:∀n:Fin 9,1≤2 ^ n.1∧2 ^ n.1≤256:=by decide +kernel
 exact this ⟨n,by omega⟩
theorem Bf (hn:n≤8) (hs:s<2 ^ n) (hi:i<n) (h:s.testBit i=false):s + 2 ^ i<2 ^ n:=by
 have:∀n:Fin 9,∀s:Fin 256,∀i:Fin 8,s.1<2 ^ n.1→i.1<n.1→s.1.testBit i.1=false→s.1 + 2 ^ i.1<2 ^ n.1:=by decide +kernel
 have h2:=(tt hn).2;exact this ⟨n,by omega⟩ ⟨s,by omega⟩ ⟨i,by omega⟩ hs hi h
theorem tr (h:n≤8):shl 1 (n:Int)=some ((2 ^ n:Nat):Int):=by
 have:∀n:Fin 9,shl 1 ((n:Nat):Int)=some ((2 ^ (n:Nat):Nat):Int):=by decide +kernel
 exact this ⟨n,by omega⟩
theorem wO (s i:Nat) (hi:i≤64):shr (s:Int) (i:Int)=some ((s / 2 ^ i:Nat):Int):=by
 unfold shr;rw[if_neg (by omega),Ek,D7 hi,Int.fdiv_eq_ediv_of_nonneg _ (Int.pow_nonneg (by omega))];congr 1
end AT
namespace AT
theorem j8 {α β:Type} {f:α→List β} {b:Nat}:∀(l:List α),(∀a∈l,(f a).length≤b)→(l.flatMap f).length≤l.length * b
  | [],_=>by simp
  | a::l,h=>by
    rw[Dm,C3,Dz,Er]
    have h1:=h a Ds
    have h2:=j8 l λx hx=>h x (Df _ hx)
    omega
theorem nM {F:List Nt} (hF:F.length≤14) (to:Int):∀(k:Nat) (seen:List Int) (v:Int) (fs:List Int),(pth F to k seen v fs).length≤14 ^ k
  | 0,_,_,_=>by simp [pth]
  | k + 1,seen,v,fs=>by
    by_cases hv:v=to
    · rw[pth,if_pos hv]
      exact Nat.one_le_pow _ _ (by omega)
    · rw[ox hv,Nat.pow_succ,Fv]
      refine DU (j8 (b:=14 ^ k) _ λi _=>?_) ?_
      · split
        · exact nM hF to k _ _ _
        · exact Es _
      · rw[D5]
        exact Dc _ hF
theorem Ap {fu:Nat} (l:List Int) (h:l.length≤2097152):yE fu l=some l:=by
 have hc:app ([]:List Int) l=some l:=by unfold app; rw[if_pos (by simp; omega)]; rfl
 unfold yE;rw[hc];unfold iN;cases l <;> simp
def pthB (F:List Nt) (to:Int) (k:Nat) (seen:List Int) (v:Int) (fs:List Int) (i:Nat):List (List Int):=if 0≤oth (gd F i f0) v∧(seen.any λx=>x==oth (gd F i f0) v)=false then pth F to k (seen++[oth (gd F i f0) v]) (oth (gd F i f0) v) (fs++[(i:Int)]) else []
variable {F:List Nt} {n:Nq} {fu:Nat} {a b:Nv}
theorem sp (hF:F.length≤14) {to:Int} {k:Nat} {seen:List Int} {v:Int} {fs:List Int} (i:Nat):(pthB F to k seen v fs i).length≤14 ^ k:=by
 unfold pthB;split
 exact nM hF _ _ _ _ _;exact Es _
theorem qO (hn:NetF n) {i:Nat} (hi:i<n.Nw.length) {v:Int} (h:0≤oth (gd n.Nw i f0) v):oth (gd n.Nw i f0) v<(n.Nx.length:Int):=by
 have hev:=hn.each _ (eN f0 hi);have hom:=nN h;omega
theorem qL (hn:NetF n) (to from_ v:Int) (s:Nat) (fs seen:List Int) (k:Nat) (rec_:Int→Int→List Int→Int→List Nv→Int→Nq→Option (List Nv)) (hs:s<256) (hb:∀j:Nat,j<n.Nx.length→s.testBit j=seen.any λx=>x==(j:Int)) (hfs:fs.length≤1000)
    (hrec:∀(i:Nat) (acc:List Nv),i<n.Nw.length→0≤oth (gd n.Nw i f0) v→(seen.any λx=>x==oth (gd n.Nw i f0) v)=false→acc.length + 14 ^ k≤1099511627776 →
      rec_ (oth (gd n.Nw i f0) v) ((s + 2 ^ (oth (gd n.Nw i f0) v).toNat:Nat):Int) (fs++[(i:Int)]) to acc from_ n=some (acc++(pth n.Nw to k (seen++[oth (gd n.Nw i f0) v]) (oth (gd n.Nw i f0) v) (fs++[(i:Int)])).map λp=>(⟨from_,p⟩:Nv))) :
    ∀(fk i:Nat) (acc:List Nv),i≤n.Nw.length→n.Nw.length - i<fk→acc.length + (n.Nw.length - i) * 14 ^ k≤1099511627776 →
      ∃z,vm fu v (s:Int) fs to from_ n rec_ fk i acc=some (z,acc++(((List.range n.Nw.length).drop i).flatMap (pthB n.Nw to k seen v fs)).map λp=>(⟨from_,p⟩:Nv)):=by
 have hff:=hn.fib;have hnn:=hn.hi;intro fk;induction fk with
 | zero=>intro i _ _ h; omega
 | succ fk ih =>
   intro i acc hi hk hl
   rw[vm]
   by_cases h:i<n.Nw.length
   · have hdr:(List.range n.Nw.length).drop i=i::(List.range n.Nw.length).drop (i + 1):=by
       rw[←C7 (by rw[D5]; exact h),DZ]
     have hsub:(n.Nw.length - i) * 14 ^ k=14 ^ k + (n.Nw.length - (i + 1)) * 14 ^ k:=by
       rw[show n.Nw.length - i=(n.Nw.length - (i + 1)) + 1 by omega,Er,FN]
     have hbl:=sp (F:=n.Nw) hff (to:=to) (k:=k) (seen:=seen) (v:=v) (fs:=fs) i
     rw[if_pos (by simpa using h),zH f0 h,CP,jP,CP,hdr,Dm,Gw,←CX,vV h (by omega)]
     by_cases h0:0≤oth (gd n.Nw i f0) v
     · have hlt:=qO hn h h0
       obtain⟨y,hy⟩:∃y:Nat,oth (gd n.Nw i f0) v=(y:Int):=⟨(oth (gd n.Nw i f0) v).toNat,by omega⟩
       have hrec':=hrec i
       have hpB:pthB n.Nw to k seen v fs i=if (seen.any λx=>x==(y:Int))=false then pth n.Nw to k (seen++[(y:Int)]) (y:Int) (fs++[(i:Int)]) else []:=by
         unfold pthB
         rw[hy]
         by_cases hs2:(seen.any λx=>x==(y:Int))=false
         · rw[if_pos ⟨FC y,hs2⟩,if_pos hs2]
         · rw[if_neg (λh=>hs2 h.2),if_neg hs2]
       rw[hy]at hlt hrec' h0 ⊢
       have hy8:y<8:=by omega
       have hbit:=hb y (by omega)
       rw[if_pos (by simp),wO s y (by omega),CP,tT hs hy8,CP,tr (by omega),CP]
       by_cases ht:s.testBit y=true
       · have hsn:(seen.any λx=>x==(y:Int))=true:=by rw[←hbit]; exact ht
         rw[if_pos ht,if_neg (by decide)]
         rw[hpB,if_neg (by rw[hsn]; decide),Ga,Db]
         exact ih (i + 1) acc h (by omega) (by omega)
       · have ht':s.testBit y=false:=by simpa using ht
         have hsn:(seen.any λx=>x==(y:Int))=false:=by rw[←hbit]; exact ht'
         rw[if_neg ht,if_pos (by decide),yc (by rw[C4]; omega),CP,wP hs hy8 ht']
         have h5:=hrec' acc h h0 hsn (by omega)
         rw[Ek]at h5
         rw[h5,CP,hpB,if_pos hsn]
         refine ih (i + 1) _ h (by omega) ?_
         rw[hpB,if_pos hsn]at hbl
         rw[C3,DT]
         omega
     · rw[if_neg (by simpa using h0),CP,if_neg C9]
       have hpB:pthB n.Nw to k seen v fs i=[]:=by unfold pthB; rw[if_neg (λh=>h0 h.1)]
       rw[hpB,Ga,Db]
       exact ih (i + 1) acc h (by omega) (by omega)
   · obtain rfl:i=n.Nw.length:=by omega
     rw[if_neg (by simp),DN (by rw[D5]; exact Da _),Dy,Ga,Db]
     exact⟨_,rfl⟩
theorem sw (hn:NetF n) (to from_:Int):∀(k:Nat) {fu:Nat},2097153 + k≤fu→∀(acc:List Nv) (v:Int) (seen:List Int) (s:Nat) (fs:List Int),seen.length + k=n.Nx.length + 1→1≤k→seen.Nodup→(∀x∈seen,0≤x∧x<(n.Nx.length:Int))→fs.length + 1=seen.length→s<2 ^ n.Nx.length→(∀j:Nat,j<n.Nx.length→s.testBit j=seen.any λx=>x==(j:Int))→acc.length + 14 ^ k≤1099511627776 →
    vi fu v (s:Int) fs to acc from_ n=some (acc++(pth n.Nw to k seen v fs).map λp=>(⟨from_,p⟩:Nv)):=by
 have hm:=hn.hi;have hff:=hn.fib;intro k;induction k with
 | zero=>intro fu _ _ _ _ _ _ _ h; omega
 | succ k ih =>
   intro fu hfu acc v seen s fs hsl _ hnd hin hrf hsm hb hl
   obtain⟨fu',rfl⟩:∃f,fu=f + 1:=⟨fu - 1,by omega⟩
   have hs256:s<256:=by have:=(tt hm).2; omega
   have h14:1≤14 ^ (k + 1):=Nat.one_le_pow _ _ (by omega)
   rw[vi]
   unfold yI
   by_cases hv:v=to
   · rw[if_pos (by rw[beq_iff_eq]; exact hv),Ap fs (by omega),CP,yc (by rw[C4]; omega),pth,if_pos hv]
     rfl
   · rw[if_neg (by rw[beq_iff_eq]; exact hv),ox hv]
     have hsp:14 ^ (k + 1)=14 * 14 ^ k:=by rw[Nat.pow_succ,Fv]
     have hmul:n.Nw.length * 14 ^ k≤14 * 14 ^ k:=Dc _ hff
     obtain⟨z,hz⟩:=qL (fu:=fu') hn to from_ v s fs seen k (λat' seen fibers cap cap2 cap3 cap4=>vi fu' at' seen fibers cap cap2 cap3 cap4) hs256 hb (by omega)
       (λi acc' hi h0 hns hl'=>by
         have hlt:=qO hn hi h0
         obtain⟨y,hy⟩:∃y:Nat,oth (gd n.Nw i f0) v=(y:Int):=⟨(oth (gd n.Nw i f0) v).toNat,by omega⟩
         rw[hy]at hlt h0 hns ⊢
         have hyn:y<n.Nx.length:=by omega
         have hbit:s.testBit y=false:=by rw[hb y hyn]; exact hns
         have hnot:(y:Int)∉seen:=λhmem=>by
           rw[C6]at hns
           exact hns (C5.2 ⟨_,hmem,by simp⟩)
         have hnd':(seen++[(y:Int)]).Nodup:=C1.2 ⟨hnd,by simp,λa ha b hb=>by rw[C2]at hb; subst hb; exact λe=>hnot (e▸ha)⟩
         have hin':∀x∈seen++[(y:Int)],0≤x∧x<(n.Nx.length:Int):=λx hx=>by
           rcases CQ.1 hx with hx | hx
           · exact hin x hx
           · rw[C2]at hx; subst hx; omega
         have hsh:=gZ _ _ hnd' hin'
         rw[C3,C4]at hsh
         rw[Ek]
         refine ih (by omega) acc' (y:Int) (seen++[(y:Int)]) (s + 2 ^ y) (fs++[(i:Int)]) (by rw[C3,C4]; omega) (by omega) hnd' hin' (by simp only[C3,C4]; omega) (Bf hm hsm hyn hbit) (λj hj=>?_) hl'
         rw[wQ hs256 (by omega) (by omega) hbit,hb j hj,List.any_append]
         congr 1
         by_cases e:y=j
         · subst e; simp
         · simp [e]; omega) fu' 0 acc (by omega) (by omega) (by rw[Ex]; omega)
     rw[show ((0:Nat):Int)=0 from rfl,Di]at hz
     rw[hz,CP]
     rfl
theorem ng (hn:NetF n) (r:Nv) (hf:jp n r.Nw) (hl:r.Nw.length≤100):∀(fk i:Nat) (s:Int),i≤r.Nw.length→r.Nw.length - i<fk→0≤s→s≤5000 * (i:Int)→∃z,yy fu n r fk s i=some (s + lenR n.Nw (r.Nw.drop i),z):=by
 intro fk;induction fk with
 | zero=>intro i _ _ h; omega
 | succ fk ih =>
   intro i s hi hk h0 h1
   rw[yy]
   by_cases h:i<r.Nw.length
   · obtain⟨e1,e2⟩:=nT (hf _ (Dh h))
     have h2:=hn.each _ e2
     rw[if_pos (by simpa using h),vD h,CP,e1,CP,vV h (by omega),vq (by omega) (by omega),←C7 h,lenR]
     obtain⟨z,hz⟩:=ih (i + 1) (s + (gd n.Nw r.Nw[i].toNat f0).Pk) h (by omega) (by omega) (by omega)
     exact⟨z,by rw[hz]; congr 2; omega⟩
   · obtain rfl:i=r.Nw.length:=by omega
     rw[if_neg (by simp),Dn,lenR,Int.add_zero]
     exact⟨_,rfl⟩
theorem lc (hfu:2097153≤fu) {n:Nq} (hn:NetF n) (r:Nv) (hf:jp n r.Nw) (hl:r.Nw.length≤100):bu fu n r=some (lenR n.Nw r.Nw):=by
 obtain⟨z,hz⟩:=ng (fu:=fu) hn r hf hl fu 0 0 (by omega) (by omega) (by omega) (by omega);rw[show ((0:Nat):Int)=0 from rfl,Di,Int.zero_add]at hz;unfold bu;rw[hz]; rfl
theorem pQ (a b:List Int) (ha:a.length≤2097152):∀(fk i:Nat),i≤a.length→a.length - i<fk →
    ((vC fu a b fk i).bind λout=>out.on some λz=>if decide ((a.length:Int)<(b.length:Int)) then some (-1) else some 0)=some (cmpL (a.drop i) (b.drop i)):=by
 intro fk;induction fk with
 | zero=>intro i _ h; omega
 | succ fk ih =>
   intro i hi hk
   rw[vC]
   by_cases h:i<a.length
   · rw[if_pos (by simpa using h),vD h,CP,←C7 h]
     by_cases h2:i<b.length
     · rw[if_neg (by simpa using h2),vD h2,CP,i6,CP,←C7 h2,cmpL]
       by_cases hc:a[i]=b[i]
       · rw[if_pos hc,hc,(zv _ _).2 rfl,if_neg (by decide),vV h (by omega)]
         exact ih (i + 1) h (by omega)
       · have hne:cmpI a[i] b[i]≠0:=λe=>hc ((zv _ _).1 e)
         rw[if_neg hc,if_pos (by rw[bne_iff_ne]; exact hne)]
         rfl
     · rw[if_pos (by simp; omega),DN (show b.length≤i by omega)]
       rfl
   · obtain rfl:i=a.length:=by omega
     rw[if_neg (by simp),Dn]
     show (if decide ((a.length:Int)<(b.length:Int)) then some (-1) else some 0)=_
     by_cases h2:a.length<b.length
     · rw[if_pos (by simpa using h2),←C7 h2]; rfl
     · rw[if_neg (by simpa using h2),DN (by omega)]; rfl
theorem s6 (hfu:2097153≤fu) (a b:List Int) (ha:a.length≤2097152):zd fu a b=some (cmpL a b):=by
 have:=pQ (fu:=fu) a b ha fu 0 (by omega) (by omega);rw[show ((0:Nat):Int)=0 from rfl,Di,Di]at this;exact this
theorem iX (hfu:2097153≤fu) {n:Nq} (hn:NetF n) {a b:Nv} (ha:RtB n a) (hb:RtB n b):vw fu a b n=some (cmpR n.Nw a b):=by
 have a1:=ha.short;have b1:=hb.short;unfold vw aI;rw[lc hfu hn a ha.fib (by omega),lc hfu hn b hb.fib (by omega)];simp only[CP,i6,s6 hfu a.Nw b.Nw (by omega),Aj _ _ _ _ (show 4<fu by omega)];rfl
theorem dC (x y:Int):cmpI x y<0↔x<y:=by unfold cmpI; split <;> (try split) <;> omega
theorem rG (x y:Int):cmpI y x=- cmpI x y:=by unfold cmpI; split <;> (try split) <;> (try split) <;> omega
theorem iu:∀{a b:List Int},cmpL a b=0↔a=b
  | [],[]=>by simp [cmpL]
  | [],b::y=>by simp [cmpL]
  | a::x,[]=>by simp [cmpL]
  | a::x,b::y=>by
    unfold cmpL
    by_cases h:a=b
    · rw[if_pos h,iu,h]; simp
    · rw[if_neg h,zv]; simp [h]
theorem nv:∀(a b:List Int),cmpL b a=- cmpL a b
  | [],[]=>by simp [cmpL]
  | [],b::y=>by simp [cmpL]
  | a::x,[]=>by simp [cmpL]
  | a::x,b::y=>by
    unfold cmpL
    by_cases h:a=b
    · rw[if_pos h,if_pos h.symm]; exact nv x y
    · rw[if_neg h,if_neg (λe=>h e.symm)]; exact rG a b
theorem ln:∀{a b c:List Int},cmpL a b<0→cmpL b c<0→cmpL a c<0
  | [],b,[],h1,h2=>by
    cases b with
    | nil=>simp [cmpL]at h1
    | cons b y=>simp [cmpL]at h2
  | [],b,c::z,h1,h2=>by simp [cmpL]
  | a::x,[],c,h1,h2=>by simp [cmpL]at h1
  | a::x,b::y,[],h1,h2=>by simp [cmpL]at h2
  | a::x,b::y,c::z,h1,h2=>by
    unfold cmpL at h1 h2 ⊢
    by_cases e1:a=b
    · rw[if_pos e1]at h1
      by_cases e2:b=c
      · rw[if_pos e2]at h2
        rw[if_pos (e1.trans e2)]
        exact ln h1 h2
      · rw[if_neg e2,dC]at h2
        rw[if_neg (by omega),dC]
        omega
    · rw[if_neg e1,dC]at h1
      by_cases e2:b=c
      · rw[if_neg (by omega),dC]
        omega
      · rw[if_neg e2,dC]at h2
        rw[if_neg (by omega),dC]
        omega
theorem wl {a b c d:Int}:or4 a b c d<0↔a<0∨(a=0∧(b<0∨(b=0∧(c<0∨(c=0∧d<0))))):=by
 unfold or4;by_cases h1:a=0;by_cases h2:b=0;by_cases h3:c=0;by_cases h4:d=0 <;> simp [h1,h2,h3,h4]
 simp [h1,h2,h3];simp [h1,h2];simp [h1]
theorem mt:cmpR F a b<0↔lenR F a.Nw<lenR F b.Nw∨(lenR F a.Nw=lenR F b.Nw∧(a.Nw.length<b.Nw.length∨(a.Nw.length=b.Nw.length∧(cmpL a.Nw b.Nw<0∨(a.Nw=b.Nw∧a.Pq<b.Pq))))):=by
 unfold cmpR;rw[wl,dC,zv,dC,zv,iu,dC,Int.ofNat_lt,Int.natCast_inj]
theorem oP (F:List Nt) (a:Nv):¬cmpR F a a<0:=by
 rw[mt];have:=(iu (a:=a.Nw) (b:=a.Nw)).2 rfl;omega
theorem i9 {c:Nv} (h1:cmpR F a b<0) (h2:cmpR F b c<0):cmpR F a c<0:=by
  rw[mt]at *;have t:=@ln a.Nw b.Nw c.Nw;rcases h1 with h1 | ⟨e1,h1 | ⟨e2,h1 | ⟨e3,h1⟩⟩⟩ <;> rcases h2 with h2 | ⟨g1,h2 | ⟨g2,h2 | ⟨g3,h2⟩⟩⟩ <;> (try rw[e3]at *) <;> (try rw[←g3]at *) <;> (first | (left; omega) | (right; refine⟨by omega,?_⟩; first | (left; omega) | (right; refine⟨by omega,?_⟩; first | (left; first | assumption | exact t h1 h2) | (right; exact⟨rfl,by omega⟩))))
theorem oO (h1:¬cmpR F a b<0) (h2:¬cmpR F b a<0):a=b:=by
 rw[mt]at h1 h2;have h3:=nv a.Nw b.Nw;have e:a.Nw=b.Nw:=by
   rw[←iu]
   omega
 obtain⟨sa,fa⟩:=a;obtain⟨sb,fb⟩:=b;simp only at e;subst e;have h1':¬sa<sb:=λh=>h1 (.inr ⟨rfl,.inr ⟨rfl,.inr ⟨rfl,h⟩⟩⟩);have h2':¬sb<sa:=λh=>h2 (.inr ⟨rfl,.inr ⟨rfl,.inr ⟨rfl,h⟩⟩⟩);have:sa=sb:=by omega
 rw[this]
def RtS (F:List Nt) (l:List Nv):Prop:=l.Pairwise λa b=>¬cmpR F b a<0
theorem nf (F:List Nt) (l:List Nv) (r:Nv):∀i,(∀q,insN F l r i≤q→q<i→cmpR F r (gd l q rt0)<0)∧(insN F l r i=0∨¬cmpR F r (gd l (insN F l r i - 1) rt0)<0)
  | 0=>⟨λq h1 h2=>by omega,.inl rfl⟩
  | i + 1=>by
    unfold insN
    by_cases h:cmpR F r (gd l i rt0)<0
    · rw[if_pos h]
      obtain⟨h1,h2⟩:=nf F l r i
      refine⟨λq h3 h4=>?_,h2⟩
      by_cases e:q=i
      · rw[e]; exact h
      · exact h1 q h3 (by omega)
    · rw[if_neg h]
      exact⟨λq h3 h4=>by omega,.inr (by simpa using h)⟩
theorem s7 {c:Nv} (h1:¬cmpR F b a<0) (h2:¬cmpR F c b<0):¬cmpR F c a<0:=by
 intro h;by_cases h3:cmpR F a b<0;exact h2 (i9 h h3);have:=oO h3 h1;subst this;exact h2 h
theorem nQ {l:List Nv} (r:Nv) (h:RtS F l):RtS F (insR F l r):=by
 have hle:=lX F l r l.length;obtain⟨h1,h2⟩:=nf F l r l.length;unfold insR;generalize insN F l r l.length=j at hle h1 h2;have hs:RtS F (l.take j++l.drop j):=by rw[EA]; exact h
 obtain⟨s1,s2,s3⟩:=Fo.1 hs;refine Fo.2 ⟨s1,ED.2 ⟨λx hx=>?_,s2⟩,λa ha b hb=>?_⟩;obtain⟨q,hq,rfl⟩:=Dp.1 hx;rw[Du]at hq;have:=h1 (j + q) (by omega) (by omega);rw[bM rt0 (by omega)]at this;rw[FL];exact λh=>oP F r (i9 this h);have har:¬cmpR F r a<0:=by
   rcases h2 with h2 | h2
   · subst h2; simp at ha
   · obtain⟨q,hq,rfl⟩:=Dp.1 ha
     rw[C0]at hq
     rw[DW]
     rw[bM rt0 (by omega)]at h2
     by_cases e:q=j - 1
     · subst e; exact h2
     · exact s7 (Ed.1 h q (j - 1) (by omega) (by omega) (by omega)) h2
 rcases De.1 hb with rfl | hb
 exact har;exact s3 a ha b hb
theorem jN (F:List Nt) (s:Int):∀(ps:List (List Int)) (l:List Nv),l.length + ps.length≤201→RtS F l→RtS F (au F s l ps)∧(au F s l ps).Perm (l++ps.map λp=>(⟨s,p⟩:Nv))
  | [],l,_,h=>⟨h,by simp [au]⟩
  | p::ps,l,hl,h=>by
    rw[Dz]at hl
    have e:au F s l (p::ps)=au F s (insR F l ⟨s,p⟩) ps:=by
      show au F s (if l.length≤200 then insR F l ⟨s,p⟩ else l) ps=_
      rw[if_pos (by omega)]
    rw[e]
    obtain⟨h1,h2⟩:=jN F s ps (insR F l ⟨s,p⟩) (by rw[ju]; omega) (nQ _ h)
    refine⟨h1,h2.trans ?_⟩
    rw[EJ]
    exact ((j0 F l ⟨s,p⟩).append_right _).trans Fu.symm
theorem iL (F:List Nt) (s:Int):∀(ps:List (List Int)) (l:List Nv),l.length≤201→(au F s l ps).length=min (l.length + ps.length) 201
  | [],l,h=>by show l.length=_; rw[En]; omega
  | p::ps,l,h=>by
    show (au F s (if l.length≤200 then insR F l ⟨s,p⟩ else l) ps).length=_
    rw[Dz]
    split
    · rw[iL F s ps _ (by rw[ju]; omega),ju]; omega
    · rw[iL F s ps _ h]; omega
theorem oX {α:Type} [DecidableEq α] {cmp:α→α→Option Int} {l:List α} (hF:SoF cmp l):∃r,jI cmp l=some r:=by
 unfold jI;rw[if_pos (soF.2 hF)];exact⟨_,rfl⟩
theorem oB {α:Type} {cmp:α→α→Option Int} {a b:α} {c:Int} (h:cmp a b=some c):ltO cmp a b=decide (c<0):=by
 unfold ltO;rw[h]
theorem soR (hfu:2097153≤fu) {n:Nq} (hn:NetF n) {l:List Nv} (hl:∀a∈l,RtB n a) (hlen:l.length≤1099511627776):SoF (λa b=>vw fu a b n) l:=by
 have e:∀a∈l,∀b∈l,ltO (λa b=>vw fu a b n) a b=decide (cmpR n.Nw a b<0):=λa ha b hb=>oB (iX hfu hn (hl a ha) (hl b hb));refine⟨λa ha=>?_,λa ha b hb h1 h2=>?_,λa ha b hb c hc h1 h2=>?_,λa ha b hb=>?_,by omega⟩;rw[e a ha a ha]; exact decide_eq_false (oP _ _);rw[e a ha b hb,decide_eq_false_iff_not]at h1;rw[e b hb a ha,decide_eq_false_iff_not]at h2;exact oO h1 h2;rw[e a ha b hb,decide_eq_true_eq]at h1;rw[e b hb c hc,decide_eq_true_eq]at h2;rw[e a ha c hc,decide_eq_true_eq];exact i9 h1 h2;rw[iX hfu hn (hl a ha) (hl b hb)]; rfl
theorem Be (hfu:2097153≤fu) {n:Nq} (hn:NetF n) {s:Int} {ps:List (List Int)} (hl:∀p∈ps,RtB n ⟨s,p⟩) (hlen:ps.length≤1099511627776):∃r,jI (λa b=>vw fu a b n) (ps.map λp=>(⟨s,p⟩:Nv))=some r∧r.length=ps.length∧(ps.length≤200→r=au n.Nw s [] ps):=by
 have hm:∀a∈ps.map (λp=>(⟨s,p⟩:Nv)),RtB n a:=λa ha=>by
   obtain⟨p,hp,rfl⟩:=Do.1 ha
   exact hl p hp
 have hF:=soR hfu hn hm (by rw[DT]; exact hlen);obtain⟨r,hr⟩:=oX hF;refine⟨r,hr,?_,λh=>?_⟩;have:=(lF hr).2.1.length_eq;rwa [DT]at this;obtain⟨h1,h2⟩:=jN n.Nw s ps [] (by rw[En]; omega) .nil;rw[Dt]at h2;have h3:=oa hF h2 (h1.imp_of_mem λha hb h=>by
   rw[oB (cmp:=λa b=>vw fu a b n) (iX hfu hn (hm _ (h2.mem_iff.1 hb)) (hm _ (h2.mem_iff.1 ha)))]
   exact decide_eq_false h)
 rw[hr]at h3;exact CS h3
theorem rj (n:Nq) (h1:2≤n.Nx.length) (h2:n.Nx.length≤8) (l:List Int) (hl:l.length≤100) (hfu:2097153≤fu):vc fu l n=some (l.any λv=>!(decide (0≤v)&&decide (v≤(n.Nx.length:Int) - 1))):=by
 unfold vc vH;rw[xr (l:=l) (G:=uE fu l n) (λv=>!(decide (0≤v)&&decide (v≤(n.Nx.length:Int) - 1))) (λi=>(i:Int)) (by omega)
   (λfk i hi=>by
     rw[uE,if_pos (by simpa using hi),vD hi]
     simp only[CP,cT,bA]
     rw[vq (n:=(n.Nx.length:Int) - 1) (by omega) (by omega)])
   (λfk=>by rw[uE,if_neg (by simp)]) fu (by omega)]
 cases h:l.any (λv=>!(decide (0≤v)&&decide (v≤(n.Nx.length:Int) - 1)));rfl;rw[if_pos rfl];show some (decide (((l.findIdx _:Nat):Int)≥0))=some true;rw[decide_eq_true (FC _)]
theorem rk (hfu:2097153≤fu) (n:Nq) (s t:Int) (hB:NetB n):((dY fu n [s,t]).bind λy=>if (!y)=true then some true else some (s==t))=some (!dU n s t):=by
 unfold dY dU;rw[kZ hfu n hB];simp only[CP];cases hn:eq n
 rfl;have hF:=netF hn;rw[if_pos rfl,rj n hF.lo hF.hi [s,t] (by simp) hfu];simp only[CP,FU,List.any_nil,Bool.or_false,Eo,Bool.not_or,Bool.not_not];by_cases h1:0≤s∧s<(n.Nx.length:Int);have e1:(decide (0≤s)&&decide (s≤(n.Nx.length:Int) - 1))=true:=by simp; omega
 by_cases h2:0≤t∧t<(n.Nx.length:Int);have e2:(decide (0≤t)&&decide (t≤(n.Nx.length:Int) - 1))=true:=by simp; omega
 rw[e1,e2,decide_eq_true h1,decide_eq_true h2];simp [bne];have e2:(decide (0≤t)&&decide (t≤(n.Nx.length:Int) - 1))=false:=by
   rw[C6]
   intro h
   simp only[CW,decide_eq_true_eq]at h
   omega
 rw[e1,e2,decide_eq_true h1,decide_eq_false h2];rfl;have e1:(decide (0≤s)&&decide (s≤(n.Nx.length:Int) - 1))=false:=by
   rw[C6]
   intro h
   simp only[CW,decide_eq_true_eq]at h
   omega
 rw[e1,decide_eq_false h1];rfl
theorem mb (hfu:2097200≤fu) (n:Nq) (s t:Int) (hB:NetB n):bL fu n s t=some (if dU n s t=true∧(rts n s t).length≤200 then (rts n s t,true) else ([],false)):=by
 unfold bL;have h:=rk (show 2097153≤fu by omega) n s t hB;rw[h,CP];cases hp:dU n s t
 rw[if_pos (by rfl),if_neg (λh=>by simp at h)];have hp':=hp;unfold dU at hp';simp only[CW,decide_eq_true_eq,bne_iff_ne]at hp';obtain⟨hn,⟨s0,s1⟩,ht,hne⟩:=hp';have hF:=netF hn;have hm:=hF.hi;have hlo:=hF.lo;obtain⟨sn,hsn⟩:∃k:Nat,s=(k:Int):=⟨s.toNat,by omega⟩;have hps:vi fu s ((2 ^ sn:Nat):Int) [] t [] s n=some ((pth n.Nw t n.Nx.length [s] s []).map λp=>(⟨s,p⟩:Nv)):=by
   have:=sw hF t s n.Nx.length (fu:=fu) (by omega) [] s [s] (2 ^ sn) [] (by simp; omega) (by omega) (by simp) (λx hx=>by rw[C2]at hx; subst hx; exact⟨s0,s1⟩) rfl (Nat.pow_lt_pow_right (by omega) (by omega)) (λj hj=>by
     rw[Nat.testBit_two_pow,FU,List.any_nil,Bool.or_false,hsn]
     by_cases e:sn=j
     · subst e; simp
     · simp [e]; omega) (by
     have:(14:Nat) ^ n.Nx.length≤14 ^ 8:=Fp (by omega) hm
     have e8:(14:Nat) ^ 8=1475789056:=by decide
     rw[En]; omega)
   rwa [Dt]at this
 have hpl:=nM hF.fib t n.Nx.length [s] s [];have h148:(14:Nat) ^ n.Nx.length≤14 ^ 8:=Fp (by omega) hm;have e8:(14:Nat) ^ 8=1475789056:=by decide
 have hpB:∀p∈pth n.Nw t n.Nx.length [s] s [],RtB n ⟨s,p⟩:=λp hp=>by
   obtain⟨g1,g2⟩:=so (n:=n) (to:=t) n.Nx.length (seen:=[s]) (v:=s) (fs:=[]) (λx hx=>by simp at hx) p hp
   exact⟨by simp only; simp only[En]at g2; omega,g1,s0,s1⟩
 obtain⟨r,hr,hrl,hr2⟩:=Be (fu:=fu) (by omega) hF hpB (by omega);have hlen:(rts n s t).length=min (pth n.Nw t n.Nx.length [s] s []).length 201:=by
   unfold rts
   rw[iL _ _ _ _ (by simp),En,DJ]
 rw[if_neg (by simp)];unfold aH uN;rw[if_pos (by rw[bne_iff_ne]; exact hne)];have hsh:shl 1 s=some ((2 ^ sn:Nat):Int):=by rw[hsn]; exact tr (by omega)
 rw[hsh,CP,hps,CP,hr];simp only[CP];by_cases h200:(pth n.Nw t n.Nx.length [s] s []).length≤200;rw[if_neg (by simp; omega),if_pos ⟨trivial,by omega⟩,hr2 h200];rfl;rw[if_pos (by simp; omega),if_neg (λh=>by omega)]
end AT
namespace AT
theorem rh {fu:Nat} (hfu:2097153≤fu) (r:Nj) (x:Nh) {n:Nq} (hL:r.Nz.Nk.length≤2097152) (hp:∀y∈r.Nz.Nk,LightF n y) (hx:LightF n x) (hD:r.Np.length≤2097152):dX fu r x=some (!meets x.Nv.Nw r.Np&&kI r.Nz.Nk x):=by
 have hxr:=hx.short;obtain⟨c,hc,hd⟩:=fV (fu:=fu) x.Nv.Nw r.Np (by omega) hx.nodup hD hfu;unfold dX uR uW;rw[hc,CP];have e:((c.length:Int)==0)=!meets x.Nv.Nw r.Np:=by
   rw[←hd,DD,beq_iff_eq,Dl,decide_eq_false_iff_not]
   omega
 rw[e];cases meets x.Nv.Nw r.Np
 rw[if_pos (by decide),xr (l:=r.Nz.Nk) (G:=uu fu r.Nz.Nk x) (λown=>own.Id != x.Id&&coll own x) (λi=>(i:Int)) (by omega)
   (λfk i hi=>by
     have h':(i:Int)<(r.Nz.Nk.length:Int):=by omega
     rw[uu]
     simp only[h',decide_true,if_true,vD hi,CP,cS,lj hfu (hp _ (Dh hi)) hx]
     cases r.Nz.Nk[i].Id != x.Id <;> simp)
   (λfk=>by rw[uu,if_neg (by simp)]) fu (by omega)]
 unfold kI;cases r.Nz.Nk.any λown=>own.Id != x.Id&&coll own x <;> simp [Out.on]
 rfl
end AT
namespace AT
structure Cur (c:Pz) (k:Int):Prop where
  by_:∀e∈c.code,0≤e.n∧e.n≤255
  len:c.code.length≤65536
  lo:0≤c.at_
  hi:c.at_≤k
theorem AW (q:Int):0≤iw q 255∧iw q 255≤255:=by
 unfold iw;have h:(BitVec.ofInt 64 q &&& BitVec.ofInt 64 255).toNat≤255:=by
   rw[BitVec.toNat_and]
   exact DU Nat.and_le_right (by decide)
 unfold wu64;omega
variable {fu:Nat} {c:Pz} {k:Int}
theorem qT (hc:Cur c k) (hk:k≤4611686018427387904):∃r c',zO fu c=some (r,c')∧0≤r∧r≤255∧Cur c' (k + 1):=by
 have h0:=hc.lo;have h1:=hc.hi;have hl:=hc.len;have e1:w64 (c.at_ + 1)=c.at_ + 1:=vq (by omega) (by omega);unfold zO;have hsh:∀x:Int,shrk 64 x 40=some (x.fdiv (2 ^ (min (40:Int).toNat 64))):=λx=>by unfold shrk; rw[if_neg (by omega)]
 simp only[e1,hsh,CP];have hcur:∀s,Cur ⟨c.code,c.at_ + 1,s⟩ (k + 1):=λs=>⟨hc.by_,hc.len,by simp only; omega,by simp only; omega⟩;have ha:∀q:Int,0≤w64 (iw q 255)∧w64 (iw q 255)≤255:=λq=>by
   have:=AW q
   rw[vq (by omega) (by omega)]; exact this
 by_cases h:c.at_<c.code.length;simp only[h,decide_true,if_true];obtain⟨e,he,hm⟩:=zt (l:=c.code) (i:=c.at_) h0 h;have hb:=hc.by_ e hm;have e2:w64 e.n=e.n:=vq (by omega) (by omega);simp only[he,CP,e2];split
 exact⟨_,_,rfl,hb.1,hb.2,hcur _⟩;exact⟨_,_,rfl,(ha _).1,(ha _).2,hcur _⟩;simp only[h,decide_false,CU,if_false];split
 exact⟨_,_,rfl,by omega,by omega,hcur _⟩;exact⟨_,_,rfl,(ha _).1,(ha _).2,hcur _⟩
theorem Cur.mono {k':Int} (hc:Cur c k) (h:k≤k'):Cur c k':=⟨hc.by_,hc.len,hc.lo,Int.le_trans hc.hi h⟩
theorem vW (hc:Cur c k) (hk:k≤4611686018427387000) (n:Int) (hn:n≤1099511627776):∃r c',uo fu c n=some (r,c')∧0≤r∧(1≤n→r<n)∧Cur c' (k + 2):=by
 unfold uo;by_cases h:n≤1;simp only[h,decide_true,if_true];exact⟨_,_,rfl,by omega,by omega,hc.mono (by omega)⟩;simp only[h,decide_false,CU,if_false];obtain⟨r,c',g1,g2,g3,g4⟩:=qT (fu:=fu) hc (by omega);simp only[g1,CP];have hr:∀x:Int,0≤x→∃q,rem x n=some q∧0≤q∧q<n:=λx hx=>by
   unfold rem
   rw[if_neg (by omega),Gd hx]
   exact⟨_,rfl,Int.emod_nonneg _ (by omega),Int.emod_lt_of_pos _ (by omega)⟩
 by_cases h2:n > 200;simp only[h2,decide_true,if_true];obtain⟨r2,c2,q1,q2,q3,q4⟩:=qT (fu:=fu) g4 (by omega);simp only[q1,CP];rw[vq (n:=r * 256) (by omega) (by omega),vq (by omega) (by omega)];obtain⟨q,p1,p2,p3⟩:=hr (r * 256 + r2) (by omega);rw[p1];exact⟨_,_,rfl,p2,λ_=>p3,q4.mono (by omega)⟩;simp only[h2,decide_false,CU,if_false];obtain⟨q,p1,p2,p3⟩:=hr r g2;rw[p1];exact⟨_,_,rfl,p2,λ_=>p3,g4.mono (by omega)⟩
theorem ix (hc:Cur c k) (hk:k≤4611686018427387000) (l:List Int) (h1:1≤l.length) (hn:l.length≤1099511627776):∃r c',xz fu c l=some (r,c')∧r∈l∧Cur c' (k + 2):=by
 unfold xz;obtain⟨r,c',g1,g2,g3,g4⟩:=vW (fu:=fu) hc hk (l.length:Int) (by omega);obtain⟨e,he,hm⟩:=zt (l:=l) (i:=r) g2 (g3 (by omega));simp only[g1,CP,he];exact⟨_,_,rfl,hm,g4⟩
theorem qi {code:List By} (h:∀e∈code,0≤e.n∧e.n≤255) (hl:code.length≤65536):Cur ⟨code,0,⟨0⟩⟩ 0:=⟨h,hl,EZ _,EZ _⟩
end AT
namespace AT
structure NetD (n:Nq):Prop where
  n1:1≤n.Nx.length
  n2:n.Nx.length≤20
  ns:∀e∈n.Nx,e.size≤100
  f2:n.Nw.length≤20
theorem NetD.B {n:Nq} (h:NetD n):NetB n:=⟨⟨by have:=h.n2; omega,λe he=>by have:=h.ns e he; omega⟩,by have:=h.f2; omega⟩
theorem Ah {a n:Int} (ha:0≤a) (hn:0<n):∃q,rem a n=some q∧0≤q∧q<n:=by
 unfold rem;rw[if_neg (by omega),Gd ha];exact⟨_,rfl,Int.emod_nonneg _ (by omega),Int.emod_lt_of_pos _ hn⟩
theorem app1 {α:Type} {l:List α} {x:α} (h:l.length≤1000000):app l [x]=some (l++[x]):=yc (by simp; omega)
theorem oG (fu:Nat) (a b:Int):∃r,bW fu a b=some r∧(r=a∨r=b):=by
 unfold bW; split <;> exact⟨_,rfl,by simp⟩
theorem qW (fu:Nat) (a b:Int):∃r,cG fu a b=some r∧(r=a∨r=b):=by
 unfold cG; split <;> exact⟨_,rfl,by simp⟩
variable {fu:Nat}
theorem pt (l:List Nt) (f:Nt) (hl:l.length≤1000000):∀(fk i:Nat),i≤l.length→l.length - i<fk→∃j:Nat,ab fu l f fk i=some (j:Int)∧j≤l.length:=by
 intro fk;induction fk with
 | zero=>intro i _ h; omega
 | succ fk ih =>
   intro i hi hf
   rw[ab]
   by_cases h:i<l.length
   · have hlt:((i:Int)<(l.length:Int))=True:=by simp; omega
     simp only[hlt,decide_true,if_true,vD h,CP,jX,vV h (show (l.length:Int)≤9223372036854775807 by omega)]
     split
     · exact ih (i + 1) h (by omega)
     · exact⟨i,rfl,hi⟩
   · have hlt:((i:Int)<(l.length:Int))=False:=by simp; omega
     simp only[hlt,decide_false,CU,if_false,CP]
     exact⟨i,rfl,hi⟩
theorem oJ (hfu:2097153≤fu) (l:List Nt) (f:Nt) (hl:l.length≤1000000):∃r,dE fu l f=some r∧r.length=l.length + 1:=by
 unfold dE;obtain⟨j,h1,h2⟩:=pt (fu:=fu) l f hl fu 0 (by omega) (by omega);have hs:sub l (j:Int) (l.length:Int)=some (l.drop j):=by
   unfold sub
   rw[if_pos (by omega)]
   simp
 rw[show ((0:Nat):Int)=0 from rfl]at h1;rw[h1,CP,d5 h2,CP,hs,CP,bT (by rw[C0]; omega),CP,yc (by rw[C0,C4]; omega),CP,yc (by rw[C3,C0,C4,Du]; omega),CP];refine⟨_,rfl,?_⟩;simp only[C3,C0,C4,Du];omega
theorem qV (hfu:2097153≤fu) (y:Int×Pz) (K:Nat) (hK:w64 (2 + y.1)=(K:Int)) (h2:2≤K) (h6:K≤6):∀(fk i:Nat) (m:List By) (m2:Int) (m3:U64) (l:List Nt) (k B:Int),Cur ⟨m,m2,m3⟩ k→k≤B + 10 * (i:Int)→B≤1000000000→l.length≤i→i≤K→K - i<fk →
    ∃i' m' a' s' l',vt fu y fk i m m2 m3 l=some (i',m',a',s',l')∧l'.length≤K∧Cur ⟨m',a',s'⟩ (B + 10 * (K:Int)):=by
 intro fk;induction fk with
 | zero=>intro i _ _ _ _ _ _ _ _ _ _ _ h; omega
 | succ fk ih =>
   intro i m m2 m3 l k B hc hk hB hl hi hf
   rw[vt,hK]
   by_cases h:i<K
   · have hlt:((i:Int)<(K:Int))=True:=by simp; omega
     have e:w64 ((i:Int) + 1)=((i + 1:Nat):Int):=vV h (by omega)
     obtain⟨q,hq,q0,q1⟩:=Ah (a:=((i + 1:Nat):Int)) (n:=(K:Int)) (by omega) (by omega)
     obtain⟨r1,c1,g1,-,-,k1⟩:=vW (fu:=fu) hc (by omega) 10 (by decide)
     simp only[hlt,decide_true,if_true,e,hq,CP,vB,g1]
     have k1':Cur ⟨c1.code,c1.at_,c1.seed⟩ (k + 2):=k1
     split
     · exact ih (i + 1) _ _ _ _ k B hc (by omega) hB (by omega) h (by omega)
     · split
       · exact ih (i + 1) _ _ _ _ (k + 2) B k1' (by omega) hB (by omega) h (by omega)
       · obtain⟨r3,g3,-⟩:=oG fu (i:Int) q
         obtain⟨r4,g4,-⟩:=qW fu (i:Int) q
         obtain⟨r5,c5,g5,-,-,k5⟩:=vW (fu:=fu) k1 (by omega) 8 (by decide)
         obtain⟨r6,c6,g6,-,k6⟩:=ix (fu:=fu) k5 (by omega) [0,0,0,1,2] (by decide) (by decide)
         obtain⟨r7,g7,h7⟩:=oJ hfu l ({ A:=r3,B:=r4,Pk:=w64 (100 * (w64 (1 + r5))),Pg:=r6 }:Nt) (by omega)
         simp only[g3,g4,g5,g6,g7,CP]
         exact ih (i + 1) _ _ _ _ (k + 2 + 2 + 2) B k6 (by omega) hB (by omega) h (by omega)
   · obtain rfl:i=K:=by omega
     have hlt:((i:Int)<(i:Int))=False:=by simp
     simp only[hlt,decide_false,CU,if_false]
     exact⟨_,_,_,_,_,rfl,hl,hc.mono (by omega)⟩
theorem qU (hfu:2097153≤fu) (y:Int×Pz) (K:Nat) (hK:w64 (2 + y.1)=(K:Int)) (h2:2≤K) (h6:K≤6):∀(fk n:Nat) (l:List Nt) (m:List By) (m2:Int) (m3:U64) (k B:Int),Cur ⟨m,m2,m3⟩ k→k≤B - 10 * (n:Int)→B≤1000000000→l.length + n≤9→n<fk →
    ∃i' l' m' a' s',vS fu y fk (n:Int) l m m2 m3=some (i',l',m',a',s')∧l'.length≤9∧l.length≤l'.length∧Cur ⟨m',a',s'⟩ B:=by
 intro fk;induction fk with
 | zero=>intro n _ _ _ _ _ _ _ _ _ _ h; omega
 | succ fk ih =>
   intro n l m m2 m3 k B hc hk hB hl hf
   rw[vS,hK]
   by_cases h:0<n
   · have hlt:((n:Int) > 0)=True:=by simp; omega
     have e:w64 ((n:Int) - 1)=((n - 1:Nat):Int):=dJ h (by omega)
     obtain⟨r1,c1,g1,-,-,k1⟩:=vW (fu:=fu) hc (by omega) (K:Int) (by omega)
     obtain⟨r2,c2,g2,-,-,k2⟩:=vW (fu:=fu) k1 (by omega) (K:Int) (by omega)
     simp only[hlt,decide_true,if_true,e,g1,g2,CP]
     split
     · obtain⟨r3,g3,-⟩:=oG fu r1 r2
       obtain⟨r4,g4,-⟩:=qW fu r1 r2
       obtain⟨r5,c5,g5,-,-,k5⟩:=vW (fu:=fu) k2 (by omega) 8 (by decide)
       obtain⟨r6,c6,g6,-,k6⟩:=ix (fu:=fu) k5 (by omega) [0,0,0,1,2] (by decide) (by decide)
       obtain⟨r7,g7,h7⟩:=oJ hfu l ({ A:=r3,B:=r4,Pk:=w64 (100 * (w64 (1 + r5))),Pg:=r6 }:Nt) (by omega)
       simp only[g3,g4,g5,g6,g7,CP]
       obtain⟨i',l',m',a',s',q1,q2,q3,q4⟩:=ih (n - 1) r7 _ _ _ (k + 2 + 2 + 2 + 2) B k6 (by omega) hB (by omega) (by omega)
       exact⟨i',l',m',a',s',q1,q2,by omega,q4⟩
     · exact ih (n - 1) _ _ _ _ (k + 2 + 2) B k2 (by omega) hB (by omega) (by omega)
   · obtain rfl:n=0:=by omega
     rw[if_neg (by simp)]
     exact⟨_,_,_,_,_,rfl,by omega,Da _,hc.mono (by omega)⟩
theorem kT (hfu:2097153≤fu) {c:Pz} {k:Int} (hc:Cur c k) (hk:k≤900000000):∃r c',yp fu c=some (r,c')∧NetD r∧r.Nx.length≤6∧r.Nw.length≤9∧Cur c' (k + 200):=by
 unfold yp;obtain⟨r1,c1,g1,p0,p1,k1⟩:=vW (fu:=fu) hc (by omega) 5 (by decide);have p2:=p1 (by decide);have hK:w64 (2 + r1)=(((2 + r1).toNat:Nat):Int):=by rw[vq (by omega) (by omega)]; omega
 have hK2:2≤(2 + r1).toNat:=by omega
 have hK6:(2 + r1).toNat≤6:=by omega
 obtain⟨i2,m2,a2,s2,l2,g2,h2,k2⟩:=qV hfu (r1,c1) (2 + r1).toNat hK hK2 hK6 fu 0 c1.code c1.at_ c1.seed [] (k + 2) (k + 2) k1 (by omega) (by omega) (by simp) (by omega) (by omega);obtain⟨r3,c3,g3,q0,q1,k3⟩:=vW (fu:=fu) k2 (by omega) 4 (by decide);have q2:=q1 (by decide);obtain⟨i4,l4,m4,a4,s4,g4,h4,-,k4⟩:=qU hfu (r1,c1) (2 + r1).toNat hK hK2 hK6 fu r3.toNat l2 c3.code c3.at_ c3.seed (k + 2 + 10 * ((2 + r1).toNat:Int) + 2) (k + 200) k3 (by omega) (by omega) (by omega) (by omega);rw[Gc]at g2;rw[Ec q0]at g4;simp only[g1,CP,hK];rw[d5 (by simp; omega)];simp only[g2,g3,g4,CP];refine⟨_,_,rfl,⟨by simp; omega,by simp; omega,λe he=>?_,by simp only; omega⟩,by simp; omega,h4,k4⟩;have he':=FW he;simp only[De,Ew,or_false]at he';rcases he' with rfl | rfl | rfl | rfl | rfl | rfl <;> decide
theorem q5 (hfu:2097153≤fu) {c:Pz} {k:Int} (hc:Cur c k) (hk:k≤900000000):∃r c',zQ fu c=some (r,c')∧NetD r∧1≤r.Nw.length∧Cur c' (k + 200):=by
 unfold zQ;obtain⟨r,c',g1,h1,h2,h3,k1⟩:=kT hfu hc hk;simp only[g1,CP];split
 rename_i h;have h0:r.Nw.length=0:=by simpa using h
 rw[app1 (by omega)];exact⟨_,_,rfl,⟨h1.n1,h1.n2,h1.ns,by simp; omega⟩,by simp,k1⟩;rename_i h;have h0:r.Nw.length≠0:=by simpa using h
 exact⟨_,_,rfl,h1,by omega,k1⟩
theorem nJ (hfu:2097153≤fu) (n:Nq) (y:Int×Pz) (seen:List Int) (hn:n.Nw.length≤1000000) (h1:1≤seen.length) (h2:seen.length≤1000000):∀(fk i:Nat) (o:List Int),i≤n.Nw.length→n.Nw.length - i<fk→o.length≤i→(∀e∈o,0≤e∧e<(n.Nw.length:Int)) →
    ∃l i',vA fu n y seen fk o i=some (l,i')∧l.length≤n.Nw.length∧∀e∈l,0≤e∧e<(n.Nw.length:Int):=by
 intro fk;induction fk with
 | zero=>intro i _ _ h; omega
 | succ fk ih =>
   intro i o hi hf ho hr
   rw[vA]
   by_cases h:i<n.Nw.length
   · have hlt:((i:Int)<(n.Nw.length:Int))=True:=by simp; omega
     have e1:w64 ((seen.length:Int) - 1)=((seen.length - 1:Nat):Int):=by rw[vq (by omega) (by omega)]; omega
     have hh:∀v,zK fu seen v=some (seen.any λx=>x==v):=λv=>eX seen v (by omega) (by omega)
     have ha:app o [(i:Int)]=some (o++[(i:Int)]):=app1 (by omega)
     simp only[hlt,decide_true,if_true,e1,vD (show seen.length - 1<seen.length by omega),CP,f9 fu n i _ h,hh,ha,vV h (show (n.Nw.length:Int)≤9223372036854775807 by omega)]
     have two:∀b:Bool,∃l i',(if b=true then vA fu n y seen fk (o++[(i:Int)]) ((i + 1:Nat):Int) else vA fu n y seen fk o ((i + 1:Nat):Int))=some (l,i')∧l.length≤n.Nw.length∧∀e∈l,0≤e∧e<(n.Nw.length:Int):=by
       intro b
       cases b
       · exact ih (i + 1) o h (by omega) (by omega) hr
       · refine ih (i + 1) _ h (by omega) (by simp; omega) λe he=>?_
         rcases CQ.1 he with he | he
         · exact hr e he
         · simp only[C2]at he
           omega
     split
     · exact two _
     · exact two false
   · obtain rfl:i=n.Nw.length:=by omega
     rw[if_neg (by simp)]
     exact⟨_,_,rfl,ho,hr⟩
theorem nK (hfu:2097153≤fu) (n:Nq) (y:Int×Pz) (hn:n.Nw.length≤1000):∀(fk m:Nat) (seen l:List Int) (b:List By) (a:Int) (s:U64) (k B:Int),Cur ⟨b,a,s⟩ k→k≤B - 2 * (m:Int)→B≤1000000000→1≤seen.length→seen.length + m≤1000→l.length + m≤4→(∀e∈l,0≤e∧e<(n.Nw.length:Int))→m<fk →
    ∃s2 m2 l' b' a' s',xB fu n y fk seen (m:Int) l b a s=some (s2,m2,l',b',a',s')∧l'.length≤4∧(∀e∈l',0≤e∧e<(n.Nw.length:Int))∧Cur ⟨b',a',s'⟩ B:=by
 intro fk;induction fk with
 | zero=>intro m _ _ _ _ _ _ _ _ _ _ _ _ _ _ h; omega
 | succ fk ih =>
   intro m seen l b a s k B hc hk hB hs1 hs2 hl hr hf
   rw[xB]
   by_cases h:0<m
   · have hlt:((m:Int) > 0)=True:=by simp; omega
     have e:w64 ((m:Int) - 1)=((m - 1:Nat):Int):=dJ h (by omega)
     obtain⟨z,zi,g1,z1,z2⟩:=nJ hfu n y seen (by omega) hs1 (by omega) fu 0 [] (by omega) (by omega) (by simp) (by simp)
     rw[Gc]at g1
     have e1:w64 ((seen.length:Int) - 1)=((seen.length - 1:Nat):Int):=by rw[vq (by omega) (by omega)]; omega
     simp only[hlt,decide_true,if_true,e,g1,CP]
     by_cases hz:z.length=0
     · have hz':((z.length:Int)==0)=true:=by simp [hz]
       simp only[hz',if_true]
       exact⟨_,_,_,_,_,_,rfl,by omega,hr,hc.mono (by omega)⟩
     · have hz':((z.length:Int)==0)=false:=by simpa using hz
       obtain⟨r1,c1,g2,p0,p1,k1⟩:=vW (fu:=fu) hc (by omega) (z.length:Int) (by omega)
       obtain⟨x,hx,hxm⟩:=zt (l:=z) (i:=r1) p0 (p1 (by omega))
       obtain⟨x0,x1⟩:=z2 x hxm
       have hxn:x=((x.toNat:Nat):Int):=by omega
       have ho:∀v,yh fu n x v=some (oth (gd n.Nw x.toNat f0) v):=λv=>by
         have:=f9 fu n x.toNat v (by omega)
         rwa [←hxn]at this
       simp only[hz',CU,if_false,g2,CP,hx,e1,vD (show seen.length - 1<seen.length by omega),ho,app1 (show l.length≤1000000 by omega),app1 (show seen.length≤1000000 by omega)]
       refine ih (m - 1) _ _ _ _ _ (k + 2) B k1 (by omega) hB (by simp) (by simp; omega) (by simp; omega) (λq hq=>?_) (by omega)
       rcases CQ.1 hq with hq | hq
       · exact hr q hq
       · simp only[C2]at hq
         omega
   · obtain rfl:m=0:=by omega
     rw[if_neg (by simp)]
     exact⟨_,_,_,_,_,_,rfl,by omega,hr,hc.mono (by omega)⟩
theorem og (hfu:2097153≤fu) {c:Pz} {k:Int} (hc:Cur c k) (hk:k≤900000000) {n:Nq} (hn:n.Nw.length≤1000) (hm:n.Nx.length≤1000):∃r c',ze fu c n=some (r,c')∧r.Nw.length≤4∧(∀e∈r.Nw,0≤e∧e<(n.Nw.length:Int))∧Cur c' (k + 20):=by
 unfold ze;obtain⟨r1,c1,g1,-,-,k1⟩:=vW (fu:=fu) hc (by omega) (n.Nx.length:Int) (by omega);obtain⟨r2,c2,g2,p0,p1,k2⟩:=vW (fu:=fu) k1 (by omega) 4 (by decide);have p2:=p1 (by decide);have e:w64 (1 + r2)=(((1 + r2).toNat:Nat):Int):=by rw[vq (by omega) (by omega)]; omega
 obtain⟨s3,m3,l3,b3,a3,t3,g3,h3,h4,k3⟩:=nK hfu n (r1,c1) hn fu (1 + r2).toNat [r1] [] c2.code c2.at_ c2.seed (k + 2 + 2) (k + 20) k2 (by omega) (by omega) (by simp) (by simp; omega) (by simp; omega) (by simp) (by omega);simp only[g1,g2,CP,e,g3];exact⟨_,_,rfl,h3,h4,k3⟩
theorem qE (hfu:2097153≤fu) {c:Pz} {k:Int} (hc:Cur c k) (hk:k≤900000000) {n:Nq} (h1:1≤n.Nw.length) (hn:n.Nw.length≤1000) (hm:n.Nx.length≤1000):∃r c',zM fu c n=some (r,c')∧1≤r.Nw.length∧r.Nw.length≤4∧(∀e∈r.Nw,0≤e∧e<(n.Nw.length:Int))∧Cur c' (k + 20):=by
 unfold zM;obtain⟨r,c',g1,h2,h3,k1⟩:=og hfu hc hk hn hm;simp only[g1,CP];split
 obtain⟨e,he,-⟩:=zt (l:=n.Nw) (i:=0) (EZ _) (by omega);rw[he];exact⟨_,_,rfl,by simp,by simp,by simp; omega,k1⟩;rename_i h;have h0:r.Nw.length≠0:=by simpa using h
 exact⟨_,_,rfl,by omega,h2,h3,k1⟩
theorem nX (hfu:2097153≤fu) {c:Pz} {k:Int} (hc:Cur c k) (hk:k≤900000000) {n:Nq} (hn:n.Nw.length≤1000) (hm:n.Nx.length≤1000):∃r c',yX fu c n=some (r,c')∧r.Nw.length≤5∧Cur c' (k + 30):=by
 unfold yX;obtain⟨r,c1,g1,h1,-,k1⟩:=og hfu hc hk hn hm;obtain⟨r2,c2,g2,-,-,k2⟩:=vW (fu:=fu) k1 (by omega) 16 (by decide);obtain⟨r3,c3,g3,-,-,k3⟩:=vW (fu:=fu) k2 (by omega) 8 (by decide);simp only[g1,g2,g3,CP,app1 (show r.Nw.length≤1000000 by omega)];split
 exact⟨_,_,rfl,by simp only; omega,k3.mono (by omega)⟩;split
 exact⟨_,_,rfl,by simp; omega,k3.mono (by omega)⟩;split
 exact⟨_,_,rfl,by simp,k2.mono (by omega)⟩;split
 split
 rename_i h;have h0:(1:Int)<r.Nw.length:=by simpa using h
 have e1:w64 ((r.Nw.length:Int) - 1)=((r.Nw.length - 1:Nat):Int):=by rw[vq (by omega) (by omega)]; omega
 simp only[e1,vD (show r.Nw.length - 1<r.Nw.length by omega),CP,app1 (show r.Nw.length≤1000000 by omega)];exact⟨_,_,rfl,by simp; omega,k2.mono (by omega)⟩;exact⟨_,_,rfl,by omega,k2.mono (by omega)⟩;exact⟨_,_,rfl,by omega,k2.mono (by omega)⟩
theorem tl {c:Pz} {k:Int} (hc:Cur c k) (hk:k≤900000000):∃r c',ap fu c=some (r,c')∧Cur c' (k + 10):=by
 unfold ap vB;obtain⟨r1,c1,g1,-,-,k1⟩:=vW (fu:=fu) hc (by omega) 12 (by decide);obtain⟨r2,c2,g2,-,-,k2⟩:=vW (fu:=fu) k1 (by omega) 26 (by decide);obtain⟨r3,c3,g3,-,-,k3⟩:=vW (fu:=fu) k2 (by omega) 27 (by decide);obtain⟨r4,c4,g4,p0,p1,k4⟩:=vW (fu:=fu) k1 (by omega) 6 (by decide);have p2:=p1 (by decide);obtain⟨r5,c5,g5,-,-,k5⟩:=vW (fu:=fu) k4 (by omega) (w64 ((w64 (24 - (w64 (1 + r4)))) + 1)) (by
   rw[vq (n:=1 + r4) (by omega) (by omega),vq (n:=24 - (1 + r4)) (by omega) (by omega),vq (by omega) (by omega)]; omega)
 simp only[g1,g2,g3,g4,g5,CP];split
 exact⟨_,_,rfl,k3.mono (by omega)⟩;exact⟨_,_,rfl,k5.mono (by omega)⟩
theorem Bn {c:Pz} {k:Int} (hc:Cur c k) (hk:k≤4611686018427387000) (l:List ByteArray) (h1:1≤l.length) (hn:l.length≤1099511627776):∃r c',ck fu c l=some (r,c')∧r∈l∧Cur c' (k + 2):=by
 unfold ck;obtain⟨r,c',g1,g2,g3,g4⟩:=vW (fu:=fu) hc hk (l.length:Int) (by omega);obtain⟨e,he,hm⟩:=zt (l:=l) (i:=r) g2 (g3 (by omega));simp only[g1,CP,he];exact⟨_,_,rfl,hm,g4⟩
theorem nY:∀(fk:Nat) (l:List Nt) (b:List By) (a:Int) (s:U64) (k B:Int),Cur ⟨b,a,s⟩ k→k≤B + 2 * (l.length:Int)→B≤1000000000→1≤l.length→l.length≤15→15 - l.length<fk →
    ∃l' b' a' s',vK fu fk l b a s=some (l',b',a',s')∧l'.length≤15∧Cur ⟨b',a',s'⟩ (B + 50):=by
 intro fk;induction fk with
 | zero=>intro l _ _ _ _ _ _ _ _ _ _ h; omega
 | succ fk ih =>
   intro l b a s k B hc hk hB h1 h2 hf
   rw[vK]
   obtain⟨r1,c1,g1,p0,p1,k1⟩:=vW (fu:=fu) hc (by omega) 2 (by decide)
   have p2:=p1 (by decide)
   have e:w64 (14 + r1)=14 + r1:=vq (by omega) (by omega)
   have e1:w64 ((l.length:Int) - 1)=((l.length - 1:Nat):Int):=by rw[vq (by omega) (by omega)]; omega
   simp only[g1,CP,e,e1,vD (show l.length - 1<l.length by omega),app1 (show l.length≤1000000 by omega)]
   split
   · rename_i h
     have h':(l.length:Int)<14 + r1:=by simpa using h
     exact ih _ _ _ _ (k + 2) B k1 (by simp; omega) hB (by simp) (by simp; omega) (by simp; omega)
   · exact⟨_,_,_,_,rfl,h2,k1.mono (by omega)⟩
theorem mz (hfu:2097153≤fu) {c:Pz} {k:Int} (hc:Cur c k) (hk:k≤800000000):∃r c',yi fu c=some (r,c')∧NetD r∧Cur c' (k + 500):=by
 unfold yi;obtain⟨n,c1,g1,h1,h2,h3,k1⟩:=kT hfu hc (by omega);simp only[g1,CP];by_cases h:n.Nw.length=0;have h':((n.Nw.length:Int)==0)=true:=by simp [h]
 simp only[h',if_true];exact⟨_,_,rfl,h1,k1.mono (by omega)⟩;have h':((n.Nw.length:Int)==0)=false:=by simpa using h
 obtain⟨r2,c2,g2,p0,p1,k2⟩:=vW (fu:=fu) k1 (by omega) (n.Nw.length:Int) (by omega);have p2:=p1 (by omega);obtain⟨e,he,-⟩:=zt (l:=n.Nw) (i:=r2) p0 p2;obtain⟨r3,c3,g3,-,-,k3⟩:=vW (fu:=fu) k2 (by omega) 24 (by decide);obtain⟨r4,c4,g4,m4,k4⟩:=Bn (fu:=fu) k3 (by omega) [(⟨#[98]⟩:ByteArray),ByteArray.empty,(⟨#[65]⟩:ByteArray),(⟨#[97,98,99,100,101,102,103,104]⟩:ByteArray),(⟨#[97,98,99,100,101,102,103,104,105]⟩:ByteArray),(⟨#[120,49]⟩:ByteArray)] (by simp) (by simp);obtain⟨r5,c5,g5,-,-,k5⟩:=vW (fu:=fu) k3 (by omega) 8 (by decide);obtain⟨r6,c6,g6,-,-,k6⟩:=vW (fu:=fu) k3 (by omega) 10 (by decide);obtain⟨r7,c7,g7,-,k7⟩:=ix (fu:=fu) k3 (by omega) [0,1,5000,5001] (by decide) (by decide);obtain⟨r8,c8,g8,-,k8⟩:=ix (fu:=fu) k3 (by omega) [(-1),9,10] (by decide) (by decide);obtain⟨e0,he0,-⟩:=zt (l:=n.Nw) (i:=0) (EZ _) (by omega);obtain⟨v0,hv0,-⟩:=zt (l:=n.Nx) (i:=0) (EZ _) (by have:=h1.n1; omega);obtain⟨l9,b9,a9,s9,g9,h9,k9⟩:=nY (fu:=fu) fu n.Nw c3.code c3.at_ c3.seed (k + 200 + 2 + 2) (k + 204) k3 (by omega) (by omega) (by omega) (by omega) (by omega);have hfs:∀f:Nt,NetD ⟨n.Nx,n.Nw.set r2.toNat f⟩:=λf=>⟨h1.n1,h1.n2,h1.ns,by simp only[CY]; exact h1.f2⟩;have ha:=app1 (x:=e0) (show n.Nw.length≤1000000 by omega);obtain⟨e9,he9,-⟩:=zt (l:=n.Nw++[e0]) (i:=r2) p0 (by simp; omega);have hn4:app n.Nx [(⟨#[112]⟩:ByteArray),(⟨#[113]⟩:ByteArray),(⟨#[114]⟩:ByteArray),(⟨#[115]⟩:ByteArray)]=some (n.Nx++[(⟨#[112]⟩:ByteArray),(⟨#[113]⟩:ByteArray),(⟨#[114]⟩:ByteArray),(⟨#[115]⟩:ByteArray)]):=yc (by simp; omega);simp only[h',CU,if_false,g2,g3,g4,g5,g6,g7,g8,g9,he,he0,hv0,ha,he9,hn4,CP];split
 refine⟨_,_,rfl,⟨by simp only[CY]; exact h1.n1,by simp only[CY]; exact h1.n2,λz hz=>?_,by simp only[CY]; exact h1.f2⟩,k4.mono (by omega)⟩;rcases EH hz with hz | rfl
 exact h1.ns z hz;simp only[De,Ew,or_false]at m4;rcases m4 with rfl | rfl | rfl | rfl | rfl | rfl <;> decide
 split
 exact⟨_,_,rfl,hfs _,k5.mono (by omega)⟩;split
 exact⟨_,_,rfl,hfs _,k6.mono (by omega)⟩;split
 exact⟨_,_,rfl,hfs _,k7.mono (by omega)⟩;split
 exact⟨_,_,rfl,hfs _,k8.mono (by omega)⟩;split
 exact⟨_,_,rfl,⟨h1.n1,h1.n2,h1.ns,by simp; omega⟩,k3.mono (by omega)⟩;split
 exact⟨_,_,rfl,⟨h1.n1,h1.n2,h1.ns,by simp only; omega⟩,k9.mono (by omega)⟩;split
 refine⟨_,_,rfl,⟨by simp,by simp; omega,λz hz=>?_,by simp only[CY]; exact h1.f2⟩,k3.mono (by omega)⟩;rcases CQ.1 hz with hz | hz
 exact h1.ns z hz;simp only[De,Ew,or_false]at hz;rcases hz with rfl | rfl | rfl | rfl <;> decide
 exact⟨_,_,rfl,hfs _,k3.mono (by omega)⟩
end AT
namespace AT
structure PlanD (p:Nz):Prop where
  net:NetD p.Nq
  ls:p.Nk.length≤20
  rs:∀x∈p.Nk,x.Nv.Nw.length≤20
theorem PlanD.B {p:Nz} (h:PlanD p):gu p:=⟨h.net.B,by have:=h.ls; omega,λx hx=>by have:=h.rs x hx; omega⟩
theorem sJ (fu:Nat) (r:Nv) (h:r.Nw.length≤2097152):cF fu r=some r:=by
 unfold cF ax;rw[bT (by omega)];rfl
variable {fu:Nat}
theorem qJ (hfu:2097153≤fu) (ns:List ByteArray) (fs:List Nt) (hn:NetD ⟨ns,fs⟩) (h1:1≤fs.length):∀(fk n:Nat) (L:List Nh) (b:List By) (a:Int) (s:U64) (k B:Int),Cur ⟨b,a,s⟩ k→k≤B - 50 * (n:Int)→B≤800000000→L.length + n≤8→(∀y∈L,yA y.Nd=true)→(∀y∈L,y.Nv.Nw.length≤4)→n<fk →
    ∃n' L' b' a' s',vN fu fk (n:Int) ns fs L b a s=some (n',ns,fs,L',b',a',s')∧L'.length≤8∧(∀y∈L',y.Nv.Nw.length≤4)∧Cur ⟨b',a',s'⟩ B:=by
 intro fk;induction fk with
 | zero=>intro n _ _ _ _ _ _ _ _ _ _ _ _ h; omega
 | succ fk ih =>
   intro n L b a s k B hc hk hB hl hb hr hf
   rw[vN]
   have f2:=hn.f2
   have n2:=hn.n2
   simp only at f2 n2
   by_cases h:0<n
   · have hlt:((n:Int) > 0)=True:=eq_true (by omega)
     have e:w64 ((n:Int) - 1)=((n - 1:Nat):Int):=dJ h (by omega)
     obtain⟨r3,c3,g3,q1,q2,q3,k3⟩:=qE hfu hc (by omega) (n:=⟨ns,fs⟩) h1 (by simp only; omega) (by simp only; omega)
     obtain⟨r4,c4,g4,p0,p1,k4⟩:=vW (fu:=fu) k3 (by omega) 5 (by decide)
     have p2:=p1 (by decide)
     have e4:w64 (1 + r4)=1 + r4:=vq (by omega) (by omega)
     have hal:=iQ hfu (⟨⟨ns,fs⟩,L⟩:Nz) r3 (by simp only; omega) hb (λx hx=>by have:=hr x hx; omega) (by omega)
     have hfi:=λm=>mZ hfu m (1 + r4) (by omega) (by omega)
     simp only[hlt,decide_true,if_true,e,g3,g4,CP,hal,e4,hfi]
     obtain⟨F,hF⟩:∃F,F=fits (along L r3.Nw) (1 + r4):=⟨_,rfl⟩
     simp only[←hF]
     have hm:∀t∈F,yA ⟨t,1 + r4⟩=true:=λt ht=>by
       rw[hF,ir (by omega) (by omega)]at ht
       unfold yA
       simp only[CW,decide_eq_true_eq]
       omega
     by_cases hz:F.length=0
     · have hz':((F.length:Int) > 0)=False:=eq_false (by omega)
       simp only[hz',decide_false,CU,if_false]
       exact ih (n - 1) L _ _ _ (k + 20 + 2) B k4 (by omega) hB (by omega) hb hr (by omega)
     · have hz':((F.length:Int) > 0)=True:=eq_true (by omega)
       obtain⟨e0,he0,hm0⟩:=zt (l:=F) (i:=0) (EZ _) (by omega)
       obtain⟨r5,c5,g5,-,-,k5⟩:=vW (fu:=fu) k4 (by omega) 2 (by decide)
       have hFl:F.length≤25:=by rw[hF]; exact sP _ _
       obtain⟨r6,c6,g6,p6,p7,k6⟩:=vW (fu:=fu) k5 (by omega) (F.length:Int) (by omega)
       obtain⟨e1,he1,hm1⟩:=zt (l:=F) (i:=r6) p6 (p7 (by omega))
       obtain⟨r7,c7,g7,-,-,k7⟩:=vW (fu:=fu) k6 (by omega) 3 (by decide)
       obtain⟨r8,c8,g8,-,-,k8⟩:=vW (fu:=fu) k5 (by omega) 3 (by decide)
       have hput:∀x:Nh,x.Nv=r3→ba fu (⟨⟨ns,fs⟩,L⟩:Nz) x=some (addP ⟨⟨ns,fs⟩,L⟩ x):=λx hx=>oI hfu _ x ⟨hn.B,by simp only; omega,λy hy=>by have:=hr y hy; omega⟩ (by rw[hx]; omega)
       simp only[hz',decide_true,if_true,he0,vB,g5,g6,he1,g7,g8,CP]
       have step:∀(x:Nh) (c:Pz) (k':Int),x.Nv=r3→yA x.Nd=true→Cur c k'→k'≤k + 30→∃n' L' b' a' s',((ba fu (⟨⟨ns,fs⟩,L⟩:Nz) x).bind λy=>vN fu fk ((n - 1:Nat):Int) y.Nq.Nx y.Nq.Nw y.Nk c.code c.at_ c.seed)=some (n',ns,fs,L',b',a',s')∧L'.length≤8∧(∀y∈L',y.Nv.Nw.length≤4)∧Cur ⟨b',a',s'⟩ B:=by
         intro x c k' hx hb' hc' hk'
         rw[hput x hx,CP]
         refine ih (n - 1) (putL L x) _ _ _ k' B hc' (by omega) hB (by rw[jq]; omega) (λy hy=>?_) (λy hy=>?_) (by omega)
         · rcases dz.1 hy with rfl | hy
           · exact hb'
           · exact hb y hy
         · rcases dz.1 hy with rfl | hy
           · rw[hx]; omega
           · exact hr y hy
       split
       · exact step _ c7 _ rfl (hm _ hm1) k7 (by omega)
       · exact step _ c8 _ rfl (hm _ hm0) k8 (by omega)
   · obtain rfl:n=0:=by omega
     rw[if_neg (by simp)]
     exact⟨_,_,_,_,_,rfl,by omega,hr,hc.mono (by omega)⟩
theorem qI (hfu:2097153≤fu) {c:Pz} {k:Int} (hc:Cur c k) (hk:k≤700000000):∃r c',zN fu c=some (r,c')∧PlanD r∧r.Nk.length≤8∧1≤r.Nq.Nw.length∧(∀x∈r.Nk,x.Nv.Nw.length≤4)∧Cur c' (k + 1000):=by
 unfold zN;obtain⟨n,c1,g1,h1,h2,k1⟩:=q5 hfu hc (by omega);obtain⟨r2,c2,g2,p0,p1,k2⟩:=vW (fu:=fu) k1 (by omega) 9 (by decide);have p2:=p1 (by decide);obtain⟨n',L',b',a',s',g3,h3,h4,k3⟩:=qJ hfu n.Nx n.Nw h1 h2 fu r2.toNat [] c2.code c2.at_ c2.seed (k + 200 + 2) (k + 1000) k2 (by omega) (by omega) (by simp; omega) (by simp) (by simp) (by omega);rw[Ec p0]at g3;simp only[g1,g2,g3,CP];exact⟨_,_,rfl,⟨h1,by simp only; omega,λx hx=>by have:=h4 x hx; omega⟩,h3,h2,h4,k3⟩
theorem nB (y:Nz×Pz) (h1:1≤y.1.Nq.Nw.length):∀(fk n:Nat) (L:List Nh) (b:List By) (a:Int) (s:U64) (k B:Int),Cur ⟨b,a,s⟩ k→k≤B + 2 * (n:Int)→B≤800000000→n≤14→L.length≤13→(∀y∈L,y.Nv.Nw.length≤20)→15 - n<fk →
    ∃n' L' b' a' s',xd fu y fk (n:Int) L b a s=some (n',L',b',a',s')∧L'.length≤13∧(∀y∈L',y.Nv.Nw.length≤20)∧Cur ⟨b',a',s'⟩ (B + 60):=by
 intro fk;induction fk with
 | zero=>intro n _ _ _ _ _ _ _ _ _ _ _ _ h; omega
 | succ fk ih =>
   intro n L b a s k B hc hk hB hn hl hr hf
   rw[xd]
   obtain⟨r1,c1,g1,p0,p1,k1⟩:=vW (fu:=fu) hc (by omega) 2 (by decide)
   have p2:=p1 (by decide)
   have e:w64 (12 + r1)=12 + r1:=vq (by omega) (by omega)
   have e1:w64 ((n:Int) + 1)=((n + 1:Nat):Int):=by rw[vq (by omega) (by omega)]; omega
   obtain⟨e0,he0,-⟩:=zt (l:=y.1.Nq.Nw) (i:=0) (EZ _) (by omega)
   have ha:∀x:Nh,app L [x]=some (L++[x]):=λx=>app1 (by omega)
   simp only[g1,CP,e,e1,he0,ha]
   split
   · rename_i h
     have h':(L.length:Int)<12 + r1:=by simpa using h
     split
     · rename_i h3
       have h3':(n:Int)<14:=by simpa using h3
       refine ih (n + 1) _ _ _ _ (k + 2) B k1 (by omega) hB (by omega) (by simp; omega) (λx hx=>?_) (by omega)
       rcases CQ.1 hx with hx | hx
       · exact hr x hx
       · simp only[C2]at hx; subst hx; simp
     · exact⟨_,_,_,_,_,rfl,hl,hr,k1.mono (by omega)⟩
   · exact⟨_,_,_,_,_,rfl,hl,hr,k1.mono (by omega)⟩
theorem pW (hfu:2097153≤fu) {c:Pz} {k:Int} (hc:Cur c k) (hk:k≤600000000):∃r c',zm fu c=some (r,c')∧PlanD r∧Cur c' (k + 3000):=by
 unfold zm;obtain⟨p,c1,g1,h1,h2,h3,h4,k1⟩:=qI hfu hc (by omega);simp only[g1,CP];by_cases h:p.Nk.length=0;have h':((p.Nk.length:Int)==0)=true:=by simp [h]
 simp only[h',if_true];exact⟨_,_,rfl,h1,k1.mono (by omega)⟩;have h':((p.Nk.length:Int)==0)=false:=by simpa using h
 obtain⟨r2,c2,g2,p0,p1,k2⟩:=vW (fu:=fu) k1 (by omega) (p.Nk.length:Int) (by omega);have p2:=p1 (by omega);obtain⟨e,he,hem⟩:=zt (l:=p.Nk) (i:=r2) p0 p2;obtain⟨r3,c3,g3,-,-,k3⟩:=vW (fu:=fu) k2 (by omega) 24 (by decide);obtain⟨r4,c4,g4,-,k4⟩:=ix (fu:=fu) k3 (by omega) [0,999,1000,1,4] (by decide) (by decide);obtain⟨r5,c5,g5,k5⟩:=tl (fu:=fu) k3 (by omega);obtain⟨r6,c6,g6,h6,k6⟩:=nX hfu k3 (by omega) (n:=p.Nq) (by have:=h1.net.f2; omega) (by have:=h1.net.n2; omega);obtain⟨r7,c7,g7,h7,k7⟩:=mz hfu k3 (by omega);obtain⟨n8,L8,b8,a8,s8,g8,l8,m8,k8⟩:=nB (fu:=fu) (p,c1) h3 fu 0 p.Nk c3.code c3.at_ c3.seed (k + 1000 + 2 + 2) (k + 1010) k3 (by omega) (by omega) (by omega) (by omega) (λx hx=>by have:=h4 x hx; omega) (by omega);rw[Gc]at g8;have hr:=h4 e hem;have hset:∀(x:Nh),x.Nv.Nw.length≤5→PlanD ⟨p.Nq,p.Nk.set r2.toNat x⟩:=λx hx=>⟨h1.net,by simp only[CY]; omega,λy hy=>by
   rcases EH hy with hy | rfl
   · have:=h4 y hy; omega
   · omega⟩
 have ha:app p.Nk [e]=some (p.Nk++[e]):=app1 (by omega);obtain⟨e9,he9,-⟩:=zt (l:=p.Nk++[e]) (i:=r2) p0 (by simp; omega);simp only[h',CU,if_false,g2,g3,g4,g5,g6,g7,g8,he,ha,he9,CP];split
 exact⟨_,_,rfl,hset _ (by simp only; omega),k4.mono (by omega)⟩;split
 exact⟨_,_,rfl,hset _ (by simp only; omega),k5.mono (by omega)⟩;split
 exact⟨_,_,rfl,hset _ (by simp only; omega),k6.mono (by omega)⟩;split
 refine⟨_,_,rfl,⟨h1.net,by simp; omega,λy hy=>?_⟩,k3.mono (by omega)⟩;rcases EH hy with hy | rfl
 rcases CQ.1 hy with hy | hy
 have:=h4 y hy; omega;simp only[C2]at hy; subst hy; omega;omega;split
 exact⟨_,_,rfl,⟨h7,by simp only[CY]; omega,(hset e (by omega)).rs⟩,k7.mono (by omega)⟩;split
 exact⟨_,_,rfl,⟨h1.net,by simp only; omega,m8⟩,k8.mono (by omega)⟩;exact⟨_,_,rfl,hset _ (by omega),k3.mono (by omega)⟩
end AT
