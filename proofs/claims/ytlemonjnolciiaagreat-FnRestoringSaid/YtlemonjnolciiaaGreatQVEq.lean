/- The draws of restorations come to an end, and what they yield is small. -/
import Derived.Test.YtlemonjnolciiaaGreatQDPlanA
import Derived.Test.YtlemonjnolciiaaGreatQRv
set_option linter.unusedSimpArgs false
set_option linter.unusedVariables false
namespace AT
def PlQ (L:List Nh):Prop:=∀x∈L,yA x.Nd=true∧x.Nv.Nw.length≤20
variable {L:List Nh} {fu:Nat}
theorem PlQ.B {N:Nq} (hN:NetB N) (h:PlQ L) (hl:L.length≤100):gu ⟨N,L⟩:=⟨hN,by simp only; omega,λx hx=>by have:=(h x hx).2; omega⟩
theorem tF {p:Nz} (h:yb p=true):PlQ p.Nk:=λx hx=>by
  have:=(ep h).light x hx
  exact⟨this.blk,by have:=this.short; omega⟩
theorem pe (hfu:2097200≤fu) (N:Nq) (L H:List Nh) (D:List Int) (hN:NetB N) (hQ:PlQ L) (hl:L.length≤100) (hD:D.length≤100) (x:Nh) (hx:yA x.Nd=true) (l:List Nv) (hL:∀a∈l,a.Nw.length≤7) (hll:l.length≤1000) (b:Bool):∀(fk i:Nat),i≤l.length→l.length - i<fk →
    (∃z,xA fu ⟨⟨N,L⟩,H,D⟩ x (l,b) fk i=some (.next z))∨∃y,xA fu ⟨⟨N,L⟩,H,D⟩ x (l,b) fk i=some (.ret (y,true))∧yA y.Nd=true∧y.Nv.Nw.length≤20:=by
 have hPB:=hQ.B hN hl;have hc:=hx;unfold yA at hc;simp only[CW,decide_eq_true_eq]at hc;intro fk;induction fk with
 | zero=>intro i _ h; omega
 | succ fk ih =>
   intro i hi hk
   rw[xA]
   by_cases h:i<l.length
   · cases b
     · rw[if_pos (by simpa using h),CP,if_neg C9]
       exact .inl ⟨_,rfl⟩
     · have ha:=hL _ (Dh h)
       have ei:idx l (i:Int)=some l[i]:=vD h
       have hal:=iQ (fu:=fu) (by omega) (⟨N,L⟩:Nz) l[i] hPB.2.1 (λy hy=>(hQ y hy).1) hPB.2.2 (by omega)
       have hwi:=vV h (show (l.length:Int)≤9223372036854775807 by omega)
       rw[if_pos (by simpa using h),CP,if_pos rfl]
       dsimp only
       rw[ei]
       simp only[CP,jA (fu:=fu) (by omega) l[i] D (show l[i].Nw.length≤2097152 by omega) (show D.length≤2097152 by omega),hal,mZ (fu:=fu) (by omega) _ x.Nd.Px hc.2.1 (show x.Nd.Px≤24 by omega),hwi]
       clear hwi
       cases meets l[i].Nw D
       · obtain⟨fs,hfs⟩:∃fs,fs=fits (along L l[i].Nw) x.Nd.Px:=⟨_,rfl⟩
         rw[if_neg C9,←hfs]
         by_cases hf:0<fs.length
         · have e0:idx fs 0=some (gd fs 0 0):=zH 0 hf
           have hm:=eN (l:=fs) (i:=0) 0 hf
           rw[hfs,ir hc.2.1 (by omega),←hfs]at hm
           rw[if_pos (by simpa using hf),e0]
           simp only[CP,sJ fu l[i] (show l[i].Nw.length≤2097152 by omega)]
           refine .inr ⟨_,rfl,?_,?_⟩
           · unfold yA
             simp only[CW,decide_eq_true_eq]
             omega
           · simp only; omega
         · rw[if_neg (by simpa using hf)]
           exact ih (i + 1) h (by omega)
       · rw[if_pos rfl]
         exact ih (i + 1) h (by omega)
   · obtain rfl:i=l.length:=by omega
     rw[if_neg (by simp),CP,if_neg C9]
     exact .inl ⟨_,rfl⟩
theorem sv (hfu:2097200≤fu) (N:Nq) (L H:List Nh) (D:List Int) (hN:NetB N) (hH:yb ⟨N,H⟩=true) (hQ:PlQ L) (hl:L.length≤100) (hD:D.length≤100) {x:Nh} (hx:x∈H):∃y b,cn fu ⟨⟨N,L⟩,H,D⟩ x=some (y,b)∧(b=true→yA y.Nd=true∧y.Nv.Nw.length≤20):=by
 have hPB:=hQ.B hN hl;have hF:=ep hH;have hxF:LightF N x:=hF.light x hx;have hxr:=hxF.short;have hnf:=netF hF.net;obtain⟨o,ho⟩:=hxF.route;have hfa:=fK hnf ho;have hal:=iQ (fu:=fu) (by omega) (⟨N,L⟩:Nz) x.Nv hPB.2.1 (λy hy=>(hQ y hy).1) hPB.2.2 (by omega);have hB:=tW hnf hfa.2.2.2.2.2.1 hfa.2.2.2.2.2.2 (endR N x.Nv);have hend:bf fu N x.Nv=some (endR N x.Nv):=iI (by omega) N x.Nv hN (by omega) (by rw[ho]; rfl);unfold cn;have hu:yW fu x.Nv D=some (meets x.Nv.Nw D):=jA (by omega) x.Nv D (by omega) (by omega);show ∃y b,(((yW fu x.Nv D).bind λy=>if (!y)=true then (z6 fu ⟨N,L⟩ x.Nv).bind λy2=>(yV fu x.Nd).bind λy3=>some (band y2 y3==0) else some false).bind _)=some (y,b)∧_
 rw[hu,hal,fM hxF.blk,CP];have hone:∃c,(if (!meets x.Nv.Nw D)=true then (some (along L x.Nv.Nw)).bind λy2=>(some (bits x.Nd)).bind λy3=>some (band y2 y3==0) else some false)=some c:=by
   cases meets x.Nv.Nw D <;> exact⟨_,rfl⟩
 obtain⟨c,hc⟩:=hone;rw[show (⟨N,L⟩:Nz).Nk=L from rfl,hc,CP];cases c
 rw[if_neg C9];show ∃y b,((bf fu N x.Nv).bind _)=some (y,b)∧_;rw[hend,CP];show ∃y b,((aA fu N x.Nv.Pq (endR N x.Nv)).bind _)=some (y,b)∧_;rw[lC hfu N _ _ hN,CP];obtain⟨q,hq⟩:∃q,q=(if dU N x.Nv.Pq (endR N x.Nv)=true∧(rts N x.Nv.Pq (endR N x.Nv)).length≤200 then (rts N x.Nv.Pq (endR N x.Nv),true) else ([],false)):=⟨_,rfl⟩
 rw[←hq];have hql:(∀a∈q.1,a.Nw.length≤7)∧q.1.length≤201:=by
   rw[hq]
   split
   · exact⟨λa ha=>(hB.1 a ha).short,hB.2⟩
   · simp
 rcases pe hfu N L H D hN hQ hl hD x hxF.blk q.1 hql.1 (by omega) q.2 fu 0 (by omega) (by omega) with ⟨z,hz⟩ | ⟨y,hz,h1,h2⟩
 rw[show ((0:Nat):Int)=0 from rfl]at hz;rw[show (q.1,q.2)=q from rfl]at hz;rw[hz];exact⟨_,_,rfl,λh=>by cases h⟩
 rw[show ((0:Nat):Int)=0 from rfl]at hz;rw[show (q.1,q.2)=q from rfl]at hz;rw[hz];exact⟨y,true,rfl,λ_=>⟨h1,h2⟩⟩;rw[if_pos rfl,ij fu x (by omega)];exact⟨x,true,rfl,λ_=>⟨hxF.blk,by omega⟩⟩
theorem PlQ.put {x:Nh} (h:PlQ L) (hx:yA x.Nd=true∧x.Nv.Nw.length≤20):PlQ (putL L x):=λy hy=>by
  rcases dz.1 hy with rfl | hy
  · exact hx
  · exact h y hy
theorem pa (hfu:2097200≤fu) (N:Nq) (L H:List Nh) (D:List Int) (hN:NetB N) (hH:yb ⟨N,H⟩=true) (hQ:PlQ L) (hl:L.length≤90) (hD:D.length≤100) {i:Int} (h0:0≤i) (h1:i<(H.length:Int)):∃L' b,zR fu ⟨⟨N,L⟩,H,D⟩ i=some (⟨⟨N,L'⟩,H,D⟩,b)∧PlQ L'∧L'.length≤L.length + 1:=by
 have hPB:=hQ.B hN (show L.length≤100 by omega);have h12:H.length≤12:=(ep hH).short;have hRB:RestB ⟨⟨N,L⟩,H,D⟩:=⟨hPB,⟨by simp only; omega,λx hx=>by have:=((ep hH).light x hx).short; omega⟩,by simp only; omega⟩;obtain⟨x,hx,hxm⟩:=zt (l:=H) (i:=i) h0 h1;obtain⟨y,b,hp,hy⟩:=sv hfu N L H D hN hH hQ (by omega) hD hxm;unfold zR;have hown:=ik (fu:=fu) (by omega) _ hRB;show ∃L' b,((idx H i).bind _)=some (_,b)∧_;rw[hx,CP,hp,CP,hown,CP];cases b
 exact⟨L,false,rfl,hQ,by omega⟩;have hyy:=hy rfl;rw[if_pos rfl,oI (by omega) _ y hPB (by omega),CP];exact⟨putL L y,true,rfl,hQ.put hyy,by rw[jq]; omega⟩
theorem tq (hfu:2097200≤fu) (r:Nj) (N:Nq) (H:List Nh) (D:List Int) (hN:NetB N) (hH:yb ⟨N,H⟩=true) (hD:D.length≤100) (hrH:r.Ng=H) (w:List Int) (hw:∀i∈w,0≤i∧i<(H.length:Int)) (hwl:w.length≤12):∀(fk i:Nat) (ids:List Int) (L:List Nh),i≤w.length→w.length - i<fk→PlQ L→L.length≤50 + i→ids.length≤i →
    ∃ids' z L',yf fu r w fk ids i N.Nx N.Nw L H D=some (ids',z,N.Nx,N.Nw,L',H,D)∧PlQ L'∧L'.length≤L.length + (w.length - i):=by
 intro fk;induction fk with
 | zero=>intro i _ _ _ h; omega
 | succ fk ih =>
   intro i ids L hi hk hQ hl hids
   rw[yf]
   by_cases h:i<w.length
   · have hm:=hw _ (Dh h)
     obtain⟨L',b,g1,g2,g3⟩:=pa hfu N L H D hN hH hQ (by omega) hD hm.1 hm.2
     obtain⟨x,hx,-⟩:=zt (l:=H) (i:=w[i]) hm.1 hm.2
     have hwi:=vV h (show (w.length:Int)≤9223372036854775807 by omega)
     have g1':zR fu ({ Nz:=({ Nq:=({ Nx:=N.Nx,Nw:=N.Nw }:Nq),Nk:=L }:Nz),Ng:=H,Np:=D }:Nj) w[i]=_:=g1
     rw[if_pos (by simpa using h),vD h,CP,g1',CP,hwi]
     clear hwi
     cases b
     · rw[if_neg C9]
       obtain⟨a1,a2,a3,a4,a5,a6⟩:=ih (i + 1) ids L' h (by omega) g2 (by omega) (by omega)
       exact⟨a1,a2,a3,a4,a5,by omega⟩
     · rw[if_pos rfl,CP,hrH,hx,CP,yc (by rw[C4]; omega),CP]
       obtain⟨a1,a2,a3,a4,a5,a6⟩:=ih (i + 1) (ids++[x.Id]) L' h (by omega) g2 (by omega) (by rw[C3,C4]; omega)
       exact⟨a1,a2,a3,a4,a5,by omega⟩
   · obtain rfl:i=w.length:=by omega
     rw[if_neg (by simp)]
     exact⟨_,_,_,rfl,hQ,by omega⟩
theorem mA (r:Nj) (hH:r.Ng.length≤1000) (hL:r.Nz.Nk.length<fu) (hL2:r.Nz.Nk.length≤2097152):∀(fk i:Nat) (o:List Int),i≤r.Ng.length→r.Ng.length - i<fk→o.length≤i→(∀e∈o,0≤e∧e<(r.Ng.length:Int)) →
    ∃o' z,xq fu r fk o i=some (o',z)∧o'.length≤r.Ng.length∧∀e∈o',0≤e∧e<(r.Ng.length:Int):=by
 intro fk;induction fk with
 | zero=>intro i _ _ h; omega
 | succ fk ih =>
   intro i o hi hk ho hr
   rw[xq]
   by_cases h:i<r.Ng.length
   · obtain⟨q,hq⟩:∃q,aO fu r.Nz r.Ng[i].Id=some q:=⟨_,mX r.Nz _ hL hL2⟩
     rw[if_pos (by simpa using h),vD h,CP,hq,CP,yc (by rw[C4]; omega),vV h (by omega)]
     by_cases hc:q<0
     · rw[if_pos (by simpa using hc),CP]
       refine ih (i + 1) (o++[(i:Int)]) h (by omega) (by simp; omega) λe he=>?_
       rcases CQ.1 he with he | he
       · exact hr e he
       · rw[C2]at he; subst he; omega
     · rw[if_neg (by simpa using hc)]
       exact ih (i + 1) o h (by omega) (by omega) hr
   · obtain rfl:i=r.Ng.length:=by omega
     rw[if_neg (by simp)]
     exact⟨_,_,rfl,ho,hr⟩
theorem AX (hfu:2097200≤fu) (N:Nq) (L H:List Nh) (D:List Int) (hN:NetB N) (hH:yb ⟨N,H⟩=true) (hQ:PlQ L) (hl:L.length≤40) (hD:D.length≤100):∃L' ids,aU fu ⟨⟨N,L⟩,H,D⟩=some (⟨⟨N,L'⟩,H,D⟩,ids)∧PlQ L'∧L'.length≤L.length + 12:=by
 have hPB:=hQ.B hN (show L.length≤100 by omega);have h12:H.length≤12:=(ep hH).short;have hRB:RestB ⟨⟨N,L⟩,H,D⟩:=⟨hPB,⟨by simp only; omega,λx hx=>by have:=((ep hH).light x hx).short; omega⟩,by simp only; omega⟩;obtain⟨w,z,hw,w1,w2⟩:=mA (fu:=fu) (⟨⟨N,L⟩,H,D⟩:Nj) (show H.length≤1000 by omega) (show L.length<fu by omega) (show L.length≤2097152 by omega) fu 0 [] (by omega) (show H.length - 0<fu by omega) (by simp) (by simp);obtain⟨ids,z2,L',g1,g2,g3⟩:=tq hfu (⟨⟨N,L⟩,H,D⟩:Nj) N H D hN hH hD rfl w w2 (DU w1 h12) fu 0 [] L (by omega) (by have:w.length≤H.length:=w1; omega) hQ (by omega) (by simp);rw[show ((0:Nat):Int)=0 from rfl]at hw g1;have w1':w.length≤H.length:=w1;unfold aU cm;rw[ik (fu:=fu) (by omega) _ hRB,CP,hw,CP,CP];show ∃L' ids,((yf fu (⟨⟨N,L⟩,H,D⟩:Nj) w fu [] 0 N.Nx N.Nw L H D).bind _)=_∧_;rw[g1];exact⟨L',ids,rfl,g2,by omega⟩
theorem nL (r:Nj) (fs:List Int) (hD:r.Np.length≤1000) (hf:fs.length<fu) (hf2:fs.length≤2097152):∀(fk i:Nat) (o:List Int),i≤r.Np.length→r.Np.length - i<fk→o.length≤i→∃z,xF fu r fs fk i o=some (z,o++(r.Np.drop i).filter λx=>!fs.any λy=>y==x):=by
 intro fk;induction fk with
 | zero=>intro i _ _ h; omega
 | succ fk ih =>
   intro i o hi hk ho
   rw[xF]
   by_cases h:i<r.Np.length
   · rw[if_pos (by simpa using h),vD h,CP,eX fs _ hf hf2,CP,vV h (by omega),←C7 h,D4]
     cases fs.any λy=>y==r.Np[i]
     · rw[if_pos (by decide),CP,yc (by rw[C4]; omega),CP,if_pos (by decide)]
       obtain⟨z,hz⟩:=ih (i + 1) (o++[r.Np[i]]) h (by omega) (by simp; omega)
       exact⟨z,by rw[hz,CX,DY]⟩
     · rw[if_neg (by decide),if_neg (by decide)]
       exact ih (i + 1) o h (by omega) (by omega)
   · obtain rfl:i=r.Np.length:=by omega
     rw[if_neg (by simp),Dn,Ff,Db]
     exact⟨_,rfl⟩
def repd (r:Nj) (fs:List Int):Nj:=⟨r.Nz,r.Ng,r.Np.filter λx=>!fs.any λy=>y==x⟩
theorem lD (hfu:2097153≤fu) (r:Nj) (fs:List Int) (hB:RestB r) (hD:r.Np.length≤1000) (hf:fs.length≤2097152):az fu r fs=some (repd r fs):=by
 obtain⟨z,hz⟩:=nL (fu:=fu) r fs hD (by omega) hf fu 0 [] (by omega) (by omega) (by simp);rw[show ((0:Nat):Int)=0 from rfl,Di,Dt]at hz;unfold az;rw[ik hfu r hB,CP,hz];rfl
theorem pv (l:List Int) (n:Int) (hl:l.length≤1000000):∀(fk i:Nat),i≤l.length→l.length - i<fk→∃k:Nat,ac fu l n fk i=some (k:Int)∧k≤l.length:=by
 intro fk;induction fk with
 | zero=>intro i _ h; omega
 | succ fk ih =>
   intro i hi hk
   rw[ac]
   by_cases h:i<l.length
   · rw[if_pos (by simpa using h),vD h,CP,CP,vV h (by omega)]
     split
     · exact ih (i + 1) h (by omega)
     · exact⟨i,rfl,hi⟩
   · rw[if_neg (by simpa using h),CP,if_neg C9]
     exact⟨i,rfl,hi⟩
theorem sL (hfu:2097153≤fu) (l:List Int) (n:Int) (hl:l.length≤1000000):∃r,ey fu l n=some r∧r.length≤l.length + 1:=by
 obtain⟨k,h1,h2⟩:=pv (fu:=fu) l n hl fu 0 (by omega) (by omega);rw[show ((0:Nat):Int)=0 from rfl]at h1;unfold ey;rw[h1,CP];have hc:∃c,(if decide ((k:Int)<(l.length:Int))=true then (idx l (k:Int)).bind λe2=>some (e2==n) else some false)=some c:=by
   by_cases h:k<l.length
   · rw[if_pos (by simpa using h),vD h]; exact⟨_,rfl⟩
   · rw[if_neg (by simpa using h)]; exact⟨_,rfl⟩
 obtain⟨c,hc⟩:=hc;rw[hc,CP];cases c
 have hs:sub l (k:Int) (l.length:Int)=some (l.drop k):=by
   unfold sub
   rw[if_pos (by omega)]
   simp
 rw[if_neg C9,d5 h2,CP,hs,CP,bT (by rw[C0]; omega),CP,yc (by rw[C0,C4]; omega),CP,yc (by rw[C3,C0,C4,Du]; omega),CP];exact⟨_,rfl,by rw[C3,C3,C0,C4,Du]; omega⟩;exact⟨l,rfl,by omega⟩
theorem pJ (hfu:2097153≤fu) (fs:List Int) (hf:fs.length≤1000):∀(fk i:Nat) (m:List Int),i≤fs.length→fs.length - i<fk→m.length≤1000 + i→∃z m',yY fu fs fk i m=some (z,m')∧m'.length≤m.length + (fs.length - i):=by
 intro fk;induction fk with
 | zero=>intro i _ _ h; omega
 | succ fk ih =>
   intro i m hi hk hm
   rw[yY]
   by_cases h:i<fs.length
   · obtain⟨r,r1,r2⟩:=sL hfu m fs[i] (by omega)
     rw[if_pos (by simpa using h),vD h,CP,r1,CP,vV h (by omega)]
     obtain⟨z,m',g1,g2⟩:=ih (i + 1) r h (by omega) (by omega)
     exact⟨z,m',g1,by omega⟩
   · obtain rfl:i=fs.length:=by omega
     rw[if_neg (by simp)]
     exact⟨_,_,rfl,by omega⟩
theorem tm {A B:List Nh} {x:Nh} (h:∀a∈A,a.Id≠x.Id):atId (A++x::B) x.Id=A.length:=by
 unfold atId;refine pG (by simp) (λj hj hji=>?_) (λhj=>?_);rw[List.getElem_append_left hji,beq_eq_false_iff_ne];exact h _ (Dh _);rw[List.getElem_append_right (Da _)];simp
theorem pI (hfu:2097153≤fu) (r:Nj) (hp:yb r.Nz=true) (hN:NetB r.Nz.Nq) (fs:List Int) (hf:fs.length≤2097152):∀(fk i:Nat) (lost:List Int) (A:List Nh),i≤r.Nz.Nk.length→r.Nz.Nk.length - i<fk→lost.length≤i→A.length≤i→(∀a∈A,a.Nv.Nw.length≤100)→(∀a∈A,∀j,i≤j→j<r.Nz.Nk.length→a.Id<(gd r.Nz.Nk j l0).Id) →
    ∃z,xL fu r fs fk lost i r.Nz.Nq.Nx r.Nz.Nq.Nw (A++r.Nz.Nk.drop i)=some (lost++idsL ((r.Nz.Nk.drop i).filter λx=>meets x.Nv.Nw fs),z,r.Nz.Nq.Nx,r.Nz.Nq.Nw,A++(r.Nz.Nk.drop i).filter λx=>!meets x.Nv.Nw fs):=by
 have hF:=ep hp;have h12:=hF.short;intro fk;induction fk with
 | zero=>intro i _ _ _ h; omega
 | succ fk ih =>
   intro i lost A hi hk hlo hA hAr hAi
   rw[xL]
   by_cases h:i<r.Nz.Nk.length
   · obtain⟨x,ex⟩:∃x,x=r.Nz.Nk[i]:=⟨_,rfl⟩
     have hx:=hF.light x (by rw[ex]; exact Dh h)
     have hxr:=hx.short
     have hxi:x=gd r.Nz.Nk i l0:=by rw[bM l0 h,ex]
     have hAx:∀a∈A,a.Id<x.Id:=λa ha=>by rw[hxi]; exact hAi a ha i (Da _) h
     have hwi:=vV h (show (r.Nz.Nk.length:Int)≤9223372036854775807 by omega)
     rw[if_pos (by simpa using h),vD h,←ex,CP,jA hfu x.Nv fs (by omega) hf,CP,hwi,←C7 h,←ex,D4,D4]
     clear hwi
     cases hm:meets x.Nv.Nw fs
     · rw[if_neg C9,if_neg C9,if_pos (by decide)]
       have:=ih (i + 1) lost (A++[x]) h (by omega) (by omega) (by simp; omega) (λa ha=>by
         rcases CQ.1 ha with ha | ha
         · exact hAr a ha
         · rw[C2]at ha; subst ha; omega) (λa ha j hj hj2=>by
         rcases CQ.1 ha with ha | ha
         · exact hAi a ha j (by omega) hj2
         · rw[C2]at ha; subst ha
           rw[hxi]
           exact (su hp).ids i j (by omega) hj2)
       rw[CX,DY,CX,DY]at this
       exact this
     · have hall:(A++x::r.Nz.Nk.drop (i + 1)).length=A.length + 1 + (r.Nz.Nk.length - (i + 1)):=by rw[C3,Dz,Du]; omega
       have hPB:gu ⟨r.Nz.Nq,A++x::r.Nz.Nk.drop (i + 1)⟩:=⟨hN,by simp only; omega,λy hy=>by
         rcases CQ.1 hy with hy | hy
         · have:=hAr y hy; omega
         · rcases De.1 hy with rfl | hy
           · omega
           · have:=(hF.light y (EK hy)).short; omega⟩
       have hhas:((A++x::r.Nz.Nk.drop (i + 1)).any λy=>y.Id==x.Id)=true:=C5.2 ⟨x,by simp,by simp⟩
       have hat:=tm (A:=A) (B:=r.Nz.Nk.drop (i + 1)) (x:=x) (λa ha=>by have:=hAx a ha; omega)
       have hfind:aO fu ({ Nq:=({ Nx:=r.Nz.Nq.Nx,Nw:=r.Nz.Nq.Nw }:Nq),Nk:=A++x::r.Nz.Nk.drop (i + 1) }:Nz) x.Id=some ((A.length:Nat):Int):=by
         rw[mX _ _ (by simp only; omega) (by simp only; omega)]
         simp only
         rw[if_pos hhas,hat]
       have hwo:aw fu ({ Nq:=({ Nx:=r.Nz.Nq.Nx,Nw:=r.Nz.Nq.Nw }:Nq),Nk:=A++x::r.Nz.Nk.drop (i + 1) }:Nz) ((A.length:Nat):Int)=some ⟨r.Nz.Nq,A++r.Nz.Nk.drop (i + 1)⟩:=by
         have:=mW hfu (⟨r.Nz.Nq,A++x::r.Nz.Nk.drop (i + 1)⟩:Nz) hPB (i:=A.length) (by simp only; omega)
         rw[show ((⟨r.Nz.Nq,A++x::r.Nz.Nk.drop (i + 1)⟩:Nz).Nk.eraseIdx A.length)=A++r.Nz.Nk.drop (i + 1) by
           show (A++x::r.Nz.Nk.drop (i + 1)).eraseIdx A.length=_
           rw[List.eraseIdx_append_of_length_le (Da _),Nat.sub_self]
           rfl]at this
         exact this
       rw[if_pos rfl,yc (by rw[C4]; omega),CP,hfind,CP,hwo,CP,if_pos rfl,if_neg (by decide)]
       obtain⟨z,hz⟩:=ih (i + 1) (lost++[x.Id]) A h (by omega) (by simp; omega) (by omega) hAr (λa ha j hj hj2=>hAi a ha j (by omega) hj2)
       refine⟨z,?_⟩
       show xL fu r fs fk (lost++[x.Id]) ((i + 1:Nat):Int) r.Nz.Nq.Nx r.Nz.Nq.Nw (A++r.Nz.Nk.drop (i + 1))=_
       rw[hz,CX,DY]
       rfl
   · obtain rfl:i=r.Nz.Nk.length:=by omega
     rw[if_neg (by simp),Dn,Ff,Ff,Db,show idsL []=[] from rfl,Db]
     exact⟨_,rfl⟩
theorem jH (hfu:2097153≤fu) (r:Nj) (fs:List Int) (hB:RestB r) (hp:yb r.Nz=true) (hD:r.Np.length≤1000) (hf:fs.length≤1000):∃D,aT fu r fs=some (⟨⟨r.Nz.Nq,r.Nz.Nk.filter λx=>!meets x.Nv.Nw fs⟩,r.Ng,D⟩,idsL (r.Nz.Nk.filter λx=>meets x.Nv.Nw fs))∧D.length≤r.Np.length + fs.length:=by
 have h12:=(ep hp).short;obtain⟨z,m',g1,g2⟩:=pJ hfu fs hf fu 0 r.Np (by omega) (by omega) (by omega);obtain⟨z2,hz2⟩:=pI hfu r hp hB.1.1 fs (by omega) fu 0 [] [] (by omega) (by omega) (by simp) (by simp) (by simp) (by simp);rw[show ((0:Nat):Int)=0 from rfl]at g1 hz2;rw[Di,Dt,Dt,Dt]at hz2;unfold aT;rw[ik hfu r hB,CP,g1,CP,hz2];exact⟨m',rfl,by omega⟩
structure NetZ (n:Nq):Prop where
  n2:n.Nx.length≤20
  ns:∀e∈n.Nx,e.size≤100
  f2:n.Nw.length≤20
theorem NetD.z {n:Nq} (h:NetD n):NetZ n:=⟨h.n2,h.ns,h.f2⟩
theorem NetZ.B {n:Nq} (h:NetZ n):NetB n:=⟨⟨by have:=h.n2; omega,λe he=>by have:=h.ns e he; omega⟩,by have:=h.f2; omega⟩
structure RestD (r:Nj):Prop where
  net:NetZ r.Nz.Nq
  ll:r.Nz.Nk.length≤40
  lr:∀x∈r.Nz.Nk,x.Nv.Nw.length≤20
  hl:r.Ng.length≤40
  hr:∀x∈r.Ng,x.Nv.Nw.length≤20
  down:r.Np.length≤80
theorem RestD.B {r:Nj} (h:RestD r):RestB r:=⟨⟨h.net.B,by have:=h.ll; omega,λx hx=>by have:=h.lr x hx; omega⟩,⟨by have:=h.hl; omega,λx hx=>by have:=h.hr x hx; omega⟩,by have:=h.down; omega⟩
theorem PlanD.rest {p:Nz} (h:PlanD p) {H:List Nh} {D:List Int} (hl:H.length≤40) (hr:∀x∈H,x.Nv.Nw.length≤20) (hD:D.length≤80):RestD ⟨p,H,D⟩:=⟨h.net.z,by have:=h.ls; simp only; omega,h.rs,hl,hr,hD⟩
theorem lU {c:Pz} {k:Int} (hc:Cur c k) (hk:k≤4611686018427387000) (n:Int) (hn:n≤1099511627776):∃r c',vB fu c n=some (r,c')∧Cur c' (k + 2):=by
 unfold vB;obtain⟨r,c',g1,-,-,g4⟩:=vW (fu:=fu) hc hk n hn;rw[g1];exact⟨_,_,rfl,g4⟩
theorem qn (n:Nq) (hn:n.Nw.length≤100):∀(fk i:Nat) (o:List Int) (b:List By) (a:Int) (s:U64) (k:Int),i≤n.Nw.length→n.Nw.length - i<fk→o.length≤i→Cur ⟨b,a,s⟩ (k + 2 * (i:Int))→k≤800000000 →
    ∃o' z b' a' s',vZ fu n fk o i b a s=some (o',z,b',a',s')∧o'.length≤n.Nw.length∧Cur ⟨b',a',s'⟩ (k + 2 * (n.Nw.length:Int)):=by
 intro fk;induction fk with
 | zero=>intro i _ _ _ _ _ _ h; omega
 | succ fk ih =>
   intro i o b a s k hi hk ho hc hkk
   rw[vZ]
   by_cases h:i<n.Nw.length
   · obtain⟨q,c1,g1,k1⟩:=lU (fu:=fu) hc (by omega) 4 (by decide)
     rw[if_pos (by simpa using h),g1,CP,yc (by rw[C4]; omega),vV h (by omega)]
     have k1':Cur ⟨c1.code,c1.at_,c1.seed⟩ (k + 2 * ((i + 1:Nat):Int)):=k1.mono (by omega)
     cases q
     · rw[if_neg C9]
       exact ih (i + 1) o _ _ _ k h (by omega) (by omega) k1' hkk
     · rw[if_pos rfl,CP]
       exact ih (i + 1) _ _ _ _ k h (by omega) (by simp; omega) k1' hkk
   · obtain rfl:i=n.Nw.length:=by omega
     rw[if_neg (by simp)]
     exact⟨_,_,_,_,_,rfl,ho,hc⟩
theorem qm (hfu:2097153≤fu) {c:Pz} {k:Int} (hc:Cur c k) (hk:k≤700000000) {n:Nq} (hn:n.Nw.length≤20):∃l c',x3 fu c n=some (l,c')∧l.length≤21∧Cur c' (k + 50):=by
 unfold x3;obtain⟨o,z,b,a,s,g1,g2,k1⟩:=qn (fu:=fu) n (by omega) fu 0 [] c.code c.at_ c.seed k (by omega) (by omega) (by simp) (by simpa using hc) (by omega);rw[show ((0:Nat):Int)=0 from rfl]at g1;obtain⟨q,c2,g3,k2⟩:=lU (fu:=fu) k1 (by omega) 40 (by decide);obtain⟨q3,c3,g4,-,-,k3⟩:=vW (fu:=fu) k2 (by omega) 16 (by decide);rw[g1,CP,g3,CP];cases q
 exact⟨o,_,rfl,by omega,k2.mono (by omega)⟩;dsimp only;rw[if_pos rfl,g4,CP,yc (by rw[C4]; omega),CP];exact⟨_,_,rfl,by simp; omega,k3.mono (by omega)⟩
theorem gX (hfu:2097153≤fu) (r:Nj) (fs:List Int) (hB:RestB r) (hf:fs.length≤2097152):zy fu r fs=some (rsOk r&&stOk fs r.Nz.Nq.Nw.length):=by
 unfold zy;rw[nH hfu r hB,CP];cases rsOk r
 rfl;rw[if_pos rfl,kL hfu fs _ hB.1.1.2 hf];rfl
theorem RestF.all (hfu:2097200≤fu) {N:Nq} {L H:List Nh} {D:List Int} (hN:NetZ N) (hH:yb ⟨N,H⟩=true) (hQ:PlQ L) (hl:L.length≤12) (hD:D.length≤80):∃L' ids,aU fu ⟨⟨N,L⟩,H,D⟩=some (⟨⟨N,L'⟩,H,D⟩,ids)∧RestD ⟨⟨N,L'⟩,H,D⟩:=by
 obtain⟨L',ids,g1,g2,g3⟩:=AX hfu N L H D hN.B hH hQ (by omega) (by omega);have h12:H.length≤12:=(ep hH).short;exact⟨L',ids,g1,⟨hN,by simp only; omega,λx hx=>(g2 x hx).2,by simp only; omega,λx hx=>by have:=((ep hH).light x hx).short; omega,hD⟩⟩
theorem mN (hfu:2097200≤fu):∀(fk m:Nat) (b:List By) (a:Int) (s:U64) (r:Nj) (k:Int),m<fk→m≤4→Cur ⟨b,a,s⟩ (k + 100 * (4 - (m:Int)))→k≤600000000→RestD r →
    ∃z b' a' s' r',uK fu fk m b a s r.Nz.Nq.Nx r.Nz.Nq.Nw r.Nz.Nk r.Ng r.Np=some (z,b',a',s',r'.Nz.Nq.Nx,r'.Nz.Nq.Nw,r'.Nz.Nk,r'.Ng,r'.Np)∧RestD r'∧Cur ⟨b',a',s'⟩ (k + 400):=by
 intro fk;induction fk with
 | zero=>intro m _ _ _ _ _ h; omega
 | succ fk ih =>
   intro m b a s r k hm hm4 hc hk hr
   rw[uK]
   by_cases h:0<m
   · have e:w64 ((m:Int) - 1)=((m - 1:Nat):Int):=dJ h (by omega)
     obtain⟨fs,c1,g1,h1,k1⟩:=qm (fu:=fu) (by omega) hc (by omega) (n:=r.Nz.Nq) hr.net.f2
     have g1':x3 fu ({ code:=b,at_:=a,seed:=s }:Pz) ({ Nx:=r.Nz.Nq.Nx,Nw:=r.Nz.Nq.Nw }:Nq)=_:=g1
     have g2:=gX (fu:=fu) (by omega) r fs hr.B (by omega)
     have g2':zy fu ({ Nz:=({ Nq:=({ Nx:=r.Nz.Nq.Nx,Nw:=r.Nz.Nq.Nw }:Nq),Nk:=r.Nz.Nk }:Nz),Ng:=r.Ng,Np:=r.Np }:Nj) fs=_:=g2
     rw[if_pos (by simpa using h),g1',CP,g2',CP,e]
     clear e
     cases hok:rsOk r&&stOk fs r.Nz.Nq.Nw.length
     · rw[if_pos (by decide)]
       exact ih (m - 1) _ _ _ r k (by omega) (by omega) (k1.mono (by omega)) hk hr
     · rw[CW]at hok
       have hF:=iK.1 hok.1
       have h12:r.Nz.Nk.length≤12:=(ep hF.plan).short
       have hdl:=d6 hF.down
       have hff:=hr.net.f2
       have hsl:=d6 hok.2
       obtain⟨q,c2,g3,k2⟩:=lU (fu:=fu) k1 (by omega) 4 (by decide)
       obtain⟨q2,c3,g4,k3⟩:=lU (fu:=fu) k2 (by omega) 2 (by decide)
       have k3':Cur ⟨c3.code,c3.at_,c3.seed⟩ (k + 100 * (4 - ((m - 1:Nat):Int))):=k3.mono (by omega)
       rw[if_neg (by decide),g3,CP]
       cases q
       · obtain⟨D,g5,h5⟩:=jH (fu:=fu) (by omega) r fs hr.B hF.plan (by omega) (by omega)
         have g5':aT fu ({ Nz:=({ Nq:=({ Nx:=r.Nz.Nq.Nx,Nw:=r.Nz.Nq.Nw }:Nq),Nk:=r.Nz.Nk }:Nz),Ng:=r.Ng,Np:=r.Np }:Nj) fs=_:=g5
         have hLq:PlQ (r.Nz.Nk.filter λx=>!meets x.Nv.Nw fs):=λx hx=>tF hF.plan x (Ej.1 hx).1
         have hLl:(r.Nz.Nk.filter λx=>!meets x.Nv.Nw fs).length≤12:=DU (Ez _ _) h12
         have hH12:r.Ng.length≤12:=(ep hF.home).short
         rw[if_neg C9,g5',CP,g4,CP]
         cases q2
         · rw[if_neg C9]
           exact ih (m - 1) _ _ _ (⟨⟨r.Nz.Nq,r.Nz.Nk.filter λx=>!meets x.Nv.Nw fs⟩,r.Ng,D⟩:Nj) k (by omega) (by omega) k3' hk ⟨hr.net,by simp only; omega,λx hx=>(hLq x hx).2,hr.hl,hr.hr,by simp only; omega⟩
         · obtain⟨L',ids,g6,h6⟩:=RestF.all hfu (N:=r.Nz.Nq) (L:=r.Nz.Nk.filter λx=>!meets x.Nv.Nw fs) (H:=r.Ng) (D:=D) hr.net hF.home hLq hLl (by omega)
           rw[if_pos rfl,g6,CP]
           exact ih (m - 1) _ _ _ _ k (by omega) (by omega) k3' hk h6
       · have g5:=lD (fu:=fu) (by omega) r fs hr.B (by omega) (by omega)
         have g5':az fu ({ Nz:=({ Nq:=({ Nx:=r.Nz.Nq.Nx,Nw:=r.Nz.Nq.Nw }:Nq),Nk:=r.Nz.Nk }:Nz),Ng:=r.Ng,Np:=r.Np }:Nj) fs=_:=g5
         have hDl:(r.Np.filter λx=>!fs.any λy=>y==x).length≤r.Np.length:=Ez _ _
         rw[if_pos rfl,g5',CP,g4,CP]
         cases q2
         · rw[if_neg C9]
           exact ih (m - 1) _ _ _ (repd r fs) k (by omega) (by omega) k3' hk ⟨hr.net,hr.ll,hr.lr,hr.hl,hr.hr,by show (r.Np.filter _).length≤80; omega⟩
         · obtain⟨L',ids,g6,h6⟩:=RestF.all hfu (N:=r.Nz.Nq) (L:=r.Nz.Nk) (H:=r.Ng) (D:=r.Np.filter λx=>!fs.any λy=>y==x) hr.net hF.home (tF hF.plan) h12 (by omega)
           have g6':aU fu (repd r fs)=_:=g6
           rw[if_pos rfl,g6',CP]
           exact ih (m - 1) _ _ _ _ k (by omega) (by omega) k3' hk h6
   · obtain rfl:m=0:=by omega
     rw[if_neg (by simp)]
     exact⟨_,_,_,_,r,rfl,hr,hc.mono (by omega)⟩
theorem kB (hfu:2097200≤fu) {c:Pz} {k:Int} (hc:Cur c k) (hk:k≤500000000):∃r c',xY fu c=some (r,c')∧RestD r∧Cur c' (k + 1500):=by
 unfold xY zn;obtain⟨p,c1,g1,h1,h2,h3,h4,k1⟩:=qI (fu:=fu) (by omega) hc (by omega);obtain⟨m,c2,g2,p0,p1,k2⟩:=vW (fu:=fu) k1 (by omega) 4 (by decide);have p2:=p1 (by decide);obtain⟨m',rfl⟩:=FF p0;have hB:=h1.B;have hz:RestD iA→∃z b' a' s' r',uK fu fu m' c2.code c2.at_ c2.seed ([]:List ByteArray) ([]:List Nt) ([]:List Nh) ([]:List Nh) ([]:List Int)=some (z,b',a',s',r'.Nz.Nq.Nx,r'.Nz.Nq.Nw,r'.Nz.Nk,r'.Ng,r'.Np)∧RestD r'∧Cur ⟨b',a',s'⟩ (k + 1002 + 400):=λhz=>mN hfu fu m' c2.code c2.at_ c2.seed iA (k + 1002) (by omega) (by omega) (k2.mono (by omega)) (by omega) hz;rw[g1,CP,gC (by omega) p hB,CP];cases hv:yb p
 rw[if_pos (by decide),CP,g2,CP];have hbad:=hz ⟨⟨by simp [iA],by simp [iA],by simp [iA]⟩,by simp [iA],by simp [iA],by simp [iA],by simp [iA],by simp [iA]⟩;obtain⟨z,b',a',s',r',g3,h5,k3⟩:=hbad;simp only;rw[g3,CP];exact⟨r',_,rfl,h5,k3.mono (by omega)⟩;have e1:=jt (fu:=fu) (by omega) p hB;have e2:=kW (fu:=fu) (by omega) p.Nk hB.2.1 hB.2.2;rw[if_neg (by decide),e1,CP,e2,CP,CP,g2,CP];obtain⟨z,b',a',s',r',g3,h5,k3⟩:=mN hfu fu m' c2.code c2.at_ c2.seed ⟨p,p.Nk,[]⟩ (k + 1002) (by omega) (by omega) (k2.mono (by omega)) (by omega) (h1.rest (by omega) h1.rs (by simp));simp only;rw[g3,CP];exact⟨r',_,rfl,h5,k3.mono (by omega)⟩
theorem jb (hfu:2097200≤fu) {c:Pz} {k:Int} (hc:Cur c k) (hk:k≤400000000):∃r c',xw fu c=some (r,c')∧NetZ r.Nz.Nq∧RestB r∧Cur c' (k + 6000):=by
 unfold xw;obtain⟨r,c1,g1,h1,k1⟩:=kB hfu hc (by omega);obtain⟨q,c2,g2,-,-,k2⟩:=vW (fu:=fu) k1 (by omega) 30 (by decide);have hB:=h1.B;have hd:=h1.down;rw[g1,CP,g2,CP];dsimp only;split
 obtain⟨q3,c3,g3,-,-,k3⟩:=vW (fu:=fu) k2 (by omega) 16 (by decide);rw[g3,CP,yc (by rw[C4]; omega),CP];exact⟨_,_,rfl,h1.net,⟨hB.1,hB.2.1,by simp; omega⟩,k3.mono (by omega)⟩;split
 obtain⟨p,c3,g3,h3,k3⟩:=pW (fu:=fu) (by omega) k2 (by omega);rw[g3,CP];exact⟨_,_,rfl,h3.net.z,⟨h3.B,hB.2⟩,k3.mono (by omega)⟩;split
 by_cases h0:0<r.Ng.length;have hs:sub r.Ng 1 (r.Ng.length:Int)=some (r.Ng.drop 1):=by
   unfold sub
   rw[if_pos (by omega)]
   simp
 rw[if_pos (by simpa using h0),hs,CP];refine⟨_,_,rfl,h1.net,⟨hB.1,⟨?_,λx hx=>hB.2.1.2 x (EK hx)⟩,hB.2.2⟩,k2.mono (by omega)⟩;have:=hB.2.1.1;simp only[Du];omega;rw[if_neg (by simpa using h0)];exact⟨_,_,rfl,h1.net,hB,k2.mono (by omega)⟩;split
 by_cases h0:0<r.Nz.Nk.length;obtain⟨e,he,hem⟩:=zt (l:=r.Nz.Nk) (i:=0) (EZ _) (by omega);obtain⟨q3,c3,g3,-,-,k3⟩:=vW (fu:=fu) k2 (by omega) 3 (by decide);rw[if_pos (by simpa using h0),he,CP,g3,CP,CP];refine⟨_,_,rfl,h1.net,⟨⟨hB.1.1,by simp only[CY]; exact hB.1.2.1,λx hx=>?_⟩,hB.2⟩,k3.mono (by omega)⟩;rcases EH hx with hx | rfl
 exact hB.1.2.2 x hx;exact hB.1.2.2 e hem;rw[if_neg (by simpa using h0)];exact⟨_,_,rfl,h1.net,hB,k2.mono (by omega)⟩;exact⟨_,_,rfl,h1.net,hB,k2.mono (by omega)⟩
end AT
namespace AT
def s1 (b:Nat):Nat:=(b / 2 &&& 0x55) + (b &&& 0x55)
def s2 (b:Nat):Nat:=(b / 4 &&& 0x33) + (b &&& 0x33)
def s3 (b:Nat):Nat:=(b / 16 + b) &&& 0x0f
set_option maxRecDepth 100000 in
theorem b1:∀(b:Fin 256) (r:Fin 2),((b:Nat) / 2 + 128 * r) &&& 0x55=(b:Nat) / 2 &&& 0x55:=by decide +kernel
set_option maxRecDepth 100000 in
theorem b2:∀(b:Fin 256) (r:Fin 4),((b:Nat) / 4 + 64 * r) &&& 0x33=(b:Nat) / 4 &&& 0x33:=by decide +kernel
end AT
namespace AT
theorem wu {α:Type} {l:List α} {f:Int} (d:α) (h0:0≤f) (h1:f<(l.length:Int)):idx l f=some (gd l f.toNat d):=by
 have:=zH (l:=l) (i:=f.toNat) d (by omega);rwa [Ec h0]at this
def ig (b:Int) (o:List Int) (f:Int):List Int:=o.set f.toNat (bor (gd o f.toNat 0) b)
theorem ie (b:Int):∀(fs:List Int) (o:List Int),(fs.foldl (ig b) o).length=o.length
  | [],o=>rfl
  | f::fs,o=>by rw[Ev,ie b fs]; simp [ig]
theorem sE (b:Int) (o:List Int) (f:Int) (k:Nat) (hk:k<o.length):gd (ig b o f) k 0=if f.toNat=k then bor (gd o k 0) b else gd o k 0:=by
 unfold ig;generalize hv:bor (gd o f.toNat 0) b=v;by_cases h:f.toNat=k;subst h;rw[if_pos rfl,hv];clear hv;unfold gd;rw[List.getElem?_set_self hk,Fw];rw[if_neg h];unfold gd;rw[List.getElem?_set_ne h]
theorem sN (f:Int) (fs:List Int) (k:Int):has (f::fs) k=(f==k||has fs k):=rfl
theorem sD (b:Int) (fs:List Int):∀(o:List Int) (k:Nat),fs.Nodup→(∀f∈fs,0≤f)→k<o.length→gd (fs.foldl (ig b) o) k 0=if has fs k=true then bor (gd o k 0) b else gd o k 0:=by
 induction fs with
 | nil =>
   intro o k _ _ _
   have h:has [] (k:Int)=false:=rfl
   rw[h,Gy,if_neg C9]
 | cons f fs ih =>
   intro o k hn h0 hk
   have hn':=D6.1 hn
   have hf:=h0 f Ds
   have hl:(ig b o f).length=o.length:=by unfold ig; rw[CY]
   rw[Ev,ih (ig b o f) k hn'.2 (λx hx=>h0 x (Df _ hx)) (by omega),sE b o f k hk,sN]
   by_cases h:f.toNat=k
   · have hk':f=(k:Int):=by omega
     have h1:has fs k=false:=by
       rw[C6]
       intro hc
       unfold has at hc
       obtain⟨x,hx,hc⟩:=C5.1 hc
       rw[beq_iff_eq]at hc
       exact hn'.1 (by rw[hk',←hc]; exact hx)
     have h2:(f==(k:Int))=true:=by rw[beq_iff_eq]; exact hk'
     rw[h1,h2,if_pos h,if_neg C9,FH,if_pos rfl]
   · have hk':(f==(k:Int))=false:=by rw[beq_eq_false_iff_ne]; omega
     rw[hk',if_neg h,Et]
theorem po {fu:Nat} (e:Nh) (hb:yA e.Nd=true) (n:Nat) (hr:∀f∈e.Nv.Nw,0≤f∧f<(n:Int)) (hl:e.Nv.Nw.length≤2097152):∀(fk i:Nat) (o:List Int),o.length=n→i≤e.Nv.Nw.length→e.Nv.Nw.length - i<fk →
    ∃z,xN fu e fk o i=some ((e.Nv.Nw.drop i).foldl (ig (bits e.Nd)) o,z):=by
 intro fk;induction fk with
 | zero=>intro i _ _ _ h; omega
 | succ fk ih =>
   intro i o ho hi hk
   rw[xN]
   by_cases h:i<e.Nv.Nw.length
   · have h':(i:Int)<(e.Nv.Nw.length:Int):=by omega
     obtain⟨x,hx⟩:∃x,x=e.Nv.Nw[i]:=⟨_,rfl⟩
     have hr':=hr _ (Dh h)
     rw[←hx]at hr'
     rw[←C7 h,Ev]
     simp only[h',decide_true,if_true,vD h,←hx,CP,wu 0 hr'.1 (show x<(o.length:Int) by omega),jT hb,vV h (show (e.Nv.Nw.length:Int)≤9223372036854775807 by omega)]
     exact ih (i + 1) (ig (bits e.Nd) o x) (by simpa [ig] using ho) h (by omega)
   · obtain rfl:i=e.Nv.Nw.length:=by omega
     rw[if_neg (by simp),Dn]
     exact⟨_,rfl⟩
def iO (L:List Nh) (o:List Int):List Int:=L.foldl (λo e=>e.Nv.Nw.foldl (ig (bits e.Nd)) o) o
theorem gH:∀(L:List Nh) (o:List Int),(iO L o).length=o.length
  | [],o=>rfl
  | e::L,o=>by
    have:=gH L (e.Nv.Nw.foldl (ig (bits e.Nd)) o)
    unfold iO at this ⊢
    rw[Ev,this,ie]
theorem kV:∀(L:List Nh) (o:List Int) (k:Nat),(∀e∈L,e.Nv.Nw.Nodup∧∀f∈e.Nv.Nw,0≤f)→k<o.length→gd (iO L o) k 0=L.foldl (λo y=>if has y.Nv.Nw k=true then bor o (bits y.Nd) else o) (gd o k 0)
  | [],o,k,_,_=>by unfold iO; rw[Gy,Gy]
  | e::L,o,k,h,hk=>by
    have he:=h e (by simp)
    have:=kV L (e.Nv.Nw.foldl (ig (bits e.Nd)) o) k (λx hx=>h x (by simp [hx])) (by rw[ie]; exact hk)
    unfold iO at this ⊢
    rw[Ev,Ev,this,sD _ _ _ _ he.1 he.2 hk]
theorem pk {fu:Nat} (hfu:2097153≤fu) (p:Nz) (n:Nat) (hl:p.Nk.length≤2097152) (hb:∀e∈p.Nk,yA e.Nd=true) (hr:∀e∈p.Nk,∀f∈e.Nv.Nw,0≤f∧f<(n:Int)) (hs:∀e∈p.Nk,e.Nv.Nw.length≤2097152):∀(fk i:Nat) (o:List Int),o.length=n→i≤p.Nk.length→p.Nk.length - i<fk →
    ∃z,xO fu p fk o i=some (iO (p.Nk.drop i) o,z):=by
 intro fk;induction fk with
 | zero=>intro i _ _ _ h; omega
 | succ fk ih =>
   intro i o ho hi hk
   rw[xO]
   by_cases h:i<p.Nk.length
   · have h':(i:Int)<(p.Nk.length:Int):=by omega
     have hm:=Dh h
     have hsm:=hs _ hm
     obtain⟨z,hz⟩:=po (fu:=fu) p.Nk[i] (hb _ hm) n (hr _ hm) hsm fu 0 o ho (by omega) (by omega)
     rw[show ((0:Nat):Int)=0 from rfl,Di]at hz
     simp only[h',decide_true,if_true,vD h,CP,hz,vV h (show (p.Nk.length:Int)≤9223372036854775807 by omega)]
     rw[←C7 h]
     exact ih (i + 1) _ (by rw[ie]; exact ho) h (by omega)
   · obtain rfl:i=p.Nk.length:=by omega
     rw[if_neg (by simp),Dn]
     exact⟨_,rfl⟩
def pm (L:List Nh) (n:Nat):List Int:=(List.range n).map λf:Nat=>used L (f:Int)
theorem oF {p:Nz} (hF:PlanF p):∀e∈p.Nk,∀f∈e.Nv.Nw,0≤f∧f<(p.Nq.Nw.length:Int):=λe he=>by
  obtain⟨o,ho⟩:=(hF.light e he).route
  exact qF ho
theorem mo {fu:Nat} (hfu:2097153≤fu) (p:Nz) (hB:gu p) (hF:PlanF p):aY fu p=some (pm p.Nk p.Nq.Nw.length):=by
 have hn:=(netF hF.net).fib;unfold aY;rw[Al (show p.Nq.Nw.length≤2097152 by omega),CP];obtain⟨z,hz⟩:=pk hfu p p.Nq.Nw.length hB.2.1 (λe he=>(hF.light e he).blk) (oF hF) hB.2.2 fu 0 (List.replicate p.Nq.Nw.length 0) (by simp) (by omega) (by have:=hB.2.1; omega);rw[show ((0:Nat):Int)=0 from rfl,Di]at hz;rw[hz,CP];congr 1;apply EI;rw[gH]; simp [pm];intro k h1 h2;rw[gH,FR]at h1;rw[←bM 0,kV _ _ _ (λe he=>⟨(hF.light e he).nodup,λf hf=>(oF hF e he f hf).1⟩) (by simpa using h1)];have:gd (List.replicate p.Nq.Nw.length (0:Int)) k 0=0:=by unfold gd; simp [h1]
 rw[this];simp [pm,used]
end AT
namespace AT
variable {fu:Nat}
theorem pL (hfu:3≤fu) (a b:List Int) (ha:a.length≤1000000) (hb:b.length≤1000000):xH fu [a,b]=some (a++b):=by
 obtain⟨k,rfl⟩:∃k,fu=k + 3:=⟨fu - 3,by omega⟩;have w1:w64 (0 + (a.length:Int))=(a.length:Int):=by rw[vq (by omega) (by omega)]; omega
 have w2:w64 ((a.length:Int) + (b.length:Int))=(a.length:Int) + (b.length:Int):=vq (by omega) (by omega);have n1:decide ((a.length:Int)<0)=false:=decide_eq_false (by omega);have n2:decide ((a.length:Int) + (b.length:Int)<0)=false:=decide_eq_false (by omega);have i0:idx [a,b] 0=some a:=rfl;have i1:idx [a,b] 1=some b:=rfl;have v1:w64 (0 + 1)=1:=by decide
 have v2:w64 (1 + 1)=2:=by decide
 have d0:decide ((0:Int)<(([a,b]:List (List Int)).length:Int))=true:=rfl;have d1:decide ((1:Int)<(([a,b]:List (List Int)).length:Int))=true:=rfl;have d2:decide ((2:Int)<(([a,b]:List (List Int)).length:Int))=false:=rfl;have hg:(ru ((a.length:Int) + (b.length:Int)):Option (List Int))=some []:=by unfold ru; rw[if_pos ⟨by omega,by omega⟩]
 have a1:app ([]:List Int) a=some a:=by rw[yc (by simp; omega)]; rfl
 have a2:app a b=some (a++b):=yc (by omega);unfold xH;rw[vl,d0,if_pos rfl,i0,CP,w1,n1,if_neg C9,v1,vl,d1,if_pos rfl,i1,CP,w2,n2,if_neg C9,v2,vl,d2,if_neg C9,CP,hg,CP,
   vk,d0,if_pos rfl,i0,CP,a1,CP,v1,vk,d1,if_pos rfl,i1,CP,a2,CP,v2,vk,d2,if_neg C9]
 rfl
theorem lg:∀(l:List Int) (p:Int),(p::l).Pairwise (·≤·)→(p::dB p l).Pairwise (·<·)∧∀x,x∈dB p l↔x∈l∧x≠p
  | [],p,_=>⟨by simp [dB],λx=>by simp [dB]⟩
  | b::l,p,h=>by
    obtain⟨h1,h2⟩:=ED.1 h
    obtain⟨ih1,ih2⟩:=lg l b h2
    have hpb:=h1 b Ds
    obtain⟨g1,g2⟩:=ED.1 h2
    unfold dB
    by_cases e:b=p
    · subst e
      rw[if_pos rfl]
      refine⟨ih1,λx=>?_⟩
      rw[ih2,De]
      constructor
      · rintro⟨a,c⟩; exact⟨.inr a,c⟩
      · rintro⟨a | a,c⟩
        · exact absurd a c
        · exact⟨a,c⟩
    · rw[if_neg e]
      obtain⟨j1,j2⟩:=ED.1 ih1
      refine⟨ED.2 ⟨λx hx=>?_,ih1⟩,λx=>?_⟩
      · rcases De.1 hx with rfl | hx
        · omega
        · have:=j1 x hx; omega
      · rw[De,De,ih2]
        constructor
        · rintro (rfl | ⟨a,c⟩)
          · exact⟨.inl rfl,e⟩
          · have:=g1 x a
            exact⟨.inr a,by omega⟩
        · rintro⟨rfl | a,c⟩
          · exact .inl rfl
          · by_cases e2:x=b
            · exact .inl e2
            · exact .inr ⟨a,e2⟩
theorem pN {l:List Int} (h:l.Pairwise (·≤·)):(i8 l).Pairwise (·<·)∧∀x,x∈i8 l↔x∈l:=by
 cases l with
 | nil=>exact⟨.nil,λx=>by simp [i8]⟩
 | cons p l =>
   obtain⟨h1,h2⟩:=lg l p h
   refine⟨h1,λx=>?_⟩
   show x∈p::dB p l↔_
   rw[De,De,h2]
   constructor
   · rintro (rfl | ⟨a,-⟩)
     · exact .inl rfl
     · exact .inr a
   · rintro (rfl | a)
     · exact .inl rfl
     · by_cases e:x=p
       · exact .inl e
       · exact .inr ⟨a,e⟩
theorem rX (hfu:2097153≤fu) (a b:List Int) (ha:a.length≤1000000) (hb:b.length≤1000000):∃l D,xH fu [a,b]=some l∧(∃l2,x4 fu l=some l2∧xv fu l2=some D)∧D.Pairwise (·<·)∧∀x,x∈D↔x∈a∨x∈b:=by
 obtain⟨l2,h1,h2,h3⟩:=qk hfu (a++b) (by rw[C3]; omega);obtain⟨c1,c2⟩:=pN h3;exact⟨_,_,pL (by omega) a b ha hb,⟨l2,h1,rfl⟩,c1,λx=>by rw[c2,h2.mem_iff,CQ]⟩
theorem nU {fu:Nat} (hfu:2097153≤fu) (fs:List Int) (hf:fs.length≤2097152):∀(L:List Nh) (s:List Int),(∀x∈L,x.Nv.Nw.Nodup∧x.Nv.Nw.length≤12)→s.length + L.length≤1000000 →
    delO (λa s=>yt fu a fs s) L s=some (L.filter (λx=>!meets x.Nv.Nw fs),s++idsL (L.filter λx=>meets x.Nv.Nw fs))
  | [],s,_,_=>by simp [delO,idsL]
  | x::L,s,hL,hs=>by
    obtain⟨h1,h2⟩:=hL x Ds
    rw[Dz]at hs
    obtain⟨c,hc,hd⟩:=fV (fu:=fu) x.Nv.Nw fs h2 h1 hf hfu
    have hx:yt fu x fs s=some (meets x.Nv.Nw fs,if meets x.Nv.Nw fs=true then s++[x.Id] else s):=by
      unfold yt
      rw[hc,CP,hd]
      cases meets x.Nv.Nw fs
      · rfl
      · rw[if_pos rfl,if_pos rfl,yc (by rw[C4]; omega)]; rfl
    unfold delO
    rw[hx,CP]
    cases hm:meets x.Nv.Nw fs
    · rw[if_neg C9]
      simp only
      rw[nU hfu fs hf L s (λy hy=>hL y (Df _ hy)) (by omega),CP,D4,D4,hm]
      simp
    · rw[if_pos rfl]
      simp only
      rw[nU hfu fs hf L (s++[x.Id]) (λy hy=>hL y (Df _ hy)) (by rw[C3,C4]; omega),CP,D4,D4,hm]
      simp [idsL]
theorem jZ (hfu:2097153≤fu) (r:Nj) (fs:List Int) (hB:RestB r) (hf:fs.length≤2097152):bv fu r fs=some (rsOk r&&stOk fs r.Nz.Nq.Nw.length):=by
 unfold bv;rw[bS hfu r hB,CP];cases rsOk r
 rfl;rw[if_pos rfl,kY hfu fs _ hB.1.1.2 hf]; rfl
theorem nR (hfu:2097153≤fu) (r:Nj) (fs:List Int) (hB:RestB r) (hf:fs.length≤1000000):(rsOk r&&stOk fs r.Nz.Nq.Nw.length)=true∧(∃D,zY fu r fs=some (⟨⟨r.Nz.Nq,r.Nz.Nk.filter λx=>!meets x.Nv.Nw fs⟩,r.Ng,D⟩,idsL (r.Nz.Nk.filter λx=>meets x.Nv.Nw fs),true)∧D.Pairwise (·<·)∧∀x,x∈D↔x∈r.Np∨x∈fs) ∨
    (rsOk r&&stOk fs r.Nz.Nq.Nw.length)=false∧zY fu r fs=some (iA,[],false):=by
 unfold zY;rw[jZ hfu r fs hB (by omega),CP];cases hc:(rsOk r&&stOk fs r.Nz.Nq.Nw.length)
 exact .inr ⟨rfl,rfl⟩;left;rw[CW]at hc;have hR:=iK.1 hc.1;have hpF:=ep hR.plan;have h12:=hpF.short;have hD:=d6 hR.down;have hN:=netF (ve.1 hR.plan).1;have hNf:=hN.fib;obtain⟨l,D,u1,⟨l2,u2,u3⟩,u4,u5⟩:=rX hfu r.Np fs (by omega) hf;refine⟨rfl,D,?_,u4,u5⟩;rw[if_neg (by decide),fg hfu r hB,CP,u1,CP,u2,CP,u3,CP];unfold vf;rw[nU hfu fs (by omega) r.Nz.Nk [] (λx hx=>⟨(hpF.light x hx).nodup,by have:=(hpF.light x hx).short; omega⟩) (by rw[En]; omega),CP,Dt]
theorem tD {fu:Nat} (fs:List Int) (hf:fs.length<fu) (hf2:fs.length≤2097152):∀(D:List Int),delO (λa (_:Unit)=>(xR fu a fs).map λb=>(b,())) D ()=some (D.filter λx=>!fs.any λy=>y==x,())
  | []=>rfl
  | x::D=>by
    unfold delO
    have hx:xR fu x fs=some (fs.any λy=>y==x):=by
      unfold xR;rw[ed fs x hf hf2]; rfl
    rw[hx,Fg,CP,tD fs hf hf2 D,CP,D4]
    cases fs.any λy=>y==x <;> rfl
theorem mc (hfu:2097153≤fu) (r:Nj) (fs:List Int) (hB:RestB r) (hf:fs.length≤2097152):yT fu r fs=some (if (rsOk r&&stOk fs r.Nz.Nq.Nw.length)=true then (repd r fs,true) else (iA,false)):=by
 unfold yT;rw[jZ hfu r fs hB hf,CP];cases hc:(rsOk r&&stOk fs r.Nz.Nq.Nw.length)
 rfl;rw[if_neg (by decide),fg hfu r hB,CP,if_pos rfl];unfold vP sZ;rw[tD fs (by omega) hf r.Np];rfl
def wait (H L:List Nh):List Int:=idsL (H.filter λx=>!hasL L x.Id)
theorem l7 (r:Nj) (hH:r.Ng.length≤1000000) (hL:r.Nz.Nk.length<fu) (hL2:r.Nz.Nk.length≤2097152):∀(fk i:Nat) (o:List Int),i≤r.Ng.length→r.Ng.length - i<fk→o.length≤i→∃z,yn fu r fk o i=some (o++wait (r.Ng.drop i) r.Nz.Nk,z):=by
 intro fk;induction fk with
 | zero=>intro i _ _ h; omega
 | succ fk ih =>
   intro i o hi hk ho
   rw[yn]
   by_cases h:i<r.Ng.length
   · have hid:(gd r.Ng i l0).Id=r.Ng[i].Id:=by rw[bM l0 h]
     rw[if_pos (by simpa using h),vD h,CP,pp r.Nz r.Ng[i].Id hL hL2,CP,vV h (by omega),←C7 h]
     have e:(r.Nz.Nk.any λy=>y.Id==r.Ng[i].Id)=hasL r.Nz.Nk r.Ng[i].Id:=rfl
     rw[e]
     unfold wait
     rw[D4]
     cases hc:hasL r.Nz.Nk r.Ng[i].Id
     · rw[if_neg C9,if_pos (by decide),if_pos (by decide),yc (by rw[C4]; omega),CP]
       obtain⟨z,hz⟩:=ih (i + 1) (o++[r.Ng[i].Id]) h (by omega) (by rw[C3,C4]; omega)
       exact⟨z,by rw[hz]; simp [wait,idsL]⟩
     · rw[if_pos rfl,if_neg (by simp),if_neg (by decide)]
       exact ih (i + 1) o h (by omega) (by omega)
   · obtain rfl:i=r.Ng.length:=by omega
     rw[if_neg (by simp),Dn]
     exact⟨(r.Ng.length:Int),by simp [wait,idsL]⟩
theorem gM (hfu:2097153≤fu) (r:Nj) (hH:r.Ng.length≤1000000) (hL2:r.Nz.Nk.length≤2097152):aW fu r=some (wait r.Ng r.Nz.Nk):=by
 obtain⟨z,hz⟩:=l7 (fu:=fu) r hH (by omega) hL2 fu 0 [] (by omega) (by omega) (by simp);rw[show ((0:Nat):Int)=0 from rfl,Di,Dt]at hz;unfold aW;rw[hz]; rfl
theorem et (hfu:2097153≤fu) (r:Nj) (hB:RestB r):xP fu r=some (if rsOk r=true then (wait r.Ng r.Nz.Nk,true) else ([],false)):=by
 unfold xP;rw[bS hfu r hB,CP];cases hc:rsOk r
 rfl;have hR:=iK.1 hc;have h12:=(ve.1 hR.home).2.1;have h13:=(ve.1 hR.plan).2.1;simp only at h12;rw[if_neg (by decide),gM hfu r (by omega) (by omega),if_pos rfl]; rfl
theorem sr (m C:Int) (N:Nat) (hN:(N:Int) + C=25) (h1:1≤C):∀(fk k s:Nat) (out:List Int),N=s + k→k<fk→out.length≤s →
    ∃z,xJ fu m C fk out s=some (out++(((List.range' s k).filter λt:Nat=>apart m (bits ⟨(t:Int),C⟩)).map λt:Nat=>(t:Int)),z):=by
 intro fk;induction fk with
 | zero=>intro k s _ _ h; omega
 | succ fk ih =>
   intro k s out hs hk ho
   have hw0:w64 ((s:Int) + C)=(s:Int) + C:=vq (by omega) (by omega)
   rw[xJ,hw0]
   clear hw0
   cases k with
   | zero =>
     have h':¬(s:Int) + C≤24:=by omega
     simp only[h',decide_false,CU,if_false,List.range'_zero,Ff,Ga,Db]
     exact⟨_,rfl⟩
   | succ k =>
     have h':(s:Int) + C≤24:=by omega
     have hb:yA ⟨(s:Int),C⟩=true:=by simp only[yA,CW,decide_eq_true_eq]; omega
     obtain⟨c,hc⟩:∃c,apart m (bits ⟨(s:Int),C⟩)=c:=⟨_,rfl⟩
     obtain⟨b,hb1,hb2⟩:∃b,aX fu ⟨(s:Int),C⟩=some b∧(band m b==0)=c:=⟨_,lJ hb,hc⟩
     have hw:w64 ((s:Int) + 1)=((s + 1:Nat):Int):=by rw[vq (by omega) (by omega)]; omega
     rw[List.range'_succ,D4,hc,hb1]
     clear hb1 hc hb
     rw[if_pos (by simpa using h'),CP,hb2,hw]
     clear hw hb2
     cases c
     · rw[if_neg (by decide),if_neg (by decide)]
       exact ih k (s + 1) out (by omega) (by omega) (by omega)
     · have ha:app out [(s:Int)]=some (out++[(s:Int)]):=yc (by simp; omega)
       rw[if_pos rfl,if_pos rfl,ha,CP]
       obtain⟨z,hz⟩:=ih k (s + 1) (out++[(s:Int)]) (by omega) (by omega) (by simp; omega)
       exact⟨z,by rw[hz,EJ,CX,DY]⟩
theorem nS (hfu:2097153≤fu) (m C:Int) (hm:MK m) (h1:1≤C) (h2:C≤24):cu fu m C=some (match (fits m C).head? with | some f=>(⟨f,C⟩,true) | none=>(⟨0,0⟩,false)):=by
 unfold cu ga eZ;rw[bA,bA];have hm':(decide (0≤m)&&decide (m≤16777215))=true:=by
   obtain⟨a,b⟩:=hm
   simp; omega
 have hc':(decide (1≤C)&&decide (C≤24))=true:=by simp; omega
 simp only[CP,hm',hc',if_true,DF,CU,if_false];obtain⟨N,hN⟩:∃N,N=25 - C.toNat:=⟨_,rfl⟩;obtain⟨z,hz⟩:=sr (fu:=fu) m C N (by omega) h1 fu N 0 [] (by omega) (by omega) (by simp);rw[show ((0:Nat):Int)=0 from rfl,Dt,hN]at hz;have hp:bJ fu m C=some (fits m C):=by
   unfold bJ
   rw[hz]; rfl
 rw[hp,CP];cases fits m C with
 | nil=>rfl
 | cons f l =>
   rw[if_neg (by simp; omega)]
   rfl
theorem oZ (L:List Nh) (N:Nat) (r:Nv) (hr:r.Nw.length≤1000) (hf:∀f∈r.Nw,0≤f∧f<(N:Int)):∀(fk i:Nat) (o:Int),i≤r.Nw.length→r.Nw.length - i<fk→∃z,x8 fu r (pm L N) fk o i=some ((r.Nw.drop i).foldl (λo f=>bor o (used L f)) o,z):=by
 intro fk;induction fk with
 | zero=>intro i _ _ h; omega
 | succ fk ih =>
   intro i o hi hk
   rw[x8]
   by_cases h:i<r.Nw.length
   · obtain⟨f0,f1⟩:=hf _ (Dh h)
     have e:idx (pm L N) r.Nw[i]=some (used L r.Nw[i]):=by
       unfold pm
       have:=vD (l:=(List.range N).map λf:Nat=>used L (f:Int)) (i:=r.Nw[i].toNat) (by simp; omega)
       rw[Ec f0]at this
       rw[this,Gl,DZ,Ec f0]
     rw[if_pos (by simpa using h),vD h,CP,e,CP,vV h (by omega),←C7 h,Ev]
     exact ih (i + 1) _ h (by omega)
   · obtain rfl:i=r.Nw.length:=by omega
     rw[if_neg (by simp),Dn]
     exact⟨_,rfl⟩
theorem mL (hfu:2097153≤fu) (p:Nz) (hB:gu p) (hF:PlanF p) (r:Nv) (hr:r.Nw.length≤1000) (hf:jp p.Nq r.Nw):bI fu p r=some (along p.Nk r.Nw):=by
 unfold bI;rw[mo hfu p hB hF,CP];obtain⟨z,hz⟩:=oZ (fu:=fu) p.Nk p.Nq.Nw.length r hr hf fu 0 0 (by omega) (by omega);rw[show ((0:Nat):Int)=0 from rfl,Di]at hz;rw[hz]; rfl
end AT
namespace AT
def tryR (L:List Nh) (D:List Int) (y:Nh) (rt:Nv):Option Nh:=if meets rt.Nw D=true then none else ((fits (along L rt.Nw) y.Nd.Px).head?).map λf=>(⟨y.Id,rt,⟨f,y.Nd.Px⟩⟩:Nh)
def plc (N:Nq) (L:List Nh) (D:List Int) (y:Nh):Option Nh :=
  if (!meets y.Nv.Nw D&&kI L y)=true then some y
  else if dU N y.Nv.Pq (endR N y.Nv)=true∧(rts N y.Nv.Pq (endR N y.Nv)).length≤200 then (rts N y.Nv.Pq (endR N y.Nv)).findSome? (tryR L D y) else none
theorem kN {F:List Nt} {i:Nat} (hi:i<F.length):∀(fs out:List Int) (v:Int) {o:List Int},v=gl out→db F fs out v=some o→0≤oth (gd F i f0) (gl o)→(o.any λx=>x==oth (gd F i f0) (gl o))=false→db F (fs++[(i:Int)]) out v=some (o++[oth (gd F i f0) (gl o)])
  | [],out,v,o,hv,h,h0,hn=>by
    simp only[db,Dj]at h
    subst h
    rw[Dt,db,if_pos ⟨FC i,by omega⟩,Ek,hv,if_neg (λh=>by
      rcases h with h | h
      · omega
      · rw[hn]at h; cases h)]
    rfl
  | j::fs,out,v,o,hv,h,h0,hn=>by
    rw[EW]
    unfold db at h ⊢
    split at h
    · rename_i hj
      rw[if_pos hj]
      split at h
      · cases h
      · rename_i hc
        rw[if_neg hc]
        exact kN hi fs _ _ (by rw[ml]) h h0 hn
    · cases h
theorem ov {n:Nq} {to s:Int}:∀(k:Nat) {seen:List Int} {v:Int} {fs:List Int},db n.Nw fs [s] s=some seen→gl seen=v→∀p∈pth n.Nw to k seen v fs,∃o,db n.Nw p [s] s=some o∧gl o=to
  | 0,_,_,_,_,_,p,hp=>by simp [pth]at hp
  | k + 1,seen,v,fs,h,hg,p,hp=>by
    by_cases hv:v=to
    · rw[pth,if_pos hv,C2]at hp
      subst hp
      exact⟨seen,h,hg.trans hv⟩
    · rw[ox hv]at hp
      obtain⟨i,hi,hp⟩:=Dv.1 hp
      rw[DC]at hi
      split at hp
      · rename_i hc
        refine ov k (kN hi fs [s] s (by simp [gl,gd]) h (by rw[hg]; exact hc.1) (by rw[hg]; exact hc.2)) (by rw[ml,hg]) p ?_
        rw[hg]
        exact hp
      · cases hp
theorem tu {n:Nq} (hn:NetF n) {s t:Int} (h0:0≤s) (h1:s<(n.Nx.length:Int)) (hne:s≠t) {a:Nv} (ha:a∈rts n s t):a.Pq=s∧(yF n a).isSome=true∧endR n a=t∧RtB n a:=by
 have hB:=(tW hn h0 h1 t).1 a ha;unfold rts at ha;rcases kR _ ha with ha | ⟨p,hp,rfl⟩
 cases ha;obtain⟨o,ho,hg⟩:=ov (n:=n) (to:=t) (s:=s) n.Nx.length (seen:=[s]) (v:=s) (fs:=[]) rfl rfl p hp;have hpn:p≠[]:=λe=>by
   subst e
   simp only[db,Dj]at ho
   subst ho
   exact hne hg
 have hr:yF n ⟨s,p⟩=some o:=by
   unfold yF
   rw[if_pos ⟨⟨h0,h1⟩,hpn⟩]
   exact ho
 exact⟨rfl,by rw[hr]; rfl,by unfold endR; rw[hr]; exact hg,hB⟩
theorem kS {n:Nq} {s t:Int}:dU n s t=true↔eq n=true∧(0≤s∧s<(n.Nx.length:Int))∧(0≤t∧t<(n.Nx.length:Int))∧s≠t:=by
 unfold dU;simp only[CW,decide_eq_true_eq,bne_iff_ne]
variable {N:Nq} {L H:List Nh} {D:List Int}
theorem wi {x:Nh} (hp:yb ⟨N,L⟩=true) (hx:zT N x=true) (hid:hasL L x.Id=false) (hf:∀y∈L,coll y x=false) (hl:L.length<12):yb ⟨N,putL L x⟩=true:=by
 obtain⟨n1,n2,n3,n4⟩:=ve.1 hp;simp only at n1 n2 n3 n4;refine ve.2 ⟨n1,by simp only; rw[jq]; omega,λy hy=>?_,?_⟩;rcases dz.1 hy with rfl | hy
 exact hx;exact n3 y hy;have hle:=jv L x.Id;have hpre:∀y∈L.take (fC L x.Id),y.Id<x.Id:=λy hy=>by
   obtain⟨q,hq,rfl⟩:=Dp.1 hy
   rw[C0]at hq
   have hq':q<fC L x.Id:=by omega
   have:=List.not_of_lt_findIdx (p:=λy:Nh=>!decide (y.Id<x.Id)) (xs:=L) (i:=q) hq'
   rw[DW]
   simpa using this
 have hpost:∀y∈L.drop (fC L x.Id),x.Id<y.Id:=λy hy=>by
   have hyL:y∈L:=EK hy
   have hne:y.Id≠x.Id:=λe=>by
     rw[C6]at hid
     exact hid (C5.2 ⟨y,hyL,by rw[beq_iff_eq]; exact e⟩)
   by_cases hlt:fC L x.Id<L.length
   · have h1:=List.findIdx_getElem (p:=λy:Nh=>!decide (y.Id<x.Id)) (xs:=L) (w:=hlt)
     have h1':(!decide (L[fC L x.Id].Id<x.Id))=true:=h1
     have h2:¬L[fC L x.Id].Id<x.Id:=by simpa using h1'
     rw[←C7 hlt]at hy
     rcases De.1 hy with rfl | hy
     · omega
     · obtain⟨q,hq,rfl⟩:=Dp.1 hy
       rw[Du]at hq
       have:=(Ed.1 n4 (fC L x.Id) (fC L x.Id + 1 + q) hlt (by omega) (by omega)).1
       rw[FL]
       omega
   · rw[DN (by omega)]at hy
     cases hy
 unfold putL;have hs:(L.take (fC L x.Id)++L.drop (fC L x.Id)).Pairwise (λa b=>a.Id<b.Id∧coll a b=false):=by rw[EA]; exact n4
 obtain⟨s1,s2,s3⟩:=Fo.1 hs;refine Fo.2 ⟨s1,ED.2 ⟨λy hy=>⟨hpost y hy,?_⟩,s2⟩,λa ha b hb=>?_⟩;rw[nu];exact hf y (EK hy);rcases De.1 hb with rfl | hb
 exact⟨hpre a ha,hf a (FW ha)⟩;exact s3 a ha b hb
theorem mn {α:Type} (p:α→Bool):∀l:List α,(l.filter p).length + (l.filter λx=>!p x).length=l.length
  | []=>rfl
  | a::l=>by
    have:=mn p l
    rw[D4,D4,Dz]
    cases p a
    · simp only[CU,if_false,Gb,if_true,Dz]; omega
    · simp only[if_true,DF,CU,if_false,Dz]; omega
theorem lS (hp:yb ⟨N,L⟩=true):(idsL L).Pairwise (·<·):=rq ((ve.1 hp).2.2.2.imp λh=>h.1)
theorem eO {r:Nj} (h:RestF r):(wait r.Ng r.Nz.Nk).length + r.Nz.Nk.length=r.Ng.length:=by
 have hH:=lS h.home;have hL:=lS (N:=r.Nz.Nq) (L:=r.Nz.Nk) h.plan;have e:idsL (r.Ng.filter λx=>hasL r.Nz.Nk x.Id)=idsL r.Nz.Nk:=by
   refine oh ?_ hL λx=>?_
   · unfold idsL at hH ⊢
     rw[ES]at hH ⊢
     exact hH.filter _
   · rw[←jw (L:=r.Nz.Nk)]
     constructor
     · intro hx
       obtain⟨y,hy,rfl⟩:=Do.1 hx
       exact (Ej.1 hy).2
     · intro hx
       have:=h.sub x hx
       rw[jw]at this
       obtain⟨y,hy,rfl⟩:=Do.1 this
       exact Do.2 ⟨y,Ej.2 ⟨hy,hx⟩,rfl⟩
 have e2:=congrArg List.length e;rw[gf,gf]at e2;have h3:=mn (λx:Nh=>hasL r.Nz.Nk x.Id) r.Ng;unfold wait;rw[gf];omega
theorem fX {id:Int}:id∈wait H L↔hasL H id=true∧hasL L id=false:=by
 unfold wait idsL;rw[Do];constructor;rintro⟨x,hx,rfl⟩;obtain⟨h1,h2⟩:=Ej.1 hx;exact⟨C5.2 ⟨x,h1,by simp⟩,by simpa using h2⟩;rintro⟨h1,h2⟩;obtain⟨x,hx,he⟩:=C5.1 h1;rw[beq_iff_eq]at he;subst he;exact⟨x,Ej.2 ⟨hx,by rw[h2]; rfl⟩,rfl⟩
theorem oy (hp:yb ⟨N,L⟩=true):∀y∈L,yA y.Nd=true:=λy hy=>((ep hp).light y hy).blk
theorem tE (hR:RestF ⟨⟨N,L⟩,H,D⟩) {id:Int} (hH:hasL H id=true) (hL:hasL L id=false) {x:Nh} (h:plc N L D (xK H id)=some x):x.Id=id∧zT N x=true∧RestF ⟨⟨N,putL L x⟩,H,D⟩:=by
  have hid:=mi hH;have hmem:=fT hH;have hyok:=(ve.1 hR.home).2.2.1 _ hmem;have hnet:eq N=true:=(ve.1 hR.plan).1;have hyF:=jg hnet hyok;have hw:L.length<12:=by
    have h1:=eO hR
    have h2:=(ve.1 hR.home).2.1
    have h3:id∈wait H L:=fX.2 ⟨hH,hL⟩
    have h4:=List.length_pos_of_mem h3
    simp only at h1 h2
    omega
  have hblk:=oy (N:=N) (L:=L) hR.plan;suffices hs:x.Id=id∧zT N x=true∧(∀y∈L,coll y x=false)∧meets x.Nv.Nw D=false∧x.Nv.Pq=(xK H id).Nv.Pq∧endR N x.Nv=endR N (xK H id).Nv∧x.Nd.Px=(xK H id).Nd.Px by
    obtain⟨g1,g2,g3,g4,g5,g6,g7⟩:=hs
    refine⟨g1,g2,wi hR.plan g2 (by rw[g1]; exact hL) g3 hw,hR.home,hR.down,λy hy=>?_⟩
    rcases dz.1 hy with rfl | hy
    · refine dc.2 ⟨by simp only; rw[g1]; exact hH,g4,?_,?_,?_⟩
      · simp only; rw[g1]; exact g5
      · simp only; rw[g1]; exact g6
      · simp only; rw[g1]; exact g7
    · have:=dc.1 (hR.each y hy)
      exact dc.2 this
  unfold plc at h;split at h
  · rename_i hc
    injection h with h
    subst h
    rw[CW,Dl]at hc
    refine⟨hid,hyok,λy hy=>?_,hc.1,rfl,rfl,rfl⟩
    have hf:=hc.2
    unfold kI at hf
    rw[Dl,FJ]at hf
    have:=hf y hy
    simp only[CW,bne_iff_ne,ne_eq,not_and,EV]at this
    refine this λe=>?_
    rw[hid]at e
    rw[C6]at hL
    exact hL (C5.2 ⟨y,hy,by rw[beq_iff_eq]; exact e⟩)
  · split at h
    case isFalse=>cases h
    rename_i hp
    obtain⟨hp1,hp2⟩:=hp
    obtain⟨-,⟨s0,s1⟩,⟨t0,t1⟩,hne⟩:=kS.1 hp1
    obtain⟨rt,hrt,htry⟩:=List.exists_of_findSome?_eq_some h
    obtain⟨r1,r2,r3,r4⟩:=tu (netF hnet) s0 s1 hne hrt
    unfold tryR at htry
    split at htry
    · cases htry
    · rename_i hm
      obtain⟨f,hf,rfl⟩:=Dk.1 htry
      have hC:=hyF.blk
      simp only[yA,CW,decide_eq_true_eq]at hC
      have hfm:=List.mem_of_mem_head? (Option.mem_def.2 hf)
      obtain⟨f1,f2,f3⟩:=(ir (by omega) (by omega)).1 hfm
      have hb:yA ⟨f,(xK H id).Nd.Px⟩=true:=by simp only[yA,CW,decide_eq_true_eq]; omega
      rw[gQ hblk rt.Nw (mu hb),Dx]at f3
      have hlok:zT N ⟨(xK H id).Id,rt,⟨f,(xK H id).Nd.Px⟩⟩=true:=by
        unfold zT at hyok ⊢
        simp only[CW]at hyok ⊢
        exact⟨hyok.1,r2,hb⟩
      refine⟨hid,hlok,λy hy=>?_,by simpa using hm,r1,r3,rfl⟩
      rw[ms]
      simpa only[Dl] using f3 y hy
theorem ss {L0:List Nh} {y:Nh} (hs:∀x∈L0,x∈L) (hb:∀x∈L,yA x.Nd=true) (hC:1≤y.Nd.Px∧y.Nd.Px≤24) (h:plc N L0 D y=none):plc N L D y=none:=by
 unfold plc at h ⊢;split at h
 cases h;rename_i hc;have hc':¬(!meets y.Nv.Nw D&&kI L y)=true:=by
   intro h2
   apply hc
   rw[CW]at h2 ⊢
   refine⟨h2.1,?_⟩
   have h3:=h2.2
   unfold kI at h3 ⊢
   rw[Dl,FJ]at h3 ⊢
   exact λx hx=>h3 x (hs x hx)
 rw[if_neg hc'];split at h
 rename_i hp;rw[if_pos hp];rw[List.findSome?_eq_none_iff]at h ⊢;intro rt hrt;have h4:=h rt hrt;unfold tryR at h4 ⊢;split at h4
 rename_i hm;rw[if_pos hm];rename_i hm;rw[if_neg hm];rw[Option.map_eq_none_iff,List.head?_eq_none_iff]at h4 ⊢;refine List.eq_nil_iff_forall_not_mem.2 λf hf=>?_;obtain⟨f1,f2,f3⟩:=(ir hC.1 hC.2).1 hf;have hbk:yA ⟨f,y.Nd.Px⟩=true:=by simp only[yA,CW,decide_eq_true_eq]; omega
 rw[gQ hb rt.Nw (mu hbk),Dx]at f3;have:f∈fits (along L0 rt.Nw) y.Nd.Px:=(ir hC.1 hC.2).2 ⟨f1,f2,by
   rw[gQ (λx hx=>hb x (hs x hx)) rt.Nw (mu hbk),Dx]
   exact λx hx=>f3 x (hs x hx)⟩
 rw[h4]at this;cases this
 rename_i hp;rw[if_neg hp]
def resA (N:Nq) (H:List Nh) (D:List Int):List Int→List Nh→List Int→List Nh×List Int
  | [],L,o=>(L,o)
  | id::l,L,o=>match plc N L D (xK H id) with
    | some x=>resA N H D l (putL L x) (o++[id])
    | none=>resA N H D l L o
theorem jL {N:Nq} {H:List Nh} {D:List Int}:∀(l:List Int) (L:List Nh) (o:List Int),RestF ⟨⟨N,L⟩,H,D⟩→l.Nodup→(∀id∈l,hasL H id=true∧hasL L id=false) →
    RestF ⟨⟨N,(resA N H D l L o).1⟩,H,D⟩∧(∀y∈L,y∈(resA N H D l L o).1)∧(resA N H D l L o).1.length + o.length=L.length + (resA N H D l L o).2.length∧∀id∈l,hasL (resA N H D l L o).1 id=false→plc N (resA N H D l L o).1 D (xK H id)=none
  | [],L,o,hR,_,_=>⟨hR,λ_ h=>h,rfl,λid h=>by cases h⟩
  | id::l,L,o,hR,hnd,hid=>by
    obtain⟨n1,n2⟩:=D6.1 hnd
    obtain⟨i1,i2⟩:=hid id Ds
    unfold resA
    cases hp:plc N L D (xK H id) with
    | some x =>
      obtain⟨p1,p2,p3⟩:=tE hR i1 i2 hp
      have hsub:∀id'∈l,hasL H id'=true∧hasL (putL L x) id'=false:=λid' h'=>by
        obtain⟨j1,j2⟩:=hid id' (Df _ h')
        refine⟨j1,?_⟩
        rw[C6]
        intro hc
        obtain⟨y,hy,he⟩:=C5.1 hc
        rw[beq_iff_eq]at he
        rcases dz.1 hy with rfl | hy
        · rw[p1]at he
          subst he
          exact n1 h'
        · rw[C6]at j2
          exact j2 (C5.2 ⟨y,hy,by rw[beq_iff_eq]; exact he⟩)
      obtain⟨r1,r2,r3,r4⟩:=jL l (putL L x) (o++[id]) p3 n2 hsub
      refine⟨r1,λy hy=>r2 y (dz.2 (.inr hy)),?_,λid' h' hn=>?_⟩
      · simp only
        rw[jq,C3,C4]at r3
        omega
      · rcases De.1 h' with rfl | h'
        · have hx:=r2 x (dz.2 (.inl rfl))
          simp only at hn
          rw[C6]at hn
          exact absurd (C5.2 ⟨x,hx,by rw[beq_iff_eq]; exact p1⟩) hn
        · exact r4 id' h' hn
    | none =>
      obtain⟨r1,r2,r3,r4⟩:=jL l L o hR n2 λid' h'=>hid id' (Df _ h')
      refine⟨r1,r2,r3,λid' h' hn=>?_⟩
      rcases De.1 h' with rfl | h'
      · have hC:=(jg (ve.1 hR.plan).1 ((ve.1 hR.home).2.2.1 _ (fT i1))).blk
        simp only[yA,CW,decide_eq_true_eq]at hC
        exact ss r2 (oy (N:=N) r1.plan) ⟨by omega,by omega⟩ hp
      · exact r4 id' h' hn
theorem kJ {r:Nj} (h:RestF r):(wait r.Ng r.Nz.Nk).Nodup:=by
 have hH:=lS h.home;unfold wait idsL;unfold idsL at hH;rw[ES]at hH;have:(r.Ng.filter λx=>!hasL r.Nz.Nk x.Id).Pairwise λa b=>a.Id<b.Id:=hH.filter _;refine ES.2 (this.imp λh=>?_);omega
variable {fu:Nat}
theorem lR (hfu:2097153≤fu) (r:Nj) (hB:RestB r) (hF:PlanF r.Nz) (yR:Nj) (e:Nh) (hC:1≤e.Nd.Px∧e.Nd.Px≤24) (hD:r.Np.length≤2097152) (l:List Nv) (hl:∀a∈l,RtB r.Nz.Nq a∧a.Nw.Nodup) (hll:l.length≤1000) :
    ∀(fk i:Nat),i≤l.length→l.length - i<fk→xU fu r e.Id yR e (l,true) fk i=some (match (l.drop i).findSome? (tryR r.Nz.Nk r.Np e) with | some x=>.ret (⟨addP r.Nz x,yR.Ng,yR.Np⟩,true) | none=>.next (l.length:Int)):=by
 intro fk;induction fk with
 | zero=>intro i _ h; omega
 | succ fk ih =>
   intro i hi hk
   rw[xU]
   by_cases h:i<l.length
   · obtain⟨a1,a2⟩:=hl _ (Dh h)
     have a3:=a1.short
     obtain⟨c,hc,hd⟩:=fV (fu:=fu) l[i].Nw r.Np (by omega) a2 hD hfu
     have hblk:∀y∈r.Nz.Nk,yA y.Nd=true:=λy hy=>(hF.light y hy).blk
     rw[if_pos (by simpa using h),vD h,CP,hc,CP,hd,vV h (by omega),←C7 h,List.findSome?_cons]
     unfold tryR
     cases hm:meets l[i].Nw r.Np
     · rw[if_neg C9,if_neg C9,mL hfu r.Nz hB.1 hF l[i] (by omega) a1.fib,CP,nS hfu _ _ (tn hblk _) hC.1 hC.2,CP]
       cases hh:(fits (along r.Nz.Nk l[i].Nw) e.Nd.Px).head? with
       | none =>
         simp only[Option.map_none,CU,if_false]
         exact ih (i + 1) h (by omega)
       | some f =>
         simp only[Fg,if_true]
         rw[je hfu r.Nz _ hB.1 (by simp only; omega)]
         rfl
     · rw[if_pos rfl,if_pos rfl]
       exact ih (i + 1) h (by omega)
   · obtain rfl:i=l.length:=by omega
     rw[if_neg (by simp),Dn]
     rfl
theorem jK (hfu:2097200≤fu) (r:Nj) (hB:RestB r) (hR:RestF r) {id:Int} (hid:hasL r.Ng id=true):bq fu r id=some (match plc r.Nz.Nq r.Nz.Nk r.Np (xK r.Ng id) with | some x=>(⟨addP r.Nz x,r.Ng,r.Np⟩,true) | none=>(r,false)):=by
 have hfu':2097153≤fu:=by omega
 have hpF:=ep hR.plan;have hnet:eq r.Nz.Nq=true:=(ve.1 hR.plan).1;have hyok:zT r.Nz.Nq (xK r.Ng id)=true:=(ve.1 hR.home).2.2.1 _ (fT hid);have hyF:=jg hnet hyok;have hys:=hyF.short;have hHl:=(ve.1 hR.home).2.1;simp only at hHl;have hDl:=d6 hR.down;have hNf:=(netF hnet).fib;have hC:=hyF.blk;simp only[yA,CW,decide_eq_true_eq]at hC;have hro:(yF r.Nz.Nq (xK r.Ng id).Nv).isSome=true:=by
   obtain⟨o,ho⟩:=hyF.route
   rw[ho]; rfl
 have hix:idx r.Ng ((atId r.Ng id:Nat):Int)=some (xK r.Ng id):=zH l0 (ja hid);unfold bq;rw[fg hfu' r hB,CP,nh r id (by omega) (by omega),if_pos hid,CP,hix,CP,
   rh hfu' r (xK r.Ng id) (n:=r.Nz.Nq) (by have:=hpF.short; omega) hpF.light hyF (by omega),CP]
 unfold plc;cases hop:(!meets (xK r.Ng id).Nv.Nw r.Np&&kI r.Nz.Nk (xK r.Ng id))
 rw[if_neg C9,if_neg C9,iW hfu' _ _ hB.1.1 (by omega) hro,CP,mb hfu _ _ _ hB.1.1,CP];by_cases hp:dU r.Nz.Nq (xK r.Ng id).Nv.Pq (endR r.Nz.Nq (xK r.Ng id).Nv)=true∧(rts r.Nz.Nq (xK r.Ng id).Nv.Pq (endR r.Nz.Nq (xK r.Ng id).Nv)).length≤200;obtain⟨-,⟨s0,s1⟩,⟨t0,t1⟩,hne⟩:=kS.1 hp.1;rw[if_pos hp,if_pos hp,if_neg (by simp)];have hl:=lR hfu' r hB hpF r (xK r.Ng id) ⟨by omega,by omega⟩ (by omega) (rts r.Nz.Nq (xK r.Ng id).Nv.Pq (endR r.Nz.Nq (xK r.Ng id).Nv)) (λa ha=>by
   obtain⟨r1,r2,r3,r4⟩:=tu (netF hnet) s0 s1 hne ha
   obtain⟨o,ho⟩:=EC.1 r2
   exact⟨r4,(fK (netF hnet) ho).2.2.1⟩) (by omega) fu 0 (by omega) (by omega)
 rw[show ((0:Nat):Int)=0 from rfl,Di,mi hid]at hl;rw[hl,CP];cases (rts r.Nz.Nq (xK r.Ng id).Nv.Pq (endR r.Nz.Nq (xK r.Ng id).Nv)).findSome? (tryR r.Nz.Nk r.Np (xK r.Ng id)) <;> rfl
 rw[if_neg hp,if_neg hp];rfl;rw[if_pos rfl,if_pos rfl,je hfu' r.Nz _ hB.1 (by omega)];rfl
theorem rM (hfu:2097200≤fu) (N:Nq) (H:List Nh) (D:List Int) (hN:NetB N) (hHB:H.length≤2097152∧∀x∈H,x.Nv.Nw.length≤2097152) (w:List Int) (hwl:w.length≤1000):∀(fk i:Nat) (L:List Nh) (o:List Int),i≤w.length→w.length - i<fk→o.length≤i→RestF ⟨⟨N,L⟩,H,D⟩→(w.drop i).Nodup→(∀id∈w.drop i,hasL H id=true∧hasL L id=false) →
    xt fu w fk o i N.Nx N.Nw L H D=some ((resA N H D (w.drop i) L o).2,(w.length:Int),N.Nx,N.Nw,(resA N H D (w.drop i) L o).1,H,D):=by
 intro fk;induction fk with
 | zero=>intro i _ _ _ h; omega
 | succ fk ih =>
   intro i L o hi hk ho hR hnd hid
   rw[xt]
   by_cases h:i<w.length
   · have hdr:=C7 h
     rw[←hdr]at hnd hid ⊢
     obtain⟨n1,n2⟩:=D6.1 hnd
     obtain⟨i1,i2⟩:=hid _ Ds
     have hDl:=d6 hR.down
     have hNf:=(netF (ve.1 hR.plan).1).fib
     have hpF:=ep hR.plan
     have hLl:=hpF.short
     simp only at hDl hNf hLl
     have hB:RestB ⟨⟨N,L⟩,H,D⟩:=⟨⟨hN,by simp only; omega,λx hx=>by have:=(hpF.light x hx).short; omega⟩,hHB,by simp only; omega⟩
     have he:=jK hfu ⟨⟨N,L⟩,H,D⟩ hB hR i1
     simp only at he
     rw[if_pos (by simpa using h),vD h,CP,he,CP,vV h (by omega)]
     unfold resA
     cases hp:plc N L D (xK H w[i]) with
     | some x =>
       obtain⟨p1,p2,p3⟩:=tE hR i1 i2 hp
       simp only[if_true,addP]
       rw[yc (by rw[C4]; omega),CP]
       refine ih (i + 1) (putL L x) (o++[w[i]]) h (by omega) (by rw[C3,C4]; omega) p3 n2 λid' h'=>?_
       obtain⟨j1,j2⟩:=hid id' (Df _ h')
       refine⟨j1,?_⟩
       rw[C6]
       intro hc
       obtain⟨y,hy,he⟩:=C5.1 hc
       rw[beq_iff_eq]at he
       rcases dz.1 hy with rfl | hy
       · rw[p1]at he
         exact n1 (he▸h')
       · rw[C6]at j2
         exact j2 (C5.2 ⟨y,hy,by rw[beq_iff_eq]; exact he⟩)
     | none =>
       simp only[CU,if_false]
       exact ih (i + 1) L o h (by omega) (by omega) hR n2 λid' h'=>hid id' (Df _ h')
   · obtain rfl:i=w.length:=by omega
     rw[if_neg (by simp),Dn]
     rfl
def allR (r:Nj):List Nh×List Int:=resA r.Nz.Nq r.Ng r.Np (wait r.Ng r.Nz.Nk) r.Nz.Nk []
theorem pE (hfu:2097200≤fu) (r:Nj) (hB:RestB r):a7 fu r=some (if rsOk r=true then (⟨⟨r.Nz.Nq,(allR r).1⟩,r.Ng,r.Np⟩,(allR r).2,true) else (iA,[],false)):=by
 unfold a7;rw[bS (by omega) r hB,CP];cases hc:rsOk r
 rfl;have hR:=iK.1 hc;have h12:=(ve.1 hR.home).2.1;have h13:=(ve.1 hR.plan).2.1;have hwl:=eO hR;simp only at h12;rw[if_neg (by decide),fg (by omega) r hB,CP,gM (by omega) r (by omega) (by omega),CP,if_pos rfl];have hl:=rM hfu r.Nz.Nq r.Ng r.Np hB.1.1 hB.2.1 (wait r.Ng r.Nz.Nk) (by omega) fu 0 r.Nz.Nk [] (by omega) (by omega) (by simp) hR (by rw[Di]; exact kJ hR) (λid hid=>by rw[Di]at hid; exact fX.1 hid);rw[show ((0:Nat):Int)=0 from rfl,Di]at hl;rw[hl];rfl
theorem wM {r:Nj} (h:RestF r):RestF ⟨⟨r.Nz.Nq,(allR r).1⟩,r.Ng,r.Np⟩∧(allR r).1.length=r.Nz.Nk.length + (allR r).2.length∧∀id∈wait r.Ng (allR r).1,plc r.Nz.Nq (allR r).1 r.Np (xK r.Ng id)=none:=by
 obtain⟨r1,r2,r3,r4⟩:=jL (N:=r.Nz.Nq) (H:=r.Ng) (D:=r.Np) (wait r.Ng r.Nz.Nk) r.Nz.Nk [] h (kJ h) λid hid=>fX.1 hid;refine⟨r1,by rw[En]at r3; exact r3,λid hid=>?_⟩;obtain⟨w1,w2⟩:=fX.1 hid;refine r4 id (fX.2 ⟨w1,?_⟩) w2;rw[C6];intro hc;obtain⟨y,hy,he⟩:=C5.1 hc;rw[C6]at w2;exact w2 (C5.2 ⟨y,r2 y hy,he⟩)
end AT
namespace AT
variable {fu:Nat}
theorem iB (hfu:2097153≤fu) (l:List Int) (h:l.length≤2097152):cI fu l l=some true:=by
 unfold cI;have h1:((l.length:Int) != (l.length:Int))=false:=by simp
 rw[h1,if_neg C9,wA l (aj fu l l) h (λfk i=>by rw[aj]) fu (by omega)];rfl
theorem mC (hfu:2097153≤fu) (x:Nh) (h:x.Nv.Nw.length≤2097152):bZ fu x x=some true:=by
 unfold bZ ec;rw[iB hfu _ h];simp
theorem km (hfu:2097153≤fu) (n:Nq) (h:NetB n):bH fu n n=some true:=by
  unfold bH;have h1:((n.Nx.length:Int) != (n.Nx.length:Int))=false:=by simp
  have h2:((n.Nw.length:Int) != (n.Nw.length:Int))=false:=by simp
  have e1:xk fu n n fu 0=some (.next (n.Nx.length:Int)):=by
    rw[xr (l:=n.Nx) (G:=xk fu n n) (λ_=>false) (λ_=>false) (by have:=h.1.1; omega)
      (λfk i hi=>by
        have h':(i:Int)<(n.Nx.length:Int):=by omega
        rw[xk]
        simp only[h',decide_true,if_true,vD hi,CP,beq_self_eq_true,DF])
      (λfk=>by rw[xk,if_neg (by simp)]) fu (by have:=h.1.1; omega)]
    simp
  have e2:xj fu n n fu 0=some (.next (n.Nw.length:Int)):=by
    rw[xr (l:=n.Nw) (G:=xj fu n n) (λ_=>false) (λ_=>false) (by have:=h.2; omega)
      (λfk i hi=>by
        have h':(i:Int)<(n.Nw.length:Int):=by omega
        rw[xj]
        simp only[h',decide_true,if_true,vD hi,CP,beq_self_eq_true,DF])
      (λfk=>by rw[xj,if_neg (by simp)]) fu (by have:=h.2; omega)]
    simp
  rw[h1,if_neg C9,h2,CP,if_neg C9,e1,e2];rfl
theorem nD (hfu:2097153≤fu) (p:Nz) (h:gu p):bR fu p p=some true:=by
 unfold bR;have h1:((p.Nk.length:Int) != (p.Nk.length:Int))=false:=by simp
 rw[km hfu _ h.1,h1,wz p.Nk (zA fu p p) (bZ fu) h.2.1 (λe he=>mC hfu e (h.2.2 e he)) (λfk i=>by rw[zA]) fu (by have:=h.2.1; omega)];rfl
end AT
