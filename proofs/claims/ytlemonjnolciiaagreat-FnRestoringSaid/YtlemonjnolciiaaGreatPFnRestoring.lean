/- Failures, restoration and repair lead from valid states to valid ones. -/
import Derived.Test.YtlemonjnolciiaaGreatQVEq
import Derived.Test.YtlemonjnolciiaaGreatP1
set_option linter.unusedSimpArgs false
set_option linter.unusedVariables false
namespace AT
theorem rW {fu:Nat} (l:List Int) (v:Int) (h:l.length<fu) (hn:l.length≤2097152):eH fu l v=some (l.any λx=>x==v):=by
 unfold eH;rw[xr (l:=l) (G:=z7 fu l v) (λx=>x==v) (λi=>true) (by omega)
   (λfk i hi=>by rw[z7,if_pos (by simpa using hi),vD hi]; rfl)
   (λfk=>by rw[z7,if_neg (by simp)]) fu h]
 cases l.any λx=>x==v <;> rfl
theorem qf {a b c:Nat} (h:a + b=c) (hc:c≤1000):w64 ((a:Int) + (b:Int))=(c:Int):=by
 rw[vq (by omega) (by omega)]; omega
theorem ic {a b:List Int}:meets a b=false↔∀x∈a,x∉b:=by
 rw[C6];unfold meets;simp only[ne_eq,C5,beq_iff_eq,not_exists,not_and];constructor;intro h x hx hb;exact h x hx x hb rfl;intro h x hx y hy e;subst e;exact h _ hx hy
theorem RestF.B {r:Nj} (h:RestF r) (hN:NetB r.Nz.Nq):RestB r:=by
 have h1:=ep h.plan;have h2:=ep h.home;have h3:=d6 h.down;have h4:=hN.2;have l1:=h1.short;have l2:=h2.short;simp only at l2;exact⟨⟨hN,by omega,λx hx=>by have:=(h1.light x hx).short; omega⟩,⟨by omega,λx hx=>by have:=(h2.light x hx).short; omega⟩,by omega⟩
theorem wy {r:Nj} (h:RestF r) {fs D:List Int} (hs:stOk fs r.Nz.Nq.Nw.length=true) (hD:D.Pairwise (·<·)) (hm:∀x,x∈D↔x∈r.Np∨x∈fs):RestF ⟨⟨r.Nz.Nq,r.Nz.Nk.filter λx=>!meets x.Nv.Nw fs⟩,r.Ng,D⟩:=by
 obtain⟨n1,n2,n3,n4⟩:=ve.1 h.plan;refine⟨ve.2 ⟨n1,DU (Ez _ _) n2,λx hx=>n3 x (Ej.1 hx).1,n4.filter _⟩,h.home,f4.2 ⟨λx hx=>?_,hD⟩,λx hx=>?_⟩;rcases (hm x).1 hx with hx | hx
 exact (f4.1 h.down).1 x hx;exact (f4.1 hs).1 x hx;obtain⟨x1,x2⟩:=Ej.1 hx;obtain⟨g1,g2,g3,g4,g5⟩:=dc.1 (h.each x x1);refine dc.2 ⟨g1,ic.2 λy hy hyD=>?_,g3,g4,g5⟩;rcases (hm y).1 hyD with hy2 | hy2
 exact ic.1 g2 y hy hy2;exact ic.1 (by simpa using x2) y hy hy2
theorem wc {r:Nj} (h:RestF r) (fs:List Int):RestF (repd r fs):=by
 refine⟨h.plan,h.home,?_,λx hx=>?_⟩;obtain⟨d1,d2⟩:=f4.1 h.down;exact f4.2 ⟨λx hx=>d1 x (Ej.1 hx).1,d2.filter _⟩;obtain⟨g1,g2,g3,g4,g5⟩:=dc.1 (h.each x hx);exact dc.2 ⟨g1,ic.2 λy hy hyD=>ic.1 g2 y hy (Ej.1 hyD).1,g3,g4,g5⟩
theorem pc {fu:Nat} (hfu:2097200≤fu) {r:Nj} (hR:RestF r) (hN:NetB r.Nz.Nq) {id:Int} (hid:id∈wait r.Ng r.Nz.Nk) (hp:plc r.Nz.Nq r.Nz.Nk r.Np (xK r.Ng id)=none):zW fu r id=some (r,false,true):=by
 have hB:=hR.B hN;have h12:=(ve.1 hR.home).2.1;have h13:=(ve.1 hR.plan).2.1;simp only at h12;have hwl:=eO hR;unfold zW;rw[bS (by omega) r hB,iK.2 hR,CP,if_neg (by decide),gM (by omega) r (by omega) (by omega),CP,ed _ id (by omega) (by omega)];have hc:((wait r.Ng r.Nz.Nk).any λx=>x==id)=true:=C5.2 ⟨id,hid,by simp⟩;rw[hc,CP,CP,if_neg (by decide),jK hfu r hB hR (fX.1 hid).1,hp];rfl
theorem q7 {fu:Nat} (hfu:2097200≤fu) {t:Nj} (hR:RestF t) (hN:NetB t.Nz.Nq) (hp:∀id∈wait t.Ng t.Nz.Nk,plc t.Nz.Nq t.Nz.Nk t.Np (xK t.Ng id)=none) (o:List Int) (b1 b2:Bool):∀(fk i:Nat),i≤(wait t.Ng t.Nz.Nk).length→(wait t.Ng t.Nz.Nk).length - i<fk→∃z,xD fu (t,o,b1) (wait t.Ng t.Nz.Nk,b2) fk i=some (.next z):=by
 have h12:=(ve.1 hR.home).2.1;simp only at h12;have hwl:=eO hR;intro fk;induction fk with
 | zero=>intro i _ h; omega
 | succ fk ih =>
   intro i hi hk
   rw[xD]
   by_cases h:i<(wait t.Ng t.Nz.Nk).length
   · have hm:=Dh h
     rw[if_pos (by simpa using h),vD h,CP,pc hfu hR hN hm (hp _ hm),CP,vV h (by omega)]
     exact ih (i + 1) h (by omega)
   · rw[if_neg (by simpa using h)]
     exact⟨_,rfl⟩
theorem q6 {fu:Nat} (hfu:2097153≤fu) (r:Nj) (fs:List Int) (t:Nj) (hf:fs.length≤1000) (hD:t.Np.length≤1000) (b:Bool):∀(fk i:Nat),i≤fs.length→fs.length - i<fk→∃z,xC fu (r,fs) (repd t fs,b) fk i=some (.next z):=by
 intro fk;induction fk with
 | zero=>intro i _ h; omega
 | succ fk ih =>
   intro i hi hk
   rw[xC]
   by_cases h:i<fs.length
   · have hl:(repd t fs).Np.length≤1000:=DU (Ez _ _) hD
     have hc:((repd t fs).Np.any λx=>x==fs[i])=false:=by
       rw[FJ]
       intro x hx hxe
       rw[beq_iff_eq]at hxe
       have:=(Ej.1 hx).2
       rw[Dl,FJ]at this
       exact this fs[i] (Dh h) (by rw[beq_iff_eq]; exact hxe.symm)
     have hx:eH fu (repd t fs,b).1.Np fs[i]=some false:=by
       rw[show (repd t fs,b).1.Np=(repd t fs).Np from rfl,rW _ _ (by omega) (by omega),hc]
     rw[if_pos (by simpa using h),vD h,CP,hx,CP,if_neg C9,vV h (by omega)]
     exact ih (i + 1) h (by omega)
   · rw[if_neg (by simpa using h)]
     exact⟨_,rfl⟩
theorem sX {fu:Nat} (hfu:2097200≤fu) {x:List By} (hc:Cur ⟨x,0,⟨0⟩⟩ 0):∃r fs,za fu x=some (r,fs)∧RestB r∧fs.length≤21:=by
 obtain⟨r,c',h1,h2,h3,h4⟩:=jb hfu hc (by omega);obtain⟨l,c2,g1,g2,g3⟩:=qm (fu:=fu) (by omega) h4 (by omega) (n:=r.Nz.Nq) (by have:=h2.f2; omega);refine⟨r,l,?_,h3,g2⟩;unfold za;rw[h1,CP,g1];rfl
theorem jo (x0:List By) (o0:tH x0):∃fu,bN fu x0=some true:=by
 obtain⟨fu,hfu4⟩:∃fu,2097200≤fu:=⟨2097200,Da _⟩;have hfu:2097153≤fu:=by omega
 refine⟨fu,?_⟩;unfold bN ii;by_cases hb:(x0.length:Int) > 65536;simp only[hb,decide_true,CP,if_true];simp only[hb,decide_false,CP,CU,if_false];have hc:Cur ⟨x0,0,⟨0⟩⟩ 0:=qi o0.1 (by omega);obtain⟨r,fs,g1,hB,hf⟩:=sX hfu4 hc;rw[g1,CP];dsimp only;unfold cp;rw[gX hfu r fs hB (by omega)];rcases nR hfu r fs hB (by omega) with ⟨hv,D,hI,hD1,hD2⟩ | ⟨hv,hI⟩
 have hv':=hv;rw[CW]at hv';have hR:=iK.1 hv'.1;have hN:=hB.1.1;have h12:=(ve.1 hR.plan).2.1;have h13:=(ve.1 hR.home).2.1;have hDl:=d6 hR.down;have hNf:=(netF (ve.1 hR.plan).1).fib;simp only at h13;obtain⟨DS,hS,hSl⟩:=jH hfu r fs hB hR.plan (by omega) (by omega);obtain⟨s,hs⟩:∃s:Nj,s=⟨⟨r.Nz.Nq,r.Nz.Nk.filter λx=>!meets x.Nv.Nw fs⟩,r.Ng,D⟩:=⟨_,rfl⟩;have hRs:RestF s:=by rw[hs]; exact wy hR hv'.2 hD1 hD2
 have hsN:s.Nz.Nq=r.Nz.Nq:=by rw[hs]
 have hsH:s.Ng=r.Ng:=by rw[hs]
 have hsL:s.Nz.Nk.length + (r.Nz.Nk.filter λx=>meets x.Nv.Nw fs).length=r.Nz.Nk.length:=by
   have:=mn (λx:Nh=>meets x.Nv.Nw fs) r.Nz.Nk
   rw[hs]
   simp only
   omega
 have hBs:=hRs.B (by rw[hsN]; exact hN);have hwr:=eO hR;have hws:=eO hRs;have hlost:(idsL (r.Nz.Nk.filter λx=>meets x.Nv.Nw fs)).length=(r.Nz.Nk.filter λx=>meets x.Nv.Nw fs).length:=gf _;rw[←hs]at hI;rw[hI,CP,hv,CP,if_neg (by decide),hS,CP,CP];generalize hids:idsL (r.Nz.Nk.filter λx=>meets x.Nv.Nw fs)=ids at hlost ⊢;have hvi:=iB hfu ids (by omega);dsimp only;rw[hvi];simp only[bne_self_eq_false,CU,if_false,CP,DF];rw[et hfu r hB,hv'.1,if_pos rfl,CP,et hfu s hBs,iK.2 hRs,if_pos rfl,CP,bS hfu s hBs,iK.2 hRs];have hsHl:s.Ng.length=r.Ng.length:=by rw[hsH]
 have hw1:=qf (show (wait r.Ng r.Nz.Nk).length + ids.length=(wait s.Ng s.Nz.Nk).length by omega) (by omega);simp only[CP,DF,CU,if_false,hw1,bne_self_eq_false];clear hw1;rw[pE hfu4 s hBs,iK.2 hRs,if_pos rfl,CP];obtain⟨a1,a2,a3⟩:=wM hRs;obtain⟨t,ht⟩:∃t:Nj,t=⟨⟨s.Nz.Nq,(allR s).1⟩,s.Ng,s.Np⟩:=⟨_,rfl⟩;have hRt:RestF t:=by rw[ht]; exact a1
 have htN:t.Nz.Nq=r.Nz.Nq:=by rw[ht]; exact hsN
 have hBt:=hRt.B (by rw[htN]; exact hN);have hwt:=eO hRt;have htL:t.Nz.Nk.length=s.Nz.Nk.length + (allR s).2.length:=by rw[ht]; exact a2
 have htH:t.Ng=s.Ng:=by rw[ht]
 have htp:∀id∈wait t.Ng t.Nz.Nk,plc t.Nz.Nq t.Nz.Nk t.Np (xK t.Ng id)=none:=by rw[ht]; exact a3
 rw[←ht];dsimp only;rw[et hfu t hBt,iK.2 hRt,if_pos rfl,CP,bS hfu t hBt,iK.2 hRt];have htl:=(ve.1 hRt.plan).2.1;have htHl:t.Ng.length=s.Ng.length:=by rw[htH]
 have hw2:=qf (show (wait t.Ng t.Nz.Nk).length + (allR s).2.length=(wait s.Ng s.Nz.Nk).length by omega) (by omega);simp only[CP,DF,CU,if_false,hw2,bne_self_eq_false];clear hw2;obtain⟨z1,hz1⟩:=q7 hfu4 hRt (by rw[htN]; exact hN) htp (allR s).2 true true fu 0 (by omega) (by
   have:=(ve.1 hRt.home).2.1
   simp only at this
   omega)
 rw[show ((0:Nat):Int)=0 from rfl]at hz1;rw[hz1,CP];have hst:stOk fs t.Nz.Nq.Nw.length=true:=by rw[htN]; exact hv'.2
 have hDt:=d6 hRt.down;have hNt:=(netF (ve.1 hRt.plan).1).fib;show (yT fu t fs).bind _=_;rw[mc hfu t fs hBt (by omega),iK.2 hRt,hst];simp only[Bool.and_self,if_true,CP];obtain⟨z2,hz2⟩:=q6 hfu r fs t (by omega) (by omega) true fu 0 (by omega) (by omega);rw[show ((0:Nat):Int)=0 from rfl]at hz2;rw[hz2,CP];have hRu:=wc hRt fs;have hBu:RestB (repd t fs):=hRu.B (by show NetB t.Nz.Nq; rw[htN]; exact hN);have hvp:bR fu (repd t fs).Nz t.Nz=some true:=nD hfu t.Nz hBt.1;show ((uQ fu (repd t fs)).bind λy16=>if y16=true then (bR fu (repd t fs).Nz t.Nz).bind λy17=>some y17 else some false).bind _=_
 rw[bS hfu _ hBu,iK.2 hRu,CP,if_pos rfl,hvp];rfl;have hvi:=iB hfu [] (by simp);rw[hI,CP,hv,CP,if_pos (by decide),CP];dsimp only;rw[hvi];rfl
end AT
