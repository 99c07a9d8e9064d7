/- Draws of networks, routes and blocks, plainly: they come to an end, and what they yield is small. -/
import Derived.Test.YtlemonjnolciiaaGreatQCur
import Derived.Test.YtlemonjnolciiaaGreatQRv
set_option linter.unusedSimpArgs false
set_option linter.unusedVariables false
namespace AT
structure NetD (n:Nq):Prop where
  n1:1≤n.Nx.length
  n2:n.Nx.length≤20
  ns:∀e∈n.Nx,e.size≤100
  f2:n.Nw.length≤20
theorem NetD.B {n:Nq} (h:NetD n):NetB n:=⟨⟨by have:=h.n2; omega,λe he=>by have:=h.ns e he; omega⟩,by have:=h.f2; omega⟩
theorem AV {a n:Int} (ha:0≤a) (hn:0<n):∃q,rem a n=some q∧0≤q∧q<n:=by
 unfold rem;rw[if_neg (by omega),GW ha];exact⟨_,rfl,Int.emod_nonneg _ (by omega),Int.emod_lt_of_pos _ hn⟩
theorem app1 {α:Type} {l:List α} {x:α} (h:l.length≤1000000):app l [x]=some (l++[x]):=xH (by simp; omega)
theorem pc (fu:Nat) (a b:Int):∃r,cd fu a b=some r∧(r=a∨r=b):=by
 unfold cd; split <;> exact⟨_,rfl,by simp⟩
theorem rC (fu:Nat) (a b:Int):∃r,cP fu a b=some r∧(r=a∨r=b):=by
 unfold cP; split <;> exact⟨_,rfl,by simp⟩
variable {fu:Nat}
theorem qc (l:List Nt) (f:Nt) (hl:l.length≤1000000):∀(fk i:Nat),i≤l.length→l.length - i<fk→∃j:Nat,ax fu l f fk i=some (j:Int)∧j≤l.length:=by
 intro fk;induction fk with
 | zero=>intro i _ h; omega
 | succ fk ih =>
   intro i hi hf
   rw[ax]
   by_cases h:i<l.length
   · have hlt:((i:Int)<(l.length:Int))=True:=by simp; omega
     simp only[hlt,decide_true,if_true,vF h,Dw,j7,vr h (show (l.length:Int)≤9223372036854775807 by omega)]
     split
     · exact ih (i + 1) h (by omega)
     · exact⟨i,rfl,hi⟩
   · have hlt:((i:Int)<(l.length:Int))=False:=by simp; omega
     simp only[hlt,decide_false,DF,if_false,Dw]
     exact⟨i,rfl,hi⟩
theorem pf (hfu:2097153≤fu) (l:List Nt) (f:Nt) (hl:l.length≤1000000):∃r,dK fu l f=some r∧r.length=l.length + 1:=by
 unfold dK;obtain⟨j,h1,h2⟩:=qc (fu:=fu) l f hl fu 0 (by omega) (by omega);have hs:sub l (j:Int) (l.length:Int)=some (l.drop j):=by
   unfold sub
   rw[if_pos (by omega)]
   simp
 rw[show ((0:Nat):Int)=0 from rfl]at h1;rw[h1,Dw,ee h2,Dw,hs,Dw,bY (by rw[DO]; omega),Dw,xH (by rw[DO,DJ]; omega),Dw,xH (by rw[DR,DO,DJ,Er]; omega),Dw];refine⟨_,rfl,?_⟩;simp only[DR,DO,DJ,Er];omega
theorem rB (hfu:2097153≤fu) (y:Int×Pz) (K:Nat) (hK:w64 (2 + y.1)=(K:Int)) (h2:2≤K) (h6:K≤6):∀(fk i:Nat) (m:List By) (m2:Int) (m3:U64) (l:List Nt) (k B:Int),Cur ⟨m,m2,m3⟩ k→k≤B + 10 * (i:Int)→B≤1000000000→l.length≤i→i≤K→K - i<fk →
    ∃i' m' a' s' l',vv fu y fk i m m2 m3 l=some (i',m',a',s',l')∧l'.length≤K∧Cur ⟨m',a',s'⟩ (B + 10 * (K:Int)):=by
 intro fk;induction fk with
 | zero=>intro i _ _ _ _ _ _ _ _ _ _ _ h; omega
 | succ fk ih =>
   intro i m m2 m3 l k B hc hk hB hl hi hf
   rw[vv,hK]
   by_cases h:i<K
   · have hlt:((i:Int)<(K:Int))=True:=by simp; omega
     have e:w64 ((i:Int) + 1)=((i + 1:Nat):Int):=vr h (by omega)
     obtain⟨q,hq,q0,q1⟩:=AV (a:=((i + 1:Nat):Int)) (n:=(K:Int)) (by omega) (by omega)
     obtain⟨r1,c1,g1,-,-,k1⟩:=xf (fu:=fu) hc (by omega) 10 (by decide)
     simp only[hlt,decide_true,if_true,e,hq,Dw,xa,g1]
     have k1':Cur ⟨c1.code,c1.at_,c1.seed⟩ (k + 2):=k1
     split
     · exact ih (i + 1) _ _ _ _ k B hc (by omega) hB (by omega) h (by omega)
     · split
       · exact ih (i + 1) _ _ _ _ (k + 2) B k1' (by omega) hB (by omega) h (by omega)
       · obtain⟨r3,g3,-⟩:=pc fu (i:Int) q
         obtain⟨r4,g4,-⟩:=rC fu (i:Int) q
         obtain⟨r5,c5,g5,-,-,k5⟩:=xf (fu:=fu) k1 (by omega) 8 (by decide)
         obtain⟨r6,c6,g6,-,k6⟩:=iF (fu:=fu) k5 (by omega) [0,0,0,1,2] (by decide) (by decide)
         obtain⟨r7,g7,h7⟩:=pf hfu l ({ A:=r3,B:=r4,Pk:=w64 (100 * (w64 (1 + r5))),Pd:=r6 }:Nt) (by omega)
         simp only[g3,g4,g5,g6,g7,Dw]
         exact ih (i + 1) _ _ _ _ (k + 2 + 2 + 2) B k6 (by omega) hB (by omega) h (by omega)
   · obtain rfl:i=K:=by omega
     have hlt:((i:Int)<(i:Int))=False:=by simp
     simp only[hlt,decide_false,DF,if_false]
     exact⟨_,_,_,_,_,rfl,hl,hc.mono (by omega)⟩
theorem rA (hfu:2097153≤fu) (y:Int×Pz) (K:Nat) (hK:w64 (2 + y.1)=(K:Int)) (h2:2≤K) (h6:K≤6):∀(fk n:Nat) (l:List Nt) (m:List By) (m2:Int) (m3:U64) (k B:Int),Cur ⟨m,m2,m3⟩ k→k≤B - 10 * (n:Int)→B≤1000000000→l.length + n≤9→n<fk →
    ∃i' l' m' a' s',vU fu y fk (n:Int) l m m2 m3=some (i',l',m',a',s')∧l'.length≤9∧l.length≤l'.length∧Cur ⟨m',a',s'⟩ B:=by
 intro fk;induction fk with
 | zero=>intro n _ _ _ _ _ _ _ _ _ _ h; omega
 | succ fk ih =>
   intro n l m m2 m3 k B hc hk hB hl hf
   rw[vU,hK]
   by_cases h:0<n
   · have hlt:((n:Int) > 0)=True:=by simp; omega
     have e:w64 ((n:Int) - 1)=((n - 1:Nat):Int):=eq h (by omega)
     obtain⟨r1,c1,g1,-,-,k1⟩:=xf (fu:=fu) hc (by omega) (K:Int) (by omega)
     obtain⟨r2,c2,g2,-,-,k2⟩:=xf (fu:=fu) k1 (by omega) (K:Int) (by omega)
     simp only[hlt,decide_true,if_true,e,g1,g2,Dw]
     split
     · obtain⟨r3,g3,-⟩:=pc fu r1 r2
       obtain⟨r4,g4,-⟩:=rC fu r1 r2
       obtain⟨r5,c5,g5,-,-,k5⟩:=xf (fu:=fu) k2 (by omega) 8 (by decide)
       obtain⟨r6,c6,g6,-,k6⟩:=iF (fu:=fu) k5 (by omega) [0,0,0,1,2] (by decide) (by decide)
       obtain⟨r7,g7,h7⟩:=pf hfu l ({ A:=r3,B:=r4,Pk:=w64 (100 * (w64 (1 + r5))),Pd:=r6 }:Nt) (by omega)
       simp only[g3,g4,g5,g6,g7,Dw]
       obtain⟨i',l',m',a',s',q1,q2,q3,q4⟩:=ih (n - 1) r7 _ _ _ (k + 2 + 2 + 2 + 2) B k6 (by omega) hB (by omega) (by omega)
       exact⟨i',l',m',a',s',q1,q2,by omega,q4⟩
     · exact ih (n - 1) _ _ _ _ (k + 2 + 2) B k2 (by omega) hB (by omega) (by omega)
   · obtain rfl:n=0:=by omega
     rw[if_neg (by simp)]
     exact⟨_,_,_,_,_,rfl,by omega,D3 _,hc.mono (by omega)⟩
theorem lg (hfu:2097153≤fu) {c:Pz} {k:Int} (hc:Cur c k) (hk:k≤900000000):∃r c',yz fu c=some (r,c')∧NetD r∧r.Nx.length≤6∧r.Nw.length≤9∧Cur c' (k + 200):=by
 unfold yz;obtain⟨r1,c1,g1,p0,p1,k1⟩:=xf (fu:=fu) hc (by omega) 5 (by decide);have p2:=p1 (by decide);have hK:w64 (2 + r1)=(((2 + r1).toNat:Nat):Int):=by rw[vt (by omega) (by omega)]; omega
 have hK2:2≤(2 + r1).toNat:=by omega
 have hK6:(2 + r1).toNat≤6:=by omega
 obtain⟨i2,m2,a2,s2,l2,g2,h2,k2⟩:=rB hfu (r1,c1) (2 + r1).toNat hK hK2 hK6 fu 0 c1.code c1.at_ c1.seed [] (k + 2) (k + 2) k1 (by omega) (by omega) (by simp) (by omega) (by omega);obtain⟨r3,c3,g3,q0,q1,k3⟩:=xf (fu:=fu) k2 (by omega) 4 (by decide);have q2:=q1 (by decide);obtain⟨i4,l4,m4,a4,s4,g4,h4,-,k4⟩:=rA hfu (r1,c1) (2 + r1).toNat hK hK2 hK6 fu r3.toNat l2 c3.code c3.at_ c3.seed (k + 2 + 10 * ((2 + r1).toNat:Int) + 2) (k + 200) k3 (by omega) (by omega) (by omega) (by omega);rw[GV]at g2;rw[EW q0]at g4;simp only[g1,Dw,hK];rw[ee (by simp; omega)];simp only[g2,g3,g4,Dw];refine⟨_,_,rfl,⟨by simp; omega,by simp; omega,λe he=>?_,by simp only; omega⟩,by simp; omega,h4,k4⟩;have he':=GO he;simp only[DZ,Fy,or_false]at he';rcases he' with rfl | rfl | rfl | rfl | rfl | rfl <;> decide
theorem rH (hfu:2097153≤fu) {c:Pz} {k:Int} (hc:Cur c k) (hk:k≤900000000):∃r c',ao fu c=some (r,c')∧NetD r∧1≤r.Nw.length∧Cur c' (k + 200):=by
 unfold ao;obtain⟨r,c',g1,h1,h2,h3,k1⟩:=lg hfu hc hk;simp only[g1,Dw];split
 rename_i h;have h0:r.Nw.length=0:=by simpa using h
 rw[app1 (by omega)];exact⟨_,_,rfl,⟨h1.n1,h1.n2,h1.ns,by simp; omega⟩,by simp,k1⟩;rename_i h;have h0:r.Nw.length≠0:=by simpa using h
 exact⟨_,_,rfl,h1,by omega,k1⟩
theorem nP (hfu:2097153≤fu) (n:Nq) (y:Int×Pz) (seen:List Int) (hn:n.Nw.length≤1000000) (h1:1≤seen.length) (h2:seen.length≤1000000):∀(fk i:Nat) (o:List Int),i≤n.Nw.length→n.Nw.length - i<fk→o.length≤i→(∀e∈o,0≤e∧e<(n.Nw.length:Int)) →
    ∃l i',vD fu n y seen fk o i=some (l,i')∧l.length≤n.Nw.length∧∀e∈l,0≤e∧e<(n.Nw.length:Int):=by
 intro fk;induction fk with
 | zero=>intro i _ _ h; omega
 | succ fk ih =>
   intro i o hi hf ho hr
   rw[vD]
   by_cases h:i<n.Nw.length
   · have hlt:((i:Int)<(n.Nw.length:Int))=True:=by simp; omega
     have e1:w64 ((seen.length:Int) - 1)=((seen.length - 1:Nat):Int):=by rw[vt (by omega) (by omega)]; omega
     have hh:∀v,ah fu seen v=some (seen.any λx=>x==v):=λv=>fe seen v (by omega) (by omega)
     have ha:app o [(i:Int)]=some (o++[(i:Int)]):=app1 (by omega)
     simp only[hlt,decide_true,if_true,e1,vF (show seen.length - 1<seen.length by omega),Dw,gm fu n i _ h,hh,ha,vr h (show (n.Nw.length:Int)≤9223372036854775807 by omega)]
     have two:∀b:Bool,∃l i',(if b=true then vD fu n y seen fk (o++[(i:Int)]) ((i + 1:Nat):Int) else vD fu n y seen fk o ((i + 1:Nat):Int))=some (l,i')∧l.length≤n.Nw.length∧∀e∈l,0≤e∧e<(n.Nw.length:Int):=by
       intro b
       cases b
       · exact ih (i + 1) o h (by omega) (by omega) hr
       · refine ih (i + 1) _ h (by omega) (by simp; omega) λe he=>?_
         rcases Dx.1 he with he | he
         · exact hr e he
         · simp only[DU]at he
           omega
     split
     · exact two _
     · exact two false
   · obtain rfl:i=n.Nw.length:=by omega
     rw[if_neg (by simp)]
     exact⟨_,_,rfl,ho,hr⟩
theorem nQ (hfu:2097153≤fu) (n:Nq) (y:Int×Pz) (hn:n.Nw.length≤1000):∀(fk m:Nat) (seen l:List Int) (b:List By) (a:Int) (s:U64) (k B:Int),Cur ⟨b,a,s⟩ k→k≤B - 2 * (m:Int)→B≤1000000000→1≤seen.length→seen.length + m≤1000→l.length + m≤4→(∀e∈l,0≤e∧e<(n.Nw.length:Int))→m<fk →
    ∃s2 m2 l' b' a' s',xI fu n y fk seen (m:Int) l b a s=some (s2,m2,l',b',a',s')∧l'.length≤4∧(∀e∈l',0≤e∧e<(n.Nw.length:Int))∧Cur ⟨b',a',s'⟩ B:=by
 intro fk;induction fk with
 | zero=>intro m _ _ _ _ _ _ _ _ _ _ _ _ _ _ h; omega
 | succ fk ih =>
   intro m seen l b a s k B hc hk hB hs1 hs2 hl hr hf
   rw[xI]
   by_cases h:0<m
   · have hlt:((m:Int) > 0)=True:=by simp; omega
     have e:w64 ((m:Int) - 1)=((m - 1:Nat):Int):=eq h (by omega)
     obtain⟨z,zi,g1,z1,z2⟩:=nP hfu n y seen (by omega) hs1 (by omega) fu 0 [] (by omega) (by omega) (by simp) (by simp)
     rw[GV]at g1
     have e1:w64 ((seen.length:Int) - 1)=((seen.length - 1:Nat):Int):=by rw[vt (by omega) (by omega)]; omega
     simp only[hlt,decide_true,if_true,e,g1,Dw]
     by_cases hz:z.length=0
     · have hz':((z.length:Int)==0)=true:=by simp [hz]
       simp only[hz',if_true]
       exact⟨_,_,_,_,_,_,rfl,by omega,hr,hc.mono (by omega)⟩
     · have hz':((z.length:Int)==0)=false:=by simpa using hz
       obtain⟨r1,c1,g2,p0,p1,k1⟩:=xf (fu:=fu) hc (by omega) (z.length:Int) (by omega)
       obtain⟨x,hx,hxm⟩:=ab (l:=z) (i:=r1) p0 (p1 (by omega))
       obtain⟨x0,x1⟩:=z2 x hxm
       have hxn:x=((x.toNat:Nat):Int):=by omega
       have ho:∀v,yp fu n x v=some (oth (gd n.Nw x.toNat f0) v):=λv=>by
         have:=gm fu n x.toNat v (by omega)
         rwa [←hxn]at this
       simp only[hz',DF,if_false,g2,Dw,hx,e1,vF (show seen.length - 1<seen.length by omega),ho,app1 (show l.length≤1000000 by omega),app1 (show seen.length≤1000000 by omega)]
       refine ih (m - 1) _ _ _ _ _ (k + 2) B k1 (by omega) hB (by simp) (by simp; omega) (by simp; omega) (λq hq=>?_) (by omega)
       rcases Dx.1 hq with hq | hq
       · exact hr q hq
       · simp only[DU]at hq
         omega
   · obtain rfl:m=0:=by omega
     rw[if_neg (by simp)]
     exact⟨_,_,_,_,_,_,rfl,by omega,hr,hc.mono (by omega)⟩
theorem oN (hfu:2097153≤fu) {c:Pz} {k:Int} (hc:Cur c k) (hk:k≤900000000) {n:Nq} (hn:n.Nw.length≤1000) (hm:n.Nx.length≤1000):∃r c',zv fu c n=some (r,c')∧r.Nw.length≤4∧(∀e∈r.Nw,0≤e∧e<(n.Nw.length:Int))∧Cur c' (k + 20):=by
 unfold zv;obtain⟨r1,c1,g1,-,-,k1⟩:=xf (fu:=fu) hc (by omega) (n.Nx.length:Int) (by omega);obtain⟨r2,c2,g2,p0,p1,k2⟩:=xf (fu:=fu) k1 (by omega) 4 (by decide);have p2:=p1 (by decide);have e:w64 (1 + r2)=(((1 + r2).toNat:Nat):Int):=by rw[vt (by omega) (by omega)]; omega
 obtain⟨s3,m3,l3,b3,a3,t3,g3,h3,h4,k3⟩:=nQ hfu n (r1,c1) hn fu (1 + r2).toNat [r1] [] c2.code c2.at_ c2.seed (k + 2 + 2) (k + 20) k2 (by omega) (by omega) (by simp) (by simp; omega) (by simp; omega) (by simp) (by omega);simp only[g1,g2,Dw,e,g3];exact⟨_,_,rfl,h3,h4,k3⟩
theorem q9 (hfu:2097153≤fu) {c:Pz} {k:Int} (hc:Cur c k) (hk:k≤900000000) {n:Nq} (h1:1≤n.Nw.length) (hn:n.Nw.length≤1000) (hm:n.Nx.length≤1000):∃r c',ak fu c n=some (r,c')∧1≤r.Nw.length∧r.Nw.length≤4∧(∀e∈r.Nw,0≤e∧e<(n.Nw.length:Int))∧Cur c' (k + 20):=by
 unfold ak;obtain⟨r,c',g1,h2,h3,k1⟩:=oN hfu hc hk hn hm;simp only[g1,Dw];split
 obtain⟨e,he,-⟩:=ab (l:=n.Nw) (i:=0) (Gl _) (by omega);rw[he];exact⟨_,_,rfl,by simp,by simp,by simp; omega,k1⟩;rename_i h;have h0:r.Nw.length≠0:=by simpa using h
 exact⟨_,_,rfl,by omega,h2,h3,k1⟩
theorem oF (hfu:2097153≤fu) {c:Pz} {k:Int} (hc:Cur c k) (hk:k≤900000000) {n:Nq} (hn:n.Nw.length≤1000) (hm:n.Nx.length≤1000):∃r c',zj fu c n=some (r,c')∧r.Nw.length≤5∧Cur c' (k + 30):=by
 unfold zj;obtain⟨r,c1,g1,h1,-,k1⟩:=oN hfu hc hk hn hm;obtain⟨r2,c2,g2,-,-,k2⟩:=xf (fu:=fu) k1 (by omega) 16 (by decide);obtain⟨r3,c3,g3,-,-,k3⟩:=xf (fu:=fu) k2 (by omega) 8 (by decide);simp only[g1,g2,g3,Dw,app1 (show r.Nw.length≤1000000 by omega)];split
 exact⟨_,_,rfl,by simp only; omega,k3.mono (by omega)⟩;split
 exact⟨_,_,rfl,by simp; omega,k3.mono (by omega)⟩;split
 exact⟨_,_,rfl,by simp,k2.mono (by omega)⟩;split
 split
 rename_i h;have h0:(1:Int)<r.Nw.length:=by simpa using h
 have e1:w64 ((r.Nw.length:Int) - 1)=((r.Nw.length - 1:Nat):Int):=by rw[vt (by omega) (by omega)]; omega
 simp only[e1,vF (show r.Nw.length - 1<r.Nw.length by omega),Dw,app1 (show r.Nw.length≤1000000 by omega)];exact⟨_,_,rfl,by simp; omega,k2.mono (by omega)⟩;exact⟨_,_,rfl,by omega,k2.mono (by omega)⟩;exact⟨_,_,rfl,by omega,k2.mono (by omega)⟩
theorem wc {c:Pz} {k:Int} (hc:Cur c k) (hk:k≤900000000):∃r c',aK fu c=some (r,c')∧Cur c' (k + 10):=by
 unfold aK xa;obtain⟨r1,c1,g1,-,-,k1⟩:=xf (fu:=fu) hc (by omega) 12 (by decide);obtain⟨r2,c2,g2,-,-,k2⟩:=xf (fu:=fu) k1 (by omega) 26 (by decide);obtain⟨r3,c3,g3,-,-,k3⟩:=xf (fu:=fu) k2 (by omega) 27 (by decide);obtain⟨r4,c4,g4,p0,p1,k4⟩:=xf (fu:=fu) k1 (by omega) 6 (by decide);have p2:=p1 (by decide);obtain⟨r5,c5,g5,-,-,k5⟩:=xf (fu:=fu) k4 (by omega) (w64 ((w64 (24 - (w64 (1 + r4)))) + 1)) (by
   rw[vt (n:=1 + r4) (by omega) (by omega),vt (n:=24 - (1 + r4)) (by omega) (by omega),vt (by omega) (by omega)]; omega)
 simp only[g1,g2,g3,g4,g5,Dw];split
 exact⟨_,_,rfl,k3.mono (by omega)⟩;exact⟨_,_,rfl,k5.mono (by omega)⟩
theorem BY {c:Pz} {k:Int} (hc:Cur c k) (hk:k≤4611686018427387000) (l:List ByteArray) (h1:1≤l.length) (hn:l.length≤1099511627776):∃r c',cu fu c l=some (r,c')∧r∈l∧Cur c' (k + 2):=by
 unfold cu;obtain⟨r,c',g1,g2,g3,g4⟩:=xf (fu:=fu) hc hk (l.length:Int) (by omega);obtain⟨e,he,hm⟩:=ab (l:=l) (i:=r) g2 (g3 (by omega));simp only[g1,Dw,he];exact⟨_,_,rfl,hm,g4⟩
theorem oG:∀(fk:Nat) (l:List Nt) (b:List By) (a:Int) (s:U64) (k B:Int),Cur ⟨b,a,s⟩ k→k≤B + 2 * (l.length:Int)→B≤1000000000→1≤l.length→l.length≤15→15 - l.length<fk →
    ∃l' b' a' s',vN fu fk l b a s=some (l',b',a',s')∧l'.length≤15∧Cur ⟨b',a',s'⟩ (B + 50):=by
 intro fk;induction fk with
 | zero=>intro l _ _ _ _ _ _ _ _ _ _ h; omega
 | succ fk ih =>
   intro l b a s k B hc hk hB h1 h2 hf
   rw[vN]
   obtain⟨r1,c1,g1,p0,p1,k1⟩:=xf (fu:=fu) hc (by omega) 2 (by decide)
   have p2:=p1 (by decide)
   have e:w64 (14 + r1)=14 + r1:=vt (by omega) (by omega)
   have e1:w64 ((l.length:Int) - 1)=((l.length - 1:Nat):Int):=by rw[vt (by omega) (by omega)]; omega
   simp only[g1,Dw,e,e1,vF (show l.length - 1<l.length by omega),app1 (show l.length≤1000000 by omega)]
   split
   · rename_i h
     have h':(l.length:Int)<14 + r1:=by simpa using h
     exact ih _ _ _ _ (k + 2) B k1 (by simp; omega) hB (by simp) (by simp; omega) (by simp; omega)
   · exact⟨_,_,_,_,rfl,h2,k1.mono (by omega)⟩
theorem mE (hfu:2097153≤fu) {c:Pz} {k:Int} (hc:Cur c k) (hk:k≤800000000):∃r c',yt fu c=some (r,c')∧NetD r∧Cur c' (k + 500):=by
 unfold yt;obtain⟨n,c1,g1,h1,h2,h3,k1⟩:=lg hfu hc (by omega);simp only[g1,Dw];by_cases h:n.Nw.length=0;have h':((n.Nw.length:Int)==0)=true:=by simp [h]
 simp only[h',if_true];exact⟨_,_,rfl,h1,k1.mono (by omega)⟩;have h':((n.Nw.length:Int)==0)=false:=by simpa using h
 obtain⟨r2,c2,g2,p0,p1,k2⟩:=xf (fu:=fu) k1 (by omega) (n.Nw.length:Int) (by omega);have p2:=p1 (by omega);obtain⟨e,he,-⟩:=ab (l:=n.Nw) (i:=r2) p0 p2;obtain⟨r3,c3,g3,-,-,k3⟩:=xf (fu:=fu) k2 (by omega) 24 (by decide);obtain⟨r4,c4,g4,m4,k4⟩:=BY (fu:=fu) k3 (by omega) [(⟨#[98]⟩:ByteArray),ByteArray.empty,(⟨#[65]⟩:ByteArray),(⟨#[97,98,99,100,101,102,103,104]⟩:ByteArray),(⟨#[97,98,99,100,101,102,103,104,105]⟩:ByteArray),(⟨#[120,49]⟩:ByteArray)] (by simp) (by simp);obtain⟨r5,c5,g5,-,-,k5⟩:=xf (fu:=fu) k3 (by omega) 8 (by decide);obtain⟨r6,c6,g6,-,-,k6⟩:=xf (fu:=fu) k3 (by omega) 10 (by decide);obtain⟨r7,c7,g7,-,k7⟩:=iF (fu:=fu) k3 (by omega) [0,1,5000,5001] (by decide) (by decide);obtain⟨r8,c8,g8,-,k8⟩:=iF (fu:=fu) k3 (by omega) [(-1),9,10] (by decide) (by decide);obtain⟨e0,he0,-⟩:=ab (l:=n.Nw) (i:=0) (Gl _) (by omega);obtain⟨v0,hv0,-⟩:=ab (l:=n.Nx) (i:=0) (Gl _) (by have:=h1.n1; omega);obtain⟨l9,b9,a9,s9,g9,h9,k9⟩:=oG (fu:=fu) fu n.Nw c3.code c3.at_ c3.seed (k + 200 + 2 + 2) (k + 204) k3 (by omega) (by omega) (by omega) (by omega) (by omega);have hfs:∀f:Nt,NetD ⟨n.Nx,n.Nw.set r2.toNat f⟩:=λf=>⟨h1.n1,h1.n2,h1.ns,by simp only[DN]; exact h1.f2⟩;have ha:=app1 (x:=e0) (show n.Nw.length≤1000000 by omega);obtain⟨e9,he9,-⟩:=ab (l:=n.Nw++[e0]) (i:=r2) p0 (by simp; omega);have hn4:app n.Nx [(⟨#[112]⟩:ByteArray),(⟨#[113]⟩:ByteArray),(⟨#[114]⟩:ByteArray),(⟨#[115]⟩:ByteArray)]=some (n.Nx++[(⟨#[112]⟩:ByteArray),(⟨#[113]⟩:ByteArray),(⟨#[114]⟩:ByteArray),(⟨#[115]⟩:ByteArray)]):=xH (by simp; omega);simp only[h',DF,if_false,g2,g3,g4,g5,g6,g7,g8,g9,he,he0,hv0,ha,he9,hn4,Dw];split
 refine⟨_,_,rfl,⟨by simp only[DN]; exact h1.n1,by simp only[DN]; exact h1.n2,λz hz=>?_,by simp only[DN]; exact h1.f2⟩,k4.mono (by omega)⟩;rcases FP hz with hz | rfl
 exact h1.ns z hz;simp only[DZ,Fy,or_false]at m4;rcases m4 with rfl | rfl | rfl | rfl | rfl | rfl <;> decide
 split
 exact⟨_,_,rfl,hfs _,k5.mono (by omega)⟩;split
 exact⟨_,_,rfl,hfs _,k6.mono (by omega)⟩;split
 exact⟨_,_,rfl,hfs _,k7.mono (by omega)⟩;split
 exact⟨_,_,rfl,hfs _,k8.mono (by omega)⟩;split
 exact⟨_,_,rfl,⟨h1.n1,h1.n2,h1.ns,by simp; omega⟩,k3.mono (by omega)⟩;split
 exact⟨_,_,rfl,⟨h1.n1,h1.n2,h1.ns,by simp only; omega⟩,k9.mono (by omega)⟩;split
 refine⟨_,_,rfl,⟨by simp,by simp; omega,λz hz=>?_,by simp only[DN]; exact h1.f2⟩,k3.mono (by omega)⟩;rcases Dx.1 hz with hz | hz
 exact h1.ns z hz;simp only[DZ,Fy,or_false]at hz;rcases hz with rfl | rfl | rfl | rfl <;> decide
 exact⟨_,_,rfl,hfs _,k3.mono (by omega)⟩
end AT
namespace AT
structure PlanD (p:Nz):Prop where
  net:NetD p.Nq
  ls:p.Nk.length≤20
  rs:∀x∈p.Nk,x.Nv.Nw.length≤20
theorem PlanD.B {p:Nz} (h:PlanD p):ec p:=⟨h.net.B,by have:=h.ls; omega,λx hx=>by have:=h.rs x hx; omega⟩
theorem pe (fu:Nat) (r:Nv) (h:r.Nw.length≤2097152):cO fu r=some r:=by
 unfold cO aT;rw[bY (by omega)];rfl
variable {fu:Nat}
theorem rj (hfu:2097153≤fu) (ns:List ByteArray) (fs:List Nt) (hn:NetD ⟨ns,fs⟩) (h1:1≤fs.length):∀(fk n:Nat) (L:List Nh) (b:List By) (a:Int) (s:U64) (k B:Int),Cur ⟨b,a,s⟩ k→k≤B - 50 * (n:Int)→B≤800000000→L.length + n≤8→(∀y∈L,ya y.Nd=true)→(∀y∈L,y.Nv.Nw.length≤4)→n<fk →
    ∃n' L' b' a' s',vQ fu fk (n:Int) ns fs L b a s=some (n',ns,fs,L',b',a',s')∧L'.length≤8∧(∀y∈L',y.Nv.Nw.length≤4)∧Cur ⟨b',a',s'⟩ B:=by
 intro fk;induction fk with
 | zero=>intro n _ _ _ _ _ _ _ _ _ _ _ _ h; omega
 | succ fk ih =>
   intro n L b a s k B hc hk hB hl hb hr hf
   rw[vQ]
   have f2:=hn.f2
   have n2:=hn.n2
   simp only at f2 n2
   by_cases h:0<n
   · have hlt:((n:Int) > 0)=True:=eq_true (by omega)
     have e:w64 ((n:Int) - 1)=((n - 1:Nat):Int):=eq h (by omega)
     obtain⟨r3,c3,g3,q1,q2,q3,k3⟩:=q9 hfu hc (by omega) (n:=⟨ns,fs⟩) h1 (by simp only; omega) (by simp only; omega)
     obtain⟨r4,c4,g4,p0,p1,k4⟩:=xf (fu:=fu) k3 (by omega) 5 (by decide)
     have p2:=p1 (by decide)
     have e4:w64 (1 + r4)=1 + r4:=vt (by omega) (by omega)
     have hal:=dN hfu (⟨⟨ns,fs⟩,L⟩:Nz) r3 (by simp only; omega) hb (λx hx=>by have:=hr x hx; omega) (by omega)
     have hfi:=λm=>j5 hfu m (1 + r4) (by omega) (by omega)
     simp only[hlt,decide_true,if_true,e,g3,g4,Dw,hal,e4,hfi]
     obtain⟨F,hF⟩:∃F,F=fits (along L r3.Nw) (1 + r4):=⟨_,rfl⟩
     simp only[←hF]
     have hm:∀t∈F,ya ⟨t,1 + r4⟩=true:=λt ht=>by
       rw[hF,iA (by omega) (by omega)]at ht
       unfold ya
       simp only[DC,decide_eq_true_eq]
       omega
     by_cases hz:F.length=0
     · have hz':((F.length:Int) > 0)=False:=eq_false (by omega)
       simp only[hz',decide_false,DF,if_false]
       exact ih (n - 1) L _ _ _ (k + 20 + 2) B k4 (by omega) hB (by omega) hb hr (by omega)
     · have hz':((F.length:Int) > 0)=True:=eq_true (by omega)
       obtain⟨e0,he0,hm0⟩:=ab (l:=F) (i:=0) (Gl _) (by omega)
       obtain⟨r5,c5,g5,-,-,k5⟩:=xf (fu:=fu) k4 (by omega) 2 (by decide)
       have hFl:F.length≤25:=by rw[hF]; exact tE _ _
       obtain⟨r6,c6,g6,p6,p7,k6⟩:=xf (fu:=fu) k5 (by omega) (F.length:Int) (by omega)
       obtain⟨e1,he1,hm1⟩:=ab (l:=F) (i:=r6) p6 (p7 (by omega))
       obtain⟨r7,c7,g7,-,-,k7⟩:=xf (fu:=fu) k6 (by omega) 3 (by decide)
       obtain⟨r8,c8,g8,-,-,k8⟩:=xf (fu:=fu) k5 (by omega) 3 (by decide)
       have hput:∀x:Nh,x.Nv=r3→za fu (⟨⟨ns,fs⟩,L⟩:Nz) x=some (addP ⟨⟨ns,fs⟩,L⟩ x):=λx hx=>jD hfu _ x ⟨hn.B,by simp only; omega,λy hy=>by have:=hr y hy; omega⟩ (by rw[hx]; omega)
       simp only[hz',decide_true,if_true,he0,xa,g5,g6,he1,g7,g8,Dw]
       have step:∀(x:Nh) (c:Pz) (k':Int),x.Nv=r3→ya x.Nd=true→Cur c k'→k'≤k + 30→∃n' L' b' a' s',((za fu (⟨⟨ns,fs⟩,L⟩:Nz) x).bind λy=>vQ fu fk ((n - 1:Nat):Int) y.Nq.Nx y.Nq.Nw y.Nk c.code c.at_ c.seed)=some (n',ns,fs,L',b',a',s')∧L'.length≤8∧(∀y∈L',y.Nv.Nw.length≤4)∧Cur ⟨b',a',s'⟩ B:=by
         intro x c k' hx hb' hc' hk'
         rw[hput x hx,Dw]
         refine ih (n - 1) (putL L x) _ _ _ k' B hc' (by omega) hB (by rw[jA]; omega) (λy hy=>?_) (λy hy=>?_) (by omega)
         · rcases cy.1 hy with rfl | hy
           · exact hb'
           · exact hb y hy
         · rcases cy.1 hy with rfl | hy
           · rw[hx]; omega
           · exact hr y hy
       split
       · exact step _ c7 _ rfl (hm _ hm1) k7 (by omega)
       · exact step _ c8 _ rfl (hm _ hm0) k8 (by omega)
   · obtain rfl:n=0:=by omega
     rw[if_neg (by simp)]
     exact⟨_,_,_,_,_,rfl,by omega,hr,hc.mono (by omega)⟩
theorem w9 (hfu:2097153≤fu) {c:Pz} {k:Int} (hc:Cur c k) (hk:k≤700000000):∃r c',bh fu c=some (r,c')∧PlanD r∧r.Nk.length≤8∧1≤r.Nq.Nw.length∧(∀x∈r.Nk,x.Nv.Nw.length≤4)∧Cur c' (k + 1000):=by
 unfold bh;obtain⟨n,c1,g1,h1,h2,k1⟩:=rH hfu hc (by omega);obtain⟨r2,c2,g2,p0,p1,k2⟩:=xf (fu:=fu) k1 (by omega) 9 (by decide);have p2:=p1 (by decide);obtain⟨n',L',b',a',s',g3,h3,h4,k3⟩:=rj hfu n.Nx n.Nw h1 h2 fu r2.toNat [] c2.code c2.at_ c2.seed (k + 200 + 2) (k + 1000) k2 (by omega) (by omega) (by simp; omega) (by simp) (by simp) (by omega);rw[EW p0]at g3;simp only[g1,g2,g3,Dw];exact⟨_,_,rfl,⟨h1,by simp only; omega,λx hx=>by have:=h4 x hx; omega⟩,h3,h2,h4,k3⟩
theorem nE (y:Nz×Pz) (h1:1≤y.1.Nq.Nw.length):∀(fk n:Nat) (L:List Nh) (b:List By) (a:Int) (s:U64) (k B:Int),Cur ⟨b,a,s⟩ k→k≤B + 2 * (n:Int)→B≤800000000→n≤14→L.length≤13→(∀y∈L,y.Nv.Nw.length≤20)→15 - n<fk →
    ∃n' L' b' a' s',xh fu y fk (n:Int) L b a s=some (n',L',b',a',s')∧L'.length≤13∧(∀y∈L',y.Nv.Nw.length≤20)∧Cur ⟨b',a',s'⟩ (B + 60):=by
 intro fk;induction fk with
 | zero=>intro n _ _ _ _ _ _ _ _ _ _ _ _ h; omega
 | succ fk ih =>
   intro n L b a s k B hc hk hB hn hl hr hf
   rw[xh]
   obtain⟨r1,c1,g1,p0,p1,k1⟩:=xf (fu:=fu) hc (by omega) 2 (by decide)
   have p2:=p1 (by decide)
   have e:w64 (12 + r1)=12 + r1:=vt (by omega) (by omega)
   have e1:w64 ((n:Int) + 1)=((n + 1:Nat):Int):=by rw[vt (by omega) (by omega)]; omega
   obtain⟨e0,he0,-⟩:=ab (l:=y.1.Nq.Nw) (i:=0) (Gl _) (by omega)
   have ha:∀x:Nh,app L [x]=some (L++[x]):=λx=>app1 (by omega)
   simp only[g1,Dw,e,e1,he0,ha]
   split
   · rename_i h
     have h':(L.length:Int)<12 + r1:=by simpa using h
     split
     · rename_i h3
       have h3':(n:Int)<14:=by simpa using h3
       refine ih (n + 1) _ _ _ _ (k + 2) B k1 (by omega) hB (by omega) (by simp; omega) (λx hx=>?_) (by omega)
       rcases Dx.1 hx with hx | hx
       · exact hr x hx
       · simp only[DU]at hx; subst hx; simp
     · exact⟨_,_,_,_,_,rfl,hl,hr,k1.mono (by omega)⟩
   · exact⟨_,_,_,_,_,rfl,hl,hr,k1.mono (by omega)⟩
theorem qz (hfu:2097153≤fu) {c:Pz} {k:Int} (hc:Cur c k) (hk:k≤600000000):∃r c',zD fu c=some (r,c')∧PlanD r∧Cur c' (k + 3000):=by
 unfold zD;obtain⟨p,c1,g1,h1,h2,h3,h4,k1⟩:=w9 hfu hc (by omega);simp only[g1,Dw];by_cases h:p.Nk.length=0;have h':((p.Nk.length:Int)==0)=true:=by simp [h]
 simp only[h',if_true];exact⟨_,_,rfl,h1,k1.mono (by omega)⟩;have h':((p.Nk.length:Int)==0)=false:=by simpa using h
 obtain⟨r2,c2,g2,p0,p1,k2⟩:=xf (fu:=fu) k1 (by omega) (p.Nk.length:Int) (by omega);have p2:=p1 (by omega);obtain⟨e,he,hem⟩:=ab (l:=p.Nk) (i:=r2) p0 p2;obtain⟨r3,c3,g3,-,-,k3⟩:=xf (fu:=fu) k2 (by omega) 24 (by decide);obtain⟨r4,c4,g4,-,k4⟩:=iF (fu:=fu) k3 (by omega) [0,999,1000,1,4] (by decide) (by decide);obtain⟨r5,c5,g5,k5⟩:=wc (fu:=fu) k3 (by omega);obtain⟨r6,c6,g6,h6,k6⟩:=oF hfu k3 (by omega) (n:=p.Nq) (by have:=h1.net.f2; omega) (by have:=h1.net.n2; omega);obtain⟨r7,c7,g7,h7,k7⟩:=mE hfu k3 (by omega);obtain⟨n8,L8,b8,a8,s8,g8,l8,m8,k8⟩:=nE (fu:=fu) (p,c1) h3 fu 0 p.Nk c3.code c3.at_ c3.seed (k + 1000 + 2 + 2) (k + 1010) k3 (by omega) (by omega) (by omega) (by omega) (λx hx=>by have:=h4 x hx; omega) (by omega);rw[GV]at g8;have hr:=h4 e hem;have hset:∀(x:Nh),x.Nv.Nw.length≤5→PlanD ⟨p.Nq,p.Nk.set r2.toNat x⟩:=λx hx=>⟨h1.net,by simp only[DN]; omega,λy hy=>by
   rcases FP hy with hy | rfl
   · have:=h4 y hy; omega
   · omega⟩
 have ha:app p.Nk [e]=some (p.Nk++[e]):=app1 (by omega);obtain⟨e9,he9,-⟩:=ab (l:=p.Nk++[e]) (i:=r2) p0 (by simp; omega);simp only[h',DF,if_false,g2,g3,g4,g5,g6,g7,g8,he,ha,he9,Dw];split
 exact⟨_,_,rfl,hset _ (by simp only; omega),k4.mono (by omega)⟩;split
 exact⟨_,_,rfl,hset _ (by simp only; omega),k5.mono (by omega)⟩;split
 exact⟨_,_,rfl,hset _ (by simp only; omega),k6.mono (by omega)⟩;split
 refine⟨_,_,rfl,⟨h1.net,by simp; omega,λy hy=>?_⟩,k3.mono (by omega)⟩;rcases FP hy with hy | rfl
 rcases Dx.1 hy with hy | hy
 have:=h4 y hy; omega;simp only[DU]at hy; subst hy; omega;omega;split
 exact⟨_,_,rfl,⟨h7,by simp only[DN]; omega,(hset e (by omega)).rs⟩,k7.mono (by omega)⟩;split
 exact⟨_,_,rfl,⟨h1.net,by simp only; omega,m8⟩,k8.mono (by omega)⟩;exact⟨_,_,rfl,hset _ (by omega),k3.mono (by omega)⟩
end AT
namespace AT
def PlQ (L:List Nh):Prop:=∀x∈L,ya x.Nd=true∧x.Nv.Nw.length≤20
variable {L:List Nh} {fu:Nat}
theorem PlQ.B {N:Nq} (hN:NetB N) (h:PlQ L) (hl:L.length≤100):ec ⟨N,L⟩:=⟨hN,by simp only; omega,λx hx=>by have:=(h x hx).2; omega⟩
theorem AW {p:Nz} (h:xv p=true):PlQ p.Nk:=λx hx=>by
  have:=(bF h).light x hx
  exact⟨this.blk,by have:=this.short; omega⟩
theorem pR (hfu:2097200≤fu) (N:Nq) (L H:List Nh) (D:List Int) (hN:NetB N) (hQ:PlQ L) (hl:L.length≤100) (hD:D.length≤100) (x:Nh) (hx:ya x.Nd=true) (l:List Nv) (hL:∀a∈l,a.Nw.length≤7) (hll:l.length≤1000) (b:Bool):∀(fk i:Nat),i≤l.length→l.length - i<fk →
    (∃z,vM fu ⟨⟨N,L⟩,H,D⟩ x (l,b) fk i=some (.next z))∨∃y,vM fu ⟨⟨N,L⟩,H,D⟩ x (l,b) fk i=some (.ret (y,true))∧ya y.Nd=true∧y.Nv.Nw.length≤20:=by
 have hPB:=hQ.B hN hl;have hc:=hx;unfold ya at hc;simp only[DC,decide_eq_true_eq]at hc;intro fk;induction fk with
 | zero=>intro i _ h; omega
 | succ fk ih =>
   intro i hi hk
   rw[vM]
   by_cases h:i<l.length
   · cases b
     · rw[if_pos (by simpa using h),Dw,if_neg DV]
       exact .inl ⟨_,rfl⟩
     · have ha:=hL _ (D6 h)
       have ei:idx l (i:Int)=some l[i]:=vF h
       have hal:=dN (fu:=fu) (by omega) (⟨N,L⟩:Nz) l[i] hPB.2.1 (λy hy=>(hQ y hy).1) hPB.2.2 (by omega)
       have hwi:=vr h (show (l.length:Int)≤9223372036854775807 by omega)
       rw[if_pos (by simpa using h),Dw,if_pos rfl]
       dsimp only
       rw[ei]
       simp only[Dw,gI (fu:=fu) (by omega) l[i] D (show l[i].Nw.length≤2097152 by omega) (show D.length≤2097152 by omega),hal,j5 (fu:=fu) (by omega) _ x.Nd.Px hc.2.1 (show x.Nd.Px≤24 by omega),hwi]
       clear hwi
       cases meets l[i].Nw D
       · obtain⟨fs,hfs⟩:∃fs,fs=fits (along L l[i].Nw) x.Nd.Px:=⟨_,rfl⟩
         rw[if_neg DV,←hfs]
         by_cases hf:0<fs.length
         · have e0:idx fs 0=some (gd fs 0 0):=x5 0 hf
           have hm:=bT (l:=fs) (i:=0) 0 hf
           rw[hfs,iA hc.2.1 (by omega),←hfs]at hm
           rw[if_pos (by simpa using hf),e0]
           simp only[Dw,pe fu l[i] (show l[i].Nw.length≤2097152 by omega)]
           refine .inr ⟨_,rfl,?_,?_⟩
           · unfold ya
             simp only[DC,decide_eq_true_eq]
             omega
           · simp only; omega
         · rw[if_neg (by simpa using hf)]
           exact ih (i + 1) h (by omega)
       · rw[if_pos rfl]
         exact ih (i + 1) h (by omega)
   · obtain rfl:i=l.length:=by omega
     rw[if_neg (by simp),Dw,if_neg DV]
     exact .inl ⟨_,rfl⟩
theorem tm (hfu:2097200≤fu) (N:Nq) (L H:List Nh) (D:List Int) (hN:NetB N) (hH:xv ⟨N,H⟩=true) (hQ:PlQ L) (hl:L.length≤100) (hD:D.length≤100) {x:Nh} (hx:x∈H):∃y b,az fu ⟨⟨N,L⟩,H,D⟩ x=some (y,b)∧(b=true→ya y.Nd=true∧y.Nv.Nw.length≤20):=by
 have hPB:=hQ.B hN hl;have hF:=bF hH;have hxF:LightF N x:=hF.light x hx;have hxr:=hxF.short;have hnf:=netF hF.net;obtain⟨o,ho⟩:=hxF.route;have hfa:=el hnf ho;have hal:=dN (fu:=fu) (by omega) (⟨N,L⟩:Nz) x.Nv hPB.2.1 (λy hy=>(hQ y hy).1) hPB.2.2 (by omega);have hB:=sW hnf hfa.2.2.2.2.2.1 hfa.2.2.2.2.2.2 (endR N x.Nv);have hend:bw fu N x.Nv=some (endR N x.Nv):=kS (by omega) N x.Nv hN (by omega) (by rw[ho]; rfl);unfold az;have hu:xQ fu x.Nv D=some (meets x.Nv.Nw D):=gI (by omega) x.Nv D (by omega) (by omega);show ∃y b,(((xQ fu x.Nv D).bind λy=>if (!y)=true then (yo fu ⟨N,L⟩ x.Nv).bind λy2=>(xP fu x.Nd).bind λy3=>some (band y2 y3==0) else some false).bind _)=some (y,b)∧_
 rw[hu,hal,d6 hxF.blk,Dw];have hone:∃c,(if (!meets x.Nv.Nw D)=true then (some (along L x.Nv.Nw)).bind λy2=>(some (bits x.Nd)).bind λy3=>some (band y2 y3==0) else some false)=some c:=by
   cases meets x.Nv.Nw D <;> exact⟨_,rfl⟩
 obtain⟨c,hc⟩:=hone;rw[show (⟨N,L⟩:Nz).Nk=L from rfl,hc,Dw];cases c
 rw[if_neg DV];show ∃y b,((bw fu N x.Nv).bind _)=some (y,b)∧_;rw[hend,Dw];show ∃y b,((zY fu N x.Nv.Pq (endR N x.Nv)).bind _)=some (y,b)∧_;rw[ic hfu N _ _ hN,Dw];obtain⟨q,hq⟩:∃q,q=(if dB N x.Nv.Pq (endR N x.Nv)=true∧(rts N x.Nv.Pq (endR N x.Nv)).length≤200 then (rts N x.Nv.Pq (endR N x.Nv),true) else ([],false)):=⟨_,rfl⟩
 rw[←hq];have hql:(∀a∈q.1,a.Nw.length≤7)∧q.1.length≤201:=by
   rw[hq]
   split
   · exact⟨λa ha=>(hB.1 a ha).short,hB.2⟩
   · simp
 rcases pR hfu N L H D hN hQ hl hD x hxF.blk q.1 hql.1 (by omega) q.2 fu 0 (by omega) (by omega) with ⟨z,hz⟩ | ⟨y,hz,h1,h2⟩
 rw[show ((0:Nat):Int)=0 from rfl]at hz;rw[show (q.1,q.2)=q from rfl]at hz;rw[hz];exact⟨_,_,rfl,λh=>by cases h⟩
 rw[show ((0:Nat):Int)=0 from rfl]at hz;rw[show (q.1,q.2)=q from rfl]at hz;rw[hz];exact⟨y,true,rfl,λ_=>⟨h1,h2⟩⟩;rw[if_pos rfl,eN fu x (by omega)];exact⟨x,true,rfl,λ_=>⟨hxF.blk,by omega⟩⟩
theorem PlQ.put {x:Nh} (h:PlQ L) (hx:ya x.Nd=true∧x.Nv.Nw.length≤20):PlQ (putL L x):=λy hy=>by
  rcases cy.1 hy with rfl | hy
  · exact hx
  · exact h y hy
theorem pP (hfu:2097200≤fu) (N:Nq) (L H:List Nh) (D:List Int) (hN:NetB N) (hH:xv ⟨N,H⟩=true) (hQ:PlQ L) (hl:L.length≤90) (hD:D.length≤100) {i:Int} (h0:0≤i) (h1:i<(H.length:Int)):∃L' b,xR fu ⟨⟨N,L⟩,H,D⟩ i=some (⟨⟨N,L'⟩,H,D⟩,b)∧PlQ L'∧L'.length≤L.length + 1:=by
 have hPB:=hQ.B hN (show L.length≤100 by omega);have h12:H.length≤12:=(bF hH).short;have hRB:RestB ⟨⟨N,L⟩,H,D⟩:=⟨hPB,⟨by simp only; omega,λx hx=>by have:=((bF hH).light x hx).short; omega⟩,by simp only; omega⟩;obtain⟨x,hx,hxm⟩:=ab (l:=H) (i:=i) h0 h1;obtain⟨y,b,hp,hy⟩:=tm hfu N L H D hN hH hQ (by omega) hD hxm;unfold xR;have hown:=d7 (fu:=fu) (by omega) _ hRB;show ∃L' b,((idx H i).bind _)=some (_,b)∧_;rw[hx,Dw,hp,Dw,hown,Dw];cases b
 exact⟨L,false,rfl,hQ,by omega⟩;have hyy:=hy rfl;rw[if_pos rfl,jD (by omega) _ y hPB (by omega),Dw];exact⟨putL L y,true,rfl,hQ.put hyy,by rw[jA]; omega⟩
theorem wh (hfu:2097200≤fu) (r:Nj) (N:Nq) (H:List Nh) (D:List Int) (hN:NetB N) (hH:xv ⟨N,H⟩=true) (hD:D.length≤100) (hrH:r.Ng=H) (w:List Int) (hw:∀i∈w,0≤i∧i<(H.length:Int)) (hwl:w.length≤12):∀(fk i:Nat) (ids:List Int) (L:List Nh),i≤w.length→w.length - i<fk→PlQ L→L.length≤50 + i→ids.length≤i →
    ∃ids' z L',xn fu r w fk ids i N.Nx N.Nw L H D=some (ids',z,N.Nx,N.Nw,L',H,D)∧PlQ L'∧L'.length≤L.length + (w.length - i):=by
 intro fk;induction fk with
 | zero=>intro i _ _ _ h; omega
 | succ fk ih =>
   intro i ids L hi hk hQ hl hids
   rw[xn]
   by_cases h:i<w.length
   · have hm:=hw _ (D6 h)
     obtain⟨L',b,g1,g2,g3⟩:=pP hfu N L H D hN hH hQ (by omega) hD hm.1 hm.2
     obtain⟨x,hx,-⟩:=ab (l:=H) (i:=w[i]) hm.1 hm.2
     have hwi:=vr h (show (w.length:Int)≤9223372036854775807 by omega)
     have g1':xR fu ({ Nz:=({ Nq:=({ Nx:=N.Nx,Nw:=N.Nw }:Nq),Nk:=L }:Nz),Ng:=H,Np:=D }:Nj) w[i]=_:=g1
     rw[if_pos (by simpa using h),vF h,Dw,g1',Dw,hwi]
     clear hwi
     cases b
     · rw[if_neg DV]
       obtain⟨a1,a2,a3,a4,a5,a6⟩:=ih (i + 1) ids L' h (by omega) g2 (by omega) (by omega)
       exact⟨a1,a2,a3,a4,a5,by omega⟩
     · rw[if_pos rfl,Dw,hrH,hx,Dw,xH (by rw[DJ]; omega),Dw]
       obtain⟨a1,a2,a3,a4,a5,a6⟩:=ih (i + 1) (ids++[x.Id]) L' h (by omega) g2 (by omega) (by rw[DR,DJ]; omega)
       exact⟨a1,a2,a3,a4,a5,by omega⟩
   · obtain rfl:i=w.length:=by omega
     rw[if_neg (by simp)]
     exact⟨_,_,_,rfl,hQ,by omega⟩
theorem mG (r:Nj) (hH:r.Ng.length≤1000) (hL:r.Nz.Nk.length<fu) (hL2:r.Nz.Nk.length≤2097152):∀(fk i:Nat) (o:List Int),i≤r.Ng.length→r.Ng.length - i<fk→o.length≤i→(∀e∈o,0≤e∧e<(r.Ng.length:Int)) →
    ∃o' z,vR fu r fk o i=some (o',z)∧o'.length≤r.Ng.length∧∀e∈o',0≤e∧e<(r.Ng.length:Int):=by
 intro fk;induction fk with
 | zero=>intro i _ _ h; omega
 | succ fk ih =>
   intro i o hi hk ho hr
   rw[vR]
   by_cases h:i<r.Ng.length
   · obtain⟨q,hq⟩:∃q,zQ fu r.Nz r.Ng[i].Id=some q:=⟨_,iu r.Nz _ hL hL2⟩
     rw[if_pos (by simpa using h),vF h,Dw,hq,Dw,xH (by rw[DJ]; omega),vr h (by omega)]
     by_cases hc:q<0
     · rw[if_pos (by simpa using hc),Dw]
       refine ih (i + 1) (o++[(i:Int)]) h (by omega) (by simp; omega) λe he=>?_
       rcases Dx.1 he with he | he
       · exact hr e he
       · rw[DU]at he; subst he; omega
     · rw[if_neg (by simpa using hc)]
       exact ih (i + 1) o h (by omega) (by omega) hr
   · obtain rfl:i=r.Ng.length:=by omega
     rw[if_neg (by simp)]
     exact⟨_,_,rfl,ho,hr⟩
theorem BI (hfu:2097200≤fu) (N:Nq) (L H:List Nh) (D:List Int) (hN:NetB N) (hH:xv ⟨N,H⟩=true) (hQ:PlQ L) (hl:L.length≤40) (hD:D.length≤100):∃L' ids,zX fu ⟨⟨N,L⟩,H,D⟩=some (⟨⟨N,L'⟩,H,D⟩,ids)∧PlQ L'∧L'.length≤L.length + 12:=by
 have hPB:=hQ.B hN (show L.length≤100 by omega);have h12:H.length≤12:=(bF hH).short;have hRB:RestB ⟨⟨N,L⟩,H,D⟩:=⟨hPB,⟨by simp only; omega,λx hx=>by have:=((bF hH).light x hx).short; omega⟩,by simp only; omega⟩;obtain⟨w,z,hw,w1,w2⟩:=mG (fu:=fu) (⟨⟨N,L⟩,H,D⟩:Nj) (show H.length≤1000 by omega) (show L.length<fu by omega) (show L.length≤2097152 by omega) fu 0 [] (by omega) (show H.length - 0<fu by omega) (by simp) (by simp);obtain⟨ids,z2,L',g1,g2,g3⟩:=wh hfu (⟨⟨N,L⟩,H,D⟩:Nj) N H D hN hH hD rfl w w2 (EJ w1 h12) fu 0 [] L (by omega) (by have:w.length≤H.length:=w1; omega) hQ (by omega) (by simp);rw[show ((0:Nat):Int)=0 from rfl]at hw g1;have w1':w.length≤H.length:=w1;unfold zX xi;rw[d7 (fu:=fu) (by omega) _ hRB,Dw,hw,Dw,Dw];show ∃L' ids,((xn fu (⟨⟨N,L⟩,H,D⟩:Nj) w fu [] 0 N.Nx N.Nw L H D).bind _)=_∧_;rw[g1];exact⟨L',ids,rfl,g2,by omega⟩
theorem nT (r:Nj) (fs:List Int) (hD:r.Np.length≤1000) (hf:fs.length<fu) (hf2:fs.length≤2097152):∀(fk i:Nat) (o:List Int),i≤r.Np.length→r.Np.length - i<fk→o.length≤i→∃z,xJ fu r fs fk i o=some (z,o++(r.Np.drop i).filter λx=>!fs.any λy=>y==x):=by
 intro fk;induction fk with
 | zero=>intro i _ _ h; omega
 | succ fk ih =>
   intro i o hi hk ho
   rw[xJ]
   by_cases h:i<r.Np.length
   · rw[if_pos (by simpa using h),vF h,Dw,fe fs _ hf hf2,Dw,vr h (by omega),←DG h,EI]
     cases fs.any λy=>y==r.Np[i]
     · rw[if_pos (by decide),Dw,xH (by rw[DJ]; omega),Dw,if_pos (by decide)]
       obtain⟨z,hz⟩:=ih (i + 1) (o++[r.Np[i]]) h (by omega) (by simp; omega)
       exact⟨z,by rw[hz,DD,EC]⟩
     · rw[if_neg (by decide),if_neg (by decide)]
       exact ih (i + 1) o h (by omega) (by omega)
   · obtain rfl:i=r.Np.length:=by omega
     rw[if_neg (by simp),Ea,FQ,D1]
     exact⟨_,rfl⟩
def repd (r:Nj) (fs:List Int):Nj:=⟨r.Nz,r.Ng,r.Np.filter λx=>!fs.any λy=>y==x⟩
theorem lQ (hfu:2097153≤fu) (r:Nj) (fs:List Int) (hB:RestB r) (hD:r.Np.length≤1000) (hf:fs.length≤2097152):aV fu r fs=some (repd r fs):=by
 obtain⟨z,hz⟩:=nT (fu:=fu) r fs hD (by omega) hf fu 0 [] (by omega) (by omega) (by simp);rw[show ((0:Nat):Int)=0 from rfl,D4,Ek]at hz;unfold aV;rw[d7 hfu r hB,Dw,hz];rfl
theorem wd {A B:List Nh} {x:Nh} (h:∀a∈A,a.Id≠x.Id):atId (A++x::B) x.Id=A.length:=by
 unfold atId;refine ja (by simp) (λj hj hji=>?_) (λhj=>?_);rw[List.getElem_append_left hji,beq_eq_false_iff_ne];exact h _ (D6 _);rw[List.getElem_append_right (D3 _)];simp
theorem qj (hfu:2097153≤fu) (r:Nj) (hp:xv r.Nz=true) (hN:NetB r.Nz.Nq) (fs:List Int) (hf:fs.length≤2097152):∀(fk i:Nat) (lost:List Int) (A:List Nh),i≤r.Nz.Nk.length→r.Nz.Nk.length - i<fk→lost.length≤i→A.length≤i→(∀a∈A,a.Nv.Nw.length≤100)→(∀a∈A,∀j,i≤j→j<r.Nz.Nk.length→a.Id<(gd r.Nz.Nk j l0).Id) →
    ∃z,xS fu r fs fk lost i r.Nz.Nq.Nx r.Nz.Nq.Nw (A++r.Nz.Nk.drop i)=some (lost++idsL ((r.Nz.Nk.drop i).filter λx=>meets x.Nv.Nw fs),z,r.Nz.Nq.Nx,r.Nz.Nq.Nw,A++(r.Nz.Nk.drop i).filter λx=>!meets x.Nv.Nw fs):=by
 have hF:=bF hp;have h12:=hF.short;intro fk;induction fk with
 | zero=>intro i _ _ _ h; omega
 | succ fk ih =>
   intro i lost A hi hk hlo hA hAr hAi
   rw[xS]
   by_cases h:i<r.Nz.Nk.length
   · obtain⟨x,ex⟩:∃x,x=r.Nz.Nk[i]:=⟨_,rfl⟩
     have hx:=hF.light x (by rw[ex]; exact D6 h)
     have hxr:=hx.short
     have hxi:x=gd r.Nz.Nk i l0:=by rw[zf l0 h,ex]
     have hAx:∀a∈A,a.Id<x.Id:=λa ha=>by rw[hxi]; exact hAi a ha i (D3 _) h
     have hwi:=vr h (show (r.Nz.Nk.length:Int)≤9223372036854775807 by omega)
     rw[if_pos (by simpa using h),vF h,←ex,Dw,gI hfu x.Nv fs (by omega) hf,Dw,hwi,←DG h,←ex,EI,EI]
     clear hwi
     cases hm:meets x.Nv.Nw fs
     · rw[if_neg DV,if_neg DV,if_pos (by decide)]
       have:=ih (i + 1) lost (A++[x]) h (by omega) (by omega) (by simp; omega) (λa ha=>by
         rcases Dx.1 ha with ha | ha
         · exact hAr a ha
         · rw[DU]at ha; subst ha; omega) (λa ha j hj hj2=>by
         rcases Dx.1 ha with ha | ha
         · exact hAi a ha j (by omega) hj2
         · rw[DU]at ha; subst ha
           rw[hxi]
           exact (nV hp).ids i j (by omega) hj2)
       rw[DD,EC,DD,EC]at this
       exact this
     · have hall:(A++x::r.Nz.Nk.drop (i + 1)).length=A.length + 1 + (r.Nz.Nk.length - (i + 1)):=by rw[DR,Ep,Er]; omega
       have hPB:ec ⟨r.Nz.Nq,A++x::r.Nz.Nk.drop (i + 1)⟩:=⟨hN,by simp only; omega,λy hy=>by
         rcases Dx.1 hy with hy | hy
         · have:=hAr y hy; omega
         · rcases DZ.1 hy with rfl | hy
           · omega
           · have:=(hF.light y (FU hy)).short; omega⟩
       have hhas:((A++x::r.Nz.Nk.drop (i + 1)).any λy=>y.Id==x.Id)=true:=DT.2 ⟨x,by simp,by simp⟩
       have hat:=wd (A:=A) (B:=r.Nz.Nk.drop (i + 1)) (x:=x) (λa ha=>by have:=hAx a ha; omega)
       have hfind:zQ fu ({ Nq:=({ Nx:=r.Nz.Nq.Nx,Nw:=r.Nz.Nq.Nw }:Nq),Nk:=A++x::r.Nz.Nk.drop (i + 1) }:Nz) x.Id=some ((A.length:Nat):Int):=by
         rw[iu _ _ (by simp only; omega) (by simp only; omega)]
         simp only
         rw[if_pos hhas,hat]
       have hwo:yl fu ({ Nq:=({ Nx:=r.Nz.Nq.Nx,Nw:=r.Nz.Nq.Nw }:Nq),Nk:=A++x::r.Nz.Nk.drop (i + 1) }:Nz) ((A.length:Nat):Int)=some ⟨r.Nz.Nq,A++r.Nz.Nk.drop (i + 1)⟩:=by
         have:=jn hfu (⟨r.Nz.Nq,A++x::r.Nz.Nk.drop (i + 1)⟩:Nz) hPB (i:=A.length) (by simp only; omega)
         rw[show ((⟨r.Nz.Nq,A++x::r.Nz.Nk.drop (i + 1)⟩:Nz).Nk.eraseIdx A.length)=A++r.Nz.Nk.drop (i + 1) by
           show (A++x::r.Nz.Nk.drop (i + 1)).eraseIdx A.length=_
           rw[List.eraseIdx_append_of_length_le (D3 _),Hy]
           rfl]at this
         exact this
       rw[if_pos rfl,xH (by rw[DJ]; omega),Dw,hfind,Dw,hwo,Dw,if_pos rfl,if_neg (by decide)]
       obtain⟨z,hz⟩:=ih (i + 1) (lost++[x.Id]) A h (by omega) (by simp; omega) (by omega) hAr (λa ha j hj hj2=>hAi a ha j (by omega) hj2)
       refine⟨z,?_⟩
       show xS fu r fs fk (lost++[x.Id]) ((i + 1:Nat):Int) r.Nz.Nq.Nx r.Nz.Nq.Nw (A++r.Nz.Nk.drop (i + 1))=_
       rw[hz,DD,EC]
       rfl
   · obtain rfl:i=r.Nz.Nk.length:=by omega
     rw[if_neg (by simp),Ea,FQ,FQ,D1,show idsL []=[] from rfl,D1]
     exact⟨_,rfl⟩
structure NetZ (n:Nq):Prop where
  n2:n.Nx.length≤20
  ns:∀e∈n.Nx,e.size≤100
  f2:n.Nw.length≤20
theorem NetD.z {n:Nq} (h:NetD n):NetZ n:=⟨h.n2,h.ns,h.f2⟩
theorem NetZ.B {n:Nq} (h:NetZ n):NetB n:=⟨⟨by have:=h.n2; omega,λe he=>by have:=h.ns e he; omega⟩,by have:=h.f2; omega⟩
structure RestD (r:Nj):Prop where
  net:NetZ r.Nz.Nq
  ll:r.Nz.Nk.length≤40
  lr:∀x∈r.Nz.Nk,x.Nv.Nw.length≤20
  hl:r.Ng.length≤40
  hr:∀x∈r.Ng,x.Nv.Nw.length≤20
  down:r.Np.length≤80
theorem RestD.B {r:Nj} (h:RestD r):RestB r:=⟨⟨h.net.B,by have:=h.ll; omega,λx hx=>by have:=h.lr x hx; omega⟩,⟨by have:=h.hl; omega,λx hx=>by have:=h.hr x hx; omega⟩,by have:=h.down; omega⟩
theorem PlanD.rest {p:Nz} (h:PlanD p) {H:List Nh} {D:List Int} (hl:H.length≤40) (hr:∀x∈H,x.Nv.Nw.length≤20) (hD:D.length≤80):RestD ⟨p,H,D⟩:=⟨h.net.z,by have:=h.ls; simp only; omega,h.rs,hl,hr,hD⟩
theorem nY {c:Pz} {k:Int} (hc:Cur c k) (hk:k≤4611686018427387000) (n:Int) (hn:n≤1099511627776):∃r c',xa fu c n=some (r,c')∧Cur c' (k + 2):=by
 unfold xa;obtain⟨r,c',g1,-,-,g4⟩:=xf (fu:=fu) hc hk n hn;rw[g1];exact⟨_,_,rfl,g4⟩
theorem qP (n:Nq) (hn:n.Nw.length≤100):∀(fk i:Nat) (o:List Int) (b:List By) (a:Int) (s:U64) (k:Int),i≤n.Nw.length→n.Nw.length - i<fk→o.length≤i→Cur ⟨b,a,s⟩ (k + 2 * (i:Int))→k≤800000000 →
    ∃o' z b' a' s',xc fu n fk o i b a s=some (o',z,b',a',s')∧o'.length≤n.Nw.length∧Cur ⟨b',a',s'⟩ (k + 2 * (n.Nw.length:Int)):=by
 intro fk;induction fk with
 | zero=>intro i _ _ _ _ _ _ h; omega
 | succ fk ih =>
   intro i o b a s k hi hk ho hc hkk
   rw[xc]
   by_cases h:i<n.Nw.length
   · obtain⟨q,c1,g1,k1⟩:=nY (fu:=fu) hc (by omega) 4 (by decide)
     rw[if_pos (by simpa using h),g1,Dw,xH (by rw[DJ]; omega),vr h (by omega)]
     have k1':Cur ⟨c1.code,c1.at_,c1.seed⟩ (k + 2 * ((i + 1:Nat):Int)):=k1.mono (by omega)
     cases q
     · rw[if_neg DV]
       exact ih (i + 1) o _ _ _ k h (by omega) (by omega) k1' hkk
     · rw[if_pos rfl,Dw]
       exact ih (i + 1) _ _ _ _ k h (by omega) (by simp; omega) k1' hkk
   · obtain rfl:i=n.Nw.length:=by omega
     rw[if_neg (by simp)]
     exact⟨_,_,_,_,_,rfl,ho,hc⟩
theorem wK (hfu:2097153≤fu) {c:Pz} {k:Int} (hc:Cur c k) (hk:k≤700000000) {n:Nq} (hn:n.Nw.length≤20):∃l c',aj fu c n=some (l,c')∧l.length≤21∧Cur c' (k + 50):=by
 unfold aj;obtain⟨o,z,b,a,s,g1,g2,k1⟩:=qP (fu:=fu) n (by omega) fu 0 [] c.code c.at_ c.seed k (by omega) (by omega) (by simp) (by simpa using hc) (by omega);rw[show ((0:Nat):Int)=0 from rfl]at g1;obtain⟨q,c2,g3,k2⟩:=nY (fu:=fu) k1 (by omega) 40 (by decide);obtain⟨q3,c3,g4,-,-,k3⟩:=xf (fu:=fu) k2 (by omega) 16 (by decide);rw[g1,Dw,g3,Dw];cases q
 exact⟨o,_,rfl,by omega,k2.mono (by omega)⟩;dsimp only;rw[if_pos rfl,g4,Dw,xH (by rw[DJ]; omega),Dw];exact⟨_,_,rfl,by simp; omega,k3.mono (by omega)⟩
theorem RestF.all (hfu:2097200≤fu) {N:Nq} {L H:List Nh} {D:List Int} (hN:NetZ N) (hH:xv ⟨N,H⟩=true) (hQ:PlQ L) (hl:L.length≤12) (hD:D.length≤80):∃L' ids,zX fu ⟨⟨N,L⟩,H,D⟩=some (⟨⟨N,L'⟩,H,D⟩,ids)∧RestD ⟨⟨N,L'⟩,H,D⟩:=by
 obtain⟨L',ids,g1,g2,g3⟩:=BI hfu N L H D hN.B hH hQ (by omega) (by omega);have h12:H.length≤12:=(bF hH).short;exact⟨L',ids,g1,⟨hN,by simp only; omega,λx hx=>(g2 x hx).2,by simp only; omega,λx hx=>by have:=((bF hH).light x hx).short; omega,hD⟩⟩
end AT
namespace AT
def s1 (b:Nat):Nat:=(b / 2 &&& 0x55) + (b &&& 0x55)
def s2 (b:Nat):Nat:=(b / 4 &&& 0x33) + (b &&& 0x33)
def s3 (b:Nat):Nat:=(b / 16 + b) &&& 0x0f
end AT
namespace AT
theorem Ah {α:Type} {l:List α} {f:Int} (d:α) (h0:0≤f) (h1:f<(l.length:Int)):idx l f=some (gd l f.toNat d):=by
 have:=x5 (l:=l) (i:=f.toNat) d (by omega);rwa [EW h0]at this
def iq (b:Int) (o:List Int) (f:Int):List Int:=o.set f.toNat (bor (gd o f.toNat 0) b)
theorem ip (b:Int):∀(fs:List Int) (o:List Int),(fs.foldl (iq b) o).length=o.length
  | [],o=>rfl
  | f::fs,o=>by rw[Fw,ip b fs]; simp [iq]
theorem tw (b:Int) (o:List Int) (f:Int) (k:Nat) (hk:k<o.length):gd (iq b o f) k 0=if f.toNat=k then bor (gd o k 0) b else gd o k 0:=by
 unfold iq;generalize hv:bor (gd o f.toNat 0) b=v;by_cases h:f.toNat=k;subst h;rw[if_pos rfl,hv];clear hv;unfold gd;rw[List.getElem?_set_self hk,Gv];rw[if_neg h];unfold gd;rw[List.getElem?_set_ne h]
theorem tD (f:Int) (fs:List Int) (k:Int):has (f::fs) k=(f==k||has fs k):=rfl
theorem tv (b:Int) (fs:List Int):∀(o:List Int) (k:Nat),fs.Nodup→(∀f∈fs,0≤f)→k<o.length→gd (fs.foldl (iq b) o) k 0=if has fs k=true then bor (gd o k 0) b else gd o k 0:=by
 induction fs with
 | nil =>
   intro o k _ _ _
   have h:has [] (k:Int)=false:=rfl
   rw[h,Hp,if_neg DV]
 | cons f fs ih =>
   intro o k hn h0 hk
   have hn':=EP.1 hn
   have hf:=h0 f Ei
   have hl:(iq b o f).length=o.length:=by unfold iq; rw[DN]
   rw[Fw,ih (iq b o f) k hn'.2 (λx hx=>h0 x (D7 _ hx)) (by omega),tw b o f k hk,tD]
   by_cases h:f.toNat=k
   · have hk':f=(k:Int):=by omega
     have h1:has fs k=false:=by
       rw[DX]
       intro hc
       unfold has at hc
       obtain⟨x,hx,hc⟩:=DT.1 hc
       rw[beq_iff_eq]at hc
       exact hn'.1 (by rw[hk',←hc]; exact hx)
     have h2:(f==(k:Int))=true:=by rw[beq_iff_eq]; exact hk'
     rw[h1,h2,if_pos h,if_neg DV,GT,if_pos rfl]
   · have hk':(f==(k:Int))=false:=by rw[beq_eq_false_iff_ne]; omega
     rw[hk',if_neg h,Fo]
theorem pZ {fu:Nat} (e:Nh) (hb:ya e.Nd=true) (n:Nat) (hr:∀f∈e.Nv.Nw,0≤f∧f<(n:Int)) (hl:e.Nv.Nw.length≤2097152):∀(fk i:Nat) (o:List Int),o.length=n→i≤e.Nv.Nw.length→e.Nv.Nw.length - i<fk →
    ∃z,xV fu e fk o i=some ((e.Nv.Nw.drop i).foldl (iq (bits e.Nd)) o,z):=by
 intro fk;induction fk with
 | zero=>intro i _ _ _ h; omega
 | succ fk ih =>
   intro i o ho hi hk
   rw[xV]
   by_cases h:i<e.Nv.Nw.length
   · have h':(i:Int)<(e.Nv.Nw.length:Int):=by omega
     obtain⟨x,hx⟩:∃x,x=e.Nv.Nw[i]:=⟨_,rfl⟩
     have hr':=hr _ (D6 h)
     rw[←hx]at hr'
     rw[←DG h,Fw]
     simp only[h',decide_true,if_true,vF h,←hx,Dw,Ah 0 hr'.1 (show x<(o.length:Int) by omega),j3 hb,vr h (show (e.Nv.Nw.length:Int)≤9223372036854775807 by omega)]
     exact ih (i + 1) (iq (bits e.Nd) o x) (by simpa [iq] using ho) h (by omega)
   · obtain rfl:i=e.Nv.Nw.length:=by omega
     rw[if_neg (by simp),Ea]
     exact⟨_,rfl⟩
def iV (L:List Nh) (o:List Int):List Int:=L.foldl (λo e=>e.Nv.Nw.foldl (iq (bits e.Nd)) o) o
theorem gO:∀(L:List Nh) (o:List Int),(iV L o).length=o.length
  | [],o=>rfl
  | e::L,o=>by
    have:=gO L (e.Nv.Nw.foldl (iq (bits e.Nd)) o)
    unfold iV at this ⊢
    rw[Fw,this,ip]
theorem lj:∀(L:List Nh) (o:List Int) (k:Nat),(∀e∈L,e.Nv.Nw.Nodup∧∀f∈e.Nv.Nw,0≤f)→k<o.length→gd (iV L o) k 0=L.foldl (λo y=>if has y.Nv.Nw k=true then bor o (bits y.Nd) else o) (gd o k 0)
  | [],o,k,_,_=>by unfold iV; rw[Hp,Hp]
  | e::L,o,k,h,hk=>by
    have he:=h e (by simp)
    have:=lj L (e.Nv.Nw.foldl (iq (bits e.Nd)) o) k (λx hx=>h x (by simp [hx])) (by rw[ip]; exact hk)
    unfold iV at this ⊢
    rw[Fw,Fw,this,tv _ _ _ _ he.1 he.2 hk]
theorem pW {fu:Nat} (hfu:2097153≤fu) (p:Nz) (n:Nat) (hl:p.Nk.length≤2097152) (hb:∀e∈p.Nk,ya e.Nd=true) (hr:∀e∈p.Nk,∀f∈e.Nv.Nw,0≤f∧f<(n:Int)) (hs:∀e∈p.Nk,e.Nv.Nw.length≤2097152):∀(fk i:Nat) (o:List Int),o.length=n→i≤p.Nk.length→p.Nk.length - i<fk →
    ∃z,xW fu p fk o i=some (iV (p.Nk.drop i) o,z):=by
 intro fk;induction fk with
 | zero=>intro i _ _ _ h; omega
 | succ fk ih =>
   intro i o ho hi hk
   rw[xW]
   by_cases h:i<p.Nk.length
   · have h':(i:Int)<(p.Nk.length:Int):=by omega
     have hm:=D6 h
     have hsm:=hs _ hm
     obtain⟨z,hz⟩:=pZ (fu:=fu) p.Nk[i] (hb _ hm) n (hr _ hm) hsm fu 0 o ho (by omega) (by omega)
     rw[show ((0:Nat):Int)=0 from rfl,D4]at hz
     simp only[h',decide_true,if_true,vF h,Dw,hz,vr h (show (p.Nk.length:Int)≤9223372036854775807 by omega)]
     rw[←DG h]
     exact ih (i + 1) _ (by rw[ip]; exact ho) h (by omega)
   · obtain rfl:i=p.Nk.length:=by omega
     rw[if_neg (by simp),Ea]
     exact⟨_,rfl⟩
def pY (L:List Nh) (n:Nat):List Int:=(List.range n).map λf:Nat=>used L (f:Int)
theorem pa {p:Nz} (hF:PlanF p):∀e∈p.Nk,∀f∈e.Nv.Nw,0≤f∧f<(p.Nq.Nw.length:Int):=λe he=>by
  obtain⟨o,ho⟩:=(hF.light e he).route
  exact ra ho
theorem mw {fu:Nat} (hfu:2097153≤fu) (p:Nz) (hB:ec p) (hF:PlanF p):bu fu p=some (pY p.Nk p.Nq.Nw.length):=by
 have hn:=(netF hF.net).fib;unfold bu;rw[AZ (show p.Nq.Nw.length≤2097152 by omega),Dw];obtain⟨z,hz⟩:=pW hfu p p.Nq.Nw.length hB.2.1 (λe he=>(hF.light e he).blk) (pa hF) hB.2.2 fu 0 (List.replicate p.Nq.Nw.length 0) (by simp) (by omega) (by have:=hB.2.1; omega);rw[show ((0:Nat):Int)=0 from rfl,D4]at hz;rw[hz,Dw];congr 1;apply Fx;rw[gO]; simp [pY];intro k h1 h2;rw[gO,GK]at h1;rw[←zf 0,lj _ _ _ (λe he=>⟨(hF.light e he).nodup,λf hf=>(pa hF e he f hf).1⟩) (by simpa using h1)];have:gd (List.replicate p.Nq.Nw.length (0:Int)) k 0=0:=by unfold gd; simp [h1]
 rw[this];simp [pY,used]
end AT
namespace AT
variable {fu:Nat}
theorem qm (hfu:3≤fu) (a b:List Int) (ha:a.length≤1000000) (hb:b.length≤1000000):xL fu [a,b]=some (a++b):=by
 obtain⟨k,rfl⟩:∃k,fu=k + 3:=⟨fu - 3,by omega⟩;have w1:w64 (0 + (a.length:Int))=(a.length:Int):=by rw[vt (by omega) (by omega)]; omega
 have w2:w64 ((a.length:Int) + (b.length:Int))=(a.length:Int) + (b.length:Int):=vt (by omega) (by omega);have n1:decide ((a.length:Int)<0)=false:=decide_eq_false (by omega);have n2:decide ((a.length:Int) + (b.length:Int)<0)=false:=decide_eq_false (by omega);have i0:idx [a,b] 0=some a:=rfl;have i1:idx [a,b] 1=some b:=rfl;have v1:w64 (0 + 1)=1:=by decide
 have v2:w64 (1 + 1)=2:=by decide
 have d0:decide ((0:Int)<(([a,b]:List (List Int)).length:Int))=true:=rfl;have d1:decide ((1:Int)<(([a,b]:List (List Int)).length:Int))=true:=rfl;have d2:decide ((2:Int)<(([a,b]:List (List Int)).length:Int))=false:=rfl;have hg:(rZ ((a.length:Int) + (b.length:Int)):Option (List Int))=some []:=by unfold rZ; rw[if_pos ⟨by omega,by omega⟩]
 have a1:app ([]:List Int) a=some a:=by rw[xH (by simp; omega)]; rfl
 have a2:app a b=some (a++b):=xH (by omega);unfold xL;rw[vl,d0,if_pos rfl,i0,Dw,w1,n1,if_neg DV,v1,vl,d1,if_pos rfl,i1,Dw,w2,n2,if_neg DV,v2,vl,d2,if_neg DV,Dw,hg,Dw,
   vk,d0,if_pos rfl,i0,Dw,a1,Dw,v1,vk,d1,if_pos rfl,i1,Dw,a2,Dw,v2,vk,d2,if_neg DV]
 rfl
theorem ly:∀(l:List Int) (p:Int),(p::l).Pairwise (·≤·)→(p::dG p l).Pairwise (·<·)∧∀x,x∈dG p l↔x∈l∧x≠p
  | [],p,_=>⟨by simp [dG],λx=>by simp [dG]⟩
  | b::l,p,h=>by
    obtain⟨h1,h2⟩:=ET.1 h
    obtain⟨ih1,ih2⟩:=ly l b h2
    have hpb:=h1 b Ei
    obtain⟨g1,g2⟩:=ET.1 h2
    unfold dG
    by_cases e:b=p
    · subst e
      rw[if_pos rfl]
      refine⟨ih1,λx=>?_⟩
      rw[ih2,DZ]
      constructor
      · rintro⟨a,c⟩; exact⟨.inr a,c⟩
      · rintro⟨a | a,c⟩
        · exact absurd a c
        · exact⟨a,c⟩
    · rw[if_neg e]
      obtain⟨j1,j2⟩:=ET.1 ih1
      refine⟨ET.2 ⟨λx hx=>?_,ih1⟩,λx=>?_⟩
      · rcases DZ.1 hx with rfl | hx
        · omega
        · have:=j1 x hx; omega
      · rw[DZ,DZ,ih2]
        constructor
        · rintro (rfl | ⟨a,c⟩)
          · exact⟨.inl rfl,e⟩
          · have:=g1 x a
            exact⟨.inr a,by omega⟩
        · rintro⟨rfl | a,c⟩
          · exact .inl rfl
          · by_cases e2:x=b
            · exact .inl e2
            · exact .inr ⟨a,e2⟩
theorem qo {l:List Int} (h:l.Pairwise (·≤·)):(jf l).Pairwise (·<·)∧∀x,x∈jf l↔x∈l:=by
 cases l with
 | nil=>exact⟨.nil,λx=>by simp [jf]⟩
 | cons p l =>
   obtain⟨h1,h2⟩:=ly l p h
   refine⟨h1,λx=>?_⟩
   show x∈p::dG p l↔_
   rw[DZ,DZ,h2]
   constructor
   · rintro (rfl | ⟨a,-⟩)
     · exact .inl rfl
     · exact .inr a
   · rintro (rfl | a)
     · exact .inl rfl
     · by_cases e:x=p
       · exact .inl e
       · exact .inr ⟨a,e⟩
theorem sN (hfu:2097153≤fu) (a b:List Int) (ha:a.length≤1000000) (hb:b.length≤1000000):∃l D,xL fu [a,b]=some l∧(∃l2,yc fu l=some l2∧xB fu l2=some D)∧D.Pairwise (·<·)∧∀x,x∈D↔x∈a∨x∈b:=by
 obtain⟨l2,h1,h2,h3⟩:=qN hfu (a++b) (by rw[DR]; omega);obtain⟨c1,c2⟩:=qo h3;exact⟨_,_,qm (by omega) a b ha hb,⟨l2,h1,rfl⟩,c1,λx=>by rw[c2,h2.mem_iff,Dx]⟩
theorem oy {fu:Nat} (hfu:2097153≤fu) (fs:List Int) (hf:fs.length≤2097152):∀(L:List Nh) (s:List Int),(∀x∈L,x.Nv.Nw.Nodup∧x.Nv.Nw.length≤12)→s.length + L.length≤1000000 →
    delO (λa s=>yA fu a fs s) L s=some (L.filter (λx=>!meets x.Nv.Nw fs),s++idsL (L.filter λx=>meets x.Nv.Nw fs))
  | [],s,_,_=>by simp [delO,idsL]
  | x::L,s,hL,hs=>by
    obtain⟨h1,h2⟩:=hL x Ei
    rw[Ep]at hs
    obtain⟨c,hc,hd⟩:=f5 (fu:=fu) x.Nv.Nw fs h2 h1 hf hfu
    have hx:yA fu x fs s=some (meets x.Nv.Nw fs,if meets x.Nv.Nw fs=true then s++[x.Id] else s):=by
      unfold yA
      rw[hc,Dw,hd]
      cases meets x.Nv.Nw fs
      · rfl
      · rw[if_pos rfl,if_pos rfl,xH (by rw[DJ]; omega)]; rfl
    unfold delO
    rw[hx,Dw]
    cases hm:meets x.Nv.Nw fs
    · rw[if_neg DV]
      simp only
      rw[oy hfu fs hf L s (λy hy=>hL y (D7 _ hy)) (by omega),Dw,EI,EI,hm]
      simp
    · rw[if_pos rfl]
      simp only
      rw[oy hfu fs hf L (s++[x.Id]) (λy hy=>hL y (D7 _ hy)) (by rw[DR,DJ]; omega),Dw,EI,EI,hm]
      simp [idsL]
theorem gR (hfu:2097153≤fu) (r:Nj) (fs:List Int) (hB:RestB r) (hf:fs.length≤2097152):zI fu r fs=some (rsOk r&&stOk fs r.Nz.Nq.Nw.length):=by
 unfold zI;rw[fl hfu r hB,Dw];cases rsOk r
 rfl;rw[if_pos rfl,lq hfu fs _ hB.1.1.2 hf]; rfl
theorem og (hfu:2097153≤fu) (r:Nj) (fs:List Int) (hB:RestB r) (hf:fs.length≤1000000):(rsOk r&&stOk fs r.Nz.Nq.Nw.length)=true∧(∃D,zo fu r fs=some (⟨⟨r.Nz.Nq,r.Nz.Nk.filter λx=>!meets x.Nv.Nw fs⟩,r.Ng,D⟩,idsL (r.Nz.Nk.filter λx=>meets x.Nv.Nw fs),true)∧D.Pairwise (·<·)∧∀x,x∈D↔x∈r.Np∨x∈fs) ∨
    (rsOk r&&stOk fs r.Nz.Nq.Nw.length)=false∧zo fu r fs=some (nG,[],false):=by
 unfold zo;rw[gR hfu r fs hB (by omega),Dw];cases hc:(rsOk r&&stOk fs r.Nz.Nq.Nw.length)
 exact .inr ⟨rfl,rfl⟩;left;rw[DC]at hc;have hR:=kK.1 hc.1;have hpF:=bF hR.plan;have h12:=hpF.short;have hD:=gg hR.down;have hN:=netF (va.1 hR.plan).1;have hNf:=hN.fib;obtain⟨l,D,u1,⟨l2,u2,u3⟩,u4,u5⟩:=sN hfu r.Np fs (by omega) hf;refine⟨rfl,D,?_,u4,u5⟩;rw[if_neg (by decide),cU hfu r hB,Dw,u1,Dw,u2,Dw,u3,Dw];unfold vc;rw[oy hfu fs (by omega) r.Nz.Nk [] (λx hx=>⟨(hpF.light x hx).nodup,by have:=(hpF.light x hx).short; omega⟩) (by rw[EY]; omega),Dw,Ek]
theorem wx {fu:Nat} (fs:List Int) (hf:fs.length<fu) (hf2:fs.length≤2097152):∀(D:List Int),delO (λa (_:Unit)=>(xZ fu a fs).map λb=>(b,())) D ()=some (D.filter λx=>!fs.any λy=>y==x,())
  | []=>rfl
  | x::D=>by
    unfold delO
    have hx:xZ fu x fs=some (fs.any λy=>y==x):=by
      unfold xZ;rw[fZ fs x hf hf2]; rfl
    rw[hx,Gf,Dw,wx fs hf hf2 D,Dw,EI]
    cases fs.any λy=>y==x <;> rfl
theorem mo (hfu:2097153≤fu) (r:Nj) (fs:List Int) (hB:RestB r) (hf:fs.length≤2097152):ze fu r fs=some (if (rsOk r&&stOk fs r.Nz.Nq.Nw.length)=true then (repd r fs,true) else (nG,false)):=by
 unfold ze;rw[gR hfu r fs hB hf,Dw];cases hc:(rsOk r&&stOk fs r.Nz.Nq.Nw.length)
 rfl;rw[if_neg (by decide),cU hfu r hB,Dw,if_pos rfl];unfold vS tR;rw[wx fs (by omega) hf r.Np];rfl
def wait (H L:List Nh):List Int:=idsL (H.filter λx=>!hasL L x.Id)
theorem ml (r:Nj) (hH:r.Ng.length≤1000000) (hL:r.Nz.Nk.length<fu) (hL2:r.Nz.Nk.length≤2097152):∀(fk i:Nat) (o:List Int),i≤r.Ng.length→r.Ng.length - i<fk→o.length≤i→∃z,yv fu r fk o i=some (o++wait (r.Ng.drop i) r.Nz.Nk,z):=by
 intro fk;induction fk with
 | zero=>intro i _ _ h; omega
 | succ fk ih =>
   intro i o hi hk ho
   rw[yv]
   by_cases h:i<r.Ng.length
   · have hid:(gd r.Ng i l0).Id=r.Ng[i].Id:=by rw[zf l0 h]
     rw[if_pos (by simpa using h),vF h,Dw,qa r.Nz r.Ng[i].Id hL hL2,Dw,vr h (by omega),←DG h]
     have e:(r.Nz.Nk.any λy=>y.Id==r.Ng[i].Id)=hasL r.Nz.Nk r.Ng[i].Id:=rfl
     rw[e]
     unfold wait
     rw[EI]
     cases hc:hasL r.Nz.Nk r.Ng[i].Id
     · rw[if_neg DV,if_pos (by decide),if_pos (by decide),xH (by rw[DJ]; omega),Dw]
       obtain⟨z,hz⟩:=ih (i + 1) (o++[r.Ng[i].Id]) h (by omega) (by rw[DR,DJ]; omega)
       exact⟨z,by rw[hz]; simp [wait,idsL]⟩
     · rw[if_pos rfl,if_neg (by simp),if_neg (by decide)]
       exact ih (i + 1) o h (by omega) (by omega)
   · obtain rfl:i=r.Ng.length:=by omega
     rw[if_neg (by simp),Ea]
     exact⟨(r.Ng.length:Int),by simp [wait,idsL]⟩
theorem gT (hfu:2097153≤fu) (r:Nj) (hH:r.Ng.length≤1000000) (hL2:r.Nz.Nk.length≤2097152):yY fu r=some (wait r.Ng r.Nz.Nk):=by
 obtain⟨z,hz⟩:=ml (fu:=fu) r hH (by omega) hL2 fu 0 [] (by omega) (by omega) (by simp);rw[show ((0:Nat):Int)=0 from rfl,D4,Ek]at hz;unfold yY;rw[hz]; rfl
theorem kP (hfu:2097153≤fu) (r:Nj) (hB:RestB r):zK fu r=some (if rsOk r=true then (wait r.Ng r.Nz.Nk,true) else ([],false)):=by
 unfold zK;rw[fl hfu r hB,Dw];cases hc:rsOk r
 rfl;have hR:=kK.1 hc;have h12:=(va.1 hR.home).2.1;have h13:=(va.1 hR.plan).2.1;simp only at h12;rw[if_neg (by decide),gT hfu r (by omega) (by omega),if_pos rfl]; rfl
theorem tj (m C:Int) (N:Nat) (hN:(N:Int) + C=25) (h1:1≤C):∀(fk k s:Nat) (out:List Int),N=s + k→k<fk→out.length≤s →
    ∃z,xM fu m C fk out s=some (out++(((List.range' s k).filter λt:Nat=>apart m (bits ⟨(t:Int),C⟩)).map λt:Nat=>(t:Int)),z):=by
 intro fk;induction fk with
 | zero=>intro k s _ _ h; omega
 | succ fk ih =>
   intro k s out hs hk ho
   have hw0:w64 ((s:Int) + C)=(s:Int) + C:=vt (by omega) (by omega)
   rw[xM,hw0]
   clear hw0
   cases k with
   | zero =>
     have h':¬(s:Int) + C≤24:=by omega
     simp only[h',decide_false,DF,if_false,List.range'_zero,FQ,GG,D1]
     exact⟨_,rfl⟩
   | succ k =>
     have h':(s:Int) + C≤24:=by omega
     have hb:ya ⟨(s:Int),C⟩=true:=by simp only[ya,DC,decide_eq_true_eq]; omega
     obtain⟨c,hc⟩:∃c,apart m (bits ⟨(s:Int),C⟩)=c:=⟨_,rfl⟩
     obtain⟨b,hb1,hb2⟩:∃b,bq fu ⟨(s:Int),C⟩=some b∧(band m b==0)=c:=⟨_,lV hb,hc⟩
     have hw:w64 ((s:Int) + 1)=((s + 1:Nat):Int):=by rw[vt (by omega) (by omega)]; omega
     rw[List.range'_succ,EI,hc,hb1]
     clear hb1 hc hb
     rw[if_pos (by simpa using h'),Dw,hb2,hw]
     clear hw hb2
     cases c
     · rw[if_neg (by decide),if_neg (by decide)]
       exact ih k (s + 1) out (by omega) (by omega) (by omega)
     · have ha:app out [(s:Int)]=some (out++[(s:Int)]):=xH (by simp; omega)
       rw[if_pos rfl,if_pos rfl,ha,Dw]
       obtain⟨z,hz⟩:=ih k (s + 1) (out++[(s:Int)]) (by omega) (by omega) (by simp; omega)
       exact⟨z,by rw[hz,FC,DD,EC]⟩
theorem ot (hfu:2097153≤fu) (m C:Int) (hm:MK m) (h1:1≤C) (h2:C≤24):cE fu m C=some (match (fits m C).head? with | some f=>(⟨f,C⟩,true) | none=>(⟨0,0⟩,false)):=by
 unfold cE gn fg;rw[bG,bG];have hm':(decide (0≤m)&&decide (m≤16777215))=true:=by
   obtain⟨a,b⟩:=hm
   simp; omega
 have hc':(decide (1≤C)&&decide (C≤24))=true:=by simp; omega
 simp only[Dw,hm',hc',if_true,ED,DF,if_false];obtain⟨N,hN⟩:∃N,N=25 - C.toNat:=⟨_,rfl⟩;obtain⟨z,hz⟩:=tj (fu:=fu) m C N (by omega) h1 fu N 0 [] (by omega) (by omega) (by simp);rw[show ((0:Nat):Int)=0 from rfl,Ek,hN]at hz;have hp:bP fu m C=some (fits m C):=by
   unfold bP
   rw[hz]; rfl
 rw[hp,Dw];cases fits m C with
 | nil=>rfl
 | cons f l =>
   rw[if_neg (by simp; omega)]
   rfl
theorem pO (L:List Nh) (N:Nat) (r:Nv) (hr:r.Nw.length≤1000) (hf:∀f∈r.Nw,0≤f∧f<(N:Int)):∀(fk i:Nat) (o:Int),i≤r.Nw.length→r.Nw.length - i<fk→∃z,yg fu r (pY L N) fk o i=some ((r.Nw.drop i).foldl (λo f=>bor o (used L f)) o,z):=by
 intro fk;induction fk with
 | zero=>intro i _ _ h; omega
 | succ fk ih =>
   intro i o hi hk
   rw[yg]
   by_cases h:i<r.Nw.length
   · obtain⟨f0,f1⟩:=hf _ (D6 h)
     have e:idx (pY L N) r.Nw[i]=some (used L r.Nw[i]):=by
       unfold pY
       have:=vF (l:=(List.range N).map λf:Nat=>used L (f:Int)) (i:=r.Nw[i].toNat) (by simp; omega)
       rw[EW f0]at this
       rw[this,Gq,Ew,EW f0]
     rw[if_pos (by simpa using h),vF h,Dw,e,Dw,vr h (by omega),←DG h,Fw]
     exact ih (i + 1) _ h (by omega)
   · obtain rfl:i=r.Nw.length:=by omega
     rw[if_neg (by simp),Ea]
     exact⟨_,rfl⟩
theorem mS (hfu:2097153≤fu) (p:Nz) (hB:ec p) (hF:PlanF p) (r:Nv) (hr:r.Nw.length≤1000) (hf:jz p.Nq r.Nw):bO fu p r=some (along p.Nk r.Nw):=by
 unfold bO;rw[mw hfu p hB hF,Dw];obtain⟨z,hz⟩:=pO (fu:=fu) p.Nk p.Nq.Nw.length r hr hf fu 0 0 (by omega) (by omega);rw[show ((0:Nat):Int)=0 from rfl,D4]at hz;rw[hz]; rfl
end AT
namespace AT
def tryR (L:List Nh) (D:List Int) (y:Nh) (rt:Nv):Option Nh:=if meets rt.Nw D=true then none else ((fits (along L rt.Nw) y.Nd.Px).head?).map λf=>(⟨y.Id,rt,⟨f,y.Nd.Px⟩⟩:Nh)
def plc (N:Nq) (L:List Nh) (D:List Int) (y:Nh):Option Nh :=
  if (!meets y.Nv.Nw D&&ea L y)=true then some y
  else if dB N y.Nv.Pq (endR N y.Nv)=true∧(rts N y.Nv.Pq (endR N y.Nv)).length≤200 then (rts N y.Nv.Pq (endR N y.Nv)).findSome? (tryR L D y) else none
theorem kU {F:List Nt} {i:Nat} (hi:i<F.length):∀(fs out:List Int) (v:Int) {o:List Int},v=gl out→dj F fs out v=some o→0≤oth (gd F i f0) (gl o)→(o.any λx=>x==oth (gd F i f0) (gl o))=false→dj F (fs++[(i:Int)]) out v=some (o++[oth (gd F i f0) (gl o)])
  | [],out,v,o,hv,h,h0,hn=>by
    simp only[dj,Ec]at h
    subst h
    rw[Ek,dj,if_pos ⟨Gz i,by omega⟩,EZ,hv,if_neg (λh=>by
      rcases h with h | h
      · omega
      · rw[hn]at h; cases h)]
    rfl
  | j::fs,out,v,o,hv,h,h0,hn=>by
    rw[FZ]
    unfold dj at h ⊢
    split at h
    · rename_i hj
      rw[if_pos hj]
      split at h
      · cases h
      · rename_i hc
        rw[if_neg hc]
        exact kU hi fs _ _ (by rw[kh]) h h0 hn
    · cases h
theorem oR {n:Nq} {to s:Int}:∀(k:Nat) {seen:List Int} {v:Int} {fs:List Int},dj n.Nw fs [s] s=some seen→gl seen=v→∀p∈pth n.Nw to k seen v fs,∃o,dj n.Nw p [s] s=some o∧gl o=to
  | 0,_,_,_,_,_,p,hp=>by simp [pth]at hp
  | k + 1,seen,v,fs,h,hg,p,hp=>by
    by_cases hv:v=to
    · rw[pth,if_pos hv,DU]at hp
      subst hp
      exact⟨seen,h,hg.trans hv⟩
    · rw[oS hv]at hp
      obtain⟨i,hi,hp⟩:=Es.1 hp
      rw[Et]at hi
      split at hp
      · rename_i hc
        refine oR k (kU hi fs [s] s (by simp [gl,gd]) h (by rw[hg]; exact hc.1) (by rw[hg]; exact hc.2)) (by rw[kh,hg]) p ?_
        rw[hg]
        exact hp
      · cases hp
theorem wl {n:Nq} (hn:NetF n) {s t:Int} (h0:0≤s) (h1:s<(n.Nx.length:Int)) (hne:s≠t) {a:Nv} (ha:a∈rts n s t):a.Pq=s∧(yM n a).isSome=true∧endR n a=t∧RtB n a:=by
 have hB:=(sW hn h0 h1 t).1 a ha;unfold rts at ha;rcases lc _ ha with ha | ⟨p,hp,rfl⟩
 cases ha;obtain⟨o,ho,hg⟩:=oR (n:=n) (to:=t) (s:=s) n.Nx.length (seen:=[s]) (v:=s) (fs:=[]) rfl rfl p hp;have hpn:p≠[]:=λe=>by
   subst e
   simp only[dj,Ec]at ho
   subst ho
   exact hne hg
 have hr:yM n ⟨s,p⟩=some o:=by
   unfold yM
   rw[if_pos ⟨⟨h0,h1⟩,hpn⟩]
   exact ho
 exact⟨rfl,by rw[hr]; rfl,by unfold endR; rw[hr]; exact hg,hB⟩
theorem lf {n:Nq} {s t:Int}:dB n s t=true↔eA n=true∧(0≤s∧s<(n.Nx.length:Int))∧(0≤t∧t<(n.Nx.length:Int))∧s≠t:=by
 unfold dB;simp only[DC,decide_eq_true_eq,bne_iff_ne]
variable {N:Nq} {L H:List Nh} {D:List Int}
theorem w8 {x:Nh} (hp:xv ⟨N,L⟩=true) (hx:ap N x=true) (hid:hasL L x.Id=false) (hf:∀y∈L,coll y x=false) (hl:L.length<12):xv ⟨N,putL L x⟩=true:=by
 obtain⟨n1,n2,n3,n4⟩:=va.1 hp;simp only at n1 n2 n3 n4;refine va.2 ⟨n1,by simp only; rw[jA]; omega,λy hy=>?_,?_⟩;rcases cy.1 hy with rfl | hy
 exact hx;exact n3 y hy;have hle:=jG L x.Id;have hpre:∀y∈L.take (eO L x.Id),y.Id<x.Id:=λy hy=>by
   obtain⟨q,hq,rfl⟩:=Ee.1 hy
   rw[DO]at hq
   have hq':q<eO L x.Id:=by omega
   have:=List.not_of_lt_findIdx (p:=λy:Nh=>!decide (y.Id<x.Id)) (xs:=L) (i:=q) hq'
   rw[EN]
   simpa using this
 have hpost:∀y∈L.drop (eO L x.Id),x.Id<y.Id:=λy hy=>by
   have hyL:y∈L:=FU hy
   have hne:y.Id≠x.Id:=λe=>by
     rw[DX]at hid
     exact hid (DT.2 ⟨y,hyL,by rw[beq_iff_eq]; exact e⟩)
   by_cases hlt:eO L x.Id<L.length
   · have h1:=List.findIdx_getElem (p:=λy:Nh=>!decide (y.Id<x.Id)) (xs:=L) (w:=hlt)
     have h1':(!decide (L[eO L x.Id].Id<x.Id))=true:=h1
     have h2:¬L[eO L x.Id].Id<x.Id:=by simpa using h1'
     rw[←DG hlt]at hy
     rcases DZ.1 hy with rfl | hy
     · omega
     · obtain⟨q,hq,rfl⟩:=Ee.1 hy
       rw[Er]at hq
       have:=(EG.1 n4 (eO L x.Id) (eO L x.Id + 1 + q) hlt (by omega) (by omega)).1
       rw[GF]
       omega
   · rw[En (by omega)]at hy
     cases hy
 unfold putL;have hs:(L.take (eO L x.Id)++L.drop (eO L x.Id)).Pairwise (λa b=>a.Id<b.Id∧coll a b=false):=by rw[Fp]; exact n4
 obtain⟨s1,s2,s3⟩:=FI.1 hs;refine FI.2 ⟨s1,ET.2 ⟨λy hy=>⟨hpost y hy,?_⟩,s2⟩,λa ha b hb=>?_⟩;rw[ny];exact hf y (FU hy);rcases DZ.1 hb with rfl | hb
 exact⟨hpre a ha,hf a (GO ha)⟩;exact s3 a ha b hb
theorem po {α:Type} (p:α→Bool):∀l:List α,(l.filter p).length + (l.filter λx=>!p x).length=l.length
  | []=>rfl
  | a::l=>by
    have:=po p l
    rw[EI,EI,Ep]
    cases p a
    · simp only[DF,if_false,GU,if_true,Ep]; omega
    · simp only[if_true,ED,DF,if_false,Ep]; omega
theorem me (hp:xv ⟨N,L⟩=true):(idsL L).Pairwise (·<·):=kf ((va.1 hp).2.2.2.imp λh=>h.1)
theorem oJ {r:Nj} (h:RestF r):(wait r.Ng r.Nz.Nk).length + r.Nz.Nk.length=r.Ng.length:=by
 have hH:=me h.home;have hL:=me (N:=r.Nz.Nq) (L:=r.Nz.Nk) h.plan;have e:idsL (r.Ng.filter λx=>hasL r.Nz.Nk x.Id)=idsL r.Nz.Nk:=by
   refine il ?_ hL λx=>?_
   · unfold idsL at hH ⊢
     rw[FV]at hH ⊢
     exact hH.filter _
   · rw[←dd (L:=r.Nz.Nk)]
     constructor
     · intro hx
       obtain⟨y,hy,rfl⟩:=Eh.1 hx
       exact (EB.1 hy).2
     · intro hx
       have:=h.sub x hx
       rw[dd]at this
       obtain⟨y,hy,rfl⟩:=Eh.1 this
       exact Eh.2 ⟨y,EB.2 ⟨hy,hx⟩,rfl⟩
 have e2:=congrArg List.length e;rw[fo,fo]at e2;have h3:=po (λx:Nh=>hasL r.Nz.Nk x.Id) r.Ng;unfold wait;rw[fo];omega
theorem f9 {id:Int}:id∈wait H L↔hasL H id=true∧hasL L id=false:=by
 unfold wait idsL;rw[Eh];constructor;rintro⟨x,hx,rfl⟩;obtain⟨h1,h2⟩:=EB.1 hx;exact⟨DT.2 ⟨x,h1,by simp⟩,by simpa using h2⟩;rintro⟨h1,h2⟩;obtain⟨x,hx,he⟩:=DT.1 h1;rw[beq_iff_eq]at he;subst he;exact⟨x,EB.2 ⟨hx,by rw[h2]; rfl⟩,rfl⟩
theorem oU (hp:xv ⟨N,L⟩=true):∀y∈L,ya y.Nd=true:=λy hy=>((bF hp).light y hy).blk
theorem oT (hR:RestF ⟨⟨N,L⟩,H,D⟩) {id:Int} (hH:hasL H id=true) (hL:hasL L id=false) {x:Nh} (h:plc N L D (xg H id)=some x):x.Id=id∧ap N x=true∧RestF ⟨⟨N,putL L x⟩,H,D⟩:=by
  have hid:=iz hH;have hmem:=fW hH;have hyok:=(va.1 hR.home).2.2.1 _ hmem;have hnet:eA N=true:=(va.1 hR.plan).1;have hyF:=jm hnet hyok;have hw:L.length<12:=by
    have h1:=oJ hR
    have h2:=(va.1 hR.home).2.1
    have h3:id∈wait H L:=f9.2 ⟨hH,hL⟩
    have h4:=List.length_pos_of_mem h3
    simp only at h1 h2
    omega
  have hblk:=oU (N:=N) (L:=L) hR.plan;suffices hs:x.Id=id∧ap N x=true∧(∀y∈L,coll y x=false)∧meets x.Nv.Nw D=false∧x.Nv.Pq=(xg H id).Nv.Pq∧endR N x.Nv=endR N (xg H id).Nv∧x.Nd.Px=(xg H id).Nd.Px by
    obtain⟨g1,g2,g3,g4,g5,g6,g7⟩:=hs
    refine⟨g1,g2,w8 hR.plan g2 (by rw[g1]; exact hL) g3 hw,hR.home,hR.down,λy hy=>?_⟩
    rcases cy.1 hy with rfl | hy
    · refine aM.2 ⟨by simp only; rw[g1]; exact hH,g4,?_,?_,?_⟩
      · simp only; rw[g1]; exact g5
      · simp only; rw[g1]; exact g6
      · simp only; rw[g1]; exact g7
    · have:=aM.1 (hR.each y hy)
      exact aM.2 this
  unfold plc at h;split at h
  · rename_i hc
    injection h with h
    subst h
    rw[DC,D9]at hc
    refine⟨hid,hyok,λy hy=>?_,hc.1,rfl,rfl,rfl⟩
    have hf:=hc.2
    unfold ea at hf
    rw[D9,GZ]at hf
    have:=hf y hy
    simp only[DC,bne_iff_ne,ne_eq,not_and,FK]at this
    refine this λe=>?_
    rw[hid]at e
    rw[DX]at hL
    exact hL (DT.2 ⟨y,hy,by rw[beq_iff_eq]; exact e⟩)
  · split at h
    case isFalse=>cases h
    rename_i hp
    obtain⟨hp1,hp2⟩:=hp
    obtain⟨-,⟨s0,s1⟩,⟨t0,t1⟩,hne⟩:=lf.1 hp1
    obtain⟨rt,hrt,htry⟩:=List.exists_of_findSome?_eq_some h
    obtain⟨r1,r2,r3,r4⟩:=wl (netF hnet) s0 s1 hne hrt
    unfold tryR at htry
    split at htry
    · cases htry
    · rename_i hm
      obtain⟨f,hf,rfl⟩:=Ed.1 htry
      have hC:=hyF.blk
      simp only[ya,DC,decide_eq_true_eq]at hC
      have hfm:=List.mem_of_mem_head? (Option.mem_def.2 hf)
      obtain⟨f1,f2,f3⟩:=(iA (by omega) (by omega)).1 hfm
      have hb:ya ⟨f,(xg H id).Nd.Px⟩=true:=by simp only[ya,DC,decide_eq_true_eq]; omega
      rw[eb hblk rt.Nw (jh hb),Eo]at f3
      have hlok:ap N ⟨(xg H id).Id,rt,⟨f,(xg H id).Nd.Px⟩⟩=true:=by
        unfold ap at hyok ⊢
        simp only[DC]at hyok ⊢
        exact⟨hyok.1,r2,hb⟩
      refine⟨hid,hlok,λy hy=>?_,by simpa using hm,r1,r3,rfl⟩
      rw[gp]
      simpa only[D9] using f3 y hy
theorem tl {L0:List Nh} {y:Nh} (hs:∀x∈L0,x∈L) (hb:∀x∈L,ya x.Nd=true) (hC:1≤y.Nd.Px∧y.Nd.Px≤24) (h:plc N L0 D y=none):plc N L D y=none:=by
 unfold plc at h ⊢;split at h
 cases h;rename_i hc;have hc':¬(!meets y.Nv.Nw D&&ea L y)=true:=by
   intro h2
   apply hc
   rw[DC]at h2 ⊢
   refine⟨h2.1,?_⟩
   have h3:=h2.2
   unfold ea at h3 ⊢
   rw[D9,GZ]at h3 ⊢
   exact λx hx=>h3 x (hs x hx)
 rw[if_neg hc'];split at h
 rename_i hp;rw[if_pos hp];rw[List.findSome?_eq_none_iff]at h ⊢;intro rt hrt;have h4:=h rt hrt;unfold tryR at h4 ⊢;split at h4
 rename_i hm;rw[if_pos hm];rename_i hm;rw[if_neg hm];rw[Option.map_eq_none_iff,List.head?_eq_none_iff]at h4 ⊢;refine GL.2 λf hf=>?_;obtain⟨f1,f2,f3⟩:=(iA hC.1 hC.2).1 hf;have hbk:ya ⟨f,y.Nd.Px⟩=true:=by simp only[ya,DC,decide_eq_true_eq]; omega
 rw[eb hb rt.Nw (jh hbk),Eo]at f3;have:f∈fits (along L0 rt.Nw) y.Nd.Px:=(iA hC.1 hC.2).2 ⟨f1,f2,by
   rw[eb (λx hx=>hb x (hs x hx)) rt.Nw (jh hbk),Eo]
   exact λx hx=>f3 x (hs x hx)⟩
 rw[h4]at this;cases this
 rename_i hp;rw[if_neg hp]
def resA (N:Nq) (H:List Nh) (D:List Int):List Int→List Nh→List Int→List Nh×List Int
  | [],L,o=>(L,o)
  | id::l,L,o=>match plc N L D (xg H id) with
    | some x=>resA N H D l (putL L x) (o++[id])
    | none=>resA N H D l L o
theorem jT {N:Nq} {H:List Nh} {D:List Int}:∀(l:List Int) (L:List Nh) (o:List Int),RestF ⟨⟨N,L⟩,H,D⟩→l.Nodup→(∀id∈l,hasL H id=true∧hasL L id=false) →
    RestF ⟨⟨N,(resA N H D l L o).1⟩,H,D⟩∧(∀y∈L,y∈(resA N H D l L o).1)∧(resA N H D l L o).1.length + o.length=L.length + (resA N H D l L o).2.length∧∀id∈l,hasL (resA N H D l L o).1 id=false→plc N (resA N H D l L o).1 D (xg H id)=none
  | [],L,o,hR,_,_=>⟨hR,λ_ h=>h,rfl,λid h=>by cases h⟩
  | id::l,L,o,hR,hnd,hid=>by
    obtain⟨n1,n2⟩:=EP.1 hnd
    obtain⟨i1,i2⟩:=hid id Ei
    unfold resA
    cases hp:plc N L D (xg H id) with
    | some x =>
      obtain⟨p1,p2,p3⟩:=oT hR i1 i2 hp
      have hsub:∀id'∈l,hasL H id'=true∧hasL (putL L x) id'=false:=λid' h'=>by
        obtain⟨j1,j2⟩:=hid id' (D7 _ h')
        refine⟨j1,?_⟩
        rw[DX]
        intro hc
        obtain⟨y,hy,he⟩:=DT.1 hc
        rw[beq_iff_eq]at he
        rcases cy.1 hy with rfl | hy
        · rw[p1]at he
          subst he
          exact n1 h'
        · rw[DX]at j2
          exact j2 (DT.2 ⟨y,hy,by rw[beq_iff_eq]; exact he⟩)
      obtain⟨r1,r2,r3,r4⟩:=jT l (putL L x) (o++[id]) p3 n2 hsub
      refine⟨r1,λy hy=>r2 y (cy.2 (.inr hy)),?_,λid' h' hn=>?_⟩
      · simp only
        rw[jA,DR,DJ]at r3
        omega
      · rcases DZ.1 h' with rfl | h'
        · have hx:=r2 x (cy.2 (.inl rfl))
          simp only at hn
          rw[DX]at hn
          exact absurd (DT.2 ⟨x,hx,by rw[beq_iff_eq]; exact p1⟩) hn
        · exact r4 id' h' hn
    | none =>
      obtain⟨r1,r2,r3,r4⟩:=jT l L o hR n2 λid' h'=>hid id' (D7 _ h')
      refine⟨r1,r2,r3,λid' h' hn=>?_⟩
      rcases DZ.1 h' with rfl | h'
      · have hC:=(jm (va.1 hR.plan).1 ((va.1 hR.home).2.2.1 _ (fW i1))).blk
        simp only[ya,DC,decide_eq_true_eq]at hC
        exact tl r2 (oU (N:=N) r1.plan) ⟨by omega,by omega⟩ hp
      · exact r4 id' h' hn
theorem iJ {r:Nj} (h:RestF r):(wait r.Ng r.Nz.Nk).Nodup:=by
 have hH:=me h.home;unfold wait idsL;unfold idsL at hH;rw[FV]at hH;have:(r.Ng.filter λx=>!hasL r.Nz.Nk x.Id).Pairwise λa b=>a.Id<b.Id:=hH.filter _;refine FV.2 (this.imp λh=>?_);omega
variable {fu:Nat}
theorem mc (hfu:2097153≤fu) (r:Nj) (hB:RestB r) (hF:PlanF r.Nz) (yR:Nj) (e:Nh) (hC:1≤e.Nd.Px∧e.Nd.Px≤24) (hD:r.Np.length≤2097152) (l:List Nv) (hl:∀a∈l,RtB r.Nz.Nq a∧a.Nw.Nodup) (hll:l.length≤1000) :
    ∀(fk i:Nat),i≤l.length→l.length - i<fk→x4 fu r e.Id yR e (l,true) fk i=some (match (l.drop i).findSome? (tryR r.Nz.Nk r.Np e) with | some x=>.ret (⟨addP r.Nz x,yR.Ng,yR.Np⟩,true) | none=>.next (l.length:Int)):=by
 intro fk;induction fk with
 | zero=>intro i _ h; omega
 | succ fk ih =>
   intro i hi hk
   rw[x4]
   by_cases h:i<l.length
   · obtain⟨a1,a2⟩:=hl _ (D6 h)
     have a3:=a1.short
     obtain⟨c,hc,hd⟩:=f5 (fu:=fu) l[i].Nw r.Np (by omega) a2 hD hfu
     have hblk:∀y∈r.Nz.Nk,ya y.Nd=true:=λy hy=>(hF.light y hy).blk
     rw[if_pos (by simpa using h),vF h,Dw,hc,Dw,hd,vr h (by omega),←DG h,List.findSome?_cons]
     unfold tryR
     cases hm:meets l[i].Nw r.Np
     · rw[if_neg DV,if_neg DV,mS hfu r.Nz hB.1 hF l[i] (by omega) a1.fib,Dw,ot hfu _ _ (wg hblk _) hC.1 hC.2,Dw]
       cases hh:(fits (along r.Nz.Nk l[i].Nw) e.Nd.Px).head? with
       | none =>
         simp only[Option.map_none,DF,if_false]
         exact ih (i + 1) h (by omega)
       | some f =>
         simp only[Gf,if_true]
         rw[jk hfu r.Nz _ hB.1 (by simp only; omega)]
         rfl
     · rw[if_pos rfl,if_pos rfl]
       exact ih (i + 1) h (by omega)
   · obtain rfl:i=l.length:=by omega
     rw[if_neg (by simp),Ea]
     rfl
theorem nR (hfu:2097200≤fu) (r:Nj) (hB:RestB r) (hR:RestF r) {id:Int} (hid:hasL r.Ng id=true):cB fu r id=some (match plc r.Nz.Nq r.Nz.Nk r.Np (xg r.Ng id) with | some x=>(⟨addP r.Nz x,r.Ng,r.Np⟩,true) | none=>(r,false)):=by
 have hfu':2097153≤fu:=by omega
 have hpF:=bF hR.plan;have hnet:eA r.Nz.Nq=true:=(va.1 hR.plan).1;have hyok:ap r.Nz.Nq (xg r.Ng id)=true:=(va.1 hR.home).2.2.1 _ (fW hid);have hyF:=jm hnet hyok;have hys:=hyF.short;have hHl:=(va.1 hR.home).2.1;simp only at hHl;have hDl:=gg hR.down;have hNf:=(netF hnet).fib;have hC:=hyF.blk;simp only[ya,DC,decide_eq_true_eq]at hC;have hro:(yM r.Nz.Nq (xg r.Ng id).Nv).isSome=true:=by
   obtain⟨o,ho⟩:=hyF.route
   rw[ho]; rfl
 have hix:idx r.Ng ((atId r.Ng id:Nat):Int)=some (xg r.Ng id):=x5 l0 (fq hid);unfold cB;rw[cU hfu' r hB,Dw,kg r id (by omega) (by omega),if_pos hid,Dw,hix,Dw,
   nc hfu' r (xg r.Ng id) (n:=r.Nz.Nq) (by have:=hpF.short; omega) hpF.light hyF (by omega),Dw]
 unfold plc;cases hop:(!meets (xg r.Ng id).Nv.Nw r.Np&&ea r.Nz.Nk (xg r.Ng id))
 rw[if_neg DV,if_neg DV,i7 hfu' _ _ hB.1.1 (by omega) hro,Dw,mm hfu _ _ _ hB.1.1,Dw];by_cases hp:dB r.Nz.Nq (xg r.Ng id).Nv.Pq (endR r.Nz.Nq (xg r.Ng id).Nv)=true∧(rts r.Nz.Nq (xg r.Ng id).Nv.Pq (endR r.Nz.Nq (xg r.Ng id).Nv)).length≤200;obtain⟨-,⟨s0,s1⟩,⟨t0,t1⟩,hne⟩:=lf.1 hp.1;rw[if_pos hp,if_pos hp,if_neg (by simp)];have hl:=mc hfu' r hB hpF r (xg r.Ng id) ⟨by omega,by omega⟩ (by omega) (rts r.Nz.Nq (xg r.Ng id).Nv.Pq (endR r.Nz.Nq (xg r.Ng id).Nv)) (λa ha=>by
   obtain⟨r1,r2,r3,r4⟩:=wl (netF hnet) s0 s1 hne ha
   obtain⟨o,ho⟩:=FD.1 r2
   exact⟨r4,(el (netF hnet) ho).2.2.1⟩) (by omega) fu 0 (by omega) (by omega)
 rw[show ((0:Nat):Int)=0 from rfl,D4,iz hid]at hl;rw[hl,Dw];cases (rts r.Nz.Nq (xg r.Ng id).Nv.Pq (endR r.Nz.Nq (xg r.Ng id).Nv)).findSome? (tryR r.Nz.Nk r.Np (xg r.Ng id)) <;> rfl
 rw[if_neg hp,if_neg hp];rfl;rw[if_pos rfl,if_pos rfl,jk hfu' r.Nz _ hB.1 (by omega)];rfl
theorem sD (hfu:2097200≤fu) (N:Nq) (H:List Nh) (D:List Int) (hN:NetB N) (hHB:H.length≤2097152∧∀x∈H,x.Nv.Nw.length≤2097152) (w:List Int) (hwl:w.length≤1000):∀(fk i:Nat) (L:List Nh) (o:List Int),i≤w.length→w.length - i<fk→o.length≤i→RestF ⟨⟨N,L⟩,H,D⟩→(w.drop i).Nodup→(∀id∈w.drop i,hasL H id=true∧hasL L id=false) →
    xz fu w fk o i N.Nx N.Nw L H D=some ((resA N H D (w.drop i) L o).2,(w.length:Int),N.Nx,N.Nw,(resA N H D (w.drop i) L o).1,H,D):=by
 intro fk;induction fk with
 | zero=>intro i _ _ _ h; omega
 | succ fk ih =>
   intro i L o hi hk ho hR hnd hid
   rw[xz]
   by_cases h:i<w.length
   · have hdr:=DG h
     rw[←hdr]at hnd hid ⊢
     obtain⟨n1,n2⟩:=EP.1 hnd
     obtain⟨i1,i2⟩:=hid _ Ei
     have hDl:=gg hR.down
     have hNf:=(netF (va.1 hR.plan).1).fib
     have hpF:=bF hR.plan
     have hLl:=hpF.short
     simp only at hDl hNf hLl
     have hB:RestB ⟨⟨N,L⟩,H,D⟩:=⟨⟨hN,by simp only; omega,λx hx=>by have:=(hpF.light x hx).short; omega⟩,hHB,by simp only; omega⟩
     have he:=nR hfu ⟨⟨N,L⟩,H,D⟩ hB hR i1
     simp only at he
     rw[if_pos (by simpa using h),vF h,Dw,he,Dw,vr h (by omega)]
     unfold resA
     cases hp:plc N L D (xg H w[i]) with
     | some x =>
       obtain⟨p1,p2,p3⟩:=oT hR i1 i2 hp
       simp only[if_true,addP]
       rw[xH (by rw[DJ]; omega),Dw]
       refine ih (i + 1) (putL L x) (o++[w[i]]) h (by omega) (by rw[DR,DJ]; omega) p3 n2 λid' h'=>?_
       obtain⟨j1,j2⟩:=hid id' (D7 _ h')
       refine⟨j1,?_⟩
       rw[DX]
       intro hc
       obtain⟨y,hy,he⟩:=DT.1 hc
       rw[beq_iff_eq]at he
       rcases cy.1 hy with rfl | hy
       · rw[p1]at he
         exact n1 (he▸h')
       · rw[DX]at j2
         exact j2 (DT.2 ⟨y,hy,by rw[beq_iff_eq]; exact he⟩)
     | none =>
       simp only[DF,if_false]
       exact ih (i + 1) L o h (by omega) (by omega) hR n2 λid' h'=>hid id' (D7 _ h')
   · obtain rfl:i=w.length:=by omega
     rw[if_neg (by simp),Ea]
     rfl
def allR (r:Nj):List Nh×List Int:=resA r.Nz.Nq r.Ng r.Np (wait r.Ng r.Nz.Nk) r.Nz.Nk []
theorem qh (hfu:2097200≤fu) (r:Nj) (hB:RestB r):zn fu r=some (if rsOk r=true then (⟨⟨r.Nz.Nq,(allR r).1⟩,r.Ng,r.Np⟩,(allR r).2,true) else (nG,[],false)):=by
 unfold zn;rw[fl (by omega) r hB,Dw];cases hc:rsOk r
 rfl;have hR:=kK.1 hc;have h12:=(va.1 hR.home).2.1;have h13:=(va.1 hR.plan).2.1;have hwl:=oJ hR;simp only at h12;rw[if_neg (by decide),cU (by omega) r hB,Dw,gT (by omega) r (by omega) (by omega),Dw,if_pos rfl];have hl:=sD hfu r.Nz.Nq r.Ng r.Np hB.1.1 hB.2.1 (wait r.Ng r.Nz.Nk) (by omega) fu 0 r.Nz.Nk [] (by omega) (by omega) (by simp) hR (by rw[D4]; exact iJ hR) (λid hid=>by rw[D4]at hid; exact f9.1 hid);rw[show ((0:Nat):Int)=0 from rfl,D4]at hl;rw[hl];rfl
theorem mF {r:Nj} (h:RestF r):RestF ⟨⟨r.Nz.Nq,(allR r).1⟩,r.Ng,r.Np⟩∧(allR r).1.length=r.Nz.Nk.length + (allR r).2.length∧∀id∈wait r.Ng (allR r).1,plc r.Nz.Nq (allR r).1 r.Np (xg r.Ng id)=none:=by
 obtain⟨r1,r2,r3,r4⟩:=jT (N:=r.Nz.Nq) (H:=r.Ng) (D:=r.Np) (wait r.Ng r.Nz.Nk) r.Nz.Nk [] h (iJ h) λid hid=>f9.1 hid;refine⟨r1,by rw[EY]at r3; exact r3,λid hid=>?_⟩;obtain⟨w1,w2⟩:=f9.1 hid;refine r4 id (f9.2 ⟨w1,?_⟩) w2;rw[DX];intro hc;obtain⟨y,hy,he⟩:=DT.1 hc;rw[DX]at w2;exact w2 (DT.2 ⟨y,r2 y hy,he⟩)
end AT
