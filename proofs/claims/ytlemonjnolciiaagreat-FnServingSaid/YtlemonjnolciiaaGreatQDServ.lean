/- Serving: what plan and numbers are after each demand. -/
import Derived.Test.YtlemonjnolciiaaGreatQUse
set_option linter.unusedSimpArgs false
set_option linter.unusedVariables false
namespace AT
section
theorem pE {F:List Pq}:∀{fs out:d_} {v:Int} {o:d_},db F fs out v=some o->∃t,o=out++t
 | [],out,v,o,h=>by simp only[db,IV]at h; exact⟨[],by simp [h]⟩
 | i::r,out,v,o,h=>by
  unfold db at h
  split at h
  · split at h
    · cases h
    · obtain⟨t,rfl⟩:=pE h
      exact⟨_::t,by rw[Ir]; rfl⟩
  · cases h
theorem pM {n:Nq} {r:Nk} {o:d_} (h:yL n r=some o):V_ o 0=some r.Np:=by
 unfold yL at h;split at h
 obtain⟨t,rfl⟩:=pE h;exact vw (l:=[r.Np]++t) (i:=0) (by simp);cases h
def minC (n:Nq) (F:List Ng) (d:Nt):Int:=match srtC (Z1 n F d) with
 | []=>0
 | c::_=>jm c
theorem wG {l:List Pg} {c:Pg} {t:List Pg} (h:srtC l=c::t):∀x∈l,jm c<=jm x:=by
 intro x hx;unfold srtC at h;cases hs:d7 (keyC l) l.length with
 | nil=>rw[hs]at h; cases h
 | cons i is =>
  rw[hs,Je,I1]at h
  obtain⟨h1,-⟩:=h
  subst h1
  obtain⟨j,hj,rfl⟩:=IF.1 hx
  have hm:j∈d7 (keyC l) l.length:=(el _ _).mem_iff.2 (I4.2 hj)
  have hsr:=gW (keyC l) l.length
  rw[hs]at hm hsr
  have e:l[j]=gd l j O2:=(bv O2 hj).symm
  rw[e]
  rcases IW.1 hm with rfl | hm
  · exact Kh _
  · have:=(JE.1 hsr).1 j hm
    unfold D_ keyC at this
    omega
theorem Ei {n:Nq} {F:List Ng} {d:Nt} {c:Pg} (hc:c∈Z1 n F d):minC n F d<=jm c:=by
 unfold minC;cases hs:srtC (Z1 n F d) with
 | nil =>
  have:=(dS (Z1 n F d)).mem_iff.2 hc
  rw[hs]at this
  cases this
 | cons a t=>exact wG hs c hc
theorem Ej {n:Nq} (hn:NetF n) {F:List Ng} (hF:FmtF F) {d:Nt} (hd:DemF n d):0<=minC n F d/\minC n F d<=2400:=by
 unfold minC;cases hs:srtC (Z1 n F d) with
 | nil=>simp
 | cons a t =>
  have ha:a∈Z1 n F d:=(dS _).mem_iff.1 (by rw[hs]; exact IK ..)
  have hb:=lL hn hF hd ha
  have h1:=hb.c1
  have h2:=hb.c2
  have h3:=hb.rb.short
  exact oT ⟨by omega,h2⟩ (by omega)
def useL (L:List Nx):Nat:=(L.map λy=>y.Nj.Pz.toNat * y.Nk.Nw.length).sum
theorem BF (L:List Nx) (x:Nx):useL (putL L x)=useL L + x.Nj.Pz.toNat * x.Nk.Nw.length:=by
 unfold useL putL;have e:=congrArg (λl=>(l.map λy:Nx=>y.Nj.Pz.toNat * y.Nk.Nw.length).sum) (IS (gA L x.Id) L);simp only[JM,List.sum_append,Je,List.sum_cons]at e ⊢;omega
variable {F:List Ng}
theorem EA {p:Nh} {d:Nt} {x:Nx} (h:ConB p F d x):(⟨x.Nk,x.Nj.Pz⟩:Pg)∈Z1 p.Nq F d:=by
 unfold Z1;refine I7.2 ⟨x.Nk,h.rt,?_⟩;unfold usb1;have h1:=h.c1;have h2:=h.cnt;rw[if_pos (by omega),<-h2];exact Iu.2 rfl
theorem CQ {p:Nh} {d:Nt} {x:Nx} (h:ConB p F d x):minC p.Nq F d<=((x.Nj.Pz.toNat * x.Nk.Nw.length:Nat):Int):=by
 have h1:=Ei (EA h);have h2:=h.c1;unfold jm at h1;dsimp only at h1;have e:x.Nj.Pz=((x.Nj.Pz.toNat:Nat):Int):=by omega
 rw[Int.natCast_mul,<-e];exact h1
def SatD (N:Nq) (q:Nh) (id:Int) (d:Nt):Prop:=1<=id/\∃y∈q.Nz,y.Id=id/\(yL N y.Nk).isSome=true/\y.Nk.Np=d.Rw/\endR N y.Nk=d.To
def cz (ids:d_):Nat->Int
 | 0=>0
 | k + 1=>cz ids k + (if gd ids k 0=0 then 1 else 0)
def mins (N:Nq) (F:List Ng) (L:List Nt):Nat->Int
 | 0=>0
 | k + 1=>mins N F L k + minC N F (gd L k R0)
theorem FQ (ids:d_):∀k,0<=cz ids k/\cz ids k<=(k:Int)
 | 0=>by simp [cz]
 | k + 1=>by
  have:=FQ ids k
  rw[cz]
  split <;> omega
theorem Dx (ids:d_) (v:Int) (e:Nat):∀k,k<=e->cz (ids.set e v) k=cz ids k
 | 0,_=>rfl
 | k + 1,h=>by
  have hg:gd (ids.set e v) k 0=gd ids k 0:=by rw[nL,if_neg (by omega)]
  rw[cz,cz,Dx ids v e k (by omega),hg]
theorem BK {ids:d_} {k:Nat} (h:gd ids k 0=0):ids.set k 0=ids:=by
 by_cases hk:k<ids.length
 · have e:=bv (0:Int) hk
   have:ids[k]=0:=by omega
   conv=>lhs; arg 3; rw[<-this]
   exact List.set_getElem_self hk
 · exact List.set_eq_of_length_le (by omega)
structure SvJ (p:Nh) (F:List Ng) (L:List Nt) (s:SvS) (k:Nat):Prop where
 z:∀j,k<=j->gd s.ids j 0=0
 a:∀j,j<k->gd s.ids j 0=0∨SatD p.Nq s.p (gd s.ids j 0) (gd L j R0)
 rel:s.p.Nz.filter (λx=>!(s.ids.any λi=>i==x.Id))=p.Nz
 bl:s.bl=cz s.ids k
 use:s.bl=0->(useL p.Nz:Int) + mins p.Nq F L k<=(useL s.p.Nz:Int)
theorem tX {ids:d_} {k:Nat} (h:gd ids k 0=0) {v w:Int} (hw:w≠0) (hv:v≠w):((ids.set k v).any λi=>i==w)=ids.any λi=>i==w:=by
 rw[Jf,IH,IH];constructor;rintro⟨x,hx,e⟩;rw[beq_iff_eq]at e;rcases J6 hx with hx | hx
 exact⟨x,hx,by rw[beq_iff_eq]; exact e⟩;exact absurd (hx.symm.trans e) hv;rintro⟨x,hx,e⟩;rw[beq_iff_eq]at e;obtain⟨j,hj,rfl⟩:=IF.1 hx;have hjk:k≠j:=by
  rintro rfl
  rw[bv (0:Int) hj]at h
  omega
 refine⟨(ids.set k v)[j]'(by rw[Io]; exact hj),IE _,?_⟩;rw[List.getElem_set_ne hjk,beq_iff_eq];exact e
theorem SvJ.step {p:Nh} {L:List Nt} {s:SvS} {k:Nat} (h:SvJ p F L s k) (hI:SvI p.Nq L s k) (hF:FmtF F) (hL:∀d∈L,DemF p.Nq d) (fit:Int) (hk:k<L.length):SvJ p F L (bN F L fit s k) (k + 1):=by
 have hd:DemF s.p.Nq (gd L k R0):=by rw[hI.net]; exact hL _ (aR R0 hk)
 have hz:=h.z k (IC _);have hkl:k<s.ids.length:=by rw[hI.len]; exact hk
 obtain⟨h1,h2,h3,h4⟩:=wF hI.ok hI.B hF hd fit;rcases h4 with ⟨e1,e2⟩ | ⟨hl,i1,i2,x,hx,-,e⟩
 · have es:bN F L fit s k=⟨s.p,s.ids,s.bl + 1⟩:=by
    unfold bN
    rw[e1,e2,if_pos rfl,BK hz]
   rw[es]
   refine⟨λj hj=>h.z j (by omega),λj hj=>?_,h.rel,?_,λhb=>?_⟩
   · by_cases hjk:j=k
     · exact .inl (by rw[hjk]; exact hz)
     · exact h.a j (by omega)
   · show s.bl + 1=cz s.ids (k + 1)
     rw[cz,if_pos hz,h.bl]
   · have:=hI.b0
     have hb:s.bl + 1=0:=hb
     omega
 · rw[e]at i1
   have i1:1<=fidS s.p.Nz 1:=i1
   have es:bN F L fit s k=⟨addP s.p (newL s.p x),s.ids.set k (fidS s.p.Nz 1),s.bl⟩:=by
    unfold bN
    rw[e,if_neg (by show fidS s.p.Nz 1≠0; omega)]
   have hnew:=oQ s.p.Nz 1 (gw hI.ok) (jC hI.ok)
   have hid1:=jC hI.ok
   obtain⟨x1,x2,x3,x4,x5⟩:=hx.ok hI.ok hd hl
   have hcost:=CQ hx
   rw[hI.net]at x3 x5 hcost
   rw[es]
   refine⟨λj hj=>?_,λj hj=>?_,?_,?_,λhb=>?_⟩
   · show gd (s.ids.set k _) j 0=0
     rw[nL,if_neg (by omega)]
     exact h.z j (by omega)
   · show gd (s.ids.set k _) j 0=0∨SatD _ _ (gd (s.ids.set k _) j 0) _
     rw[nL]
     by_cases hjk:k=j
     · rw[if_pos ⟨hjk,by omega⟩]
       subst hjk
       exact .inr ⟨i1,newL s.p x,gv.2 (.inl rfl),rfl,x3,x4,x5⟩
     · rw[if_neg (by omega)]
       rcases h.a j (by omega) with h5 | ⟨h5,y,hy,h6⟩
       · exact .inl h5
       · exact .inr ⟨h5,y,gv.2 (.inr hy),h6⟩
   · show (putL s.p.Nz (newL s.p x)).filter (λx=>!((s.ids.set k (fidS s.p.Nz 1)).any λi=>i==x.Id))=p.Nz
     have hx0:((s.ids.set k (fidS s.p.Nz 1)).any λi=>i==(newL s.p x).Id)=true:=by
      refine IH.2 ⟨fidS s.p.Nz 1,?_,by simp [newL]⟩
      exact IF.2 ⟨k,by rw[Io]; exact hkl,List.getElem_set_self _⟩
     have hot:∀y∈s.p.Nz,(!((s.ids.set k (fidS s.p.Nz 1)).any λi=>i==y.Id))=!(s.ids.any λi=>i==y.Id):=λy hy=>by
      rw[tX hz (by have:=hid1 y hy; omega) (λe=>hnew y hy e.symm)]
     unfold putL
     rw[List.filter_append,KE,hx0,if_neg (by decide),<-List.filter_append,IS,<-h.rel]
     exact List.filter_congr hot
   · show s.bl=cz (s.ids.set k (fidS s.p.Nz 1)) (k + 1)
     have hg:gd (s.ids.set k (fidS s.p.Nz 1)) k 0=fidS s.p.Nz 1:=by rw[nL,if_pos ⟨rfl,hkl⟩]
     rw[cz,Dx _ _ _ _ (IC _),hg,if_neg (by omega),h.bl]
     omega
   · have h7:=h.use hb
     show _<=((useL (putL s.p.Nz (newL s.p x)):Nat):Int)
     rw[BF,mins]
     have h8:minC p.Nq F (gd L k R0)<=(((newL s.p x).Nj.Pz.toNat * (newL s.p x).Nk.Nw.length:Nat):Int):=hcost
     generalize (newL s.p x).Nj.Pz.toNat * (newL s.p x).Nk.Nw.length=q at h8 ⊢
     omega
theorem wy {p:Nh} (hp:vR p=true) (F:List Ng) (L:List Nt):SvJ p F L (lP p L) 0:=by
 have hid1:=jC hp;refine⟨λj _=>?_,λj hj=>by omega,?_,rfl,λ_=>?_⟩;show gd (List.replicate L.length (0:Int)) j 0=0;unfold gd;rw[JX];split <;> rfl
 show p.Nz.filter (λx=>!((List.replicate L.length (0:Int)).any λi=>i==x.Id))=p.Nz;refine List.filter_eq_self.2 λx hx=>?_;have:=hid1 x hx;rw[IZ,Kx];intro i hi;rw[(List.mem_replicate.1 hi).2,beq_iff_eq];omega;show (useL p.Nz:Int) + 0<=(useL p.Nz:Int);omega
theorem wz {p:Nh} (hp:vR p=true) (hB:bB p) {F:List Ng} (hF:FmtF F) {L:List Nt} (hL:∀d∈L,DemF p.Nq d) (fit:Int):∀k,k<=L.length->SvI p.Nq L (qP p F L fit (List.range k)) k/\SvJ p F L (qP p F L fit (List.range k)) k
 | 0,_=>⟨lO hp hB L,wy hp F L⟩
 | k + 1,h=>by
  obtain⟨h1,h2⟩:=wz hp hB hF hL fit k (by omega)
  unfold qP at h1 h2 ⊢
  rw[List.range_succ,List.foldl_append]
  exact⟨h1.step hF hL fit (by omega),h2.step h1 hF hL fit (by omega)⟩
end
section
theorem Er {L:List Nx} (h:L.Pairwise λa b=>a.Id<b.Id) {x y:Nx} (hx:x∈L) (hy:y∈L) (e:x.Id=y.Id):x=y:=by
 obtain⟨i,hi,rfl⟩:=IF.1 hx;obtain⟨j,hj,rfl⟩:=IF.1 hy;rw[Jt]at h;rcases Nat.lt_trichotomy i j with hij | rfl | hij
 have:=h i j hi hj hij; omega;rfl;have:=h j i hj hi hij; omega
variable {fu:Nat}
theorem Ap (hfu:2097153<=fu) {q:Nh} (hq:vR q=true) (hB:bB q) {y:Nx} (hy:y∈q.Nz):∃k:Nat,zQ fu q y.Id=some ((k:Int),true)/\V_ q.Nz (k:Int)=some y:=by
 have hh:has_ q y.Id=true:=IH.2 ⟨y,hy,by simp⟩;refine⟨atId q.Nz y.Id,?_,?_⟩;rw[nf hfu q y.Id hB,if_pos ⟨hq,hh⟩];rw[yb l0 (mL hh)];congr 1;exact Er (gw hq) (aR l0 (mL hh)) hy (kB hh)
theorem nI {fu:Nat} (hfu:2097153<=fu) {p:Nh} {F:List Ng} {L:List Nt} {fit:Int} (hnet:cO p.Nq=true) (hN:NetB p.Nq) {q:Nh} {ids:d_} {bl:Int} {b:Bool} (hq:vR q=true) (hB:bB q) (hlen:ids.length=L.length) (hl:L.length<=12) (ha:∀j,j<L.length->gd ids j 0=0∨SatD p.Nq q (gd ids j 0) (gd L j R0)) :
 ∀(fk i:Nat),i<=ids.length->ids.length - i<fk->∃z,xH fu (p,F,L,fit) (⟨q,ids,bl⟩,b) fk (cz ids i) i=some (.next (cz ids ids.length,z))
 | 0,i,hi,hf=>by omega
 | fk + 1,i,hi,hf=>by
  rw[xH]
  dsimp only
  by_cases h:i<ids.length
  · have hcz:=FQ ids i
    have hcs:cz ids (i + 1)=cz ids i + (if gd ids i 0=0 then 1 else 0):=rfl
    obtain⟨z,hz⟩:=nI hfu hnet hN (fit:=fit) (F:=F) (bl:=bl) (b:=b) hq hB hlen hl ha fk (i + 1) h (by omega)
    refine⟨z,?_⟩
    rw[if_pos (by simpa using h),yb 0 h,Ik,vP h (by omega)]
    by_cases h0:gd ids i 0=0
    · rw[if_pos h0]at hcs
      rw[h0,if_pos (by decide),uZ (by omega) (by omega),<-hcs]
      exact hz
    · rw[if_neg h0,LD]at hcs
      rcases ha i (by omega) with hx | ⟨g1,y,hy,g2,g3,g4,g5⟩
      · exact absurd hx h0
      obtain⟨k,k1,k2⟩:=Ap hfu hq hB hy
      obtain⟨o,ho⟩:=Ke.1 g3
      have hol:=j5 ho
      have hsh:=((iU hq).light y hy).short
      have hrn:cc fu p.Nq y.Nk=some (o,true):=by
       unfold cc
       rw[iJ hfu _ hN,hnet,Ik,if_neg (by decide),nu hfu _ _ hN.2 hN.1.1 (by omega),ho]
       rfl
      have hend:gl o=(gd L i R0).To:=by
       unfold endR at g5
       rw[ho]at g5
       exact g5
      have hiL:i<L.length:=by omega
      have hil:V_ o (y_ ((o.length:Int) - 1))=some (gl o):=oM (by omega) (by omega)
      rw[if_neg (by simpa using h0),Ik,<-g2,k1,Ik,if_neg (by simp)]
      dsimp only
      rw[k2,Ik,hrn,Ik,if_neg (by simp),pM ho,Ik,yb R0 hiL,Ik,g4,if_neg (by simp),hil,Ik,Ik,Ik,hend,if_neg (by simp),<-hcs]
      exact hz
  · have e:i=ids.length:=by omega
    subst e
    rw[if_neg (by simp)]
    exact⟨_,rfl⟩
theorem Do {fu:Nat} (q:Nh) (ids:d_) (bl:Int) (hf:ids.length<fu) (hf2:ids.length<=2097152):∀(D:List Nx),delO (λa (_:Unit)=>(yQ fu a ⟨q,ids,bl⟩).map λb=>(b,())) D ()=some (D.filter λx=>!(ids.any λi=>i==x.Id),())
 | []=>rfl
 | x::D=>by
  unfold delO
  have hx:yQ fu x ⟨q,ids,bl⟩=some (ids.any λi=>i==x.Id):=by
   unfold yQ;dsimp only;rw[iv ids x.Id hf hf2]; rfl
  rw[hx,KQ,Ik,Do q ids bl hf hf2 D,Ik,KE]
  cases ids.any λi=>i==x.Id <;> rfl
theorem tf (hfu:2097153<=fu) {q:Nh} {ids:d_} {bl:Int} (hq:vR q=true) (hB:bB q) (hl:ids.length<=100) (ha:∀id∈ids,id=0∨∃y∈q.Nz,y.Id=id):aK fu ⟨q,ids,bl⟩=some (⟨q.Nq,q.Nz.filter λx=>!(ids.any λi=>i==x.Id)⟩,true):=by
 have h12:=(x7.1 hq).2.1;have hc1:∀id,am fu id ⟨q,ids,bl⟩=some ((id != 0)&&!(q.Nz.any λy=>y.Id==id)):=λid=>by
  unfold am
  by_cases h0:id=0
  · subst h0; rfl
  · have e:(id != 0)=true:=by simpa using h0
    dsimp only
    rw[e,if_pos rfl,ka q id (by omega) (by omega),Ik,Ik,Jq]
    cases q.Nz.any λy=>y.Id==id
    · rfl
    · rw[if_pos rfl]
      simp
 have hcf:vc fu ids ⟨q,ids,bl⟩=some false:=by
  unfold vc vz
  rw[yh (l:=ids) (G:=uP fu ids ⟨q,ids,bl⟩) (λid=>(id != 0)&&!(q.Nz.any λy=>y.Id==id)) (λi=>(i:Int)) (by omega)
   (λfk i hi=>by rw[uP,if_pos (by simpa using hi),vw hi,Ik,hc1]; rfl)
   (λfk=>by rw[uP,if_neg (by simp)]) fu (by omega)]
  have e:(ids.any λid=>(id != 0)&&!(q.Nz.any λy=>y.Id==id))=false:=by
   rw[Kx]
   intro id hid
   rcases ha id hid with h | ⟨y,hy,h⟩
   · subst h; simp
   · have:(q.Nz.any λy=>y.Id==id)=true:=IH.2 ⟨y,hy,by simpa using h⟩
     rw[this]; simp
  rw[e,if_neg (by decide)]
  rfl
 unfold aK;dsimp only;rw[eX hfu q hB,hq,Ik,if_neg (by decide),hcf,Ik,Ik,if_neg (by decide),eZ hfu q hB,Ik];unfold vp CN;rw[Do q ids bl (by omega) (by omega) q.Nz];rfl
theorem CP {c:Pg} (h1:0<=c.count/\c.count<=24) (h2:c.route.Nw.length<=100):xD fu c=some (jm c):=by
 have:=oT h1 h2;unfold xD;unfold jm at this ⊢;rw[uZ (by omega) (by omega)]
theorem rr (hfu:4194306<=fu) {n:Nq} (hnet:cO n=true) (hB:NetB n) {F:List Ng} (hok:eY F=true) {d:Nt} (hd:dm n d=true):(∃c,ce fu n F d=some (c,false))∨(gO n d/\∃c t,srtC (Z1 n F d)=c::t/\ce fu n F d=some (c,true)/\xD fu c=some (minC n F d)):=by
 unfold ce;rw[pt (by omega) hnet hB hok hd,Ik];by_cases h:(M0 n d.Rw d.To).length<=200;have hul:=qM (n:=n) (F:=F) (d:=d);have hm:∀c∈Z1 n F d,ChB n d c:=λc hc=>lL (netF hnet) (fmtF hok) (demF hd) hc;rw[if_pos h,if_neg (by simp)];dsimp only;cases hu:Z1 n F d with
 | nil=>exact .inl ⟨_,by rw[Ik,if_pos (by simp)]⟩
 | cons a t =>
  have hs:srtC (Z1 n F d)≠[]:=λe=>by
   have:=(dS (Z1 n F d)).length_eq
   rw[e,hu]at this
   simp at this
  rw[<-hu]
  cases hsr:srtC (Z1 n F d) with
  | nil=>exact absurd hsr hs
  | cons c t2 =>
   have hc:c∈Z1 n F d:=(dS _).mem_iff.1 (by rw[hsr]; exact IK ..)
   have hb:=hm c hc
   have b1:=hb.c1
   have b2:=hb.c2
   have b3:=hb.rb.short
   refine .inr ⟨h,c,t2,rfl,?_,?_⟩
   · have hne:(((Z1 n F d).length:Int)==0)=false:=by rw[hu]; simp; omega
     rw[Ik,hne,if_neg (by decide),qB hfu (λc hc=>⟨⟨by have:=(hm c hc).c1; omega,(hm c hc).c2⟩,by have:=(hm c hc).rb.short; omega⟩) (by omega),Ik,hsr]
     rfl
   · rw[CP ⟨by omega,b2⟩ (by omega)]
     unfold minC
     rw[hsr]
 rw[if_neg h];exact .inl ⟨_,rfl⟩
theorem nN {fu:Nat} (hfu:4194306<=fu) {n:Nq} (hnet:cO n=true) (hB:NetB n) {F:List Ng} (hok:eY F=true) {L:List Nt} (hL:∀d∈L,dm n d=true) (hl:L.length<=1000):∀(fk i:Nat) (out:d_),i<=L.length->L.length - i<fk->out.length<=i ->
 yM fu n F L fk out i=some (.ret ([],false))∨∃z,yM fu n F L fk out i=some (.next (out++(L.drop i).map (minC n F),z))
 | 0,i,out,hi,hf,ho=>by omega
 | fk + 1,i,out,hi,hf,ho=>by
  rw[yM]
  by_cases h:i<L.length
  · rw[if_pos (by simpa using h),vw h,Ik]
    rcases rr hfu hnet hB hok (hL _ (IE h)) with ⟨c,hc⟩ | ⟨-,c,t,-,hc,hcc⟩
    · rw[hc]; exact .inl rfl
    · rw[hc,Ik,if_neg (by simp)]
      dsimp only
      rw[hcc,Ik,yN (by simp; omega),Ik,vP h (by omega)]
      rcases nN hfu hnet hB hok hL hl fk (i + 1) (out++[minC n F L[i]]) h (by omega) (by simp; omega) with g | ⟨z,g⟩
      · exact .inl g
      · refine .inr ⟨z,?_⟩
        rw[g,<-IB h,Je,Ir]
        rfl
  · have e:i=L.length:=by omega
    subst e
    rw[if_neg (by simp),IX,Ka,II]
    exact .inr ⟨_,rfl⟩
theorem Ay {N:Nq} (hn:NetF N) {F:List Ng} (hF:FmtF F) {L:List Nt} (hL:∀d∈L,DemF N d):∀k,k<=L.length->0<=mins N F L k/\mins N F L k<=2400 * (k:Int)
 | 0,_=>by simp [mins]
 | k + 1,h=>by
  have h1:=Ay hn hF hL k (by omega)
  have h2:=Ej hn hF (hL _ (aR R0 (show k<L.length by omega)))
  rw[mins]
  omega
theorem rJ {fu:Nat} {N:Nq} (hn:NetF N) {F:List Ng} (hF:FmtF F) {L:List Nt} (hL:∀d∈L,DemF N d) (hl:L.length<=1000):∀(fk i:Nat),i<=L.length->L.length - i<fk->∃z,yi fu (L.map (minC N F)) fk (mins N F L i) i=some (mins N F L L.length,z)
 | 0,i,hi,hf=>by omega
 | fk + 1,i,hi,hf=>by
  rw[yi]
  by_cases h:i<L.length
  · have h1:=Ay hn hF hL (i + 1) h
    have hm:i<(L.map (minC N F)).length:=by rw[I5]; exact h
    obtain⟨z,hz⟩:=rJ hn hF hL hl fk (i + 1) h (by omega)
    refine⟨z,?_⟩
    have e:mins N F L i + minC N F L[i]=mins N F L (i + 1):=by rw[mins,bv R0 h]
    rw[if_pos (by simpa using h),vw hm,Ik,J9,e,uZ (by omega) (by omega),vP hm (by rw[I5]; omega)]
    exact hz
  · have e:i=L.length:=by omega
    subst e
    rw[if_neg (by simp)]
    exact⟨_,rfl⟩
theorem C5 (hfu:4194306<=fu) {n:Nq} (hB:NetB n) {F:List Ng} (hok:eY F=true) {L:List Nt} (hL:iu n L=true):∃c b,cy fu n F L=some (c,b)/\(b=true->c=mins n F L L.length):=by
 obtain⟨hnet,h12,hd⟩:=Ey hL;have hF:=fmtF hok;have h6:=hF.len;unfold cy fq;rw[iK (by omega) F (by omega),hok,Ik,if_neg (by decide),jj (by omega) n L hB (by omega),hL,Ik,Ik,if_neg (by decide)];rcases nN (fu:=fu) hfu hnet hB hok hd (by omega) fu 0 [] (by omega) (by omega) (by simp) with g | ⟨z,g⟩
 rw[show ((0:Nat):Int)=0 from rfl]at g;rw[g,Ik];obtain⟨fk,rfl⟩:∃fk,fu=fk + 1:=⟨fu - 1,by omega⟩;refine⟨0,false,?_,λh=>by cases h⟩
 unfold dY;rw[Out.on,Ik,yi,if_neg (by simp)];rfl;rw[show ((0:Nat):Int)=0 from rfl,IR,IY]at g;rw[g,Ik];obtain⟨z2,g2⟩:=rJ (fu:=fu) (netF hnet) hF (λd h=>demF (hd d h)) (by omega) fu 0 (by omega) (by omega);rw[show ((0:Nat):Int)=0 from rfl]at g2;have g3:yi fu (L.map (minC n F)) fu 0 0=some (mins n F L L.length,z2):=g2;refine⟨mins n F L L.length,true,?_,λ_=>rfl⟩;unfold dY;rw[Out.on,Ik,g3];rfl
theorem wt {p:Nh} (hp:vR p=true):useL p.Nz<=2016:=by
 have hF:=iU hp;have h12:=hF.short;have:=C9 (l:=p.Nz) (f:=λy=>y.Nj.Pz.toNat * y.Nk.Nw.length) (B:=168) λy hy=>by
  have h1:=(hF.light y hy).short
  have h2:=(hF.light y hy).blk
  simp only[yD,Iw,decide_eq_true_eq]at h2
  exact Lc (show y.Nj.Pz.toNat<=24 by omega) h1
 unfold useL;omega
end
section
abbrev Gu:=Nat->List Ng->Int->List By->Int->U64->Option (List Ng×Int×List By×Int×U64)
variable {fu:Nat}
theorem AZ (G:Gu) (hG:∀fk l k m m2 m3,G (fk + 1) l k m m2 m3=(ul fu (⟨m,m2,m3⟩:Nd) 2).bind λy7 =>
 if decide ((l.length:Int)<(y_ (6 + y7.1))) then (C_ l [({ Reach:=y_ (200 - (y_ (10 * k))),Ph:=y_ (90 + k) }:Ng)]).bind λl3=>G fk l3 (y_ (k + 1)) y7.2.code y7.2.at_ y7.2.seed
 else some (l,k,y7.2.code,y7.2.at_,y7.2.seed)):∀(fk:Nat) (l:List Ng) (j:Int) (b:List By) (a:Int) (s:U64) (k B:Int),Cur ⟨b,a,s⟩ k->l.length<=7->8 - l.length<fk->k + 2 * ((8 - l.length:Nat):Int)<=B->B<=800000000 ->
 ∃l' j' b' a' s',G fk l j b a s=some (l',j',b',a',s')/\l'.length<=7/\Cur ⟨b',a',s'⟩ B:=by
 intro fk
 induction fk with
 | zero=>intro l _ _ _ _ _ _ _ _ h; omega
 | succ fk ih =>
  intro l j b a s k B hc hl hf hk hB
  rw[hG]
  obtain⟨r1,c1,g1,p0,p1,k1⟩:=vD (fu:=fu) hc (by omega) 2 (by decide)
  have p2:=p1 (by decide)
  have e:y_ (6 + r1)=6 + r1:=uZ (by omega) (by omega)
  rw[g1,Ik]
  dsimp only
  rw[e]
  by_cases h:(l.length:Int)<6 + r1
  · rw[if_pos (by simpa using h),app1 (by omega),Ik]
    exact ih _ _ _ _ _ (k + 2) B k1 (by simp; omega) (by simp; omega) (by simp; omega) hB
  · rw[if_neg (by simpa using h)]
    exact⟨_,_,_,_,_,rfl,hl,k1.mono (by omega)⟩
theorem mA (hfu:2097153<=fu) (G:Gu) (hG:∀fk l k m m2 m3,G (fk + 1) l k m m2 m3=(ul fu (⟨m,m2,m3⟩:Nd) 2).bind λy7 =>
 if decide ((l.length:Int)<(y_ (6 + y7.1))) then (C_ l [({ Reach:=y_ (200 - (y_ (10 * k))),Ph:=y_ (90 + k) }:Ng)]).bind λl3=>G fk l3 (y_ (k + 1)) y7.2.code y7.2.at_ y7.2.seed
 else some (l,k,y7.2.code,y7.2.at_,y7.2.seed)) {l:List Ng} (h1:1<=l.length) (h4:l.length<=4) {c:Nd} {k:Int} (hc:Cur c k) (hk:k<=700000000) :
 ∃F c',((ul fu c (l.length:Int)).bind λy3 =>
 (V_ l y3.1).bind λe =>
 (ul fu y3.2 24).bind λy4 =>
 (if y4.1==0 then
   (vg fu y4.2 [0,20000,20001,250]).bind λy5 =>
   some (.next (y5.1,y5.2.code,y5.2.at_,y5.2.seed,e.Ph))
 else
  if y4.1==1 then
   (vg fu y4.2 [0,1000,1001,10]).bind λy6 =>
   some (.next (e.Reach,y6.2.code,y6.2.at_,y6.2.seed,y6.1))
  else
   if y4.1==2 then
    some (.ret (([]:List Ng),y4.2))
   else
    if y4.1==3 then
     (G fu l 0 y4.2.code y4.2.at_ y4.2.seed).bind λz =>
     some (.ret (z.1,(⟨z.2.2.1,z.2.2.2.1,z.2.2.2.2⟩:Nd)))
    else
     some (.next (e.Reach,y4.2.code,y4.2.at_,y4.2.seed,e.Ph)):Option (Out (Int×List By×Int×U64×Int) (List Ng×Nd))).bind λout=>out.on some λz2 =>
 (V_ l y3.1).bind λe2 =>
 some (l.set (y3.1:Int).toNat ({ Reach:=z2.1,Ph:=z2.2.2.2.2 }:Ng),(⟨z2.2.1,z2.2.2.1,z2.2.2.2.1⟩:Nd)))=some (F,c')/\F.length<=7/\Cur c' (k + 50):=by
 obtain⟨r,c1,g1,p0,p1,k1⟩:=vD (fu:=fu) hc (by omega) (l.length:Int) (by omega)
 have p2:=p1 (by omega)
 obtain⟨e,he,-⟩:=an (l:=l) (i:=r) p0 p2
 obtain⟨r2,c2,g2,-,-,k2⟩:=vD (fu:=fu) k1 (by omega) 24 (by decide)
 obtain⟨r3,c3,g3,-,k3⟩:=dp (fu:=fu) k2 (by omega) [0,20000,20001,250] (by decide) (by decide)
 obtain⟨r4,c4,g4,-,k4⟩:=dp (fu:=fu) k2 (by omega) [0,1000,1001,10] (by decide) (by decide)
 obtain⟨l',j',b',a',s',g5,h5,k5⟩:=AZ G hG fu l 0 c2.code c2.at_ c2.seed (k + 2 + 2) (k + 50) k2 (by omega) (by omega) (by omega) (by omega)
 rw[g1,Ik]
 dsimp only
 rw[he,Ik,g2,Ik]
 dsimp only
 rw[g3,g4,g5]
 simp only[Ik,rh,Out.on,he]
 split
 exact⟨_,_,rfl,by rw[Io]; omega,k3.mono (by omega)⟩
 split
 exact⟨_,_,rfl,by rw[Io]; omega,k4.mono (by omega)⟩
 split
 exact⟨_,_,rfl,by simp,k2.mono (by omega)⟩
 split
 exact⟨_,_,rfl,h5,k5⟩
 exact⟨_,_,rfl,by rw[Io]; omega,k2.mono (by omega)⟩
theorem tE (hfu:2097153<=fu) {c:Nd} {k:Int} (hc:Cur c k) (hk:k<=600000000):∃F c',zX fu c=some (F,c')/\F.length<=7/\Cur c' (k + 100):=by
 unfold zX;obtain⟨r,c1,g1,p0,p1,k1⟩:=vD (fu:=fu) hc (by omega) 4 (by decide);have p2:=p1 (by decide);obtain⟨i,hi⟩:∃i:Nat,(i:Int)=1 + r:=⟨(1 + r).toNat,by omega⟩;have e:y_ (1 + r)=(i:Int):=by rw[uZ (by omega) (by omega)]; omega
 rw[g1,Ik];dsimp only;generalize hl0:[({ Reach:=3000,Ph:=10 }:Ng),({ Reach:=1200,Ph:=20 }:Ng),({ Reach:=600,Ph:=40 }:Ng),({ Reach:=250,Ph:=80 }:Ng)]=l0;have hl:l0.length=4:=by rw[<-hl0]; rfl
 have hs:sub l0 0 (y_ (1 + r))=some (l0.take i):=by
  rw[e]
  unfold sub
  rw[if_pos (by omega)]
  simp
 have hti:(l0.take i).length=i:=by rw[Is]; omega
 rw[hs,Ik];obtain⟨r2,c2,g2,k2⟩:=Ao (fu:=fu) k1 (by omega) 3 (by decide);rw[g2,Ik];dsimp only;have e1:∀fk l k m m2 m3,vm fu (fk + 1) l k m m2 m3=(ul fu (⟨m,m2,m3⟩:Nd) 2).bind λy7 =>
  if decide ((l.length:Int)<(y_ (6 + y7.1))) then (C_ l [({ Reach:=y_ (200 - (y_ (10 * k))),Ph:=y_ (90 + k) }:Ng)]).bind λl3=>vm fu fk l3 (y_ (k + 1)) y7.2.code y7.2.at_ y7.2.seed
  else some (l,k,y7.2.code,y7.2.at_,y7.2.seed):=λfk l k m m2 m3=>by rw[vm]
 cases r2 with
 | false =>
  rw[if_neg I9,Ik,if_neg I9,Ik]
  obtain⟨F,c',g,h,hk'⟩:=mA hfu (vm fu) e1 (l:=l0.take i) (by omega) (by omega) k2 (by omega)
  exact⟨F,c',g,h,hk'.mono (by omega)⟩
 | true =>
  rw[if_pos rfl,Ik]
  by_cases h:((l0.take i).length:Int) > 1
  · rw[if_pos (by simpa using h)]
    have hd:sub (l0.take i) 1 ((l0.take i).length:Int)=some ((l0.take i).drop 1):=by
     unfold sub
     rw[if_pos (by omega),IQ,KG]
     rfl
    rw[hd,Ik,Ik]
    have hdl:((l0.take i).drop 1).length=i - 1:=by rw[IT,hti]
    obtain⟨F,c',g,h,hk'⟩:=mA hfu (vm fu) e1 (l:=(l0.take i).drop 1) (by omega) (by omega) k2 (by omega)
    exact⟨F,c',g,h,hk'.mono (by omega)⟩
  · rw[if_neg (by simpa using h),Ik]
    obtain⟨F,c',g,h,hk'⟩:=mA hfu (vm fu) e1 (l:=l0.take i) (by omega) (by omega) k2 (by omega)
    exact⟨F,c',g,h,hk'.mono (by omega)⟩
theorem Bg {c:Nd} {k:Int} (hc:Cur c k) (hk:k<=700000000) {n:Nq} (h1:1<=n.Nv.length) (h2:n.Nv.length<=1000):∃d c',aH fu c n=some (d,c')/\Cur c' (k + 12):=by
 unfold aH;have ew:y_ ((n.Nv.length:Int) - 1)=(n.Nv.length:Int) - 1:=uZ (by omega) (by omega);obtain⟨r,c1,g1,p0,p1,k1⟩:=vD (fu:=fu) hc (by omega) (n.Nv.length:Int) (by omega);obtain⟨r2,c2,g2,q0,q1,k2⟩:=vD (fu:=fu) k1 (by omega) ((n.Nv.length:Int) - 1) (by omega);obtain⟨q,hq⟩:∃q,rem (y_ ((y_ (r + 1)) + r2)) (n.Nv.length:Int)=some q:=by
  unfold rem
  rw[if_neg (by omega)]
  exact⟨_,rfl⟩
 obtain⟨r3,c3,g3,-,k3⟩:=dp (fu:=fu) k2 (by omega) [10,20,40,50,90,120] (by decide) (by decide);obtain⟨r4,c4,g4,-,-,k4⟩:=vD (fu:=fu) k3 (by omega) 3 (by decide);obtain⟨r5,c5,g5,-,-,k5⟩:=vD (fu:=fu) k4 (by omega) 48 (by decide);obtain⟨r6,c6,g6,-,-,k6⟩:=vD (fu:=fu) k5 (by omega) 10 (by decide);obtain⟨r7,c7,g7,-,k7⟩:=dp (fu:=fu) k5 (by omega) [0,1,1000,1001] (by decide) (by decide);obtain⟨r8,c8,g8,-,k8⟩:=dp (fu:=fu) k5 (by omega) [(-1),3] (by decide) (by decide);simp only[g1,ew,g2,hq,g3,g4,g5,g6,g7,g8,Ik];split
 exact⟨_,_,rfl,k6.mono (by omega)⟩;split
 exact⟨_,_,rfl,k7.mono (by omega)⟩;split
 exact⟨_,_,rfl,k8.mono (by omega)⟩;exact⟨_,_,rfl,k5.mono (by omega)⟩
theorem tK {n:Nq} (h1:1<=n.Nv.length) (h2:n.Nv.length<=1000):∀(fk j:Nat) (l:List Nt) (b:List By) (a:Int) (s:U64) (k B:Int),Cur ⟨b,a,s⟩ k->j<=5->j<fk->l.length + j<=5->k + 12 * (j:Int)<=B->B<=700000000 ->
 ∃l' j' b' a' s',xw fu n fk l (j:Int) b a s=some (l',j',b',a',s')/\l'.length<=5/\Cur ⟨b',a',s'⟩ B:=by
 intro fk;induction fk with
 | zero=>intro j _ _ _ _ _ _ _ _ h; omega
 | succ fk ih =>
  intro j l b a s k B hc hj hf hl hk hB
  rw[xw]
  by_cases h:(j:Int) > 0
  · obtain⟨d,c1,g1,k1⟩:=Bg (fu:=fu) hc (by omega) h1 h2
    have e:y_ ((j:Int) - 1)=((j - 1:Nat):Int):=by rw[uZ (by omega) (by omega)]; omega
    rw[if_pos (by simpa using h),g1,Ik]
    dsimp only
    rw[app1 (by omega),Ik,e]
    exact ih (j - 1) _ _ _ _ (k + 12) B k1 (by omega) (by omega) (by simp; omega) (by omega) hB
  · rw[if_neg (by simpa using h)]
    exact⟨_,_,_,_,_,rfl,by omega,hc.mono (by omega)⟩
theorem tJ:∀(fk:Nat) (l:List Nt) (b:List By) (a:Int) (s:U64) (k B:Int),Cur ⟨b,a,s⟩ k->l.length<=13->14 - l.length<fk->k + 2 * ((14 - l.length:Nat):Int)<=B->B<=800000000 ->
 ∃l' b' a' s',xv fu fk l b a s=some (l',b',a',s')/\l'.length<=13/\Cur ⟨b',a',s'⟩ B:=by
 intro fk;induction fk with
 | zero=>intro l _ _ _ _ _ _ _ h; omega
 | succ fk ih =>
  intro l b a s k B hc hl hf hk hB
  rw[xv]
  obtain⟨r1,c1,g1,p0,p1,k1⟩:=vD (fu:=fu) hc (by omega) 2 (by decide)
  have p2:=p1 (by decide)
  have e:y_ (12 + r1)=12 + r1:=uZ (by omega) (by omega)
  rw[g1,Ik]
  dsimp only
  rw[e]
  by_cases h:(l.length:Int)<12 + r1
  · rw[if_pos (by simpa using h),app1 (by omega),Ik]
    exact ih _ _ _ _ (k + 2) B k1 (by simp; omega) (by simp; omega) (by simp; omega) hB
  · rw[if_neg (by simpa using h)]
    exact⟨_,_,_,_,rfl,hl,k1.mono (by omega)⟩
theorem tI (hfu:2097153<=fu) {c:Nd} {k:Int} (hc:Cur c k) (hk:k<=600000000) {n:Nq} (h1:1<=n.Nv.length) (h2:n.Nv.length<=1000):∃L c',zY fu c n=some (L,c')/\L.length<=13/\Cur c' (k + 200):=by
 unfold zY;obtain⟨r,c1,g1,p0,p1,k1⟩:=vD (fu:=fu) hc (by omega) 6 (by decide);have p2:=p1 (by decide);obtain⟨l',j',b',a',s',g2,h3,k2⟩:=tK (fu:=fu) h1 h2 fu r.toNat [] c1.code c1.at_ c1.seed (k + 2) (k + 100) k1 (by omega) (by omega) (by simp; omega) (by omega) (by omega);rw[Jk p0]at g2;rw[g1,Ik];dsimp only;rw[g2,Ik];dsimp only;obtain⟨r2,c2,g3,k3⟩:=Ao (fu:=fu) k2 (by omega) 24 (by decide);rw[g3,Ik];dsimp only;cases r2 with
 | false=>exact⟨_,_,rfl,by omega,k3.mono (by omega)⟩
 | true =>
  obtain⟨l2,b2,a2,s2,g4,h4,k4⟩:=tJ (fu:=fu) fu l' c2.code c2.at_ c2.seed (k + 100 + 2) (k + 200) k3 (by omega) (by omega) (by omega) (by omega)
  rw[if_pos rfl,g4]
  exact⟨_,_,rfl,h4,k4⟩
theorem FP {c:Nd} {k:Int} (hc:Cur c k) (hk:k<=600000000):∃f c',cn fu c=some (f,c')/\Cur c' (k + 2):=by
 unfold cn;obtain⟨r,c1,g1,-,k1⟩:=dp (fu:=fu) hc (by omega) [1,2,3,1,2,3,1,0,4] (by decide) (by decide);rw[g1];exact⟨_,_,rfl,k1⟩
end
end AT
namespace AT
theorem Bf {fu:Nat} (hfu:2097153<=fu) {x:List By} (hc:Cur ⟨x,0,⟨0⟩⟩ 0):∃p F L fit,aI fu x=some (p,F,L,fit)/\bB p/\F.length<=7/\L.length<=13:=by
 obtain⟨p,c1,g1,h1,k1⟩:=tY hfu hc (by omega);obtain⟨F,c2,g2,h2,k2⟩:=tE hfu k1 (by omega);obtain⟨L,c3,g3,h3,k3⟩:=tI hfu k2 (by omega) (n:=p.Nq) h1.net.n1 (by have:=h1.net.n2; omega);obtain⟨f,c4,g4,-⟩:=FP (fu:=fu) k3 (by omega);refine⟨p,F,L,f,?_,h1.B,h2,h3⟩;unfold aI;rw[g1,Ik];dsimp only;rw[g2,Ik];dsimp only;rw[g3,Ik];dsimp only;rw[g4];rfl
theorem nr (x0:List By) (o0:Dr x0):∃fu,dN fu x0=some true:=by
 obtain⟨fu,hfu4⟩:∃fu,4194306<=fu:=⟨4194306,IC _⟩;have hfu:2097153<=fu:=by omega
 refine⟨fu,?_⟩;unfold dN jH;by_cases hb:(x0.length:Int) > 65536
 · simp only[hb,decide_true,Ik,if_true]
 simp only[hb,decide_false,Ik,Iy,if_false];have hc:Cur ⟨x0,0,⟨0⟩⟩ 0:=wE o0.1 (by omega);obtain⟨p,F,L,fit,g1,hB,hF7,hL13⟩:=Bf hfu hc;rw[g1,Ik];dsimp only;obtain⟨e1,e2⟩:=qV hfu4 hB hF7 hL13 fit;rw[e1,e2,Ik,Ik];by_cases hs:kI p F L fit=true
 · rw[if_pos hs]
   obtain⟨hp,hok,hdm⟩:=Fe hs
   obtain⟨hnet,h12,hd⟩:=Ey hdm
   have hF:=fmtF hok
   have hdF:∀d∈L,DemF p.Nq d:=λd h=>demF (hd d h)
   obtain⟨hI,hJ⟩:=wz hp hB hF hdF fit L.length (IC _)
   unfold qO
   by_cases hr:∀e∈List.range L.length,gO p.Nq (gd L e R0)
   · rw[if_pos hr]
     generalize qP p F L fit (List.range L.length)=s at hI hJ ⊢
     obtain⟨q,ids,bl⟩:=s
     have hq:vR q=true:=hI.ok
     have hqN:q.Nq=p.Nq:=hI.net
     have hqB:bB q:=hI.B
     have hlen:ids.length=L.length:=hI.len
     have hbl:bl=cz ids L.length:=hJ.bl
     have hb0:0<=bl:=hI.b0
     have hrel:q.Nz.filter (λx=>!(ids.any λi=>i==x.Id))=p.Nz:=hJ.rel
     have huse:bl=0->(useL p.Nz:Int) + mins p.Nq F L L.length<=(useL q.Nz:Int):=hJ.use
     have ha:∀j,j<L.length->gd ids j 0=0∨SatD p.Nq q (gd ids j 0) (gd L j R0):=hJ.a
     dsimp only
     rw[if_neg (by simp),if_neg (by simp)]
     obtain⟨z,hz⟩:=nI (fu:=fu) hfu (p:=p) (F:=F) (fit:=fit) (bl:=bl) (b:=true) hnet hB.1 hq hqB hlen h12 ha fu 0 (by omega) (by omega)
     have hz':xH fu (p,F,L,fit) (⟨q,ids,bl⟩,true) fu 0 0=some (.next (cz ids ids.length,z)):=hz
     have hrl:aK fu ⟨q,ids,bl⟩=some (p,true):=by
      rw[tf hfu hq hqB (by omega) λid hid=>?_]
      · rw[hrel,hqN]
      · obtain⟨j,hj,rfl⟩:=IF.1 hid
        have e:=bv (0:Int) hj
        rcases ha j (by omega) with h | ⟨-,y,hy,h,-⟩
        · exact .inl (by omega)
        · exact .inr ⟨y,hy,by omega⟩
     rw[hz',Ik,Out.on,hrl,Ik,if_neg (by simp)]
     dsimp only
     rw[qK hfu p hB,Ik,if_neg (by decide),hlen,<-hbl,if_neg (by simp),if_neg (by simp),eX hfu q hqB,hq,Ik,Ik,if_neg (by decide)]
     obtain⟨c,b,hcb,hbb⟩:=C5 hfu4 hB.1 hok hdm
     obtain⟨a1,u1⟩:=nB hfu p hB
     obtain⟨a2,u2⟩:=nB hfu q hqB
     rw[if_pos hp]at u1
     rw[if_pos hq]at u2
     have u1':aQ fu p=some (((useL p.Nz:Nat):Int),a1,true):=u1
     have u2':aQ fu q=some (((useL q.Nz:Nat):Int),a2,true):=u2
     have l1:=wt hp
     have l2:=wt hq
     rw[hcb,Ik,u1',Ik,u2',Ik]
     dsimp only
     rw[uZ (by omega) (by omega)]
     by_cases hpos:bl > 0
     · rw[if_pos (by simpa using hpos)]; rfl
     · have h0:bl=0:=by omega
       have h1:=huse h0
       rw[if_neg (by simpa using hpos)]
       cases b with
       | false=>rfl
       | true =>
        have h2:=hbb rfl
        have h3:((useL q.Nz:Nat):Int) - ((useL p.Nz:Nat):Int)>=c:=by omega
        rw[if_neg (by decide),Ik,decide_eq_true h3]
   · rw[if_neg hr]
     rfl
 · rw[if_neg hs]
   rfl
end AT
