/- The masks of all fibers, the number of slots, plainly. -/
import Derived.Test.YtlemonjnolciiaaGreatQPop
set_option linter.unusedSimpArgs false
set_option linter.unusedVariables false
namespace AT
section
theorem CW {α:Type} {l:List α} {f:Int} (d:α) (h0:0<=f) (h1:f<(l.length:Int)):V_ l f=some (gd l f.toNat d):=by
 have:=xC (l:=l) (i:=f.toNat) d (by omega);rwa [HG h0]at this
def jt (b:Int) (o:d_) (f:Int):d_:=o.set f.toNat (Z1 (gd o f.toNat 0) b)
theorem js (b:Int):∀(fs:d_) (o:d_),(fs.foldl (jt b) o).length=o.length
 | [],o=>rfl
 | f::fs,o=>by rw[HO,js b fs]; simp [jt]
theorem AN (b:Int) (o:d_) (f:Int) (k:Nat) (hk:k<o.length):gd (jt b o f) k 0=if f.toNat=k then Z1 (gd o k 0) b else gd o k 0:=by
 unfold jt;generalize hv:Z1 (gd o f.toNat 0) b=v;by_cases h:f.toNat=k;subst h;rw[if_pos rfl,hv];clear hv;unfold gd;rw[List.getElem?_set_self hk,Jz];rw[if_neg h];unfold gd;rw[List.getElem?_set_ne h]
theorem AV (f:Int) (fs:d_) (k:Int):has (f::fs) k=(f==k||has fs k):=rfl
theorem AM (b:Int) (fs:d_):∀(o:d_) (k:Nat),fs.Nodup->(∀f∈fs,0<=f)->k<o.length->gd (fs.foldl (jt b) o) k 0=if has fs k=true then Z1 (gd o k 0) b else gd o k 0:=by
 induction fs with
 | nil =>
  intro o k _ _ _
  have h:has [] (k:Int)=false:=rfl
  rw[h,J4,if_neg HC]
 | cons f fs ih =>
  intro o k hn h0 hk
  have hn':=Ib.1 hn
  have hf:=h0 f Hp
  have hl:(jt b o f).length=o.length:=by unfold jt; rw[GK]
  rw[HO,ih (jt b o f) k hn'.2 (λx hx=>h0 x (Hs _ hx)) (by omega),AN b o f k hk,AV]
  by_cases h:f.toNat=k
  · have hk':f=(k:Int):=by omega
    have h1:has fs k=false:=by
     rw[G7]
     intro hc
     unfold has at hc
     obtain⟨x,hx,hc⟩:=G5.1 hc
     rw[beq_iff_eq]at hc
     exact hn'.1 (by rw[hk',<-hc]; exact hx)
    have h2:(f==(k:Int))=true:=by rw[beq_iff_eq]; exact hk'
    rw[h1,h2,if_pos h,if_neg HC,JX,if_pos rfl]
  · have hk':(f==(k:Int))=false:=by rw[beq_eq_false_iff_ne]; omega
    rw[hk',if_neg h,Ip]
theorem sf {fu:Nat} (e:Nx) (hb:yY e.Nj=true) (n:Nat) (hr:∀f∈e.Nz.Nw,0<=f/\f<(n:Int)) (hl:e.Nz.Nw.length<=2097152):∀(fk i:Nat) (o:d_),o.length=n->i<=e.Nz.Nw.length->e.Nz.Nw.length - i<fk ->
 ∃z,yq fu e fk o i=some ((e.Nz.Nw.drop i).foldl (jt (bits e.Nj)) o,z):=by
 intro fk;induction fk with
 | zero=>intro i _ _ _ h; omega
 | succ fk ih =>
  intro i o ho hi hk
  rw[yq]
  by_cases h:i<e.Nz.Nw.length
  · have h':(i:Int)<(e.Nz.Nw.length:Int):=by omega
    obtain⟨x,hx⟩:∃x,x=e.Nz.Nw[i]:=⟨_,rfl⟩
    have hr':=hr _ (GW h)
    rw[<-hx]at hr'
    rw[<-GU h,HO]
    simp only[h',decide_true,if_true,vP h,<-hx,GH,CW 0 hr'.1 (show x<(o.length:Int) by omega),lG hb,vV h (show (e.Nz.Nw.length:Int)<=9223372036854775807 by omega)]
    exact ih (i + 1) (jt (bits e.Nj) o x) (by simpa [jt] using ho) h (by omega)
  · obtain rfl:i=e.Nz.Nw.length:=by omega
    rw[if_neg (by simp),Hg]
    exact⟨_,rfl⟩
def jR (L:List Nx) (o:d_):d_:=L.foldl (λo e=>e.Nz.Nw.foldl (jt (bits e.Nj)) o) o
theorem i6:∀(L:List Nx) (o:d_),(jR L o).length=o.length
 | [],o=>rfl
 | e::L,o=>by
  have:=i6 L (e.Nz.Nw.foldl (jt (bits e.Nj)) o)
  unfold jR at this ⊢
  rw[HO,this,js]
theorem ni:∀(L:List Nx) (o:d_) (k:Nat),(∀e∈L,e.Nz.Nw.Nodup/\∀f∈e.Nz.Nw,0<=f)->k<o.length->gd (jR L o) k 0=L.foldl (λo y=>if has y.Nz.Nw k=true then Z1 o (bits y.Nj) else o) (gd o k 0)
 | [],o,k,_,_=>by unfold jR; rw[J4,J4]
 | e::L,o,k,h,hk=>by
  have he:=h e (by simp)
  have:=ni L (e.Nz.Nw.foldl (jt (bits e.Nj)) o) k (λx hx=>h x (by simp [hx])) (by rw[js]; exact hk)
  unfold jR at this ⊢
  rw[HO,HO,this,AM _ _ _ _ he.1 he.2 hk]
theorem sd {fu:Nat} (hfu:2097153<=fu) (p:Nh) (n:Nat) (hl:p.Nk.length<=2097152) (hb:∀e∈p.Nk,yY e.Nj=true) (hr:∀e∈p.Nk,∀f∈e.Nz.Nw,0<=f/\f<(n:Int)) (hs:∀e∈p.Nk,e.Nz.Nw.length<=2097152):∀(fk i:Nat) (o:d_),o.length=n->i<=p.Nk.length->p.Nk.length - i<fk ->
 ∃z,yr fu p fk o i=some (jR (p.Nk.drop i) o,z):=by
 intro fk;induction fk with
 | zero=>intro i _ _ _ h; omega
 | succ fk ih =>
  intro i o ho hi hk
  rw[yr]
  by_cases h:i<p.Nk.length
  · have h':(i:Int)<(p.Nk.length:Int):=by omega
    have hm:=GW h
    have hsm:=hs _ hm
    obtain⟨z,hz⟩:=sf (fu:=fu) p.Nk[i] (hb _ hm) n (hr _ hm) hsm fu 0 o ho (by omega) (by omega)
    rw[show ((0:Nat):Int)=0 from rfl,He]at hz
    simp only[h',decide_true,if_true,vP h,GH,hz,vV h (show (p.Nk.length:Int)<=9223372036854775807 by omega)]
    rw[<-GU h]
    exact ih (i + 1) _ (by rw[js]; exact ho) h (by omega)
  · obtain rfl:i=p.Nk.length:=by omega
    rw[if_neg (by simp),Hg]
    exact⟨_,rfl⟩
def se (L:List Nx) (n:Nat):d_:=(List.range n).map λf:Nat=>used L (f:Int)
theorem re {p:Nh} (hF:PlanF p):∀e∈p.Nk,∀f∈e.Nz.Nw,0<=f/\f<(p.Nq.Nw.length:Int):=λe he=>by
 obtain⟨o,ho⟩:=(hF.light e he).route
 exact tL ho
theorem ou {fu:Nat} (hfu:2097153<=fu) (p:Nh) (hB:cg p) (hF:PlanF p):bX fu p=some (se p.Nk p.Nq.Nw.length):=by
 have hn:=(netF hF.net).fib;unfold bX;rw[DT (show p.Nq.Nw.length<=2097152 by omega),GH];obtain⟨z,hz⟩:=sd hfu p p.Nq.Nw.length hB.2.1 (λe he=>(hF.light e he).blk) (re hF) hB.2.2 fu 0 (List.replicate p.Nq.Nw.length 0) (by simp) (by omega) (by have:=hB.2.1; omega);rw[show ((0:Nat):Int)=0 from rfl,He]at hz;rw[hz,GH];congr 1;apply IE;rw[i6]; simp [se];intro k h1 h2;rw[i6,IC]at h1;rw[<-aU 0,ni _ _ _ (λe he=>⟨(hF.light e he).nodup,λf hf=>(re hF e he f hf).1⟩) (by simpa using h1)];have:gd (List.replicate p.Nq.Nw.length (0:Int)) k 0=0:=by unfold gd; simp [h1]
 rw[this];simp [se,used]
end
section
variable {fu:Nat}
theorem q7 (m C:Int) (N:Nat) (hN:(N:Int) + C=25) (h1:1<=C):∀(fk k s:Nat) (out:d_),N=s + k->k<fk->out.length<=s ->
 ∃z,yf fu m C fk out s=some (out++(((List.range' s k).filter λt:Nat=>apart m (bits ⟨(t:Int),C⟩)).map λt:Nat=>(t:Int)),z):=by
 intro fk;induction fk with
 | zero=>intro k s _ _ h; omega
 | succ fk ih =>
  intro k s out hs hk ho
  have hw0:y_ ((s:Int) + C)=(s:Int) + C:=va (by omega) (by omega)
  rw[yf,hw0]
  clear hw0
  cases k with
  | zero =>
   have h':¬(s:Int) + C<=24:=by omega
   simp only[h',decide_false,GT,if_false,List.range'_zero,J0,IH,G8]
   exact⟨_,rfl⟩
  | succ k =>
   have h':(s:Int) + C<=24:=by omega
   have hb:yY ⟨(s:Int),C⟩=true:=by simp only[yY,GP,decide_eq_true_eq]; omega
   obtain⟨c,hc⟩:∃c,apart m (bits ⟨(s:Int),C⟩)=c:=⟨_,rfl⟩
   obtain⟨b,hb1,hb2⟩:∃b,bW fu ⟨(s:Int),C⟩=some b/\(band m b==0)=c:=⟨_,nP hb,hc⟩
   have hw:y_ ((s:Int) + 1)=((s + 1:Nat):Int):=by rw[va (by omega) (by omega)]; omega
   rw[List.range'_succ,Jx,hc,hb1]
   clear hb1 hc hb
   rw[if_pos (by simpa using h'),GH,hb2,hw]
   clear hw hb2
   cases c
   · rw[if_neg (by decide),if_neg (by decide)]
     exact ih k (s + 1) out (by omega) (by omega) (by omega)
   · have ha:M_ out [(s:Int)]=some (out++[(s:Int)]):=yw (by simp; omega)
     rw[if_pos rfl,if_pos rfl,ha,GH]
     obtain⟨z,hz⟩:=ih k (s + 1) (out++[(s:Int)]) (by omega) (by omega) (by simp; omega)
     exact⟨z,by rw[hz,HX,GN,HY]⟩
theorem qB (hfu:2097153<=fu) (m C:Int) (hm:MK m) (h1:1<=C) (h2:C<=24):dp fu m C=some (match (fits m C).head? with | some f=>(⟨f,C⟩,true) | none=>(⟨0,0⟩,false)):=by
 unfold dp cO eP;rw[yd,yd];have hm':(decide (0<=m)&&decide (m<=16777215))=true:=by
  obtain⟨a,b⟩:=hm
  simp; omega
 have hc':(decide (1<=C)&&decide (C<=24))=true:=by simp; omega
 simp only[GH,hm',hc',if_true,HW,GT,if_false];obtain⟨N,hN⟩:∃N,N=25 - C.toNat:=⟨_,rfl⟩;obtain⟨z,hz⟩:=q7 (fu:=fu) m C N (by omega) h1 fu N 0 [] (by omega) (by omega) (by simp);rw[show ((0:Nat):Int)=0 from rfl,Hi,hN]at hz;have hp:zu fu m C=some (fits m C):=by
  unfold zu
  rw[hz]; rfl
 rw[hp,GH];cases fits m C with
 | nil=>rfl
 | cons f l =>
  rw[if_neg (by simp; omega)]
  rfl
theorem rS (L:List Nx) (N:Nat) (r:Nz) (hr:r.Nw.length<=1000) (hf:∀f∈r.Nw,0<=f/\f<(N:Int)):∀(fk i:Nat) (o:Int),i<=r.Nw.length->r.Nw.length - i<fk->∃z,yC fu r (se L N) fk o i=some ((r.Nw.drop i).foldl (λo f=>Z1 o (used L f)) o,z):=by
 intro fk;induction fk with
 | zero=>intro i _ _ h; omega
 | succ fk ih =>
  intro i o hi hk
  rw[yC]
  by_cases h:i<r.Nw.length
  · obtain⟨f0,f1⟩:=hf _ (GW h)
    have e:V_ (se L N) r.Nw[i]=some (used L r.Nw[i]):=by
     unfold se
     have:=vP (l:=(List.range N).map λf:Nat=>used L (f:Int)) (i:=r.Nw[i].toNat) (by simp; omega)
     rw[HG f0]at this
     rw[this,IF,HR,HG f0]
    rw[if_pos (by simpa using h),vP h,GH,e,GH,vV h (by omega),<-GU h,HO]
    exact ih (i + 1) _ h (by omega)
  · obtain rfl:i=r.Nw.length:=by omega
    rw[if_neg (by simp),Hg]
    exact⟨_,rfl⟩
theorem oX (hfu:2097153<=fu) (p:Nh) (hB:cg p) (hF:PlanF p) (r:Nz) (hr:r.Nw.length<=1000) (hf:kM p.Nq r.Nw):cu fu p r=some (along p.Nk r.Nw):=by
 unfold cu;rw[ou hfu p hB hF,GH];obtain⟨z,hz⟩:=rS (fu:=fu) p.Nk p.Nq.Nw.length r hr hf fu 0 0 (by omega) (by omega);rw[show ((0:Nat):Int)=0 from rfl,He]at hz;rw[hz]; rfl
end
section
theorem tt {m:Int} (hm:MK m) {s:Nat} (hs:s<24):∃q,shr m (s:Int)=some q/\band q 1=((m.toNat / 2 ^ s % 2:Nat):Int):=by
 obtain⟨x,rfl⟩:=JR hm.1;have hx:x<16777216:=by have:=hm.2; omega
 have:shr (x:Int) (s:Int)=some ((x / 2 ^ s:Nat):Int):=by
  unfold shr
  rw[if_neg (by omega),Hh,Ic (by omega)]
  congr 1
  rw[I8 _ (by exact Int.pow_nonneg (by omega))]
  norm_cast
 refine⟨_,this,?_⟩;have hlt:x / 2 ^ s<=x:=Nat.div_le_self _ _;rw[Hh];generalize x / 2 ^ s=d at hlt;rw[kc (a:=(d:Int)) (b:=1) ⟨by omega,by omega⟩ ⟨by omega,by omega⟩,Hh];have:=Nat.and_two_pow_sub_one_eq_mod d 1;rw[show Int.toNat 1=2 ^ 1 - 1 from rfl,this]
def kK (m:Int) (s:Nat):Bool:=decide (s<24)&&(m.toNat / 2 ^ s % 2==0)
theorem fW {fu:Nat} {m:Int} (hm:MK m) (s:Nat) (hs:s<=25):(if decide ((s:Int)<24)=true then (shr m (s:Int)).bind λq=>some (band q 1==0) else some false)=some (kK m s):=by
 by_cases h:s<24;obtain⟨q,q1,q2⟩:=tt hm h;have h':(s:Int)<24:=by omega
 simp only[h',decide_true,if_true,q1,GH,q2,kK,h,HD];refine congrArg some ?_;generalize m.toNat / 2 ^ s % 2=d;rw[HB];simp only[beq_iff_eq];omega;have h':¬(s:Int)<24:=by omega
 simp [h',kK,h]
def endF (m:Int):Nat->Nat->Nat
 | 0,s=>s
 | k + 1,s=>if kK m s=true then endF m k (s + 1) else s
theorem l7 {m:Int} (hm:MK m):∀(k s:Nat),24 - s=k->s<=24->s<=endF m k s/\endF m k s<=24/\kK m (endF m k s)=false/\(∀t,s<=t->t<endF m k s->kK m t=true)/\(∀fu fk,24 - s<fk->x7 fu m fk (s:Int)=some ((endF m k s:Nat):Int)) /\
 (∀fu fk (c:Nat) (out:List Nj),c<=s->vA fu m (fk + (endF m k s - s)) (c:Int) (s:Int) out=vA fu m fk ((c + (endF m k s - s):Nat):Int) ((endF m k s:Nat):Int) out)
 | 0,s,h0,hs=>by
  obtain rfl:s=24:=by omega
  have hf:kK m 24=false:=by unfold kK; rw[decide_eq_false (by omega),I7]
  refine⟨GV _,GV _,hf,λt h1 h2=>by simp only[endF]at h2; omega,λfu fk hk=>?_,λfu fk c out _=>by simp [endF]⟩
  obtain⟨fk,rfl⟩:∃k,fk=k + 1:=⟨fk - 1,by omega⟩
  rw[x7,fW (fu:=fu) hm 24 (by omega),GH,hf]
  simp [endF]
 | k + 1,s,h0,hs=>by
  rw[endF]
  cases hf:kK m s with
  | false =>
   rw[if_neg (by simp)]
   refine⟨GV _,hs,hf,λt h1 h2=>by omega,λfu fk hk=>?_,λfu fk c out _=>by simp⟩
   obtain⟨fk,rfl⟩:∃k,fk=k + 1:=⟨fk - 1,by omega⟩
   rw[x7,fW (fu:=fu) hm s (by omega),GH,hf]
   simp
  | true =>
   rw[if_pos rfl]
   obtain⟨e1,e2,e3,e6,e4,e5⟩:=l7 hm k (s + 1) (by omega) (by omega)
   have hw:y_ ((s:Int) + 1)=((s + 1:Nat):Int):=by rw[va (by omega) (by omega)]; omega
   refine⟨by omega,e2,e3,λt h1 h2=>?_,λfu fk hk=>?_,λfu fk c out hc=>?_⟩
   · by_cases h:t=s
     · subst h; exact hf
     · exact e6 t (by omega) h2
   · obtain⟨fk,rfl⟩:∃k,fk=k + 1:=⟨fk - 1,by omega⟩
     rw[x7,fW (fu:=fu) hm s (by omega),GH,hf,if_pos rfl,hw]
     exact e4 fu fk (by omega)
   · have hu:wu64 (s:Int)=(s:Int):=nD (by omega) (by omega)
     have hw2:y_ ((c:Int) + 1)=((c + 1:Nat):Int):=by rw[va (by omega) (by omega)]; omega
     have h':(s:Int)<=24:=by omega
     have e7:=e5 fu fk (c + 1) out (by omega)
     generalize endF m k (s + 1)=e at e1 e7
     rw[show fk + (e - s)=(fk + (e - (s + 1))) + 1 by omega,vA,hu,fW (fu:=fu) hm s (by omega),GH,hf,hw,hw2]
     simp only[h',decide_true,if_true]
     rw[e7,show c + 1 + (e - (s + 1))=c + (e - s) by omega]
def ed (m:Int):Nat->Nat->List Nj
 | 0,_=>[]
 | k + 1,s=>if s<24 then (if s<endF m (24 - s) s then [(⟨(s:Int),((endF m (24 - s) s - s:Nat):Int)⟩:Nj)] else [])++ed m k (endF m (24 - s) s + 1) else []
theorem qU {fu:Nat} {m:Int} (hm:MK m) (k s:Nat) (out:List Nj) (h1:24<=s) (h2:s<=25) :
 (∀fk,26 - s<fk->∃z z',vA fu m fk 0 (s:Int) out=some (z,z',out++ed m k s))/\∀fk,26 - s<fk->∃z,xK fu m fk out (s:Int)=some (out++ed m k s,z):=by
 have hr:ed m k s=[]:=by
  cases k with
  | zero=>rfl
  | succ k=>rw[ed,if_neg (by omega)]
 rw[hr,G8];have last:∀fk,0<fk->∃z z',vA fu m fk 0 25 out=some (z,z',out):=λfk h=>by
  obtain⟨fk,rfl⟩:∃k,fk=k + 1:=⟨fk - 1,by omega⟩
  rw[vA,if_neg (by simp)]
  exact⟨_,_,rfl⟩
 refine⟨λfk hk=>?_,λfk hk=>?_⟩;rcases Iy s 25 with h | h
 obtain rfl:s=24:=by omega
 obtain⟨fk,rfl⟩:∃k,fk=k + 1:=⟨fk - 1,by omega⟩;rw[vA];have hw:y_ (((24:Nat):Int) + 1)=25:=by decide
 have h1:¬((24:Nat):Int)<24:=by omega
 simp only[h1,decide_false,GT,if_false,GH,hw];exact last fk (by omega);obtain rfl:s=25:=by omega
 exact last fk (by omega);obtain⟨fk,rfl⟩:∃k,fk=k + 1:=⟨fk - 1,by omega⟩;have h1:¬(s:Int)<24:=by omega
 rw[xK,if_neg (by simpa using h1)];exact⟨_,rfl⟩
theorem jM {fu:Nat} {m:Int} (hm:MK m) (hfu:100<=fu):∀(k s:Nat) (out:List Nj),25 - s<=k->s<=25->out.length<=s ->
 (∀fk,26 - s<fk->∃z z',vA fu m fk 0 (s:Int) out=some (z,z',out++ed m k s))/\∀fk,26 - s<fk->∃z,xK fu m fk out (s:Int)=some (out++ed m k s,z)
 | 0,s,out,h1,h2,ho=>qU hm 0 s out (by omega) h2
 | k + 1,s,out,h1,h2,ho=>by
  rcases Iy s 24 with hs | hs
  · rw[ed,if_pos hs]
    obtain⟨e1,e2,e3,-,e4,e5⟩:=l7 hm (24 - s) s rfl (by omega)
    generalize endF m (24 - s) s=e at e1 e2 e3 e4 e5
    have hu:wu64 (e:Int)=(e:Int):=nD (by omega) (by omega)
    have hwe:y_ ((e:Int) + 1)=((e + 1:Nat):Int):=by rw[va (by omega) (by omega)]; omega
    have hc:y_ ((e:Int) - (s:Int))=((e - s:Nat):Int):=by rw[va (by omega) (by omega)]; omega
    have hc2:y_ ((e:Int) - ((e - s:Nat):Int))=(s:Int):=by rw[va (by omega) (by omega)]; omega
    have he:(e:Int)<=24:=by omega
    have hs':(s:Int)<24:=by omega
    obtain⟨l,hl⟩:∃l,l=out++(if s<e then [(⟨(s:Int),((e - s:Nat):Int)⟩:Nj)] else []):=⟨_,rfl⟩
    have hll:l.length<=e + 1:=by
     rw[hl,GL]
     split
     · rw[GY]; omega
     · simp; omega
    obtain⟨R2,R3⟩:=jM hm hfu k (e + 1) l (by omega) (by omega) hll
    rw[<-GN,<-hl]
    have ha:M_ out [(⟨(s:Int),((e - s:Nat):Int)⟩:Nj)]=some (out++[(⟨(s:Int),((e - s:Nat):Int)⟩:Nj)]):=yw (by simp; omega)
    refine⟨λfk hk=>?_,λfk hk=>?_⟩
    · have:=e5 fu (fk - (e - s)) 0 out (by omega)
      rw[show fk - (e - s) + (e - s)=fk by omega,HA]at this
      rw[show (0:Int)=((0:Nat):Int) from rfl,this]
      obtain⟨fk',hfk⟩:∃fk',fk - (e - s)=fk' + 1:=⟨fk - (e - s) - 1,by omega⟩
      rw[hfk,vA,hu,fW (fu:=fu) hm e (by omega),GH,e3,hc2,hwe]
      simp only[he,decide_true,if_true,GT,if_false]
      by_cases h:s<e
      · have h':((e - s:Nat):Int) > 0:=by omega
        rw[if_pos h]at hl
        simp only[h',decide_true,if_true,ha,GH,<-hl]
        exact R2 fk' (by omega)
      · have h':¬((e - s:Nat):Int) > 0:=by omega
        rw[if_neg h,G8]at hl
        simp only[h',decide_false,GT,if_false,<-hl]
        exact R2 fk' (by omega)
    · obtain⟨fk,rfl⟩:∃k,fk=k + 1:=⟨fk - 1,by omega⟩
      rw[xK,e4 fu fu (by omega)]
      simp only[hs',decide_true,if_true,GH,hc,hwe]
      by_cases h:s<e
      · have h':(e:Int) > (s:Int):=by omega
        rw[if_pos h]at hl
        simp only[h',decide_true,if_true,ha,GH,<-hl]
        exact R3 fk (by omega)
      · have h':¬(e:Int) > (s:Int):=by omega
        rw[if_neg h,G8]at hl
        simp only[h',decide_false,GT,if_false,<-hl]
        exact R3 fk (by omega)
  · exact qU hm (k + 1) s out hs h2
theorem qT {m:Int} (hm:MK m):∀(k s:Nat) (e:Nj),e∈ed m k s->∃a b:Nat,e=⟨(a:Int),(b:Int)⟩/\0<b/\a + b<=24/\∀t,a<=t->t<a + b->kK m t=true
 | 0,s,e,h=>by rw[ed]at h; simp at h
 | k + 1,s,e,h=>by
  rw[ed]at h
  split at h
  · rename_i hs
    obtain⟨e1,e2,-,e6,-⟩:=l7 hm (24 - s) s rfl (by omega)
    rcases GI.1 h with h | h
    · split at h
      · rename_i hlt
        rw[GR]at h
        exact⟨s,_,h,by omega,by omega,λt h1 h2=>e6 t h1 (by omega)⟩
      · simp at h
    · exact qT hm k _ e h
  · simp at h
theorem jm (m:Int):∀(k s:Nat),(ed m k s).length<=k
 | 0,s=>by rw[ed]; simp
 | k + 1,s=>by
  rw[ed]
  split
  · rw[GL]
    have:=jm m k (endF m (24 - s) s + 1)
    split
    · rw[GY]; omega
    · simp; omega
  · simp
def b0R:Nj:=⟨0,0⟩
def fF (C:Int) (b e:Nj):Nj:=if C<=e.Pz/\(b.Pz=0∨e.Pz<b.Pz) then e else b
theorem ka {fu:Nat} (C:Int) (R:List Nj) (hR:R.length<=100):∀(fk i:Nat) (b:Nj),i<=R.length->R.length - i<fk ->
 (∃z,x6 fu C R fk i b.Pk b.Pz=some (z,((R.drop i).foldl (fF C) b).Pk,((R.drop i).foldl (fF C) b).Pz))/\∃z,ym fu C R fk i b.Pk b.Pz=some (z,((R.drop i).foldl (fF C) b).Pk,((R.drop i).foldl (fF C) b).Pz)
 | 0,i,b,hi,hf=>by omega
 | fk + 1,i,b,hi,hf=>by
  by_cases h:i<R.length
  · have hw:y_ ((i:Int) + 1)=((i + 1:Nat):Int):=by rw[va (by omega) (by omega)]; omega
    have h':(i:Int)<(R.length:Int):=by omega
    obtain⟨⟨z,g1⟩,⟨z',g2⟩⟩:=ka (fu:=fu) C R hR fk (i + 1) (fF C b R[i]) (by omega) (by omega)
    have hd:R.drop i=R[i]::R.drop (i + 1):=(GU h).symm
    rw[hd,HO]
    generalize (List.drop (i + 1) R).foldl (fF C) (fF C b R[i])=Q at g1 g2
    refine⟨⟨z,?_⟩,⟨z',?_⟩⟩
    · rw[x6,if_pos (by simpa using h'),vP h,GH,hw]
      generalize R[i]=e at g1
      by_cases c1:C<=e.Pz
      · rw[if_pos (by simpa using c1)]
        by_cases c2:b.Pz=0
        · have hb:fF C b e=e:=if_pos ⟨c1,.inl c2⟩
          rw[hb]at g1
          rw[if_pos (by simpa using c2),GH,if_pos rfl]
          exact g1
        · rw[if_neg (by simpa using c2),GH]
          by_cases c3:e.Pz<b.Pz
          · have hb:fF C b e=e:=if_pos ⟨c1,.inr c3⟩
            rw[hb]at g1
            rw[if_pos (by simpa using c3)]
            exact g1
          · have hb:fF C b e=b:=if_neg (λhh=>hh.2.elim c2 c3)
            rw[hb]at g1
            rw[if_neg (by simpa using c3)]
            exact g1
      · have hb:fF C b e=b:=if_neg (λhh=>c1 hh.1)
        rw[hb]at g1
        rw[if_neg (by simpa using c1),GH,if_neg (by simp)]
        exact g1
    · rw[ym,if_pos (by simpa using h'),vP h,GH,hw]
      generalize R[i]=e at g2
      by_cases c1:C<=e.Pz
      · rw[if_pos (by simpa using c1)]
        by_cases c2:b.Pz=0
        · have hb:fF C b e=e:=if_pos ⟨c1,.inl c2⟩
          rw[hb]at g2
          rw[if_pos (by simpa using c2),GH,if_pos rfl,GH]
          exact g2
        · rw[if_neg (by simpa using c2),GH,GH]
          by_cases c3:e.Pz<b.Pz
          · have hb:fF C b e=e:=if_pos ⟨c1,.inr c3⟩
            rw[hb]at g2
            rw[if_pos (by simpa using c3),GH]
            exact g2
          · have hb:fF C b e=b:=if_neg (λhh=>hh.2.elim c2 c3)
            rw[hb]at g2
            rw[if_neg (by simpa using c3)]
            exact g2
      · have hb:fF C b e=b:=if_neg (λhh=>c1 hh.1)
        rw[hb]at g2
        rw[if_neg (by simpa using c1),GH,if_neg (by simp)]
        exact g2
  · have h':¬(i:Int)<(R.length:Int):=by omega
    rw[x6,ym,if_neg (by simpa using h'),if_neg (by simpa using h'),HI (by omega)]
    exact⟨⟨_,rfl⟩,⟨_,rfl⟩⟩
theorem oz (C:Int):∀(R:List Nj) (b:Nj),R.foldl (fF C) b=b∨(R.foldl (fF C) b∈R/\C<=(R.foldl (fF C) b).Pz)
 | [],b=>.inl rfl
 | e::R,b=>by
  rw[HO]
  rcases oz C R (fF C b e) with h | ⟨h1,h2⟩
  · rw[h]
    unfold fF
    split
    · rename_i hc
      exact .inr ⟨Hp ..,hc.1⟩
    · exact .inl rfl
  · exact .inr ⟨Hs _ h1,h2⟩
def mj (m C:Int):Nj:=(ed m 25 0).foldl (fF C) b0R
def blkP (m C fit:Int):Option Nj :=
 if fit=1 then (fits m C).head?.map λf=>⟨f,C⟩ else if fit=2 then (fits m C).getLast?.map λf=>⟨f,C⟩ else if (mj m C).Pz=0 then none else some ⟨(mj m C).Pk,C⟩
variable {m C:Int}
theorem su (hm:MK m) {a b:Nat} {C:Int} (h1:1<=C) (h2:C<=b) (h3:a + b<=24) (hf:∀t,a<=t->t<a + b->kK m t=true):(a:Int)∈fits m C:=by
 refine (kX h1 (by omega)).2 ⟨by omega,by omega,?_⟩;have hb:yY ⟨(a:Int),C⟩=true:=by simp only[yY,GP,decide_eq_true_eq]; omega
 unfold apart;rw[kc hm (qH hb),beq_iff_eq];have e:m.toNat &&& (bits ⟨(a:Int),C⟩).toNat=0:=by
  refine Nat.eq_of_testBit_eq λj=>?_
  rw[Nat.testBit_and,Ac hb,Nat.zero_testBit]
  simp only[Hh]
  by_cases hj:a<=j/\j - a<C.toNat
  · have hfj:=hf j hj.1 (by omega)
    unfold kK at hfj
    simp only[GP,decide_eq_true_eq,beq_iff_eq]at hfj
    rw[Nat.testBit_eq_decide_div_mod_eq,hfj.2]
    rfl
  · have:(decide (a<=j)&&decide (j - a<C.toNat))=false:=by
     rw[Jv,decide_eq_false_iff_not,decide_eq_false_iff_not]
     omega
    rw[this,Bool.and_false]
 rw[e];rfl
theorem qG {fit:Int} (hm:MK m) (h1:1<=C) (h2:C<=24) {b:Nj} (h:blkP m C fit=some b):b.Pz=C/\b.Pk∈fits m C:=by
 unfold blkP at h;split at h
 obtain⟨f,hf,rfl⟩:=Ht.1 h;exact⟨rfl,List.mem_of_mem_head? hf⟩;split at h
 obtain⟨f,hf,rfl⟩:=Ht.1 h;exact⟨rfl,List.mem_of_getLast? hf⟩;split at h
 cases h;rename_i hc;injection h with h
 subst h;refine⟨rfl,?_⟩;unfold mj at hc ⊢;rcases oz C (ed m 25 0) b0R with hb | ⟨hb1,hb2⟩
 rw[hb]at hc;exact absurd rfl hc;obtain⟨a,b,he,hb0,hab,hfr⟩:=qT hm 25 0 _ hb1;rw[he]at hb2 ⊢;exact su hm h1 hb2 hab hfr
theorem rl {fu:Nat} (hm:MK m) (h1:1<=C) (h2:C<=24):cO fu m C=some true:=by
 unfold cO eP;rw[yd,yd];have hm':(decide (0<=m)&&decide (m<=16777215))=true:=by
  obtain⟨a,b⟩:=hm
  simp; omega
 have hc':(decide (1<=C)&&decide (C<=24))=true:=by simp; omega
 simp only[GH,hm',hc',if_true]
theorem oZ {fu:Nat} (hfu:2097153<=fu) {m C:Int} (h1:1<=C) (h2:C<=24):zu fu m C=some (fits m C):=by
 obtain⟨N,hN⟩:∃N,N=25 - C.toNat:=⟨_,rfl⟩;obtain⟨z,hz⟩:=q7 (fu:=fu) m C N (by omega) h1 fu N 0 [] (by omega) (by omega) (by simp);rw[show ((0:Nat):Int)=0 from rfl,Hi,hN]at hz;unfold zu;rw[hz]; rfl
def optB (o:Option Nj):Nj×Bool:=match o with | some b=>(b,true) | none=>(b0R,false)
theorem sy {fu:Nat} (hfu:2097153<=fu) {m C fit:Int} (hm:MK m) (h1:1<=C) (h2:C<=24):dX fu m C fit=some (optB (blkP m C fit)):=by
 unfold dX blkP;by_cases f1:fit=1;rw[if_pos (by simpa using f1),if_pos f1,qB hfu m C hm h1 h2,GH];cases fits m C <;> rfl
 rw[if_neg (by simpa using f1),if_neg f1];by_cases f2:fit=2;rw[if_pos (by simpa using f2),if_pos f2,fi,rl hm h1 h2,GH,if_neg (by decide),oZ hfu h1 h2,GH];have hl:=ol m C;cases hf:fits m C with
 | nil=>rfl
 | cons f l =>
  rw[<-hf]
  have hne:0<(fits m C).length:=by rw[hf]; simp
  rw[if_neg (by rw[beq_iff_eq]; omega),va (by omega) (by omega),show ((fits m C).length:Int) - 1=(((fits m C).length - 1:Nat):Int) by omega,vP (by omega),GH,Jj,GM (by omega)]
  rfl
 rw[if_neg (by simpa using f2),if_neg f2,fj,rl hm h1 h2,GH,if_neg (by decide)];obtain⟨-,R3⟩:=jM (fu:=fu) hm (by omega) 25 0 [] (by omega) (by omega) (by simp);obtain⟨z,hz⟩:=R3 fu (by omega);rw[Hi]at hz;have hr:dj fu m=some (ed m 25 0):=by
  unfold dj
  rw[show (0:Int)=((0:Nat):Int) from rfl,hz]; rfl
 obtain⟨⟨z2,hb⟩,-⟩:=ka (fu:=fu) C (ed m 25 0) (HS (jm m 25 0) (by omega)) fu 0 b0R (by omega) (by have:=jm m 25 0; omega);have hb':x6 fu C (ed m 25 0) fu 0 0 0=some (z2,(mj m C).Pk,(mj m C).Pz):=hb;rw[hr,GH,hb',GH];dsimp only;by_cases hc:(mj m C).Pz=0;rw[if_pos (by simpa using hc),if_pos hc]; rfl;rw[if_neg (by simpa using hc),if_neg hc]; rfl
theorem qu {fu:Nat} (hfu:2097153<=fu) {m C fit:Int} (hm:MK m) (h1:1<=C) (h2:C<=24):∃b,cX fu m C fit=some b/\((blkP m C fit=none/\b.Pz=0)∨blkP m C fit=some b):=by
 unfold cX;rw[lJ hfu m C h1 h2,GH];have hl:=ol m C;cases hf:fits m C with
 | nil =>
  refine⟨b0R,rfl,.inl ⟨?_,rfl⟩⟩
  cases hb:blkP m C fit with
  | none=>rfl
  | some b =>
   have:=(qG hm h1 h2 hb).2
   rw[hf]at this
   simp at this
 | cons f l =>
  rw[<-hf]
  have hne:0<(fits m C).length:=by rw[hf]; simp
  rw[if_neg (by rw[beq_iff_eq]; omega)]
  unfold blkP
  by_cases f1:fit=1
  · rw[if_pos (by simpa using f1),if_pos f1]
    refine⟨⟨f,C⟩,?_,.inr ?_⟩
    · rw[show (0:Int)=((0:Nat):Int) from rfl,vP hne]
      simp only[hf,List.getElem_cons_zero]
      rfl
    · rw[hf]; rfl
  · rw[if_neg (by simpa using f1),if_neg f1]
    by_cases f2:fit=2
    · rw[if_pos (by simpa using f2),if_pos f2,va (by omega) (by omega),show ((fits m C).length:Int) - 1=(((fits m C).length - 1:Nat):Int) by omega,vP (by omega),GH,Jj,GM (by omega)]
      exact⟨_,rfl,.inr rfl⟩
    · rw[if_neg (by simpa using f2),if_neg f2]
      unfold ga
      obtain⟨R2,-⟩:=jM (fu:=fu) hm (by omega) 25 0 [] (by omega) (by omega) (by simp)
      obtain⟨z,z',hz⟩:=R2 fu (by omega)
      rw[Hi]at hz
      have hr:eu fu m=some (ed m 25 0):=by
       unfold eu
       have hz':vA fu m fu 0 0 []=some (z,z',ed m 25 0):=hz
       rw[hz']; rfl
      obtain⟨-,⟨z2,hb⟩⟩:=ka (fu:=fu) C (ed m 25 0) (HS (jm m 25 0) (by omega)) fu 0 b0R (by omega) (by have:=jm m 25 0; omega)
      have hb':ym fu C (ed m 25 0) fu 0 0 0=some (z2,(mj m C).Pk,(mj m C).Pz):=hb
      rw[hr,GH,hb',GH]
      dsimp only
      have hpos:(mj m C).Pz=0∨0<(mj m C).Pz:=by
       unfold mj
       rcases oz C (ed m 25 0) b0R with h | ⟨-,h⟩
       · rw[h]; exact .inl rfl
       · right; omega
      rcases hpos with hc | hc
      · rw[if_neg (by simp; omega),if_pos hc]
        exact⟨_,rfl,.inl ⟨rfl,hc⟩⟩
      · rw[if_pos (by simpa using hc),if_neg (by omega)]
        exact⟨_,rfl,.inr rfl⟩
end
section
theorem mT {F:List Pq} {i:Nat} (hi:i<F.length):∀(fs out:d_) (v:Int) {o:d_},v=gl out->dR F fs out v=some o->0<=X_ (gd F i f0) (gl o)->(o.any λx=>x==X_ (gd F i f0) (gl o))=false->dR F (fs++[(i:Int)]) out v=some (o++[X_ (gd F i f0) (gl o)])
 | [],out,v,o,hv,h,h0,hn=>by
  simp only[dR,Hj]at h
  subst h
  rw[Hi,dR,if_pos ⟨JD i,by omega⟩,Hh,hv,if_neg (λh=>by
   rcases h with h | h
   · omega
   · rw[hn]at h; cases h)]
  rfl
 | j::fs,out,v,o,hv,h,h0,hn=>by
  rw[ID]
  unfold dR at h ⊢
  split at h
  · rename_i hj
    rw[if_pos hj]
    split at h
    · cases h
    · rename_i hc
      rw[if_neg hc]
      exact mT hi fs _ _ (by rw[og]) h h0 hn
  · cases h
theorem q5 {n:Nq} {to s:Int}:∀(k:Nat) {seen:d_} {v:Int} {fs:d_},dR n.Nw fs [s] s=some seen->gl seen=v->∀p∈T1 n.Nw to k seen v fs,∃o,dR n.Nw p [s] s=some o/\gl o=to
 | 0,_,_,_,_,_,p,hp=>by simp [T1]at hp
 | k + 1,seen,v,fs,h,hg,p,hp=>by
  by_cases hv:v=to
  · rw[T1,if_pos hv,GR]at hp
    subst hp
    exact⟨seen,h,hg.trans hv⟩
  · rw[q6 hv]at hp
    obtain⟨i,hi,hp⟩:=Hr.1 hp
    rw[Hv]at hi
    split at hp
    · rename_i hc
      refine q5 k (mT hi fs [s] s (by simp [gl,gd]) h (by rw[hg]; exact hc.1) (by rw[hg]; exact hc.2)) (by rw[og,hg]) p ?_
      rw[hg]
      exact hp
    · cases hp
theorem Dq {n:Nq} (hn:NetF n) {s t:Int} (h0:0<=s) (h1:s<(n.Nv.length:Int)) (hne:s≠t) {a:Nz} (ha:a∈M0 n s t):a.Nt=s/\(zb n a).isSome=true/\endR n a=t/\RtB n a:=by
 have hB:=(rQ hn h0 h1 t).1 a ha;unfold M0 at ha;rcases mX _ ha with ha | ⟨p,hp,rfl⟩
 cases ha;obtain⟨o,ho,hg⟩:=q5 (n:=n) (to:=t) (s:=s) n.Nv.length (seen:=[s]) (v:=s) (fs:=[]) rfl rfl p hp;have hpn:p≠[]:=λe=>by
  subst e
  simp only[dR,Hj]at ho
  subst ho
  exact hne hg
 have hr:zb n ⟨s,p⟩=some o:=by
  unfold zb
  rw[if_pos ⟨⟨h0,h1⟩,hpn⟩]
  exact ho
 exact⟨rfl,by rw[hr]; rfl,by unfold endR; rw[hr]; exact hg,hB⟩
theorem rY {n:Nq} {s t:Int}:d8 n s t=true↔cE n=true/\(0<=s/\s<(n.Nv.length:Int))/\(0<=t/\t<(n.Nv.length:Int))/\s≠t:=by
 unfold d8;simp only[GP,decide_eq_true_eq,bne_iff_ne]
theorem CG {N:Nq} {L:List Nx} {x:Nx} (hp:x8 ⟨N,L⟩=true) (hx:bp N x=true) (hid:hasL L x.Id=false) (hf:∀y∈L,coll y x=false) (hl:L.length<12):x8 ⟨N,putL L x⟩=true:=by
 obtain⟨n1,n2,n3,n4⟩:=yA.1 hp;simp only at n1 n2 n3 n4;refine yA.2 ⟨n1,by simp only; rw[kQ]; omega,λy hy=>?_,?_⟩;rcases gm.1 hy with rfl | hy
 exact hx;exact n3 y hy;have hle:=kW L x.Id;have hpre:∀y∈L.take (gp L x.Id),y.Id<x.Id:=λy hy=>by
  obtain⟨q,hq,rfl⟩:=G4.1 hy
  rw[GO]at hq
  have hq':q<gp L x.Id:=by omega
  have:=List.not_of_lt_findIdx (p:=λy:Nx=>!decide (y.Id<x.Id)) (xs:=L) (i:=q) hq'
  rw[Hu]
  simpa using this
 have hpost:∀y∈L.drop (gp L x.Id),x.Id<y.Id:=λy hy=>by
  have hyL:y∈L:=I9 hy
  have hne:y.Id≠x.Id:=λe=>by
   rw[G7]at hid
   exact hid (G5.2 ⟨y,hyL,by rw[beq_iff_eq]; exact e⟩)
  by_cases hlt:gp L x.Id<L.length
  · have h1:=List.findIdx_getElem (p:=λy:Nx=>!decide (y.Id<x.Id)) (xs:=L) (w:=hlt)
    have h1':(!decide (L[gp L x.Id].Id<x.Id))=true:=h1
    have h2:¬L[gp L x.Id].Id<x.Id:=by simpa using h1'
    rw[<-GU hlt]at hy
    rcases Hf.1 hy with rfl | hy
    · omega
    · obtain⟨q,hq,rfl⟩:=G4.1 hy
      rw[Hd]at hq
      have:=(HM.1 n4 (gp L x.Id) (gp L x.Id + 1 + q) hlt (by omega) (by omega)).1
      rw[Im]
      omega
  · rw[HI (by omega)]at hy
    cases hy
 unfold putL;have hs:(L.take (gp L x.Id)++L.drop (gp L x.Id)).Pairwise (λa b=>a.Id<b.Id/\coll a b=false):=by rw[Ha]; exact n4
 obtain⟨s1,s2,s3⟩:=HJ.1 hs;refine HJ.2 ⟨s1,Ia.2 ⟨λy hy=>⟨hpost y hy,?_⟩,s2⟩,λa ha b hb=>?_⟩;rw[pQ];exact hf y (I9 hy);rcases Hf.1 hb with rfl | hb
 exact⟨hpre a ha,hf a (JB ha)⟩;exact s3 a ha b hb
end
section
def N0:Ng:=⟨0,0⟩
def ks (L:List Ng) (i:Nat):Bool:=!(decide (1<=(gd L i N0).Reach)&&decide ((gd L i N0).Reach<=20000))||(!(decide (1<=(gd L i N0).Ph)&&decide ((gd L i N0).Ph<=1000))||(decide (0<i)&&(decide ((gd L (i - 1) N0).Reach<=(gd L i N0).Reach)||decide ((gd L (i - 1) N0).Ph>=(gd L i N0).Ph))))
def dt (L:List Ng):Bool:=!((List.range L.length).any (ks L))&&(decide (1<=L.length)&&decide (L.length<=6))
theorem iw {fu:Nat} (hfu:2097153<=fu) (L:List Ng) (hn:L.length<=7):xI fu L=some (dt L):=by
 unfold xI dt;rw[yP (l:=List.range L.length) (G:=xa fu L) (ks L) (λi=>false) (by simp; omega)
  (λfk i hk=>by
    have hi':i<L.length:=by simpa using hk
    rw[xa,if_pos (by simpa using hi'),xC N0 hi',HR]
    obtain⟨b1,h1⟩:∃b,b=(decide (1<=(gd L i N0).Reach)&&decide ((gd L i N0).Reach<=20000)):=⟨_,rfl⟩
    obtain⟨b2,h2⟩:∃b,b=(decide (1<=(gd L i N0).Ph)&&decide ((gd L i N0).Ph<=1000)):=⟨_,rfl⟩
    simp only[GH,yd,ks,<-h1,<-h2]
    cases b1
    · rfl
    cases b2
    · rfl
    by_cases h0:0<i
    · rw[fv h0 (by omega),xC N0 (show i - 1<L.length by omega)]
      obtain⟨b4,h4⟩:∃b,b=decide ((gd L (i - 1) N0).Reach<=(gd L i N0).Reach):=⟨_,rfl⟩
      obtain⟨b5,h5⟩:∃b,b=decide ((gd L (i - 1) N0).Ph>=(gd L i N0).Ph):=⟨_,rfl⟩
      have h0':decide ((i:Int) > 0)=true:=by simpa using h0
      simp only[<-h4,<-h5,h0,h0',decide_true,if_true,GH]
      cases b4 <;> cases b5 <;> rfl
    · have h0':decide ((i:Int) > 0)=false:=by simpa using h0
      simp only[h0,h0',decide_false]
      rfl)
  (λfk=>by rw[Hx,xa,if_neg (by simp)]) fu (by simp; omega)]
 have e:(decide ((1:Int)<=(L.length:Int))&&decide ((L.length:Int)<=6))=(decide (1<=L.length)&&decide (L.length<=6)):=by
  congr 1 <;> exact decide_eq_decide.2 (by omega)
 cases (List.range L.length).any (ks L);show (vq fu _ 1 6).bind _=_;rw[yd,GH,e]; rfl;rfl
theorem jL {fu:Nat} (hfu:2097153<=fu) (L:List Ng) (hn:L.length<=7):zG fu L=some (dt L):=by
 unfold zG dt;rw[yP (l:=List.range L.length) (G:=xU fu L) (ks L) (λi=>false) (by simp; omega)
  (λfk i hk=>by
    have hi':i<L.length:=by simpa using hk
    have h6:decide ((i:Int)<=6)=true:=by rw[decide_eq_true_eq]; omega
    rw[xU,if_pos (by simpa using hi'),h6,GH,if_pos rfl,xC N0 hi',HR]
    obtain⟨b1,h1⟩:∃b,b=(decide (1<=(gd L i N0).Reach)&&decide ((gd L i N0).Reach<=20000)):=⟨_,rfl⟩
    obtain⟨b2,h2⟩:∃b,b=(decide (1<=(gd L i N0).Ph)&&decide ((gd L i N0).Ph<=1000)):=⟨_,rfl⟩
    simp only[GH,cF,ks,<-h1,<-h2]
    cases b1
    · rfl
    cases b2
    · rfl
    by_cases h0:0<i
    · rw[fv h0 (by omega),xC N0 (show i - 1<L.length by omega)]
      obtain⟨b4,h4⟩:∃b,b=decide ((gd L (i - 1) N0).Reach<=(gd L i N0).Reach):=⟨_,rfl⟩
      obtain⟨b5,h5⟩:∃b,b=decide ((gd L (i - 1) N0).Ph>=(gd L i N0).Ph):=⟨_,rfl⟩
      have h0':decide ((i:Int) > 0)=true:=by simpa using h0
      simp only[<-h4,<-h5,h0,h0',decide_true,if_true,GH]
      cases b4 <;> cases b5 <;> rfl
    · have h0':decide ((i:Int) > 0)=false:=by simpa using h0
      simp only[h0,h0',decide_false]
      rfl)
  (λfk=>by
    rw[Hx,xU,if_neg (by simp)]
    rfl) fu (by simp; omega)]
 have e:(decide ((1:Int)<=(L.length:Int))&&decide ((L.length:Int)<=6))=(decide (1<=L.length)&&decide (L.length<=6)):=by
  congr 1 <;> exact decide_eq_decide.2 (by omega)
 cases (List.range L.length).any (ks L);show (xl fu _ 1 6).bind _=_;rw[cF,GH,e]; rfl;rfl
structure FmtF (L:List Ng):Prop where
 len:L.length<=6
 ne:1<=L.length
 ok:∀f∈L,(1<=f.Reach/\f.Reach<=20000)/\1<=f.Ph/\f.Ph<=1000
theorem fmtF {L:List Ng} (h:dt L=true):FmtF L:=by
 unfold dt at h;simp only[GP,Hk,decide_eq_true_eq,JK,Hv]at h;obtain⟨h1,h2,h3⟩:=h;refine⟨h3,h2,λf hf=>?_⟩;obtain⟨i,hi,rfl⟩:=G4.1 hf;have:=h1 i hi;unfold ks at this;rw[aU N0 hi]at this;simp only[Ii,Hk,Jv,decide_eq_false_iff_not,not_or]at this;omega
def cH (n:Nq) (d:Nd):Bool:=(decide (0<=d.Pt)&&decide (d.Pt<=(n.Nv.length:Int) - 1))&&((decide (0<=d.To)&&decide (d.To<=(n.Nv.length:Int) - 1))&&((d.Pt != d.To)&&((decide (1<=d.Ph)&&decide (d.Ph<=1000))&&(decide (0<=d.Rk)&&decide (d.Rk<=2)))))
theorem rx (b1 b2 b3 b4 b5:Bool):(((some b1).bind λy=>if y=true then (some b2).bind λy2=>if y2=true then if b3=true then (some b4).bind λy3=>if y3=true then (some b5).bind λy4=>some y4 else some false else some false else some false else some false).bind λc3=>some c3)=some (b1&&(b2&&(b3&&(b4&&b5)))):=by
 cases b1 <;> cases b2 <;> cases b3 <;> cases b4 <;> cases b5 <;> rfl
theorem sr (fu:Nat) (n:Nq) (d:Nd) (hm:n.Nv.length<=2097152):di fu n d=some (cH n d):=by
 unfold di;rw[yd,yd,yd,yd,va (by omega) (by omega)];exact rx _ _ _ _ _
theorem mR (fu:Nat) (n:Nq) (d:Nd) (hm:n.Nv.length<=2097152):bJ fu n d=some (cH n d):=by
 unfold bJ;rw[cF,cF,cF,cF,va (by omega) (by omega)];exact rx _ _ _ _ _
def eS (n:Nq) (L:List Nd):Bool:=cE n&&(decide (L.length<=12)&&L.all (cH n))
theorem ja {fu:Nat} (hfu:2097153<=fu) (n:Nq) (L:List Nd) (hB:NetB n) (hn:L.length<=13):yc fu n L=some (eS n L):=by
 unfold yc eS;rw[jY hfu n hB];cases cE n
 rfl;rw[GH,if_pos rfl,HD];by_cases h:L.length<=12;have h':decide ((L.length:Int)<=12)=true:=by rw[decide_eq_true_eq]; omega
 rw[h',if_pos rfl,decide_eq_true h,HD];unfold u4 u9;rw[yP (l:=L) (G:=uu fu L n) (λd=>!cH n d) (λi=>(i:Int)) (by omega)
  (λfk i hk=>by
    rw[uu,if_pos (by simpa using hk),vP hk,GH,zR,sr fu n _ hB.1.1,GH,GH])
  (λfk=>by rw[uu,if_neg (by simp)]) fu (by omega)]
 have e:L.all (cH n)=!(L.any λd=>!cH n d):=by
  rw[List.not_any_eq_all_not]
  simp
 rw[e];cases L.any λd=>!cH n d
 rfl;show ((some _).bind _).bind _=_;rw[GH];simp;have h':decide ((L.length:Int)<=12)=false:=by rw[decide_eq_false_iff_not]; omega
 rw[h',decide_eq_false h];rfl
theorem lq {fu:Nat} (hfu:2097153<=fu) (n:Nq) (L:List Nd) (hB:NetB n) (hn:L.length<=13):aI fu n L=some (eS n L):=by
 unfold aI eS;rw[yP (l:=L) (G:=xV fu n L) (λd=>!cH n d) (λi=>false) (by omega)
  (λfk i hk=>by
    have h12:decide ((i:Int)<=12)=true:=by rw[decide_eq_true_eq]; omega
    rw[xV,if_pos (by simpa using hk),h12,GH,if_pos rfl,vP hk,GH,mR fu n _ hB.1.1,GH])
  (λfk=>by
    rw[xV,if_neg (by simp)]
    rfl) fu (by omega)]
 have e:L.all (cH n)=!(L.any λd=>!cH n d):=by
  rw[List.not_any_eq_all_not]
  simp
 rw[e];cases L.any λd=>!cH n d
 show ((if decide ((L.length:Int)<=12)=true then (aw fu n).bind λy2=>some y2 else some false:Option Bool).bind λc5=>some c5)=_
 by_cases h:L.length<=12;have h':decide ((L.length:Int)<=12)=true:=by rw[decide_eq_true_eq]; omega
 rw[h',if_pos rfl,decide_eq_true h,fM hfu n hB];cases cE n <;> rfl
 have h':decide ((L.length:Int)<=12)=false:=by rw[decide_eq_false_iff_not]; omega
 rw[h',decide_eq_false h];cases cE n <;> rfl
 cases cE n <;> cases decide (L.length<=12) <;> rfl
def lw (p:Nh) (F:List Ng) (L:List Nd) (fit:Int):Bool:=x8 p&&(dt F&&(eS p.Nq L&&(decide (1<=fit)&&decide (fit<=3))))
theorem and4 (b1 b2 b3 b4:Bool):(((some b1).bind λy=>if y=true then (some b2).bind λy2=>if y2=true then (some b3).bind λy3=>if y3=true then (some b4).bind λy4=>some y4 else some false else some false else some false).bind λc6=>some c6)=some (b1&&(b2&&(b3&&b4))):=by
 cases b1 <;> cases b2 <;> cases b3 <;> cases b4 <;> rfl
theorem pw {fu:Nat} (hfu:2097153<=fu) (p:Nh) (F:List Ng) (L:List Nd) (fit:Int) (hB:cg p) (hF:F.length<=7) (hL:L.length<=13):cw fu p F L fit=some (lw p F L fit):=by
 unfold cw gq;rw[qA hfu p hB,iw hfu F hF,ja hfu p.Nq L hB.1 hL,yd];exact and4 _ _ _ _
theorem qv {fu:Nat} (hfu:2097153<=fu) (p:Nh) (F:List Ng) (L:List Nd) (fit:Int) (hB:cg p) (hF:F.length<=7) (hL:L.length<=13):cY fu p F L fit=some (lw p F L fit):=by
 unfold cY;rw[qh hfu p hB,jL hfu F hF,lq hfu p.Nq L hB.1 hL,cF];exact and4 _ _ _ _
def fE (F:List Ng) (len:Int):Nat->Int
 | 0=>-1
 | n + 1=>if (gd F n N0).Reach>=len then (n:Int) else fE F len n
theorem jF (F:List Ng) (len:Int):∀n,fE F len n=-1∨∃i:Nat,fE F len n=(i:Int)/\i<n/\(gd F i N0).Reach>=len
 | 0=>.inl rfl
 | n + 1=>by
  rw[fE]
  split
  · rename_i h
    exact .inr ⟨n,rfl,by omega,h⟩
  · rcases jF F len n with h | ⟨i,h1,h2,h3⟩
    · exact .inl h
    · exact .inr ⟨i,h1,by omega,h3⟩
def cr (F:List Ng) (len rate:Int):Int :=
 if fE F len F.length<0 then 0 else if (rate + (gd F (fE F len F.length).toNat N0).Ph - 1) / (gd F (fE F len F.length).toNat N0).Ph > 24 then 0 else (rate + (gd F (fE F len F.length).toNat N0).Ph - 1) / (gd F (fE F len F.length).toNat N0).Ph
theorem nv {fu:Nat} (F:List Ng) (len:Int) (hF:F.length<=6):∀(fk i:Nat),i<=F.length->F.length - i<fk->∃z,xY fu F len fk (fE F len i) i=some (fE F len F.length,z)
 | 0,i,hi,hf=>by omega
 | fk + 1,i,hi,hf=>by
  by_cases h:i<F.length
  · have hw:y_ ((i:Int) + 1)=((i + 1:Nat):Int):=by rw[va (by omega) (by omega)]; omega
    obtain⟨z,hz⟩:=nv (fu:=fu) F len hF fk (i + 1) (by omega) (by omega)
    rw[fE]at hz
    rw[xY,if_pos (by simpa using h),xC N0 h,GH,hw]
    by_cases hc:(gd F i N0).Reach>=len
    · rw[if_pos (by simpa using hc)]
      rw[if_pos hc]at hz
      exact⟨z,hz⟩
    · rw[if_neg (by simpa using hc)]
      rw[if_neg hc]at hz
      exact⟨z,hz⟩
  · have e:i=F.length:=by omega
    subst e
    rw[xY,if_neg (by simp)]
    exact⟨_,rfl⟩
theorem nx {fu:Nat} (F:List Ng) (len:Int) (hF:F.length<=6):∀(n fk:Nat),n<=F.length->n<fk->yh fu F len fk ((n:Int) - 1)=some (if fE F len n<0 then .next (-1) else .ret (fE F len n,true))
 | 0,fk,hn,hf=>by
  obtain⟨fk,rfl⟩:∃k,fk=k + 1:=⟨fk - 1,by omega⟩
  rw[yh,if_neg (by simp),fE,if_pos (by omega)]
  rfl
 | n + 1,fk,hn,hf=>by
  obtain⟨fk,rfl⟩:∃k,fk=k + 1:=⟨fk - 1,by omega⟩
  have e:(((n + 1:Nat):Int) - 1)=(n:Int):=by omega
  rw[e,yh,if_pos (by simp),xC N0 (by omega),GH,fE]
  by_cases hc:(gd F n N0).Reach>=len
  · rw[if_pos (by simpa using hc),if_pos hc,if_neg (by omega)]
  · rw[if_neg (by simpa using hc),if_neg hc,va (by omega) (by omega)]
    exact nx F len hF n fk (by omega) (by omega)
theorem BL {a b:Int} (ha:0<=a) (h2:a<=4000) (hb:0<b):quo a b=some (a / b):=by
 have h0:0<=a / b:=Int.ediv_nonneg ha (by omega);have h1:a / b<=a:=Int.ediv_le_self b ha;unfold quo;rw[if_neg (by omega),Int.tdiv_eq_ediv_of_nonneg ha,va (by omega) (by omega)]
variable {fu:Nat} {F:List Ng}
theorem qi (hF:FmtF F) {len rate:Int} (hr:1<=rate/\rate<=1000) (hfu:2097153<=fu):cZ fu F len rate=some (cr F len rate):=by
 unfold cZ fe cr;have h6:=hF.len;obtain⟨z,hz⟩:=nv (fu:=fu) F len hF.len fu 0 (by omega) (by omega);have hz':xY fu F len fu (-1) 0=some (fE F len F.length,z):=hz;rw[hz',GH,GH];dsimp only;rcases jF F len F.length with h | ⟨i,h1,h2,h3⟩
 rw[h]; rfl;rw[h1];have hi:=hF.ok _ (zx N0 h2);rw[Hh,if_neg (by simp),if_neg (by omega),xC N0 h2,GH,GH];generalize (gd F i N0).Ph=R at hi;rw[va (n:=rate + R) (by omega) (by omega),va (by omega) (by omega),BL (by omega) (by omega) (by omega),GH];by_cases hc:(rate + R - 1) / R > 24;rw[if_pos (by simpa using hc),if_pos hc];rw[if_neg (by simpa using hc),if_neg hc]
theorem oQ (hF:FmtF F) {len rate:Int} (hr:1<=rate/\rate<=1000):cr F len rate=0∨(1<=cr F len rate/\cr F len rate<=24/\len<=20000):=by
 unfold cr;rcases jF F len F.length with h | ⟨i,h1,h2,h3⟩
 rw[h]; exact .inl rfl;rw[h1,Hh,if_neg (by omega)];have hi:=hF.ok _ (zx N0 h2);split
 exact .inl rfl;rename_i hc;refine .inr ⟨?_,by omega,by omega⟩;generalize (gd F i N0).Ph=R at hi hc;have:1 * R<=rate + R - 1:=by omega
 exact (Int.le_ediv_iff_mul_le (by omega)).2 this
theorem Ad (hF:FmtF F) {len:Int} (h:20000<len):fE F len F.length=-1:=by
 rcases jF F len F.length with h1 | ⟨i,h1,h2,h3⟩
 exact h1;have:=(hF.ok _ (zx N0 h2)).1.2;omega
theorem pJ (hfu:2097153<=fu) {F:List Ng} (hok:dt F=true) {len:Int} (hl:0<=len):cx fu F len=some (if fE F len F.length<0 then (0,false) else (fE F len F.length,true)):=by
 have hF:=fmtF hok;have h6:=hF.len;have h1':=hF.ne;unfold cx;rw[iw hfu F (by omega),hok,GH,if_neg (by decide),yd,GH,GH];by_cases hlen:len<=20000;have e1:(decide (0<=len)&&decide (len<=20000))=true:=by simp; omega
 rw[e1,if_neg (by decide),va (by omega) (by omega),nx F len hF.len F.length fu (by omega) (by omega)];by_cases hb:fE F len F.length<0;rw[if_pos hb,if_pos hb]; rfl;rw[if_neg hb,if_neg hb]; rfl;have e1:(decide (0<=len)&&decide (len<=20000))=false:=by simp; omega
 rw[e1,if_pos (by decide),Ad hF (by omega)];rfl
theorem rO (hfu:2097153<=fu) {F:List Ng} (hok:dt F=true) {len rate:Int} (hl:0<=len) (hr:1<=rate/\rate<=1000):dm fu F len rate=some (cr F len rate,decide (cr F len rate > 0)):=by
 have hF:=fmtF hok;have hw:(decide (1<=rate)&&decide (rate<=1000))=true:=by simp; omega
 have hp:=oQ hF (len:=len) hr;unfold dm;rw[pJ hfu hok hl,GH];rcases jF F len F.length with h | ⟨i,g1,g2,g3⟩
 have hs:cr F len rate=0:=by unfold cr; rw[h]; rfl
 rw[h,hs]; rfl;have hs:cr F len rate=if (rate + (gd F i N0).Ph - 1) / (gd F i N0).Ph > 24 then 0 else (rate + (gd F i N0).Ph - 1) / (gd F i N0).Ph:=by
  unfold cr
  rw[g1,Hh,if_neg (by omega)]
 have hi:=hF.ok _ (zx N0 g2);rw[g1,if_neg (show ¬((i:Int)<0) by omega)];dsimp only;rw[HW,if_neg (by decide),yd,GH,hw,GH,if_neg (by decide),xC N0 g2,GH,GH];generalize (gd F i N0).Ph=R at hi hs;rw[va (n:=rate + R) (by omega) (by omega),va (by omega) (by omega),BL (by omega) (by omega) (by omega),GH];by_cases hc:(rate + R - 1) / R > 24;rw[if_pos (by simpa using hc)];rw[if_pos hc]at hs;rw[hs]; rfl;rw[if_neg (by simpa using hc)];rw[if_neg hc]at hs;have:1<=(rate + R - 1) / R:=(Int.le_ediv_iff_mul_le (by omega)).2 (by omega);rw[hs,decide_eq_true (by omega)]
end
section
def T_ {X:Type} (key:X->Int) (pos:X->Nat) (a b:X):Prop:=key a<key b∨(key a=key b/\pos a<pos b)
section
variable {X:Type} {key:X->Int} {pos:X->Nat}
theorem T_.trans {a b c:X} (h1:T_ key pos a b) (h2:T_ key pos b c):T_ key pos a c:=by
 unfold T_ at *; omega
theorem T_.irr {a:X} (h:T_ key pos a a):False:=by
 unfold T_ at h; omega
theorem T_.asy {a b:X} (h:T_ key pos a b) (h2:T_ key pos b a):False:=(h.trans h2).irr
theorem CQ {a b:List X} (hp:a.Perm b) (sa:a.Pairwise (T_ key pos)) (sb:b.Pairwise (T_ key pos)):a=b :=
 JQ (le:=T_ key pos) (λ_ _ _ _ h1 h2=>(h1.asy h2).elim) sa sb hp
theorem qq {x1 x2 y1 y2 z1 z2:List X} (h1:∀a∈x1,∀b∈y2,T_ key pos a b) (h2:∀a∈y1,∀b∈x2,T_ key pos a b) (hx:(x1++x2).Pairwise (T_ key pos)) (hy:(y1++y2).Pairwise (T_ key pos)) (p1:z1.Perm (x1++y1)) (p2:z2.Perm (x2++y2)) (s1:z1.Pairwise (T_ key pos)) (s2:z2.Pairwise (T_ key pos)) :
 (z1++z2).Pairwise (T_ key pos)/\(z1++z2).Perm ((x1++x2)++(y1++y2)):=by
 refine⟨HJ.2 ⟨s1,s2,λa ha b hb=>?_⟩,?_⟩;have ha':=GI.1 (p1.mem_iff.1 ha);have hb':=GI.1 (p2.mem_iff.1 hb);rcases ha' with ha' | ha' <;> rcases hb' with hb' | hb'
 exact (HJ.1 hx).2.2 a ha' b hb';exact h1 a ha' b hb';exact h2 a ha' b hb';exact (HJ.1 hy).2.2 a ha' b hb';refine (p1.append p2).trans ?_;rw[GN,GN];refine List.Perm.append_left x1 ?_;rw[<-GN,<-GN];exact List.Perm.append_right y2 Io
end
def stN (key:Nat->Int) (l:m_) (i:Nat):Nat->Nat
 | 0=>0
 | k + 1=>if key (gd l k 0) > key i then stN key l i k else k + 1
theorem kN (key:Nat->Int) (l:m_) (i:Nat):∀k,stN key l i k<=k/\(∀q,stN key l i k<=q->q<k->key (gd l q 0) > key i)/\(stN key l i k=0∨key (gd l (stN key l i k - 1) 0)<=key i)
 | 0=>⟨GV _,λq h1 h2=>by omega,.inl rfl⟩
 | k + 1=>by
  obtain⟨h1,h2,h3⟩:=kN key l i k
  rw[stN]
  by_cases hc:key (gd l k 0) > key i
  · rw[if_pos hc]
    refine⟨by omega,λq hq hk=>?_,h3⟩
    by_cases hqk:q=k
    · subst hqk; exact hc
    · exact h2 q hq (by omega)
  · rw[if_neg hc]
    refine⟨GV _,λq hq hk=>by omega,.inr ?_⟩
    rw[Jq]
    omega
def oP (key:Nat->Int) (l:m_) (i:Nat):m_:=l.take (stN key l i l.length)++i::l.drop (stN key l i l.length)
theorem rK (key:Nat->Int) (l:m_) (i:Nat):(oP key l i).Perm (i::l):=by
 unfold oP;refine Ik.trans (List.Perm.cons i ?_);rw[Ha]
theorem qy {X:Type} {key:X->Int} {pos:X->Nat} {u v:List X} {x:X} (hs:(u++v).Pairwise (T_ key pos)) (hu:∀y∈u,T_ key pos y x) (hv:∀y∈v,T_ key pos x y):(u++x::v).Pairwise (T_ key pos):=by
 obtain⟨s1,s2,s3⟩:=HJ.1 hs;refine HJ.2 ⟨s1,Ia.2 ⟨hv,s2⟩,λa ha b hb=>?_⟩;rcases Hf.1 hb with rfl | hb
 exact hu a ha;exact s3 a ha b hb
theorem nj {X:Type} {key:X->Int} {pos:X->Nat} {t:List X} {x:X} {k:Nat} (hk:k<=t.length) (hs:t.Pairwise (T_ key pos)) (hp:∀y∈t,pos y<pos x) (h2:∀(q:Nat) (h:q<t.length),k<=q->key x<key t[q]) (h3:k=0∨∃h:k - 1<t.length,key t[k - 1]<=key x):(t.take k++x::t.drop k).Pairwise (T_ key pos):=by
 refine qy (by rw[Ha]; exact hs) (λy hy=>?_) λy hy=>?_;obtain⟨q,hq,rfl⟩:=G4.1 hy;rw[GO]at hq;rw[Hu];have hpq:=hp t[q] (GW _);rcases h3 with h3 | ⟨h3,h4⟩
 omega;have hle:key t[q]<=key x:=by
  by_cases e:q=k - 1
  · subst e; exact h4
  · have:=HM.1 hs q (k - 1) (by omega) h3 (by omega)
    unfold T_ at this
    omega
 unfold T_;omega;obtain⟨q,hq,rfl⟩:=G4.1 hy;rw[Hd]at hq;rw[Im];exact .inl (h2 (k + q) (by omega) (by omega))
theorem oO {key:Nat->Int} {l:m_} {i:Nat} (hs:l.Pairwise (T_ key id)) (hi:∀x∈l,x<i):(oP key l i).Pairwise (T_ key id):=by
 obtain⟨h1,h2,h3⟩:=kN key l i l.length;unfold oP;refine nj h1 hs hi (λq hq hkq=>?_) ?_;have:=h2 q hkq hq;rwa [aU 0 hq]at this;by_cases hz:stN key l i l.length=0;exact .inl hz;refine .inr ⟨by omega,?_⟩;rcases h3 with h3 | h3
 exact absurd h3 hz;rwa [aU 0 (by omega)]at h3
def ze (key:Nat->Int):Nat->m_
 | 0=>[]
 | n + 1=>oP key (ze key n) n
theorem ef (key:Nat->Int):∀n,(ze key n).Perm (List.range n)
 | 0=>.nil
 | n + 1=>by
  rw[ze,List.range_succ]
  exact (rK key _ n).trans (((ef key n).cons n).trans (Io (l₁:=[n])))
theorem f7 {key:Nat->Int} {n x:Nat} (h:x∈ze key n):x<n:=Hv.1 ((ef key n).mem_iff.1 h)
theorem eY (key:Nat->Int):∀n,(ze key n).Pairwise (T_ key id)
 | 0=>.nil
 | n + 1=>by
  rw[ze]
  exact oO (eY key n) λx hx=>f7 hx
theorem gO (key:Nat->Int) (n:Nat):(ze key n).length=n:=by rw[(ef key n).length_eq,Hx]
end
section
variable {a b:Nat}
theorem wadd (h:a + b<4611686018427387904):y_ ((a:Int) + (b:Int))=((a + b:Nat):Int):=by
 rw[va (by omega) (by omega)]; omega
theorem wsub (h:b<=a) (ha:a<4611686018427387904):y_ ((a:Int) - (b:Int))=((a - b:Nat):Int):=by
 rw[va (by omega) (by omega)]; omega
theorem qd (h:a<4611686018427387904):y_ ((a:Int) + 1)=((a + 1:Nat):Int):=by
 rw[va (by omega) (by omega)]; omega
theorem qc (h:0<a) (ha:a<4611686018427387904):y_ ((a:Int) - 1)=((a - 1:Nat):Int):=by
 rw[va (by omega) (by omega)]; omega
theorem s6 (h:a + b<4611686018427387904):shrk 64 (wu64 (y_ ((a:Int) + (b:Int)))) 1=some (((a + b) / 2:Nat):Int):=by
 rw[wadd h];have e:wu64 ((a + b:Nat):Int)=((a + b:Nat):Int):=by unfold wu64; omega
 rw[e];unfold shrk;rw[if_neg (by omega)];show some (Int.fdiv _ (2 ^ (min (Int.toNat 1) 64)))=_;rw[show min (Int.toNat 1) 64=1 from rfl,I8 _ (by omega)];congr 1
theorem iS (h:a<4611686018427387904):y_ (a:Int)=(a:Int):=va (by omega) (by omega)
section
variable {X:Type}
theorem bZ {p s:List X} {x:X} {i:Nat} (h:i=p.length):V_ (p++x::s) (i:Int)=some x:=by
 subst h;rw[vP (by simp)];simp
theorem set_mid {p s:List X} {x y:X} {i:Nat} (h:i=p.length):(p++x::s).set ((i:Int)).toNat y=p++y::s:=by
 subst h;rw[Hh];simp
variable (cf:X->X->Option Int)
theorem qQ {fu:Nat} {A B N:Nat}:∀(u v p q s:List X) (i fk:Nat),u.length=v.length->u.length<fk->p.length=A + i->p.length + u.length + q.length=B + i->N=i + u.length->p.length + u.length + q.length + v.length<=2097152->uM cf fu (A:Int) (B:Int) (N:Int) fk (p++(u++(q++(v++s)))) (i:Int)=some (p++(v++(q++(u++s))),(N:Int))
 | [],[],p,q,s,i,fk,_,hf,_,_,hN,_=>by
  obtain⟨fk,rfl⟩:∃k,fk=k + 1:=⟨fk - 1,by simp at hf; omega⟩
  simp only[HP,Hz]at hN
  subst hN
  rw[uM,if_neg (by simp)]
 | x::u,y::v,p,q,s,i,fk,hl,hf,hA,hB,hN,hs=>by
  obtain⟨fk,rfl⟩:∃k,fk=k + 1:=⟨fk - 1,by simp at hf; omega⟩
  simp only[Hq]at hl hf hB hN hs
  have e0:p++(x::u++(q++(y::v++s)))=p++x::(u++(q++y::(v++s))):=by simp
  have e1:∀a:X,p++a::(u++(q++y::(v++s)))=(p++a::(u++q))++y::(v++s):=λa=>by simp
  have hBl:∀a:X,B + i=(p++a::(u++q)).length:=λa=>by simp; omega
  rw[uM,if_pos (by simp; omega),wadd (by omega),wadd (by omega),e0]
  rw[e1 x,bZ (hBl x),GH,<-e1 x,bZ hA.symm,GH,GH,set_mid hA.symm,e1 y,bZ (hBl y),GH,set_mid (hBl y),qd (by omega)]
  have ih:=qQ (fu:=fu) (A:=A) (B:=B) (N:=N) u v (p++[y]) (q++[x]) s (i + 1) fk (by omega) (by omega) (by simp; omega) (by simp; omega) (by omega) (by simp; omega)
  have e2:p++y::(u++q)++x::(v++s)=(p++[y])++(u++((q++[x])++(v++s))):=by simp
  rw[e2,ih]
  simp
 | [],_::_,_,_,_,_,_,hl,_,_,_,_,_=>by simp at hl
 | _::_,[],_,_,_,_,_,hl,_,_,_,_,_=>by simp at hl
theorem tg {fu:Nat} (hfu:2097153<=fu) {A B N:Nat} {u v p q s:List X} (hl:u.length=v.length) (hA:p.length=A) (hB:p.length + u.length + q.length=B) (hN:N=u.length) (hs:p.length + u.length + q.length + v.length<=2097152):uS cf fu (p++(u++(q++(v++s)))) (A:Int) (B:Int) (N:Int)=some (p++(v++(q++(u++s)))):=by
 rw[uS];have:=qQ cf (fu:=fu) (A:=A) (B:=B) (N:=N) u v p q s 0 fu hl (by omega) (by omega) (by omega) (by omega) hs;rw[show ((0:Nat):Int)=0 from rfl]at this;rw[this,GH]
theorem nU {fu:Nat} (hfu:2097153<=fu) {M:Nat}:∀(n:Nat) (u v p s:List X) (fk:Nat),u.length + v.length<=n->n<fk->0<u.length->0<v.length->p.length + u.length=M->p.length + u.length + v.length<=2097152 ->
 ∃(p' u' v' s':List X),uJ cf fu (M:Int) fk (p++(u++(v++s))) (u.length:Int) (v.length:Int)=some (p'++(u'++(v'++s')),(u'.length:Int),(u'.length:Int))/\u'.length=v'.length/\p'.length + u'.length=M/\p'.length + u'.length + v'.length<=2097152/\p'++(v'++(u'++s'))=p++(v++(u++s))
 | 0,u,v,p,s,fk,hn,_,hu,_,_,_=>by omega
 | n + 1,u,v,p,s,fk,hn,hf,hu,hv,hM,hs=>by
  obtain⟨fk,rfl⟩:∃k,fk=k + 1:=⟨fk - 1,by omega⟩
  by_cases he:u.length=v.length
  · refine⟨p,u,v,s,?_,he,hM,hs,rfl⟩
    rw[uJ,if_neg (by rw[he]; simp),<-he]
  · have hne:((u.length:Int) != (v.length:Int))=true:=by simp; omega
    rw[uJ,if_pos hne]
    by_cases hg:v.length<u.length
    · rw[if_pos (by simp; omega),wsub (by omega) (by omega)]
      obtain⟨u1,u2,rfl,h1⟩:∃u1 u2,u=u1++u2/\u1.length=v.length:=⟨u.take v.length,u.drop v.length,(Ha _ _).symm,by rw[GO]; omega⟩
      rw[GL]at hn hu hM hs hg
      have e1:p++(u1++u2++(v++s))=p++(u1++(u2++(v++s))):=by simp
      rw[e1,tg cf hfu h1 (by rw[GL]; omega) (by omega) h1.symm (by omega),GH]
      have ih:=nU hfu (M:=M) n u2 u1 (p++v) s fk (by omega) (by omega) (by omega) (by omega) (by rw[GL]; omega) (by rw[GL]; omega)
      obtain⟨p',u',v',s',g1,g2,g3,g4,g5⟩:=ih
      refine⟨p',u',v',s',?_,g2,g3,g4,by rw[g5]; simp⟩
      rw[GL,wsub (by omega) (by omega),<-g1,<-h1,Ig]
      simp
    · rw[if_neg (by simp; omega),wsub (by omega) (by omega),wadd (by omega),wsub (by omega) (by omega)]
      obtain⟨v1,v2,rfl,h1⟩:∃v1 v2,v=v1++v2/\v2.length=u.length:=⟨v.take (v.length - u.length),v.drop (v.length - u.length),(Ha _ _).symm,by rw[Hd]; omega⟩
      rw[GL]at hn hv hs hg he ⊢
      have e1:p++(u++(v1++v2++s))=p++(u++(v1++(v2++s))):=by simp
      rw[e1,tg cf hfu h1.symm (by omega) (by omega) rfl (by omega),GH]
      have ih:=nU hfu (M:=M) n v2 v1 p (u++s) fk (by omega) (by omega) (by omega) (by omega) (by omega) (by omega)
      obtain⟨p',u',v',s',g1,g2,g3,g4,g5⟩:=ih
      refine⟨p',u',v',s',?_,g2,g3,g4,by rw[g5]; simp⟩
      rw[wsub (by omega) (by omega),<-g1,<-h1,Jq]
theorem DK {fu:Nat} (hfu:2097153<=fu) {A M B:Nat} {u v p s:List X} (hA:p.length=A) (hM:A + u.length=M) (hB:M + v.length=B) (hu:0<u.length) (hv:0<v.length) (hs:B<=2097152):uN cf fu (p++(u++(v++s))) (A:Int) (M:Int) (B:Int)=some (p++(v++(u++s))):=by
 rw[uN,wsub (by omega) (by omega),wsub (by omega) (by omega),show M - A=u.length by omega,show B - M=v.length by omega];obtain⟨p',u',v',s',g1,g2,g3,g4,g5⟩:=nU cf hfu (M:=M) (u.length + v.length) u v p s fu (GV _) (by omega) hu hv (by omega) (by omega);rw[g1,GH,wsub (by omega) (by omega)];have:=tg cf hfu (A:=M - u'.length) (B:=M) (N:=u'.length) (u:=u') (v:=v') (p:=p') (q:=[]) (s:=s') g2 (by omega) (by simp; omega) rfl (by simp; omega);simp only[Hi]at this;rw[this,GH,g5]
end
end
section
theorem pH {G:Nat->Int->Int->Option (Int×Int)} {P:Nat->Bool} {lo hi:Nat} (mono:∀q q',lo<=q->q<=q'->q'<hi->P q'=true->P q=true)
 (hG:∀(fk i j:Nat),lo<=i->i<j->j<=hi->G (fk + 1) (i:Int) (j:Int)=if P ((i + j) / 2)=true then G fk (((i + j) / 2 + 1:Nat):Int) (j:Int) else G fk (i:Int) (((i + j) / 2:Nat):Int)) (hE:∀(fk i:Nat),G (fk + 1) (i:Int) (i:Int)=some ((i:Int),(i:Int))) :
 ∀(n fk i j:Nat),j - i<=n->n<fk->lo<=i->i<=j->j<=hi->(∀q,lo<=q->q<i->P q=true)->(∀q,j<=q->q<hi->P q=false)->∃k:Nat,G fk (i:Int) (j:Int)=some ((k:Int),(k:Int))/\lo<=k/\k<=hi/\(∀q,lo<=q->q<k->P q=true)/\(∀q,k<=q->q<hi->P q=false)
 | n,fk,i,j,hn,hf,hi1,hij,hj,h1,h2=>by
  obtain⟨fk,rfl⟩:∃k,fk=k + 1:=⟨fk - 1,by omega⟩
  by_cases he:i=j
  · subst he
    exact⟨i,hE fk i,hi1,hj,h1,h2⟩
  · cases n with
    | zero=>omega
    | succ n =>
    rw[hG fk i j hi1 (by omega) hj]
    have hm1:i<=(i + j) / 2:=by omega
    have hm2:(i + j) / 2<j:=by omega
    by_cases hP:P ((i + j) / 2)=true
    · rw[if_pos hP]
      exact pH mono hG hE n fk ((i + j) / 2 + 1) j (by omega) (by omega) (by omega) (by omega) hj (λq hq1 hq2=>mono q _ hq1 (by omega) (by omega) hP) h2
    · rw[if_neg hP]
      refine pH mono hG hE n fk i ((i + j) / 2) (by omega) (by omega) hi1 hm1 (by omega) h1 λq hq1 hq2=>?_
      cases hq:P q with
      | false=>rfl
      | true=>exact absurd (mono _ q (by omega) hq1 hq2 hq) hP
section
variable {X:Type}
def CfOk (cf:X->X->Option Int) (key:X->Int) (U:X->Prop):Prop:=∀x y,U x->U y->∃c,cf x y=some c/\(c<0↔key x<key y)
variable {cf:X->X->Option Int} {key:X->Int} {pos:X->Nat} {U:X->Prop}
theorem CfOk.dec (h:CfOk cf key U) {x y:X} (hx:U x) (hy:U y) {β:Type} (f:Int->Option β) (g:Bool->Option β) (hg:∀c,f c=g (decide (c<0))):((cf x y).bind f)=g (decide (key x<key y)):=by
 obtain⟨c,hc,h1⟩:=h x y hx hy;rw[hc,GH,hg];congr 1;exact decide_eq_decide.2 h1
theorem BA {fu:Nat} {K:Nat}:∀(t p s:List X) (x:X) (a fk:Nat),p.length=a->t.length<fk->K=a + t.length + 1->K<=2097152->∃z,uE cf fu (K:Int) fk (p++x::(t++s)) (a:Int)=some (p++(t++x::s),z)
 | [],p,s,x,a,fk,hp,hf,hK,hs=>by
  obtain⟨fk,rfl⟩:∃k,fk=k + 1:=⟨fk - 1,by simp at hf; omega⟩
  simp only[HP,Hz]at hK
  refine⟨((a:Nat):Int),?_⟩
  rw[uE,qc (by omega) (by omega),if_neg (by simp; omega)]
  rfl
 | y::t,p,s,x,a,fk,hp,hf,hK,hs=>by
  obtain⟨fk,rfl⟩:∃k,fk=k + 1:=⟨fk - 1,by simp at hf; omega⟩
  simp only[Hq]at hK hf
  rw[uE,qc (by omega) (by omega),if_pos (by simp; omega),qd (by omega)]
  have e1:∀u:X,p++u::(y::t++s)=(p++[u])++y::(t++s):=λu=>by simp
  have hl:∀u:X,a + 1=(p++[u]).length:=λu=>by simp [hp]
  rw[e1 x,bZ (hl x),GH,<-e1 x,bZ hp.symm,GH,GH,set_mid hp.symm,e1 y,bZ (hl y),GH,set_mid (hl y)]
  obtain⟨z,hz⟩:=BA (fu:=fu) (K:=K) t (p++[y]) s x (a + 1) fk (by simp [hp]) (by omega) (by omega) hs
  rw[hz]
  exact⟨z,by simp⟩
theorem BB {fu:Nat} {p:List X} {K:Nat} (hK:K=p.length):∀(n:Nat) (t s:List X) (x:X) (fk:Nat),t.length=n->n<fk->p.length + n<=2097152->∃z,uy cf fu (K:Int) fk (p++(t++x::s)) ((p.length + t.length:Nat):Int)=some (p++x::(t++s),z)
 | 0,t,s,x,fk,hn,hf,hs=>by
  obtain⟨fk,rfl⟩:∃k,fk=k + 1:=⟨fk - 1,by omega⟩
  have ht:t=[]:=G6 hn
  subst ht
  refine⟨((p.length:Nat):Int),?_⟩
  show uy cf fu (K:Int) (fk + 1) _ ((p.length:Nat):Int)=_
  rw[uy,if_neg (by simp; omega)]
  rfl
 | n + 1,t,s,x,fk,hn,hf,hs=>by
  obtain⟨fk,rfl⟩:∃k,fk=k + 1:=⟨fk - 1,by omega⟩
  obtain⟨t',y,rfl⟩:∃t' y,t=t'++[y]:=by
   rcases List.eq_nil_or_concat t with h | ⟨t',y,h⟩
   · subst h; simp at hn
   · exact⟨t',y,by rw[h]; simp⟩
  have hn':t'.length=n:=by rw[GL,GY]at hn; omega
  have hlen:p.length + (t'++[y]).length=p.length + n + 1:=by rw[GL,GY]; omega
  rw[uy,hlen,if_pos (by simp; omega),qc (by omega) (by omega),Jq]
  have e1:∀u v:X,p++(t'++[u]++v::s)=(p++t'++[u])++v::s:=λu v=>by simp
  have e2:∀u v:X,p++t'++[u]++v::s=(p++t')++u::(v::s):=λu v=>by simp
  have hl1:∀u:X,p.length + n + 1=(p++t'++[u]).length:=λu=>by simp only[GL,GY,hn']
  have hl2:p.length + n=(p++t').length:=by simp only[GL,hn']
  rw[e1,e2,bZ hl2,GH,<-e2,bZ (hl1 y),GH,GH,set_mid (hl1 y),e2,bZ hl2,GH,set_mid hl2]
  obtain⟨z,hz⟩:=BB (fu:=fu) hK n t' (y::s) x fk hn' (by omega) (by omega)
  rw[hn']at hz
  refine⟨z,?_⟩
  rw[GN,hz]
  simp
theorem rC {p t s:List X} {i:Nat} (h1:p.length<=i) (h2:i<p.length + t.length):V_ (p++(t++s)) (i:Int)=some (t[i - p.length]'(by omega)):=by
 rw[vP (by simp; omega),Ji h1,Jo (by omega)]
theorem ko {t:List X} (hs:t.Pairwise (T_ key pos)) {i j:Nat} (h:i<=j) (hj:j<t.length):key (t[i]'(by omega))<key t[j]∨(key (t[i]'(by omega))=key t[j]/\pos (t[i]'(by omega))<=pos t[j]):=by
 by_cases e:i=j;subst e; exact .inr ⟨rfl,GV _⟩;have:=HM.1 hs i j (by omega) hj (by omega);unfold T_ at this;omega
theorem B1 {fu:Nat} (hfu:2097153<=fu) (hcf:CfOk cf key U) {p ys s:List X} {x:X} (hx:U x) (hy:∀y∈ys,U y) (hp:∀y∈ys,pos x<pos y) (hs:ys.Pairwise (T_ key pos)) (hl:p.length + ys.length + 1<=2097152) :
 ∃(k:Nat) (zs:List X),uk cf fu (p++x::(ys++s)) (p.length:Int) fu ((p.length + 1:Nat):Int) ((p.length + 1 + ys.length:Nat):Int)=some ((k:Int),(k:Int))/\(∃z,uE cf fu (k:Int) fu (p++x::(ys++s)) (p.length:Int)=some (p++(zs++s),z))/\zs.Perm (x::ys)/\zs.Pairwise (T_ key pos):=by
 have hat:∀(i:Nat) (h0:p.length + 1<=i) (h:i<p.length + 1 + ys.length),V_ (p++x::(ys++s)) (i:Int)=some (ys[i - (p.length + 1)]'(by omega)):=λi h1 h2=>by
  have e:p++x::(ys++s)=(p++[x])++(ys++s):=by simp
  have:=rC (p:=p++[x]) (t:=ys) (s:=s) (i:=i) (by simp; omega) (by simp; omega)
  rw[e,this]
  simp
 have hxat:V_ (p++x::(ys++s)) (p.length:Int)=some x:=bZ rfl;let P:Nat->Bool:=λi=>if h:i - (p.length + 1)<ys.length then decide (key ys[i - (p.length + 1)]<key x) else false
 have hPe:∀i (h:i - (p.length + 1)<ys.length),P i=decide (key ys[i - (p.length + 1)]<key x):=λi h=>dif_pos h;obtain⟨k,g1,g2,g3,g4,g5⟩:=pH (G:=λfk i j=>uk cf fu (p++x::(ys++s)) (p.length:Int) fk i j) (P:=P) (lo:=p.length + 1) (hi:=p.length + 1 + ys.length) (λq q' h1 h2 h3 h=>by
  rw[hPe q' (by omega),decide_eq_true_eq]at h
  rw[hPe q (by omega),decide_eq_true_eq]
  have:=ko hs (i:=q - (p.length + 1)) (j:=q' - (p.length + 1)) (by omega) (by omega)
  omega) (λfk i j h1 h2 h3=>by
  show uk cf fu _ _ (fk + 1) _ _=_
  rw[uk,if_pos (by simp; omega),s6 (by omega),GH,iS (by omega),hat _ (by omega) (by omega),GH,hxat,GH]
  rw[hcf.dec (hy _ (GW _)) hx _ (λb=>if b=true then uk cf fu (p++x::(ys++s)) (p.length:Int) fk (y_ ((((i + j) / 2:Nat):Int) + 1)) (j:Int) else uk cf fu (p++x::(ys++s)) (p.length:Int) fk (i:Int) (((i + j) / 2:Nat):Int)) (λc=>rfl)]
  rw[hPe _ (by omega),qd (by omega)]) (λfk i=>by
  show uk cf fu _ _ (fk + 1) _ _=_
  rw[uk,if_neg (by simp)]) ys.length fu (p.length + 1) (p.length + 1 + ys.length) (by omega) (by omega) (by omega) (by omega) (by omega) (λq h1 h2=>by omega) (λq h1 h2=>by omega)
 obtain⟨c,rfl⟩:∃c,k=p.length + 1 + c:=⟨k - (p.length + 1),by omega⟩;have hc:c<=ys.length:=by omega
 have hlen:(ys.take c).length=c:=by rw[GO]; omega
 refine⟨_,ys.take c++x::ys.drop c,g1,?_,?_,?_⟩;obtain⟨z,hz⟩:=BA (cf:=cf) (fu:=fu) (K:=p.length + 1 + c) (ys.take c) p (ys.drop c++s) x p.length fu rfl (by omega) (by omega) (by omega);refine⟨z,?_⟩;have e:ys.take c++(ys.drop c++s)=ys++s:=by rw[<-GN,Ha]
 rw[e]at hz;rw[hz];simp;refine Ik.trans (List.Perm.cons x ?_);rw[Ha];refine qy (by rw[Ha]; exact hs) (λy hy'=>?_) λy hy'=>?_;obtain⟨q,hq,rfl⟩:=G4.1 hy';rw[hlen]at hq;rw[Hu];have:=g4 (p.length + 1 + q) (by omega) (by omega);rw[hPe _ (by omega),decide_eq_true_eq]at this;simp only[Ig]at this;exact .inl this;obtain⟨q,hq,rfl⟩:=G4.1 hy';rw[Hd]at hq;rw[Im];have:=g5 (p.length + 1 + (c + q)) (by omega) (by omega);rw[hPe _ (by omega),decide_eq_false_iff_not]at this;simp only[Ig]at this;have hp':=hp ys[c + q] (GW _);unfold T_;omega
theorem An {fu:Nat} (hfu:2097153<=fu) (hcf:CfOk cf key U) {p xs s:List X} {y:X} (hy:U y) (hx:∀x∈xs,U x) (hp:∀x∈xs,pos x<pos y) (hs:xs.Pairwise (T_ key pos)) (hl:p.length + xs.length + 1<=2097152) :
 ∃(k:Nat) (zs:List X),uj cf fu (p++(xs++y::s)) ((p.length + xs.length:Nat):Int) fu (p.length:Int) ((p.length + xs.length:Nat):Int)=some ((k:Int),(k:Int))/\(∃z,uy cf fu (k:Int) fu (p++(xs++y::s)) ((p.length + xs.length:Nat):Int)=some (p++(zs++s),z))/\zs.Perm (xs++[y])/\zs.Pairwise (T_ key pos):=by
 have hat:∀(i:Nat) (h0:p.length<=i) (h:i<p.length + xs.length),V_ (p++(xs++y::s)) (i:Int)=some (xs[i - p.length]'(by omega)):=λi h1 h2=>rC h1 h2;have hyat:V_ (p++(xs++y::s)) ((p.length + xs.length:Nat):Int)=some y:=by
  rw[<-GN]
  exact bZ (by simp)
 let P:Nat->Bool:=λi=>if h:i - p.length<xs.length then !decide (key y<key xs[i - p.length]) else false
 have hPe:∀i (h:i - p.length<xs.length),P i=!decide (key y<key xs[i - p.length]):=λi h=>dif_pos h;obtain⟨k,g1,g2,g3,g4,g5⟩:=pH (G:=λfk i j=>uj cf fu (p++(xs++y::s)) ((p.length + xs.length:Nat):Int) fk i j) (P:=P) (lo:=p.length) (hi:=p.length + xs.length) (λq q' h1 h2 h3 h=>by
  rw[hPe q' (by omega),Hk,decide_eq_false_iff_not]at h
  rw[hPe q (by omega),Hk,decide_eq_false_iff_not]
  have:=ko hs (i:=q - p.length) (j:=q' - p.length) (by omega) (by omega)
  omega) (λfk i j h1 h2 h3=>by
  show uj cf fu _ _ (fk + 1) _ _=_
  rw[uj,if_pos (by simp; omega),s6 (by omega),GH,iS (by omega),hyat,GH,hat _ (by omega) (by omega),GH]
  rw[hcf.dec hy (hx _ (GW _)) _ (λb=>if (!b)=true then uj cf fu (p++(xs++y::s)) ((p.length + xs.length:Nat):Int) fk (y_ ((((i + j) / 2:Nat):Int) + 1)) (j:Int) else uj cf fu (p++(xs++y::s)) ((p.length + xs.length:Nat):Int) fk (i:Int) (((i + j) / 2:Nat):Int)) (λc=>rfl)]
  rw[hPe _ (by omega),qd (by omega)]) (λfk i=>by
  show uj cf fu _ _ (fk + 1) _ _=_
  rw[uj,if_neg (by simp)]) xs.length fu p.length (p.length + xs.length) (by omega) (by omega) (by omega) (by omega) (by omega) (λq h1 h2=>by omega) (λq h1 h2=>by omega)
 obtain⟨c,rfl⟩:∃c,k=p.length + c:=⟨k - p.length,by omega⟩;have hc:c<=xs.length:=by omega
 have hlen:(xs.take c).length=c:=by rw[GO]; omega
 refine⟨_,xs.take c++y::xs.drop c,g1,?_,?_,?_⟩;obtain⟨z,hz⟩:=BB (cf:=cf) (fu:=fu) (p:=p++xs.take c) (K:=p.length + c) (by rw[GL,hlen]) (xs.drop c).length (xs.drop c) s y fu rfl (by rw[Hd]; omega) (by rw[GL,hlen,Hd]; omega);refine⟨z,?_⟩;have e:p++xs.take c++(xs.drop c++y::s)=p++(xs++y::s):=by
  rw[GN,<-GN (xs.take c),Ha]
 have e2:(p++xs.take c).length + (xs.drop c).length=p.length + xs.length:=by rw[GL,hlen,Hd]; omega
 rw[e,e2]at hz;rw[hz];simp;refine Ik.trans ?_;rw[Ha];exact (Io (l₁:=[y]));refine qy (by rw[Ha]; exact hs) (λx hx'=>?_) λx hx'=>?_;obtain⟨q,hq,rfl⟩:=G4.1 hx';rw[hlen]at hq;rw[Hu];have:=g4 (p.length + q) (by omega) (by omega);rw[hPe _ (by omega),Hk,decide_eq_false_iff_not]at this;simp only[Ig]at this;have hp':=hp xs[q] (GW _);unfold T_;omega;obtain⟨q,hq,rfl⟩:=G4.1 hx';rw[Hd]at hq;rw[Im];have:=g5 (p.length + (c + q)) (by omega) (by omega);rw[hPe _ (by omega),IX,decide_eq_true_eq]at this;simp only[Ig]at this;exact .inl this
end
end
section
section
variable {X:Type} {cf:X->X->Option Int} {key:X->Int} {pos:X->Nat} {U:X->Prop}
theorem oK {G:Nat->Int->Int->Option (Int×Int)} {xs ys p s:List X} {A M B mid lo hi:Nat} {fu:Nat} (hfu:2097153<=fu) (hxs:xs.Pairwise (T_ key pos)) (hys:ys.Pairwise (T_ key pos)) (hp:∀x∈xs,∀y∈ys,pos x<pos y) (hA:p.length=A) (hM:A + xs.length=M) (hB:M + ys.length=B) (hmid:mid=(A + B) / 2) (hl:B<=2097152)
 (hc:(mid<M/\lo=mid + M - B/\hi=mid)∨(M<=mid/\lo=A/\hi=M)) (hx1:1<xs.length) (hy1:1<ys.length)
 (hG:∀(fk i j:Nat),lo<=i->i<j->j<=hi->∀(h1:(i + j) / 2 - A<xs.length) (h2:mid + M - 1 - (i + j) / 2 - M<ys.length),G (fk + 1) (i:Int) (j:Int)=if (!decide (key ys[mid + M - 1 - (i + j) / 2 - M]<key xs[(i + j) / 2 - A]))=true then G fk (((i + j) / 2 + 1:Nat):Int) (j:Int) else G fk (i:Int) (((i + j) / 2:Nat):Int)) (hE:∀(fk i:Nat),G (fk + 1) (i:Int) (i:Int)=some ((i:Int),(i:Int))) :
 ∃(st:Nat),G fu (lo:Int) (hi:Int)=some ((st:Int),(st:Int))/\A<=st/\st<=M/\M<=mid + M - st/\mid + M - st<=B/\st<=mid /\
   (∀a∈xs.take (st - A),∀b∈ys.drop (mid - st),T_ key pos a b)/\(∀a∈ys.take (mid - st),∀b∈xs.drop (st - A),T_ key pos a b):=by
 have hlo:A<=lo/\lo<=hi/\hi<=M/\hi<=mid/\mid + M<=B + lo:=by
  rcases hc with ⟨h1,h2,h3⟩ | ⟨h1,h2,h3⟩ <;> omega
 obtain⟨l1,l2,l3,l4,l5⟩:=hlo;have hr1:∀c,lo<=c->c<hi->c - A<xs.length/\mid + M - 1 - c - M<ys.length:=λc h1 h2=>by
  refine⟨by omega,?_⟩
  have:=l5
  omega
 let P:Nat->Bool:=λc=>if h:c - A<xs.length/\mid + M - 1 - c - M<ys.length then !decide (key (ys[mid + M - 1 - c - M]'h.2)<key (xs[c - A]'h.1)) else false
 have hPe:∀c (h1:c - A<xs.length) (h2:mid + M - 1 - c - M<ys.length),P c=!decide (key ys[mid + M - 1 - c - M]<key xs[c - A]):=λc h1 h2=>dif_pos ⟨h1,h2⟩;obtain⟨st,g1,g2,g3,g4,g5⟩:=pH (G:=G) (P:=P) (lo:=lo) (hi:=hi) (λq q' h1 h2 h3 h=>by
  obtain⟨a1,a2⟩:=hr1 q h1 (by omega)
  obtain⟨b1,b2⟩:=hr1 q' (by omega) h3
  rw[hPe q' b1 b2,Hk,decide_eq_false_iff_not]at h
  rw[hPe q a1 a2,Hk,decide_eq_false_iff_not]
  have e1:=ko hxs (i:=q - A) (j:=q' - A) (by omega) b1
  have e2:=ko hys (i:=mid + M - 1 - q' - M) (j:=mid + M - 1 - q - M) (by omega) a2
  omega) (λfk i j h1 h2 h3=>by
  obtain⟨a1,a2⟩:=hr1 ((i + j) / 2) (by omega) (by omega)
  rw[hG fk i j h1 h2 h3 a1 a2,hPe _ a1 a2]) hE (hi - lo) fu lo hi (GV _) (by omega) (GV _) l2 (GV _) (λq h1 h2=>by omega) (λq h1 h2=>by omega)
 refine⟨st,g1,by omega,by omega,by omega,by omega,by omega,λa ha b hb=>?_,λa ha b hb=>?_⟩;obtain⟨q,hq,rfl⟩:=G4.1 ha;obtain⟨r,hr,rfl⟩:=G4.1 hb;rw[GO]at hq;rw[Hd]at hr;rw[Hu,Im];have hpp:=hp xs[q] (GW _) ys[mid - st + r] (GW _);by_cases hlt:lo<st;obtain⟨a1,a2⟩:=hr1 (st - 1) (by omega) (by omega);have h4:=g4 (st - 1) (by omega) (by omega);rw[hPe _ a1 a2,Hk,decide_eq_false_iff_not]at h4;have e1:=ko hxs (i:=q) (j:=st - 1 - A) (by omega) a1;have e2:=ko hys (i:=mid + M - 1 - (st - 1) - M) (j:=mid - st + r) (by omega) (by omega);unfold T_;omega;rcases hc with ⟨h1,h2,h3⟩ | ⟨h1,h2,h3⟩ <;> omega
 obtain⟨q,hq,rfl⟩:=G4.1 ha;obtain⟨r,hr,rfl⟩:=G4.1 hb;rw[GO]at hq;rw[Hd]at hr;rw[Hu,Im];by_cases hlt:st<hi;obtain⟨a1,a2⟩:=hr1 st g2 hlt;have h4:=g5 st (GV _) hlt;rw[hPe _ a1 a2,IX,decide_eq_true_eq]at h4;have e1:=ko hxs (i:=st - A) (j:=st - A + r) (by omega) (by omega);have e2:=ko hys (i:=q) (j:=mid + M - 1 - st - M) (by omega) a2;unfold T_;omega;rcases hc with ⟨h1,h2,h3⟩ | ⟨h1,h2,h3⟩ <;> omega
theorem B2 (b c:Bool):(if b=true then some c else some false)=some (b&&c):=by cases b <;> rfl
theorem qP (hcf:CfOk cf key U):∀(n:Nat) (xs ys p s:List X) (f A M B:Nat),xs.length + ys.length<=n->0<xs.length->0<ys.length->2097153 + n<=f->p.length=A->A + xs.length=M->M + ys.length=B->B<=2097152->(∀x∈xs,U x)->(∀y∈ys,U y)->xs.Pairwise (T_ key pos)->ys.Pairwise (T_ key pos)->(∀x∈xs,∀y∈ys,pos x<pos y) ->
 ∃zs,uC cf f (p++(xs++(ys++s))) (A:Int) (M:Int) (B:Int)=some (p++(zs++s))/\zs.Perm (xs++ys)/\zs.Pairwise (T_ key pos)
 | 0,xs,ys,p,s,f,A,M,B,hn,hx,hy,_,_,_,_,_,_,_,_,_,_=>by omega
 | n + 1,xs,ys,p,s,f,A,M,B,hn,hx,hy,hf,hA,hM,hB,hl,hUx,hUy,hsx,hsy,hp=>by
  obtain⟨fu,rfl⟩:∃k,f=k + 1:=⟨f - 1,by omega⟩
  rw[uC]
  generalize hrec:(λdata a' m b6=>uC cf fu data a' m b6)=rec_
  have hfu:2097153<=fu:=by omega
  by_cases hx1:xs.length=1
  · obtain⟨x,rfl⟩:=JY.1 hx1
    rw[uZ,wsub (by omega) (by omega),if_pos (by simp; omega)]
    obtain⟨k,zs,g1,⟨z,g2⟩,g3,g4⟩:=B1 hfu hcf (p:=p) (ys:=ys) (s:=s) (x:=x) (hUx x (by simp)) hUy (hp x (by simp)) hsy (by simp at hM; omega)
    simp only[GY]at hM
    have e:p++([x]++(ys++s))=p++x::(ys++s):=by simp
    rw[hA,hM,hB]at g1
    rw[hA]at g2
    rw[e,g1,GH]
    dsimp only
    rw[g2,GH]
    exact⟨zs,rfl,g3,g4⟩
  by_cases hy1:ys.length=1
  · obtain⟨y,rfl⟩:=JY.1 hy1
    rw[uZ,wsub (by omega) (by omega),if_neg (by simp; omega),wsub (by omega) (by omega),if_pos (by simp at hB ⊢; omega)]
    obtain⟨k,zs,g1,⟨z,g2⟩,g3,g4⟩:=An hfu hcf (p:=p) (xs:=xs) (s:=s) (y:=y) (hUy y (by simp)) hUx (λx hx'=>hp x hx' y (by simp)) hsx (by simp at hB; omega)
    rw[hA,hM]at g1 g2
    rw[HY,g1,GH]
    dsimp only
    rw[g2,GH]
    exact⟨zs,rfl,g3,g4⟩
  have hat:∀(i:Nat) (h0:A<=i) (h:i<M),V_ (p++(xs++(ys++s))) (i:Int)=some (xs[i - A]'(by omega)):=λi h0 h=>by
   subst hA
   exact rC h0 (by omega)
  have hat2:∀(i:Nat) (h0:M<=i) (h:i<B),V_ (p++(xs++(ys++s))) (i:Int)=some (ys[i - M]'(by omega)):=λi h0 h=>by
   have hL:(p++xs).length=M:=by rw[GL]; omega
   subst hL
   rw[<-GN]
   exact rC h0 (by rw[GL]; omega)
  rw[uZ,wsub (by omega) (by omega),if_neg (by simp; omega),wsub (by omega) (by omega),if_neg (by simp; omega),s6 (by omega),GH]
  obtain⟨mid,hmid⟩:∃m,m=(A + B) / 2:=⟨_,rfl⟩
  rw[<-hmid,iS (by omega),wadd (by omega)]
  have fin:∀st:Nat,A<=st->st<=M->M<=mid + M - st->mid + M - st<=B->st<=mid->(∀a∈xs.take (st - A),∀b∈ys.drop (mid - st),T_ key pos a b)->(∀a∈ys.take (mid - st),∀b∈xs.drop (st - A),T_ key pos a b) ->
   ∃zs d d1,(if st<M/\M<mid + M - st then uN cf fu (p++(xs++(ys++s))) (st:Int) (M:Int) ((mid + M - st:Nat):Int)=some d else d=p++(xs++(ys++s))) /\
    ((A<st/\st<mid->rec_ d A st mid=some d1)/\(¬(A<st/\st<mid)->d1=d))/\((mid<mid + M - st/\mid + M - st<B->rec_ d1 mid (mid + M - st:Nat) B=some (p++(zs++s)))/\(¬(mid<mid + M - st/\mid + M - st<B)->p++(zs++s)=d1))/\zs.Perm (xs++ys)/\zs.Pairwise (T_ key pos):=by
   intro st k1 k2 k3 k4 k5 c1 c2
   obtain⟨x1,x2,hx12,lx1⟩:∃x1 x2,xs=x1++x2/\x1.length=st - A:=⟨xs.take (st - A),xs.drop (st - A),(Ha _ _).symm,by rw[GO]; omega⟩
   obtain⟨y1,y2,hy12,ly1⟩:∃y1 y2,ys=y1++y2/\y1.length=mid - st:=⟨ys.take (mid - st),ys.drop (mid - st),(Ha _ _).symm,by rw[GO]; omega⟩
   rw[hx12,hy12,<-lx1,<-ly1,Ja,J3]at c1
   rw[hx12,hy12,<-lx1,<-ly1,Ja,J3]at c2
   subst hx12; subst hy12
   rw[GL]at hn hx hy hM hB hx1 hy1
   rw[GL]at hn
   have hsx':=HJ.1 hsx
   have hsy':=HJ.1 hsy
   have hd:∃d,(if st<M/\M<mid + M - st then uN cf fu (p++(x1++x2++(y1++y2++s))) (st:Int) (M:Int) ((mid + M - st:Nat):Int)=some d else d=p++(x1++x2++(y1++y2++s)))/\d=p++(x1++(y1++(x2++(y2++s)))):=by
    by_cases hr:st<M/\M<mid + M - st
    · refine⟨_,?_,rfl⟩
      rw[if_pos hr]
      have:=DK cf hfu (A:=st) (M:=M) (B:=mid + M - st) (u:=x2) (v:=y1) (p:=p++x1) (s:=y2++s) (by rw[GL]; omega) (by omega) (by omega) (by omega) (by omega) (by omega)
      simp only[GN]at this ⊢
      exact this
    · refine⟨_,?_,rfl⟩
      rw[if_neg hr]
      have:x2=[]∨y1=[]:=by
       by_cases h:st<M
       · exact .inr (G6 (by omega))
       · exact .inl (G6 (by omega))
      rcases this with h | h <;> subst h <;> simp
   obtain⟨d,hd1,rfl⟩:=hd
   have hz1:∃z1,((A<st/\st<mid->rec_ (p++(x1++(y1++(x2++(y2++s))))) A st mid=some (p++(z1++(x2++(y2++s)))))/\(¬(A<st/\st<mid)->z1=x1++y1))/\z1.Perm (x1++y1)/\z1.Pairwise (T_ key pos):=by
    by_cases hr:A<st/\st<mid
    · obtain⟨z1,q1,q2,q3⟩:=qP hcf n x1 y1 p (x2++(y2++s)) fu A st mid (by omega) (by omega) (by omega) (by omega) hA (by omega) (by omega) (by omega) (λx hx'=>hUx x (GI.2 (.inl hx'))) (λx hx'=>hUy x (GI.2 (.inl hx'))) hsx'.1 hsy'.1 (λx hx' y hy'=>hp x (GI.2 (.inl hx')) y (GI.2 (.inl hy')))
      exact⟨z1,⟨λ_=>by rw[<-hrec]; exact q1,λh=>absurd hr h⟩,q2,q3⟩
    · have:x1=[]∨y1=[]:=by
       by_cases h:A<st
       · exact .inr (G6 (by omega))
       · exact .inl (G6 (by omega))
      refine⟨x1++y1,⟨λh=>absurd h hr,λ_=>rfl⟩,Iw _,?_⟩
      rcases this with h | h <;> subst h
      · rw[Hi]; exact hsy'.1
      · rw[G8]; exact hsx'.1
   obtain⟨z1,⟨hz1a,hz1b⟩,hz1p,hz1s⟩:=hz1
   have lz1:z1.length=x1.length + y1.length:=by rw[hz1p.length_eq,GL]
   have hz2:∃z2,((mid<mid + M - st/\mid + M - st<B->rec_ (p++(z1++(x2++(y2++s)))) mid (mid + M - st:Nat) B=some (p++(z1++(z2++s))))/\(¬(mid<mid + M - st/\mid + M - st<B)->z2=x2++y2))/\z2.Perm (x2++y2)/\z2.Pairwise (T_ key pos):=by
    by_cases hr:mid<mid + M - st/\mid + M - st<B
    · obtain⟨z2,q1,q2,q3⟩:=qP hcf n x2 y2 (p++z1) s fu mid (mid + M - st) B (by omega) (by omega) (by omega) (by omega) (by rw[GL]; omega) (by omega) (by omega) (by omega) (λx hx'=>hUx x (GI.2 (.inr hx'))) (λx hx'=>hUy x (GI.2 (.inr hx'))) hsx'.2.1 hsy'.2.1 (λx hx' y hy'=>hp x (GI.2 (.inr hx')) y (GI.2 (.inr hy')))
      refine⟨z2,⟨λ_=>?_,λh=>absurd hr h⟩,q2,q3⟩
      rw[<-hrec]
      simp only[GN]at q1 ⊢
      exact q1
    · have:x2=[]∨y2=[]:=by
       by_cases h:mid<mid + M - st
       · exact .inr (G6 (by omega))
       · exact .inl (G6 (by omega))
      refine⟨x2++y2,⟨λh=>absurd h hr,λ_=>rfl⟩,Iw _,?_⟩
      rcases this with h | h <;> subst h
      · rw[Hi]; exact hsy'.2.1
      · rw[G8]; exact hsx'.2.1
   obtain⟨z2,⟨hz2a,hz2b⟩,hz2p,hz2s⟩:=hz2
   obtain⟨m1,m2⟩:=qq c1 c2 hsx hsy hz1p hz2p hz1s hz2s
   refine⟨z1++z2,_,p++(z1++(x2++(y2++s))),hd1,⟨hz1a,λh=>?_⟩,⟨λh=>?_,λh=>?_⟩,m2,m1⟩
   · rw[hz1b h]; simp
   · rw[hz2a h]; simp
   · rw[hz2b h]; simp
  have key2:∀st:Nat,A<=st->st<=M->M<=mid + M - st->mid + M - st<=B->st<=mid->(∀a∈xs.take (st - A),∀b∈ys.drop (mid - st),T_ key pos a b)->(∀a∈ys.take (mid - st),∀b∈xs.drop (st - A),T_ key pos a b) ->
   ∃zs,((if decide ((st:Int)<(M:Int))=true then some (decide ((M:Int)<(y_ (((mid + M:Nat):Int) - (st:Int))))) else some false).bind λc2=>(if c2=true then (uN cf fu (p++(xs++(ys++s))) (st:Int) (M:Int) (y_ (((mid + M:Nat):Int) - (st:Int)))).bind λy4=>some y4 else some (p++(xs++(ys++s)))).bind λz6=>(if decide ((A:Int)<(st:Int))=true then some (decide ((st:Int)<(mid:Int))) else some false).bind λc3=>(if c3=true then (rec_ z6 A st mid).bind λy5=>some y5 else some z6).bind λz5=>(if decide ((mid:Int)<(y_ (((mid + M:Nat):Int) - (st:Int))))=true then some (decide ((y_ (((mid + M:Nat):Int) - (st:Int)))<(B:Int))) else some false).bind λc4=>if c4=true then (rec_ z5 mid (y_ (((mid + M:Nat):Int) - (st:Int))) B).bind λy6=>some y6 else some z5)=some (p++(zs++s))/\zs.Perm (xs++ys)/\zs.Pairwise (T_ key pos):=by
   intro st k1 k2 k3 k4 k5 c1 c2
   obtain⟨zs,d,d1,f1,⟨f2,f2'⟩,⟨f3,f3'⟩,f4,f5⟩:=fin st k1 k2 k3 k4 k5 c1 c2
   refine⟨zs,?_,f4,f5⟩
   rw[wsub (by omega) (by omega)]
   simp only[B2,GH]
   have e1:(if (decide ((st:Int)<(M:Int))&&decide ((M:Int)<((mid + M - st:Nat):Int)))=true then (uN cf fu (p++(xs++(ys++s))) (st:Int) (M:Int) ((mid + M - st:Nat):Int)).bind λy4=>some y4 else some (p++(xs++(ys++s))))=some d:=by
    by_cases hr:st<M/\M<mid + M - st
    · rw[if_pos hr]at f1
      rw[if_pos (by simpa using hr),f1]; rfl
    · rw[if_neg hr]at f1
      rw[if_neg (by simpa using hr),f1]
   have e2:(if (decide ((A:Int)<(st:Int))&&decide ((st:Int)<(mid:Int)))=true then (rec_ d A st mid).bind λy5=>some y5 else some d)=some d1:=by
    by_cases hr:A<st/\st<mid
    · rw[if_pos (by simpa using hr),f2 hr]; rfl
    · rw[if_neg (by simpa using hr),f2' hr]
   have e3:(if (decide ((mid:Int)<((mid + M - st:Nat):Int))&&decide (((mid + M - st:Nat):Int)<(B:Int)))=true then (rec_ d1 mid ((mid + M - st:Nat):Int) B).bind λy6=>some y6 else some d1)=some (p++(zs++s)):=by
    by_cases hr:mid<mid + M - st/\mid + M - st<B
    · rw[if_pos (by simpa using hr),f3 hr]; rfl
    · rw[if_neg (by simpa using hr),f3' hr]
   rw[e1,GH,e2,GH,e3]
  have hG0:∀c:Nat,c<=mid + M->y_ (y_ (((mid + M:Nat):Int) - 1) - y_ (c:Int))=((mid + M - 1 - c:Nat):Int)∨mid + M - 1<c:=λc hc=>by
   by_cases h:c<=mid + M - 1
   · left
     rw[qc (by omega) (by omega),iS (by omega),wsub h (by omega)]
   · right; omega
  have hcut:∀(fk i j:Nat) (G:Nat->Int->Int->Option (Int×Int)) (h0:A<=(i + j) / 2) (h1:(i + j) / 2<M) (h2:M<=mid + M - 1 - (i + j) / 2) (h3:mid + M - 1 - (i + j) / 2<B),
   ((V_ (p++(xs++(ys++s))) (y_ (y_ (((mid + M:Nat):Int) - 1) - y_ (((i + j) / 2:Nat):Int)))).bind λe13=>(V_ (p++(xs++(ys++s))) (y_ (((i + j) / 2:Nat):Int))).bind λe14=>(cf e13 e14).bind λy3=>if (!decide (y3<0))=true then G fk (y_ (y_ (((i + j) / 2:Nat):Int) + 1)) (j:Int) else G fk (i:Int) (y_ (((i + j) / 2:Nat):Int)))
     = if (!decide (key (ys[mid + M - 1 - (i + j) / 2 - M]'(by omega))<key (xs[(i + j) / 2 - A]'(by omega))))=true then G fk (((i + j) / 2 + 1:Nat):Int) (j:Int) else G fk (i:Int) (((i + j) / 2:Nat):Int):=by
   intro fk i j G h0 h1 h2 h3
   have e:=(hG0 ((i + j) / 2) (by omega)).resolve_right (by omega)
   rw[e,hat2 _ h2 h3,GH,iS (by omega),hat _ h0 h1,GH,qd (by omega)]
   exact hcf.dec (hUy _ (GW _)) (hUx _ (GW _)) _ (λb=>if (!b)=true then G fk (((i + j) / 2 + 1:Nat):Int) (j:Int) else G fk (i:Int) (((i + j) / 2:Nat):Int)) λc=>rfl
  by_cases hMm:mid<M
  · rw[if_pos (by simpa using hMm),wsub (by omega) (by omega)]
    simp only[GH]
    obtain⟨st,g1,g2,g3,g4,g5,g6,g7,g8⟩:=oK (G:=λfk i j=>ue cf fu (p++(xs++(ys++s))) (M:Int) (mid:Int) fk i j) (fu:=fu) (xs:=xs) (ys:=ys) (p:=p) (s:=s) (A:=A) (M:=M) (B:=B) (mid:=mid) (lo:=mid + M - B) (hi:=mid) hfu hsx hsy hp hA hM hB hmid hl (.inl ⟨hMm,rfl,rfl⟩) (by omega) (by omega) (λfk i j h1 h2 h3 a1 a2=>by
     show ue cf fu _ _ _ (fk + 1) _ _=_
     rw[ue,if_pos (by simp; omega),s6 (by omega),GH,iS (a:=mid) (by omega),wadd (by omega)]
     exact hcut fk i j (λfk i j=>ue cf fu (p++(xs++(ys++s))) (M:Int) (mid:Int) fk i j) (by omega) (by omega) (by omega) (by omega)) (λfk i=>by
     show ue cf fu _ _ _ (fk + 1) _ _=_
     rw[ue,if_neg (by simp)])
    obtain⟨zs,q1,q2,q3⟩:=key2 st g2 g3 g4 g5 g6 g7 g8
    have g1':ue cf fu (p++(xs++(ys++s))) (M:Int) (mid:Int) fu ((mid + M - B:Nat):Int) (mid:Int)=some ((st:Int),(st:Int)):=g1
    rw[g1',GH]
    exact⟨zs,q1,q2,q3⟩
  · rw[if_neg (by simpa using hMm)]
    simp only[GH]
    obtain⟨st,g1,g2,g3,g4,g5,g6,g7,g8⟩:=oK (G:=λfk i j=>ue cf fu (p++(xs++(ys++s))) (M:Int) (mid:Int) fk i j) (fu:=fu) (xs:=xs) (ys:=ys) (p:=p) (s:=s) (A:=A) (M:=M) (B:=B) (mid:=mid) (lo:=A) (hi:=M) hfu hsx hsy hp hA hM hB hmid hl (.inr ⟨by omega,rfl,rfl⟩) (by omega) (by omega) (λfk i j h1 h2 h3 a1 a2=>by
     show ue cf fu _ _ _ (fk + 1) _ _=_
     rw[ue,if_pos (by simp; omega),s6 (by omega),GH,iS (a:=mid) (by omega),wadd (by omega)]
     exact hcut fk i j (λfk i j=>ue cf fu (p++(xs++(ys++s))) (M:Int) (mid:Int) fk i j) (by omega) (by omega) (by omega) (by omega)) (λfk i=>by
     show ue cf fu _ _ _ (fk + 1) _ _=_
     rw[ue,if_neg (by simp)])
    obtain⟨zs,q1,q2,q3⟩:=key2 st g2 g3 g4 g5 g6 g7 g8
    have g1':ue cf fu (p++(xs++(ys++s))) (M:Int) (mid:Int) fu (A:Int) (M:Int)=some ((st:Int),(st:Int)):=g1
    rw[g1',GH]
    exact⟨zs,q1,q2,q3⟩
end
end
end AT
