/- Serving in the order of falling costs, and the best rule, plainly: the program's and the reference's are one. -/
import Derived.Test.YtlemonjnolciiaaGreatQBr1
set_option linter.unusedVariables false
set_option linter.unusedSimpArgs false
namespace AT
variable {n:Nq} {F:List Ng} {L:List Nd}
theorem cstF (h:gv n F L=true):dt F=true/\eS n L=true/\∀d∈L,Q2 n F d=true:=by
 unfold gv at h;simp only[GP,HH]at h;exact⟨h.1,h.2.1,h.2.2⟩
theorem jP:∀e∈ordN (cstL n F L),e<L.length:=λe he=>by
 have:=f7 he
 unfold cstL at this
 rwa [Hn]at this
theorem kU:(ordN (cstL n F L)).length=L.length:=by
 unfold ordN cstL;rw[gO,Hn]
def kC (p:Nh) (F:List Ng) (L:List Nd) (fit:Int):Bool:=lw p F L fit&&gv p.Nq F L
def sioB (p:Nh) (F:List Ng) (L:List Nd) (fit:Int):SvS:=Ao p F L fit (ordN (cstL p.Nq F L))
def sioR (p:Nh) (F:List Ng) (L:List Nd) (fit:Int):Rq×Bool:=if kC p F L fit=true then (⟨(sioB p F L fit).p,(sioB p F L fit).ids,(sioB p F L fit).bl⟩,true) else (oE,false)
theorem tu {p:Nh} (fit:Int) (h:gv p.Nq F L=true):rJ p F L fit (ordN (cstL p.Nq F L))=(⟨(sioB p F L fit).p,(sioB p F L fit).ids,(sioB p F L fit).bl⟩,true):=by
 unfold rJ;rw[if_pos];rfl;intro e he;have:=(cstF h).2.2 _ (zx R0 (jP e he));unfold Q2 at this;simp only[GP,decide_eq_true_eq]at this;exact this.1
theorem qj {fu:Nat} (hfu:4194306<=fu) {p:Nh} (hB:cg p) {F:List Ng} (hF:F.length<=7) {L:List Nd} (hL:L.length<=13) (fit:Int):yg fu p F L fit=some (sioR p F L fit):=by
 unfold yg sioR kC;rw[pg hfu hB.1 hF hL,GH,pw (by omega) p F L fit hB hF hL];cases hc:gv p.Nq F L with
 | false=>rw[Bool.and_false]; rfl
 | true =>
  cases hs:lw p F L fit with
  | false=>rfl
  | true =>
   obtain⟨h1,h2,h3⟩:=Dp hs
   obtain⟨h4,h5,h6⟩:=sD h3
   rw[if_pos rfl,if_neg (by simp),GH,GH,if_neg (by decide)]
   dsimp only
   unfold ordP
   rw[rP hfu hB h1 h2 h6 h5 fit _ jP (by rw[kU]; omega),tu fit hc]
   rfl
theorem B4 {fu:Nat} (hfu:4194306<=fu) {p:Nh} (hB:cg p) {F:List Ng} (hF:F.length<=7) {L:List Nd} (hL:L.length<=13) (fit:Int):aJ fu p F L fit=some (sioR p F L fit):=by
 unfold aJ sioR kC;rw[qv (by omega) p F L fit hB hF hL,GH,tX hfu hB.1 hF hL];cases hs:lw p F L fit with
 | false=>rfl
 | true =>
  cases hc:gv p.Nq F L with
  | false=>rfl
  | true =>
   obtain⟨h1,h2,h3⟩:=Dp hs
   obtain⟨h4,h5,h6⟩:=sD h3
   rw[if_neg (by decide),if_pos rfl,GH,if_neg (by simp)]
   dsimp only
   unfold ordP
   rw[qk (by omega) hB h1 h2 h6 h5 fit _ jP (by rw[kU]; omega),tu fit hc]
   rfl
def V1 (p:Nh) (F:List Ng) (L:List Nd) (fit:Int):Int:=(sioB p F L fit).bl
def brB (a b c:Int):Int×Int:=if b<a then (if c<b then (3,c) else (2,b)) else (if c<a then (3,c) else (1,a))
def brR (p:Nh) (F:List Ng) (L:List Nd):Int×Int×Bool:=if kC p F L 1=true then ((brB (V1 p F L 1) (V1 p F L 2) (V1 p F L 3)).1,(brB (V1 p F L 1) (V1 p F L 2) (V1 p F L 3)).2,true) else (0,0,false)
variable {fu:Nat}
theorem jk {p:Nh} :kC p F L 2=kC p F L 1/\kC p F L 3=kC p F L 1:=⟨rfl,rfl⟩
theorem BU (hfu:4194306<=fu) {p:Nh} (hB:cg p) {F:List Ng} (hF:F.length<=7) {L:List Nd} (hL:L.length<=13):ce fu p F L=some (brR p F L):=by
 obtain⟨k,hk⟩:∃k,fu=k + 1 + 1 + 1 + 1:=⟨fu - 4,by omega⟩;have e:∀fit,yg fu p F L fit=some (sioR p F L fit):=qj hfu hB hF hL;have s2:=(jk (p:=p) (F:=F) (L:=L)).1;have s3:=(jk (p:=p) (F:=F) (L:=L)).2;unfold ce;rw[show vg fu p F L fu 0 0 1=vg fu p F L (k + 1 + 1 + 1 + 1) 0 0 1 by rw[<-hk],vg,if_pos (by decide),e,GH];unfold brR;cases hs:kC p F L 1 with
 | false =>
  have e1:sioR p F L 1=(oE,false):=by unfold sioR; rw[hs]; rfl
  rw[e1]; rfl
 | true =>
  have e1:sioR p F L 1=(⟨(sioB p F L 1).p,(sioB p F L 1).ids,V1 p F L 1⟩,true):=by unfold sioR; rw[hs]; rfl
  have e2:sioR p F L 2=(⟨(sioB p F L 2).p,(sioB p F L 2).ids,V1 p F L 2⟩,true):=by unfold sioR; rw[s2,hs]; rfl
  have e3:sioR p F L 3=(⟨(sioB p F L 3).p,(sioB p F L 3).ids,V1 p F L 3⟩,true):=by unfold sioR; rw[s3,hs]; rfl
  rw[e1,if_neg (by simp),if_pos (by decide),GH,if_pos rfl,show y_ (1 + 1)=2 from rfl,vg,if_pos (by decide),e,e2,GH,if_neg (by simp),if_neg (by decide),GH]
  dsimp only
  rw[show y_ (2 + 1)=3 from rfl]
  unfold brB
  by_cases h2:V1 p F L 2<V1 p F L 1
  · rw[decide_eq_true h2,if_pos rfl,vg,if_pos (by decide),e,e3,GH,if_neg (by simp),if_neg (by decide),GH,if_pos h2]
    dsimp only
    by_cases h3:V1 p F L 3<V1 p F L 2
    · rw[decide_eq_true h3,if_pos rfl,if_pos h3,show y_ (3 + 1)=4 from rfl,vg,if_neg (by decide)]; rfl
    · rw[decide_eq_false h3,if_neg (by decide),if_neg h3,show y_ (3 + 1)=4 from rfl,vg,if_neg (by decide)]; rfl
  · rw[decide_eq_false h2,if_neg (by decide),vg,if_pos (by decide),e,e3,GH,if_neg (by simp),if_neg (by decide),GH,if_neg h2]
    dsimp only
    by_cases h3:V1 p F L 3<V1 p F L 1
    · rw[decide_eq_true h3,if_pos rfl,if_pos h3,show y_ (3 + 1)=4 from rfl,vg,if_neg (by decide)]; rfl
    · rw[decide_eq_false h3,if_neg (by decide),if_neg h3,show y_ (3 + 1)=4 from rfl,vg,if_neg (by decide)]; rfl
theorem Es (hfu:4194306<=fu) {p:Nh} (hB:cg p) {F:List Ng} (hF:F.length<=7) {L:List Nd} (hL:L.length<=13):dc fu p F L=some (brR p F L):=by
 have h:∀fk a b c,yu fu p F L fk a b c=vg fu p F L fk a b c:=by
  intro fk
  induction fk with
  | zero=>intro a b c; rfl
  | succ fk ih =>
   intro a b c
   rw[yu,vg,qj hfu hB hF hL,B4 hfu hB hF hL,GH,GH]
   simp only[ih]
 rw[<-BU hfu hB hF hL];unfold dc ce;rw[h]
theorem wt (hfu:4194306<=fu) {p:Nh} (hB:cg p) {F:List Ng} (hF:F.length<=7) {L:List Nd} (hL:L.length<=13) (hs:kC p F L 1=true):∃z,vD fu (p,F,L) (brR p F L) fu 1=some (.next z):=by
 obtain⟨k,hk⟩:∃k,fu=k + 1 + 1 + 1 + 1:=⟨fu - 4,by omega⟩;have e:∀fit,yg fu p F L fit=some (sioR p F L fit):=qj hfu hB hF hL;have s2:=(jk (p:=p) (F:=F) (L:=L)).1;have s3:=(jk (p:=p) (F:=F) (L:=L)).2;have e1:sioR p F L 1=(⟨(sioB p F L 1).p,(sioB p F L 1).ids,V1 p F L 1⟩,true):=by unfold sioR; rw[hs]; rfl
 have e2:sioR p F L 2=(⟨(sioB p F L 2).p,(sioB p F L 2).ids,V1 p F L 2⟩,true):=by unfold sioR; rw[s2,hs]; rfl
 have e3:sioR p F L 3=(⟨(sioB p F L 3).p,(sioB p F L 3).ids,V1 p F L 3⟩,true):=by unfold sioR; rw[s3,hs]; rfl
 obtain⟨f,b,he,h1,h2,h3⟩:∃f b,brR p F L=(f,b,true)/\(b<=V1 p F L 1/\(1=f->V1 p F L 1=b))/\(b<=V1 p F L 2/\(2=f->V1 p F L 2=b))/\(b<=V1 p F L 3/\(3=f->V1 p F L 3=b)):=by
  unfold brR brB
  rw[hs]
  by_cases h2:V1 p F L 2<V1 p F L 1
  · by_cases h3:V1 p F L 3<V1 p F L 2
    · refine⟨3,V1 p F L 3,?_,?_⟩
      · rw[if_pos rfl,if_pos h2,if_pos h3]
      · omega
    · refine⟨2,V1 p F L 2,?_,?_⟩
      · rw[if_pos rfl,if_pos h2,if_neg h3]
      · omega
  · by_cases h3:V1 p F L 3<V1 p F L 1
    · refine⟨3,V1 p F L 3,?_,?_⟩
      · rw[if_pos rfl,if_neg h2,if_pos h3]
      · omega
    · refine⟨1,V1 p F L 1,?_,?_⟩
      · rw[if_pos rfl,if_neg h2,if_neg h3]
      · omega
 rw[he,show vD fu (p,F,L) (f,b,true) fu 1=vD fu (p,F,L) (f,b,true) (k + 1 + 1 + 1 + 1) 1 by rw[<-hk]];have step:∀(fk:Nat) (i:Int) (q:Nh) (ids:d_) (bl:Int),i<=3->sioR p F L i=(⟨q,ids,bl⟩,true)->b<=bl->(i=f->bl=b)->vD fu (p,F,L) (f,b,true) (fk + 1) i=vD fu (p,F,L) (f,b,true) fk (y_ (i + 1)):=by
  intro fk i q ids bl hi hr hb hf
  rw[vD,if_pos (by simpa using hi)]
  dsimp only
  rw[e,hr,GH,if_neg (by simp),if_neg (by simpa using hb)]
  dsimp only
  by_cases hif:i=f
  · have hbb:=hf hif
    have:(bl != b)=false:=by rw[hbb]; simp
    rw[if_pos (by simpa using hif),this,GH,if_neg (by decide)]
  · rw[if_neg (by simpa using hif),GH,if_neg (by decide)]
 rw[step (k + 1 + 1 + 1) 1 _ _ _ (by decide) e1 h1.1 h1.2,show y_ (1 + 1)=2 from rfl,step (k + 1 + 1) 2 _ _ _ (by decide) e2 h2.1 h2.2,show y_ (2 + 1)=3 from rfl,step (k + 1) 3 _ _ _ (by decide) e3 h3.1 h3.2,show y_ (3 + 1)=4 from rfl,vD,if_neg (by decide)];exact⟨_,rfl⟩
theorem w9 (hfu:4194306<=fu) {n:Nq} (hB:NetB n) {F:List Ng} (hF:F.length<=7) {L:List Nd} (hc:gv n F L=true) {d:Nd} (hd:d∈L):cy fu n F [d]=some (minC n F d,true):=by
 obtain⟨h1,h2,h3⟩:=cstF hc;obtain⟨h4,h5,h6⟩:=sD h2;have hc1:gv n F [d]=true:=by
  unfold gv eS
  rw[h1,h4]
  simp only[GY,Jn,List.all_nil,h6 d hd,h3 d hd]
  rfl
 have hin:=wj (netF h4) (fmtF h1) (demF (h6 d hd));obtain⟨k,hk⟩:∃k,fu=k + 1 + 1:=⟨fu - 2,by omega⟩;unfold cy fg;rw[nm hfu hB hF (by simp),hc1,if_pos rfl,GH];dsimp only;rw[show [d].map (minC n F)=[minC n F d] from rfl,show yo fu [minC n F d] fu 0 0=yo fu [minC n F d] (k + 1 + 1) 0 0 by rw[<-hk],yo,if_pos (by simp)];have e:V_ [minC n F d] 0=some (minC n F d):=rfl;rw[e,GH,Kb,va (by omega) (by omega),show y_ (0 + 1)=1 from rfl,yo,if_neg (by simp)];rfl
theorem pp {fu:Nat} (hfu:4194306<=fu) {p:Nh} (hB:NetB p.Nq) {F:List Ng} (hF:F.length<=7) {L:List Nd} (hL:L.length<=13) (hc:gv p.Nq F L=true):∀(fk i:Nat) (last:Int),i<=L.length->L.length - i<fk->(∀h:i<(ordN (cstL p.Nq F L)).length,minC p.Nq F (gd L (ordN (cstL p.Nq F L))[i] R0)<=last) ->
 ∃z,yn fu (p,F,L) (ordP (cstL p.Nq F L),true) fk last i=some (.next z)
 | 0,i,last,hi,hf,hb=>by omega
 | fk + 1,i,last,hi,hf,hb=>by
  have hlen:=kU (n:=p.Nq) (F:=F) (L:=L)
  have hlp:(ordP (cstL p.Nq F L)).length=L.length:=by unfold ordP; rw[Hn,hlen]
  rw[yn]
  dsimp only
  rw[hlp]
  by_cases h:i<L.length
  · have ho:i<(ordN (cstL p.Nq F L)).length:=by omega
    have hx:=jP (n:=p.Nq) (F:=F) (L:=L) _ (GW ho)
    have e1:V_ (ordP (cstL p.Nq F L)) (i:Int)=some (((ordN (cstL p.Nq F L))[i]:Nat):Int):=by
     rw[vP (by omega)]
     unfold ordP
     rw[IF]
    rw[if_pos (by simpa using h),e1,GH,xC R0 hx,GH,w9 hfu hB hF hc (zx R0 hx),GH,if_neg (by simp)]
    dsimp only
    rw[decide_eq_false (by have:=hb ho; omega),GH,if_neg (by decide),vV h (by omega)]
    refine pp hfu hB hF hL hc fk (i + 1) _ h (by omega) λh2=>?_
    have hx2:=jP (n:=p.Nq) (F:=F) (L:=L) _ (GW h2)
    have hs:=HM.1 (eY (keyD (cstL p.Nq F L)) (cstL p.Nq F L).length) i (i + 1) ho h2 (by omega)
    have hk:∀j:Nat,j<L.length->keyD (cstL p.Nq F L) j=- minC p.Nq F (gd L j R0):=λj hj=>by
     unfold keyD cstL
     rw[ig (minC p.Nq F) R0 0 hj]
    unfold T_ at hs
    have a1:=hk _ hx
    have a2:=hk _ hx2
    unfold ordN at a1 a2 ⊢
    omega
  · rw[if_neg (by simpa using h)]
    exact⟨_,rfl⟩
end AT
namespace AT
abbrev EA:=Nat->List Ng->Int->List By->Int->U64->Option (List Ng×Int×List By×Int×U64)
variable {fu:Nat}
theorem wM (G:EA) (hG:∀fk l k m m2 m3,G (fk + 1) l k m m2 m3=(um fu (⟨m,m2,m3⟩:Np) 2).bind λy7 =>
 if decide ((l.length:Int)<(y_ (6 + y7.1))) then (M_ l [({ Reach:=y_ (200 - (y_ (10 * k))),Ph:=y_ (90 + k) }:Ng)]).bind λl3=>G fk l3 (y_ (k + 1)) y7.2.code y7.2.at_ y7.2.seed
 else some (l,k,y7.2.code,y7.2.at_,y7.2.seed)):∀(fk:Nat) (l:List Ng) (j:Int) (b:List By) (a:Int) (s:U64) (k B:Int),Cur ⟨b,a,s⟩ k->l.length<=7->8 - l.length<fk->k + 2 * ((8 - l.length:Nat):Int)<=B->B<=800000000 ->
 ∃l' j' b' a' s',G fk l j b a s=some (l',j',b',a',s')/\l'.length<=7/\Cur ⟨b',a',s'⟩ B:=by
 intro fk
 induction fk with
 | zero=>intro l _ _ _ _ _ _ _ _ h; omega
 | succ fk ih =>
  intro l j b a s k B hc hl hf hk hB
  rw[hG]
  obtain⟨r1,c1,g1,p0,p1,k1⟩:=vJ (fu:=fu) hc (by omega) 2 (by decide)
  have p2:=p1 (by decide)
  have e:y_ (6 + r1)=6 + r1:=va (by omega) (by omega)
  rw[g1,GH]
  dsimp only
  rw[e]
  by_cases h:(l.length:Int)<6 + r1
  · rw[if_pos (by simpa using h),app1 (by omega),GH]
    exact ih _ _ _ _ _ (k + 2) B k1 (by simp; omega) (by simp; omega) (by simp; omega) hB
  · rw[if_neg (by simpa using h)]
    exact⟨_,_,_,_,_,rfl,hl,k1.mono (by omega)⟩
theorem lY (hfu:2097153<=fu) (G:EA) (hG:∀fk l k m m2 m3,G (fk + 1) l k m m2 m3=(um fu (⟨m,m2,m3⟩:Np) 2).bind λy7 =>
 if decide ((l.length:Int)<(y_ (6 + y7.1))) then (M_ l [({ Reach:=y_ (200 - (y_ (10 * k))),Ph:=y_ (90 + k) }:Ng)]).bind λl3=>G fk l3 (y_ (k + 1)) y7.2.code y7.2.at_ y7.2.seed
 else some (l,k,y7.2.code,y7.2.at_,y7.2.seed)) {l:List Ng} (h1:1<=l.length) (h4:l.length<=4) {c:Np} {k:Int} (hc:Cur c k) (hk:k<=700000000) :
 ∃F c',((um fu c (l.length:Int)).bind λy3 =>
 (V_ l y3.1).bind λe =>
 (um fu y3.2 24).bind λy4 =>
 (if y4.1==0 then
   (vn fu y4.2 [0,20000,20001,250]).bind λy5 =>
   some (.next (y5.1,y5.2.code,y5.2.at_,y5.2.seed,e.Ph))
 else
  if y4.1==1 then
   (vn fu y4.2 [0,1000,1001,10]).bind λy6 =>
   some (.next (e.Reach,y6.2.code,y6.2.at_,y6.2.seed,y6.1))
  else
   if y4.1==2 then
    some (.ret (([]:List Ng),y4.2))
   else
    if y4.1==3 then
     (G fu l 0 y4.2.code y4.2.at_ y4.2.seed).bind λz =>
     some (.ret (z.1,(⟨z.2.2.1,z.2.2.2.1,z.2.2.2.2⟩:Np)))
    else
     some (.next (e.Reach,y4.2.code,y4.2.at_,y4.2.seed,e.Ph)):Option (Out (Int×List By×Int×U64×Int) (List Ng×Np))).bind λout=>out.on some λz2 =>
 (V_ l y3.1).bind λe2 =>
 some (l.set (y3.1:Int).toNat ({ Reach:=z2.1,Ph:=z2.2.2.2.2 }:Ng),(⟨z2.2.1,z2.2.2.1,z2.2.2.2.1⟩:Np)))=some (F,c')/\F.length<=7/\Cur c' (k + 50):=by
 obtain⟨r,c1,g1,p0,p1,k1⟩:=vJ (fu:=fu) hc (by omega) (l.length:Int) (by omega)
 have p2:=p1 (by omega)
 obtain⟨e,he,-⟩:=ap (l:=l) (i:=r) p0 p2
 obtain⟨r2,c2,g2,-,-,k2⟩:=vJ (fu:=fu) k1 (by omega) 24 (by decide)
 obtain⟨r3,c3,g3,-,k3⟩:=dM (fu:=fu) k2 (by omega) [0,20000,20001,250] (by decide) (by decide)
 obtain⟨r4,c4,g4,-,k4⟩:=dM (fu:=fu) k2 (by omega) [0,1000,1001,10] (by decide) (by decide)
 obtain⟨l',j',b',a',s',g5,h5,k5⟩:=wM G hG fu l 0 c2.code c2.at_ c2.seed (k + 2 + 2) (k + 50) k2 (by omega) (by omega) (by omega) (by omega)
 rw[g1,GH]
 dsimp only
 rw[he,GH,g2,GH]
 dsimp only
 rw[g3,g4,g5]
 simp only[GH,qw,Out.on,he]
 split
 exact⟨_,_,rfl,by rw[GK]; omega,k3.mono (by omega)⟩
 split
 exact⟨_,_,rfl,by rw[GK]; omega,k4.mono (by omega)⟩
 split
 exact⟨_,_,rfl,by simp,k2.mono (by omega)⟩
 split
 exact⟨_,_,rfl,h5,k5⟩
 exact⟨_,_,rfl,by rw[GK]; omega,k2.mono (by omega)⟩
theorem sx (hfu:2097153<=fu) {c:Np} {k:Int} (hc:Cur c k) (hk:k<=600000000):∃F c',ac fu c=some (F,c')/\F.length<=7/\Cur c' (k + 100):=by
 unfold ac;obtain⟨r,c1,g1,p0,p1,k1⟩:=vJ (fu:=fu) hc (by omega) 4 (by decide);have p2:=p1 (by decide);obtain⟨i,hi⟩:∃i:Nat,(i:Int)=1 + r:=⟨(1 + r).toNat,by omega⟩;have e:y_ (1 + r)=(i:Int):=by rw[va (by omega) (by omega)]; omega
 rw[g1,GH];dsimp only;generalize hl0:[({ Reach:=3000,Ph:=10 }:Ng),({ Reach:=1200,Ph:=20 }:Ng),({ Reach:=600,Ph:=40 }:Ng),({ Reach:=250,Ph:=80 }:Ng)]=l0;have hl:l0.length=4:=by rw[<-hl0]; rfl
 have hs:sub l0 0 (y_ (1 + r))=some (l0.take i):=by
  rw[e]
  unfold sub
  rw[if_pos (by omega)]
  simp
 have hti:(l0.take i).length=i:=by rw[GO]; omega
 rw[hs,GH];obtain⟨r2,c2,g2,k2⟩:=t7 (fu:=fu) k1 (by omega) 3 (by decide);rw[g2,GH];dsimp only;have e1:∀fk l k m m2 m3,vp fu (fk + 1) l k m m2 m3=(um fu (⟨m,m2,m3⟩:Np) 2).bind λy7 =>
  if decide ((l.length:Int)<(y_ (6 + y7.1))) then (M_ l [({ Reach:=y_ (200 - (y_ (10 * k))),Ph:=y_ (90 + k) }:Ng)]).bind λl3=>vp fu fk l3 (y_ (k + 1)) y7.2.code y7.2.at_ y7.2.seed
  else some (l,k,y7.2.code,y7.2.at_,y7.2.seed):=λfk l k m m2 m3=>by rw[vp]
 cases r2 with
 | false =>
  rw[if_neg HC,GH,if_neg HC,GH]
  obtain⟨F,c',g,h,hk'⟩:=lY hfu (vp fu) e1 (l:=l0.take i) (by omega) (by omega) k2 (by omega)
  exact⟨F,c',g,h,hk'.mono (by omega)⟩
 | true =>
  rw[if_pos rfl,GH]
  by_cases h:((l0.take i).length:Int) > 1
  · rw[if_pos (by simpa using h)]
    have hd:sub (l0.take i) 1 ((l0.take i).length:Int)=some ((l0.take i).drop 1):=by
     unfold sub
     rw[if_pos (by omega),Hh,Jf]
     rfl
    rw[hd,GH,GH]
    have hdl:((l0.take i).drop 1).length=i - 1:=by rw[Hd,hti]
    obtain⟨F,c',g,h,hk'⟩:=lY hfu (vp fu) e1 (l:=(l0.take i).drop 1) (by omega) (by omega) k2 (by omega)
    exact⟨F,c',g,h,hk'.mono (by omega)⟩
  · rw[if_neg (by simpa using h),GH]
    obtain⟨F,c',g,h,hk'⟩:=lY hfu (vp fu) e1 (l:=l0.take i) (by omega) (by omega) k2 (by omega)
    exact⟨F,c',g,h,hk'.mono (by omega)⟩
theorem wS {c:Np} {k:Int} (hc:Cur c k) (hk:k<=700000000) {n:Nq} (h1:1<=n.Nv.length) (h2:n.Nv.length<=1000):∃d c',aH fu c n=some (d,c')/\Cur c' (k + 12):=by
 unfold aH;have ew:y_ ((n.Nv.length:Int) - 1)=(n.Nv.length:Int) - 1:=va (by omega) (by omega);obtain⟨r,c1,g1,p0,p1,k1⟩:=vJ (fu:=fu) hc (by omega) (n.Nv.length:Int) (by omega);obtain⟨r2,c2,g2,q0,q1,k2⟩:=vJ (fu:=fu) k1 (by omega) ((n.Nv.length:Int) - 1) (by omega);obtain⟨q,hq⟩:∃q,rem (y_ ((y_ (r + 1)) + r2)) (n.Nv.length:Int)=some q:=by
  unfold rem
  rw[if_neg (by omega)]
  exact⟨_,rfl⟩
 obtain⟨r3,c3,g3,-,k3⟩:=dM (fu:=fu) k2 (by omega) [10,20,40,50,90,120] (by decide) (by decide);obtain⟨r4,c4,g4,-,-,k4⟩:=vJ (fu:=fu) k3 (by omega) 3 (by decide);obtain⟨r5,c5,g5,-,-,k5⟩:=vJ (fu:=fu) k4 (by omega) 48 (by decide);obtain⟨r6,c6,g6,-,-,k6⟩:=vJ (fu:=fu) k5 (by omega) 10 (by decide);obtain⟨r7,c7,g7,-,k7⟩:=dM (fu:=fu) k5 (by omega) [0,1,1000,1001] (by decide) (by decide);obtain⟨r8,c8,g8,-,k8⟩:=dM (fu:=fu) k5 (by omega) [(-1),3] (by decide) (by decide);simp only[g1,ew,g2,hq,g3,g4,g5,g6,g7,g8,GH];split
 exact⟨_,_,rfl,k6.mono (by omega)⟩;split
 exact⟨_,_,rfl,k7.mono (by omega)⟩;split
 exact⟨_,_,rfl,k8.mono (by omega)⟩;exact⟨_,_,rfl,k5.mono (by omega)⟩
theorem sG {n:Nq} (h1:1<=n.Nv.length) (h2:n.Nv.length<=1000):∀(fk j:Nat) (l:List Nd) (b:List By) (a:Int) (s:U64) (k B:Int),Cur ⟨b,a,s⟩ k->j<=5->j<fk->l.length + j<=5->k + 12 * (j:Int)<=B->B<=700000000 ->
 ∃l' j' b' a' s',xF fu n fk l (j:Int) b a s=some (l',j',b',a',s')/\l'.length<=5/\Cur ⟨b',a',s'⟩ B:=by
 intro fk;induction fk with
 | zero=>intro j _ _ _ _ _ _ _ _ h; omega
 | succ fk ih =>
  intro j l b a s k B hc hj hf hl hk hB
  rw[xF]
  by_cases h:(j:Int) > 0
  · obtain⟨d,c1,g1,k1⟩:=wS (fu:=fu) hc (by omega) h1 h2
    have e:y_ ((j:Int) - 1)=((j - 1:Nat):Int):=by rw[va (by omega) (by omega)]; omega
    rw[if_pos (by simpa using h),g1,GH]
    dsimp only
    rw[app1 (by omega),GH,e]
    exact ih (j - 1) _ _ _ _ (k + 12) B k1 (by omega) (by omega) (by simp; omega) (by omega) hB
  · rw[if_neg (by simpa using h)]
    exact⟨_,_,_,_,_,rfl,by omega,hc.mono (by omega)⟩
theorem sF:∀(fk:Nat) (l:List Nd) (b:List By) (a:Int) (s:U64) (k B:Int),Cur ⟨b,a,s⟩ k->l.length<=13->14 - l.length<fk->k + 2 * ((14 - l.length:Nat):Int)<=B->B<=800000000 ->
 ∃l' b' a' s',xE fu fk l b a s=some (l',b',a',s')/\l'.length<=13/\Cur ⟨b',a',s'⟩ B:=by
 intro fk;induction fk with
 | zero=>intro l _ _ _ _ _ _ _ h; omega
 | succ fk ih =>
  intro l b a s k B hc hl hf hk hB
  rw[xE]
  obtain⟨r1,c1,g1,p0,p1,k1⟩:=vJ (fu:=fu) hc (by omega) 2 (by decide)
  have p2:=p1 (by decide)
  have e:y_ (12 + r1)=12 + r1:=va (by omega) (by omega)
  rw[g1,GH]
  dsimp only
  rw[e]
  by_cases h:(l.length:Int)<12 + r1
  · rw[if_pos (by simpa using h),app1 (by omega),GH]
    exact ih _ _ _ _ (k + 2) B k1 (by simp; omega) (by simp; omega) (by simp; omega) hB
  · rw[if_neg (by simpa using h)]
    exact⟨_,_,_,_,rfl,hl,k1.mono (by omega)⟩
theorem sE (hfu:2097153<=fu) {c:Np} {k:Int} (hc:Cur c k) (hk:k<=600000000) {n:Nq} (h1:1<=n.Nv.length) (h2:n.Nv.length<=1000):∃L c',ae fu c n=some (L,c')/\L.length<=13/\Cur c' (k + 200):=by
 unfold ae;obtain⟨r,c1,g1,p0,p1,k1⟩:=vJ (fu:=fu) hc (by omega) 6 (by decide);have p2:=p1 (by decide);obtain⟨l',j',b',a',s',g2,h3,k2⟩:=sG (fu:=fu) h1 h2 fu r.toNat [] c1.code c1.at_ c1.seed (k + 2) (k + 100) k1 (by omega) (by omega) (by simp; omega) (by omega) (by omega);rw[HG p0]at g2;rw[g1,GH];dsimp only;rw[g2,GH];dsimp only;obtain⟨r2,c2,g3,k3⟩:=t7 (fu:=fu) k2 (by omega) 24 (by decide);rw[g3,GH];dsimp only;cases r2 with
 | false=>exact⟨_,_,rfl,by omega,k3.mono (by omega)⟩
 | true =>
  obtain⟨l2,b2,a2,s2,g4,h4,k4⟩:=sF (fu:=fu) fu l' c2.code c2.at_ c2.seed (k + 100 + 2) (k + 200) k3 (by omega) (by omega) (by omega) (by omega)
  rw[if_pos rfl,g4]
  exact⟨_,_,rfl,h4,k4⟩
end AT
namespace AT
theorem Ba {fu:Nat} (hfu:2097153<=fu) {x:List By} (hc:Cur ⟨x,0,⟨0⟩⟩ 0):∃p F L,aM fu x=some (p,F,L)/\cg p/\F.length<=7/\L.length<=13:=by
 obtain⟨p,c1,g1,h1,k1⟩:=sS hfu hc (by omega);obtain⟨F,c2,g2,h2,k2⟩:=sx hfu k1 (by omega);obtain⟨L,c3,g3,h3,k3⟩:=sE hfu k2 (by omega) (n:=p.Nq) h1.net.n1 (by have:=h1.net.n2; omega);refine⟨p,F,L,?_,h1.B,h2,h3⟩;unfold aM;rw[g1,GH];dsimp only;rw[g2,GH];dsimp only;rw[g3];rfl
theorem mq (x0:List By) (o0:BN x0):∃fu,de fu x0=some true:=by
 obtain⟨fu,hfu4⟩:∃fu,4194306<=fu:=⟨4194306,GV _⟩;have hfu:2097153<=fu:=by omega
 refine⟨fu,?_⟩;unfold de ju;by_cases hb:(x0.length:Int) > 65536;simp only[hb,decide_true,GH,if_true];simp only[hb,decide_false,GH,GT,if_false];have hc:Cur ⟨x0,0,⟨0⟩⟩ 0:=tj o0.1 (by omega);obtain⟨p,F,L,g1,hB,hF7,hL13⟩:=Ba hfu hc;rw[g1,GH];dsimp only;rw[BU hfu4 hB hF7 hL13,Es hfu4 hB hF7 hL13,GH,GH,if_neg (by simp),if_neg (by simp),GH,if_neg (by simp)];by_cases hs:kC p F L 1=true;have ho:(brR p F L).2.2=true:=by unfold brR; rw[hs]; rfl
 have hcs:gv p.Nq F L=true:=by
  unfold kC at hs
  simp only[GP]at hs
  exact hs.2
 obtain⟨z,hz⟩:=wt hfu4 hB hF7 hL13 hs;have hlen:=kU (n:=p.Nq) (F:=F) (L:=L);have hlp:(ordP (cstL p.Nq F L)).length=L.length:=by unfold ordP; rw[Hn,hlen]
 obtain⟨h1,h2,h3⟩:=cstF hcs;obtain⟨h4,h5,h6⟩:=sD h2;obtain⟨z2,hz2⟩:=pp (fu:=fu) hfu4 hB.1 hF7 hL13 hcs fu 0 1099511627776 (by omega) (by omega) λh=>by
  have hx:=jP (n:=p.Nq) (F:=F) (L:=L) _ (GW h)
  have:=wj (netF h4) (fmtF h1) (demF (h6 _ (zx R0 hx)))
  omega
 rw[show ((0:Nat):Int)=0 from rfl]at hz2;rw[ho,if_neg (by decide),hz,GH,Out.on,pg hfu4 hB.1 hF7 hL13,GH,if_pos hcs,hz2,GH,Out.on,if_pos rfl,hlp];simp;have ho:brR p F L=(0,0,false):=by unfold brR; rw[if_neg hs]
 rw[ho];rfl
end AT
