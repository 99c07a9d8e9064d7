/- SymMerge, plainly: the general step; the whole. -/
import Derived.Test.YtlemonjnolciiaaGreatQSym2
set_option linter.unusedVariables false
set_option linter.unusedSimpArgs false
namespace AT
section
section
variable {X:Type} {cf:X->X->Option Int} {key:X->Int} {pos:X->Nat} {U:X->Prop}
theorem pu {G:Nat->Int->Int->Option (Int×Int)} {xs ys p s:List X} {A M B mid lo hi:Nat} {fu:Nat} (hfu:2097153<=fu) (hxs:xs.Pairwise (D_ key pos)) (hys:ys.Pairwise (D_ key pos)) (hp:∀x∈xs,∀y∈ys,pos x<pos y) (hA:p.length=A) (hM:A + xs.length=M) (hB:M + ys.length=B) (hmid:mid=(A + B) / 2) (hl:B<=2097152)
 (hc:(mid<M/\lo=mid + M - B/\hi=mid)∨(M<=mid/\lo=A/\hi=M)) (hx1:1<xs.length) (hy1:1<ys.length)
 (hG:∀(fk i j:Nat),lo<=i->i<j->j<=hi->∀(h1:(i + j) / 2 - A<xs.length) (h2:mid + M - 1 - (i + j) / 2 - M<ys.length),G (fk + 1) (i:Int) (j:Int)=if (!decide (key ys[mid + M - 1 - (i + j) / 2 - M]<key xs[(i + j) / 2 - A]))=true then G fk (((i + j) / 2 + 1:Nat):Int) (j:Int) else G fk (i:Int) (((i + j) / 2:Nat):Int)) (hE:∀(fk i:Nat),G (fk + 1) (i:Int) (i:Int)=some ((i:Int),(i:Int))) :
 ∃(st:Nat),G fu (lo:Int) (hi:Int)=some ((st:Int),(st:Int))/\A<=st/\st<=M/\M<=mid + M - st/\mid + M - st<=B/\st<=mid /\
   (∀a∈xs.take (st - A),∀b∈ys.drop (mid - st),D_ key pos a b)/\(∀a∈ys.take (mid - st),∀b∈xs.drop (st - A),D_ key pos a b):=by
 have hlo:A<=lo/\lo<=hi/\hi<=M/\hi<=mid/\mid + M<=B + lo:=by
  rcases hc with ⟨h1,h2,h3⟩ | ⟨h1,h2,h3⟩ <;> omega
 obtain⟨l1,l2,l3,l4,l5⟩:=hlo;have hr1:∀c,lo<=c->c<hi->c - A<xs.length/\mid + M - 1 - c - M<ys.length:=λc h1 h2=>by
  refine⟨by omega,?_⟩
  have:=l5
  omega
 let P:Nat->Bool:=λc=>if h:c - A<xs.length/\mid + M - 1 - c - M<ys.length then !decide (key (ys[mid + M - 1 - c - M]'h.2)<key (xs[c - A]'h.1)) else false
 have hPe:∀c (h1:c - A<xs.length) (h2:mid + M - 1 - c - M<ys.length),P c=!decide (key ys[mid + M - 1 - c - M]<key xs[c - A]):=λc h1 h2=>dif_pos ⟨h1,h2⟩;obtain⟨st,g1,g2,g3,g4,g5⟩:=qj (G:=G) (P:=P) (lo:=lo) (hi:=hi) (λq q' h1 h2 h3 h=>by
  obtain⟨a1,a2⟩:=hr1 q h1 (by omega)
  obtain⟨b1,b2⟩:=hr1 q' (by omega) h3
  rw[hPe q' b1 b2,IZ,decide_eq_false_iff_not]at h
  rw[hPe q a1 a2,IZ,decide_eq_false_iff_not]
  have e1:=kM hxs (i:=q - A) (j:=q' - A) (by omega) b1
  have e2:=kM hys (i:=mid + M - 1 - q' - M) (j:=mid + M - 1 - q - M) (by omega) a2
  omega) (λfk i j h1 h2 h3=>by
  obtain⟨a1,a2⟩:=hr1 ((i + j) / 2) (by omega) (by omega)
  rw[hG fk i j h1 h2 h3 a1 a2,hPe _ a1 a2]) hE (hi - lo) fu lo hi (IC _) (by omega) (IC _) l2 (IC _) (λq h1 h2=>by omega) (λq h1 h2=>by omega)
 refine⟨st,g1,by omega,by omega,by omega,by omega,by omega,λa ha b hb=>?_,λa ha b hb=>?_⟩;obtain⟨q,hq,rfl⟩:=IF.1 ha;obtain⟨r,hr,rfl⟩:=IF.1 hb;rw[Is]at hq;rw[IT]at hr;rw[Ja,JS];have hpp:=hp xs[q] (IE _) ys[mid - st + r] (IE _);by_cases hlt:lo<st;obtain⟨a1,a2⟩:=hr1 (st - 1) (by omega) (by omega);have h4:=g4 (st - 1) (by omega) (by omega);rw[hPe _ a1 a2,IZ,decide_eq_false_iff_not]at h4;have e1:=kM hxs (i:=q) (j:=st - 1 - A) (by omega) a1;have e2:=kM hys (i:=mid + M - 1 - (st - 1) - M) (j:=mid - st + r) (by omega) (by omega);unfold D_;omega;rcases hc with ⟨h1,h2,h3⟩ | ⟨h1,h2,h3⟩ <;> omega
 obtain⟨q,hq,rfl⟩:=IF.1 ha;obtain⟨r,hr,rfl⟩:=IF.1 hb;rw[Is]at hq;rw[IT]at hr;rw[Ja,JS];by_cases hlt:st<hi;obtain⟨a1,a2⟩:=hr1 st g2 hlt;have h4:=g5 st (IC _) hlt;rw[hPe _ a1 a2,Ki,decide_eq_true_eq]at h4;have e1:=kM hxs (i:=st - A) (j:=st - A + r) (by omega) (by omega);have e2:=kM hys (i:=q) (j:=mid + M - 1 - st - M) (by omega) a2;unfold D_;omega;rcases hc with ⟨h1,h2,h3⟩ | ⟨h1,h2,h3⟩ <;> omega
theorem DK (b c:Bool):(if b=true then some c else some false)=some (b&&c):=by cases b <;> rfl
theorem rG (hcf:CfOk cf key U):∀(n:Nat) (xs ys p s:List X) (f A M B:Nat),xs.length + ys.length<=n->0<xs.length->0<ys.length->2097153 + n<=f->p.length=A->A + xs.length=M->M + ys.length=B->B<=2097152->(∀x∈xs,U x)->(∀y∈ys,U y)->xs.Pairwise (D_ key pos)->ys.Pairwise (D_ key pos)->(∀x∈xs,∀y∈ys,pos x<pos y) ->
 ∃zs,uB cf f (p++(xs++(ys++s))) (A:Int) (M:Int) (B:Int)=some (p++(zs++s))/\zs.Perm (xs++ys)/\zs.Pairwise (D_ key pos)
 | 0,xs,ys,p,s,f,A,M,B,hn,hx,hy,_,_,_,_,_,_,_,_,_,_=>by omega
 | n + 1,xs,ys,p,s,f,A,M,B,hn,hx,hy,hf,hA,hM,hB,hl,hUx,hUy,hsx,hsy,hp=>by
  obtain⟨fu,rfl⟩:∃k,f=k + 1:=⟨f - 1,by omega⟩
  rw[uB]
  generalize hrec:(λdata a' m b6=>uB cf fu data a' m b6)=rec_
  have hfu:2097153<=fu:=by omega
  by_cases hx1:xs.length=1
  · obtain⟨x,rfl⟩:=Lq.1 hx1
    rw[uW,wsub (by omega) (by omega),if_pos (by simp; omega)]
    obtain⟨k,zs,g1,⟨z,g2⟩,g3,g4⟩:=DJ hfu hcf (p:=p) (ys:=ys) (s:=s) (x:=x) (hUx x (by simp)) hUy (hp x (by simp)) hsy (by simp at hM; omega)
    simp only[IG]at hM
    have e:p++([x]++(ys++s))=p++x::(ys++s):=by simp
    rw[hA,hM,hB]at g1
    rw[hA]at g2
    rw[e,g1,Ik]
    dsimp only
    rw[g2,Ik]
    exact⟨zs,rfl,g3,g4⟩
  by_cases hy1:ys.length=1
  · obtain⟨y,rfl⟩:=Lq.1 hy1
    rw[uW,wsub (by omega) (by omega),if_neg (by simp; omega),wsub (by omega) (by omega),if_pos (by simp at hB ⊢; omega)]
    obtain⟨k,zs,g1,⟨z,g2⟩,g3,g4⟩:=BG hfu hcf (p:=p) (xs:=xs) (s:=s) (y:=y) (hUy y (by simp)) hUx (λx hx'=>hp x hx' y (by simp)) hsx (by simp at hB; omega)
    rw[hA,hM]at g1 g2
    rw[JF,g1,Ik]
    dsimp only
    rw[g2,Ik]
    exact⟨zs,rfl,g3,g4⟩
  have hat:∀(i:Nat) (h0:A<=i) (h:i<M),V_ (p++(xs++(ys++s))) (i:Int)=some (xs[i - A]'(by omega)):=λi h0 h=>by
   subst hA
   exact sJ h0 (by omega)
  have hat2:∀(i:Nat) (h0:M<=i) (h:i<B),V_ (p++(xs++(ys++s))) (i:Int)=some (ys[i - M]'(by omega)):=λi h0 h=>by
   have hL:(p++xs).length=M:=by rw[Ip]; omega
   subst hL
   rw[<-Ir]
   exact sJ h0 (by rw[Ip]; omega)
  rw[uW,wsub (by omega) (by omega),if_neg (by simp; omega),wsub (by omega) (by omega),if_neg (by simp; omega),wj (by omega),Ik]
  obtain⟨mid,hmid⟩:∃m,m=(A + B) / 2:=⟨_,rfl⟩
  rw[<-hmid,i7 (by omega),wadd (by omega)]
  have fin:∀st:Nat,A<=st->st<=M->M<=mid + M - st->mid + M - st<=B->st<=mid->(∀a∈xs.take (st - A),∀b∈ys.drop (mid - st),D_ key pos a b)->(∀a∈ys.take (mid - st),∀b∈xs.drop (st - A),D_ key pos a b) ->
   ∃zs d d1,(if st<M/\M<mid + M - st then uK cf fu (p++(xs++(ys++s))) (st:Int) (M:Int) ((mid + M - st:Nat):Int)=some d else d=p++(xs++(ys++s))) /\
    ((A<st/\st<mid->rec_ d A st mid=some d1)/\(¬(A<st/\st<mid)->d1=d))/\((mid<mid + M - st/\mid + M - st<B->rec_ d1 mid (mid + M - st:Nat) B=some (p++(zs++s)))/\(¬(mid<mid + M - st/\mid + M - st<B)->p++(zs++s)=d1))/\zs.Perm (xs++ys)/\zs.Pairwise (D_ key pos):=by
   intro st k1 k2 k3 k4 k5 c1 c2
   obtain⟨x1,x2,hx12,lx1⟩:∃x1 x2,xs=x1++x2/\x1.length=st - A:=⟨xs.take (st - A),xs.drop (st - A),(IS _ _).symm,by rw[Is]; omega⟩
   obtain⟨y1,y2,hy12,ly1⟩:∃y1 y2,ys=y1++y2/\y1.length=mid - st:=⟨ys.take (mid - st),ys.drop (mid - st),(IS _ _).symm,by rw[Is]; omega⟩
   rw[hx12,hy12,<-lx1,<-ly1,KA,Lv]at c1
   rw[hx12,hy12,<-lx1,<-ly1,KA,Lv]at c2
   subst hx12; subst hy12
   rw[Ip]at hn hx hy hM hB hx1 hy1
   rw[Ip]at hn
   have hsx':=Jm.1 hsx
   have hsy':=Jm.1 hsy
   have hd:∃d,(if st<M/\M<mid + M - st then uK cf fu (p++(x1++x2++(y1++y2++s))) (st:Int) (M:Int) ((mid + M - st:Nat):Int)=some d else d=p++(x1++x2++(y1++y2++s)))/\d=p++(x1++(y1++(x2++(y2++s)))):=by
    by_cases hr:st<M/\M<mid + M - st
    · refine⟨_,?_,rfl⟩
      rw[if_pos hr]
      have:=FG cf hfu (A:=st) (M:=M) (B:=mid + M - st) (u:=x2) (v:=y1) (p:=p++x1) (s:=y2++s) (by rw[Ip]; omega) (by omega) (by omega) (by omega) (by omega) (by omega)
      simp only[Ir]at this ⊢
      exact this
    · refine⟨_,?_,rfl⟩
      rw[if_neg hr]
      have:x2=[]∨y1=[]:=by
       by_cases h:st<M
       · exact .inr (IL (by omega))
       · exact .inl (IL (by omega))
      rcases this with h | h <;> subst h <;> simp
   obtain⟨d,hd1,rfl⟩:=hd
   have hz1:∃z1,((A<st/\st<mid->rec_ (p++(x1++(y1++(x2++(y2++s))))) A st mid=some (p++(z1++(x2++(y2++s)))))/\(¬(A<st/\st<mid)->z1=x1++y1))/\z1.Perm (x1++y1)/\z1.Pairwise (D_ key pos):=by
    by_cases hr:A<st/\st<mid
    · obtain⟨z1,q1,q2,q3⟩:=rG hcf n x1 y1 p (x2++(y2++s)) fu A st mid (by omega) (by omega) (by omega) (by omega) hA (by omega) (by omega) (by omega) (λx hx'=>hUx x (Il.2 (.inl hx'))) (λx hx'=>hUy x (Il.2 (.inl hx'))) hsx'.1 hsy'.1 (λx hx' y hy'=>hp x (Il.2 (.inl hx')) y (Il.2 (.inl hy')))
      exact⟨z1,⟨λ_=>by rw[<-hrec]; exact q1,λh=>absurd hr h⟩,q2,q3⟩
    · have:x1=[]∨y1=[]:=by
       by_cases h:A<st
       · exact .inr (IL (by omega))
       · exact .inl (IL (by omega))
      refine⟨x1++y1,⟨λh=>absurd h hr,λ_=>rfl⟩,J2 _,?_⟩
      rcases this with h | h <;> subst h
      · rw[IY]; exact hsy'.1
      · rw[II]; exact hsx'.1
   obtain⟨z1,⟨hz1a,hz1b⟩,hz1p,hz1s⟩:=hz1
   have lz1:z1.length=x1.length + y1.length:=by rw[hz1p.length_eq,Ip]
   have hz2:∃z2,((mid<mid + M - st/\mid + M - st<B->rec_ (p++(z1++(x2++(y2++s)))) mid (mid + M - st:Nat) B=some (p++(z1++(z2++s))))/\(¬(mid<mid + M - st/\mid + M - st<B)->z2=x2++y2))/\z2.Perm (x2++y2)/\z2.Pairwise (D_ key pos):=by
    by_cases hr:mid<mid + M - st/\mid + M - st<B
    · obtain⟨z2,q1,q2,q3⟩:=rG hcf n x2 y2 (p++z1) s fu mid (mid + M - st) B (by omega) (by omega) (by omega) (by omega) (by rw[Ip]; omega) (by omega) (by omega) (by omega) (λx hx'=>hUx x (Il.2 (.inr hx'))) (λx hx'=>hUy x (Il.2 (.inr hx'))) hsx'.2.1 hsy'.2.1 (λx hx' y hy'=>hp x (Il.2 (.inr hx')) y (Il.2 (.inr hy')))
      refine⟨z2,⟨λ_=>?_,λh=>absurd hr h⟩,q2,q3⟩
      rw[<-hrec]
      simp only[Ir]at q1 ⊢
      exact q1
    · have:x2=[]∨y2=[]:=by
       by_cases h:mid<mid + M - st
       · exact .inr (IL (by omega))
       · exact .inl (IL (by omega))
      refine⟨x2++y2,⟨λh=>absurd h hr,λ_=>rfl⟩,J2 _,?_⟩
      rcases this with h | h <;> subst h
      · rw[IY]; exact hsy'.2.1
      · rw[II]; exact hsx'.2.1
   obtain⟨z2,⟨hz2a,hz2b⟩,hz2p,hz2s⟩:=hz2
   obtain⟨m1,m2⟩:=q9 c1 c2 hsx hsy hz1p hz2p hz1s hz2s
   refine⟨z1++z2,_,p++(z1++(x2++(y2++s))),hd1,⟨hz1a,λh=>?_⟩,⟨λh=>?_,λh=>?_⟩,m2,m1⟩
   · rw[hz1b h]; simp
   · rw[hz2a h]; simp
   · rw[hz2b h]; simp
  have key2:∀st:Nat,A<=st->st<=M->M<=mid + M - st->mid + M - st<=B->st<=mid->(∀a∈xs.take (st - A),∀b∈ys.drop (mid - st),D_ key pos a b)->(∀a∈ys.take (mid - st),∀b∈xs.drop (st - A),D_ key pos a b) ->
   ∃zs,((if decide ((st:Int)<(M:Int))=true then some (decide ((M:Int)<(y_ (((mid + M:Nat):Int) - (st:Int))))) else some false).bind λc2=>(if c2=true then (uK cf fu (p++(xs++(ys++s))) (st:Int) (M:Int) (y_ (((mid + M:Nat):Int) - (st:Int)))).bind λy4=>some y4 else some (p++(xs++(ys++s)))).bind λz6=>(if decide ((A:Int)<(st:Int))=true then some (decide ((st:Int)<(mid:Int))) else some false).bind λc3=>(if c3=true then (rec_ z6 A st mid).bind λy5=>some y5 else some z6).bind λz5=>(if decide ((mid:Int)<(y_ (((mid + M:Nat):Int) - (st:Int))))=true then some (decide ((y_ (((mid + M:Nat):Int) - (st:Int)))<(B:Int))) else some false).bind λc4=>if c4=true then (rec_ z5 mid (y_ (((mid + M:Nat):Int) - (st:Int))) B).bind λy6=>some y6 else some z5)=some (p++(zs++s))/\zs.Perm (xs++ys)/\zs.Pairwise (D_ key pos):=by
   intro st k1 k2 k3 k4 k5 c1 c2
   obtain⟨zs,d,d1,f1,⟨f2,f2'⟩,⟨f3,f3'⟩,f4,f5⟩:=fin st k1 k2 k3 k4 k5 c1 c2
   refine⟨zs,?_,f4,f5⟩
   rw[wsub (by omega) (by omega)]
   simp only[DK,Ik]
   have e1:(if (decide ((st:Int)<(M:Int))&&decide ((M:Int)<((mid + M - st:Nat):Int)))=true then (uK cf fu (p++(xs++(ys++s))) (st:Int) (M:Int) ((mid + M - st:Nat):Int)).bind λy4=>some y4 else some (p++(xs++(ys++s))))=some d:=by
    by_cases hr:st<M/\M<mid + M - st
    · rw[if_pos hr]at f1
      rw[if_pos (by simpa using hr),f1]; rfl
    · rw[if_neg hr]at f1
      rw[if_neg (by simpa using hr),f1]
   have e2:(if (decide ((A:Int)<(st:Int))&&decide ((st:Int)<(mid:Int)))=true then (rec_ d A st mid).bind λy5=>some y5 else some d)=some d1:=by
    by_cases hr:A<st/\st<mid
    · rw[if_pos (by simpa using hr),f2 hr]; rfl
    · rw[if_neg (by simpa using hr),f2' hr]
   have e3:(if (decide ((mid:Int)<((mid + M - st:Nat):Int))&&decide (((mid + M - st:Nat):Int)<(B:Int)))=true then (rec_ d1 mid ((mid + M - st:Nat):Int) B).bind λy6=>some y6 else some d1)=some (p++(zs++s)):=by
    by_cases hr:mid<mid + M - st/\mid + M - st<B
    · rw[if_pos (by simpa using hr),f3 hr]; rfl
    · rw[if_neg (by simpa using hr),f3' hr]
   rw[e1,Ik,e2,Ik,e3]
  have hG0:∀c:Nat,c<=mid + M->y_ (y_ (((mid + M:Nat):Int) - 1) - y_ (c:Int))=((mid + M - 1 - c:Nat):Int)∨mid + M - 1<c:=λc hc=>by
   by_cases h:c<=mid + M - 1
   · left
     rw[wg (by omega) (by omega),i7 (by omega),wsub h (by omega)]
   · right; omega
  have hcut:∀(fk i j:Nat) (G:Nat->Int->Int->Option (Int×Int)) (h0:A<=(i + j) / 2) (h1:(i + j) / 2<M) (h2:M<=mid + M - 1 - (i + j) / 2) (h3:mid + M - 1 - (i + j) / 2<B),
   ((V_ (p++(xs++(ys++s))) (y_ (y_ (((mid + M:Nat):Int) - 1) - y_ (((i + j) / 2:Nat):Int)))).bind λe13=>(V_ (p++(xs++(ys++s))) (y_ (((i + j) / 2:Nat):Int))).bind λe14=>(cf e13 e14).bind λy3=>if (!decide (y3<0))=true then G fk (y_ (y_ (((i + j) / 2:Nat):Int) + 1)) (j:Int) else G fk (i:Int) (y_ (((i + j) / 2:Nat):Int)))
     = if (!decide (key (ys[mid + M - 1 - (i + j) / 2 - M]'(by omega))<key (xs[(i + j) / 2 - A]'(by omega))))=true then G fk (((i + j) / 2 + 1:Nat):Int) (j:Int) else G fk (i:Int) (((i + j) / 2:Nat):Int):=by
   intro fk i j G h0 h1 h2 h3
   have e:=(hG0 ((i + j) / 2) (by omega)).resolve_right (by omega)
   rw[e,hat2 _ h2 h3,Ik,i7 (by omega),hat _ h0 h1,Ik,qJ (by omega)]
   exact hcf.dec (hUy _ (IE _)) (hUx _ (IE _)) _ (λb=>if (!b)=true then G fk (((i + j) / 2 + 1:Nat):Int) (j:Int) else G fk (i:Int) (((i + j) / 2:Nat):Int)) λc=>rfl
  by_cases hMm:mid<M
  · rw[if_pos (by simpa using hMm),wsub (by omega) (by omega)]
    simp only[Ik]
    obtain⟨st,g1,g2,g3,g4,g5,g6,g7,g8⟩:=pu (G:=λfk i j=>ue cf fu (p++(xs++(ys++s))) (M:Int) (mid:Int) fk i j) (fu:=fu) (xs:=xs) (ys:=ys) (p:=p) (s:=s) (A:=A) (M:=M) (B:=B) (mid:=mid) (lo:=mid + M - B) (hi:=mid) hfu hsx hsy hp hA hM hB hmid hl (.inl ⟨hMm,rfl,rfl⟩) (by omega) (by omega) (λfk i j h1 h2 h3 a1 a2=>by
     show ue cf fu _ _ _ (fk + 1) _ _=_
     rw[ue,if_pos (by simp; omega),wj (by omega),Ik,i7 (a:=mid) (by omega),wadd (by omega)]
     exact hcut fk i j (λfk i j=>ue cf fu (p++(xs++(ys++s))) (M:Int) (mid:Int) fk i j) (by omega) (by omega) (by omega) (by omega)) (λfk i=>by
     show ue cf fu _ _ _ (fk + 1) _ _=_
     rw[ue,if_neg (by simp)])
    obtain⟨zs,q1,q2,q3⟩:=key2 st g2 g3 g4 g5 g6 g7 g8
    have g1':ue cf fu (p++(xs++(ys++s))) (M:Int) (mid:Int) fu ((mid + M - B:Nat):Int) (mid:Int)=some ((st:Int),(st:Int)):=g1
    rw[g1',Ik]
    exact⟨zs,q1,q2,q3⟩
  · rw[if_neg (by simpa using hMm)]
    simp only[Ik]
    obtain⟨st,g1,g2,g3,g4,g5,g6,g7,g8⟩:=pu (G:=λfk i j=>ue cf fu (p++(xs++(ys++s))) (M:Int) (mid:Int) fk i j) (fu:=fu) (xs:=xs) (ys:=ys) (p:=p) (s:=s) (A:=A) (M:=M) (B:=B) (mid:=mid) (lo:=A) (hi:=M) hfu hsx hsy hp hA hM hB hmid hl (.inr ⟨by omega,rfl,rfl⟩) (by omega) (by omega) (λfk i j h1 h2 h3 a1 a2=>by
     show ue cf fu _ _ _ (fk + 1) _ _=_
     rw[ue,if_pos (by simp; omega),wj (by omega),Ik,i7 (a:=mid) (by omega),wadd (by omega)]
     exact hcut fk i j (λfk i j=>ue cf fu (p++(xs++(ys++s))) (M:Int) (mid:Int) fk i j) (by omega) (by omega) (by omega) (by omega)) (λfk i=>by
     show ue cf fu _ _ _ (fk + 1) _ _=_
     rw[ue,if_neg (by simp)])
    obtain⟨zs,q1,q2,q3⟩:=key2 st g2 g3 g4 g5 g6 g7 g8
    have g1':ue cf fu (p++(xs++(ys++s))) (M:Int) (mid:Int) fu (A:Int) (M:Int)=some ((st:Int),(st:Int)):=g1
    rw[g1',Ik]
    exact⟨zs,q1,q2,q3⟩
end
end
section
section
variable {X:Type} {cf:X->X->Option Int} {key:X->Int} {pos:X->Nat} {U:X->Prop}
theorem sr {fu:Nat} (hcf:CfOk cf key U) {A:Nat} {p:List X} (hA:p.length=A):∀(n:Nat) (t s:List X) (x:X) (fk:Nat),t.length=n->n<fk->A + n + 1<=2097152->U x->(∀y∈t,U y) ->
 ∃(k:Nat) (z:Int),uD cf fu (A:Int) fk (p++(t++x::s)) ((A + n:Nat):Int)=some (p++(t.take k++x::(t.drop k++s)),z)/\k<=n/\(∀(q:Nat) (h:q<t.length),k<=q->key x<key t[q])/\(k=0∨∃h:k - 1<t.length,key t[k - 1]<=key x)
 | 0,t,s,x,fk,hn,hf,hs,hx,ht=>by
  obtain⟨fk,rfl⟩:∃k,fk=k + 1:=⟨fk - 1,by omega⟩
  have h0:t=[]:=IL hn
  subst h0
  refine⟨0,((A + 0:Nat):Int),?_,IC _,λq h=>by simp at h,.inl rfl⟩
  rw[uD,if_neg (by simp),Ik,if_neg (by simp)]
  rfl
 | n + 1,t,s,x,fk,hn,hf,hs,hx,ht=>by
  obtain⟨fk,rfl⟩:∃k,fk=k + 1:=⟨fk - 1,by omega⟩
  obtain⟨t',y,rfl⟩:∃t' y,t=t'++[y]:=by
   rcases List.eq_nil_or_concat t with h | ⟨t',y,h⟩
   · subst h; simp at hn
   · exact⟨t',y,by rw[h]; simp⟩
  have hn':t'.length=n:=by rw[Ip,IG]at hn; omega
  have e1:∀u v:X,p++(t'++[u]++v::s)=(p++t'++[u])++v::s:=λu v=>by simp
  have e2:∀u v:X,p++t'++[u]++v::s=(p++t')++u::(v::s):=λu v=>by simp
  have hl1:∀u:X,A + (n + 1)=(p++t'++[u]).length:=λu=>by simp only[Ip,IG,hn',hA]; omega
  have hl2:A + n=(p++t').length:=by simp only[Ip,hn',hA]
  have hw:y_ (((A + (n + 1):Nat):Int) - 1)=((A + n:Nat):Int):=wg (by omega) (by omega)
  rw[uD,if_pos (by simp; omega),hw,e1,dl (hl1 y),Ik,e2,dl hl2,Ik]
  obtain⟨c,hc,hc1⟩:=hcf x y hx (ht y (by simp))
  rw[hc,Ik,Ik]
  by_cases hlt:c<0
  · rw[decide_eq_true hlt,if_pos rfl,Ik,<-e2,Ik,Ik,set_mid (hl1 y),e2,dl hl2,Ik,set_mid hl2]
    obtain⟨k,z,g1,g2,g3,g4⟩:=sr (fu:=fu) hcf hA n t' (y::s) x fk hn' (by omega) (by omega) hx (λu hu=>ht u (by simp [hu]))
    rw[Ir,g1]
    refine⟨k,z,?_,by omega,λq h hk=>?_,?_⟩
    · rw[Jn (by omega),Ku (by omega)]
      simp
    · by_cases hq:q<t'.length
      · rw[KP hq]; exact g3 q hq hk
      · rw[KJ (by omega)]
        simp only[List.getElem_singleton]
        exact hc1.1 hlt
    · rcases g4 with g4 | ⟨h,g4⟩
      · exact .inl g4
      · exact .inr ⟨by rw[Ip]; omega,by rw[KP h]; exact g4⟩
  · rw[decide_eq_false hlt,if_neg (by simp)]
    refine⟨n + 1,((A + (n + 1):Nat):Int),?_,IC _,λq h hk=>by omega,.inr ⟨by omega,?_⟩⟩
    · rw[Jw (by omega),Jj (by omega)]
      simp
    · rw[KJ (by omega)]
      simp only[List.getElem_singleton]
      have:=mt hc1.2 hlt
      omega
theorem AR {fu:Nat} (hfu:2097153<=fu) (hcf:CfOk cf key U) {A B:Nat} {p s:List X} (hA:p.length=A) (hB:B<=2097152):∀(n:Nat) (w r:List X) (fk:Nat),r.length=n->n<fk->A + w.length + r.length=B->(∀x∈w,U x)->(∀x∈r,U x)->w.Pairwise (D_ key pos)->(∀y∈w,∀x∈r,pos y<pos x)->r.Pairwise (λa b=>pos a<pos b) ->
 ∃(g:List X) (z:Int),uw cf fu (A:Int) (B:Int) fk (p++(w++(r++s))) ((A + w.length:Nat):Int)=some (p++(g++s),z)/\g.Perm (w++r)/\g.Pairwise (D_ key pos)
 | 0,w,r,fk,hn,hf,hl,hw,hr,sw,hwr,hrr=>by
  obtain⟨fk,rfl⟩:∃k,fk=k + 1:=⟨fk - 1,by omega⟩
  have h0:r=[]:=IL hn
  subst h0
  refine⟨w,((A + w.length:Nat):Int),?_,by simp,sw⟩
  rw[uw,if_neg (by simp at hl ⊢; omega)]
  rfl
 | n + 1,w,r,fk,hn,hf,hl,hw,hr,sw,hwr,hrr=>by
  obtain⟨fk,rfl⟩:∃k,fk=k + 1:=⟨fk - 1,by omega⟩
  cases r with
  | nil=>simp at hn
  | cons x r =>
  simp only[I3]at hn hl
  obtain⟨k,z,g1,g2,g3,g4⟩:=sr (fu:=fu) hcf hA w.length w (r++s) x fu rfl (by omega) (by omega) (hr x (by simp)) hw
  rw[uw,if_pos (by simp; omega),J8,g1,Ik,qJ (by omega)]
  have hins:=nJ g2 sw (λy hy=>hwr y hy x (by simp)) g3 g4
  have hpm:(w.take k++x::w.drop k).Perm (x::w):=by
   refine JP.trans (List.Perm.cons x ?_)
   rw[IS]
  have hlen:(w.take k++x::w.drop k).length=w.length + 1:=by rw[hpm.length_eq,I3]
  obtain⟨g,z',q1,q2,q3⟩:=AR hfu hcf hA hB n (w.take k++x::w.drop k) r fk (by omega) (by omega) (by omega) (λy hy=>by
   rcases IW.1 (hpm.mem_iff.1 hy) with rfl | hy
   · exact hr _ (by simp)
   · exact hw y hy) (λy hy=>hr y (by simp [hy])) hins (λy hy v hv=>by
   rcases IW.1 (hpm.mem_iff.1 hy) with rfl | hy
   · exact (JE.1 hrr).1 v hv
   · exact hwr y hy v (by simp [hv])) (JE.1 hrr).2
  rw[hlen]at q1
  refine⟨g,z',?_,?_,q3⟩
  · dsimp only
    rw[show A + w.length + 1=A + (w.length + 1) by omega,<-q1]
    simp
  · refine q2.trans ((hpm.append_right r).trans ?_)
    rw[J8]
    exact (JP).symm
theorem Du {fu:Nat} (hfu:2097153<=fu) (hcf:CfOk cf key U) {A B:Nat} {p g s:List X} (hA:p.length=A) (hB:A + g.length=B) (hl:B<=2097152) (hU:∀x∈g,U x) (hp:g.Pairwise λa b=>pos a<pos b):∃g',uS cf fu (p++(g++s)) (A:Int) (B:Int)=some (p++(g'++s))/\g'.Perm g/\g'.Pairwise (D_ key pos):=by
 rw[uS,qJ (by omega)];cases g with
 | nil =>
  obtain⟨fk,rfl⟩:∃k,fu=k + 1:=⟨fu - 1,by omega⟩
  refine⟨[],?_,J2 _,.nil⟩
  rw[uw,if_neg (by simp at hB ⊢; omega)]
  rfl
 | cons x g =>
  simp only[I3]at hB
  obtain⟨g',z,q1,q2,q3⟩:=AR hfu hcf (p:=p) (s:=s) hA hl g.length [x] g fu rfl (by omega) (by simp; omega) (λy hy=>hU y (by simp at hy; simp [hy])) (λy hy=>hU y (by simp [hy])) (List.pairwise_singleton _ _) (λy hy v hv=>by
   simp only[Iu]at hy
   subst hy
   exact (JE.1 hp).1 v hv) (JE.1 hp).2
  refine⟨g',?_,q2,q3⟩
  simp only[IG,JF]at q1
  have e:p++(x::g++s)=p++(x::(g++s)):=by simp
  rw[e,q1]
  rfl
inductive Rn (key:X->Int) (pos:X->Nat) (b:Nat):List X->Prop
 | last (l:List X):l.length<=b->l.Pairwise (D_ key pos)->Rn key pos b l
 | cons (r l:List X):r.length=b->r.Pairwise (D_ key pos)->(∀x∈r,∀y∈l,pos x<pos y)->Rn key pos b l->Rn key pos b (r++l)
variable {b:Nat}
theorem Rn.short {l:List X} (h:Rn key pos b l) (hl:l.length<=b):l.Pairwise (D_ key pos):=by
 cases h with
 | last _ _ h=>exact h
 | cons r l h1 h2 h3 h4 =>
  rw[Ip]at hl
  have:l=[]:=IL (by omega)
  subst this
  rw[II]; exact h2
theorem Rn.two (hb:0<b) {l:List X} (h:Rn key pos b l) (hl:b<l.length):∃r1 r2,l=r1++r2/\r1.length=b/\r1.Pairwise (D_ key pos)/\(∀x∈r1,∀y∈r2,pos x<pos y)/\Rn key pos b r2:=by
 cases h with
 | last _ h _=>omega
 | cons r l h1 h2 h3 h4=>exact⟨r,l,rfl,h1,h2,h3,h4⟩
theorem Rn.first {l:List X} (h:Rn key pos b l) (hl:b<=l.length):∃r1 r2,l=r1++r2/\r1.length=b/\r1.Pairwise (D_ key pos)/\(∀x∈r1,∀y∈r2,pos x<pos y)/\Rn key pos b r2:=by
 cases h with
 | last _ h h'=>exact⟨l,[],by simp,by omega,h',λx _ y hy=>by simp at hy,.last [] (by simp) .nil⟩
 | cons r l h1 h2 h3 h4=>exact⟨r,l,rfl,h1,h2,h3,h4⟩
theorem Db {fu:Nat} (hfu:4194306<=fu) (hcf:CfOk cf key U) {N:Nat} (hN:N<=2097152):∀(n:Nat) (g P:List X) (fk:Nat),g.length<=n->n<fk->P.length + g.length=N->(∀x∈g,U x)->g.Pairwise (λa b=>pos a<pos b) ->
 ∃(Q rest:List X) (z:Int),uG cf fu (N:Int) fk (P++g) (P.length:Int) ((P.length + 20:Nat):Int)=some (P++(Q++rest),((P.length + Q.length:Nat):Int),z)/\(Q++rest).Perm g/\rest.length<20/\rest.Pairwise (λa b=>pos a<pos b)/\(∀x∈Q,∀y∈rest,pos x<pos y)/\∀t,Rn key pos 20 t->(∀x∈Q,∀y∈t,pos x<pos y)->Rn key pos 20 (Q++t)
 | n,g,P,fk,hn,hf,hl,hU,hp=>by
  obtain⟨fk,rfl⟩:∃k,fk=k + 1:=⟨fk - 1,by omega⟩
  by_cases h20:20<=g.length
  · cases n with
    | zero=>omega
    | succ n =>
    obtain⟨g1,g2,rfl,l1⟩:∃g1 g2,g=g1++g2/\g1.length=20:=⟨g.take 20,g.drop 20,(IS _ _).symm,by rw[Is]; omega⟩
    rw[Ip]at hn hl
    obtain⟨hp1,hp2,hp3⟩:=Jm.1 hp
    rw[uG,if_pos (by simp; omega)]
    obtain⟨g1',q1,q2,q3⟩:=Du (fu:=fu) (by omega) hcf (A:=P.length) (B:=P.length + 20) (p:=P) (g:=g1) (s:=g2) rfl (by omega) (by omega) (λx hx=>hU x (Il.2 (.inl hx))) hp1
    rw[q1,Ik]
    have e20:y_ (((P.length + 20:Nat):Int) + 20)=((P.length + 20 + 20:Nat):Int):=wadd (b:=20) (by omega)
    rw[e20]
    have lg:g1'.length=20:=by rw[q2.length_eq,l1]
    obtain⟨Q,rest,z,w1,w2,w3,w4,w5,w6⟩:=Db hfu hcf hN n g2 (P++g1') fk (by omega) (by omega) (by rw[Ip]; omega) (λx hx=>hU x (Il.2 (.inr hx))) hp2
    rw[Ip,lg]at w1
    refine⟨g1'++Q,rest,z,?_,?_,w3,w4,λx hx y hy=>?_,λt ht hc=>?_⟩
    · rw[Ip,lg]
      rw[Ir]at w1
      rw[w1]
      simp [Kb]
    · rw[Ir]
      exact q2.append w2
    · rcases Il.1 hx with hx | hx
      · exact hp3 x (q2.mem_iff.1 hx) y (w2.mem_iff.1 (Il.2 (.inr hy)))
      · exact w5 x hx y hy
    · rw[Ir]
      refine .cons g1' _ lg q3 (λx hx y hy=>?_) (w6 t ht λx hx y hy=>hc x (Il.2 (.inr hx)) y hy)
      rcases Il.1 hy with hy | hy
      · exact hp3 x (q2.mem_iff.1 hx) y (w2.mem_iff.1 (Il.2 (.inl hy)))
      · exact hc x (Il.2 (.inl hx)) y hy
  · refine⟨[],g,((P.length + 20:Nat):Int),?_,by simp,by omega,hp,λx hx=>by simp at hx,λt ht _=>by simpa using ht⟩
    rw[uG,if_neg (by simp; omega)]
    simp
theorem Da {fu:Nat} (hfu:4194306<=fu) (hcf:CfOk cf key U) {N b:Nat} (hN:N<=2097152) (hb:0<b) (hbN:b<N):∀(n:Nat) (g P:List X) (fk:Nat),g.length<=n->n<fk->P.length + g.length=N->(∀x∈g,U x)->Rn key pos b g ->
 ∃(Q rest:List X) (z:Int),uF cf fu (N:Int) (b:Int) fk (P++g) (P.length:Int) ((P.length + 2 * b:Nat):Int)=some (P++(Q++rest),((P.length + Q.length:Nat):Int),z)/\(Q++rest).Perm g/\rest.length<2 * b/\Rn key pos b rest/\(∀x∈Q,∀y∈rest,pos x<pos y)/\∀t,Rn key pos (2 * b) t->(∀x∈Q,∀y∈t,pos x<pos y)->Rn key pos (2 * b) (Q++t)
 | n,g,P,fk,hn,hf,hl,hU,hp=>by
  obtain⟨fk,rfl⟩:∃k,fk=k + 1:=⟨fk - 1,by omega⟩
  by_cases h2b:2 * b<=g.length
  · cases n with
    | zero=>omega
    | succ n =>
    obtain⟨r1,l1,rfl,k1,k2,k3,k4⟩:=hp.two hb (by omega)
    rw[Ip]at h2b
    obtain⟨r2,l2,rfl,k5,k6,k7,k8⟩:=k4.first (by omega)
    rw[Ip,Ip]at hn hl
    have hU1:∀x∈r1,U x:=λx hx=>hU x (by simp [hx])
    have hU2:∀x∈r2,U x:=λx hx=>hU x (by simp [hx])
    rw[uF,if_pos (by simp; omega),wadd (by omega)]
    obtain⟨zs,q1,q2,q3⟩:=rG hcf (b + b) r1 r2 P l2 fu P.length (P.length + b) (P.length + 2 * b) (by omega) (by omega) (by omega) (by omega) rfl (by omega) (by omega) (by omega) hU1 hU2 k2 k6 (λx hx y hy=>k3 x hx y (Il.2 (.inl hy)))
    have e1:P++(r1++(r2++l2))=P++(r1++(r2++l2)):=rfl
    rw[q1,Ik]
    have e2:y_ ((2:Int) * (b:Int))=((2 * b:Nat):Int):=by rw[uZ (by omega) (by omega)]; omega
    rw[e2,wadd (by omega)]
    have lz:zs.length=2 * b:=by rw[q2.length_eq,Ip]; omega
    obtain⟨Q,rest,z,w1,w2,w3,w4,w5,w6⟩:=Da hfu hcf hN hb hbN n l2 (P++zs) fk (by omega) (by omega) (by rw[Ip]; omega) (λx hx=>hU x (by simp [hx])) k8
    rw[Ip,lz]at w1
    have hz2:∀x∈zs,∀y∈l2,pos x<pos y:=λx hx y hy=>by
     rcases Il.1 (q2.mem_iff.1 hx) with hx | hx
     · exact k3 x hx y (Il.2 (.inr hy))
     · exact k7 x hx y hy
    refine⟨zs++Q,rest,z,?_,?_,w3,w4,λx hx y hy=>?_,λt ht hc=>?_⟩
    · rw[Ip,lz]
      rw[Ir]at w1
      rw[w1]
      simp [Kb]
    · rw[Ir,<-Ir r1]
      exact q2.append w2
    · rcases Il.1 hx with hx | hx
      · exact hz2 x hx y (w2.mem_iff.1 (Il.2 (.inr hy)))
      · exact w5 x hx y hy
    · rw[Ir]
      refine .cons zs _ lz q3 (λx hx y hy=>?_) (w6 t ht λx hx y hy=>hc x (Il.2 (.inr hx)) y hy)
      rcases Il.1 hy with hy | hy
      · exact hz2 x hx y (w2.mem_iff.1 (Il.2 (.inl hy)))
      · exact hc x (Il.2 (.inl hx)) y hy
  · refine⟨[],g,((P.length + 2 * b:Nat):Int),?_,by simp,by omega,hp,λx hx=>by simp at hx,λt ht _=>by simpa using ht⟩
    rw[uF,if_neg (by simp; omega)]
    simp
theorem wD {fu:Nat} (hfu:4194306<=fu) (hcf:CfOk cf key U) {N:Nat} (hN:N<=2097152):∀(n b:Nat) (g:List X) (fk:Nat),N - b<=n->n<fk->0<b->b<=4194304->g.length=N->(∀x∈g,U x)->Rn key pos b g ->
 ∃(r:List X) (z:Int),uA cf fu (N:Int) fk g (b:Int)=some (r,z)/\r.Perm g/\r.Pairwise (D_ key pos)
 | n,b,g,fk,hn,hf,hb,hb2,hl,hU,hp=>by
  obtain⟨fk,rfl⟩:∃k,fk=k + 1:=⟨fk - 1,by omega⟩
  by_cases hlt:b<N
  · cases n with
    | zero=>omega
    | succ n =>
    have e2:y_ ((2:Int) * (b:Int))=((2 * b:Nat):Int):=by rw[uZ (by omega) (by omega)]; omega
    have e3:y_ ((b:Int) * 2)=((2 * b:Nat):Int):=by rw[uZ (by omega) (by omega)]; omega
    rw[uA,if_pos (by simpa using hlt),e2,e3]
    obtain⟨Q,rest,z,w1,w2,w3,w4,w5,w6⟩:=Da hfu hcf hN hb hlt g.length g [] fu (IC _) (by omega) (by simpa using hl) hU hp
    simp only[IY,JG,Jd]at w1
    have w1':uF cf fu (N:Int) (b:Int) fu g 0 ((2 * b:Nat):Int)=some (Q++rest,(Q.length:Int),z):=w1
    rw[w1',Ik]
    dsimp only
    rw[wadd (by have:=w2.length_eq; rw[Ip]at this; omega)]
    have hlQ:Q.length + rest.length=N:=by rw[<-Ip,w2.length_eq,hl]
    have hUr:∀x∈rest,U x:=λx hx=>hU x (w2.mem_iff.1 (Il.2 (.inr hx)))
    by_cases hm:Q.length + b<N
    · rw[if_pos (by rw[decide_eq_true_eq]; omega)]
      obtain⟨r1,r2,rfl,k1,k2,k3,k4⟩:=w4.two hb (by omega)
      rw[Ip]at w3 hlQ
      obtain⟨zs,q1,q2,q3⟩:=rG hcf (b + r2.length) r1 r2 Q [] fu Q.length (Q.length + b) N (by omega) (by omega) (by omega) (by omega) rfl (by omega) (by omega) (by omega) (λx hx=>hUr x (Il.2 (.inl hx))) (λx hx=>hUr x (Il.2 (.inr hx))) k2 (k4.short (by omega)) k3
      simp only[II]at q1
      rw[q1,Ik]
      have hpm:(Q++zs).Perm g:=(q2.append_left Q).trans w2
      obtain⟨r,z',v1,v2,v3⟩:=wD hfu hcf hN n (2 * b) (Q++zs) fk (by omega) (by omega) (by omega) (by omega) (by rw[hpm.length_eq,hl]) (λx hx=>hU x (hpm.mem_iff.1 hx)) (w6 zs (.last zs (by rw[q2.length_eq,Ip]; omega) q3) λx hx y hy=>w5 x hx y (q2.mem_iff.1 hy))
      exact⟨r,z',v1,v2.trans hpm,v3⟩
    · rw[if_neg (by rw[decide_eq_true_eq]; omega)]
      obtain⟨r,z',v1,v2,v3⟩:=wD hfu hcf hN n (2 * b) (Q++rest) fk (by omega) (by omega) (by omega) (by omega) (by rw[w2.length_eq,hl]) (λx hx=>hU x (w2.mem_iff.1 hx)) (w6 rest (.last rest (by omega) (w4.short (by omega))) w5)
      exact⟨r,z',v1,v2.trans w2,v3⟩
  · refine⟨g,(b:Int),?_,J2 _,hp.short (by omega)⟩
    rw[uA,if_neg (by simpa using hlt)]
theorem EW {fu:Nat} (hfu:4194306<=fu) (hcf:CfOk cf key U) {l:List X} (hl:l.length<=2097152) (hU:∀x∈l,U x) (hp:l.Pairwise λa b=>pos a<pos b):∃r,uU cf fu l=some r/\r.Perm l/\r.Pairwise (D_ key pos):=by
 rw[uU,vq];obtain⟨Q,rest,z,w1,w2,w3,w4,w5,w6⟩:=Db (N:=l.length) hfu hcf hl l.length l [] fu (IC _) (by omega) (by simp) hU hp;simp only[IY,JG,Jd]at w1;have w1':uG cf fu (l.length:Int) fu l 0 20=some (Q++rest,(Q.length:Int),z):=w1;rw[w1',Ik];dsimp only;have hlQ:Q.length + rest.length=l.length:=by rw[<-Ip,w2.length_eq]
 obtain⟨g',q1,q2,q3⟩:=Du (fu:=fu) (by omega) hcf (A:=Q.length) (B:=l.length) (p:=Q) (g:=rest) (s:=[]) rfl hlQ hl (λx hx=>hU x (w2.mem_iff.1 (Il.2 (.inr hx)))) w4;simp only[II]at q1;rw[q1,Ik];have hpm:(Q++g').Perm l:=(q2.append_left Q).trans w2;obtain⟨r,z',v1,v2,v3⟩:=wD (pos:=pos) hfu hcf hl l.length 20 (Q++g') fu (by omega) (by omega) (by omega) (by omega) hpm.length_eq (λx hx=>hU x (hpm.mem_iff.1 hx)) (w6 g' (.last g' (by rw[q2.length_eq]; omega) q3) λx hx y hy=>w5 x hx y (q2.mem_iff.1 hy));have v1':uA cf fu (l.length:Int) fu (Q++g') 20=some (r,z'):=v1;rw[v1'];exact⟨r,rfl,v2.trans hpm,v3⟩
end
end
section
def O2:Pg:=⟨⟨0,[]⟩,0⟩
def R0:Nt:=⟨0,0,0,0⟩
def jm (c:Pg):Int:=c.count * (c.route.Nw.length:Int)
def usb1 (n:Nq) (F:List Ng) (rate:Int) (r:Nk):List Pg:=if cq F (lenR n.Nw r.Nw) rate > 0 then [⟨r,cq F (lenR n.Nw r.Nw) rate⟩] else []
def Z1 (n:Nq) (F:List Ng) (d:Nt):List Pg:=(M0 n d.Rw d.To).flatMap (usb1 n F d.Ph)
structure ChB (n:Nq) (d:Nt) (c:Pg):Prop where
 rt:c.route∈M0 n d.Rw d.To
 rb:RtB n c.route
 c1:1<=c.count
 c2:c.count<=24
structure DemF (n:Nq) (d:Nt):Prop where
 f0:0<=d.Rw
 f1:d.Rw<(n.Nv.length:Int)
 t0:0<=d.To
 t1:d.To<(n.Nv.length:Int)
 ne:d.Rw≠d.To
 rate:1<=d.Ph/\d.Ph<=1000
variable {n:Nq} {d:Nt}
theorem demF (h:dm n d=true):DemF n d:=by
 unfold dm at h;simp only[Iw,decide_eq_true_eq,bne_iff_ne,ne_eq]at h;obtain⟨⟨h1,h2⟩,⟨h3,h4⟩,h5,⟨h6,h7⟩,-⟩:=h;exact⟨h1,by omega,h3,by omega,h5,h6,h7⟩
theorem lL (hn:NetF n) {F:List Ng} (hF:FmtF F) {d:Nt} (hd:DemF n d) {c:Pg} (hc:c∈Z1 n F d):ChB n d c:=by
 obtain⟨r,hr,hc⟩:=I7.1 hc;unfold usb1 at hc;split at hc
 rename_i hs;rw[Iu]at hc;subst hc;rcases pC hF (len:=lenR n.Nw r.Nw) hd.rate with h | ⟨h1,h2,-⟩
 omega;exact⟨hr,(s7 hn hd.f0 hd.f1 d.To).1 r hr,h1,h2⟩;simp at hc
theorem qM {F:List Ng} :(Z1 n F d).length<=(M0 n d.Rw d.To).length:=by
 unfold Z1;have:=jk (f:=usb1 n F d.Ph) (b:=1) (M0 n d.Rw d.To) λr _=>by unfold usb1; split <;> simp
 omega
theorem i8 {fu:Nat} (hfu:2097153<=fu) {n:Nq} (hn:NetF n) {F:List Ng} (hok:eY F=true) {d:Nt} (hd:DemF n d) (b:Bool) (l:List Nk) (hl:∀r∈l,RtB n r) (hll:l.length<=1000):∀(fk i:Nat) (out:List Pg),i<=l.length->l.length - i<fk->out.length<=i->∃z,zm fu n F d (l,b) fk out i=some (out++(l.drop i).flatMap (usb1 n F d.Ph),z)
 | 0,i,out,hi,hf,ho=>by omega
 | fk + 1,i,out,hi,hf,ho=>by
  rw[zm]
  by_cases h:i<l.length
  · have hr:=hl _ (IE h)
    have hsh:=hr.short
    have hlen:=oE hn hr.fib
    rw[if_pos (by simpa using h),vw h,Ik,kn hfu hn l[i] hr.fib (by omega),Ik,sZ hfu hok hlen.1 hd.rate,Ik,vP h (by omega),<-IB h,Jl]
    dsimp only
    unfold usb1
    by_cases hs:cq F (lenR n.Nw l[i].Nw) d.Ph > 0
    · rw[decide_eq_true hs,if_pos rfl,if_pos hs]
      rw[yN (by simp; omega),Ik]
      obtain⟨z,hz⟩:=i8 hfu hn hok hd b l hl hll fk (i + 1) (out++[⟨l[i],cq F (lenR n.Nw l[i].Nw) d.Ph⟩]) h (by omega) (by simp; omega)
      exact⟨z,by rw[hz,Ir]; rfl⟩
    · rw[decide_eq_false hs,if_neg (by simp),if_neg hs]
      obtain⟨z,hz⟩:=i8 hfu hn hok hd b l hl hll fk (i + 1) out h (by omega) (by omega)
      exact⟨z,by rw[hz]; rfl⟩
  · have e:i=l.length:=by omega
    subst e
    rw[if_neg (by simp),IX,JO,II]
    exact⟨_,rfl⟩
theorem CK (hnet:cO n=true) (hd:DemF n d):ee n d.Rw d.To=true:=tj.2 ⟨hnet,⟨hd.f0,hd.f1⟩,⟨hd.t0,hd.t1⟩,hd.ne⟩
theorem pt {fu:Nat} (hfu:2097200<=fu) {n:Nq} (hnet:cO n=true) (hB:NetB n) {F:List Ng} (hok:eY F=true) {d:Nt} (hd:dm n d=true):dE fu n F d=some (if (M0 n d.Rw d.To).length<=200 then (Z1 n F d,true) else ([],false)):=by
 have hF:=fmtF hok;have h6:=hF.len;have hdF:=demF hd;have e:iu n [d]=true:=by unfold iu; rw[hnet]; simp [hd]
 unfold dE;rw[iK (by omega) F (by omega),hok,Ik,if_neg (by decide),jj (by omega) n [d] hB (by simp),e,Ik,Ik,if_neg (by decide),oK hfu n _ _ hB,Ik];have hpp:=CK hnet hdF;by_cases h:(M0 n d.Rw d.To).length<=200;rw[if_pos (show ee n d.Rw d.To=true/\(M0 n d.Rw d.To).length<=200 from ⟨hpp,h⟩),if_pos h,if_neg (by simp)];obtain⟨z,hz⟩:=i8 (fu:=fu) (by omega) (netF hnet) hok hdF true (M0 n d.Rw d.To) (s7 (netF hnet) hdF.f0 hdF.f1 d.To).1 (by omega) fu 0 [] (by omega) (by omega) (by simp);rw[show ((0:Nat):Int)=0 from rfl,IR,IY]at hz;rw[hz]; rfl;rw[if_neg (show ¬(ee n d.Rw d.To=true/\(M0 n d.Rw d.To).length<=200) from λc=>h c.2),if_neg h]; rfl
theorem gV {fu:Nat} (hfu:2097153<=fu) {n:Nq} (hn:NetF n) {F:List Ng} (hF:FmtF F) {d:Nt} (hd:DemF n d) (b:Bool) (l:List Nk) (hl:∀r∈l,RtB n r) (hll:l.length<=1000):∀(fk i:Nat) (o1:List Nk) (o2:d_),i<=l.length->l.length - i<fk->o1.length<=i->o2.length<=i->∃z,x6 fu n F d (l,b) fk o1 o2 i=some (o1++((l.drop i).flatMap (usb1 n F d.Ph)).map (·.route),o2++((l.drop i).flatMap (usb1 n F d.Ph)).map (·.count),z)
 | 0,i,o1,o2,hi,hf,h1,h2=>by omega
 | fk + 1,i,o1,o2,hi,hf,h1,h2=>by
  rw[x6]
  by_cases h:i<l.length
  · have hr:=hl _ (IE h)
    have hsh:=hr.short
    rw[if_pos (by simpa using h),vw h,Ik,jg hfu hn l[i] hr.fib (by omega),Ik,qT hF hd.rate hfu,Ik,vP h (by omega),<-IB h,Jl]
    by_cases hs:cq F (lenR n.Nw l[i].Nw) d.Ph > 0
    · have e1:usb1 n F d.Ph l[i]=[⟨l[i],cq F (lenR n.Nw l[i].Nw) d.Ph⟩]:=if_pos hs
      rw[if_pos (by simpa using hs),e1,Ik,yN (by simp; omega),Ik,yN (by simp; omega),Ik]
      obtain⟨z,hz⟩:=gV hfu hn hF hd b l hl hll fk (i + 1) (o1++[l[i]]) (o2++[cq F (lenR n.Nw l[i].Nw) d.Ph]) h (by omega) (by simp; omega) (by simp; omega)
      exact⟨z,by rw[hz]; simp⟩
    · have e1:usb1 n F d.Ph l[i]=[]:=if_neg hs
      rw[if_neg (by simpa using hs),e1]
      obtain⟨z,hz⟩:=gV hfu hn hF hd b l hl hll fk (i + 1) o1 o2 h (by omega) (by omega) (by omega)
      exact⟨z,by rw[hz]; rfl⟩
  · have e:i=l.length:=by omega
    subst e
    rw[if_neg (by simp),IX,JO,Ka,II,Ka,II]
    exact⟨_,rfl⟩
theorem sO {fu:Nat} (hfu:2097200<=fu) {n:Nq} (hn:NetF n) {F:List Ng} (hF:FmtF F) {d:Nt} (hd:DemF n d):co fu n F d=some (if (M0 n d.Rw d.To).length<=200 then ((Z1 n F d).map (·.route),(Z1 n F d).map (·.count),true) else ([],[],false)):=by
 unfold co;rw[sk hfu hn _ _ hd.f0 hd.f1,Ik];by_cases h:(M0 n d.Rw d.To).length<=200;rw[if_pos h,if_pos h,if_neg (by simp)];obtain⟨z,hz⟩:=gV (fu:=fu) (by omega) hn hF hd true (M0 n d.Rw d.To) (s7 hn hd.f0 hd.f1 d.To).1 (by omega) fu 0 [] [] (by omega) (by omega) (by simp) (by simp);rw[show ((0:Nat):Int)=0 from rfl,IR,IY,IY]at hz;rw[hz]; rfl;rw[if_neg h,if_neg h]; rfl
def keyC (l:List Pg) (i:Nat):Int:=jm (gd l i O2)
def srtC (l:List Pg):List Pg:=(d7 (keyC l) l.length).map λi=>gd l i O2
theorem dS (l:List Pg):(srtC l).Perm l:=by
 unfold srtC;have h:=(el (keyC l) l.length).map λi=>gd l i O2;have e:(List.range l.length).map (λi=>gd l i O2)=l:=by
  apply JW
  · simp
  · intro i h1 h2
    simp [bv O2 h2]
 rwa [e]at h
theorem oT {c:Pg} (h1:0<=c.count/\c.count<=24) (h2:c.route.Nw.length<=100):0<=jm c/\jm c<=2400:=by
 unfold jm;obtain⟨a,b⟩:=h1;generalize c.count=x at a b;generalize c.route.Nw.length=y at h2;refine⟨Int.mul_nonneg a (by omega),?_⟩;have:=Int.mul_le_mul b (show (y:Int)<=100 by omega) (by omega) (by omega);omega
theorem Az {α:Type} {l:List α} {d:α}:∀{is:m_},(∀i∈is,i<l.length)->is.mapM (λi:Nat=>l[i]?)=some (is.map λi=>gd l i d)
 | [],_=>rfl
 | i::is,h=>by
  rw[Lx,Az λj hj=>h j (IP _ hj),Iq (h i (IK ..)),Je,bv d (h i (IK ..))]
  rfl
theorem qB {fu:Nat} (hfu:4194306<=fu) {l:List Pg} (hl:∀c∈l,(0<=c.count/\c.count<=24)/\c.route.Nw.length<=100) (hll:l.length<=1000):dG fu l=some (srtC l):=by
 have hcost:∀c∈l,xD fu c=some (jm c):=λc hc=>by
  have:=oT (hl c hc).1 (hl c hc).2
  unfold xD
  rw[uZ (by unfold jm at this; omega) (by unfold jm at this; omega)]
  rfl
 have hcf:CfOk (λi j:Nat=>(l[i]?).bind λa=>(l[j]?).bind λb=>ay fu a b) (keyC l) (λi=>i<l.length):=λi j hi hj=>by
  have hi:i<l.length:=hi
  have hj:j<l.length:=hj
  refine⟨cmpI (keyC l i) (keyC l j),?_,dQ _ _⟩
  show ((l[i]?).bind λa=>(l[j]?).bind λb=>ay fu a b)=_
  unfold keyC
  rw[bv O2 hi,bv O2 hj,Iq hi,Ik,Iq hj,Ik,ay,hcost _ (IE hi),Ik,hcost _ (IE hj),Ik,iL,Ik]
 obtain⟨r,h1,h2,h3⟩:=EW (pos:=id) hfu hcf (l:=List.range l.length) (by rw[Jb]; omega) (λi hi=>I4.1 hi) List.pairwise_lt_range;have e:r=d7 (keyC l) l.length:=El (h2.trans (el _ _).symm) h3 (gW _ _);unfold dG;rw[h1,Ik,e,Az λi hi=>lu hi];rfl
def tL (L:List Nx) (fit:Int) (c:Pg):List Nx:=match blkP (along L c.route.Nw) c.count fit with
 | some b=>[⟨0,c.route,b⟩]
 | none=>[]
def qx (p:Nh) (F:List Ng) (d:Nt) (fit:Int):List Nx:=(srtC (Z1 p.Nq F d)).flatMap (tL p.Nz fit)
theorem fc {fu:Nat} (hfu:2097153<=fu) {p:Nh} (hB:bB p) (hF:PlanF p) (fit:Int) (l:List Pg) (hl:∀c∈l,RtB p.Nq c.route/\1<=c.count/\c.count<=24) (hll:l.length<=1000):∀(fk i:Nat) (out:List Nx),i<=l.length->l.length - i<fk->out.length<=i->∃z,xP fu p fit l fk out i=some (out++(l.drop i).flatMap (tL p.Nz fit),z)
 | 0,i,out,hi,hf,ho=>by omega
 | fk + 1,i,out,hi,hf,ho=>by
  have hblk:∀y∈p.Nz,yD y.Nj=true:=λy hy=>(hF.light y hy).blk
  rw[xP]
  by_cases h:i<l.length
  · obtain⟨hr,c1,c2⟩:=hl _ (IE h)
    have hsh:=hr.short
    rw[if_pos (by simpa using h),vw h,Ik,pL hfu p hB hF _ (by omega) hr.fib,Ik,tF hfu (lH hblk _) c1 c2,Ik,vP h (by omega),<-IB h,Jl]
    unfold tL
    cases hb:blkP (along p.Nz l[i].route.Nw) l[i].count fit with
    | some b =>
     have e:optB (some b)=(b,true):=rfl
     rw[e]
     dsimp only
     rw[if_pos rfl,yN (by simp; omega),Ik]
     obtain⟨z,hz⟩:=fc hfu hB hF fit l hl hll fk (i + 1) (out++[⟨0,l[i].route,b⟩]) h (by omega) (by simp; omega)
     exact⟨z,by rw[hz,Ir]; rfl⟩
    | none =>
     have e:optB none=(b0R,false):=rfl
     rw[e]
     dsimp only
     rw[if_neg (by simp)]
     obtain⟨z,hz⟩:=fc hfu hB hF fit l hl hll fk (i + 1) out h (by omega) (by omega)
     exact⟨z,by rw[hz]; rfl⟩
  · have e:i=l.length:=by omega
    subst e
    rw[if_neg (by simp),IX,JO,II]
    exact⟨_,rfl⟩
theorem oU {fu:Nat} (hfu:4194306<=fu) {p:Nh} (hB:bB p) (hp:vR p=true) {F:List Ng} (hok:eY F=true) {d:Nt} (hd:dm p.Nq d=true) (fit:Int):bZ fu p F d fit=some (if (M0 p.Nq d.Rw d.To).length<=200 then (qx p F d fit,true) else ([],false)):=by
 have hnet:=(x7.1 hp).1;have hn:=netF hnet;unfold bZ;rw[pt (by omega) hnet hB.1 hok hd,Ik];by_cases h:(M0 p.Nq d.Rw d.To).length<=200;have hul:=qM (n:=p.Nq) (F:=F) (d:=d);have hm:∀c∈Z1 p.Nq F d,ChB p.Nq d c:=λc hc=>lL hn (fmtF hok) (demF hd) hc;rw[if_pos h,if_pos h,if_neg (by simp)];dsimp only;rw[qB hfu (λc hc=>⟨⟨by have:=(hm c hc).c1; omega,(hm c hc).c2⟩,by have:=(hm c hc).rb.short; omega⟩) (by omega),Ik];obtain⟨z,hz⟩:=fc (fu:=fu) (by omega) hB (iU hp) fit (srtC (Z1 p.Nq F d)) (λc hc=>by
  have:=hm c ((dS _).mem_iff.1 hc)
  exact⟨this.rb,this.c1,this.c2⟩) (by rw[(dS _).length_eq]; omega) fu 0 [] (by omega) (by rw[(dS _).length_eq]; omega) (by simp)
 rw[show ((0:Nat):Int)=0 from rfl,IR,IY]at hz;rw[hz]; rfl;rw[if_neg h,if_neg h]; rfl
variable {α:Type} {l:List α}
theorem ql {β:Type} {i:Nat} (f:α->β) (d:α) (e:β) (h:i<l.length):gd (l.map f) i e=f (gd l i d):=by
 rw[bv _ (by simpa using h),bv d h,J9]
theorem nD {fu:Nat} (l:List Pg) (b:Bool) (hl:∀c∈l,(0<=c.count/\c.count<=24)/\c.route.Nw.length<=100) (o:m_) (ho:∀i∈o,i<l.length) (hol:o.length<=1000) {i:Nat} (hi:i<l.length):∀(k fk:Nat),k<=o.length->k<fk->xL fu (l.map (·.route),l.map (·.count),b) (o.map λj:Nat=>(j:Int)) (i:Int) fk (k:Int)=some ((stN (keyC l) o i k:Nat):Int)
 | 0,fk,hk,hf=>by
  obtain⟨fk,rfl⟩:∃k,fk=k + 1:=⟨fk - 1,by omega⟩
  rw[xL,if_neg (by simp),Ik,if_neg (by simp)]
  rfl
 | k + 1,fk,hk,hf=>by
  obtain⟨fk,rfl⟩:∃k,fk=k + 1:=⟨fk - 1,by omega⟩
  have hw:y_ (((k + 1:Nat):Int) - 1)=(k:Int):=by rw[uZ (by omega) (by omega)]; omega
  have hko:k<o.length:=by omega
  have hj:=ho _ (aR 0 hko)
  have e1:V_ (o.map λj:Nat=>(j:Int)) (k:Int)=some ((gd o k 0:Nat):Int):=by
   rw[yb 0 (by simpa using hko),ql (λj:Nat=>(j:Int)) 0 0 hko]
  have e2:∀j:Nat,j<l.length->V_ (l.map (·.count)) (j:Int)=some (gd l j O2).count:=λj hj=>by
   rw[yb 0 (by simpa using hj),ql (·.count) O2 0 hj]
  have e3:∀j:Nat,j<l.length->V_ (l.map (·.route)) (j:Int)=some (gd l j O2).route:=λj hj=>by
   rw[yb rt0 (by simpa using hj),ql (·.route) O2 rt0 hj]
  have e4:∀j:Nat,j<l.length->y_ ((gd l j O2).count * ((gd l j O2).route.Nw.length:Int))=keyC l j:=λj hj=>by
   have:=oT (hl _ (aR O2 hj)).1 (hl _ (aR O2 hj)).2
   unfold jm at this
   exact uZ (by omega) (by omega)
  rw[xL,if_pos (by simp),hw]
  dsimp only
  rw[e1,Ik,e2 _ hj,Ik,Ik,e3 _ hj,Ik,e2 _ hi,Ik,e3 _ hi,Ik,e4 _ hj,e4 _ hi,Ik,stN]
  by_cases hc:keyC l (gd o k 0) > keyC l i
  · rw[if_pos (by simpa using hc),if_pos hc]
    exact nD l b hl o ho hol hi k fk (by omega) (by omega)
  · rw[if_neg (by simpa using hc),if_neg hc]
theorem wB {n:Nat} (h:n<=l.length):sub l 0 (n:Int)=some (l.take n):=gi h
theorem wC {n:Nat} (h:n<=l.length):sub l (n:Int) (l.length:Int)=some (l.drop n):=by
 unfold sub;rw[if_pos ⟨by omega,by omega,by omega⟩,IQ,IQ,KG]
theorem nE {fu:Nat} (hfu:2097153<=fu) (l:List Pg) (b:Bool) (hl:∀c∈l,(0<=c.count/\c.count<=24)/\c.route.Nw.length<=100) (hll:l.length<=1000):∀(fk i:Nat),i<=l.length->l.length - i<fk->∃z,xM fu (l.map (·.route),l.map (·.count),b) fk ((d7 (keyC l) i).map λj:Nat=>(j:Int)) i=some ((d7 (keyC l) l.length).map λj:Nat=>(j:Int),z)
 | 0,i,hi,hf=>by omega
 | fk + 1,i,hi,hf=>by
  rw[xM]
  by_cases h:i<l.length
  · have hlen:=pw (keyC l) i
    have hsp:=(nZ (keyC l) (d7 (keyC l) i) i (d7 (keyC l) i).length).1
    rw[if_pos (by simpa using h),I5,nD (fu:=fu) l b hl (d7 (keyC l) i) (λj hj=>Nat.lt_trans (lu hj) h) (by omega) h _ fu (IC _) (by omega),Ik]
    have e1:=wB (l:=(d7 (keyC l) i).map λj:Nat=>(j:Int)) (n:=stN (keyC l) (d7 (keyC l) i) i (d7 (keyC l) i).length) (by rw[I5]; exact hsp)
    have e2:=wC (l:=(d7 (keyC l) i).map λj:Nat=>(j:Int)) (n:=stN (keyC l) (d7 (keyC l) i) i (d7 (keyC l) i).length) (by rw[I5]; exact hsp)
    rw[I5]at e2
    rw[e1,Ik,e2,Ik,yN (by simp; omega),Ik,yN (by simp; omega),Ik,yN (by simp; omega),Ik,vP h (by omega)]
    obtain⟨z,hz⟩:=nE hfu l b hl hll fk (i + 1) h (by omega)
    refine⟨z,?_⟩
    rw[<-hz,d7,sR]
    congr 1
    simp
  · have e:i=l.length:=by omega
    subst e
    rw[if_neg (by simp)]
    exact⟨_,rfl⟩
theorem mI {fu:Nat} (hfu:2097153<=fu) {p:Nh} (hB:bB p) (hF:PlanF p) (fit:Int) (l:List Pg) (b:Bool) (hl:∀c∈l,RtB p.Nq c.route/\1<=c.count/\c.count<=24) (o:m_) (ho:∀i∈o,i<l.length) (hol:o.length<=1000):∀(fk i:Nat) (out:List Nx),i<=o.length->o.length - i<fk->out.length<=i->∃z,xK fu p fit (l.map (·.route),l.map (·.count),b) (o.map λj:Nat=>(j:Int)) fk out i=some (out++((o.drop i).map λj=>gd l j O2).flatMap (tL p.Nz fit),z)
 | 0,i,out,hi,hf,h0=>by omega
 | fk + 1,i,out,hi,hf,h0=>by
  have hblk:∀y∈p.Nz,yD y.Nj=true:=λy hy=>(hF.light y hy).blk
  have hps:=hF.short
  rw[xK]
  by_cases h:i<o.length
  · have hj:=ho _ (IE h)
    obtain⟨hr,c1,c2⟩:=hl _ (aR O2 hj)
    have hsh:=hr.short
    have e1:V_ (o.map λj:Nat=>(j:Int)) (i:Int)=some ((o[i]:Nat):Int):=by
     rw[vw (by simpa using h),J9]
    have e2:V_ (l.map (·.count)) ((o[i]:Nat):Int)=some (gd l o[i] O2).count:=by
     rw[yb 0 (by simpa using hj),ql (·.count) O2 0 hj]
    have e3:V_ (l.map (·.route)) ((o[i]:Nat):Int)=some (gd l o[i] O2).route:=by
     rw[yb rt0 (by simpa using hj),ql (·.route) O2 rt0 hj]
    rw[if_pos (by simpa using h),e1,Ik]
    dsimp only
    rw[e3,Ik,Ik,e2,Ik,iG hfu p _ (by omega) hblk hB.2.2 (by omega),Ik,vP h (by omega),<-IB h,Je,Jl]
    obtain⟨bb,hb1,hb2⟩:=re (fit:=fit) hfu (lH hblk (gd l o[i] O2).route.Nw) c1 c2
    rw[hb1,Ik]
    unfold tL
    rcases hb2 with ⟨hb2,hb3⟩ | hb2
    · rw[hb2,hb3,if_neg (by simp)]
      obtain⟨z,hz⟩:=mI hfu hB hF fit l b hl o ho hol fk (i + 1) out h (by omega) (by omega)
      exact⟨z,by rw[hz]; rfl⟩
    · rw[hb2]
      have hbc:=(rv (lH hblk _) c1 c2 hb2).1
      rw[if_pos (by rw[hbc,decide_eq_true_eq]; omega),sj fu _ (by omega),Ik,yN (by simp; omega),Ik]
      obtain⟨z,hz⟩:=mI hfu hB hF fit l b hl o ho hol fk (i + 1) (out++[⟨0,(gd l o[i] O2).route,bb⟩]) h (by omega) (by simp; omega)
      exact⟨z,by rw[hz,Ir]; rfl⟩
  · have e:i=o.length:=by omega
    subst e
    rw[if_neg (by simp),IX,Ka,JO,II]
    exact⟨_,rfl⟩
theorem tV {fu:Nat} (hfu:2097200<=fu) {p:Nh} (hB:bB p) (hp:vR p=true) {F:List Ng} (hok:eY F=true) {d:Nt} (hd:dm p.Nq d=true) (fit:Int):bR fu p F d fit=some (if (M0 p.Nq d.Rw d.To).length<=200 then (qx p F d fit,true) else ([],false)):=by
 have hnet:=(x7.1 hp).1;have hn:=netF hnet;unfold bR;rw[sO hfu hn (fmtF hok) (demF hd),Ik];by_cases h:(M0 p.Nq d.Rw d.To).length<=200;have hul:=qM (n:=p.Nq) (F:=F) (d:=d);have hm:∀c∈Z1 p.Nq F d,ChB p.Nq d c:=λc hc=>lL hn (fmtF hok) (demF hd) hc;have hlen:=pw (keyC (Z1 p.Nq F d)) (Z1 p.Nq F d).length;rw[if_pos h,if_pos h,if_neg (by simp)];obtain⟨z,hz⟩:=nE (fu:=fu) (by omega) (Z1 p.Nq F d) true (λc hc=>⟨⟨by have:=(hm c hc).c1; omega,(hm c hc).c2⟩,by have:=(hm c hc).rb.short; omega⟩) (by omega) fu 0 (by omega) (by omega);have hz':xM fu ((Z1 p.Nq F d).map (·.route),(Z1 p.Nq F d).map (·.count),true) fu [] 0=some ((d7 (keyC (Z1 p.Nq F d)) (Z1 p.Nq F d).length).map λj:Nat=>(j:Int),z):=hz
 rw[hz',Ik];obtain⟨z2,hz2⟩:=mI (fu:=fu) (by omega) hB (iU hp) fit (Z1 p.Nq F d) true (λc hc=>⟨(hm c hc).rb,(hm c hc).c1,(hm c hc).c2⟩) (d7 (keyC (Z1 p.Nq F d)) (Z1 p.Nq F d).length) (λi hi=>lu hi) (by omega) fu 0 [] (by omega) (by omega) (by simp);rw[show ((0:Nat):Int)=0 from rfl,IR,IY]at hz2;rw[hz2]; rfl;rw[if_neg h,if_neg h]; rfl
end
section
def fidS:List Nx->Int->Int
 | [],id=>id
 | x::l,id=>if x.Id=id then fidS l (id + 1) else id
theorem oR:∀(l:List Nx) (id:Int),id<=fidS l id/\fidS l id<=id + (l.length:Int)
 | [],id=>by rw[fidS]; simp
 | x::l,id=>by
  rw[fidS]
  split
  · have:=oR l (id + 1)
    simp only[I3]
    omega
  · simp only[I3]
    omega
theorem oQ:∀(l:List Nx) (id:Int),l.Pairwise (λa b=>a.Id<b.Id)->(∀x∈l,id<=x.Id)->∀x∈l,x.Id≠fidS l id
 | [],id,_,_,x,hx=>by simp at hx
 | y::l,id,hp,hi,x,hx=>by
  obtain⟨h1,h2⟩:=JE.1 hp
  rw[fidS]
  split
  · rename_i hy
    have h3:∀z∈l,id + 1<=z.Id:=λz hz=>by have:=h1 z hz; omega
    have h4:=oR l (id + 1)
    rcases IW.1 hx with rfl | hx
    · omega
    · exact oQ l (id + 1) h2 h3 x hx
  · rename_i hy
    have h5:=hi y (IK ..)
    rcases IW.1 hx with rfl | hx
    · exact hy
    · have:=h1 x hx; omega
theorem mz {fu:Nat} (hfu:2097153<=fu) (p:Nh) (hl:p.Nz.length<=12):∀(l pre:List Nx) (id:Int) (fk:Nat),p.Nz=pre++l->l.length<fk->l.Pairwise (λa b=>a.Id<b.Id)->(∀x∈pre,x.Id<id)->(∀x∈l,id<=x.Id)->0<=id->id + (l.length:Int)<=1000->ax fu p fk id=some (fidS l id)
 | l,pre,id,fk,he,hf,hp,h1,h2,h0,hb=>by
  obtain⟨fk,rfl⟩:∃k,fk=k + 1:=⟨fk - 1,by omega⟩
  have hpre:∀x∈pre,(x.Id==id)=false:=λx hx=>by have:=h1 x hx; rw[beq_eq_false_iff_ne]; omega
  rw[ax,ka p id (by omega) (by omega),Ik]
  have hany:(p.Nz.any λy=>y.Id==id)=l.any λy=>y.Id==id:=by
   rw[he,List.any_append]
   have:(pre.any λy=>y.Id==id)=false:=by
    rw[Kx]
    intro x hx
    rw[hpre x hx]
    decide
   rw[this,JV]
  rw[hany]
  cases l with
  | nil =>
   rw[fidS]
   simp
  | cons x l =>
   obtain⟨q1,q2⟩:=JE.1 hp
   have hx:=h2 x (IK ..)
   rw[fidS]
   by_cases hid:x.Id=id
   · have:((x::l).any λy=>y.Id==id)=true:=by simp [hid]
     rw[if_pos this,if_pos (by simp),if_pos hid]
     simp only[I3]at hf hb
     rw[uZ (by omega) (by omega)]
     exact mz hfu p hl l (pre++[x]) (id + 1) fk (by rw[he]; simp) (by omega) q2 (λy hy=>by
      rcases Il.1 hy with hy | hy
      · have:=h1 y hy; omega
      · simp only[Iu]at hy; subst hy; omega) (λy hy=>by have:=q1 y hy; omega) (by omega) (by omega)
   · have:((x::l).any λy=>y.Id==id)=false:=by
      rw[Kx]
      intro y hy
      rcases IW.1 hy with rfl | hy
      · simpa using hid
      · have:=q1 y hy
        rw[beq_iff_eq]; omega
     rw[this,if_neg (show ¬(false=true) by decide),if_neg (by simp),if_neg hid]
theorem kN {fu:Nat} (p:Nh) (hl:p.Nz.length<=12):∀(fk i:Nat) (id:Int),i<=p.Nz.length->p.Nz.length - i<fk->0<=id->id + ((p.Nz.length - i:Nat):Int)<=1000->∃z,ba fu p fk id i=some (fidS (p.Nz.drop i) id,z)
 | 0,i,id,hi,hf,_,_=>by omega
 | fk + 1,i,id,hi,hf,h0,hb=>by
  rw[ba]
  by_cases h:i<p.Nz.length
  · rw[if_pos (by simpa using h),vw h,Ik,Ik,<-IB h,fidS]
    by_cases hid:p.Nz[i].Id=id
    · rw[if_pos (by simpa using hid),if_pos hid,vP h (by omega),uZ (by omega) (by omega)]
      exact kN p hl fk (i + 1) (id + 1) h (by omega) (by omega) (by omega)
    · rw[if_neg (by simpa using hid),if_neg hid]
      exact⟨_,rfl⟩
  · have e:i=p.Nz.length:=by omega
    subst e
    rw[if_neg (by simp),Ik,if_neg (by simp),IX,fidS]
    exact⟨_,rfl⟩
theorem gw {p:Nh} (hp:vR p=true):p.Nz.Pairwise λa b=>a.Id<b.Id:=(x7.1 hp).2.2.2.imp λh=>h.1
theorem jC {p:Nh} (hp:vR p=true):∀x∈p.Nz,1<=x.Id:=λx hx=>by
 have:=(x7.1 hp).2.2.1 x hx
 unfold bn at this
 simp only[Iw,decide_eq_true_eq]at this
 exact this.1.1
theorem AY {fu:Nat} (hfu:2097153<=fu) {p:Nh} (hp:vR p=true):eV fu p=some (fidS p.Nz 1):=by
 have hl:=(x7.1 hp).2.1;unfold eV;rw[mz hfu p hl p.Nz [] 1 fu rfl (by omega) (gw hp) (λx hx=>by simp at hx) (jC hp) (by omega) (by omega)];rfl
theorem tD {fu:Nat} (hfu:2097153<=fu) {p:Nh} (hp:vR p=true):fT fu p=some (fidS p.Nz 1):=by
 have hl:=(x7.1 hp).2.1;unfold fT;obtain⟨z,hz⟩:=kN (fu:=fu) p hl fu 0 1 (by omega) (by omega) (by omega) (by omega);rw[show ((0:Nat):Int)=0 from rfl,IR]at hz;rw[hz]; rfl
def newL (p:Nh) (x:Nx):Nx:=⟨fidS p.Nz 1,x.Nk,x.Nj⟩
def srvP (p:Nh) (F:List Ng) (d:Nt) (fit:Int):Nh×Int:=match qx p F d fit with
 | []=>(p,0)
 | x::_=>if p.Nz.length=12 then (p,0) else (addP p (newL p x),fidS p.Nz 1)
structure ConB (p:Nh) (F:List Ng) (d:Nt) (x:Nx):Prop where
 rt:x.Nk∈M0 p.Nq d.Rw d.To
 rb:RtB p.Nq x.Nk
 cnt:x.Nj.Pz=cq F (lenR p.Nq.Nw x.Nk.Nw) d.Ph
 c1:1<=x.Nj.Pz
 c2:x.Nj.Pz<=24
 fit:x.Nj.Pk∈fits (along p.Nz x.Nk.Nw) x.Nj.Pz
theorem wu {n:Nq} {F:List Ng} {d:Nt} {c:Pg} (hc:c∈Z1 n F d):c.count=cq F (lenR n.Nw c.route.Nw) d.Ph:=by
 obtain⟨r,hr,hc⟩:=I7.1 hc;unfold usb1 at hc;split at hc
 rw[Iu]at hc;subst hc; rfl;simp at hc
variable {p:Nh}
theorem mF (hp:vR p=true) {F:List Ng} (hF:FmtF F) {d:Nt} (hd:DemF p.Nq d) {fit:Int} {x:Nx} (hx:x∈qx p F d fit):ConB p F d x:=by
 have hn:=netF (x7.1 hp).1;have hblk:∀y∈p.Nz,yD y.Nj=true:=λy hy=>((iU hp).light y hy).blk;obtain⟨c,hc,hx⟩:=I7.1 hx;have hc:=(dS _).mem_iff.1 hc;have hb:=lL hn hF hd hc;have hs:=wu hc;unfold tL at hx;split at hx
 rename_i b hbk;rw[Iu]at hx;subst hx;obtain⟨h1,h2⟩:=rv (lH hblk _) hb.c1 hb.c2 hbk;refine⟨hb.rt,hb.rb,?_,?_,?_,?_⟩;show b.Pz=_;rw[h1,hs];show 1<=b.Pz;rw[h1]; exact hb.c1;show b.Pz<=24;rw[h1]; exact hb.c2;show b.Pk∈fits _ b.Pz;rw[h1]; exact h2;simp at hx
theorem ConB.ok (hp:vR p=true) {F:List Ng} {d:Nt} (hd:DemF p.Nq d) {x:Nx} (h:ConB p F d x) (hl:p.Nz.length<12):bn p.Nq (newL p x)=true/\vR (addP p (newL p x))=true/\(yL p.Nq x.Nk).isSome=true/\x.Nk.Np=d.Rw/\endR p.Nq x.Nk=d.To:=by
 have hn:=netF (x7.1 hp).1;have hblk:∀y∈p.Nz,yD y.Nj=true:=λy hy=>((iU hp).light y hy).blk;obtain⟨r1,r2,r3,r4⟩:=Ff hn hd.f0 hd.f1 hd.ne h.rt;obtain⟨f1,f2,f3⟩:=(lE h.c1 h.c2).1 h.fit;have hc1:=h.c1;have hc2:=h.c2;have hb:yD x.Nj=true:=by simp only[yD,Iw,decide_eq_true_eq]; omega
 rw[rA hblk x.Nk.Nw (ky hb),Jg]at f3;have hid:=oR p.Nz 1;have hnew:=oQ p.Nz 1 (gw hp) (jC hp);have hlok:bn p.Nq (newL p x)=true:=by
  unfold bn newL
  simp only[Iw,decide_eq_true_eq]
  exact⟨⟨by omega,by omega⟩,r2,hb⟩
 refine⟨hlok,?_,r2,r1,r3⟩;refine D7 (N:=p.Nq) (L:=p.Nz) hp hlok ?_ (λy hy=>?_) hl;rw[IJ];intro h;obtain⟨y,hy,e⟩:=IH.1 h;exact hnew y hy (by simpa [newL] using e);rw[oV];have:=f3 y hy;rw[IZ]at this;exact this
theorem wF (hp:vR p=true) (hB:bB p) {F:List Ng} (hF:FmtF F) {d:Nt} (hd:DemF p.Nq d) (fit:Int):vR (srvP p F d fit).1=true/\(srvP p F d fit).1.Nq=p.Nq/\bB (srvP p F d fit).1 /\
 (((srvP p F d fit).2=0/\(srvP p F d fit).1=p)∨(p.Nz.length<12/\1<=(srvP p F d fit).2/\(srvP p F d fit).2<=13/\∃x,ConB p F d x/\x∈qx p F d fit/\(srvP p F d fit)=(addP p (newL p x),fidS p.Nz 1))):=by
 have hl:=(x7.1 hp).2.1;unfold srvP;cases hc:qx p F d fit with
 | nil=>exact⟨hp,rfl,hB,.inl ⟨rfl,rfl⟩⟩
 | cons x l =>
  dsimp only
  have hx:=mF hp hF hd (fit:=fit) (x:=x) (by rw[hc]; exact IK ..)
  by_cases h12:p.Nz.length=12
  · rw[if_pos h12]
    exact⟨hp,rfl,hB,.inl ⟨rfl,rfl⟩⟩
  · rw[if_neg h12]
    have hid:=oR p.Nz 1
    have hsh:=hx.rb.short
    refine⟨(hx.ok hp hd (by omega)).2.1,rfl,Gr hB hl (by show x.Nk.Nw.length<=_; omega),.inr ⟨by omega,?_,?_,x,hx,IK ..,rfl⟩⟩
    · exact hid.1
    · show fidS p.Nz 1<=13
      omega
def gO (N:Nq) (d:Nt):Prop:=(M0 N d.Rw d.To).length<=200
instance (N:Nq) (d:Nt):Decidable (gO N d):=inferInstanceAs (Decidable (_<=_))
theorem BL {fu:Nat} (hfu:4194306<=fu) {p:Nh} (hB:bB p) (hp:vR p=true) {F:List Ng} (hok:eY F=true) {d:Nt} (hd:dm p.Nq d=true) (fit:Int):fY fu p F d fit=some (if gO p.Nq d then ((srvP p F d fit).1,(srvP p F d fit).2,true) else (DD,0,false)):=by
 have hl:=(x7.1 hp).2.1;unfold fY;rw[oU hfu hB hp hok hd fit,Ik];by_cases h:gO p.Nq d;have h':(M0 p.Nq d.Rw d.To).length<=200:=h;rw[if_pos h',if_pos h,if_neg (by simp)];dsimp only;unfold srvP;cases hc:qx p F d fit with
 | nil =>
  rw[if_pos (by simp),Ik,if_pos rfl,eZ (by omega) p hB]
  rfl
 | cons x l =>
  have hx:=mF hp (fmtF hok) (demF hd) (fit:=fit) (x:=x) (by rw[hc]; exact IK ..)
  have hsh:=hx.rb.short
  rw[if_neg (by simp; omega),Ik]
  dsimp only
  by_cases h12:p.Nz.length=12
  · rw[if_pos (by rw[beq_iff_eq]; omega),if_pos h12,eZ (by omega) p hB]
    rfl
  · rw[if_neg (by rw[beq_iff_eq]; omega),if_neg h12,show (0:Int)=((0:Nat):Int) from rfl,vw (by simp),Ik,AY (by omega) hp,Ik]
    have:=pk (fu:=fu) (by omega) p (newL p x) hB (by show x.Nk.Nw.length<=_; omega)
    rw[show ({ Id:=fidS p.Nz 1,Nk:=((x::l)[0]).Nk,Nj:=((x::l)[0]).Nj }:Nx)=newL p x from rfl,this]
    rfl
 have h':¬(M0 p.Nq d.Rw d.To).length<=200:=h;rw[if_neg h',if_neg h]; rfl
theorem wK {fu:Nat} (hfu:2097200<=fu) {p:Nh} (hB:bB p) (hp:vR p=true) {F:List Ng} (hok:eY F=true) {d:Nt} (hd:dm p.Nq d=true) (fit:Int):cW fu p F d fit=some (if gO p.Nq d then ((srvP p F d fit).1,(srvP p F d fit).2,true) else (DD,0,false)):=by
 have hl:=(x7.1 hp).2.1;unfold cW;rw[tV hfu hB hp hok hd fit,Ik];by_cases h:gO p.Nq d;have h':(M0 p.Nq d.Rw d.To).length<=200:=h;rw[if_pos h',if_pos h,if_neg (by simp)];dsimp only;unfold srvP;cases hc:qx p F d fit with
 | nil =>
  rw[if_pos (by simp),Ik,if_pos rfl,jI (by omega) p hB]
  rfl
 | cons x l =>
  have hx:=mF hp (fmtF hok) (demF hd) (fit:=fit) (x:=x) (by rw[hc]; exact IK ..)
  have hsh:=hx.rb.short
  rw[if_neg (by simp; omega),Ik]
  dsimp only
  by_cases h12:p.Nz.length=12
  · rw[if_pos (by rw[beq_iff_eq]; omega),if_pos h12,jI (by omega) p hB]
    rfl
  · rw[if_neg (by rw[beq_iff_eq]; omega),if_neg h12,show (0:Int)=((0:Nat):Int) from rfl,vw (by simp),Ik,tD (by omega) hp,Ik]
    have:=oG (fu:=fu) (by omega) p (newL p x) hB (by show x.Nk.Nw.length<=_; omega)
    rw[show ({ Id:=fidS p.Nz 1,Nk:=((x::l)[0]).Nk,Nj:=((x::l)[0]).Nj }:Nx)=newL p x from rfl,this]
    rfl
 have h':¬(M0 p.Nq d.Rw d.To).length<=200:=h;rw[if_neg h',if_neg h]; rfl
structure SvS where
 p:Nh
 ids:d_
 bl:Int
def bN (F:List Ng) (L:List Nt) (fit:Int) (s:SvS) (e:Nat):SvS:=⟨(srvP s.p F (gd L e R0) fit).1,s.ids.set e (srvP s.p F (gd L e R0) fit).2,if (srvP s.p F (gd L e R0) fit).2=0 then s.bl + 1 else s.bl⟩
structure SvI (N:Nq) (L:List Nt) (s:SvS) (k:Nat):Prop where
 ok:vR s.p=true
 net:s.p.Nq=N
 B:bB s.p
 len:s.ids.length=L.length
 b0:0<=s.bl
 b1:s.bl<=k
theorem SvI.step {N:Nq} {L:List Nt} {s:SvS} {k:Nat} (h:SvI N L s k) {F:List Ng} (hF:FmtF F) (hL:∀d∈L,DemF N d) (fit:Int) {e:Nat} (he:e<L.length):SvI N L (bN F L fit s e) (k + 1):=by
 have hd:DemF s.p.Nq (gd L e R0):=by rw[h.net]; exact hL _ (aR R0 he)
 obtain⟨h1,h2,h3,-⟩:=wF h.ok h.B hF hd fit;have hb0:=h.b0;have hb1:=h.b1;refine⟨h1,h2.trans h.net,h3,by show (s.ids.set _ _).length=_; rw[Io]; exact h.len,?_,?_⟩;show 0<=(if (srvP s.p F (gd L e R0) fit).2=0 then s.bl + 1 else s.bl)
 split <;> omega
 show (if (srvP s.p F (gd L e R0) fit).2=0 then s.bl + 1 else s.bl)<=((k + 1:Nat):Int)
 split <;> omega
def pg:Pp:=⟨DD,[],0⟩
theorem kH {fu:Nat} (hfu:4194306<=fu) {N:Nq} {F:List Ng} (hok:eY F=true) {L:List Nt} (hL:∀d∈L,dm N d=true) (hLl:L.length<=12) (fit:Int) (o:m_) (ho:∀e∈o,e<L.length) (hol:o.length<=100):∀(fk i:Nat) (s:SvS),i<=o.length->o.length - i<fk->SvI N L s i ->
 yj fu F L fit (o.map λj:Nat=>(j:Int)) fk i s.p.Nq.Nv s.p.Nq.Nw s.p.Nz s.ids s.bl=some (if ∀e∈o.drop i,gO N (gd L e R0) then .next ((o.length:Int),((o.drop i).foldl (bN F L fit) s).p.Nq.Nv,((o.drop i).foldl (bN F L fit) s).p.Nq.Nw,((o.drop i).foldl (bN F L fit) s).p.Nz,((o.drop i).foldl (bN F L fit) s).ids,((o.drop i).foldl (bN F L fit) s).bl) else .ret (pg,false))
 | 0,i,s,hi,hf,h=>by omega
 | fk + 1,i,s,hi,hf,h=>by
  rw[yj]
  by_cases hlt:i<o.length
  · have he:=ho _ (IE hlt)
    have hd:dm N (gd L o[i] R0)=true:=hL _ (aR R0 he)
    have hd':dm s.p.Nq (gd L o[i] R0)=true:=by rw[h.net]; exact hd
    have e1:V_ (o.map λj:Nat=>(j:Int)) (i:Int)=some ((o[i]:Nat):Int):=by
     rw[vw (by simpa using hlt),J9]
    have hlen:=h.len
    have hb0:=h.b0
    have hb1:=h.b1
    rw[if_pos (by simpa using hlt),e1,Ik,yb R0 he,Ik]
    have es:({ Nq:={ Nv:=s.p.Nq.Nv,Nw:=s.p.Nq.Nw },Nz:=s.p.Nz }:Nh)=s.p:=rfl
    rw[es,BL hfu h.B h.ok hok hd' fit,Ik,h.net,<-IB hlt,Jr]
    by_cases hr:gO N (gd L o[i] R0)
    · rw[if_pos hr,if_neg (by simp)]
      dsimp only
      rw[yb 0 (by omega),Ik,vP hlt (by omega),IQ]
      have hs:=h.step (fmtF hok) (λd hd=>demF (hL d hd)) fit he
      have ih:=kH hfu hok hL hLl fit o ho hol fk (i + 1) (bN F L fit s o[i]) hlt (by omega) hs
      have hcond:(∀e∈o[i]::o.drop (i + 1),gO N (gd L e R0))↔∀e∈o.drop (i + 1),gO N (gd L e R0):=by
       constructor
       · exact λhh e he=>hh e (IP _ he)
       · intro hh e he
         rcases IW.1 he with rfl | he
         · exact hr
         · exact hh e he
      simp only[hcond]
      rw[<-ih]
      by_cases hz:(srvP s.p F (gd L o[i] R0) fit).2=0
      · rw[if_pos (by simpa using hz),uZ (by omega) (by omega)]
        have e4:(bN F L fit s o[i]).bl=s.bl + 1:=if_pos hz
        rw[e4]
        rfl
      · rw[if_neg (by simpa using hz)]
        have e4:(bN F L fit s o[i]).bl=s.bl:=if_neg hz
        rw[e4]
        rfl
    · rw[if_neg hr,if_pos (by simp),if_neg (λhh=>hr (hh _ (IK ..)))]
      rfl
  · have e:i=o.length:=by omega
    subst e
    rw[if_neg (by simp),IX,if_pos (λe he=>by simp at he)]
    rfl
theorem jx {fu:Nat} (hfu:2097200<=fu) {N:Nq} {F:List Ng} (hok:eY F=true) {L:List Nt} (hL:∀d∈L,dm N d=true) (hLl:L.length<=12) (fit:Int) (o:m_) (ho:∀e∈o,e<L.length) (hol:o.length<=100):∀(fk i:Nat) (s:SvS),i<=o.length->o.length - i<fk->SvI N L s i ->
 yI fu F L fit (o.map λj:Nat=>(j:Int)) fk i s.p.Nq.Nv s.p.Nq.Nw s.p.Nz s.ids s.bl=some (if ∀e∈o.drop i,gO N (gd L e R0) then .next ((o.length:Int),((o.drop i).foldl (bN F L fit) s).p.Nq.Nv,((o.drop i).foldl (bN F L fit) s).p.Nq.Nw,((o.drop i).foldl (bN F L fit) s).p.Nz,((o.drop i).foldl (bN F L fit) s).ids,((o.drop i).foldl (bN F L fit) s).bl) else .ret (pg,false))
 | 0,i,s,hi,hf,h=>by omega
 | fk + 1,i,s,hi,hf,h=>by
  rw[yI]
  by_cases hlt:i<o.length
  · have he:=ho _ (IE hlt)
    have hd:dm N (gd L o[i] R0)=true:=hL _ (aR R0 he)
    have hd':dm s.p.Nq (gd L o[i] R0)=true:=by rw[h.net]; exact hd
    have e1:V_ (o.map λj:Nat=>(j:Int)) (i:Int)=some ((o[i]:Nat):Int):=by
     rw[vw (by simpa using hlt),J9]
    have hlen:=h.len
    have hb0:=h.b0
    have hb1:=h.b1
    rw[if_pos (by simpa using hlt),e1,Ik,yb R0 he,Ik]
    have es:({ Nq:={ Nv:=s.p.Nq.Nv,Nw:=s.p.Nq.Nw },Nz:=s.p.Nz }:Nh)=s.p:=rfl
    rw[es,wK hfu h.B h.ok hok hd' fit,Ik,h.net,<-IB hlt,Jr]
    by_cases hr:gO N (gd L o[i] R0)
    · rw[if_pos hr,if_neg (by simp)]
      dsimp only
      rw[Ik,yb 0 (by omega),Ik,vP hlt (by omega),IQ]
      have hs:=h.step (fmtF hok) (λd hd=>demF (hL d hd)) fit he
      have ih:=jx hfu hok hL hLl fit o ho hol fk (i + 1) (bN F L fit s o[i]) hlt (by omega) hs
      have hcond:(∀e∈o[i]::o.drop (i + 1),gO N (gd L e R0))↔∀e∈o.drop (i + 1),gO N (gd L e R0):=by
       constructor
       · exact λhh e he=>hh e (IP _ he)
       · intro hh e he
         rcases IW.1 he with rfl | he
         · exact hr
         · exact hh e he
      simp only[hcond]
      rw[<-ih]
      by_cases hz:(srvP s.p F (gd L o[i] R0) fit).2=0
      · rw[if_pos (by simpa using hz),uZ (by omega) (by omega)]
        have e4:(bN F L fit s o[i]).bl=s.bl + 1:=if_pos hz
        rw[e4]
        rfl
      · rw[if_neg (by simpa using hz)]
        have e4:(bN F L fit s o[i]).bl=s.bl:=if_neg hz
        rw[e4]
        rfl
    · rw[if_neg hr,if_pos (by simp),if_neg (λhh=>hr (hh _ (IK ..)))]
      rfl
  · have e:i=o.length:=by omega
    subst e
    rw[if_neg (by simp),IX,if_pos (λe he=>by simp at he)]
    rfl
def lP (p:Nh) (L:List Nt):SvS:=⟨p,List.replicate L.length 0,0⟩
def qP (p:Nh) (F:List Ng) (L:List Nt) (fit:Int) (o:m_):SvS:=o.foldl (bN F L fit) (lP p L)
def qO (p:Nh) (F:List Ng) (L:List Nt) (fit:Int) (o:m_):Pp×Bool:=if ∀e∈o,gO p.Nq (gd L e R0) then (⟨(qP p F L fit o).p,(qP p F L fit o).ids,(qP p F L fit o).bl⟩,true) else (pg,false)
variable {fu:Nat} {L:List Nt}
theorem lO (hp:vR p=true) (hB:bB p) (L:List Nt):SvI p.Nq L (lP p L) 0:=⟨hp,rfl,hB,J7,Kh _,Kh _⟩
theorem s5 (hfu:4194306<=fu) {p:Nh} (hB:bB p) (hp:vR p=true) {F:List Ng} (hok:eY F=true) {L:List Nt} (hL:∀d∈L,dm p.Nq d=true) (hLl:L.length<=12) (fit:Int) (o:m_) (ho:∀e∈o,e<L.length) (hol:o.length<=100):dZ fu p F L fit (o.map λj:Nat=>(j:Int))=some (qO p F L fit o):=by
 unfold dZ;have hmk:mk (0:Int) (L.length:Int)=some (List.replicate L.length 0):=by
  unfold mk
  rw[if_pos ⟨by omega,by omega⟩,IQ]
 rw[eZ (by omega) p hB,Ik,hmk,Ik];have h:=kH hfu hok hL hLl fit o ho hol fu 0 (lP p L) (by omega) (by omega) (lO hp hB L);rw[IR]at h;have h':yj fu F L fit (o.map λj:Nat=>(j:Int)) fu 0 p.Nq.Nv p.Nq.Nw p.Nz (List.replicate L.length 0) 0=_:=h;rw[h',Ik];unfold qO;by_cases hr:∀e∈o,gO p.Nq (gd L e R0);rw[if_pos hr,if_pos hr]; rfl;rw[if_neg hr,if_neg hr]; rfl
theorem qU (hfu:2097200<=fu) {p:Nh} (hB:bB p) (hp:vR p=true) {F:List Ng} (hok:eY F=true) {L:List Nt} (hL:∀d∈L,dm p.Nq d=true) (hLl:L.length<=12) (fit:Int) (o:m_) (ho:∀e∈o,e<L.length) (hol:o.length<=100):eJ fu p F L fit (o.map λj:Nat=>(j:Int))=some (qO p F L fit o):=by
 unfold eJ;have hmk:mk (0:Int) (L.length:Int)=some (List.replicate L.length 0):=by
  unfold mk
  rw[if_pos ⟨by omega,by omega⟩,IQ]
 rw[jI (by omega) p hB,Ik,hmk,Ik];have h:=jx hfu hok hL hLl fit o ho hol fu 0 (lP p L) (by omega) (by omega) (lO hp hB L);rw[IR]at h;have h':yI fu F L fit (o.map λj:Nat=>(j:Int)) fu 0 p.Nq.Nv p.Nq.Nw p.Nz (List.replicate L.length 0) 0=_:=h;rw[h',Ik];unfold qO;by_cases hr:∀e∈o,gO p.Nq (gd L e R0);rw[if_pos hr,if_pos hr]; rfl;rw[if_neg hr,if_neg hr]; rfl
theorem Ey {N:Nq} (h:iu N L=true):cO N=true/\L.length<=12/\∀d∈L,dm N d=true:=by
 unfold iu at h;simp only[Iw,decide_eq_true_eq,Jg]at h;exact⟨h.1,h.2.1,h.2.2⟩
theorem Fe {F:List Ng} {fit:Int} (h:kI p F L fit=true):vR p=true/\eY F=true/\iu p.Nq L=true:=by
 unfold kI at h;simp only[Iw]at h;exact⟨h.1,h.2.1,h.2.2.1⟩
theorem pV {fu:Nat} (L:List Nt) (hL:L.length<=100):∀(fk i:Nat),i<=L.length->L.length - i<fk->∃z,yu fu L fk ((List.range i).map λj:Nat=>(j:Int)) i=some ((List.range L.length).map λj:Nat=>(j:Int),z)
 | 0,i,hi,hf=>by omega
 | fk + 1,i,hi,hf=>by
  rw[yu]
  by_cases h:i<L.length
  · obtain⟨z,hz⟩:=pV (fu:=fu) L hL fk (i + 1) h (by omega)
    rw[if_pos (by simpa using h),yN (by simp; omega),Ik,vP h (by omega)]
    refine⟨z,?_⟩
    rw[<-hz,List.range_succ,JM]
    rfl
  · have e:i=L.length:=by omega
    subst e
    rw[if_neg (by simp)]
    exact⟨_,rfl⟩
theorem pU {fu:Nat} (L:List Nt) (hL:L.length<=100):∀(fk i:Nat),i<=L.length->L.length - i<fk->∃z,yp fu L fk ((List.range i).map λj:Nat=>(j:Int)) i=some ((List.range L.length).map λj:Nat=>(j:Int),z)
 | 0,i,hi,hf=>by omega
 | fk + 1,i,hi,hf=>by
  rw[yp]
  by_cases h:i<L.length
  · obtain⟨z,hz⟩:=pU (fu:=fu) L hL fk (i + 1) h (by omega)
    rw[if_pos (by simpa using h),yN (by simp; omega),Ik,vP h (by omega)]
    refine⟨z,?_⟩
    rw[<-hz,List.range_succ,JM]
    rfl
  · have e:i=L.length:=by omega
    subst e
    rw[if_neg (by simp)]
    exact⟨_,rfl⟩
theorem qV (hfu:4194306<=fu) {p:Nh} (hB:bB p) {F:List Ng} (hF:F.length<=7) {L:List Nt} (hL:L.length<=13) (fit:Int):di fu p F L fit=some (if kI p F L fit=true then qO p F L fit (List.range L.length) else (pg,false))/\da fu p F L fit=some (if kI p F L fit=true then qO p F L fit (List.range L.length) else (pg,false)):=by
 unfold di da;rw[qf (by omega) p F L fit hB hF hL,rf (by omega) p F L fit hB hF hL,Ik,Ik];cases hs:kI p F L fit with
 | false=>exact⟨rfl,rfl⟩
 | true =>
  obtain⟨h1,h2,h3⟩:=Fe hs
  obtain⟨h4,h5,h6⟩:=Ey h3
  obtain⟨z,hz⟩:=pV (fu:=fu) L (by omega) fu 0 (by omega) (by omega)
  obtain⟨z2,hz2⟩:=pU (fu:=fu) L (by omega) fu 0 (by omega) (by omega)
  have hz':yu fu L fu [] 0=some ((List.range L.length).map λj:Nat=>(j:Int),z):=hz
  have hz2':yp fu L fu [] 0=some ((List.range L.length).map λj:Nat=>(j:Int),z2):=hz2
  rw[if_neg (show ¬((!true)=true) by decide),if_neg (show ¬((!true)=true) by decide),if_pos rfl,hz',hz2',Ik,Ik]
  dsimp only
  rw[s5 hfu hB h1 h2 h6 h5 fit _ (λe he=>I4.1 he) (by rw[Jb]; omega),qU (by omega) hB h1 h2 h6 h5 fit _ (λe he=>I4.1 he) (by rw[Jb]; omega)]
  exact⟨rfl,rfl⟩
end
section
variable {fu:Nat}
theorem sM (hfu:2097153<=fu) (l:d_) (h:l.length<=2097152):fW fu l l=some true:=by
 unfold fW;have h1:((l.length:Int) != (l.length:Int))=false:=by simp
 rw[h1,if_neg I9,Ex l (bp fu l l) h (λfk i=>by rw[bp]) fu (by omega)];rfl
theorem pp (hfu:2097153<=fu) (x:Nx) (h:x.Nk.Nw.length<=2097152):cL fu x x=some true:=by
 unfold cL fo;rw[sM hfu _ h];simp
theorem mO (hfu:2097153<=fu) (n:Nq) (h:NetB n):cr fu n n=some true:=by
 unfold cr;have h1:((n.Nv.length:Int) != (n.Nv.length:Int))=false:=by simp
 have h2:((n.Nw.length:Int) != (n.Nw.length:Int))=false:=by simp
 have e1:xG fu n n fu 0=some (.next (n.Nv.length:Int)):=by
  rw[yh (l:=n.Nv) (G:=xG fu n n) (λ_=>false) (λ_=>false) (by have:=h.1.1; omega)
   (λfk i hi=>by
     have h':(i:Int)<(n.Nv.length:Int):=by omega
     rw[xG]
     simp only[h',decide_true,if_true,vw hi,Ik,beq_self_eq_true,Jp])
   (λfk=>by rw[xG,if_neg (by simp)]) fu (by have:=h.1.1; omega)]
  simp
 have e2:xF fu n n fu 0=some (.next (n.Nw.length:Int)):=by
  rw[yh (l:=n.Nw) (G:=xF fu n n) (λ_=>false) (λ_=>false) (by have:=h.2; omega)
   (λfk i hi=>by
     have h':(i:Int)<(n.Nw.length:Int):=by omega
     rw[xF]
     simp only[h',decide_true,if_true,vw hi,Ik,beq_self_eq_true,Jp])
   (λfk=>by rw[xF,if_neg (by simp)]) fu (by have:=h.2; omega)]
  simp
 rw[h1,if_neg I9,h2,Ik,if_neg I9,e1,e2];rfl
theorem qK (hfu:2097153<=fu) (p:Nh) (h:bB p):eP fu p p=some true:=by
 unfold eP;have h1:((p.Nz.length:Int) != (p.Nz.length:Int))=false:=by simp
 rw[mO hfu _ h.1,h1,Ew p.Nz (aw fu p p) (cL fu) h.2.1 (λe he=>pp hfu e (h.2.2 e he)) (λfk i=>by rw[aw]) fu (by have:=h.2.1; omega)];rfl
end
section
theorem gh {α:Type} {f g h:α->Nat}:∀{l:List α},(∀s∈l,f s=g s + h s)->(l.map f).sum=(l.map g).sum + (l.map h).sum
 | [],_=>rfl
 | x::l,H=>by
  have h1:=gh (l:=l) λs hs=>H s (IP _ hs)
  have h2:=H x IK
  simp only[Je,List.sum_cons]
  omega
theorem EQ (x s:Nat):x / 2 ^ s % 2=(x.testBit s).toNat:=by
 rw[Nat.testBit_eq_decide_div_mod_eq];have:=Nat.mod_lt (x / 2 ^ s) (show 0<2 by decide);by_cases h:x / 2 ^ s % 2=1;simp [h];have h0:x / 2 ^ s % 2=0:=by omega
 simp [h0]
theorem lA {x:Nat} (hx:x<16777216):fK x=((List.range 24).map λs=>(x.testBit s).toNat).sum:=by
 rw[Ad x hx];congr 1;exact List.map_congr_left λs _=>EQ x s
theorem D8 {a b:Int} (ha:MK a) (hb:MK b) (h:apart a b=true):fK (D0 a b).toNat=fK a.toNat + fK b.toNat:=by
 unfold apart at h;rw[iw ha hb,beq_iff_eq,Int.natCast_eq_zero]at h;have h1:=(mJ ha hb).2;have h2:=(mJ ha hb).1;have e:=Bo ha hb;rw[e]at h1 h2 ⊢;rw[IQ,lA (by omega),lA (by have:=ha.1; have:=ha.2; omega),lA (by have:=hb.1; have:=hb.2; omega)];refine gh λs _=>?_;have hs:(a.toNat &&& b.toNat).testBit s=false:=by rw[h]; exact Nat.zero_testBit s
 rw[Nat.testBit_and]at hs;rw[Nat.testBit_or];cases h3:a.toNat.testBit s <;> cases h4:b.toNat.testBit s <;> simp_all
theorem mE (F C:Nat):∀n,((List.range n).map λs=>(decide (F<=s)&&decide (s - F<C)).toNat).sum=min n (F + C) - min n F
 | 0=>by simp
 | n + 1=>by
  rw[List.range_succ,JM,List.sum_append,mE F C n]
  simp only[Je,Ka,List.sum_cons,List.sum_nil,I6]
  by_cases h1:F<=n
  · by_cases h2:n - F<C
    · simp only[h1,h2,decide_true,Bool.and_self,Bool.toNat_true]; omega
    · simp only[h1,h2,decide_true,decide_false,Bool.and_false,Bool.toNat_false]; omega
  · simp only[h1,decide_false,K7,Bool.toNat_false]; omega
theorem BZ {b:Nj} (h:yD b=true):fK (bits b).toNat=b.Pz.toNat:=by
 have h1:=kz h;rw[lA (by omega)];have e:((List.range 24).map λs=>((bits b).toNat.testBit s).toNat)=(List.range 24).map λs=>(decide (b.Pk.toNat<=s)&&decide (s - b.Pk.toNat<b.Pz.toNat)).toNat:=List.map_congr_left λs _=>by rw[qD h]
 rw[e,mE];simp only[yD,Iw,decide_eq_true_eq]at h;omega
def cnt (f:Int) (y:Nx):Nat:=if O1 y.Nk.Nw f=true then y.Nj.Pz.toNat else 0
theorem nX (f:Int):∀(L:List Nx) (o:Int),MK o->(∀y∈L,yD y.Nj=true)->L.Pairwise (λx y=>O1 x.Nk.Nw f=true->O1 y.Nk.Nw f=true->apart (bits x.Nj) (bits y.Nj)=true)->(∀y∈L,O1 y.Nk.Nw f=true->apart o (bits y.Nj)=true) ->
 fK (L.foldl (λo y=>if O1 y.Nk.Nw f=true then D0 o (bits y.Nj) else o) o).toNat=fK o.toNat + (L.map (cnt f)).sum
 | [],o,_,_,_,_=>by simp
 | x::L,o,ho,hb,hp,ha=>by
  obtain⟨hp1,hp2⟩:=JE.1 hp
  have hbx:=ky (hb x IK)
  rw[Jr,Je,List.sum_cons]
  by_cases hx:O1 x.Nk.Nw f=true
  · rw[if_pos hx,nX f L _ (mJ ho hbx) (λy hy=>hb y (IP _ hy)) hp2 (λy hy hf=>?_),D8 ho hbx (ha x IK hx),BZ (hb x IK)]
    · unfold cnt
      rw[if_pos hx]; omega
    · rw[mM ho hbx (ky (hb y (IP _ hy))),ha y (IP _ hy) hf,hp1 y hy hx hf]; rfl
  · rw[if_neg hx,nX f L o ho (λy hy=>hb y (IP _ hy)) hp2 (λy hy hf=>ha y (IP _ hy) hf)]
    unfold cnt
    rw[if_neg hx]; omega
theorem EB (a b:Nx):coll a b=(meets a.Nk.Nw b.Nk.Nw&&!apart (bits a.Nj) (bits b.Nj)):=by
 unfold coll apart;rfl
theorem AW {a b:d_} {f:Int} (ha:O1 a f=true) (hb:O1 b f=true):meets a b=true:=by
 unfold O1 at ha hb;unfold meets;rw[IH]at ha ⊢;obtain⟨x,hx,e⟩:=ha;refine⟨x,hx,?_⟩;rw[beq_iff_eq]at e;subst e;exact hb
variable {p:Nh} {s:Int} {q i fu:Nat}
theorem Eh (hp:vR p=true) (f:Int):p.Nz.Pairwise (λx y=>O1 x.Nk.Nw f=true->O1 y.Nk.Nw f=true->apart (bits x.Nj) (bits y.Nj)=true):=by
 refine (x7.1 hp).2.2.2.imp λ{x y} h h1 h2=>?_;have h:=h.2;rw[EB,AW h1 h2,Jq,Ki]at h;exact h
theorem BC (hp:vR p=true) (f:Int):fK (used p.Nz f).toNat=(p.Nz.map (cnt f)).sum:=by
 have hF:=iU hp;unfold used;rw[nX f p.Nz 0 mk0 (λy hy=>(hF.light y hy).blk) (Eh hp f) (λy hy _=>kC (ky (hF.light y hy).blk))];have:fK (0:Int).toNat=0:=by decide
 omega
theorem FK (n:Nat) (x:Int) (h0:0<=x) (h1:x<(n:Int)):((List.range n).map λf:Nat=>(x==(f:Int)).toNat).sum=1:=by
 induction n with
 | zero=>omega
 | succ n ih =>
  rw[List.range_succ,JM,List.sum_append]
  simp only[Je,Ka,List.sum_cons,List.sum_nil,I6]
  by_cases h:x=(n:Int)
  · have hz:((List.range n).map λf:Nat=>(x==(f:Int)).toNat).sum=0:=by
     have e:((List.range n).map λf:Nat=>(x==(f:Int)).toNat)=(List.range n).map λ_=>0:=List.map_congr_left λs hs=>by
      have:=I4.1 hs
      have:(x==(s:Int))=false:=by rw[beq_eq_false_iff_ne]; omega
      rw[this]; rfl
     rw[e]
     clear e h h1 ih
     induction n with
     | zero=>rfl
     | succ n ih=>rw[List.range_succ,JM,List.sum_append,ih]; rfl
    rw[hz,h]; simp
  · have hb:(x==(n:Int))=false:=by rw[beq_eq_false_iff_ne]; exact h
    rw[ih (by omega),hb]; rfl
theorem qu (n:Nat):∀(l:d_),l.Nodup->(∀x∈l,0<=x/\x<(n:Int))->((List.range n).map λf:Nat=>(O1 l (f:Int)).toNat).sum=l.length
 | [],_,_=>by
  induction n with
  | zero=>rfl
  | succ n ih=>rw[List.range_succ,JM,List.sum_append,ih (by simp)]; rfl
 | x::l,hn,hr=>by
  obtain⟨h1,h2⟩:=JH.1 hn
  obtain⟨h3,h4⟩:=hr x IK
  rw[gh (g:=λf:Nat=>(x==(f:Int)).toNat) (h:=λf:Nat=>(O1 l (f:Int)).toNat),FK n x h3 h4,qu n l h2 (λy hy=>hr y (IP _ hy)),I3,Kr]
  intro f _
  show (O1 (x::l) (f:Int)).toNat=_
  have e:O1 (x::l) (f:Int)=(x==(f:Int)||O1 l (f:Int)):=rfl
  rw[e]
  cases h5:x==(f:Int)
  · simp
  · have:O1 l (f:Int)=false:=by
     rw[IJ]
     intro h
     unfold O1 at h
     rw[IH]at h
     obtain⟨y,hy,e⟩:=h
     rw[beq_iff_eq]at e h5
     subst e
     exact h1 (h5▸hy)
    simp [this]
theorem rI (n:Nat) (g:Nat->Nx->Nat):∀(L:List Nx),((List.range n).map λf=>(L.map (g f)).sum).sum=(L.map λy=>((List.range n).map λf=>g f y).sum).sum
 | []=>by
  induction n with
  | zero=>rfl
  | succ n ih=>rw[List.range_succ,JM,List.sum_append,ih]; rfl
 | x::L=>by
  rw[Je,List.sum_cons,<-rI n g L]
  exact gh λf _=>by rw[Je,List.sum_cons]
theorem wA (C:Nat) {b:Nat->Bool}:∀l:m_,(l.map λf=>if b f=true then C else 0).sum=C * (l.map λf=>(b f).toNat).sum
 | []=>rfl
 | x::l=>by
  rw[Je,List.sum_cons,Je,List.sum_cons,wA C l,Nat.mul_add]
  cases b x <;> simp
theorem DF (hp:vR p=true):((kV p.Nz p.Nq.Nw.length).map λm=>fK m.toNat).sum=(p.Nz.map λy=>y.Nj.Pz.toNat * y.Nk.Nw.length).sum:=by
 have hF:=iU hp;unfold kV;rw[List.map_map];have e:((λm:Int=>fK m.toNat) ∘ λf:Nat=>used p.Nz (f:Int))=λf:Nat=>(p.Nz.map (cnt (f:Int))).sum:=by
  funext f
  exact BC hp (f:Int)
 rw[e,rI p.Nq.Nw.length (λf=>cnt (f:Int))];congr 1;refine List.map_congr_left λy hy=>?_;have hl:=hF.light y hy;have h1:=wA y.Nj.Pz.toNat (b:=λf:Nat=>O1 y.Nk.Nw (f:Int)) (List.range p.Nq.Nw.length);rw[qu p.Nq.Nw.length y.Nk.Nw hl.nodup (oD hF y hy)]at h1;exact h1
theorem C9 {α:Type} {f:α->Nat} {B:Nat}:∀{l:List α},(∀x∈l,f x<=B)->(l.map f).sum<=B * l.length
 | [],_=>by simp
 | x::l,h=>by
  have h1:=C9 (l:=l) λy hy=>h y (IP _ hy)
  have h2:=h x IK
  rw[Je,List.sum_cons,I3,Nat.mul_add]
  omega
theorem BB (h0:0<=s) (h1:s<=1000000) (h2:q<=1000):y_ (s + (q:Int))=s + (q:Int):=uZ (by omega) (by omega)
theorem BD {t:Nat} :s + (q:Int) + (t:Int)=s + ((q + t:Nat):Int):=by omega
theorem BX {l:d_} (h:i<l.length):((l.drop i).map λm=>fK m.toNat).sum=fK (l[i].toNat) + ((l.drop (i + 1)).map λm=>fK m.toNat).sum:=by
 rw[<-IB h,Je,List.sum_cons]
theorem wq (h0:0<=s) (h1:s<=24 * (i:Int)) (hq:q<=24) (hi:i<=1000):0<=s + (q:Int)/\s + (q:Int)<=24 * ((i + 1:Nat):Int)/\s<=1000000/\q<=1000:=by omega
theorem BE (l:d_) (hm:∀m∈l,MK m) (hl:l.length<=1000):∀(fk i:Nat) (s a:Int),i<=l.length->l.length - i<fk->0<=s->s<=24 * (i:Int)->MK a ->
 ∃a' i',zy fu l fk s a i=some (s + (((l.drop i).map λm=>fK m.toNat).sum:Nat),a',i')/\MK a':=by
 intro fk;induction fk with
 | zero=>intro i _ _ _ h; omega
 | succ fk ih =>
  intro i s a hi hf h0 h1 ha
  rw[zy]
  by_cases h:i<l.length
  · have h':(i:Int)<(l.length:Int):=by omega
    have hf':l.length - (i + 1)<fk:=by omega
    have hll:(l.length:Int)<=9223372036854775807:=by omega
    have hi':i<=1000:=by omega
    have hmi:=hm _ (IE h)
    have ho:=An (fu:=fu) hmi
    rw[BX h]
    have hq24:=B0 (l[i].toNat)
    generalize fK (l[i].toNat)=q at ho hq24 ⊢
    obtain⟨k1,k2,k3,k4⟩:=wq h0 h1 hq24 hi'
    obtain⟨a',i',g1,g2⟩:=ih (i + 1) (s + (q:Int)) (D0 a l[i]) h hf' k1 k2 (mJ ha hmi)
    refine⟨a',i',?_,g2⟩
    rw[if_pos (decide_eq_true h'),vw h,Ik,ho,Ik,BB h0 k3 k4,vP h hll,g1,BD]
  · obtain rfl:i=l.length:=by omega
    rw[if_neg (by simp),IX]
    exact⟨a,(l.length:Int),by simp,ha⟩
theorem nB (hfu:2097153<=fu) (p:Nh) (hB:bB p):∃all,aQ fu p=some (if vR p=true then ((((p.Nz.map λy=>y.Nj.Pz.toNat * y.Nk.Nw.length).sum:Nat):Int),all,true) else (0,0,false)):=by
 unfold aQ;rw[eX hfu p hB];cases hp:vR p
 exact⟨0,rfl⟩;have hF:=iU hp;have hn:=(netF hF.net).fib;simp only[Ik,Jp,Iy,if_false,if_true,jQ hfu p hB hF];have hm:∀m∈kV p.Nz p.Nq.Nw.length,MK m:=λm hm=>by
  unfold kV at hm
  obtain⟨f,-,rfl⟩:=Jc.1 hm
  exact wn (λy hy=>(hF.light y hy).blk) _
 have hl:(kV p.Nz p.Nq.Nw.length).length<=1000:=by simp [kV]; omega
 obtain⟨a',i',g1,g2⟩:=BE (fu:=fu) _ hm hl fu 0 0 0 (by omega) (by omega) (by omega) (by omega) mk0;rw[KX]at g1;rw[g1,IR,DF hp,Ik];simp only[An g2,Ik,LE];exact⟨_,rfl⟩
end
end AT
