/- Insertion, and the library's whole stable sort, plainly. -/
import Derived.Test.YtlemonjnolciiaaGreatQSym3
set_option linter.unusedVariables false
set_option linter.unusedSimpArgs false
namespace AT
section
variable {X:Type} {cf:X->X->Option Int} {key:X->Int} {pos:X->Nat} {U:X->Prop}
theorem rm {fu:Nat} (hcf:CfOk cf key U) {A:Nat} {p:List X} (hA:p.length=A):∀(n:Nat) (t s:List X) (x:X) (fk:Nat),t.length=n->n<fk->A + n + 1<=2097152->U x->(∀y∈t,U y) ->
 ∃(k:Nat) (z:Int),uF cf fu (A:Int) fk (p++(t++x::s)) ((A + n:Nat):Int)=some (p++(t.take k++x::(t.drop k++s)),z)/\k<=n/\(∀(q:Nat) (h:q<t.length),k<=q->key x<key t[q])/\(k=0∨∃h:k - 1<t.length,key t[k - 1]<=key x)
 | 0,t,s,x,fk,hn,hf,hs,hx,ht=>by
  obtain⟨fk,rfl⟩:∃k,fk=k + 1:=⟨fk - 1,by omega⟩
  have h0:t=[]:=G6 hn
  subst h0
  refine⟨0,((A + 0:Nat):Int),?_,GV _,λq h=>by simp at h,.inl rfl⟩
  rw[uF,if_neg (by simp),GH,if_neg (by simp)]
  rfl
 | n + 1,t,s,x,fk,hn,hf,hs,hx,ht=>by
  obtain⟨fk,rfl⟩:∃k,fk=k + 1:=⟨fk - 1,by omega⟩
  obtain⟨t',y,rfl⟩:∃t' y,t=t'++[y]:=by
   rcases List.eq_nil_or_concat t with h | ⟨t',y,h⟩
   · subst h; simp at hn
   · exact⟨t',y,by rw[h]; simp⟩
  have hn':t'.length=n:=by rw[GL,GY]at hn; omega
  have e1:∀u v:X,p++(t'++[u]++v::s)=(p++t'++[u])++v::s:=λu v=>by simp
  have e2:∀u v:X,p++t'++[u]++v::s=(p++t')++u::(v::s):=λu v=>by simp
  have hl1:∀u:X,A + (n + 1)=(p++t'++[u]).length:=λu=>by simp only[GL,GY,hn',hA]; omega
  have hl2:A + n=(p++t').length:=by simp only[GL,hn',hA]
  have hw:y_ (((A + (n + 1):Nat):Int) - 1)=((A + n:Nat):Int):=qc (by omega) (by omega)
  rw[uF,if_pos (by simp; omega),hw,e1,bZ (hl1 y),GH,e2,bZ hl2,GH]
  obtain⟨c,hc,hc1⟩:=hcf x y hx (ht y (by simp))
  rw[hc,GH,GH]
  by_cases hlt:c<0
  · rw[decide_eq_true hlt,if_pos rfl,GH,<-e2,GH,GH,set_mid (hl1 y),e2,bZ hl2,GH,set_mid hl2]
    obtain⟨k,z,g1,g2,g3,g4⟩:=rm (fu:=fu) hcf hA n t' (y::s) x fk hn' (by omega) (by omega) hx (λu hu=>ht u (by simp [hu]))
    rw[GN,g1]
    refine⟨k,z,?_,by omega,λq h hk=>?_,?_⟩
    · rw[HK (by omega),IW (by omega)]
      simp
    · by_cases hq:q<t'.length
      · rw[Jo hq]; exact g3 q hq hk
      · rw[Ji (by omega)]
        simp only[List.getElem_singleton]
        exact hc1.1 hlt
    · rcases g4 with g4 | ⟨h,g4⟩
      · exact .inl g4
      · exact .inr ⟨by rw[GL]; omega,by rw[Jo h]; exact g4⟩
  · rw[decide_eq_false hlt,if_neg (by simp)]
    refine⟨n + 1,((A + (n + 1):Nat):Int),?_,GV _,λq h hk=>by omega,.inr ⟨by omega,?_⟩⟩
    · rw[HV (by omega),HI (by omega)]
      simp
    · rw[Ji (by omega)]
      simp only[List.getElem_singleton]
      have:=mt hc1.2 hlt
      omega
theorem wG {fu:Nat} (hfu:2097153<=fu) (hcf:CfOk cf key U) {A B:Nat} {p s:List X} (hA:p.length=A) (hB:B<=2097152):∀(n:Nat) (w r:List X) (fk:Nat),r.length=n->n<fk->A + w.length + r.length=B->(∀x∈w,U x)->(∀x∈r,U x)->w.Pairwise (T_ key pos)->(∀y∈w,∀x∈r,pos y<pos x)->r.Pairwise (λa b=>pos a<pos b) ->
 ∃(g:List X) (z:Int),ux cf fu (A:Int) (B:Int) fk (p++(w++(r++s))) ((A + w.length:Nat):Int)=some (p++(g++s),z)/\g.Perm (w++r)/\g.Pairwise (T_ key pos)
 | 0,w,r,fk,hn,hf,hl,hw,hr,sw,hwr,hrr=>by
  obtain⟨fk,rfl⟩:∃k,fk=k + 1:=⟨fk - 1,by omega⟩
  have h0:r=[]:=G6 hn
  subst h0
  refine⟨w,((A + w.length:Nat):Int),?_,by simp,sw⟩
  rw[ux,if_neg (by simp at hl ⊢; omega)]
  rfl
 | n + 1,w,r,fk,hn,hf,hl,hw,hr,sw,hwr,hrr=>by
  obtain⟨fk,rfl⟩:∃k,fk=k + 1:=⟨fk - 1,by omega⟩
  cases r with
  | nil=>simp at hn
  | cons x r =>
  simp only[Hq]at hn hl
  obtain⟨k,z,g1,g2,g3,g4⟩:=rm (fu:=fu) hcf hA w.length w (r++s) x fu rfl (by omega) (by omega) (hr x (by simp)) hw
  rw[ux,if_pos (by simp; omega),ID,g1,GH,qd (by omega)]
  have hins:=nj g2 sw (λy hy=>hwr y hy x (by simp)) g3 g4
  have hpm:(w.take k++x::w.drop k).Perm (x::w):=by
   refine Ik.trans (List.Perm.cons x ?_)
   rw[Ha]
  have hlen:(w.take k++x::w.drop k).length=w.length + 1:=by rw[hpm.length_eq,Hq]
  obtain⟨g,z',q1,q2,q3⟩:=wG hfu hcf hA hB n (w.take k++x::w.drop k) r fk (by omega) (by omega) (by omega) (λy hy=>by
   rcases Hf.1 (hpm.mem_iff.1 hy) with rfl | hy
   · exact hr _ (by simp)
   · exact hw y hy) (λy hy=>hr y (by simp [hy])) hins (λy hy v hv=>by
   rcases Hf.1 (hpm.mem_iff.1 hy) with rfl | hy
   · exact (Ia.1 hrr).1 v hv
   · exact hwr y hy v (by simp [hv])) (Ia.1 hrr).2
  rw[hlen]at q1
  refine⟨g,z',?_,?_,q3⟩
  · dsimp only
    rw[show A + w.length + 1=A + (w.length + 1) by omega,<-q1]
    simp
  · refine q2.trans ((hpm.append_right r).trans ?_)
    rw[ID]
    exact (Ik).symm
theorem BQ {fu:Nat} (hfu:2097153<=fu) (hcf:CfOk cf key U) {A B:Nat} {p g s:List X} (hA:p.length=A) (hB:A + g.length=B) (hl:B<=2097152) (hU:∀x∈g,U x) (hp:g.Pairwise λa b=>pos a<pos b):∃g',uU cf fu (p++(g++s)) (A:Int) (B:Int)=some (p++(g'++s))/\g'.Perm g/\g'.Pairwise (T_ key pos):=by
 rw[uU,qd (by omega)];cases g with
 | nil =>
  obtain⟨fk,rfl⟩:∃k,fu=k + 1:=⟨fu - 1,by omega⟩
  refine⟨[],?_,Iw _,.nil⟩
  rw[ux,if_neg (by simp at hB ⊢; omega)]
  rfl
 | cons x g =>
  simp only[Hq]at hB
  obtain⟨g',z,q1,q2,q3⟩:=wG hfu hcf (p:=p) (s:=s) hA hl g.length [x] g fu rfl (by omega) (by simp; omega) (λy hy=>hU y (by simp at hy; simp [hy])) (λy hy=>hU y (by simp [hy])) (List.pairwise_singleton _ _) (λy hy v hv=>by
   simp only[GR]at hy
   subst hy
   exact (Ia.1 hp).1 v hv) (Ia.1 hp).2
  refine⟨g',?_,q2,q3⟩
  simp only[GY,HY]at q1
  have e:p++(x::g++s)=p++(x::(g++s)):=by simp
  rw[e,q1]
  rfl
inductive Rn (key:X->Int) (pos:X->Nat) (b:Nat):List X->Prop
 | last (l:List X):l.length<=b->l.Pairwise (T_ key pos)->Rn key pos b l
 | cons (r l:List X):r.length=b->r.Pairwise (T_ key pos)->(∀x∈r,∀y∈l,pos x<pos y)->Rn key pos b l->Rn key pos b (r++l)
variable {b:Nat}
theorem Rn.short {l:List X} (h:Rn key pos b l) (hl:l.length<=b):l.Pairwise (T_ key pos):=by
 cases h with
 | last _ _ h=>exact h
 | cons r l h1 h2 h3 h4 =>
  rw[GL]at hl
  have:l=[]:=G6 (by omega)
  subst this
  rw[G8]; exact h2
theorem Rn.two (hb:0<b) {l:List X} (h:Rn key pos b l) (hl:b<l.length):∃r1 r2,l=r1++r2/\r1.length=b/\r1.Pairwise (T_ key pos)/\(∀x∈r1,∀y∈r2,pos x<pos y)/\Rn key pos b r2:=by
 cases h with
 | last _ h _=>omega
 | cons r l h1 h2 h3 h4=>exact⟨r,l,rfl,h1,h2,h3,h4⟩
theorem Rn.first {l:List X} (h:Rn key pos b l) (hl:b<=l.length):∃r1 r2,l=r1++r2/\r1.length=b/\r1.Pairwise (T_ key pos)/\(∀x∈r1,∀y∈r2,pos x<pos y)/\Rn key pos b r2:=by
 cases h with
 | last _ h h'=>exact⟨l,[],by simp,by omega,h',λx _ y hy=>by simp at hy,.last [] (by simp) .nil⟩
 | cons r l h1 h2 h3 h4=>exact⟨r,l,rfl,h1,h2,h3,h4⟩
theorem Bz {fu:Nat} (hfu:4194306<=fu) (hcf:CfOk cf key U) {N:Nat} (hN:N<=2097152):∀(n:Nat) (g P:List X) (fk:Nat),g.length<=n->n<fk->P.length + g.length=N->(∀x∈g,U x)->g.Pairwise (λa b=>pos a<pos b) ->
 ∃(Q rest:List X) (z:Int),uI cf fu (N:Int) fk (P++g) (P.length:Int) ((P.length + 20:Nat):Int)=some (P++(Q++rest),((P.length + Q.length:Nat):Int),z)/\(Q++rest).Perm g/\rest.length<20/\rest.Pairwise (λa b=>pos a<pos b)/\(∀x∈Q,∀y∈rest,pos x<pos y)/\∀t,Rn key pos 20 t->(∀x∈Q,∀y∈t,pos x<pos y)->Rn key pos 20 (Q++t)
 | n,g,P,fk,hn,hf,hl,hU,hp=>by
  obtain⟨fk,rfl⟩:∃k,fk=k + 1:=⟨fk - 1,by omega⟩
  by_cases h20:20<=g.length
  · cases n with
    | zero=>omega
    | succ n =>
    obtain⟨g1,g2,rfl,l1⟩:∃g1 g2,g=g1++g2/\g1.length=20:=⟨g.take 20,g.drop 20,(Ha _ _).symm,by rw[GO]; omega⟩
    rw[GL]at hn hl
    obtain⟨hp1,hp2,hp3⟩:=HJ.1 hp
    rw[uI,if_pos (by simp; omega)]
    obtain⟨g1',q1,q2,q3⟩:=BQ (fu:=fu) (by omega) hcf (A:=P.length) (B:=P.length + 20) (p:=P) (g:=g1) (s:=g2) rfl (by omega) (by omega) (λx hx=>hU x (GI.2 (.inl hx))) hp1
    rw[q1,GH]
    have e20:y_ (((P.length + 20:Nat):Int) + 20)=((P.length + 20 + 20:Nat):Int):=wadd (b:=20) (by omega)
    rw[e20]
    have lg:g1'.length=20:=by rw[q2.length_eq,l1]
    obtain⟨Q,rest,z,w1,w2,w3,w4,w5,w6⟩:=Bz hfu hcf hN n g2 (P++g1') fk (by omega) (by omega) (by rw[GL]; omega) (λx hx=>hU x (GI.2 (.inr hx))) hp2
    rw[GL,lg]at w1
    refine⟨g1'++Q,rest,z,?_,?_,w3,w4,λx hx y hy=>?_,λt ht hc=>?_⟩
    · rw[GL,lg]
      rw[GN]at w1
      rw[w1]
      simp [II]
    · rw[GN]
      exact q2.append w2
    · rcases GI.1 hx with hx | hx
      · exact hp3 x (q2.mem_iff.1 hx) y (w2.mem_iff.1 (GI.2 (.inr hy)))
      · exact w5 x hx y hy
    · rw[GN]
      refine .cons g1' _ lg q3 (λx hx y hy=>?_) (w6 t ht λx hx y hy=>hc x (GI.2 (.inr hx)) y hy)
      rcases GI.1 hy with hy | hy
      · exact hp3 x (q2.mem_iff.1 hx) y (w2.mem_iff.1 (GI.2 (.inl hy)))
      · exact hc x (GI.2 (.inl hx)) y hy
  · refine⟨[],g,((P.length + 20:Nat):Int),?_,by simp,by omega,hp,λx hx=>by simp at hx,λt ht _=>by simpa using ht⟩
    rw[uI,if_neg (by simp; omega)]
    simp
theorem Bw {fu:Nat} (hfu:4194306<=fu) (hcf:CfOk cf key U) {N b:Nat} (hN:N<=2097152) (hb:0<b) (hbN:b<N):∀(n:Nat) (g P:List X) (fk:Nat),g.length<=n->n<fk->P.length + g.length=N->(∀x∈g,U x)->Rn key pos b g ->
 ∃(Q rest:List X) (z:Int),uH cf fu (N:Int) (b:Int) fk (P++g) (P.length:Int) ((P.length + 2 * b:Nat):Int)=some (P++(Q++rest),((P.length + Q.length:Nat):Int),z)/\(Q++rest).Perm g/\rest.length<2 * b/\Rn key pos b rest/\(∀x∈Q,∀y∈rest,pos x<pos y)/\∀t,Rn key pos (2 * b) t->(∀x∈Q,∀y∈t,pos x<pos y)->Rn key pos (2 * b) (Q++t)
 | n,g,P,fk,hn,hf,hl,hU,hp=>by
  obtain⟨fk,rfl⟩:∃k,fk=k + 1:=⟨fk - 1,by omega⟩
  by_cases h2b:2 * b<=g.length
  · cases n with
    | zero=>omega
    | succ n =>
    obtain⟨r1,l1,rfl,k1,k2,k3,k4⟩:=hp.two hb (by omega)
    rw[GL]at h2b
    obtain⟨r2,l2,rfl,k5,k6,k7,k8⟩:=k4.first (by omega)
    rw[GL,GL]at hn hl
    have hU1:∀x∈r1,U x:=λx hx=>hU x (by simp [hx])
    have hU2:∀x∈r2,U x:=λx hx=>hU x (by simp [hx])
    rw[uH,if_pos (by simp; omega),wadd (by omega)]
    obtain⟨zs,q1,q2,q3⟩:=qP hcf (b + b) r1 r2 P l2 fu P.length (P.length + b) (P.length + 2 * b) (by omega) (by omega) (by omega) (by omega) rfl (by omega) (by omega) (by omega) hU1 hU2 k2 k6 (λx hx y hy=>k3 x hx y (GI.2 (.inl hy)))
    have e1:P++(r1++(r2++l2))=P++(r1++(r2++l2)):=rfl
    rw[q1,GH]
    have e2:y_ ((2:Int) * (b:Int))=((2 * b:Nat):Int):=by rw[va (by omega) (by omega)]; omega
    rw[e2,wadd (by omega)]
    have lz:zs.length=2 * b:=by rw[q2.length_eq,GL]; omega
    obtain⟨Q,rest,z,w1,w2,w3,w4,w5,w6⟩:=Bw hfu hcf hN hb hbN n l2 (P++zs) fk (by omega) (by omega) (by rw[GL]; omega) (λx hx=>hU x (by simp [hx])) k8
    rw[GL,lz]at w1
    have hz2:∀x∈zs,∀y∈l2,pos x<pos y:=λx hx y hy=>by
     rcases GI.1 (q2.mem_iff.1 hx) with hx | hx
     · exact k3 x hx y (GI.2 (.inr hy))
     · exact k7 x hx y hy
    refine⟨zs++Q,rest,z,?_,?_,w3,w4,λx hx y hy=>?_,λt ht hc=>?_⟩
    · rw[GL,lz]
      rw[GN]at w1
      rw[w1]
      simp [II]
    · rw[GN,<-GN r1]
      exact q2.append w2
    · rcases GI.1 hx with hx | hx
      · exact hz2 x hx y (w2.mem_iff.1 (GI.2 (.inr hy)))
      · exact w5 x hx y hy
    · rw[GN]
      refine .cons zs _ lz q3 (λx hx y hy=>?_) (w6 t ht λx hx y hy=>hc x (GI.2 (.inr hx)) y hy)
      rcases GI.1 hy with hy | hy
      · exact hz2 x hx y (w2.mem_iff.1 (GI.2 (.inl hy)))
      · exact hc x (GI.2 (.inl hx)) y hy
  · refine⟨[],g,((P.length + 2 * b:Nat):Int),?_,by simp,by omega,hp,λx hx=>by simp at hx,λt ht _=>by simpa using ht⟩
    rw[uH,if_neg (by simp; omega)]
    simp
theorem ti {fu:Nat} (hfu:4194306<=fu) (hcf:CfOk cf key U) {N:Nat} (hN:N<=2097152):∀(n b:Nat) (g:List X) (fk:Nat),N - b<=n->n<fk->0<b->b<=4194304->g.length=N->(∀x∈g,U x)->Rn key pos b g ->
 ∃(r:List X) (z:Int),uB cf fu (N:Int) fk g (b:Int)=some (r,z)/\r.Perm g/\r.Pairwise (T_ key pos)
 | n,b,g,fk,hn,hf,hb,hb2,hl,hU,hp=>by
  obtain⟨fk,rfl⟩:∃k,fk=k + 1:=⟨fk - 1,by omega⟩
  by_cases hlt:b<N
  · cases n with
    | zero=>omega
    | succ n =>
    have e2:y_ ((2:Int) * (b:Int))=((2 * b:Nat):Int):=by rw[va (by omega) (by omega)]; omega
    have e3:y_ ((b:Int) * 2)=((2 * b:Nat):Int):=by rw[va (by omega) (by omega)]; omega
    rw[uB,if_pos (by simpa using hlt),e2,e3]
    obtain⟨Q,rest,z,w1,w2,w3,w4,w5,w6⟩:=Bw hfu hcf hN hb hlt g.length g [] fu (GV _) (by omega) (by simpa using hl) hU hp
    simp only[Hi,HP,HA]at w1
    have w1':uH cf fu (N:Int) (b:Int) fu g 0 ((2 * b:Nat):Int)=some (Q++rest,(Q.length:Int),z):=w1
    rw[w1',GH]
    dsimp only
    rw[wadd (by have:=w2.length_eq; rw[GL]at this; omega)]
    have hlQ:Q.length + rest.length=N:=by rw[<-GL,w2.length_eq,hl]
    have hUr:∀x∈rest,U x:=λx hx=>hU x (w2.mem_iff.1 (GI.2 (.inr hx)))
    by_cases hm:Q.length + b<N
    · rw[if_pos (by rw[decide_eq_true_eq]; omega)]
      obtain⟨r1,r2,rfl,k1,k2,k3,k4⟩:=w4.two hb (by omega)
      rw[GL]at w3 hlQ
      obtain⟨zs,q1,q2,q3⟩:=qP hcf (b + r2.length) r1 r2 Q [] fu Q.length (Q.length + b) N (by omega) (by omega) (by omega) (by omega) rfl (by omega) (by omega) (by omega) (λx hx=>hUr x (GI.2 (.inl hx))) (λx hx=>hUr x (GI.2 (.inr hx))) k2 (k4.short (by omega)) k3
      simp only[G8]at q1
      rw[q1,GH]
      have hpm:(Q++zs).Perm g:=(q2.append_left Q).trans w2
      obtain⟨r,z',v1,v2,v3⟩:=ti hfu hcf hN n (2 * b) (Q++zs) fk (by omega) (by omega) (by omega) (by omega) (by rw[hpm.length_eq,hl]) (λx hx=>hU x (hpm.mem_iff.1 hx)) (w6 zs (.last zs (by rw[q2.length_eq,GL]; omega) q3) λx hx y hy=>w5 x hx y (q2.mem_iff.1 hy))
      exact⟨r,z',v1,v2.trans hpm,v3⟩
    · rw[if_neg (by rw[decide_eq_true_eq]; omega)]
      obtain⟨r,z',v1,v2,v3⟩:=ti hfu hcf hN n (2 * b) (Q++rest) fk (by omega) (by omega) (by omega) (by omega) (by rw[w2.length_eq,hl]) (λx hx=>hU x (w2.mem_iff.1 hx)) (w6 rest (.last rest (by omega) (w4.short (by omega))) w5)
      exact⟨r,z',v1,v2.trans w2,v3⟩
  · refine⟨g,(b:Int),?_,Iw _,hp.short (by omega)⟩
    rw[uB,if_neg (by simpa using hlt)]
theorem Dk {fu:Nat} (hfu:4194306<=fu) (hcf:CfOk cf key U) {l:List X} (hl:l.length<=2097152) (hU:∀x∈l,U x) (hp:l.Pairwise λa b=>pos a<pos b):∃r,uX cf fu l=some r/\r.Perm l/\r.Pairwise (T_ key pos):=by
 rw[uX,vu];obtain⟨Q,rest,z,w1,w2,w3,w4,w5,w6⟩:=Bz (N:=l.length) hfu hcf hl l.length l [] fu (GV _) (by omega) (by simp) hU hp;simp only[Hi,HP,HA]at w1;have w1':uI cf fu (l.length:Int) fu l 0 20=some (Q++rest,(Q.length:Int),z):=w1;rw[w1',GH];dsimp only;have hlQ:Q.length + rest.length=l.length:=by rw[<-GL,w2.length_eq]
 obtain⟨g',q1,q2,q3⟩:=BQ (fu:=fu) (by omega) hcf (A:=Q.length) (B:=l.length) (p:=Q) (g:=rest) (s:=[]) rfl hlQ hl (λx hx=>hU x (w2.mem_iff.1 (GI.2 (.inr hx)))) w4;simp only[G8]at q1;rw[q1,GH];have hpm:(Q++g').Perm l:=(q2.append_left Q).trans w2;obtain⟨r,z',v1,v2,v3⟩:=ti (pos:=pos) hfu hcf hl l.length 20 (Q++g') fu (by omega) (by omega) (by omega) (by omega) hpm.length_eq (λx hx=>hU x (hpm.mem_iff.1 hx)) (w6 g' (.last g' (by rw[q2.length_eq]; omega) q3) λx hx y hy=>w5 x hx y (q2.mem_iff.1 hy));have v1':uB cf fu (l.length:Int) fu (Q++g') 20=some (r,z'):=v1;rw[v1'];exact⟨r,rfl,v2.trans hpm,v3⟩
end
end AT
namespace AT
def T0:Px:=⟨⟨0,[]⟩,0⟩
def R0:Nd:=⟨0,0,0,0⟩
def gI (c:Px):Int:=c.count * (c.route.Nw.length:Int)
def usb1 (n:Nq) (F:List Ng) (rate:Int) (r:Nz):List Px:=if cr F (lenR n.Nw r.Nw) rate > 0 then [⟨r,cr F (lenR n.Nw r.Nw) rate⟩] else []
def Z0 (n:Nq) (F:List Ng) (d:Nd):List Px:=(M0 n d.Pt d.To).flatMap (usb1 n F d.Ph)
structure ChB (n:Nq) (d:Nd) (c:Px):Prop where
 rt:c.route∈M0 n d.Pt d.To
 rb:RtB n c.route
 c1:1<=c.count
 c2:c.count<=24
structure DemF (n:Nq) (d:Nd):Prop where
 f0:0<=d.Pt
 f1:d.Pt<(n.Nv.length:Int)
 t0:0<=d.To
 t1:d.To<(n.Nv.length:Int)
 ne:d.Pt≠d.To
 rate:1<=d.Ph/\d.Ph<=1000
variable {n:Nq} {d:Nd}
theorem demF (h:cH n d=true):DemF n d:=by
 unfold cH at h;simp only[GP,decide_eq_true_eq,bne_iff_ne,ne_eq]at h;obtain⟨⟨h1,h2⟩,⟨h3,h4⟩,h5,⟨h6,h7⟩,-⟩:=h;exact⟨h1,by omega,h3,by omega,h5,h6,h7⟩
theorem jI (hn:NetF n) {F:List Ng} (hF:FmtF F) {d:Nd} (hd:DemF n d) {c:Px} (hc:c∈Z0 n F d):ChB n d c:=by
 obtain⟨r,hr,hc⟩:=Hr.1 hc;unfold usb1 at hc;split at hc
 rename_i hs;rw[GR]at hc;subst hc;rcases oQ hF (len:=lenR n.Nw r.Nw) hd.rate with h | ⟨h1,h2,-⟩
 omega;exact⟨hr,(rQ hn hd.f0 hd.f1 d.To).1 r hr,h1,h2⟩;simp at hc
theorem nE {F:List Ng} :(Z0 n F d).length<=(M0 n d.Pt d.To).length:=by
 unfold Z0;have:=jb (f:=usb1 n F d.Ph) (b:=1) (M0 n d.Pt d.To) λr _=>by unfold usb1; split <;> simp
 omega
theorem iT {fu:Nat} (hfu:2097153<=fu) {n:Nq} (hn:NetF n) {F:List Ng} (hok:dt F=true) {d:Nd} (hd:DemF n d) (b:Bool) (l:List Nz) (hl:∀r∈l,RtB n r) (hll:l.length<=1000):∀(fk i:Nat) (out:List Px),i<=l.length->l.length - i<fk->out.length<=i->∃z,zt fu n F d (l,b) fk out i=some (out++(l.drop i).flatMap (usb1 n F d.Ph),z)
 | 0,i,out,hi,hf,ho=>by omega
 | fk + 1,i,out,hi,hf,ho=>by
  rw[zt]
  by_cases h:i<l.length
  · have hr:=hl _ (GW h)
    have hsh:=hr.short
    have hlen:=nY hn hr.fib
    rw[if_pos (by simpa using h),vP h,GH,jZ hfu hn l[i] hr.fib (by omega),GH,rO hfu hok hlen.1 hd.rate,GH,vV h (by omega),<-GU h,HL]
    dsimp only
    unfold usb1
    by_cases hs:cr F (lenR n.Nw l[i].Nw) d.Ph > 0
    · rw[decide_eq_true hs,if_pos rfl,if_pos hs]
      rw[yw (by simp; omega),GH]
      obtain⟨z,hz⟩:=iT hfu hn hok hd b l hl hll fk (i + 1) (out++[⟨l[i],cr F (lenR n.Nw l[i].Nw) d.Ph⟩]) h (by omega) (by simp; omega)
      exact⟨z,by rw[hz,GN]; rfl⟩
    · rw[decide_eq_false hs,if_neg (by simp),if_neg hs]
      obtain⟨z,hz⟩:=iT hfu hn hok hd b l hl hll fk (i + 1) out h (by omega) (by omega)
      exact⟨z,by rw[hz]; rfl⟩
  · have e:i=l.length:=by omega
    subst e
    rw[if_neg (by simp),Hg,Ir,G8]
    exact⟨_,rfl⟩
theorem Bb (hnet:cE n=true) (hd:DemF n d):d8 n d.Pt d.To=true:=rY.2 ⟨hnet,⟨hd.f0,hd.f1⟩,⟨hd.t0,hd.t1⟩,hd.ne⟩
theorem oJ {fu:Nat} (hfu:2097200<=fu) {n:Nq} (hnet:cE n=true) (hB:NetB n) {F:List Ng} (hok:dt F=true) {d:Nd} (hd:cH n d=true):dA fu n F d=some (if (M0 n d.Pt d.To).length<=200 then (Z0 n F d,true) else ([],false)):=by
 have hF:=fmtF hok;have h6:=hF.len;have hdF:=demF hd;have e:eS n [d]=true:=by unfold eS; rw[hnet]; simp [hd]
 unfold dA;rw[iw (by omega) F (by omega),hok,GH,if_neg (by decide),ja (by omega) n [d] hB (by simp),e,GH,GH,if_neg (by decide),oe hfu n _ _ hB,GH];have hpp:=Bb hnet hdF;by_cases h:(M0 n d.Pt d.To).length<=200;rw[if_pos (show d8 n d.Pt d.To=true/\(M0 n d.Pt d.To).length<=200 from ⟨hpp,h⟩),if_pos h,if_neg (by simp)];obtain⟨z,hz⟩:=iT (fu:=fu) (by omega) (netF hnet) hok hdF true (M0 n d.Pt d.To) (rQ (netF hnet) hdF.f0 hdF.f1 d.To).1 (by omega) fu 0 [] (by omega) (by omega) (by simp);rw[show ((0:Nat):Int)=0 from rfl,He,Hi]at hz;rw[hz]; rfl;rw[if_neg (show ¬(d8 n d.Pt d.To=true/\(M0 n d.Pt d.To).length<=200) from λc=>h c.2),if_neg h]; rfl
theorem gN {fu:Nat} (hfu:2097153<=fu) {n:Nq} (hn:NetF n) {F:List Ng} (hF:FmtF F) {d:Nd} (hd:DemF n d) (b:Bool) (l:List Nz) (hl:∀r∈l,RtB n r) (hll:l.length<=1000):∀(fk i:Nat) (o1:List Nz) (o2:d_),i<=l.length->l.length - i<fk->o1.length<=i->o2.length<=i->∃z,ye fu n F d (l,b) fk o1 o2 i=some (o1++((l.drop i).flatMap (usb1 n F d.Ph)).map (·.route),o2++((l.drop i).flatMap (usb1 n F d.Ph)).map (·.count),z)
 | 0,i,o1,o2,hi,hf,h1,h2=>by omega
 | fk + 1,i,o1,o2,hi,hf,h1,h2=>by
  rw[ye]
  by_cases h:i<l.length
  · have hr:=hl _ (GW h)
    have hsh:=hr.short
    rw[if_pos (by simpa using h),vP h,GH,i7 hfu hn l[i] hr.fib (by omega),GH,qi hF hd.rate hfu,GH,vV h (by omega),<-GU h,HL]
    by_cases hs:cr F (lenR n.Nw l[i].Nw) d.Ph > 0
    · have e1:usb1 n F d.Ph l[i]=[⟨l[i],cr F (lenR n.Nw l[i].Nw) d.Ph⟩]:=if_pos hs
      rw[if_pos (by simpa using hs),e1,GH,yw (by simp; omega),GH,yw (by simp; omega),GH]
      obtain⟨z,hz⟩:=gN hfu hn hF hd b l hl hll fk (i + 1) (o1++[l[i]]) (o2++[cr F (lenR n.Nw l[i].Nw) d.Ph]) h (by omega) (by simp; omega) (by simp; omega)
      exact⟨z,by rw[hz]; simp⟩
    · have e1:usb1 n F d.Ph l[i]=[]:=if_neg hs
      rw[if_neg (by simpa using hs),e1]
      obtain⟨z,hz⟩:=gN hfu hn hF hd b l hl hll fk (i + 1) o1 o2 h (by omega) (by omega) (by omega)
      exact⟨z,by rw[hz]; rfl⟩
  · have e:i=l.length:=by omega
    subst e
    rw[if_neg (by simp),Hg,Ir,IH,G8,IH,G8]
    exact⟨_,rfl⟩
theorem mQ {fu:Nat} (hfu:2097200<=fu) {n:Nq} (hn:NetF n) {F:List Ng} (hF:FmtF F) {d:Nd} (hd:DemF n d):bI fu n F d=some (if (M0 n d.Pt d.To).length<=200 then ((Z0 n F d).map (·.route),(Z0 n F d).map (·.count),true) else ([],[],false)):=by
 unfold bI;rw[rj hfu hn _ _ hd.f0 hd.f1,GH];by_cases h:(M0 n d.Pt d.To).length<=200;rw[if_pos h,if_pos h,if_neg (by simp)];obtain⟨z,hz⟩:=gN (fu:=fu) (by omega) hn hF hd true (M0 n d.Pt d.To) (rQ hn hd.f0 hd.f1 d.To).1 (by omega) fu 0 [] [] (by omega) (by omega) (by simp) (by simp);rw[show ((0:Nat):Int)=0 from rfl,He,Hi,Hi]at hz;rw[hz]; rfl;rw[if_neg h,if_neg h]; rfl
def keyC (l:List Px) (i:Nat):Int:=gI (gd l i T0)
def srtC (l:List Px):List Px:=(ze (keyC l) l.length).map λi=>gd l i T0
theorem cn (l:List Px):(srtC l).Perm l:=by
 unfold srtC;have h:=(ef (keyC l) l.length).map λi=>gd l i T0;have e:(List.range l.length).map (λi=>gd l i T0)=l:=by
  apply IE
  · simp
  · intro i h1 h2
    simp [aU T0 h2]
 rwa [e]at h
theorem j7 {c:Px} (h1:0<=c.count/\c.count<=24) (h2:c.route.Nw.length<=100):0<=gI c/\gI c<=2400:=by
 unfold gI;obtain⟨a,b⟩:=h1;generalize c.count=x at a b;generalize c.route.Nw.length=y at h2;refine⟨Int.mul_nonneg a (by omega),?_⟩;have:=Int.mul_le_mul b (show (y:Int)<=100 by omega) (by omega) (by omega);omega
theorem wl {α:Type} {l:List α} {d:α}:∀{is:m_},(∀i∈is,i<l.length)->is.mapM (λi:Nat=>l[i]?)=some (is.map λi=>gd l i d)
 | [],_=>rfl
 | i::is,h=>by
  rw[J5,wl λj hj=>h j (Hs _ hj),GM (h i (Hp ..)),HX,aU d (h i (Hp ..))]
  rfl
theorem pU {fu:Nat} (hfu:4194306<=fu) {l:List Px} (hl:∀c∈l,(0<=c.count/\c.count<=24)/\c.route.Nw.length<=100) (hll:l.length<=1000):dC fu l=some (srtC l):=by
 have hcost:∀c∈l,xL fu c=some (gI c):=λc hc=>by
  have:=j7 (hl c hc).1 (hl c hc).2
  unfold xL
  rw[va (by unfold gI at this; omega) (by unfold gI at this; omega)]
  rfl
 have hcf:CfOk (λi j:Nat=>(l[i]?).bind λa=>(l[j]?).bind λb=>ay fu a b) (keyC l) (λi=>i<l.length):=λi j hi hj=>by
  have hi:i<l.length:=hi
  have hj:j<l.length:=hj
  refine⟨cmpI (keyC l i) (keyC l j),?_,dq _ _⟩
  show ((l[i]?).bind λa=>(l[j]?).bind λb=>ay fu a b)=_
  unfold keyC
  rw[aU T0 hi,aU T0 hj,GM hi,GH,GM hj,GH,ay,hcost _ (GW hi),GH,hcost _ (GW hj),GH,fX,GH]
 obtain⟨r,h1,h2,h3⟩:=Dk (pos:=id) hfu hcf (l:=List.range l.length) (by rw[Hx]; omega) (λi hi=>Hv.1 hi) List.pairwise_lt_range;have e:r=ze (keyC l) l.length:=CQ (h2.trans (ef _ _).symm) h3 (eY _ _);unfold dC;rw[h1,GH,e,wl λi hi=>f7 hi];rfl
def sH (L:List Nx) (fit:Int) (c:Px):List Nx:=match blkP (along L c.route.Nw) c.count fit with
 | some b=>[⟨0,c.route,b⟩]
 | none=>[]
def pP (p:Nh) (F:List Ng) (d:Nd) (fit:Int):List Nx:=(srtC (Z0 p.Nq F d)).flatMap (sH p.Nk fit)
theorem eT {fu:Nat} (hfu:2097153<=fu) {p:Nh} (hB:cg p) (hF:PlanF p) (fit:Int) (l:List Px) (hl:∀c∈l,RtB p.Nq c.route/\1<=c.count/\c.count<=24) (hll:l.length<=1000):∀(fk i:Nat) (out:List Nx),i<=l.length->l.length - i<fk->out.length<=i->∃z,xW fu p fit l fk out i=some (out++(l.drop i).flatMap (sH p.Nk fit),z)
 | 0,i,out,hi,hf,ho=>by omega
 | fk + 1,i,out,hi,hf,ho=>by
  have hblk:∀y∈p.Nk,yY y.Nj=true:=λy hy=>(hF.light y hy).blk
  rw[xW]
  by_cases h:i<l.length
  · obtain⟨hr,c1,c2⟩:=hl _ (GW h)
    have hsh:=hr.short
    rw[if_pos (by simpa using h),vP h,GH,oX hfu p hB hF _ (by omega) hr.fib,GH,sy hfu (lc hblk _) c1 c2,GH,vV h (by omega),<-GU h,HL]
    unfold sH
    cases hb:blkP (along p.Nk l[i].route.Nw) l[i].count fit with
    | some b =>
     have e:optB (some b)=(b,true):=rfl
     rw[e]
     dsimp only
     rw[if_pos rfl,yw (by simp; omega),GH]
     obtain⟨z,hz⟩:=eT hfu hB hF fit l hl hll fk (i + 1) (out++[⟨0,l[i].route,b⟩]) h (by omega) (by simp; omega)
     exact⟨z,by rw[hz,GN]; rfl⟩
    | none =>
     have e:optB none=(b0R,false):=rfl
     rw[e]
     dsimp only
     rw[if_neg (by simp)]
     obtain⟨z,hz⟩:=eT hfu hB hF fit l hl hll fk (i + 1) out h (by omega) (by omega)
     exact⟨z,by rw[hz]; rfl⟩
  · have e:i=l.length:=by omega
    subst e
    rw[if_neg (by simp),Hg,Ir,G8]
    exact⟨_,rfl⟩
theorem ov {fu:Nat} (hfu:4194306<=fu) {p:Nh} (hB:cg p) (hp:x8 p=true) {F:List Ng} (hok:dt F=true) {d:Nd} (hd:cH p.Nq d=true) (fit:Int):bY fu p F d fit=some (if (M0 p.Nq d.Pt d.To).length<=200 then (pP p F d fit,true) else ([],false)):=by
 have hnet:=(yA.1 hp).1;have hn:=netF hnet;unfold bY;rw[oJ (by omega) hnet hB.1 hok hd,GH];by_cases h:(M0 p.Nq d.Pt d.To).length<=200;have hul:=nE (n:=p.Nq) (F:=F) (d:=d);have hm:∀c∈Z0 p.Nq F d,ChB p.Nq d c:=λc hc=>jI hn (fmtF hok) (demF hd) hc;rw[if_pos h,if_pos h,if_neg (by simp)];dsimp only;rw[pU hfu (λc hc=>⟨⟨by have:=(hm c hc).c1; omega,(hm c hc).c2⟩,by have:=(hm c hc).rb.short; omega⟩) (by omega),GH];obtain⟨z,hz⟩:=eT (fu:=fu) (by omega) hB (lC hp) fit (srtC (Z0 p.Nq F d)) (λc hc=>by
  have:=hm c ((cn _).mem_iff.1 hc)
  exact⟨this.rb,this.c1,this.c2⟩) (by rw[(cn _).length_eq]; omega) fu 0 [] (by omega) (by rw[(cn _).length_eq]; omega) (by simp)
 rw[show ((0:Nat):Int)=0 from rfl,He,Hi]at hz;rw[hz]; rfl;rw[if_neg h,if_neg h]; rfl
variable {α:Type} {l:List α}
theorem ig {β:Type} {i:Nat} (f:α->β) (d:α) (e:β) (h:i<l.length):gd (l.map f) i e=f (gd l i d):=by
 rw[aU _ (by simpa using h),aU d h,IF]
theorem mZ {fu:Nat} (l:List Px) (b:Bool) (hl:∀c∈l,(0<=c.count/\c.count<=24)/\c.route.Nw.length<=100) (o:m_) (ho:∀i∈o,i<l.length) (hol:o.length<=1000) {i:Nat} (hi:i<l.length):∀(k fk:Nat),k<=o.length->k<fk->xS fu (l.map (·.route),l.map (·.count),b) (o.map λj:Nat=>(j:Int)) (i:Int) fk (k:Int)=some ((stN (keyC l) o i k:Nat):Int)
 | 0,fk,hk,hf=>by
  obtain⟨fk,rfl⟩:∃k,fk=k + 1:=⟨fk - 1,by omega⟩
  rw[xS,if_neg (by simp),GH,if_neg (by simp)]
  rfl
 | k + 1,fk,hk,hf=>by
  obtain⟨fk,rfl⟩:∃k,fk=k + 1:=⟨fk - 1,by omega⟩
  have hw:y_ (((k + 1:Nat):Int) - 1)=(k:Int):=by rw[va (by omega) (by omega)]; omega
  have hko:k<o.length:=by omega
  have hj:=ho _ (zx 0 hko)
  have e1:V_ (o.map λj:Nat=>(j:Int)) (k:Int)=some ((gd o k 0:Nat):Int):=by
   rw[xC 0 (by simpa using hko),ig (λj:Nat=>(j:Int)) 0 0 hko]
  have e2:∀j:Nat,j<l.length->V_ (l.map (·.count)) (j:Int)=some (gd l j T0).count:=λj hj=>by
   rw[xC 0 (by simpa using hj),ig (·.count) T0 0 hj]
  have e3:∀j:Nat,j<l.length->V_ (l.map (·.route)) (j:Int)=some (gd l j T0).route:=λj hj=>by
   rw[xC rt0 (by simpa using hj),ig (·.route) T0 rt0 hj]
  have e4:∀j:Nat,j<l.length->y_ ((gd l j T0).count * ((gd l j T0).route.Nw.length:Int))=keyC l j:=λj hj=>by
   have:=j7 (hl _ (zx T0 hj)).1 (hl _ (zx T0 hj)).2
   unfold gI at this
   exact va (by omega) (by omega)
  rw[xS,if_pos (by simp),hw]
  dsimp only
  rw[e1,GH,e2 _ hj,GH,GH,e3 _ hj,GH,e2 _ hi,GH,e3 _ hi,GH,e4 _ hj,e4 _ hi,GH,stN]
  by_cases hc:keyC l (gd o k 0) > keyC l i
  · rw[if_pos (by simpa using hc),if_pos hc]
    exact mZ l b hl o ho hol hi k fk (by omega) (by omega)
  · rw[if_neg (by simpa using hc),if_neg hc]
theorem oM {n:Nat} (h:n<=l.length):sub l 0 (n:Int)=some (l.take n):=fZ h
theorem oN {n:Nat} (h:n<=l.length):sub l (n:Int) (l.length:Int)=some (l.drop n):=by
 unfold sub;rw[if_pos ⟨by omega,by omega,by omega⟩,Hh,Hh,Jf]
theorem m0 {fu:Nat} (hfu:2097153<=fu) (l:List Px) (b:Bool) (hl:∀c∈l,(0<=c.count/\c.count<=24)/\c.route.Nw.length<=100) (hll:l.length<=1000):∀(fk i:Nat),i<=l.length->l.length - i<fk->∃z,xT fu (l.map (·.route),l.map (·.count),b) fk ((ze (keyC l) i).map λj:Nat=>(j:Int)) i=some ((ze (keyC l) l.length).map λj:Nat=>(j:Int),z)
 | 0,i,hi,hf=>by omega
 | fk + 1,i,hi,hf=>by
  rw[xT]
  by_cases h:i<l.length
  · have hlen:=gO (keyC l) i
    have hsp:=(kN (keyC l) (ze (keyC l) i) i (ze (keyC l) i).length).1
    rw[if_pos (by simpa using h),Hn,mZ (fu:=fu) l b hl (ze (keyC l) i) (λj hj=>JZ (f7 hj) h) (by omega) h _ fu (GV _) (by omega),GH]
    have e1:=oM (l:=(ze (keyC l) i).map λj:Nat=>(j:Int)) (n:=stN (keyC l) (ze (keyC l) i) i (ze (keyC l) i).length) (by rw[Hn]; exact hsp)
    have e2:=oN (l:=(ze (keyC l) i).map λj:Nat=>(j:Int)) (n:=stN (keyC l) (ze (keyC l) i) i (ze (keyC l) i).length) (by rw[Hn]; exact hsp)
    rw[Hn]at e2
    rw[e1,GH,e2,GH,yw (by simp; omega),GH,yw (by simp; omega),GH,yw (by simp; omega),GH,vV h (by omega)]
    obtain⟨z,hz⟩:=m0 hfu l b hl hll fk (i + 1) h (by omega)
    refine⟨z,?_⟩
    rw[<-hz,ze,oP]
    congr 1
    simp
  · have e:i=l.length:=by omega
    subst e
    rw[if_neg (by simp)]
    exact⟨_,rfl⟩
theorem mh {fu:Nat} (hfu:2097153<=fu) {p:Nh} (hB:cg p) (hF:PlanF p) (fit:Int) (l:List Px) (b:Bool) (hl:∀c∈l,RtB p.Nq c.route/\1<=c.count/\c.count<=24) (o:m_) (ho:∀i∈o,i<l.length) (hol:o.length<=1000):∀(fk i:Nat) (out:List Nx),i<=o.length->o.length - i<fk->out.length<=i->∃z,xR fu p fit (l.map (·.route),l.map (·.count),b) (o.map λj:Nat=>(j:Int)) fk out i=some (out++((o.drop i).map λj=>gd l j T0).flatMap (sH p.Nk fit),z)
 | 0,i,out,hi,hf,h0=>by omega
 | fk + 1,i,out,hi,hf,h0=>by
  have hblk:∀y∈p.Nk,yY y.Nj=true:=λy hy=>(hF.light y hy).blk
  have hps:=hF.short
  rw[xR]
  by_cases h:i<o.length
  · have hj:=ho _ (GW h)
    obtain⟨hr,c1,c2⟩:=hl _ (zx T0 hj)
    have hsh:=hr.short
    have e1:V_ (o.map λj:Nat=>(j:Int)) (i:Int)=some ((o[i]:Nat):Int):=by
     rw[vP (by simpa using h),IF]
    have e2:V_ (l.map (·.count)) ((o[i]:Nat):Int)=some (gd l o[i] T0).count:=by
     rw[xC 0 (by simpa using hj),ig (·.count) T0 0 hj]
    have e3:V_ (l.map (·.route)) ((o[i]:Nat):Int)=some (gd l o[i] T0).route:=by
     rw[xC rt0 (by simpa using hj),ig (·.route) T0 rt0 hj]
    rw[if_pos (by simpa using h),e1,GH]
    dsimp only
    rw[e3,GH,GH,e2,GH,it hfu p _ (by omega) hblk hB.2.2 (by omega),GH,vV h (by omega),<-GU h,HX,HL]
    obtain⟨bb,hb1,hb2⟩:=qu (fit:=fit) hfu (lc hblk (gd l o[i] T0).route.Nw) c1 c2
    rw[hb1,GH]
    unfold sH
    rcases hb2 with ⟨hb2,hb3⟩ | hb2
    · rw[hb2,hb3,if_neg (by simp)]
      obtain⟨z,hz⟩:=mh hfu hB hF fit l b hl o ho hol fk (i + 1) out h (by omega) (by omega)
      exact⟨z,by rw[hz]; rfl⟩
    · rw[hb2]
      have hbc:=(qG (lc hblk _) c1 c2 hb2).1
      rw[if_pos (by rw[hbc,decide_eq_true_eq]; omega),ri fu _ (by omega),GH,yw (by simp; omega),GH]
      obtain⟨z,hz⟩:=mh hfu hB hF fit l b hl o ho hol fk (i + 1) (out++[⟨0,(gd l o[i] T0).route,bb⟩]) h (by omega) (by simp; omega)
      exact⟨z,by rw[hz,GN]; rfl⟩
  · have e:i=o.length:=by omega
    subst e
    rw[if_neg (by simp),Hg,IH,Ir,G8]
    exact⟨_,rfl⟩
theorem sO {fu:Nat} (hfu:2097200<=fu) {p:Nh} (hB:cg p) (hp:x8 p=true) {F:List Ng} (hok:dt F=true) {d:Nd} (hd:cH p.Nq d=true) (fit:Int):bV fu p F d fit=some (if (M0 p.Nq d.Pt d.To).length<=200 then (pP p F d fit,true) else ([],false)):=by
 have hnet:=(yA.1 hp).1;have hn:=netF hnet;unfold bV;rw[mQ hfu hn (fmtF hok) (demF hd),GH];by_cases h:(M0 p.Nq d.Pt d.To).length<=200;have hul:=nE (n:=p.Nq) (F:=F) (d:=d);have hm:∀c∈Z0 p.Nq F d,ChB p.Nq d c:=λc hc=>jI hn (fmtF hok) (demF hd) hc;have hlen:=gO (keyC (Z0 p.Nq F d)) (Z0 p.Nq F d).length;rw[if_pos h,if_pos h,if_neg (by simp)];obtain⟨z,hz⟩:=m0 (fu:=fu) (by omega) (Z0 p.Nq F d) true (λc hc=>⟨⟨by have:=(hm c hc).c1; omega,(hm c hc).c2⟩,by have:=(hm c hc).rb.short; omega⟩) (by omega) fu 0 (by omega) (by omega);have hz':xT fu ((Z0 p.Nq F d).map (·.route),(Z0 p.Nq F d).map (·.count),true) fu [] 0=some ((ze (keyC (Z0 p.Nq F d)) (Z0 p.Nq F d).length).map λj:Nat=>(j:Int),z):=hz
 rw[hz',GH];obtain⟨z2,hz2⟩:=mh (fu:=fu) (by omega) hB (lC hp) fit (Z0 p.Nq F d) true (λc hc=>⟨(hm c hc).rb,(hm c hc).c1,(hm c hc).c2⟩) (ze (keyC (Z0 p.Nq F d)) (Z0 p.Nq F d).length) (λi hi=>f7 hi) (by omega) fu 0 [] (by omega) (by omega) (by simp);rw[show ((0:Nat):Int)=0 from rfl,He,Hi]at hz2;rw[hz2]; rfl;rw[if_neg h,if_neg h]; rfl
end AT
namespace AT
def fidS:List Nx->Int->Int
 | [],id=>id
 | x::l,id=>if x.Id=id then fidS l (id + 1) else id
theorem ot:∀(l:List Nx) (id:Int),id<=fidS l id/\fidS l id<=id + (l.length:Int)
 | [],id=>by rw[fidS]; simp
 | x::l,id=>by
  rw[fidS]
  split
  · have:=ot l (id + 1)
    simp only[Hq]
    omega
  · simp only[Hq]
    omega
theorem om:∀(l:List Nx) (id:Int),l.Pairwise (λa b=>a.Id<b.Id)->(∀x∈l,id<=x.Id)->∀x∈l,x.Id≠fidS l id
 | [],id,_,_,x,hx=>by simp at hx
 | y::l,id,hp,hi,x,hx=>by
  obtain⟨h1,h2⟩:=Ia.1 hp
  rw[fidS]
  split
  · rename_i hy
    have h3:∀z∈l,id + 1<=z.Id:=λz hz=>by have:=h1 z hz; omega
    have h4:=ot l (id + 1)
    rcases Hf.1 hx with rfl | hx
    · omega
    · exact om l (id + 1) h2 h3 x hx
  · rename_i hy
    have h5:=hi y (Hp ..)
    rcases Hf.1 hx with rfl | hx
    · exact hy
    · have:=h1 x hx; omega
theorem lX {fu:Nat} (hfu:2097153<=fu) (p:Nh) (hl:p.Nk.length<=12):∀(l pre:List Nx) (id:Int) (fk:Nat),p.Nk=pre++l->l.length<fk->l.Pairwise (λa b=>a.Id<b.Id)->(∀x∈pre,x.Id<id)->(∀x∈l,id<=x.Id)->0<=id->id + (l.length:Int)<=1000->ax fu p fk id=some (fidS l id)
 | l,pre,id,fk,he,hf,hp,h1,h2,h0,hb=>by
  obtain⟨fk,rfl⟩:∃k,fk=k + 1:=⟨fk - 1,by omega⟩
  have hpre:∀x∈pre,(x.Id==id)=false:=λx hx=>by have:=h1 x hx; rw[beq_eq_false_iff_ne]; omega
  rw[ax,sg p id (by omega) (by omega),GH]
  have hany:(p.Nk.any λy=>y.Id==id)=l.any λy=>y.Id==id:=by
   rw[he,List.any_append]
   have:(pre.any λy=>y.Id==id)=false:=by
    rw[JK]
    intro x hx
    rw[hpre x hx]
    decide
   rw[this,Ip]
  rw[hany]
  cases l with
  | nil =>
   rw[fidS]
   simp
  | cons x l =>
   obtain⟨q1,q2⟩:=Ia.1 hp
   have hx:=h2 x (Hp ..)
   rw[fidS]
   by_cases hid:x.Id=id
   · have:((x::l).any λy=>y.Id==id)=true:=by simp [hid]
     rw[if_pos this,if_pos (by simp),if_pos hid]
     simp only[Hq]at hf hb
     rw[va (by omega) (by omega)]
     exact lX hfu p hl l (pre++[x]) (id + 1) fk (by rw[he]; simp) (by omega) q2 (λy hy=>by
      rcases GI.1 hy with hy | hy
      · have:=h1 y hy; omega
      · simp only[GR]at hy; subst hy; omega) (λy hy=>by have:=q1 y hy; omega) (by omega) (by omega)
   · have:((x::l).any λy=>y.Id==id)=false:=by
      rw[JK]
      intro y hy
      rcases Hf.1 hy with rfl | hy
      · simpa using hid
      · have:=q1 y hy
        rw[beq_iff_eq]; omega
     rw[this,if_neg (show ¬(false=true) by decide),if_neg (by simp),if_neg hid]
theorem kq {fu:Nat} (p:Nh) (hl:p.Nk.length<=12):∀(fk i:Nat) (id:Int),i<=p.Nk.length->p.Nk.length - i<fk->0<=id->id + ((p.Nk.length - i:Nat):Int)<=1000->∃z,bc fu p fk id i=some (fidS (p.Nk.drop i) id,z)
 | 0,i,id,hi,hf,_,_=>by omega
 | fk + 1,i,id,hi,hf,h0,hb=>by
  rw[bc]
  by_cases h:i<p.Nk.length
  · rw[if_pos (by simpa using h),vP h,GH,GH,<-GU h,fidS]
    by_cases hid:p.Nk[i].Id=id
    · rw[if_pos (by simpa using hid),if_pos hid,vV h (by omega),va (by omega) (by omega)]
      exact kq p hl fk (i + 1) (id + 1) h (by omega) (by omega) (by omega)
    · rw[if_neg (by simpa using hid),if_neg hid]
      exact⟨_,rfl⟩
  · have e:i=p.Nk.length:=by omega
    subst e
    rw[if_neg (by simp),GH,if_neg (by simp),Hg,fidS]
    exact⟨_,rfl⟩
theorem i0 {p:Nh} (hp:x8 p=true):p.Nk.Pairwise λa b=>a.Id<b.Id:=(yA.1 hp).2.2.2.imp λh=>h.1
theorem kT {p:Nh} (hp:x8 p=true):∀x∈p.Nk,1<=x.Id:=λx hx=>by
 have:=(yA.1 hp).2.2.1 x hx
 unfold bp at this
 simp only[GP,decide_eq_true_eq]at this
 exact this.1.1
theorem wL {fu:Nat} (hfu:2097153<=fu) {p:Nh} (hp:x8 p=true):eQ fu p=some (fidS p.Nk 1):=by
 have hl:=(yA.1 hp).2.1;unfold eQ;rw[lX hfu p hl p.Nk [] 1 fu rfl (by omega) (i0 hp) (λx hx=>by simp at hx) (kT hp) (by omega) (by omega)];rfl
theorem sv {fu:Nat} (hfu:2097153<=fu) {p:Nh} (hp:x8 p=true):fJ fu p=some (fidS p.Nk 1):=by
 have hl:=(yA.1 hp).2.1;unfold fJ;obtain⟨z,hz⟩:=kq (fu:=fu) p hl fu 0 1 (by omega) (by omega) (by omega) (by omega);rw[show ((0:Nat):Int)=0 from rfl,He]at hz;rw[hz]; rfl
def newL (p:Nh) (x:Nx):Nx:=⟨fidS p.Nk 1,x.Nz,x.Nj⟩
def srvP (p:Nh) (F:List Ng) (d:Nd) (fit:Int):Nh×Int:=match pP p F d fit with
 | []=>(p,0)
 | x::_=>if p.Nk.length=12 then (p,0) else (addP p (newL p x),fidS p.Nk 1)
structure ConB (p:Nh) (F:List Ng) (d:Nd) (x:Nx):Prop where
 rt:x.Nz∈M0 p.Nq d.Pt d.To
 rb:RtB p.Nq x.Nz
 cnt:x.Nj.Pz=cr F (lenR p.Nq.Nw x.Nz.Nw) d.Ph
 c1:1<=x.Nj.Pz
 c2:x.Nj.Pz<=24
 fit:x.Nj.Pk∈fits (along p.Nk x.Nz.Nw) x.Nj.Pz
theorem tc {n:Nq} {F:List Ng} {d:Nd} {c:Px} (hc:c∈Z0 n F d):c.count=cr F (lenR n.Nw c.route.Nw) d.Ph:=by
 obtain⟨r,hr,hc⟩:=Hr.1 hc;unfold usb1 at hc;split at hc
 rw[GR]at hc;subst hc; rfl;simp at hc
variable {p:Nh}
theorem me (hp:x8 p=true) {F:List Ng} (hF:FmtF F) {d:Nd} (hd:DemF p.Nq d) {fit:Int} {x:Nx} (hx:x∈pP p F d fit):ConB p F d x:=by
 have hn:=netF (yA.1 hp).1;have hblk:∀y∈p.Nk,yY y.Nj=true:=λy hy=>((lC hp).light y hy).blk;obtain⟨c,hc,hx⟩:=Hr.1 hx;have hc:=(cn _).mem_iff.1 hc;have hb:=jI hn hF hd hc;have hs:=tc hc;unfold sH at hx;split at hx
 rename_i b hbk;rw[GR]at hx;subst hx;obtain⟨h1,h2⟩:=qG (lc hblk _) hb.c1 hb.c2 hbk;refine⟨hb.rt,hb.rb,?_,?_,?_,?_⟩;show b.Pz=_;rw[h1,hs];show 1<=b.Pz;rw[h1]; exact hb.c1;show b.Pz<=24;rw[h1]; exact hb.c2;show b.Pk∈fits _ b.Pz;rw[h1]; exact h2;simp at hx
theorem ConB.ok (hp:x8 p=true) {F:List Ng} {d:Nd} (hd:DemF p.Nq d) {x:Nx} (h:ConB p F d x) (hl:p.Nk.length<12):bp p.Nq (newL p x)=true/\x8 (addP p (newL p x))=true/\(zb p.Nq x.Nz).isSome=true/\x.Nz.Nt=d.Pt/\endR p.Nq x.Nz=d.To:=by
 have hn:=netF (yA.1 hp).1;have hblk:∀y∈p.Nk,yY y.Nj=true:=λy hy=>((lC hp).light y hy).blk;obtain⟨r1,r2,r3,r4⟩:=Dq hn hd.f0 hd.f1 hd.ne h.rt;obtain⟨f1,f2,f3⟩:=(kX h.c1 h.c2).1 h.fit;have hc1:=h.c1;have hc2:=h.c2;have hb:yY x.Nj=true:=by simp only[yY,GP,decide_eq_true_eq]; omega
 rw[qL hblk x.Nz.Nw (qH hb),HH]at f3;have hid:=ot p.Nk 1;have hnew:=om p.Nk 1 (i0 hp) (kT hp);have hlok:bp p.Nq (newL p x)=true:=by
  unfold bp newL
  simp only[GP,decide_eq_true_eq]
  exact⟨⟨by omega,by omega⟩,r2,hb⟩
 refine⟨hlok,?_,r2,r1,r3⟩;refine CG (N:=p.Nq) (L:=p.Nk) hp hlok ?_ (λy hy=>?_) hl;rw[G7];intro h;obtain⟨y,hy,e⟩:=G5.1 h;exact hnew y hy (by simpa [newL] using e);rw[ox];have:=f3 y hy;rw[Hk]at this;exact this
theorem tm (hp:x8 p=true) (hB:cg p) {F:List Ng} (hF:FmtF F) {d:Nd} (hd:DemF p.Nq d) (fit:Int):x8 (srvP p F d fit).1=true/\(srvP p F d fit).1.Nq=p.Nq/\cg (srvP p F d fit).1 /\
 (((srvP p F d fit).2=0/\(srvP p F d fit).1=p)∨(p.Nk.length<12/\1<=(srvP p F d fit).2/\(srvP p F d fit).2<=13/\∃x,ConB p F d x/\x∈pP p F d fit/\(srvP p F d fit)=(addP p (newL p x),fidS p.Nk 1))):=by
 have hl:=(yA.1 hp).2.1;unfold srvP;cases hc:pP p F d fit with
 | nil=>exact⟨hp,rfl,hB,.inl ⟨rfl,rfl⟩⟩
 | cons x l =>
  dsimp only
  have hx:=me hp hF hd (fit:=fit) (x:=x) (by rw[hc]; exact Hp ..)
  by_cases h12:p.Nk.length=12
  · rw[if_pos h12]
    exact⟨hp,rfl,hB,.inl ⟨rfl,rfl⟩⟩
  · rw[if_neg h12]
    have hid:=ot p.Nk 1
    have hsh:=hx.rb.short
    refine⟨(hx.ok hp hd (by omega)).2.1,rfl,Ey hB hl (by show x.Nz.Nw.length<=_; omega),.inr ⟨by omega,?_,?_,x,hx,Hp ..,rfl⟩⟩
    · exact hid.1
    · show fidS p.Nk 1<=13
      omega
def iJ (N:Nq) (d:Nd):Prop:=(M0 N d.Pt d.To).length<=200
instance (N:Nq) (d:Nd):Decidable (iJ N d):=inferInstanceAs (Decidable (_<=_))
theorem Au {fu:Nat} (hfu:4194306<=fu) {p:Nh} (hB:cg p) (hp:x8 p=true) {F:List Ng} (hok:dt F=true) {d:Nd} (hd:cH p.Nq d=true) (fit:Int):fQ fu p F d fit=some (if iJ p.Nq d then ((srvP p F d fit).1,(srvP p F d fit).2,true) else (BY,0,false)):=by
 have hl:=(yA.1 hp).2.1;unfold fQ;rw[ov hfu hB hp hok hd fit,GH];by_cases h:iJ p.Nq d;have h':(M0 p.Nq d.Pt d.To).length<=200:=h;rw[if_pos h',if_pos h,if_neg (by simp)];dsimp only;unfold srvP;cases hc:pP p F d fit with
 | nil =>
  rw[if_pos (by simp),GH,if_pos rfl,gw (by omega) p hB]
  rfl
 | cons x l =>
  have hx:=me hp (fmtF hok) (demF hd) (fit:=fit) (x:=x) (by rw[hc]; exact Hp ..)
  have hsh:=hx.rb.short
  rw[if_neg (by simp; omega),GH]
  dsimp only
  by_cases h12:p.Nk.length=12
  · rw[if_pos (by rw[beq_iff_eq]; omega),if_pos h12,gw (by omega) p hB]
    rfl
  · rw[if_neg (by rw[beq_iff_eq]; omega),if_neg h12,show (0:Int)=((0:Nat):Int) from rfl,vP (by simp),GH,wL (by omega) hp,GH]
    have:=oF (fu:=fu) (by omega) p (newL p x) hB (by show x.Nz.Nw.length<=_; omega)
    rw[show ({ Id:=fidS p.Nk 1,Nz:=((x::l)[0]).Nz,Nj:=((x::l)[0]).Nj }:Nx)=newL p x from rfl,this]
    rfl
 have h':¬(M0 p.Nq d.Pt d.To).length<=200:=h;rw[if_neg h',if_neg h]; rfl
theorem tv {fu:Nat} (hfu:2097200<=fu) {p:Nh} (hB:cg p) (hp:x8 p=true) {F:List Ng} (hok:dt F=true) {d:Nd} (hd:cH p.Nq d=true) (fit:Int):cW fu p F d fit=some (if iJ p.Nq d then ((srvP p F d fit).1,(srvP p F d fit).2,true) else (BY,0,false)):=by
 have hl:=(yA.1 hp).2.1;unfold cW;rw[sO hfu hB hp hok hd fit,GH];by_cases h:iJ p.Nq d;have h':(M0 p.Nq d.Pt d.To).length<=200:=h;rw[if_pos h',if_pos h,if_neg (by simp)];dsimp only;unfold srvP;cases hc:pP p F d fit with
 | nil =>
  rw[if_pos (by simp),GH,if_pos rfl,jw (by omega) p hB]
  rfl
 | cons x l =>
  have hx:=me hp (fmtF hok) (demF hd) (fit:=fit) (x:=x) (by rw[hc]; exact Hp ..)
  have hsh:=hx.rb.short
  rw[if_neg (by simp; omega),GH]
  dsimp only
  by_cases h12:p.Nk.length=12
  · rw[if_pos (by rw[beq_iff_eq]; omega),if_pos h12,jw (by omega) p hB]
    rfl
  · rw[if_neg (by rw[beq_iff_eq]; omega),if_neg h12,show (0:Int)=((0:Nat):Int) from rfl,vP (by simp),GH,sv (by omega) hp,GH]
    have:=nZ (fu:=fu) (by omega) p (newL p x) hB (by show x.Nz.Nw.length<=_; omega)
    rw[show ({ Id:=fidS p.Nk 1,Nz:=((x::l)[0]).Nz,Nj:=((x::l)[0]).Nj }:Nx)=newL p x from rfl,this]
    rfl
 have h':¬(M0 p.Nq d.Pt d.To).length<=200:=h;rw[if_neg h',if_neg h]; rfl
structure SvS where
 p:Nh
 ids:d_
 bl:Int
def bR (F:List Ng) (L:List Nd) (fit:Int) (s:SvS) (e:Nat):SvS:=⟨(srvP s.p F (gd L e R0) fit).1,s.ids.set e (srvP s.p F (gd L e R0) fit).2,if (srvP s.p F (gd L e R0) fit).2=0 then s.bl + 1 else s.bl⟩
structure SvI (N:Nq) (L:List Nd) (s:SvS) (k:Nat):Prop where
 ok:x8 s.p=true
 net:s.p.Nq=N
 B:cg s.p
 len:s.ids.length=L.length
 b0:0<=s.bl
 b1:s.bl<=k
theorem SvI.step {N:Nq} {L:List Nd} {s:SvS} {k:Nat} (h:SvI N L s k) {F:List Ng} (hF:FmtF F) (hL:∀d∈L,DemF N d) (fit:Int) {e:Nat} (he:e<L.length):SvI N L (bR F L fit s e) (k + 1):=by
 have hd:DemF s.p.Nq (gd L e R0):=by rw[h.net]; exact hL _ (zx R0 he)
 obtain⟨h1,h2,h3,-⟩:=tm h.ok h.B hF hd fit;have hb0:=h.b0;have hb1:=h.b1;refine⟨h1,h2.trans h.net,h3,by show (s.ids.set _ _).length=_; rw[GK]; exact h.len,?_,?_⟩;show 0<=(if (srvP s.p F (gd L e R0) fit).2=0 then s.bl + 1 else s.bl)
 split <;> omega
 show (if (srvP s.p F (gd L e R0) fit).2=0 then s.bl + 1 else s.bl)<=((k + 1:Nat):Int)
 split <;> omega
def oE:Rq:=⟨BY,[],0⟩
theorem kj {fu:Nat} (hfu:4194306<=fu) {N:Nq} {F:List Ng} (hok:dt F=true) {L:List Nd} (hL:∀d∈L,cH N d=true) (hLl:L.length<=12) (fit:Int) (o:m_) (ho:∀e∈o,e<L.length) (hol:o.length<=100):∀(fk i:Nat) (s:SvS),i<=o.length->o.length - i<fk->SvI N L s i ->
 yp fu F L fit (o.map λj:Nat=>(j:Int)) fk i s.p.Nq.Nv s.p.Nq.Nw s.p.Nk s.ids s.bl=some (if ∀e∈o.drop i,iJ N (gd L e R0) then .next ((o.length:Int),((o.drop i).foldl (bR F L fit) s).p.Nq.Nv,((o.drop i).foldl (bR F L fit) s).p.Nq.Nw,((o.drop i).foldl (bR F L fit) s).p.Nk,((o.drop i).foldl (bR F L fit) s).ids,((o.drop i).foldl (bR F L fit) s).bl) else .ret (oE,false))
 | 0,i,s,hi,hf,h=>by omega
 | fk + 1,i,s,hi,hf,h=>by
  rw[yp]
  by_cases hlt:i<o.length
  · have he:=ho _ (GW hlt)
    have hd:cH N (gd L o[i] R0)=true:=hL _ (zx R0 he)
    have hd':cH s.p.Nq (gd L o[i] R0)=true:=by rw[h.net]; exact hd
    have e1:V_ (o.map λj:Nat=>(j:Int)) (i:Int)=some ((o[i]:Nat):Int):=by
     rw[vP (by simpa using hlt),IF]
    have hlen:=h.len
    have hb0:=h.b0
    have hb1:=h.b1
    rw[if_pos (by simpa using hlt),e1,GH,xC R0 he,GH]
    have es:({ Nq:={ Nv:=s.p.Nq.Nv,Nw:=s.p.Nq.Nw },Nk:=s.p.Nk }:Nh)=s.p:=rfl
    rw[es,Au hfu h.B h.ok hok hd' fit,GH,h.net,<-GU hlt,HO]
    by_cases hr:iJ N (gd L o[i] R0)
    · rw[if_pos hr,if_neg (by simp)]
      dsimp only
      rw[xC 0 (by omega),GH,vV hlt (by omega),Hh]
      have hs:=h.step (fmtF hok) (λd hd=>demF (hL d hd)) fit he
      have ih:=kj hfu hok hL hLl fit o ho hol fk (i + 1) (bR F L fit s o[i]) hlt (by omega) hs
      have hcond:(∀e∈o[i]::o.drop (i + 1),iJ N (gd L e R0))↔∀e∈o.drop (i + 1),iJ N (gd L e R0):=by
       constructor
       · exact λhh e he=>hh e (Hs _ he)
       · intro hh e he
         rcases Hf.1 he with rfl | he
         · exact hr
         · exact hh e he
      simp only[hcond]
      rw[<-ih]
      by_cases hz:(srvP s.p F (gd L o[i] R0) fit).2=0
      · rw[if_pos (by simpa using hz),va (by omega) (by omega)]
        have e4:(bR F L fit s o[i]).bl=s.bl + 1:=if_pos hz
        rw[e4]
        rfl
      · rw[if_neg (by simpa using hz)]
        have e4:(bR F L fit s o[i]).bl=s.bl:=if_neg hz
        rw[e4]
        rfl
    · rw[if_neg hr,if_pos (by simp),if_neg (λhh=>hr (hh _ (Hp ..)))]
      rfl
  · have e:i=o.length:=by omega
    subst e
    rw[if_neg (by simp),Hg,if_pos (λe he=>by simp at he)]
    rfl
theorem jl {fu:Nat} (hfu:2097200<=fu) {N:Nq} {F:List Ng} (hok:dt F=true) {L:List Nd} (hL:∀d∈L,cH N d=true) (hLl:L.length<=12) (fit:Int) (o:m_) (ho:∀e∈o,e<L.length) (hol:o.length<=100):∀(fk i:Nat) (s:SvS),i<=o.length->o.length - i<fk->SvI N L s i ->
 yJ fu F L fit (o.map λj:Nat=>(j:Int)) fk i s.p.Nq.Nv s.p.Nq.Nw s.p.Nk s.ids s.bl=some (if ∀e∈o.drop i,iJ N (gd L e R0) then .next ((o.length:Int),((o.drop i).foldl (bR F L fit) s).p.Nq.Nv,((o.drop i).foldl (bR F L fit) s).p.Nq.Nw,((o.drop i).foldl (bR F L fit) s).p.Nk,((o.drop i).foldl (bR F L fit) s).ids,((o.drop i).foldl (bR F L fit) s).bl) else .ret (oE,false))
 | 0,i,s,hi,hf,h=>by omega
 | fk + 1,i,s,hi,hf,h=>by
  rw[yJ]
  by_cases hlt:i<o.length
  · have he:=ho _ (GW hlt)
    have hd:cH N (gd L o[i] R0)=true:=hL _ (zx R0 he)
    have hd':cH s.p.Nq (gd L o[i] R0)=true:=by rw[h.net]; exact hd
    have e1:V_ (o.map λj:Nat=>(j:Int)) (i:Int)=some ((o[i]:Nat):Int):=by
     rw[vP (by simpa using hlt),IF]
    have hlen:=h.len
    have hb0:=h.b0
    have hb1:=h.b1
    rw[if_pos (by simpa using hlt),e1,GH,xC R0 he,GH]
    have es:({ Nq:={ Nv:=s.p.Nq.Nv,Nw:=s.p.Nq.Nw },Nk:=s.p.Nk }:Nh)=s.p:=rfl
    rw[es,tv hfu h.B h.ok hok hd' fit,GH,h.net,<-GU hlt,HO]
    by_cases hr:iJ N (gd L o[i] R0)
    · rw[if_pos hr,if_neg (by simp)]
      dsimp only
      rw[GH,xC 0 (by omega),GH,vV hlt (by omega),Hh]
      have hs:=h.step (fmtF hok) (λd hd=>demF (hL d hd)) fit he
      have ih:=jl hfu hok hL hLl fit o ho hol fk (i + 1) (bR F L fit s o[i]) hlt (by omega) hs
      have hcond:(∀e∈o[i]::o.drop (i + 1),iJ N (gd L e R0))↔∀e∈o.drop (i + 1),iJ N (gd L e R0):=by
       constructor
       · exact λhh e he=>hh e (Hs _ he)
       · intro hh e he
         rcases Hf.1 he with rfl | he
         · exact hr
         · exact hh e he
      simp only[hcond]
      rw[<-ih]
      by_cases hz:(srvP s.p F (gd L o[i] R0) fit).2=0
      · rw[if_pos (by simpa using hz),va (by omega) (by omega)]
        have e4:(bR F L fit s o[i]).bl=s.bl + 1:=if_pos hz
        rw[e4]
        rfl
      · rw[if_neg (by simpa using hz)]
        have e4:(bR F L fit s o[i]).bl=s.bl:=if_neg hz
        rw[e4]
        rfl
    · rw[if_neg hr,if_pos (by simp),if_neg (λhh=>hr (hh _ (Hp ..)))]
      rfl
  · have e:i=o.length:=by omega
    subst e
    rw[if_neg (by simp),Hg,if_pos (λe he=>by simp at he)]
    rfl
def nF (p:Nh) (L:List Nd):SvS:=⟨p,List.replicate L.length 0,0⟩
def Ao (p:Nh) (F:List Ng) (L:List Nd) (fit:Int) (o:m_):SvS:=o.foldl (bR F L fit) (nF p L)
def rJ (p:Nh) (F:List Ng) (L:List Nd) (fit:Int) (o:m_):Rq×Bool:=if ∀e∈o,iJ p.Nq (gd L e R0) then (⟨(Ao p F L fit o).p,(Ao p F L fit o).ids,(Ao p F L fit o).bl⟩,true) else (oE,false)
variable {L:List Nd}
theorem oL (hp:x8 p=true) (hB:cg p) (L:List Nd):SvI p.Nq L (nF p L) 0:=⟨hp,rfl,hB,IC,Iz _,Iz _⟩
theorem rP {fu:Nat} (hfu:4194306<=fu) {p:Nh} (hB:cg p) (hp:x8 p=true) {F:List Ng} (hok:dt F=true) {L:List Nd} (hL:∀d∈L,cH p.Nq d=true) (hLl:L.length<=12) (fit:Int) (o:m_) (ho:∀e∈o,e<L.length) (hol:o.length<=100):dU fu p F L fit (o.map λj:Nat=>(j:Int))=some (rJ p F L fit o):=by
 unfold dU;have hmk:mk (0:Int) (L.length:Int)=some (List.replicate L.length 0):=by
  unfold mk
  rw[if_pos ⟨by omega,by omega⟩,Hh]
 rw[gw (by omega) p hB,GH,hmk,GH];have h:=kj hfu hok hL hLl fit o ho hol fu 0 (nF p L) (by omega) (by omega) (oL hp hB L);rw[He]at h;have h':yp fu F L fit (o.map λj:Nat=>(j:Int)) fu 0 p.Nq.Nv p.Nq.Nw p.Nk (List.replicate L.length 0) 0=_:=h;rw[h',GH];unfold rJ;by_cases hr:∀e∈o,iJ p.Nq (gd L e R0);rw[if_pos hr,if_pos hr]; rfl;rw[if_neg hr,if_neg hr]; rfl
theorem qk {fu:Nat} (hfu:2097200<=fu) {p:Nh} (hB:cg p) (hp:x8 p=true) {F:List Ng} (hok:dt F=true) {L:List Nd} (hL:∀d∈L,cH p.Nq d=true) (hLl:L.length<=12) (fit:Int) (o:m_) (ho:∀e∈o,e<L.length) (hol:o.length<=100):eF fu p F L fit (o.map λj:Nat=>(j:Int))=some (rJ p F L fit o):=by
 unfold eF;have hmk:mk (0:Int) (L.length:Int)=some (List.replicate L.length 0):=by
  unfold mk
  rw[if_pos ⟨by omega,by omega⟩,Hh]
 rw[jw (by omega) p hB,GH,hmk,GH];have h:=jl hfu hok hL hLl fit o ho hol fu 0 (nF p L) (by omega) (by omega) (oL hp hB L);rw[He]at h;have h':yJ fu F L fit (o.map λj:Nat=>(j:Int)) fu 0 p.Nq.Nv p.Nq.Nw p.Nk (List.replicate L.length 0) 0=_:=h;rw[h',GH];unfold rJ;by_cases hr:∀e∈o,iJ p.Nq (gd L e R0);rw[if_pos hr,if_pos hr]; rfl;rw[if_neg hr,if_neg hr]; rfl
theorem sD {N:Nq} (h:eS N L=true):cE N=true/\L.length<=12/\∀d∈L,cH N d=true:=by
 unfold eS at h;simp only[GP,decide_eq_true_eq,HH]at h;exact⟨h.1,h.2.1,h.2.2⟩
theorem Dp {F:List Ng} {fit:Int} (h:lw p F L fit=true):x8 p=true/\dt F=true/\eS p.Nq L=true:=by
 unfold lw at h;simp only[GP]at h;exact⟨h.1,h.2.1,h.2.2.1⟩
end AT
namespace AT
end AT
namespace AT
def cnt (f:Int) (y:Nx):Nat:=if has y.Nz.Nw f=true then y.Nj.Pz.toNat else 0
end AT
namespace AT
def minC (n:Nq) (F:List Ng) (d:Nd):Int:=match srtC (Z0 n F d) with
 | []=>0
 | c::_=>gI c
theorem tn {l:List Px} {c:Px} {t:List Px} (h:srtC l=c::t):∀x∈l,gI c<=gI x:=by
 intro x hx;unfold srtC at h;cases hs:ze (keyC l) l.length with
 | nil=>rw[hs]at h; cases h
 | cons i is =>
  rw[hs,HX,Ho]at h
  obtain⟨h1,-⟩:=h
  subst h1
  obtain⟨j,hj,rfl⟩:=G4.1 hx
  have hm:j∈ze (keyC l) l.length:=(ef _ _).mem_iff.2 (Hv.2 hj)
  have hsr:=eY (keyC l) l.length
  rw[hs]at hm hsr
  have e:l[j]=gd l j T0:=(aU T0 hj).symm
  rw[e]
  rcases Hf.1 hm with rfl | hm
  · exact Iz _
  · have:=(Ia.1 hsr).1 j hm
    unfold T_ keyC at this
    omega
theorem wi {n:Nq} {F:List Ng} {d:Nd} {c:Px} (hc:c∈Z0 n F d):minC n F d<=gI c:=by
 unfold minC;cases hs:srtC (Z0 n F d) with
 | nil =>
  have:=(cn (Z0 n F d)).mem_iff.2 hc
  rw[hs]at this
  cases this
 | cons a t=>exact tn hs c hc
theorem wj {n:Nq} (hn:NetF n) {F:List Ng} (hF:FmtF F) {d:Nd} (hd:DemF n d):0<=minC n F d/\minC n F d<=2400:=by
 unfold minC;cases hs:srtC (Z0 n F d) with
 | nil=>simp
 | cons a t =>
  have ha:a∈Z0 n F d:=(cn _).mem_iff.1 (by rw[hs]; exact Hp ..)
  have hb:=jI hn hF hd ha
  have h1:=hb.c1
  have h2:=hb.c2
  have h3:=hb.rb.short
  exact j7 ⟨by omega,h2⟩ (by omega)
def useL (L:List Nx):Nat:=(L.map λy=>y.Nj.Pz.toNat * y.Nz.Nw.length).sum
theorem Am (L:List Nx) (x:Nx):useL (putL L x)=useL L + x.Nj.Pz.toNat * x.Nz.Nw.length:=by
 unfold useL putL;have e:=congrArg (λl=>(l.map λy:Nx=>y.Nj.Pz.toNat * y.Nz.Nw.length).sum) (Ha (gp L x.Id) L);simp only[I0,List.sum_append,HX,List.sum_cons]at e ⊢;omega
variable {F:List Ng}
theorem C1 {p:Nh} {d:Nd} {x:Nx} (h:ConB p F d x):(⟨x.Nz,x.Nj.Pz⟩:Px)∈Z0 p.Nq F d:=by
 unfold Z0;refine Hr.2 ⟨x.Nz,h.rt,?_⟩;unfold usb1;have h1:=h.c1;have h2:=h.cnt;rw[if_pos (by omega),<-h2];exact GR.2 rfl
theorem Be {p:Nh} {d:Nd} {x:Nx} (h:ConB p F d x):minC p.Nq F d<=((x.Nj.Pz.toNat * x.Nz.Nw.length:Nat):Int):=by
 have h1:=wi (C1 h);have h2:=h.c1;unfold gI at h1;dsimp only at h1;have e:x.Nj.Pz=((x.Nj.Pz.toNat:Nat):Int):=by omega
 rw[Int.natCast_mul,<-e];exact h1
def SatD (N:Nq) (q:Nh) (id:Int) (d:Nd):Prop:=1<=id/\∃y∈q.Nk,y.Id=id/\(zb N y.Nz).isSome=true/\y.Nz.Nt=d.Pt/\endR N y.Nz=d.To
def cz (ids:d_):Nat->Int
 | 0=>0
 | k + 1=>cz ids k + (if gd ids k 0=0 then 1 else 0)
def mins (N:Nq) (F:List Ng) (L:List Nd):Nat->Int
 | 0=>0
 | k + 1=>mins N F L k + minC N F (gd L k R0)
theorem BS (ids:d_) (v:Int) (e:Nat):∀k,k<=e->cz (ids.set e v) k=cz ids k
 | 0,_=>rfl
 | k + 1,h=>by
  have hg:gd (ids.set e v) k 0=gd ids k 0:=by rw[nl,if_neg (by omega)]
  rw[cz,cz,BS ids v e k (by omega),hg]
theorem As {ids:d_} {k:Nat} (h:gd ids k 0=0):ids.set k 0=ids:=by
 by_cases hk:k<ids.length
 · have e:=aU (0:Int) hk
   have:ids[k]=0:=by omega
   conv=>lhs; arg 3; rw[<-this]
   exact List.set_getElem_self hk
 · exact List.set_eq_of_length_le (by omega)
structure SvJ (p:Nh) (F:List Ng) (L:List Nd) (s:SvS) (k:Nat):Prop where
 z:∀j,k<=j->gd s.ids j 0=0
 a:∀j,j<k->gd s.ids j 0=0∨SatD p.Nq s.p (gd s.ids j 0) (gd L j R0)
 rel:s.p.Nk.filter (λx=>!(s.ids.any λi=>i==x.Id))=p.Nk
 bl:s.bl=cz s.ids k
 use:s.bl=0->(useL p.Nk:Int) + mins p.Nq F L k<=(useL s.p.Nk:Int)
theorem sR {ids:d_} {k:Nat} (h:gd ids k 0=0) {v w:Int} (hw:w≠0) (hv:v≠w):((ids.set k v).any λi=>i==w)=ids.any λi=>i==w:=by
 rw[HB,G5,G5];constructor;rintro⟨x,hx,e⟩;rw[beq_iff_eq]at e;rcases IB hx with hx | hx
 exact⟨x,hx,by rw[beq_iff_eq]; exact e⟩;exact absurd (hx.symm.trans e) hv;rintro⟨x,hx,e⟩;rw[beq_iff_eq]at e;obtain⟨j,hj,rfl⟩:=G4.1 hx;have hjk:k≠j:=by
  rintro rfl
  rw[aU (0:Int) hj]at h
  omega
 refine⟨(ids.set k v)[j]'(by rw[GK]; exact hj),GW _,?_⟩;rw[List.getElem_set_ne hjk,beq_iff_eq];exact e
theorem SvJ.step {p:Nh} {L:List Nd} {s:SvS} {k:Nat} (h:SvJ p F L s k) (hI:SvI p.Nq L s k) (hF:FmtF F) (hL:∀d∈L,DemF p.Nq d) (fit:Int) (hk:k<L.length):SvJ p F L (bR F L fit s k) (k + 1):=by
 have hd:DemF s.p.Nq (gd L k R0):=by rw[hI.net]; exact hL _ (zx R0 hk)
 have hz:=h.z k (GV _);have hkl:k<s.ids.length:=by rw[hI.len]; exact hk
 obtain⟨h1,h2,h3,h4⟩:=tm hI.ok hI.B hF hd fit;rcases h4 with ⟨e1,e2⟩ | ⟨hl,i1,i2,x,hx,-,e⟩
 · have es:bR F L fit s k=⟨s.p,s.ids,s.bl + 1⟩:=by
    unfold bR
    rw[e1,e2,if_pos rfl,As hz]
   rw[es]
   refine⟨λj hj=>h.z j (by omega),λj hj=>?_,h.rel,?_,λhb=>?_⟩
   · by_cases hjk:j=k
     · exact .inl (by rw[hjk]; exact hz)
     · exact h.a j (by omega)
   · show s.bl + 1=cz s.ids (k + 1)
     rw[cz,if_pos hz,h.bl]
   · have:=hI.b0
     have hb:s.bl + 1=0:=hb
     omega
 · rw[e]at i1
   have i1:1<=fidS s.p.Nk 1:=i1
   have es:bR F L fit s k=⟨addP s.p (newL s.p x),s.ids.set k (fidS s.p.Nk 1),s.bl⟩:=by
    unfold bR
    rw[e,if_neg (by show fidS s.p.Nk 1≠0; omega)]
   have hnew:=om s.p.Nk 1 (i0 hI.ok) (kT hI.ok)
   have hid1:=kT hI.ok
   obtain⟨x1,x2,x3,x4,x5⟩:=hx.ok hI.ok hd hl
   have hcost:=Be hx
   rw[hI.net]at x3 x5 hcost
   rw[es]
   refine⟨λj hj=>?_,λj hj=>?_,?_,?_,λhb=>?_⟩
   · show gd (s.ids.set k _) j 0=0
     rw[nl,if_neg (by omega)]
     exact h.z j (by omega)
   · show gd (s.ids.set k _) j 0=0∨SatD _ _ (gd (s.ids.set k _) j 0) _
     rw[nl]
     by_cases hjk:k=j
     · rw[if_pos ⟨hjk,by omega⟩]
       subst hjk
       exact .inr ⟨i1,newL s.p x,gm.2 (.inl rfl),rfl,x3,x4,x5⟩
     · rw[if_neg (by omega)]
       rcases h.a j (by omega) with h5 | ⟨h5,y,hy,h6⟩
       · exact .inl h5
       · exact .inr ⟨h5,y,gm.2 (.inr hy),h6⟩
   · show (putL s.p.Nk (newL s.p x)).filter (λx=>!((s.ids.set k (fidS s.p.Nk 1)).any λi=>i==x.Id))=p.Nk
     have hx0:((s.ids.set k (fidS s.p.Nk 1)).any λi=>i==(newL s.p x).Id)=true:=by
      refine G5.2 ⟨fidS s.p.Nk 1,?_,by simp [newL]⟩
      exact G4.2 ⟨k,by rw[GK]; exact hkl,List.getElem_set_self _⟩
     have hot:∀y∈s.p.Nk,(!((s.ids.set k (fidS s.p.Nk 1)).any λi=>i==y.Id))=!(s.ids.any λi=>i==y.Id):=λy hy=>by
      rw[sR hz (by have:=hid1 y hy; omega) (λe=>hnew y hy e.symm)]
     unfold putL
     rw[List.filter_append,Jx,hx0,if_neg (by decide),<-List.filter_append,Ha,<-h.rel]
     exact List.filter_congr hot
   · show s.bl=cz (s.ids.set k (fidS s.p.Nk 1)) (k + 1)
     have hg:gd (s.ids.set k (fidS s.p.Nk 1)) k 0=fidS s.p.Nk 1:=by rw[nl,if_pos ⟨rfl,hkl⟩]
     rw[cz,BS _ _ _ _ (GV _),hg,if_neg (by omega),h.bl]
     omega
   · have h7:=h.use hb
     show _<=((useL (putL s.p.Nk (newL s.p x)):Nat):Int)
     rw[Am,mins]
     have h8:minC p.Nq F (gd L k R0)<=(((newL s.p x).Nj.Pz.toNat * (newL s.p x).Nz.Nw.length:Nat):Int):=hcost
     generalize (newL s.p x).Nj.Pz.toNat * (newL s.p x).Nz.Nw.length=q at h8 ⊢
     omega
end AT
namespace AT
theorem Bd {fu:Nat} {c:Px} (h1:0<=c.count/\c.count<=24) (h2:c.route.Nw.length<=100):xL fu c=some (gI c):=by
 have:=j7 h1 h2;unfold xL;unfold gI at this ⊢;rw[va (by omega) (by omega)]
end AT
namespace AT
def Q2 (n:Nq) (F:List Ng) (d:Nd):Bool:=decide ((M0 n d.Pt d.To).length<=200)&&decide (0<(Z0 n F d).length)
theorem sP {fu:Nat} (hfu:4194306<=fu) {n:Nq} (hnet:cE n=true) (hB:NetB n) {F:List Ng} (hok:dt F=true) {d:Nd} (hd:cH n d=true):∃c,dl fu n F d=some (c,Q2 n F d)/\(Q2 n F d=true->xL fu c=some (minC n F d)):=by
 unfold dl;rw[oJ (by omega) hnet hB hok hd,GH];by_cases h:(M0 n d.Pt d.To).length<=200;have hul:=nE (n:=n) (F:=F) (d:=d);have hm:∀c∈Z0 n F d,ChB n d c:=λc hc=>jI (netF hnet) (fmtF hok) (demF hd) hc;rw[if_pos h,if_neg (by simp)];dsimp only;by_cases hl:0<(Z0 n F d).length;have e:Q2 n F d=true:=by unfold Q2; rw[decide_eq_true h,decide_eq_true hl]; rfl
 cases hsr:srtC (Z0 n F d) with
 | nil =>
  have:=(cn (Z0 n F d)).length_eq
  rw[hsr,HP]at this
  omega
 | cons c t2 =>
  have hc:c∈Z0 n F d:=(cn _).mem_iff.1 (by rw[hsr]; exact Hp ..)
  have hb:=hm c hc
  have b1:=hb.c1
  have b2:=hb.c2
  have b3:=hb.rb.short
  rw[e]
  refine⟨c,?_,λ_=>?_⟩
  · have hne:(((Z0 n F d).length:Int)==0)=false:=by rw[beq_eq_false_iff_ne]; omega
    rw[GH,hne,if_neg (by decide),pU hfu (λc hc=>⟨⟨by have:=(hm c hc).c1; omega,(hm c hc).c2⟩,by have:=(hm c hc).rb.short; omega⟩) (by omega),GH,hsr]
    rfl
  · rw[Bd ⟨by omega,b2⟩ (by omega)]
    unfold minC
    rw[hsr]
 have e:Q2 n F d=false:=by unfold Q2; rw[decide_eq_false hl,Bool.and_false]
 have hne:(((Z0 n F d).length:Int)==0)=true:=by rw[beq_iff_eq]; omega
 rw[e];exact⟨_,by rw[GH,hne,if_pos rfl],λh=>by cases h⟩
 have e:Q2 n F d=false:=by unfold Q2; rw[decide_eq_false h,I7]
 rw[if_neg h,e];exact⟨_,rfl,λh=>by cases h⟩
theorem mb {fu:Nat} (hfu:4194306<=fu) {n:Nq} (hnet:cE n=true) (hB:NetB n) {F:List Ng} (hok:dt F=true) {L:List Nd} (hL:∀d∈L,cH n d=true) (hl:L.length<=1000):∀(fk i:Nat) (out:d_),i<=L.length->L.length - i<fk->out.length<=i ->
 zJ fu n F L fk out i=some (if (L.drop i).all (Q2 n F)=true then .next (out++(L.drop i).map (minC n F),(L.length:Int)) else .ret ([],false))
 | 0,i,out,hi,hf,ho=>by omega
 | fk + 1,i,out,hi,hf,ho=>by
  rw[zJ]
  by_cases h:i<L.length
  · obtain⟨c,hc,hcc⟩:=sP hfu hnet hB hok (hL _ (GW h))
    rw[if_pos (by simpa using h),vP h,GH,hc,GH,<-GU h,Jn,HX]
    dsimp only
    cases hk:Q2 n F L[i] with
    | false=>rfl
    | true =>
     rw[if_neg (by decide),hcc hk,GH,yw (by simp; omega),GH,vV h (by omega),mb hfu hnet hB hok hL hl fk (i + 1) (out++[minC n F L[i]]) h (by omega) (by simp; omega),HD,GN]
     rfl
  · have e:i=L.length:=by omega
    subst e
    rw[if_neg (by simp),Hg,IH,G8]
    rfl
def gv (n:Nq) (F:List Ng) (L:List Nd):Bool:=dt F&&(eS n L&&L.all (Q2 n F))
theorem nm {fu:Nat} (hfu:4194306<=fu) {n:Nq} (hB:NetB n) {F:List Ng} (hF:F.length<=7) {L:List Nd} (hL:L.length<=13):cP fu n F L=some (if gv n F L=true then (L.map (minC n F),true) else ([],false)):=by
 unfold cP gv;rw[iw (by omega) F (by omega),ja (by omega) n L hB hL,GH];cases hf:dt F with
 | false=>rfl
 | true =>
  cases hd:eS n L with
  | false=>rfl
  | true =>
   obtain⟨hnet,h12,hdm⟩:=sD hd
   have g:=mb (fu:=fu) hfu hnet hB hf hdm (by omega) fu 0 [] (by omega) (by omega) (by simp)
   rw[show ((0:Nat):Int)=0 from rfl,He,Hi]at g
   rw[if_neg (by decide),GH,GH,if_neg (by decide),g,GH,HD,HD]
   cases L.all (Q2 n F) with
   | false=>rfl
   | true=>rfl
def bIx (l:List Px):Nat->Int
 | 0=>-1
 | i + 1=>if bIx l i<0∨keyC l i<keyC l (bIx l i).toNat then (i:Int) else bIx l i
theorem oA (l:List Px):∀i,0<i->∃j:Nat,bIx l i=(j:Int)/\j<i/\∀q,q<i->keyC l j<=keyC l q
 | 0,h=>by omega
 | i + 1,_=>by
  rw[bIx]
  by_cases hi:i=0
  · subst hi
    refine⟨0,by rw[bIx,if_pos (.inl (by decide))],by omega,λq hq=>?_⟩
    rw[show q=0 by omega]
    exact Iz _
  · obtain⟨j,e,hj,hm⟩:=oA l i (by omega)
    rw[e,Hh]
    by_cases hc:keyC l i<keyC l j
    · refine⟨i,if_pos (.inr hc),by omega,λq hq=>?_⟩
      by_cases hqi:q=i
      · rw[hqi]; exact Iz _
      · have:=hm q (by omega); omega
    · refine⟨j,if_neg (by omega),by omega,λq hq=>?_⟩
      by_cases hqi:q=i
      · rw[hqi]; omega
      · exact hm q (by omega)
theorem Eu (l:List Px) (i:Nat):bIx l i<0∨∃j:Nat,bIx l i=(j:Int)/\j<i:=by
 by_cases h:i=0;subst h; exact .inl (by rw[bIx]; decide);obtain⟨j,e,hj,-⟩:=oA l i (by omega);exact .inr ⟨j,e,hj⟩
theorem mi {fu:Nat} (l:List Px) (hl:∀c∈l,(0<=c.count/\c.count<=24)/\c.route.Nw.length<=100) (hll:l.length<=1000):∀(fk i:Nat),i<=l.length->l.length - i<fk->∃z,vT fu (l.map (·.route)) (l.map (·.count)) fk (bIx l i) i=some (bIx l l.length,z)
 | 0,i,hi,hf=>by omega
 | fk + 1,i,hi,hf=>by
  rw[vT]
  by_cases h:i<l.length
  · have e2:∀j:Nat,j<l.length->V_ (l.map (·.count)) (j:Int)=some (gd l j T0).count:=λj hj=>by
     rw[xC 0 (by simpa using hj),ig (·.count) T0 0 hj]
    have e3:∀j:Nat,j<l.length->V_ (l.map (·.route)) (j:Int)=some (gd l j T0).route:=λj hj=>by
     rw[xC rt0 (by simpa using hj),ig (·.route) T0 rt0 hj]
    have e4:∀j:Nat,j<l.length->y_ ((gd l j T0).count * ((gd l j T0).route.Nw.length:Int))=keyC l j:=λj hj=>by
     have:=j7 (hl _ (zx T0 hj)).1 (hl _ (zx T0 hj)).2
     unfold gI at this
     exact va (by omega) (by omega)
    obtain⟨z,hz⟩:=mi (fu:=fu) l hl hll fk (i + 1) h (by omega)
    refine⟨z,?_⟩
    rw[<-hz,if_pos (by simpa using h),vV h (by omega),bIx]
    rcases Eu l i with hb | ⟨j,hb,hj⟩
    · rw[decide_eq_true hb,if_pos rfl,GH,if_pos rfl,if_pos (.inl hb)]
    · have hn:¬bIx l i<0:=by omega
      have hjl:j<l.length:=by omega
      rw[decide_eq_false hn,if_neg (by decide),e2 _ h,GH,e3 _ h,GH,hb,e2 _ hjl,GH,e3 _ hjl,GH,GH,e4 _ h,e4 _ hjl,Hh]
      by_cases hc:keyC l i<keyC l j
      · rw[decide_eq_true hc,if_pos rfl,if_pos (.inr hc)]
      · rw[decide_eq_false hc,if_neg (by decide),if_neg (by omega)]
  · have e:i=l.length:=by omega
    subst e
    rw[if_neg (by simp)]
    exact⟨_,rfl⟩
theorem w8 {fu:Nat} (hfu:4194306<=fu) {n:Nq} (hnet:cE n=true) (hB:NetB n) {F:List Ng} (hF:F.length<=7) (hok:dt F=true) {d:Nd} (hd:cH n d=true):∃r k,ak fu n F d=some (r,k,Q2 n F d)/\(Q2 n F d=true->y_ (k * (r.Nw.length:Int))=minC n F d):=by
 have hn:=netF hnet;unfold ak cd;rw[fM (by omega) n hB,hnet,GH,if_neg (by decide),jL (by omega) F hF,hok,GH,if_neg (by decide),mR fu n d (by have:=hn.hi; omega),hd,GH,GH,if_neg (by decide),mQ (by omega) hn (fmtF hok) (demF hd),GH];by_cases h:(M0 n d.Pt d.To).length<=200;have hul:=nE (n:=n) (F:=F) (d:=d);have hm:∀c∈Z0 n F d,ChB n d c:=λc hc=>jI hn (fmtF hok) (demF hd) hc;have hm2:∀c∈Z0 n F d,(0<=c.count/\c.count<=24)/\c.route.Nw.length<=100:=λc hc=>⟨⟨by have:=(hm c hc).c1; omega,(hm c hc).c2⟩,by have:=(hm c hc).rb.short; omega⟩;rw[if_pos h];dsimp only;rw[GH];dsimp only;unfold bA;obtain⟨z,hz⟩:=mi (fu:=fu) (Z0 n F d) hm2 (by omega) fu 0 (by omega) (by omega);have hz':vT fu ((Z0 n F d).map (·.route)) ((Z0 n F d).map (·.count)) fu (-1) 0=some (bIx (Z0 n F d) (Z0 n F d).length,z):=hz
 rw[hz',GH,GH,if_neg (by simp),GH];dsimp only;by_cases hl:0<(Z0 n F d).length;have e:Q2 n F d=true:=by unfold Q2; rw[decide_eq_true h,decide_eq_true hl]; rfl
 obtain⟨j,hb,hj,hmin⟩:=oA (Z0 n F d) _ hl;rw[hb,decide_eq_false (by omega),if_neg (by decide),xC rt0 (by simpa using hj),ig (·.route) T0 rt0 hj,GH,xC 0 (by simpa using hj),ig (·.count) T0 0 hj,GH,e]
 refine⟨_,_,rfl,λ_=>?_⟩;have hc:=zx T0 hj;have hin:=j7 (hm2 _ hc).1 (hm2 _ hc).2;have h1:=wi hc;have h2:gI (gd (Z0 n F d) j T0)<=minC n F d:=by
  unfold minC
  cases hsr:srtC (Z0 n F d) with
  | nil =>
   have:=(cn (Z0 n F d)).length_eq
   rw[hsr,HP]at this
   omega
  | cons c t2 =>
   have hcm:c∈Z0 n F d:=(cn _).mem_iff.1 (by rw[hsr]; exact Hp ..)
   obtain⟨q,hq,rfl⟩:=G4.1 hcm
   have:=hmin q hq
   unfold keyC at this
   rwa [aU T0 hq]at this
 unfold gI at h1 h2 hin;rw[va (by omega) (by omega)];omega;have e:Q2 n F d=false:=by unfold Q2; rw[decide_eq_false hl,Bool.and_false]
 have hb:bIx (Z0 n F d) (Z0 n F d).length=-1:=by rw[show (Z0 n F d).length=0 by omega]; rfl
 rw[hb,decide_eq_true (by decide),if_pos rfl,e];exact⟨_,_,rfl,λh=>by cases h⟩
 have e:Q2 n F d=false:=by unfold Q2; rw[decide_eq_false h,I7]
 rw[if_neg h];dsimp only;rw[GH];dsimp only;obtain⟨fk,rfl⟩:∃fk,fu=fk + 1:=⟨fu - 1,by omega⟩;unfold bA;rw[vT,if_neg (by simp),GH,GH,if_pos (by decide),GH,if_pos rfl,e];exact⟨_,_,rfl,λh=>by cases h⟩
theorem mc {fu:Nat} (hfu:4194306<=fu) {n:Nq} (hnet:cE n=true) (hB:NetB n) {F:List Ng} (hF:F.length<=7) (hok:dt F=true) {L:List Nd} (hL:∀d∈L,cH n d=true) (hl:L.length<=1000):∀(fk i:Nat) (out:d_),i<=L.length->L.length - i<fk->out.length<=i ->
 ∃o,yT fu n F L fk out i=some (if (L.drop i).all (Q2 n F)=true then .next (out++(L.drop i).map (minC n F),(L.length:Int)) else .ret (o,false))
 | 0,i,out,hi,hf,ho=>by omega
 | fk + 1,i,out,hi,hf,ho=>by
  rw[yT]
  by_cases h:i<L.length
  · obtain⟨r,k,hc,hcc⟩:=w8 hfu hnet hB hF hok (hL _ (GW h))
    rw[if_pos (by simpa using h),vP h,GH,hc,GH,<-GU h,Jn,HX]
    dsimp only
    cases hk:Q2 n F L[i] with
    | false=>exact⟨out,rfl⟩
    | true =>
     obtain⟨o,g⟩:=mc hfu hnet hB hF hok hL hl fk (i + 1) (out++[minC n F L[i]]) h (by omega) (by simp; omega)
     rw[if_neg (by decide),hcc hk,yw (by simp; omega),GH,vV h (by omega),g,HD,GN]
     exact⟨o,rfl⟩
  · have e:i=L.length:=by omega
    subst e
    rw[if_neg (by simp),Hg,IH,G8]
    exact⟨[],rfl⟩
theorem wU {fu:Nat} (hfu:4194306<=fu) {n:Nq} (hB:NetB n) {F:List Ng} (hF:F.length<=7) {L:List Nd} (hL:L.length<=13):∃o,db fu n F L=some (if gv n F L=true then (L.map (minC n F),true) else (o,false)):=by
 unfold db gv;rw[jL (by omega) F hF,lq (by omega) n L hB hL,GH];cases hd:eS n L with
 | false=>rw[I7,Bool.and_false]; exact⟨[],rfl⟩
 | true =>
  cases hf:dt F with
  | false=>exact⟨[],rfl⟩
  | true =>
   obtain⟨hnet,h12,hdm⟩:=sD hd
   obtain⟨o,g⟩:=mc (fu:=fu) hfu hnet hB hF hf hdm (by omega) fu 0 [] (by omega) (by omega) (by simp)
   rw[show ((0:Nat):Int)=0 from rfl,He,Hi]at g
   refine⟨o,?_⟩
   rw[if_neg (by decide),GH,GH,if_neg (by decide),g,GH,HD,HD]
   cases L.all (Q2 n F) with
   | false=>rfl
   | true=>rfl
def keyD (C:d_) (i:Nat):Int:=-(gd C i 0)
def ordN (C:d_):m_:=ze (keyD C) C.length
def ordP (C:d_):d_:=(ordN C).map λj:Nat=>(j:Int)
theorem cmpD (fu:Nat) {C:d_} {a b:Nat} (ha:a<C.length) (hb:b<C.length):zc fu (a:Int) (b:Int) C=some (cmpI (gd C b 0) (gd C a 0)):=by
 unfold zc;rw[xC 0 hb,GH,xC 0 ha,GH,fX,GH]
theorem pE {fu:Nat} {C:d_} {l:m_} {x:Nat} {s:d_} (hl:∀i∈l,i<C.length) (hx:x<C.length) (hll:l.length<=1000):∀(k fk:Nat),k<=l.length->k<fk ->
 ∃z,uK fu 0 C fk (((l.take k++x::l.drop k).map λj:Nat=>(j:Int))++s) (k:Int)=some (((l.take (stN (keyD C) l x k)++x::l.drop (stN (keyD C) l x k)).map λj:Nat=>(j:Int))++s,z)
 | 0,fk,hk,hf=>by
  obtain⟨fk,rfl⟩:∃k,fk=k + 1:=⟨fk - 1,by omega⟩
  rw[uK,if_neg (by simp),GH,if_neg (by decide)]
  exact⟨_,rfl⟩
 | k + 1,fk,hk,hf=>by
  obtain⟨fk,rfl⟩:∃k,fk=k + 1:=⟨fk - 1,by omega⟩
  have hkl:k<l.length:=by omega
  have hg:=hl _ (zx 0 hkl)
  have e0:l.take (k + 1)=l.take k++[gd l k 0]:=by rw[Js,GM hkl,aU 0 hkl]; rfl
  have e1:l.drop k=gd l k 0::l.drop (k + 1):=by rw[<-GU hkl,aU 0 hkl]
  have hlen:(l.take k).length=k:=by rw[GO]; omega
  have d1:∀u v:Int,((l.take k).map (λj:Nat=>(j:Int))++[u])++v::((l.drop (k + 1)).map (λj:Nat=>(j:Int))++s)=(l.take k).map (λj:Nat=>(j:Int))++u::(v::((l.drop (k + 1)).map (λj:Nat=>(j:Int))++s)):=λu v=>by simp
  have d0:((l.take (k + 1)++x::l.drop (k + 1)).map λj:Nat=>(j:Int))++s=((l.take k).map (λj:Nat=>(j:Int))++[((gd l k 0:Nat):Int)])++(x:Int)::((l.drop (k + 1)).map (λj:Nat=>(j:Int))++s):=by rw[e0]; simp
  have d2:((l.take k++x::l.drop k).map λj:Nat=>(j:Int))++s=((l.take k).map (λj:Nat=>(j:Int))++[(x:Int)])++((gd l k 0:Nat):Int)::((l.drop (k + 1)).map (λj:Nat=>(j:Int))++s):=by rw[e1]; simp
  have hp1:∀u:Int,k + 1=((l.take k).map (λj:Nat=>(j:Int))++[u]).length:=λu=>by simp; omega
  have hp0:k=((l.take k).map (λj:Nat=>(j:Int))).length:=by simp; omega
  have hw:y_ (((k + 1:Nat):Int) - 1)=(k:Int):=qc (by omega) (by omega)
  rw[uK,if_pos (by simp),hw,d0,bZ (hp1 _),GH,d1,bZ hp0,GH,cmpD fu hx hg,GH,GH,stN]
  have hc0:(cmpI (gd C (gd l k 0) 0) (gd C x 0)<0)↔keyD C (gd l k 0) > keyD C x:=by rw[dq]; unfold keyD; omega
  by_cases hc:keyD C (gd l k 0) > keyD C x
  · rw[decide_eq_true (hc0.2 hc),if_pos rfl,GH,<-d1,GH,GH,set_mid (hp1 _),d1,bZ hp0,GH,set_mid hp0,<-d1,<-d2,if_pos hc]
    exact pE hl hx hll k fk (by omega) (by omega)
  · rw[decide_eq_false (mt hc0.1 hc),if_neg (by decide),if_neg hc,<-d1,<-d0]
    exact⟨_,rfl⟩
theorem rn {fu:Nat} (hfu:4194306<=fu) {C:d_} (hC:C.length<=1000):∀(fk i:Nat),1<=i->i<=C.length->C.length - i<fk->∃z,uA fu 0 (C.length:Int) C fk ((ze (keyD C) i).map (λj:Nat=>(j:Int))++((List.range C.length).drop i).map (λj:Nat=>(j:Int))) (i:Int)=some (ordP C,z)
 | 0,i,h1,hi,hf=>by omega
 | fk + 1,i,h1,hi,hf=>by
  rw[uA]
  by_cases h:i<C.length
  · have e:(List.range C.length).drop i=i::(List.range C.length).drop (i + 1):=by
     rw[<-GU (by rw[Hx]; exact h),HR]
    have hlen:=gO (keyD C) i
    have e2:(ze (keyD C) i).map (λj:Nat=>(j:Int))++((List.range C.length).drop i).map (λj:Nat=>(j:Int))=(((ze (keyD C) i).take i++i::(ze (keyD C) i).drop i).map λj:Nat=>(j:Int))++((List.range C.length).drop (i + 1)).map (λj:Nat=>(j:Int)):=by
     rw[e,HV (Nat.le_of_eq hlen),HI (Nat.le_of_eq hlen)]; simp
    obtain⟨z,hz⟩:=pE (fu:=fu) (C:=C) (l:=ze (keyD C) i) (x:=i) (s:=((List.range C.length).drop (i + 1)).map (λj:Nat=>(j:Int))) (λj hj=>JZ (f7 hj) h) h (by omega) i fu (by omega) (by omega)
    rw[if_pos (by simpa using h),e2,hz,GH,vV h (by omega)]
    obtain⟨z2,hz2⟩:=rn hfu hC fk (i + 1) (by omega) h (by omega)
    refine⟨z2,?_⟩
    rw[<-hz2]
    show uA fu 0 (C.length:Int) C fk _ _=_
    have e3:ze (keyD C) (i + 1)=(ze (keyD C) i).take (stN (keyD C) (ze (keyD C) i) i i)++i::(ze (keyD C) i).drop (stN (keyD C) (ze (keyD C) i) i i):=by
     rw[ze,oP,hlen]
    rw[e3]
  · have e:i=C.length:=by omega
    subst e
    rw[if_neg (by simp),HI (by rw[Hx]; omega),IH,G8]
    exact⟨_,rfl⟩
theorem Aq {fu:Nat} (hfu:4194306<=fu) {C:d_} (hC:C.length<=13):u3 fu ((List.range C.length).map λj:Nat=>(j:Int)) C=some (ordP C):=by
 obtain⟨fk,hfk⟩:∃k,fu=k + 1:=⟨fu - 1,by omega⟩;have hins:uY fu ((List.range C.length).map λj:Nat=>(j:Int)) 0 (C.length:Int) C=some (ordP C):=by
  unfold uY
  rw[show y_ (0 + 1)=((1:Nat):Int) from rfl]
  by_cases h0:C.length=0
  · have:C=[]:=G6 h0
    subst this
    rw[hfk,uA,if_neg (by simp)]
    rfl
  · obtain⟨z,hz⟩:=rn (fu:=fu) hfu (C:=C) (by omega) fu 1 (GV _) (by omega) (by omega)
    have e:(ze (keyD C) 1).map (λj:Nat=>(j:Int))++((List.range C.length).drop 1).map (λj:Nat=>(j:Int))=(List.range C.length).map λj:Nat=>(j:Int):=by
     rw[<-I0]
     congr 1
     obtain⟨m,hm⟩:∃m,C.length=m + 1:=⟨C.length - 1,by omega⟩
     rw[hm,List.range_succ_eq_map]
     rfl
    rw[<-e,hz,GH]
 have hl:((List.range C.length).map λj:Nat=>(j:Int)).length=C.length:=by simp
 unfold u3 vy;rw[hl,hfk,u6,if_neg (by simp; omega),GH];dsimp only;rw[<-hfk,hins,GH,hfk,u5,if_neg (by simp; omega),GH,GH]
theorem na {fu:Nat} (L:List Nd) (hL:L.length<=100):∀(fk i:Nat),i<=L.length->L.length - i<fk->∃z,xv fu L fk ((List.range i).map λj:Nat=>(j:Int)) i=some ((List.range L.length).map λj:Nat=>(j:Int),z)
 | 0,i,hi,hf=>by omega
 | fk + 1,i,hi,hf=>by
  rw[xv]
  by_cases h:i<L.length
  · obtain⟨z,hz⟩:=na (fu:=fu) L hL fk (i + 1) h (by omega)
    rw[if_pos (by simpa using h),yw (by simp; omega),GH,vV h (by omega)]
    refine⟨z,?_⟩
    rw[<-hz,List.range_succ,I0]
    rfl
  · have e:i=L.length:=by omega
    subst e
    rw[if_neg (by simp)]
    exact⟨_,rfl⟩
def cstL (n:Nq) (F:List Ng) (L:List Nd):d_:=L.map (minC n F)
theorem pg {fu:Nat} (hfu:4194306<=fu) {n:Nq} (hB:NetB n) {F:List Ng} (hF:F.length<=7) {L:List Nd} (hL:L.length<=13):zz fu n F L=some (if gv n F L=true then (ordP (cstL n F L),true) else ([],false)):=by
 unfold zz;rw[nm hfu hB hF hL,GH];cases gv n F L with
 | false=>rfl
 | true =>
  obtain⟨z,hz⟩:=na (fu:=fu) L (by omega) fu 0 (by omega) (by omega)
  have hz':xv fu L fu [] 0=some ((List.range L.length).map λj:Nat=>(j:Int),z):=hz
  have hs:=Aq (fu:=fu) hfu (C:=cstL n F L) (by unfold cstL; rw[Hn]; exact hL)
  have hl:(cstL n F L).length=L.length:=by unfold cstL; rw[Hn]
  rw[hl]at hs
  rw[if_pos rfl,if_neg (by simp),hz',GH]
  show (u3 fu _ (cstL n F L)).bind _=_
  rw[hs]
  rfl
theorem nc {fu:Nat} {C:d_} (b:Bool) (o:m_) (ho:∀i∈o,i<C.length) (hol:o.length<=1000) {i:Nat} (hi:i<C.length):∀(k fk:Nat),k<=o.length->k<fk->xu fu (C,b) (o.map λj:Nat=>(j:Int)) (i:Int) fk (k:Int)=some ((stN (keyD C) o i k:Nat):Int)
 | 0,fk,hk,hf=>by
  obtain⟨fk,rfl⟩:∃k,fk=k + 1:=⟨fk - 1,by omega⟩
  rw[xu,if_neg (by simp),GH,if_neg (by simp)]
  rfl
 | k + 1,fk,hk,hf=>by
  obtain⟨fk,rfl⟩:∃k,fk=k + 1:=⟨fk - 1,by omega⟩
  have hw:y_ (((k + 1:Nat):Int) - 1)=(k:Int):=qc (by omega) (by omega)
  have hko:k<o.length:=by omega
  have hj:=ho _ (zx 0 hko)
  have e1:V_ (o.map λj:Nat=>(j:Int)) (k:Int)=some ((gd o k 0:Nat):Int):=by
   rw[xC 0 (by simpa using hko),ig (λj:Nat=>(j:Int)) 0 0 hko]
  rw[xu,if_pos (by simp),hw]
  dsimp only
  rw[e1,GH,xC 0 hj,GH,xC 0 hi,GH,GH,stN]
  by_cases hc:keyD C (gd o k 0) > keyD C i
  · have hc':gd C (gd o k 0) 0<gd C i 0:=by unfold keyD at hc; omega
    rw[decide_eq_true hc',if_pos rfl,if_pos hc]
    exact nc b o ho hol hi k fk (by omega) (by omega)
  · have hc':¬gd C (gd o k 0) 0<gd C i 0:=by unfold keyD at hc; omega
    rw[decide_eq_false hc',if_neg (by decide),if_neg hc]
theorem nf {fu:Nat} (hfu:2097153<=fu) {C:d_} (b:Bool) (hll:C.length<=1000):∀(fk i:Nat),i<=C.length->C.length - i<fk->∃z,xe fu (C,b) fk ((ze (keyD C) i).map λj:Nat=>(j:Int)) i=some (ordP C,z)
 | 0,i,hi,hf=>by omega
 | fk + 1,i,hi,hf=>by
  rw[xe]
  by_cases h:i<C.length
  · have hlen:=gO (keyD C) i
    have hsp:=(kN (keyD C) (ze (keyD C) i) i (ze (keyD C) i).length).1
    rw[if_pos (by simpa using h),Hn,nc (fu:=fu) b (ze (keyD C) i) (λj hj=>JZ (f7 hj) h) (by omega) h _ fu (GV _) (by omega),GH]
    have e1:=oM (l:=(ze (keyD C) i).map λj:Nat=>(j:Int)) (n:=stN (keyD C) (ze (keyD C) i) i (ze (keyD C) i).length) (by rw[Hn]; exact hsp)
    have e2:=oN (l:=(ze (keyD C) i).map λj:Nat=>(j:Int)) (n:=stN (keyD C) (ze (keyD C) i) i (ze (keyD C) i).length) (by rw[Hn]; exact hsp)
    rw[Hn]at e2
    rw[e1,GH,e2,GH,yw (by simp; omega),GH,yw (by simp; omega),GH,yw (by simp; omega),GH,vV h (by omega)]
    obtain⟨z,hz⟩:=nf hfu b hll fk (i + 1) h (by omega)
    refine⟨z,?_⟩
    rw[<-hz,ze,oP]
    congr 1
    simp
  · have e:i=C.length:=by omega
    subst e
    rw[if_neg (by simp)]
    exact⟨_,rfl⟩
theorem tX {fu:Nat} (hfu:4194306<=fu) {n:Nq} (hB:NetB n) {F:List Ng} (hF:F.length<=7) {L:List Nd} (hL:L.length<=13):aK fu n F L=some (if gv n F L=true then (ordP (cstL n F L),true) else ([],false)):=by
 unfold aK;obtain⟨o,g⟩:=wU (fu:=fu) hfu hB hF hL;rw[g,GH];cases gv n F L with
 | false=>rfl
 | true =>
  obtain⟨z,hz⟩:=nf (fu:=fu) (by omega) (C:=cstL n F L) true (by unfold cstL; rw[Hn]; omega) fu 0 (by omega) (by unfold cstL; rw[Hn]; omega)
  have hz':xe fu (cstL n F L,true) fu [] 0=some (ordP (cstL n F L),z):=hz
  rw[if_pos rfl,if_neg (by simp)]
  show (xe fu (cstL n F L,true) fu [] 0).bind _=_
  rw[hz']
  rfl
end AT
