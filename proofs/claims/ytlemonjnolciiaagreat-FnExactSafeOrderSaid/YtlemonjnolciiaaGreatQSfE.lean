/- The difference of two plans, plainly. -/
import Derived.Test.YtlemonjnolciiaaGreatQSf
set_option linter.unusedSimpArgs false
set_option linter.unusedVariables false
namespace AT
theorem d6 {α β:Type} (L:List α) (c:α→Bool) (f:α→β) (G:Nat→List β→Int→Option (List β×Int)) (hL:L.length≤2097152)
    (hG:∀fk (i:Nat) o (h:i<L.length),o.length≤10000000→G (fk + 1) o i=if c L[i]=true then G fk (o++[f L[i]]) (w64 ((i:Int) + 1)) else G fk o (w64 ((i:Int) + 1)))
    (hz:∀fk o,G (fk + 1) o L.length=some (o,(L.length:Int))):∀(fk i:Nat) (o:List β),i≤L.length→L.length - i<fk→o.length + (L.length - i)≤10000000→G fk o i=some (o++((L.drop i).filter c).map f,(L.length:Int)):=by
 intro fk;induction fk with
 | zero=>intro i _ _ h; omega
 | succ fk ih =>
   intro i o hi hk ho
   by_cases h:i<L.length
   · rw[hG fk i o h (by omega),xa h (by omega),←sL h,w7]
     by_cases hc:c L[i]=true
     · rw[if_pos hc,if_pos hc,ih (i + 1) (o++[f L[i]]) h (by omega) (by rw[sJ,sY]; omega),sE]
       rfl
     · rw[if_neg hc,if_neg hc,ih (i + 1) o h (by omega) (by omega)]
   · obtain rfl:i=L.length:=by omega
     rw[hz,tr]
     simp
def eR (a b:Nk) (i:Nat):Bool:=!((gd a.Ng i nm0).toList==(gd b.Ng i nm0).toList)
def jF (a b:Nk) (i:Nat):Bool:=!(([(gd a.Nq i f0).A,(gd a.Nq i f0).B,(gd a.Nq i f0).Nt,(gd a.Nq i f0).Pj]:List Int)==([(gd b.Nq i f0).A,(gd b.Nq i f0).B,(gd b.Nq i f0).Nt,(gd b.Nq i f0).Pj]:List Int))
def ep (a b:Nk):Bool:=decide (a.Ng.length=b.Ng.length)&&(decide (a.Nq.length=b.Nq.length)&&(!(List.range a.Ng.length).any (eR a b)&&!(List.range a.Nq.length).any (jF a b)))
theorem mm {α β:Type} (a:List α) (b:List β):((a.length:Int) != (b.length:Int))=!decide (a.length=b.length):=by
 rw[tg];simp only[bne_iff_ne,ne_eq,tu,decide_eq_false_iff_not];omega
theorem fp {fu:Nat} (hfu:2097153≤fu) (a b:Nk) (ha:NetB a):xV fu a b=some (ep a b):=by
 have h1:=ha.1.1;have h2:=ha.2;unfold xV ep vM ve;rw[mm,mm];by_cases e1:a.Ng.length=b.Ng.length;rw[vY (l:=List.range a.Ng.length) (G:=uH fu a.Ng b.Ng) (eR a b) (λ_=>false) (by simp; omega)
   (λfk i hi=>by
     have hi':i<a.Ng.length:=by simpa using hi
     have h':(i:Int)<(a.Ng.length:Int):=by omega
     rw[uH,tm]
     simp only[h',decide_true,if_true,vV nm0 hi',vV nm0 (show i<b.Ng.length by omega),ss,eR]
     rfl)
   (λfk=>by rw[tf,uH,if_neg (by simp)]) fu (by simp; omega)]
 by_cases e2:a.Nq.length=b.Nq.length;rw[vY (l:=List.range a.Nq.length) (G:=uq fu a.Nq b.Nq) (jF a b) (λ_=>false) (by simp; omega)
   (λfk i hi=>by
     have hi':i<a.Nq.length:=by simpa using hi
     have h':(i:Int)<(a.Nq.length:Int):=by omega
     rw[uq,tm]
     simp only[h',decide_true,if_true,vV f0 hi',vV f0 (show i<b.Nq.length by omega),ss,jF]
     rfl)
   (λfk=>by rw[tf,uq,if_neg (by simp)]) fu (by simp; omega)]
 rw[decide_eq_true e1,decide_eq_true e2];cases (List.range a.Ng.length).any (eR a b) <;> cases (List.range a.Nq.length).any (jF a b) <;> rfl
 rw[decide_eq_true e1,decide_eq_false e2];cases (List.range a.Ng.length).any (eR a b) <;> rfl
 rw[decide_eq_false e1];rfl
theorem gB {fu:Nat} (hfu:2097153≤fu) (p q:Nd) (ha:NetB p.Nk):yo fu p q=some (ep p.Nk q.Nk):=by
  have h1:=ha.1.1;have h2:=ha.2;obtain⟨fk,rfl⟩:∃fk,fu=fk + 1:=⟨fu - 1,by omega⟩;unfold yo b7 ep;simp only[mm];by_cases e1:p.Nk.Ng.length=q.Nk.Ng.length
  · by_cases e2:p.Nk.Nq.length=q.Nk.Nq.length
    · rw[vY (l:=List.range p.Nk.Ng.length) (G:=xu (fk + 1) ({ Nk:=p.Nk,Nv:=[] }:Nd) ({ Nk:=q.Nk,Nv:=[] }:Nd)) (eR p.Nk q.Nk) (λ_=>false) (by simp; omega)
        (λfk' i hi=>by
          have hi':i<p.Nk.Ng.length:=by simpa using hi
          have h':(i:Int)<(p.Nk.Ng.length:Int):=by omega
          rw[xu,tm]
          simp only[h',decide_true,if_true,vV nm0 hi',vV nm0 (show i<q.Nk.Ng.length by omega),ss,eR]
          rfl)
        (λfk'=>by rw[tf,xu,if_neg (by simp)]) (fk + 1) (by simp; omega)]
      rw[vY (l:=List.range p.Nk.Nq.length) (G:=xt (fk + 1) ({ Nk:=p.Nk,Nv:=[] }:Nd) ({ Nk:=q.Nk,Nv:=[] }:Nd)) (jF p.Nk q.Nk) (λ_=>false) (by simp; omega)
        (λfk' i hi=>by
          have hi':i<p.Nk.Nq.length:=by simpa using hi
          have h':(i:Int)<(p.Nk.Nq.length:Int):=by omega
          rw[xt,tm]
          simp only[h',decide_true,if_true,vV f0 hi',vV f0 (show i<q.Nk.Nq.length by omega),ss,jF]
          rfl)
        (λfk'=>by rw[tf,xt,if_neg (by simp)]) (fk + 1) (by simp; omega)]
      have h3:xZ (fk + 1) ({ Nk:=p.Nk,Nv:=[] }:Nd) ({ Nk:=q.Nk,Nv:=[] }:Nd) (fk + 1) 0=some (.next 0):=by
        rw[xZ,if_neg (by simp)]
      rw[h3,decide_eq_true e1,decide_eq_true e2]
      cases (List.range p.Nk.Ng.length).any (eR p.Nk q.Nk) <;> cases (List.range p.Nk.Nq.length).any (jF p.Nk q.Nk) <;> rfl
    · rw[decide_eq_true e1,decide_eq_false e2]
      rfl
  · rw[decide_eq_false e1]
    rfl
def remL (p q:Nd):List Nh:=(p.Nv.filter λx=>!has_ q x.Id).map λx=>⟨2,x⟩
def movL (p q:Nd) (L:List Nw):List Nh:=(L.filter λx=>has_ p x.Id&&!decide (gd p.Nv (atId p.Nv x.Id) l0=x)).map λx=>⟨3,x⟩
def addL (p q:Nd) (L:List Nw):List Nh:=(L.filter λx=>!has_ p x.Id).map λx=>⟨1,x⟩
variable {fu:Nat} {p q:Nd} {L:List Nw}
theorem d5 (hfu:2097153≤fu) (q:Nd) (id:Int) (hq:q.Nv.length≤2097152):∃y,xG fu q id=some y∧xU fu q id=some y∧decide (y<0)=!has_ q id∧decide (y≥0)=has_ q id∧(has_ q id=true→y=((atId q.Nv id:Nat):Int)∧atId q.Nv id<q.Nv.length):=by
 rw[f4 q id (by omega) hq,eq q id (by omega) hq];cases hh:has_ q id
 have hh':(q.Nv.any λy=>y.Id==id)=false:=hh;rw[hh'];exact⟨_,rfl,rfl,rfl,rfl,λh=>by cases h⟩
 have hh':(q.Nv.any λy=>y.Id==id)=true:=hh;rw[hh'];exact⟨_,rfl,rfl,by simp,by simp,λ_=>⟨rfl,bN hh'⟩⟩
theorem jv (hfu:2097153≤fu) (p q:Nd) (hp:yS p) (hq:yS q) (sp:p.Nv.length≤12) (sq:q.Nv.length≤12):xR fu p q=some (remL p q++(movL p q q.Nv++addL p q q.Nv)):=by
 unfold xR;have g1:=d6 p.Nv (λx=>!has_ q x.Id) (λx=>(⟨2,x⟩:Nh)) (uV fu p q) hp.2.1
   (λfk i o h ho=>by
     have h':(i:Int)<(p.Nv.length:Int):=by omega
     obtain⟨y,y1,-,y3,-⟩:=d5 hfu q p.Nv[i].Id hq.2.1
     have ha:app o [(⟨2,p.Nv[i]⟩:Nh)]=some (o++[(⟨2,p.Nv[i]⟩:Nh)]):=zx (by rw[sY]; omega)
     rw[uV]
     simp only[h',decide_true,if_true,vG h,ss,y1,y3,cI fu _ (hp.2.2 _ (s9 h)),ha])
   (λfk o=>by rw[uV,if_neg (by simp)]) fu 0 [] (by omega) (by omega) (by simp; omega)
 rw[show ((0:Nat):Int)=0 from rfl,tx,tA]at g1;rw[g1,ss];have hr:(remL p q).length≤12:=by
   unfold remL
   rw[tJ]
   exact tL (wH _ _) sp
 have g2:=d6 q.Nv (λx=>has_ p x.Id&&!decide (gd p.Nv (atId p.Nv x.Id) l0=x)) (λx=>(⟨3,x⟩:Nh)) (uR fu p q) hq.2.1
   (λfk i o h ho=>by
     have h':(i:Int)<(q.Nv.length:Int):=by omega
     obtain⟨y,y1,-,-,y4,y5⟩:=d5 hfu p q.Nv[i].Id hp.2.1
     have ha:app o [(⟨3,q.Nv[i]⟩:Nh)]=some (o++[(⟨3,q.Nv[i]⟩:Nh)]):=zx (by rw[sY]; omega)
     rw[uR]
     cases hh:has_ p q.Nv[i].Id
     · rw[hh]at y4
       simp only[h',decide_true,if_true,vG h,ss,y1,y4,sC,if_false,Ae]
     · rw[hh]at y4
       obtain⟨y6,y7⟩:=y5 hh
       subst y6
       simp only[h',decide_true,if_true,vG h,ss,y1,y4,vV l0 y7,gN hfu _ q.Nv[i] (hp.2.2 _ (bB l0 y7)),tR,cI fu _ (hq.2.2 _ (s9 h)),ha])
   (λfk o=>by rw[uR,if_neg (by simp)]) fu 0 (remL p q) (by omega) (by omega) (by omega)
 rw[show ((0:Nat):Int)=0 from rfl,tA]at g2;have g2':uR fu p q fu ((p.Nv.filter λx=>!has_ q x.Id).map λx=>(⟨2,x⟩:Nh)) 0=_:=g2;rw[g2',ss];have hm:(movL p q q.Nv).length≤12:=by
   unfold movL
   rw[tJ]
   exact tL (wH _ _) sq
 have g3:=d6 q.Nv (λx=>!has_ p x.Id) (λx=>(⟨1,x⟩:Nh)) (uO fu p q) hq.2.1
   (λfk i o h ho=>by
     have h':(i:Int)<(q.Nv.length:Int):=by omega
     obtain⟨y,y1,-,y3,-⟩:=d5 hfu p q.Nv[i].Id hp.2.1
     have ha:app o [(⟨1,q.Nv[i]⟩:Nh)]=some (o++[(⟨1,q.Nv[i]⟩:Nh)]):=zx (by rw[sY]; omega)
     rw[uO]
     simp only[h',decide_true,if_true,vG h,ss,y1,y3,cI fu _ (hq.2.2 _ (s9 h)),ha])
   (λfk o=>by rw[uO,if_neg (by simp)]) fu 0 (remL p q++movL p q q.Nv) (by omega) (by omega) (by rw[sJ]; omega)
 rw[show ((0:Nat):Int)=0 from rfl,tA]at g3;have g3':uO fu p q fu (remL p q++(q.Nv.filter λx=>has_ p x.Id&&!decide (gd p.Nv (atId p.Nv x.Id) l0=x)).map λx=>(⟨3,x⟩:Nh)) 0=_:=g3;rw[g3',ss,sE];rfl
theorem mf {x:Nw} :movL p q (x::L)=if (has_ p x.Id&&!decide (gd p.Nv (atId p.Nv x.Id) l0=x))=true then ⟨3,x⟩::movL p q L else movL p q L:=by
 unfold movL;rw[w7];split <;> rfl
theorem m4 {x:Nw} :addL p q (x::L)=if (!has_ p x.Id)=true then ⟨1,x⟩::addL p q L else addL p q L:=by
 unfold addL;rw[w7];split <;> rfl
theorem ni (hfu:2097153≤fu) (p q:Nd) (hp:yS p) (hq:yS q) (sq:q.Nv.length≤12):∀(fk i:Nat) (a m:List Nh),i≤q.Nv.length→q.Nv.length - i<fk→a.length≤i→m.length≤i →
    ∃z,uT fu p q fk a i m=some (a++addL p q (q.Nv.drop i),z,m++movL p q (q.Nv.drop i)):=by
 intro fk;induction fk with
 | zero=>intro i _ _ _ h; omega
 | succ fk ih =>
   intro i a m hi hk ha hm
   rw[uT]
   by_cases h:i<q.Nv.length
   · have h':(i:Int)<(q.Nv.length:Int):=by omega
     obtain⟨y,-,y2,y3,-,y5⟩:=d5 hfu p q.Nv[i].Id hp.2.1
     have h1:app a [(⟨1,q.Nv[i]⟩:Nh)]=some (a++[(⟨1,q.Nv[i]⟩:Nh)]):=zx (by rw[sY]; omega)
     have h3:app m [(⟨3,q.Nv[i]⟩:Nh)]=some (m++[(⟨3,q.Nv[i]⟩:Nh)]):=zx (by rw[sY]; omega)
     rw[←sL h,mf,m4]
     simp only[h',decide_true,if_true,vG h,ss,y2,y3]
     rw[xa h (by omega)]
     cases hh:has_ p q.Nv[i].Id
     · simp only[Bool.not_false,if_true,h1,ss,Ae,sC,if_false]
       obtain⟨z,hz⟩:=ih (i + 1) (a++[(⟨1,q.Nv[i]⟩:Nh)]) m h (by omega) (by rw[sJ,sY]; omega) (by omega)
       exact⟨z,by rw[hz,sE,tQ]⟩
     · obtain⟨y6,y7⟩:=y5 hh
       subst y6
       simp only[ta,sC,if_false,vV l0 y7,dt hfu _ q.Nv[i] (hp.2.2 _ (bB l0 y7)),ss,tR]
       by_cases hc:gd p.Nv (atId p.Nv q.Nv[i].Id) l0=q.Nv[i]
       · simp only[hc,decide_true,ta,sC,if_false]
         exact ih (i + 1) a m h (by omega) (by omega) (by omega)
       · simp only[hc,decide_false,Bool.not_false,if_true,h3,ss]
         obtain⟨z,hz⟩:=ih (i + 1) a (m++[(⟨3,q.Nv[i]⟩:Nh)]) h (by omega) (by omega) (by rw[sJ,sY]; omega)
         exact⟨z,by rw[hz,sE m,tQ]⟩
   · obtain rfl:i=q.Nv.length:=by omega
     rw[if_neg (by simp),tr]
     exact⟨_,by simp [addL,movL]; rfl⟩
theorem nh {i j:Nat} (h:i≤20971520) (h2:j≤20971520):w64 ((i:Int) + (j:Int))=((i + j:Nat):Int):=by rw[vu (by omega) (by omega)]; omega
theorem pe (S:List (List Nh)) (hS:S.length≤10) (hl:∀x∈S,x.length≤2097152):∀(fk i n:Nat),i≤S.length→S.length - i<fk→n≤2097152 * i→∃(m:Nat) (z:Int),uu fu S fk (n:Int) (i:Int)=some ((m:Int),z)∧m≤20971520:=by
 intro fk;induction fk with
 | zero=>intro i _ _ h; omega
 | succ fk ih =>
   intro i n hi hk hn
   rw[uu]
   by_cases h:i<S.length
   · have h':(i:Int)<(S.length:Int):=by omega
     have hx:=hl _ (s9 h)
     have hneg:¬((n + S[i].length:Nat):Int)<0:=by omega
     have k1:n≤20971520:=by omega
     have k2:S[i].length≤20971520:=by omega
     have k3:S.length - (i + 1)<fk:=by omega
     have k4:n + S[i].length≤2097152 * (i + 1):=by omega
     have k5:(S.length:Int)≤9223372036854775807:=by omega
     obtain⟨m,z,r1,r2⟩:=ih (i + 1) (n + S[i].length) h k3 k4
     refine⟨m,z,?_,r2⟩
     rw[←r1]
     have e1:decide ((i:Int)<(S.length:Int))=true:=decide_eq_true h'
     have e2:decide (((n + S[i].length:Nat):Int)<0)=false:=decide_eq_false hneg
     rw[if_pos e1,vG h,ss,nh k1 k2,e2,if_neg tl,xa h k5]
   · obtain rfl:i=S.length:=by omega
     rw[if_neg (by simp)]
     exact⟨n,_,rfl,by omega⟩
theorem pd (S:List (List Nh)) (hS:S.length≤10) (hl:∀x∈S,x.length≤2097152):∀(fk i:Nat) (o:List Nh),i≤S.length→S.length - i<fk→o.length≤2097152 * i→∃z,ut fu S fk o (i:Int)=some (o++(S.drop i).flatten,z):=by
 intro fk;induction fk with
 | zero=>intro i _ _ h; omega
 | succ fk ih =>
   intro i o hi hk hn
   rw[ut]
   by_cases h:i<S.length
   · have h':(i:Int)<(S.length:Int):=by omega
     have hx:=hl _ (s9 h)
     have ha:app o S[i]=some (o++S[i]):=zx (by omega)
     simp only[h',decide_true,if_true,vG h,ss,ha]
     rw[xa h (by omega)]
     obtain⟨z,hz⟩:=ih (i + 1) (o++S[i]) h (by omega) (by rw[sJ]; omega)
     exact⟨z,by rw[hz,←sL h,wt,sE]⟩
   · obtain rfl:i=S.length:=by omega
     rw[if_neg (by simp),tr]
     exact⟨_,by simp; rfl⟩
theorem mQ (hfu:2097153≤fu) (S:List (List Nh)) (hS:S.length≤10) (hl:∀x∈S,x.length≤2097152):uF fu S=some S.flatten:=by
 unfold uF;obtain⟨m,z,h1,h2⟩:=pe (fu:=fu) S hS hl fu 0 0 (by omega) (by omega) (by omega);have h0:((0:Nat):Int)=0:=rfl;rw[h0]at h1;have hg:(mC (m:Int):Option (List Nh))=some []:=by unfold mC; rw[if_pos (by omega)]
 obtain⟨z2,h3⟩:=pd (fu:=fu) S hS hl fu 0 [] (by omega) (by omega) (by simp);rw[h0]at h3;rw[h1,ss,hg,ss,h3,ss,tx,tA]
theorem kj {a:Nh} (h:a∈remL p q++(movL p q q.Nv++addL p q q.Nv)):a.Nw∈p.Nv∨a.Nw∈q.Nv:=by
 rw[su,su]at h;rcases h with h | h | h
 obtain⟨x,hx,rfl⟩:=sS.1 h;exact .inl (wE.1 hx).1;obtain⟨x,hx,rfl⟩:=sS.1 h;exact .inr (wE.1 hx).1;obtain⟨x,hx,rfl⟩:=sS.1 h;exact .inr (wE.1 hx).1
end AT
namespace AT
def Up (L:List Nw):Prop:=L.Pairwise λa b=>a.Id<b.Id
theorem ar {p:Nd} (h:vb p=true):Up p.Nv:=(ej.1 h).2.2.2.imp λh=>h.1
theorem Up.inj:∀{L:List Nw},Up L→∀{x y:Nw},x∈L→y∈L→x.Id=y.Id→x=y
  | [],_,_,_,h,_,_=>by cases h
  | z::L,hU,x,y,hx,hy,e=>by
    obtain⟨h1,h2⟩:=List.pairwise_cons.1 hU
    rcases sZ.1 hx with rfl | hx
    · rcases sZ.1 hy with rfl | hy
      · rfl
      · have:=h1 y hy; omega
    · rcases sZ.1 hy with e2 | hy
      · have:=h1 x hx; rw[e2]at e; omega
      · exact Up.inj h2 hx hy e
variable {L:List Nw}
theorem Up.ext {M:List Nw} (hL:Up L) (hM:Up M) (h:∀y,y∈L↔y∈M):L=M:=by
 have nd:∀{K:List Nw},Up K→K.Nodup:=λhK=>hK.imp λh e=>by subst e; omega
 exact List.Perm.eq_of_pairwise (le:=λa b:Nw=>a.Id<b.Id) (λa b _ _ h1 h2=>by omega) hL hM ((List.perm_ext_iff_of_nodup (nd hL) (nd hM)).2 h)
theorem Up.mid {A B:List Nw} {m:Nw} (h:Up (A++m::B)) (y:Nw):(y∈A∨y∈B)↔(y∈A++m::B∧y.Id≠m.Id):=by
 obtain⟨-,h2,h3⟩:=List.pairwise_append.1 h;obtain⟨h4,-⟩:=List.pairwise_cons.1 h2;rw[su,sZ];constructor;rintro (hy | hy)
 have:=h3 y hy m (by simp);exact⟨.inl hy,by omega⟩;have:=h4 y hy;exact⟨.inr (.inr hy),by omega⟩;rintro⟨hy | rfl | hy,hn⟩
 exact .inl hy;exact absurd rfl hn;exact .inr hy
theorem jR {i:Nat} (hi:i<L.length):L=L.take i++gd L i l0::L.drop (i + 1):=by
 rw[bG l0 hi,sL hi,tw]
theorem jJ {p:Nd} {a:Nh} (hp:vb p=true) (h:(act p a).2=true) (y:Nw):y∈(act p a).1.Nv↔(a.Pq≠2∧y=a.Nw)∨(y∈p.Nv∧y.Id≠a.Nw.Id):=by
 have hU:=ar hp;have hok:=jl hp h;unfold act at h hok ⊢;by_cases k1:a.Pq=1;rw[if_pos k1]at h hok ⊢;by_cases h1:vb (addP p a.Nw)=true;rw[if_pos h1];have hU2:Up (putL p.Nv a.Nw):=ar h1;show y∈putL p.Nv a.Nw↔_;have hm:=Up.mid hU2 y;rw[ie];have e:(y∈p.Nv.take (fj p.Nv a.Nw.Id)∨y∈p.Nv.drop (fj p.Nv a.Nw.Id))↔y∈p.Nv:=by
   rw[←su,tw]
 constructor;rintro (rfl | hy)
 exact .inl ⟨by omega,rfl⟩;exact .inr ⟨hy,(hm.1 (e.2 hy)).2⟩;rintro (⟨-,rfl⟩ | ⟨hy,-⟩)
 exact .inl rfl;exact .inr hy;rw[if_neg h1]at h; cases h
 rw[if_neg k1]at h hok ⊢;by_cases k2:a.Pq=2;rw[if_pos k2]at h hok ⊢;by_cases h1:has_ p a.Nw.Id=true∧gd p.Nv (atId p.Nv a.Nw.Id) l0=a.Nw;rw[if_pos h1];have hi:=bN h1.1;have hs:=jR hi;show y∈p.Nv.eraseIdx (atId p.Nv a.Nw.Id)↔_;have hm:=Up.mid (hs▸hU) y;rw[←hs,h1.2]at hm;rw[tv,su,hm];simp [k2];rw[if_neg h1]at h; cases h
 rw[if_neg k2]at h hok ⊢;by_cases k3:a.Pq=3;rw[if_pos k3]at h hok ⊢;by_cases h1:has_ p a.Nw.Id=true∧vb (setP p (atId p.Nv a.Nw.Id) a.Nw)=true;rw[if_pos h1];have hi:=bN h1.1;have hs:=jR hi;have hid:=mY h1.1;show y∈p.Nv.set (atId p.Nv a.Nw.Id) a.Nw↔_;have hm:=Up.mid (hs▸hU) y;rw[←hs,hid]at hm;rw[wU,if_pos hi,su,sZ];constructor;rintro (hy | rfl | hy)
 exact .inr (hm.1 (.inl hy));exact .inl ⟨k2,rfl⟩;exact .inr (hm.1 (.inr hy));rintro (⟨-,rfl⟩ | hy)
 exact .inr (.inl rfl);rcases hm.2 hy with hy | hy
 exact .inl hy;exact .inr (.inr hy);rw[if_neg h1]at h; cases h
 rw[if_neg k3]at h; cases h
def jK (l:List Nh):Prop:=∀a∈l,∀b∈l,a.Nw.Id=b.Nw.Id→a=b
theorem eU:∀(l:List Nh) (p:Nd),vb p=true→(acts l p).2=l.length→jK l→∀y,y∈(acts l p).1.Nv↔(∃a∈l,a.Pq≠2∧y=a.Nw)∨(y∈p.Nv∧∀a∈l,y.Id≠a.Nw.Id)
  | [],p,_,_,_,y=>by simp [acts]
  | a::l,p,hp,h,hO,y=>by
    have ha:(act p a).2=true∧(acts l (act p a).1).2=l.length:=by
      unfold acts at h;by_cases ha:(act p a).2=true
      · rw[if_pos ha]at h
        simp only[tj]at h
        exact⟨ha,by omega⟩
      · rw[if_neg ha]at h
        simp at h
    have ih:=eU l (act p a).1 (jl hp ha.1) ha.2 (λb hb c hc e=>hO b (by simp [hb]) c (by simp [hc]) e) y
    unfold acts
    rw[if_pos ha.1]
    simp only
    rw[ih,jJ hp ha.1]
    constructor
    · rintro (⟨b,hb,h1⟩ | ⟨(⟨h1,h2⟩ | ⟨h1,h2⟩),h3⟩)
      · exact .inl ⟨b,by simp [hb],h1⟩
      · exact .inl ⟨a,by simp,h1,h2⟩
      · refine .inr ⟨h1,λb hb=>?_⟩
        rcases sZ.1 hb with rfl | hb
        · exact h2
        · exact h3 b hb
    · rintro (⟨b,hb,h1,h2⟩ | ⟨h1,h2⟩)
      · by_cases hl:∃c∈l,y.Id=c.Nw.Id
        · obtain⟨c,hc,e⟩:=hl
          have:b=c:=hO b hb c (by simp [hc]) (by rw[←h2,e])
          subst this
          exact .inl ⟨b,hc,h1,h2⟩
        · rcases sZ.1 hb with rfl | hb
          · exact .inr ⟨.inl ⟨h1,h2⟩,λc hc e=>hl ⟨c,hc,e⟩⟩
          · exact .inl ⟨b,hb,h1,h2⟩
      · exact .inr ⟨.inr ⟨h1,h2 a (by simp)⟩,λb hb=>h2 b (by simp [hb])⟩
theorem dK {p:Nd} {id:Int}:has_ p id=true↔∃x∈p.Nv,x.Id=id:=by
 unfold has_;rw[sX];simp
def dif (p q:Nd):List Nh:=remL p q++(movL p q q.Nv++addL p q q.Nv)
variable {p q:Nd}
theorem cM {a:Nh}:a∈dif p q↔(∃x∈p.Nv,¬has_ q x.Id=true∧a=⟨2,x⟩)∨(∃x∈q.Nv,has_ p x.Id=true∧gd p.Nv (atId p.Nv x.Id) l0≠x∧a=⟨3,x⟩)∨(∃x∈q.Nv,¬has_ p x.Id=true∧a=⟨1,x⟩):=by
 unfold dif remL movL addL;rw[su,su,sS,sS,sS];simp only[wE,sH,tu,decide_eq_false_iff_not,wN];constructor;rintro (⟨x,⟨h1,h2⟩,rfl⟩ | ⟨x,⟨h1,h2,h3⟩,rfl⟩ | ⟨x,⟨h1,h2⟩,rfl⟩)
 exact .inl ⟨x,h1,h2,rfl⟩;exact .inr (.inl ⟨x,h1,h2,h3,rfl⟩);exact .inr (.inr ⟨x,h1,h2,rfl⟩);rintro (⟨x,h1,h2,rfl⟩ | ⟨x,h1,h2,h3,rfl⟩ | ⟨x,h1,h2,rfl⟩)
 exact .inl ⟨x,⟨h1,h2⟩,rfl⟩;exact .inr (.inl ⟨x,⟨h1,h2,h3⟩,rfl⟩);exact .inr (.inr ⟨x,⟨h1,h2⟩,rfl⟩)
theorem pa (hp:vb p=true) (hq:vb q=true):jK (dif p q):=by
 have uP:=ar hp;have uQ:=ar hq;intro a ha b hb e;rcases cM.1 ha with ⟨x,h1,h2,rfl⟩ | ⟨x,h1,h2,h3,rfl⟩ | ⟨x,h1,h2,rfl⟩ <;> rcases cM.1 hb with ⟨z,g1,g2,rfl⟩ | ⟨z,g1,g2,g3,rfl⟩ | ⟨z,g1,g2,rfl⟩ <;> simp only at e
 rw[uP.inj h1 g1 e];exact absurd (dK.2 ⟨z,g1,e.symm⟩) h2;exact absurd (dK.2 ⟨z,g1,e.symm⟩) h2;exact absurd (dK.2 ⟨x,h1,e⟩) g2;rw[uQ.inj h1 g1 e];rw[e]at h2; exact absurd h2 g2;exact absurd (dK.2 ⟨x,h1,e⟩) g2;rw[e]at h2; exact absurd g2 h2;rw[uQ.inj h1 g1 e]
theorem pc (hp:vb p=true) (hq:vb q=true) (y:Nw):y∈q.Nv↔(∃a∈dif p q,a.Pq≠2∧y=a.Nw)∨(y∈p.Nv∧∀a∈dif p q,y.Id≠a.Nw.Id):=by
 have uP:=ar hp;have uQ:=ar hq;constructor;intro hy;by_cases h:has_ p y.Id=true;by_cases g:gd p.Nv (atId p.Nv y.Id) l0=y;refine .inr ⟨by rw[←g]; exact bB l0 (bN h),λa ha e=>?_⟩;rcases cM.1 ha with ⟨x,h1,h2,rfl⟩ | ⟨x,h1,h2,h3,rfl⟩ | ⟨x,h1,h2,rfl⟩
 exact h2 (dK.2 ⟨y,hy,e⟩);have:=uQ.inj hy h1 e;subst this;exact h3 g;rw[show y.Id=x.Id from e]at h;exact h2 h;exact .inl ⟨⟨3,y⟩,cM.2 (.inr (.inl ⟨y,hy,h,g,rfl⟩)),(by simp),rfl⟩;exact .inl ⟨⟨1,y⟩,cM.2 (.inr (.inr ⟨y,hy,h,rfl⟩)),(by simp),rfl⟩;rintro (⟨a,ha,h1,rfl⟩ | ⟨hy,hn⟩)
 rcases cM.1 ha with ⟨x,g1,g2,rfl⟩ | ⟨x,g1,g2,g3,rfl⟩ | ⟨x,g1,g2,rfl⟩
 exact absurd rfl h1;exact g1;exact g1;by_cases h:has_ q y.Id=true;obtain⟨z,hz,e⟩:=dK.1 h;have hpz:has_ p z.Id=true:=dK.2 ⟨y,hy,e.symm⟩;by_cases g:gd p.Nv (atId p.Nv z.Id) l0=z;have hzp:z∈p.Nv:=by rw[←g]; exact bB l0 (bN hpz)
 rw[uP.inj hy hzp e.symm];exact hz;exact absurd e.symm (hn ⟨3,z⟩ (cM.2 (.inr (.inl ⟨z,hz,hpz,g,rfl⟩))));exact absurd rfl (hn ⟨2,y⟩ (cM.2 (.inl ⟨y,hy,h,rfl⟩)))
theorem pW (hp:vb p=true) (hq:vb q=true) (hpB:yS p) (hA:jN (dif p q)) {is:List Nat} (h:SfGood (dif p q) p [] is):(acts (pick (dif p q) is) p).1.Nv=q.Nv∧is.length=(dif p q).length:=by
 have hm:∀a,a∈pick (dif p q) is↔a∈dif p q:=λa=>by
   unfold pick
   rw[sS]
   constructor
   · rintro⟨i,hi,rfl⟩
     exact bB a0 ((h.mem i).1 (by simpa using hi))
   · intro ha
     obtain⟨i,hi,rfl⟩:=List.getElem_of_mem ha
     exact⟨i,by simpa using (h.mem i).2 hi,bG a0 hi⟩
 have hO:jK (pick (dif p q) is):=λa ha b hb e=>pa hp hq a ((hm a).1 ha) b ((hm b).1 hb) e;have hl:(acts (pick (dif p q) is) p).2=(pick (dif p q) is).length:=by rw[ig]; exact h.acts
 have hok:=m5 (pick (dif p q) is) p hp hpB λa ha=>hA.2 a ((hm a).1 ha);refine⟨Up.ext (ar hok.1) (ar hq) λy=>?_,?_⟩;rw[eU _ p hp hl hO,pc hp hq];simp only[hm];have hnd:is.Nodup:=by simpa using h.nd
 have h1:=dy (n:=(dif p q).length) hnd λi hi=>(h.mem i).1 (by simpa using hi);have h2:=dR (l:=List.range (dif p q).length) (m:=is) List.nodup_range λi hi=>by simpa using (h.mem i).2 (s8.1 hi)
 rw[tf]at h2;omega
end AT
