/- A run of failures and repairs: its counts are those of the reference, the last is that of the last state, and without failures no light waits. -/
import Derived.Test.YtlemonjnolciiaaGreatQEvC
import Derived.Test.YtlemonjnolciiaaGreatP1
set_option linter.unusedSimpArgs false
set_option linter.unusedVariables false
namespace AT
theorem oK {p:Nz} (h:xv p=true):RestF ⟨p,p.Nk,[]⟩:=by
 obtain⟨N,L⟩:=p;refine⟨h,h,rfl,λx hx=>?_⟩;obtain⟨i,hi,rfl⟩:=Ee.1 (show x∈L from hx);have hat:=pj h hi;rw[zf l0 hi]at hat;refine aM.2 ⟨DT.2 ⟨L[i],D6 hi,by simp⟩,(gj.2 λx _ h=>by cases h),?_,?_,?_⟩
 simp only; rw[hat];simp only; rw[hat];simp only; rw[hat]
def resE (p:Nz) (es:List Pg):List Int×Nj×Bool:=if xv p=true∧es.length≤20 then (match runE es ⟨p,p.Nk,[]⟩ [] with | some (c,r)=>(c,r,true) | none=>([],nG,false)) else ([],nG,false)
theorem startB {p:Nz} (hB:ec p):RestB ⟨p,p.Nk,[]⟩:=⟨hB,⟨hB.2.1,hB.2.2⟩,by simp⟩
theorem qf {fu:Nat} (hfu:2097200≤fu) (p:Nz) (hB:ec p) (es:List Pg) (hes:∀e∈es,e.Nw.length≤1000) (hl:es.length≤1000):bR fu p es=some (resE p es):=by
 unfold bR zM resE;rw[gU (by omega) p hB,Dw];cases hp:xv p
 rfl;have hc:vf fu ⟨p,p.Nk,[]⟩=some ⟨p,p.Nk,[]⟩:=cU (by omega) _ (startB hB);rw[if_neg (by decide),hc,Dw,Dw];simp only[ED,DF,if_false,Dw];by_cases h:es.length≤20;rw[if_neg (by simp; omega),if_pos ⟨trivial,h⟩];have hloop:=nh hfu p.Nq hB.1 es hes hl fu 0 ⟨p,p.Nk,[]⟩ [] (by omega) (by omega) (by simp) (oK hp) rfl;rw[show ((0:Nat):Int)=0 from rfl,D4]at hloop;simp only at hloop;rw[hloop,Dw];cases runE es ⟨p,p.Nk,[]⟩ [] with
 | none=>rfl
 | some q=>rfl
 rw[if_pos (by simp; omega),if_neg (λh'=>h h'.2)];rfl
theorem pK {fu:Nat} (hfu:2097200≤fu) (p:Nz) (hB:ec p) (es:List Pg) (hes:∀e∈es,e.Nw.length≤1000) (hl:es.length≤1000):bM fu p es=some (resE p es):=by
 unfold bM zF resE;rw[nL (by omega) p hB,Dw];cases hp:xv p
 rfl;rw[if_neg (by decide),jE (by omega) p hB,Dw,ln (by omega) p.Nk hB.2.1 hB.2.2,Dw,Dw];simp only[ED,DF,if_false,Dw];by_cases h:es.length≤20;rw[if_neg (by simp; omega),if_pos ⟨trivial,h⟩];have hloop:=mK hfu p hB.1 es hes hl fu 0 ⟨p,p.Nk,[]⟩ [] (by omega) (by omega) (by simp) (oK hp) rfl;rw[show ((0:Nat):Int)=0 from rfl,D4]at hloop;simp only at hloop;rw[hloop,Dw];cases runE es ⟨p,p.Nk,[]⟩ [] with
 | none=>rfl
 | some q=>rfl
 rw[if_pos (by simp; omega),if_neg (λh'=>h h'.2)];rfl
theorem kX:∀(es:List Pg) {r:Nj} {c c':List Int} {r':Nj},RestF r→runE es r c=some (c',r')→RestF r'∧r'.Nz.Nq=r.Nz.Nq∧c'.length=c.length + es.length∧(es≠[]→gl c'=((wait r'.Ng r'.Nz.Nk).length:Int))
  | [],r,c,c',r',hR,h=>by
    unfold runE at h
    injection h with h
    injection h with h1 h2
    subst h1 h2
    exact⟨hR,rfl,rfl,λh=>absurd rfl h⟩
  | e::es,r,c,c',r',hR,h=>by
    unfold runE at h
    split at h
    · rename_i hs
      obtain⟨h1,h2,h3,h4⟩:=kX es (pq hR hs) h
      refine⟨h1,h2.trans (oB r e),by rw[h3,DR,DJ,Ep]; omega,λ_=>?_⟩
      cases es with
      | nil =>
        unfold runE at h
        injection h with h
        injection h with g1 g2
        subst g1 g2
        rw[kh]
      | cons e' es=>exact h4 (by simp)
    · cases h
theorem qH {H L M:List Nh} (h:∀id,hasL L id=hasL M id):wait H L=wait H M:=by
 unfold wait;simp only[h]
theorem si {r:Nj} (hR:RestF r) {e:Pg} (hs:stOk e.Nw r.Nz.Nq.Nw.length=true) (he:e.Pp=false) (hw:wait r.Ng r.Nz.Nk=[]):wait (ev1 r e).Ng (ev1 r e).Nz.Nk=[]:=by
 have h1:evt r e=repd r e.Nw:=by unfold evt; rw[he,if_neg DV]
 have h2:(allS (evt r e)).Nz.Nk=r.Nz.Nk:=by
   rw[h1]
   unfold allS allR
   show (resA _ _ _ (wait r.Ng r.Nz.Nk) r.Nz.Nk []).1=_
   rw[hw]
   rfl
 have hA:RestF (allS (evt r e)):=(mF (pp hR hs)).1;have h3:=hA.rvI.ids;have h4:(ev1 r e).Ng=r.Ng:=tJ r e;rw[h4];have h5:∀id,hasL (ev1 r e).Nz.Nk id=hasL r.Nz.Nk id:=λid=>by
   rw[Ej,dd,dd]
   have:idsL (ev1 r e).Nz.Nk=idsL r.Nz.Nk:=by
     rw[←h2]
     exact h3
   rw[this]
 rw[qH h5];exact hw
theorem kW:∀(es:List Pg) {r:Nj} {c c':List Int} {r':Nj},RestF r→runE es r c=some (c',r')→(es.any λe=>e.Pp)=false→wait r.Ng r.Nz.Nk=[]→wait r'.Ng r'.Nz.Nk=[]
  | [],r,c,c',r',hR,h,_,hw=>by
    unfold runE at h
    injection h with h
    injection h with h1 h2
    subst h1 h2
    exact hw
  | e::es,r,c,c',r',hR,h,ha,hw=>by
    rw[Gg,EL]at ha
    unfold runE at h
    split at h
    · rename_i hs
      exact kW es (pq hR hs) h ha.2 (si hR hs ha.1 hw)
    · cases h
theorem nJ (p:Nz):wait p.Nk p.Nk=[]:=by
 refine GL.2 λid h=>?_;obtain⟨h1,h2⟩:=f9.1 h;rw[h1]at h2;cases h2
theorem ov {fu:Nat} (y:Nz×List Pg) (hl:y.2.length≤1000):∀(fk i:Nat) (b:Bool),i≤y.2.length→y.2.length - i<fk→xl fu y fk b i=some (b||(y.2.drop i).any λe=>e.Pp,(y.2.length:Int)):=by
 intro fk;induction fk with
 | zero=>intro i _ _ h; omega
 | succ fk ih =>
   intro i b hi hk
   rw[xl]
   by_cases h:i<y.2.length
   · have h1:(if b=true then some true else (idx y.2 (i:Int)).bind λe2=>some e2.Pp)=some (b||y.2[i].Pp):=by
       cases b
       · rw[if_neg DV,vF h,Dw,Fo]
       · rfl
     rw[if_pos (by simpa using h),h1,Dw,vr h (by omega),ih (i + 1) _ h (by omega),←DG h,Gg,Bool.or_assoc]
   · obtain rfl:i=y.2.length:=by omega
     rw[if_neg (by simp),Ea,Hx,Hu]
theorem oA {fu:Nat} (hfu:2097200≤fu) (code:List By) (y:Nz×Pz) (hn:y.1.Nq.Nw.length≤20):∀(fk m:Nat) (o:List Pg) (b:List By) (a:Int) (s:U64) (k:Int),m<fk→m≤10→o.length + m≤100→Cur ⟨b,a,s⟩ (k + 100 * (10 - (m:Int)))→k≤600000000→(∀e∈o,e.Nw.length≤1000) →
    ∃o' z,xj fu code y fk o m b a s=some (o',z)∧o'.length≤o.length + m∧∀e∈o',e.Nw.length≤1000:=by
 intro fk;induction fk with
 | zero=>intro m _ _ _ _ _ h; omega
 | succ fk ih =>
   intro m o b a s k hm h10 ho hc hk hr
   rw[xj]
   cases m with
   | zero =>
     rw[if_neg (by simp)]
     exact⟨_,_,rfl,by omega,hr⟩
   | succ m =>
     obtain⟨q,c2,g3,k2⟩:=nY (fu:=fu) hc (by omega) 3 (by decide)
     obtain⟨l,c3,g4,h4,k4⟩:=wK (fu:=fu) (by omega) k2 (by omega) hn
     rw[if_pos (by simp),g3,Dw,g4,Dw,xH (by rw[DJ]; omega),Dw,show w64 (((m + 1:Nat):Int) - 1)=(m:Int) by rw[vt (by omega) (by omega)]; omega]
     obtain⟨o',z,e1,e2,e3⟩:=ih m (o++[⟨!q,l⟩]) c3.code c3.at_ c3.seed k (by omega) (by omega) (by rw[DR,DJ]; omega) (k4.mono (by omega)) hk (λe he=>by
       rcases Dx.1 he with he | he
       · exact hr e he
       · rw[DU]at he
         subst he
         simp only
         omega)
     exact⟨o',z,e1,by rw[DR,DJ]at e2; omega,e3⟩
theorem ql {fu:Nat} (hfu:2097200≤fu) {x:List By} (hc:Cur ⟨x,0,⟨0⟩⟩ 0):∃p es,zG fu x=some (p,es)∧ec p∧es.length≤100∧∀e∈es,e.Nw.length≤1000:=by
 obtain⟨p,c1,h1,h2,k1⟩:=qz (fu:=fu) (by omega) hc (by omega);obtain⟨q,c2,g1,g2,g3,k2⟩:=xf (fu:=fu) k1 (by omega) 6 (by decide);have g3':=g3 (by decide);obtain⟨m,rfl⟩:∃m:Nat,q=(m:Int):=⟨q.toNat,by omega⟩;obtain⟨o,z,e1,e2,e3⟩:=oA (fu:=fu) hfu x (p,c1) (by have:=h2.net.f2; simp only; omega) fu m [] c2.code c2.at_ c2.seed 5000 (by omega) (by omega) (by simp; omega) (k2.mono (by omega)) (by omega) (by simp);refine⟨p,o,?_,h2.B,by simp at e2; omega,e3⟩;unfold zG;rw[h1,Dw,g1,Dw,e1];rfl
theorem iH (x0:List By) (o0:wA x0):∃fu,aZ fu x0=some true:=by
 obtain⟨fu,hfu4⟩:∃fu,2097200≤fu:=⟨2097200,D3 _⟩;have hfu:2097153≤fu:=by omega
 refine⟨fu,?_⟩;unfold aZ it;by_cases hb:(x0.length:Int) > 65536;simp only[hb,decide_true,Dw,if_true];simp only[hb,decide_false,Dw,DF,if_false];have hc:Cur ⟨x0,0,⟨0⟩⟩ 0:=qL o0.1 (by omega);obtain⟨p,es,g1,hB,hl,hes⟩:=ql hfu4 hc;rw[g1,Dw];dsimp only;rw[qf hfu4 p hB es hes (by omega),Dw,pK hfu4 p hB es hes (by omega),Dw];have hnil:=kR hfu [] (by simp);unfold resE;by_cases hp:xv p=true∧es.length≤20;rw[if_pos hp];cases hr:runE es ⟨p,p.Nk,[]⟩ [] with
 | none =>
   dsimp only
   rw[hnil]
   rfl
 | some q =>
   obtain⟨c,r⟩:=q
   obtain⟨f1,f2,f3,f4⟩:=kX es (oK hp.1) hr
   have f2':r.Nz.Nq=p.Nq:=f2
   rw[EY,Ey]at f3
   have hv:=kR hfu c (by omega)
   dsimp only
   rw[hv]
   simp only[bne_self_eq_false,DF,if_false,Dw,ED]
   rw[kP hfu r (f1.B (by rw[f2']; exact hB.1)),kK.2 f1,if_pos rfl,Dw]
   have hfl:=ov (fu:=fu) (p,es) (by simp only; omega) fu 0 false (by omega) (by simp only; omega)
   rw[show ((0:Nat):Int)=0 from rfl]at hfl
   rw[hfl]
   have h0:((c.length:Int) != (es.length:Int))=false:=by rw[f3]; simp
   have hq:(es.any λe=>e.Pp)=false→(wait r.Ng r.Nz.Nk).length=0:=λha=>by
     rw[kW es (oK hp.1) hr ha (nJ p)]; rfl
   have hlast:(if decide ((c.length:Int) > 0)=true then (idx c (w64 ((c.length:Int) - 1))).bind λe=>some (e != ((wait r.Ng r.Nz.Nk).length:Int)) else some false)=some false:=by
     by_cases h:0<c.length
     · rw[if_pos (by simpa using h),jH h (by omega),Dw,f4 (λe=>by subst e; rw[EY]at f3; omega)]
       simp
     · rw[if_neg (by simpa using h)]
   simp only[ED,DF,if_false,h0,hlast,Dw,D4,Fo]
   cases ha:es.any λe=>e.Pp
   · rw[if_neg DV,Dw,hq ha]
     rfl
   · rfl
 rw[if_neg hp];dsimp only;rw[hnil];rfl
end AT
