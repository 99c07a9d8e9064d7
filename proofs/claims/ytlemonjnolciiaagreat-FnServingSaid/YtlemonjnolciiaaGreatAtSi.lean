/- The library's sort of a row by a compare function, in the words of the walks. -/
import Derived.Test.YtlemonjnolciiaaGreatAtPI
import Derived.Shelf.SlSortCmp.WholeK
import Derived.Shelf.SlSortCmp.NoneTotal
import Derived.Shelf.Sort.Plain
import Derived.Shelf.Slices.In.SortNone
import Derived.Shelf.Slices.CompactI
set_option linter.unusedSimpArgs false
set_option linter.unusedVariables false
namespace AT
section
open Go Go.RowKit Go.Proofs Go.Sort Go.Lib Go.Shelf
theorem Below.grown {W w':World} (h:Below W.heap.size W w'):∃q os',w'=Go.Sort.grow (W.drewN q) os':=by
 refine⟨w'.drawn - W.drawn,w'.heap.extract W.heap.size w'.heap.size,?_⟩;have hh:w'.heap=W.heap++w'.heap.extract W.heap.size w'.heap.size:=by
  have hs:=h.size
  apply Array.ext
  · simp; omega
  · intro i h1 h2
    rw[Array.getElem_append]
    split
    · rename_i hi
      have:=h.block i hi
      rw[JI h1,JI hi]at this
      exact Im this
    · rename_i hi
      rw[Array.getElem_extract]
      congr 1
      omega
 have hd:=h.drawn;cases w'
 cases W;simp only[Go.Sort.grow,World.drewN]at *;have h1:=h.os;have h2:=h.tape;have h3:=h.output;simp only at h1 h2 h3;subst h1; subst h2; subst h3;simp only[World.mk.injEq,true_and,and_true];exact⟨hh,by omega⟩
variable {β:Type} [Inhabited β]
theorem EC {P:Program} {g:Nat} {cb:Array Value} {enc:β->p_} {k:Nat} {cf:β->β->Int} {blk off size:Nat} {w:World}
 (h:∀(m:Nat) (os:Array Obj) (dk:Array β),dk.size=size->∀x y:β,Calls P g (#[.agg (enc x).toArray,.agg (enc y).toArray]++cb) (sortWorldK enc k w blk off m dk os) λe w'=>∃v,e=.returned v/\(Below (sortWorldK enc k w blk off m dk os).heap.size (sortWorldK enc k w blk off m dk os) w'/\v=.int .i64 (cf x y))):CmpLays P g cb enc k cf blk off size w :=
 λm os dk hs x y=>(h m os dk hs x y).mono λe w' ⟨v,he,hb,hv⟩=>⟨by rw[he,hv],hb.grown⟩
theorem jw (enc:β->p_) (k:Nat) (w:World) (blk off m:Nat) (dk:Array β) (os:Array Obj):Chg w (sortWorldK enc k w blk off m dk os) [blk]:=by
 unfold sortWorldK putRowK putRow mapBlock Go.Sort.grow Go.Sort.ahead;refine⟨rfl,rfl,rfl,by simp,λc hc hn=>?_,Nat.le_add_right _ _⟩;simp only;rw[J0 (by simpa using hc),Km,if_neg (λe=>hn (by simp [e]))]
def gQ (k:Nat) (cells:p_) (n i:Nat):p_:=(cells.drop ((if i<n then i else 0) * k)).take k
variable {w:World} {b n cap k m:Nat} {E:TypeId}
theorem Es {B:Nat} {cells:p_} (hk:0<k) (ho:w.ownsRow B E k (.slice (some ⟨b,0,none⟩) n cap) n cells):HoldsK (gQ k cells n) k w b 0 (Array.range n):=by
 intro j hj;rw[size_flatK,KC]at hj;have hc:cells.length=n * k:=ho.1;have hd:j / k<n:=Nat.div_lt_of_lt_mul (by rw[KH]; exact hj);have hm:j % k<k:=Nat.mod_lt _ hk;have hdm:j / k * k + j % k=j:=by rw[KH]; exact Nat.div_add_mod j k
 have hle:j / k * k + k<=n * k:=by
  have:=IM k (show j / k + 1<=n from hd)
  rwa [JQ]at this
 have e1:(Array.range n)[j / k]! =j / k:=by
  rw[getElem!_pos _ _ (by simpa using hd)]; simp
 have e2:(flatK (gQ k cells n) k (Array.range n))[j]! =cells[j]'(by omega):=by
  rw[get_flatK _ _ _ _ (by simpa using hj),e1,gQ,if_pos hd,getElem!_pos _ _ (by simp; omega)]
  simp only[Ja,JS]
  congr 1
 rw[e2,Jd];exact⟨by rw[ho.cellAt _ (by omega)]; exact Iq _,ho.frozenAt _⟩
theorem wH {B:Nat} {cells:p_} {enc:β->p_} {d:Array β} {os:Array Obj} (hd:d.size=n)
 (ho:w.ownsRow B E k (.slice (some ⟨b,0,none⟩) n cap) n cells):(sortWorldK enc k w b 0 m d os).ownsRow B E k (.slice (some ⟨b,0,none⟩) n cap) n (flatK enc k d).toList:=by
 refine⟨by rw[I8,size_flatK,hd],?_⟩;rcases ho.2 with ⟨h',_⟩ | ⟨g',cap',cur,h',hB,hg,hnc,hcm,hcs,htake⟩
 simp at h';simp only[Value.slice.injEq,IV,Addr.mk.injEq,and_true,true_and]at h';obtain⟨rfl,rfl⟩:=h';have hlt:b<w.heap.size:=(Jz.1 hg).1;have hle:n * k<=cur.size:=by rw[hcs]; exact IM k hnc
 have hsz:(putCells id 0 (flatK enc k d) cur).size=cur.size:=by simp [putCells]
 refine .inr ⟨b,cap,putCells id 0 (flatK enc k d) cur,rfl,hB,?_,hnc,hcm,by rw[hsz]; exact hcs,?_⟩;unfold sortWorldK putRowK putRow mapBlock Go.Sort.grow Go.Sort.ahead;simp only;rw[J0 (by simpa using hlt),Km,if_pos rfl,hg];rfl;apply JW;rw[Is,I8,I8,hsz,size_flatK,hd];omega;intro i h1 h2;have hi:i<n * k:=by rw[I8,size_flatK,hd]at h2; exact h2
 rw[Ja,Kp,Kp];simp only[putCells,Array.getElem_mapIdx];rw[if_pos ⟨JZ _,by rw[size_flatK,hd]; omega⟩];simp only[Kg,id];rw[getElem!_pos _ _ (by rw[size_flatK,hd]; exact hi)]
theorem Bb {enc:Nat->p_} (hk:∀i,(enc i).length=k) (d:Array Nat) {j:Nat} (hj:j<d.size):((flatK enc k d).toList.drop (j * k)).take k=enc d[j]!:=by
 have hle:j * k + k<=d.size * k:=by
  have:=IM k (show j + 1<=d.size from hj)
  rwa [JQ]at this
 apply JW;rw[Is,IT,I8,size_flatK,hk];omega;intro i h1 h2;have hi:i<k:=by rw[hk]at h2; exact h2
 have hlt:j * k + i<d.size * k:=by omega
 rw[Ja,JS,Kp];have e:=get_flatK enc k d (j * k + i) hlt;rw[getElem!_pos _ _ (by rw[size_flatK]; exact hlt)]at e;rw[e];have e1:(j * k + i) / k=j:=by rw[KH,Nat.mul_add_div (by omega),Nat.div_eq_of_lt hi,I6]
 have e2:(j * k + i) % k=i:=by rw[KH,Nat.mul_add_mod,Nat.mod_eq_of_lt hi]
 rw[e1,e2,getElem!_pos _ _ (by rw[hk]; exact hi)]
theorem qq {cells:p_} (hc:cells.length=n * k) (hn:0<n) (i:Nat):(gQ k cells n i).length=k:=by
 unfold gQ;have h:(if i<n then i else 0)<n:=by split <;> omega
 generalize (if i<n then i else 0)=q at h
 have:=IM k (show q + 1<=n from h);rw[JQ]at this;rw[Is,IT,hc];omega
theorem tn {α:Type} [GoTy α] {cells:p_} {x:List α} {Fs:List (m_)} {d:Array Nat} {os:Array Obj}
 (ho:w.ownsRow 0 E (GoTy.n α) (.slice (some ⟨b,0,none⟩) x.length cap) x.length cells) (hl:Fs.length=x.length) (he:∀(i:Nat) (y:α) (Fi:m_),x[i]?=some y->Fs[i]?=some Fi->GoTy.own w Fi (xf α cells i) y)
 (hb:b∉List.flatten Fs) (hp:d.toList.Perm (List.range x.length)) (hx:0<x.length) (z:α) :
 lown (sortWorldK (gQ (GoTy.n α) cells x.length) (GoTy.n α) w b 0 m d os) ([b]++List.flatten (d.toList.map λi=>(Fs[i]?).getD [])) [.slice (some ⟨b,0,none⟩) x.length cap] (d.toList.map λi=>(x[i]?).getD z):=by
 have hds:d.size=x.length:=by have:=hp.length_eq; rwa [I8,Jb]at this
 have hc:cells.length=x.length * GoTy.n α:=ho.1;have hlen:(d.toList.map λi=>(x[i]?).getD z).length=x.length:=by rw[I5,I8,hds]
 refine⟨some ⟨b,0,none⟩,cap,E,(flatK (gQ (GoTy.n α) cells x.length) (GoTy.n α) d).toList,d.toList.map λi=>(Fs[i]?).getD [],by rw[hlen],by rw[hlen]; exact wH hds ho,by rw[hlen]; rfl,by rw[I5,I5],λj y Fi hy hF=>?_⟩;have hj:j<d.size:=by have:=(It.1 hy).1; rwa [I5,I8]at this
 have hdj:d.toList[j]?=some d[j]:=by rw[K0,JI hj]
 rw[JR,hdj,KQ,IV]at hy hF;have hi:d[j]<x.length:=I4.1 (hp.mem_iff.1 (ID hdj));rw[Iq hi,KI]at hy;have hi2:d[j]<Fs.length:=by rw[hl]; exact hi
 rw[Iq hi2,KI]at hF;subst hy; subst hF;have e:xf α (flatK (gQ (GoTy.n α) cells x.length) (GoTy.n α) d).toList j=xf α cells d[j]:=by
  unfold xf
  rw[Bb (qq hc hx) d hj,getElem!_pos d j hj,gQ,if_pos hi]
 rw[e];have hown:=he d[j] _ _ (Iq hi) (Iq hi2);refine GoTy.own_mono hown λc hcF=>?_;refine (jw _ _ w b 0 m d os).block c (GoTy.own_lt hown c hcF) λhcb=>?_;rw[Iu]at hcb;subst hcb;exact hb (K3.2 ⟨_,IE hi2,hcF⟩)
def cfAt {α:Type} (cmp:α->α->Option Int) (x:List α) (z:α) (i j:Nat):Int:=(cmp ((x[if i<x.length then i else 0]?).getD z) ((x[if j<x.length then j else 0]?).getD z)).getD 0
variable {α:Type} {x:List α} {cmp:α->α->Option Int}
theorem at_mem (hx:0<x.length) (z:α) (i:Nat):(x[if i<x.length then i else 0]?).getD z∈x:=by
 have h:(if i<x.length then i else 0)<x.length:=by split <;> omega
 generalize (if i<x.length then i else 0)=q at h
 rw[Iq h];exact IE h
theorem ltAt (hF:SoF cmp x) (hx:0<x.length) (z:α) (i j:Nat):ltOf (cfAt cmp x z) i j=U1 cmp ((x[if i<x.length then i else 0]?).getD z) ((x[if j<x.length then j else 0]?).getD z):=by
 have h:=hF.some_ _ (at_mem hx z i) _ (at_mem hx z j);unfold ltOf cfAt U1;obtain⟨c,hc⟩:=Ke.1 h;rw[hc];rfl
theorem Gz (hF:SoF cmp x) (hx:0<x.length) (z:α):SWO (ltOf (cfAt cmp x z)) where
 irrefl i:=by rw[ltAt hF hx]; exact hF.irr _ (at_mem hx z i)
 trans i j k h1 h2:=by
  rw[ltAt hF hx]at *
  exact hF.trans _ (at_mem hx z i) _ (at_mem hx z j) _ (at_mem hx z k) h1 h2
 ntrans i j k h1 h2:=by
  rw[ltAt hF hx]at *
  exact hF.nt (at_mem hx z k) (at_mem hx z j) (at_mem hx z i) h2 h1
theorem lW {β:Type} (x:List β) (z:β):(List.range x.length).map (λi=>(x[i]?).getD z)=x:=by
 apply JW;simp;intro i h1 h2;simp [Iq h2]
theorem BH {α:Type} [GoTy α] [DecidableEq α] {P:Program} {ρ:Ren} (L:SlLaysF0.n6 P ρ) (aE:∀w,(isAgg (ρ.t 24)).run P w=.ok true w) (zE:∀w,(Go.sizeOf (ρ.t 24)).run P w=.ok (GoTy.n α) w)
 {g:Nat} {cb:p_} (eg:∀args w,(callFunc g args).run P w=.ok (.enter g args) w) {cmp:α->α->Option Int} {w0:World} {F:m_} {A:c_} {cap:Nat} {x r:List α}
 (hO:lown w0 F [.slice A x.length cap] x) (hn:F.Nodup) (hr:lU cmp x=some r)
 (hc:∀(w:World) (c1 c2:p_) (a b:α) (v:Int),Moves w0 w (·∉F) (λ_=>True)->GoTy.rep w (λ_=>True) c1 a->GoTy.rep w (λ_=>True) c2 b->cmp a b=some v->Calls P g ([Value.agg c1.toArray,Value.agg c2.toArray]++cb).toArray w λe w'=>∃u,e=.returned u/\(Below w.heap.size w w'/\u=.int .i64 v)) :
 Calls P (ρ.f 6) #[.slice A x.length cap,.func (.func g) #[] cb.toArray] w0 λe w'=>∃v,e=.returned v/\(Chg w0 w' F/\v=.tuple #[]/\∃F',lown w' F' [.slice A x.length cap] r/\Back w0 w' F F'):=by
 have hlt:=GoTy.own_lt (α:=List α) hO;obtain⟨hF,hperm,hsorted⟩:=oh hr;rcases KU x.length with h0 | h0
 have hx:x=[]:=IL h0;subst hx;have hr0:r=[]:=Ln.1 hperm.length_eq;subst hr0;refine (AnyF.slices_SortFunc_none L A cap _ w0).mono λe w' ⟨he,hw⟩=>⟨_,he,?_⟩;subst hw;exact⟨Chg.refl _ _,rfl,F,hO,hn,λb hb=>⟨.inr hb,hlt b hb⟩⟩;obtain⟨A',cap',E,cells,Fs,hcs,ho,rfl,hl,hel⟩:=hO;obtain⟨rfl,rfl⟩:A=A'/\cap=cap':=by simpa using hcs
 obtain⟨b,rfl,hb⟩:∃b,A=some ⟨b,0,none⟩/\b<w0.heap.size:=by
  rcases ho.2 with ⟨-,hz⟩ | ⟨g',cap'',cur,hv,-,hg,hnc,hcm,-,-⟩
  · omega
  · simp only[Value.slice.injEq]at hv
    exact⟨g',hv.1,(Jz.1 hg).1⟩
 have hsz:=hF.len;have hob:(Value.slice (some ⟨b,0,none⟩) x.length cap).ownBlock.toList=[b]:=rfl;rw[hob]at hn hc hlt;have hbn:b∉List.flatten Fs:=by
  rw[J8,IY,JH]at hn
  exact hn.1
 have hlen:cells.length=x.length * GoTy.n α:=ho.1;obtain⟨z,hz⟩:∃z,x[0]?=some z:=⟨_,Iq h0⟩;have hrep:∀(m:Nat) (os:Array Obj) (dk:Array Nat) (i:Nat),GoTy.rep (sortWorldK (gQ (GoTy.n α) cells x.length) (GoTy.n α) w0 b 0 m dk os) (λ_=>True) (gQ (GoTy.n α) cells x.length i) ((x[if i<x.length then i else 0]?).getD z):=by
  intro m os dk i
  have hw:=jw (gQ (GoTy.n α) cells x.length) (GoTy.n α) w0 b 0 m dk os
  generalize sortWorldK (gQ (GoTy.n α) cells x.length) (GoTy.n α) w0 b 0 m dk os=w1 at hw
  unfold gQ
  have hq:(if i<x.length then i else 0)<x.length:=by split <;> omega
  generalize (if i<x.length then i else 0)=q at hq
  obtain⟨Fi,hFi⟩:=qk hl (Iq hq)
  have hown:=hel q _ Fi (Iq hq) hFi
  rw[Iq hq,KI]
  refine GoTy.mono (GoTy.own_rep (GoTy.own_mono hown λc hcF=>hw.block c (GoTy.own_lt hown c hcF) λhcb=>?_)) λ_ _ _=>⟨trivial,rfl⟩
  rw[Iu]at hcb
  subst hcb
  exact hbn (fl hFi hcF)
 have hcb:∀u v:Value,#[u,v]++cb.toArray=([u,v]++cb).toArray:=λu v=>by simp
 have hcmp:CmpLays P g cb.toArray (gQ (GoTy.n α) cells x.length) (GoTy.n α) (cfAt cmp x z) b 0 (Array.range x.length).size w0:=by
  refine EC λm os dk _ i j=>?_
  rw[hcb]
  refine hc _ _ _ _ _ _ (λc hcn hcl=>⟨trivial,(jw _ _ w0 b 0 m dk os).block c hcl λhcb=>hcn (Il.2 (.inl hcb))⟩) (hrep m os dk i) (hrep m os dk j) ?_
  obtain⟨c,hc'⟩:=Ke.1 (hF.some_ _ (at_mem h0 z i) _ (at_mem h0 z j))
  unfold cfAt
  rw[hc']
  rfl
 have hone:∀i,∀v∈gQ (GoTy.n α) cells x.length i,v.oneCell'=true:=λi=>GoTy.one (hrep 0 #[] #[] i);have h:=AnyQ.slices_SortFunc L (GoTy.n α) aE zE (gQ (GoTy.n α) cells x.length) (qq hlen h0) hone (cfAt cmp x z) (Gz hF h0 z) g cb.toArray b 0 cap (Array.range x.length) w0 eg hcmp (Es GoTy.pos ho) hb (by rw[KC]; exact hsz);rw[KC]at h;refine h.mono λe w' ⟨he,d,m,os,hp,hs,hw⟩=>⟨_,he,?_⟩;have hds:d.size=x.length:=by rw[hp.1,KC]
 have hpl:d.toList.Perm (List.range x.length):=by
  have h3:=hp.2.2
  have e1:d.extract 0 x.length=d:=by rw[<-hds]; exact Array.extract_size
  have e2:(Array.range x.length).extract 0 x.length=Array.range x.length:=by
   have:=Array.extract_size (xs:=Array.range x.length)
   rwa [KC]at this
  rw[e1,e2]at h3
  simpa using h3
 have hgd:∀i,i<x.length->d.toList[i]?=some d[i]!:=λi hi=>by
  rw[K0,JI (by omega),getElem!_pos _ _ (by omega)]
 have hr':lU cmp x=some (d.toList.map λi=>(x[i]?).getD z):=by
  refine rK hF ?_ ?_
  · have:=hpl.map λi=>(x[i]?).getD z
    rwa [lW]at this
  · rw[List.pairwise_map]
    refine Jt.2 λi j hi hj hij=>?_
    rw[I8]at hi hj
    have h4:=hs i j (JZ _) hij (by omega)
    rw[ltAt hF h0]at h4
    rw[getElem!_pos d i hi,getElem!_pos d j hj]at h4
    have hm:∀k (hk:k<d.size),d[k]<x.length:=λk hk=>I4.1 (hpl.mem_iff.1 (ID (by rw[K0,JI hk])))
    rw[if_pos (hm j hj),if_pos (hm i hi)]at h4
    simpa only[Kp] using h4
 rw[hr]at hr';injection hr' with hr'
 have hfp:(List.flatten (d.toList.map λi=>(Fs[i]?).getD [])).Perm (List.flatten Fs):=by
  rw[<-hl]at hpl
  have:=(hpl.map λi=>(Fs[i]?).getD []).flatten
  rwa [lW]at this
 have hchg:=jw (gQ (GoTy.n α) cells x.length) (GoTy.n α) w0 b 0 m d os;have hown:=tn (m:=m) (os:=os) ho hl hel hbn hpl h0 z;rw[<-hr',<-hw]at hown;rw[<-hw]at hchg;refine⟨hchg.sub λc hc=>Il.2 (.inl (by rw[hob]; exact hc)),rfl,_,hown,?_,λc hcF=>?_⟩;rw[J8,IY,JH]at hn ⊢;exact⟨λh=>hn.1 (hfp.mem_iff.1 h),hfp.nodup_iff.2 hn.2⟩;have h5:c∈[b]++List.flatten Fs:=by
  rcases Il.1 hcF with h | h
  · exact Il.2 (.inl h)
  · exact Il.2 (.inr (hfp.mem_iff.1 h))
 exact⟨.inr (by rw[hob]; exact h5),JJ (hlt c h5) hchg.size⟩
theorem jc {s:Nat} {A:c_} {cells:p_} (h0:0<n) (ho:w.ownsRow 0 E s (.slice A n cap) n cells):∃b,A=some ⟨b,0,none⟩/\b<w.heap.size/\n<=cap/\cap<=maxLen:=by
 rcases ho.2 with ⟨-,hz⟩ | ⟨g',cap'',cur,hv,-,hg,hnc,hcm,-,-⟩
 omega;simp only[Value.slice.injEq]at hv;obtain⟨hA,-,rfl⟩:=hv;exact⟨g',hA,(Jz.1 hg).1,hnc,hcm⟩
end
section
open Go Go.RowKit
def vof (ag:Bool) (cs:p_):Value:=bif ag then .agg cs.toArray else cs.headD undef
theorem eL {α:Type} [GoTy α] (hfl:GoTy.flat α=true) {w w':World} {S T:w_} {cs:p_} {x:α} (h:GoTy.rep w S cs x):GoTy.rep w' T cs x :=
 GoTy.mono (GoTy.own_rep (GoTy.own_flat hfl h)) λb hb=>by cases hb
structure Ix (C:List (p_)) where
 i:Nat
@[reducible] def ixTy (C:List (p_)) (k:Nat) (ag:Bool) (hk:0<k) (hC:∀c∈C,c.length=k/\∀v∈c,v.oneCell'=true):GoTy (Ix C) where
 n:=k
 agg:=ag
 flat:=true
 rep _ _ cs x:=C[x.i]?=some cs
 own _ F cs x:=F=[]/\C[x.i]?=some cs
 pos:=hk
 len:=λh=>(hC _ (ID h)).1
 one:=λh=>(hC _ (ID h)).2
 mono:=λh _=>h
 own_rep:=λh=>h.2
 own_mono:=λh _=>h
 own_lt:=by rintro _ _ _ _ ⟨rfl,_⟩ _ h; cases h
 own_flat:=λ_ h=>⟨rfl,h⟩
def FnSpec (P:Program) {α σ:Type} [GoTy α] (g:Nat) (cb:p_) (del:α->σ->Option (Bool×σ)) (Q:σ->m_->MP) (w0:World) (X G0:m_):Prop :=
 ∀(w:World) (G:m_) (c:p_) (a:α) (s:σ) (q:Bool×σ),Chg w0 w (X++G0)->(Q s G).pred w (·∈G)->G.Nodup->(∀b∈G,(w0.heap.size<=b∨b∈G0)/\b∉X)->GoTy.rep w (λ_=>False) c a->del a s=some q ->
   Calls P g ([vof (GoTy.agg α) c]++cb).toArray w λe w'=>∃v,e=.returned v/\(v=.bool q.1/\∃G',Chg w w' G/\(Q q.2 G').pred w' (·∈G')/\Back w w' G G')
def ES (P:Program) (k s:Nat) (ag:Bool):Prop :=
 ∀{α σ:Type} [GoTy α] (_:GoTy.flat α=true) (_:GoTy.n α=s) (_:GoTy.agg α=ag) {g:Nat} {cb:p_} (_:CL P g) {del:α->σ->Option (Bool×σ)} {Q:σ->m_->MP} {w0:World} {G0:m_} {E:TypeId} {A:c_} {cap:Nat} {cells:p_} {x:List α} {i:Int} {s0 s1:σ}
  (_:w0.ownsRow 0 E (GoTy.n α) (.slice A x.length cap) x.length cells) (_:∀(i:Nat) (y:α),x[i]?=some y->GoTy.rep w0 (λ_=>False) (xf α cells i) y) (_:(Q s0 G0).pred w0 (·∈G0)) (_:((Value.slice A x.length cap).ownBlock.toList++G0).Nodup) (_:∀b∈G0,b<w0.heap.size)
  (_:idxO del x 0 s0=some (i,s1)) (_:FnSpec P g cb del Q w0 (Value.slice A x.length cap).ownBlock.toList G0),
  Calls P k [.slice A x.length cap,.func (.func g) #[] cb.toArray].toArray w0 λe w'=>∃v,e=.returned v/\(v=.int .i64 i/\∃G',Chg w0 w' G0/\(Q s1 G').pred w' (·∈G')/\Back w0 w' G0 G')
def rC (P:Program) (k s:Nat) (ag:Bool):Prop :=
 ∀{α σ:Type} [GoTy α] (_:GoTy.flat α=true) (_:GoTy.n α=s) (_:GoTy.agg α=ag) {g:Nat} {cb:p_} (_:CL P g) {del:α->σ->Option (Bool×σ)} {Q:σ->m_->MP} {w0:World} {G0:m_} {E:TypeId} {A:c_} {cap:Nat} {cells:p_} {x r:List α} {s0 s1:σ}
  (_:w0.ownsRow 0 E (GoTy.n α) (.slice A x.length cap) x.length cells) (_:∀(i:Nat) (y:α),x[i]?=some y->GoTy.rep w0 (λ_=>False) (xf α cells i) y) (_:(Q s0 G0).pred w0 (·∈G0)) (_:((Value.slice A x.length cap).ownBlock.toList++G0).Nodup) (_:∀b∈G0,b<w0.heap.size)
  (_:delO del x s0=some (r,s1)) (_:FnSpec P g cb del Q w0 (Value.slice A x.length cap).ownBlock.toList G0),
  Calls P k [.slice A x.length cap,.func (.func g) #[] cb.toArray].toArray w0 λe w'=>∃v,e=.returned v/\(v=.slice A r.length cap/\Chg w0 w' ((Value.slice A x.length cap).ownBlock.toList++G0) /\
   ∃E' cells' G',w'.ownsRow 0 E' (GoTy.n α) (.slice A r.length cap) r.length cells'/\(∀(i:Nat) (y:α),r[i]?=some y->GoTy.rep w' (λ_=>False) (xf α cells' i) y)/\(Q s1 G').pred w' (·∈G')/\G'.Nodup/\∀b∈G',(w0.heap.size<=b∨b∈G0)/\b∉(Value.slice A x.length cap).ownBlock.toList/\b<w'.heap.size)
section
variable {w w' w1:World} {w0:Base} {S:w_} {M:List Blk} {R:List Row} {D:List DI} {I:List (Bool×MP)}
variable {A:c_}
theorem ownB {n m cap:Nat}:(Value.slice A n cap).ownBlock=(Value.slice A m cap).ownBlock:=by cases A <;> rfl
theorem O_.startRP {α:Type} [GoTy α] (hfl:GoTy.flat α=true) {E:TypeId} {A:c_} {cap:Nat} {x:List α} {cells:p_} {G:m_} {p:MP} (S:w_) (ho:w1.ownsRow 0 E (GoTy.n α) (.slice A x.length cap) x.length cells)
 (he:∀(i:Nat) (y:α),x[i]?=some y->GoTy.rep w1 (λ_=>False) (xf α cells i) y) (hp:p.pred w1 (·∈G)) (hn:((Value.slice A x.length cap).ownBlock.toList++G).Nodup) (hl:∀b∈G,b<w1.heap.size) :
 O_ ⟨w1,(Value.slice A x.length cap).ownBlock.toList++G⟩ S [] [⟨.sh true,E,A,cap,x⟩] [⟨G,p⟩] [] w1:=by
 have ha:allZ (zs [] [⟨.sh true,E,A,cap,x⟩] [⟨G,p⟩])=(Value.slice A x.length cap).ownBlock.toList++G:=by simp [allZ,zs,Res.all,Row.res,DI.res,Kd.fd,Row.v]
 refine⟨⟨rfl,rfl,rfl,IC _,λ_ _=>rfl,IC _⟩,λc hc=>?_,by rw[ha]; exact hn,λr hr=>?_,λf hf=>(by cases hf)⟩
 rw[ha]at hc;refine⟨.inr hc,?_⟩;rcases Il.1 hc with h | h
 exact (ho.lt c (by simpa using h)).2;exact hl c h;have:r=Row.res ⟨.sh true,E,A,cap,x⟩∨r=DI.res ⟨G,p⟩:=by simpa [zs] using hr
 rcases this with rfl | rfl
 exact⟨cells,ho,trivial,λi y hy=>eL hfl (he i y hy)⟩;exact⟨hp,hl⟩
theorem O_.stOff {n cap:Nat} {G0:m_} {r:Row} {d:DI} (H:O_ ⟨w1,(Value.slice A n cap).ownBlock.toList++G0⟩ S M [r] [d] I w) (hr:r.v.ownBlock=(Value.slice A n cap).ownBlock) :
 ∀b∈d.F,(w1.heap.size<=b∨b∈G0)/\b∉(Value.slice A n cap).ownBlock.toList:=by
 intro b hb;have hnd:=MemZ.nd (MemZ.perm H (zD d));rw[va,vo]at hnd;have hx:b∉(Value.slice A n cap).ownBlock.toList:=λhx=>by
  refine (Iz.1 hnd).2.2 b (by simpa [Res.all,DI.res] using hb) b ?_ rfl
  exact dt (FF (r:=r) (by rw[hr]; exact hx))
 refine⟨?_,hx⟩;rcases (H.diNd.2 b hb).1 with h | h
 exact .inl h;rcases Il.1 h with h | h
 exact absurd h hx;exact .inr h
end
theorem ss {α:Type} {l:List α} {i:Nat} (h:i<l.length):V_ l (i:Int)=some l[i]:=by
 unfold V_;rw[if_pos (KR i),IQ,Iq h]
theorem wm {i n:Nat} (h:i<n) (hn:n<=maxLen):y_ ((i:Int) + 1)=((i + 1:Nat):Int):=by
 have:maxLen<=9223372036854775807:=by simp [maxLen]
 rw[uZ (by omega) (by omega)]; omega
theorem wZ {w:World} {E:TypeId} {s n cap:Nat} {A:c_} {cells:p_} (ho:w.ownsRow 0 E s (.slice A n cap) n cells):n<=maxLen:=by
 rcases KU n with h | h
 omega;obtain⟨b,-,-,h1,h2⟩:=jc h ho;omega
section
variable {w w':World} {w0:World} {S:w_} {M:List Blk} {R:List Row} {D:List DI} {I:List (Bool×MP)}
variable {P:Program} {α:Type} [GoTy α] {cb:p_} {G0 G:m_}
theorem FnSpec.callI {σ:Type} {g:Nat} {del:α->σ->Option (Bool×σ)} {Q:σ->m_->MP} {X:m_} {s:σ} (hc:FnSpec P g cb del Q w0 X G0) (H:O_ ⟨w0,G0⟩ S M R [⟨G,Q s G⟩] I w) (hX:∀b∈G0,b∉X) (hXl:∀b∈X,b<w0.heap.size)
 (hfl:GoTy.flat α=true) {w2:World} {T:w_} {c:p_} {a:α} {q:Bool×σ} (hr:GoTy.rep w2 T c a) (hd:del a s=some q):Calls P g ([vof (GoTy.agg α) c]++cb).toArray w λe w'=>∃v,e=.returned v/\(v=.bool q.1/\∃G',Chg w w' G/\(Q q.2 G').pred w' (·∈G')/\Back w w' G G'):=by
 refine hc w G c a s q (H.chg.sub λb hb=>Il.2 (.inr hb)) H.diFront H.diNd.1 (λb hb=>?_) (eL hfl hr) hd;rcases (H.diNd.2 b hb).1 with h | h
 exact⟨.inl h,λhx=>by have:=hXl b hx; simp only at h; omega⟩;exact⟨.inr h,hX b h⟩
theorem FnSpec.callD {σ:Type} {g:Nat} {del:α->σ->Option (Bool×σ)} {Q:σ->m_->MP} {A:c_} {n cap:Nat} {s:σ} {r:Row} (hc:FnSpec P g cb del Q w0 (Value.slice A n cap).ownBlock.toList G0) (H:O_ ⟨w0,(Value.slice A n cap).ownBlock.toList++G0⟩ S M [r] [⟨G,Q s G⟩] I w) (hr':r.v.ownBlock=(Value.slice A n cap).ownBlock)
 (hfl:GoTy.flat α=true) {w2:World} {T:w_} {c:p_} {a:α} {q:Bool×σ} (hr:GoTy.rep w2 T c a) (hd:del a s=some q):Calls P g ([vof (GoTy.agg α) c]++cb).toArray w λe w'=>∃v,e=.returned v/\(v=.bool q.1/\∃G',Chg w w' G/\(Q q.2 G').pred w' (·∈G')/\Back w w' G G') :=
 hc w G c a s q H.chg H.diFront H.diNd.1 (H.stOff hr') (eL hfl hr) hd
end
structure DelSt (α σ:Type) where
 i:Nat
 j:Nat
 s:σ
 G:m_
 y:List α
structure DelInv {α σ:Type} (del:α->σ->Option (Bool×σ)) (x r:List α) (s1:σ) (z:DelSt α σ):Prop where
 lt:z.i<z.j
 le:z.j<=x.length
 len:z.y.length=x.length
 drop:z.y.drop z.j=x.drop z.j
 rest:∃q,delO del (x.drop z.j) z.s=some (q,s1)/\r=z.y.take z.i++q
variable {α:Type} [GoTy α] {σ:Type} {k:Nat} {P:Program} {del:α->σ->Option (Bool×σ)} {x r:List α}
theorem DelInv.start {α:Type} {del:α->σ->Option (Bool×σ)} {x r l2 q2:List α} {a0:α} {s1 s:σ} {G:m_} (hk:k<x.length) (hd:x.drop k=a0::l2) (hq:delO del l2 s=some (q2,s1)) (hr:r=x.take k++q2):DelInv del x r s1 ⟨k,k + 1,s,G,x⟩:=by
 have h2:x.drop (k + 1)=l2:=by rw[<-Kl,hd]; rfl
 exact⟨Nat.lt_succ_self _,hk,rfl,rfl,q2,by rw[h2]; exact hq,hr⟩
theorem DelInv.at_ {α:Type} {del:α->σ->Option (Bool×σ)} {x r:List α} {s1:σ} {z:DelSt α σ} (h:DelInv del x r s1 z) (hj:z.j<z.y.length):∃q,del z.y[z.j] z.s=some q /\
 (q.1=true->∀G,DelInv del x r s1 ⟨z.i,z.j + 1,q.2,G,z.y⟩)/\(q.1=false->∀G,DelInv del x r s1 ⟨z.i + 1,z.j + 1,q.2,G,z.y.set z.i z.y[z.j]⟩):=by
 obtain⟨i,j,s,G,y⟩:=z;obtain⟨lt,le,len,drop,q,hq,hr⟩:=h;change j<y.length at hj;simp only at lt le len drop hq hr ⊢;have hjx:j<x.length:=by omega
 have e1:x.drop j=y[j]::x.drop (j + 1):=by
  rw[<-drop,<-IB hj]
  congr 1
  rw[<-Kl,<-Kl,drop]
 have e2:y.drop (j + 1)=x.drop (j + 1):=by rw[<-Kl,<-Kl,drop]
 rw[e1]at hq;obtain⟨b,s',q',h1,h2,h3⟩:=mD hq;refine⟨(b,s'),h1,λhb G=>?_,λhb G=>?_⟩;simp only at hb;subst hb;exact⟨by simp only; omega,by simp only; omega,len,e2,q',h2,by rw[hr]; simp only at h3 ⊢; rw[h3]; rfl⟩;simp only at hb;subst hb;refine⟨by simp only; omega,by simp only; omega,by simp only; rw[Io]; exact len,?_,q',h2,?_⟩;simp only;rw[KN (by omega)];exact e2;simp only at h3 ⊢;have hi:i<y.length:=Nat.lt_trans lt hj;rw[hr,h3];simp only[Iy,if_false];rw[KZ (by rw[Io]; exact hi),List.getElem_set_self,KO (IC _),Ir];rfl
theorem DelInv.end_ {α:Type} {del:α->σ->Option (Bool×σ)} {x r:List α} {s1:σ} {z:DelSt α σ} (h:DelInv del x r s1 z) (hj:z.j=z.y.length):r=z.y.take z.i/\z.s=s1/\z.i<z.y.length:=by
 obtain⟨i,j,s,G,y⟩:=z;obtain⟨lt,le,len,drop,q,hq,hr⟩:=h;simp only at *;rw[Jj (by omega)]at hq;unfold delO at hq;injection hq with hq
 simp only[Jx]at hq;rw[<-hq.1,II]at hr;exact⟨hr,hq.2,by omega⟩
theorem lQ:∀{X Y:List (m_)},X.Sublist Y->(List.flatten X).Sublist (List.flatten Y)
 | _,_,.slnil=>.slnil
 | _,_,.cons x h=>by rw[J3]; exact (lQ h).trans (Ju _ _)
 | _,_,.cons_cons x h=>by rw[J3,J3]; exact (Kf _).append (lQ h)
theorem nM {α σ:Type} {del del':α->σ->Option (Bool×σ)}:∀{l:List α} (s:σ),(∀a∈l,∀s,del a s=del' a s)->delO del l s=delO del' l s
 | [],s,_=>rfl
 | a::l,s,h=>by
  unfold delO
  rw[h a IK]
  congr 1
  funext r
  rw[nM r.2 λb hb=>h b (IP _ hb)]
theorem Ez (hD:rC P k (GoTy.n α) (GoTy.agg α)) {g:Nat} {cb:p_} (eg:CL P g) {del:α->σ->Option (Bool×σ)} {Q:σ->m_->MP} {w0:World} {F G0:m_} {A:c_} {cap:Nat} {x r:List α} {s0 s1:σ}
 (hO:lown w0 F [.slice A x.length cap] x) (hG:(Q s0 G0).pred w0 (·∈G0)) (hn:(F++G0).Nodup) (hGl:∀b∈G0,b<w0.heap.size) (hr:delO del x s0=some (r,s1))
 (hc:∀(w:World) (G:m_) (c:p_) (a:α) (s:σ) (q:Bool×σ),Moves w0 w (λb=>b∉F/\b∉G0) (·∉G)->(Q s G).pred w (·∈G)->G.Nodup->GoTy.rep w (·∉G) c a->del a s=some q ->
   Calls P g ([vof (GoTy.agg α) c]++cb).toArray w λe w'=>∃v,e=.returned v/\(v=.bool q.1/\∃G',Chg w w' G/\(Q q.2 G').pred w' (·∈G')/\Back w w' G G')) :
 Calls P k [.slice A x.length cap,.func (.func g) #[] cb.toArray].toArray w0 λe w'=>∃v,e=.returned v/\(v=.slice A r.length cap/\Chg w0 w' (F++G0)/\∃F' G',lown w' F' [.slice A r.length cap] r/\(Q s1 G').pred w' (·∈G')/\Back w0 w' (F++G0) (F'++G')/\(∀b∈F',b∈F)/\∀b∈G',w0.heap.size<=b∨b∈G0):=by
 have hlt:=GoTy.own_lt (α:=List α) hO;obtain⟨A',cap',E,cells,Fs,hcs,ho,rfl,hl,hel⟩:=hO;obtain⟨rfl,rfl⟩:A=A'/\cap=cap':=by simpa using hcs
 generalize hob:(Value.slice A x.length cap).ownBlock.toList=ob at hn hc hlt ⊢;obtain⟨C,hCd⟩:∃C,C=(List.range x.length).map (xf α cells):=⟨_,rfl⟩;have hCat:∀i c,C[i]?=some c->i<x.length/\c=xf α cells i:=λi c h=>by
  rw[hCd,JR]at h
  obtain⟨j,hj,rfl⟩:=IU.1 h
  obtain⟨h1,h2⟩:=It.1 hj
  rw[Jb]at h1
  rw[Js]at h2
  subst h2
  exact⟨h1,rfl⟩
 have hCof:∀i,i<x.length->C[i]?=some (xf α cells i):=λi hi=>by
  rw[hCd,JR,List.getElem?_range hi]; rfl
 have hrep:∀(i:Nat) (y:α),x[i]?=some y->∃Fi,Fs[i]?=some Fi/\GoTy.own w0 Fi (xf α cells i) y:=λi y hy=>by
  obtain⟨Fi,hFi⟩:=qk hl hy
  exact⟨Fi,hFi,hel i y Fi hy hFi⟩
 have hC:∀c∈C,c.length=GoTy.n α/\∀v∈c,v.oneCell'=true:=λc hcm=>by
  obtain⟨i,hi⟩:=Kn.1 hcm
  obtain⟨h1,rfl⟩:=hCat i c hi
  obtain⟨Fi,-,h2⟩:=hrep i _ (Iq h1)
  exact⟨GoTy.len (GoTy.own_rep h2),GoTy.one (GoTy.own_rep h2)⟩
 obtain⟨inst,hinst⟩:∃t:GoTy (Ix C),t=ixTy C (GoTy.n α) (GoTy.agg α) GoTy.pos hC:=⟨_,rfl⟩;obtain⟨y,hy⟩:∃y,y=x.zipIdx:=⟨_,rfl⟩;have hy1:y.map Prod.fst=x:=by rw[hy]; exact List.zipIdx_map_fst 0 x
 have hy2:y.map Prod.snd=List.range x.length:=by rw[hy,List.zipIdx_map_snd,List.range_eq_range']
 have hym:∀p∈y,x[p.2]?=some p.1:=λp hp=>by rw[hy]at hp; exact List.mem_zipIdx_iff_getElem?.1 hp
 obtain⟨x',hx'⟩:∃x':List (Ix C),x'=y.map λp=>⟨p.2⟩:=⟨_,rfl⟩;have hxl:x'.length=x.length:=by rw[hx',I5,<-hy1,I5]
 have hxi:∀(i:Nat) (j:Ix C),x'[i]?=some j->j.i=i:=λi j h=>by
  rw[hx',JR]at h
  obtain⟨p,hp,rfl⟩:=IU.1 h
  have h3:(y.map Prod.snd)[i]?=some p.2:=by rw[JR,hp]; rfl
  rw[hy2]at h3
  obtain⟨h1,h2⟩:=It.1 h3
  rw[Js]at h2
  exact h2.symm
 let del':Ix C->σ->Option (Bool×σ):=λj s=>(x[j.i]?).bind λa=>del a s
 have hdy:∃yr:List (α×Nat),yr.Sublist y/\r=yr.map Prod.fst/\delO del' x' s0=some (yr.map (λp=>(⟨p.2⟩:Ix C)),s1):=by
  rw[<-hy1,oS]at hr
  obtain⟨q,hq,hq2⟩:=IU.1 hr
  simp only[Jx]at hq2
  refine⟨q.1,sD hq,hq2.1.symm,?_⟩
  rw[hx',oS]
  have:delO (λ(p:α×Nat) s=>del' ⟨p.2⟩ s) y s0=delO (λ(p:α×Nat) s=>del p.1 s) y s0:=nM s0 λp hp s=>by
   show (x[p.2]?).bind _=_
   rw[hym p hp]; rfl
  rw[this,hq,<-hq2.2]
  rfl
 obtain⟨yr,hys,rfl,hdel⟩:=hdy;have hnob:ob.Nodup:=(Iz.1 (Iz.1 hn).1).1;have hobG:(ob++G0).Nodup:=by
  refine Iz.2 ⟨hnob,(Iz.1 hn).2.1,λa ha b hb=>(Iz.1 hn).2.2 a (Il.2 (.inl ha)) b hb⟩
 have hFob:∀(i:Nat) (Fi:m_),Fs[i]?=some Fi->∀b∈Fi,b∉ob/\b∉G0/\b<w0.heap.size:=λi Fi hFi b hb=>by
  have hm:=fl hFi hb
  exact⟨λh=>(Iz.1 (Iz.1 hn).1).2.2 b h b hm rfl,λh=>(Iz.1 hn).2.2 b (Il.2 (.inr hm)) b h rfl,hlt b (Il.2 (.inr hm))⟩
 have hsl:(Value.slice A x'.length cap)=.slice A x.length cap:=by rw[hxl]
 have hn1:GoTy.n (Ix C)=GoTy.n α:=by subst hinst; rfl
 have hrepI:∀{w:World} {S:w_} {c:p_} {j:Ix C},GoTy.rep w S c j↔C[j.i]?=some c:=by
  intro w S c j; subst hinst; exact Iff.rfl
 have hpart:∀cells i,xf (Ix C) cells i=xf α cells i:=λcells i=>by unfold xf; rw[hn1]
 have hfl1:GoTy.flat (Ix C)=true:=by subst hinst; rfl
 have hag1:GoTy.agg (Ix C)=GoTy.agg α:=by subst hinst; rfl
 clear hinst;have h:=hD (α:=Ix C) hfl1 hn1 hag1 eg (del:=del') (Q:=Q) (w0:=w0) (G0:=G0) (E:=E) (A:=A) (cap:=cap) (cells:=cells) (x:=x') (s0:=s0) (s1:=s1) (by rw[hsl,hn1,hxl]; exact ho)
  (λi j hj=>by
    rw[hrepI,hpart]
    have:=hxi i j hj
    have hlt2:=(It.1 hj).1
    rw[this]
    exact hCof i (by omega)) hG (by rw[hsl,hob]; exact hobG) hGl hdel
  (by
    rw[hsl,hob]
    intro w G c j s q hch hq hGn hGo hrp hdl
    rw[hrepI]at hrp
    obtain⟨hj,rfl⟩:=hCat _ _ hrp
    obtain⟨a,ha,hda⟩:=JA.1 hdl
    obtain⟨Fi,hFi,hown⟩:=hrep _ _ ha
    rw[hag1]
    refine hc w G _ a s q (λb hb hbl=>?_) hq hGn ?_ hda
    · refine⟨λhbG=>?_,hch.block b hbl λhx=>?_⟩
      · rcases (hGo b hbG).1 with h | h
        · omega
        · exact hb.2 h
      · rcases Il.1 hx with h | h
        · exact hb.1 (Il.2 (.inl h))
        · exact hb.2 h
    · refine GoTy.mono (GoTy.own_rep (GoTy.own_mono hown λb hb=>?_)) λb hb _=>⟨λhbG=>?_,rfl⟩
      · obtain⟨h1,h2,h3⟩:=hFob _ _ hFi b hb
        exact hch.block b h3 λhx=>(Il.1 hx).elim h1 h2
      · obtain⟨h1,h2,h3⟩:=hFob _ _ hFi b hb
        rcases (hGo b hbG).1 with h | h
        · omega
        · exact h2 h)
 rw[hsl,I5,hob]at h;rw[I5];refine h.mono λe w' ⟨v,he,hv,hch,E',cells',G',ho',he',hq',hGn',hGo'⟩=>⟨v,he,hv,hch.sub λb hb=>?_,?_⟩;rcases Il.1 hb with h | h
 exact Il.2 (.inl (Il.2 (.inl h)));exact Il.2 (.inr h);have hsub:(yr.map λp=>(Fs[p.2]?).getD []).Sublist Fs:=by
  have h1:=hys.map λp=>(Fs[p.2]?).getD []
  have h2:(y.map λp=>(Fs[p.2]?).getD [])=Fs:=by
   have:(y.map λp=>(Fs[p.2]?).getD [])=(y.map Prod.snd).map λi=>(Fs[i]?).getD []:=by rw[List.map_map]; rfl
   rw[this,hy2,<-hl,lW]
  rwa [h2]at h1
 have hsubf:=lQ hsub;refine⟨ob++List.flatten (yr.map λp=>(Fs[p.2]?).getD []),G',?_,hq',⟨?_,λb hb=>?_⟩,λb hb=>?_,λb hb=>(hGo' b hb).1⟩;rw[hn1]at ho';have hlen2:(yr.map Prod.fst).length=yr.length:=I5 ..;refine⟨A,cap,E',cells',yr.map λp=>(Fs[p.2]?).getD [],by rw[hlen2],by rw[hlen2]; exact ho',by rw[ownB (m:=x.length),hob],by rw[I5,I5],λi a Fi ha hFi=>?_⟩;rw[JR]at ha hFi;obtain⟨p,hp,rfl⟩:=IU.1 ha;rw[hp,KQ,IV]at hFi;have hpy:=hym p (hys.subset (ID hp));obtain⟨Fi0,hFi0,hown⟩:=hrep _ _ hpy;rw[hFi0,KI]at hFi;subst hFi;have h6:=he' i ⟨p.2⟩ (by rw[JR,hp]; rfl);rw[hrepI,hpart]at h6;rw[(hCat _ _ h6).2];refine GoTy.own_mono hown λb hb=>?_;obtain⟨h1,h2,h3⟩:=hFob _ _ hFi0 b hb;exact hch.block b h3 λhx=>(Il.1 hx).elim h1 h2;refine Iz.2 ⟨?_,hGn',λa ha b hb hab=>?_⟩;have hF:=(Iz.1 hn).1;exact (List.Sublist.append (Kf ob) hsubf).nodup hF;subst hab;obtain⟨h1,h2,h3⟩:=hGo' a hb;rcases Il.1 ha with h | h
 exact h2 h;have hm:=hsubf.subset h;rcases h1 with h1 | h1
 have:=hlt a (Il.2 (.inr hm)); omega;exact (Iz.1 hn).2.2 a (Il.2 (.inr hm)) a h1 rfl;rcases Il.1 hb with h | h
 have hm:b∈ob++List.flatten Fs:=by
  rcases Il.1 h with h | h
  · exact Il.2 (.inl h)
  · exact Il.2 (.inr (hsubf.subset h))
 exact⟨.inr (Il.2 (.inl hm)),JJ (hlt b hm) hch.size⟩;obtain⟨h1,h2,h3⟩:=hGo' b h;exact⟨h1.imp id λh=>Il.2 (.inr h),h3⟩;rcases Il.1 hb with h | h
 exact Il.2 (.inl h);exact Il.2 (.inr (hsubf.subset h))
theorem Below.chg {w w':World} (h:Below w.heap.size w w') (X:m_):Chg w w' X:=⟨h.os,h.tape,h.output,h.size,λk hk _=>h.block k hk,h.drawn⟩
theorem CM (hD:rC P k (GoTy.n α) (GoTy.agg α)) {g:Nat} {cb:p_} (eg:CL P g) {p:α->Option Bool} {w0:World} {F:m_} {A:c_} {cap:Nat} {x r:List α}
 (hO:lown w0 F [.slice A x.length cap] x) (hn:F.Nodup) (hr:CN p x=some r)
 (hc:∀(w:World) (c:p_) (a:α) (q:Bool),Moves w0 w (·∉F) (λ_=>True)->GoTy.rep w (λ_=>True) c a->p a=some q ->
   Calls P g ([vof (GoTy.agg α) c]++cb).toArray w λe w'=>∃v,e=.returned v/\(Below w.heap.size w w'/\v=.bool q)) :
 Calls P k [.slice A x.length cap,.func (.func g) #[] cb.toArray].toArray w0 λe w'=>∃v,e=.returned v/\(Chg w0 w' F/\v=.slice A r.length cap/\∃F',lown w' F' [.slice A r.length cap] r/\Back w0 w' F F'):=by
 unfold CN at hr;obtain⟨q,hq,rfl⟩:=IU.1 hr;refine (Ez hD eg (Q:=λ_ _=>⟨λ_ _=>True,λh _=>trivial⟩) (G0:=[]) (s1:=q.2) hO trivial (by rw[II]; exact hn) (λb hb=>by cases hb) (by rw[hq]) λw G c a s q' hm _ _ hrp hdl=>?_).mono ?_
 obtain⟨b,hb,rfl⟩:=IU.1 hdl;refine (hc w c a b (λbb h1 h2=>⟨trivial,(hm bb ⟨h1,λh=>by cases h⟩ h2).2⟩) (GoTy.mono hrp λ_ _ _=>⟨trivial,rfl⟩) hb).mono λe w' ⟨v,he,hbl,hv⟩=>⟨v,he,hv,[],hbl.chg _,trivial,List.nodup_nil,λb hb=>by cases hb⟩
 rintro e w' ⟨v,he,hv,hch,F',G',ho,-,hbk,-,-⟩;rw[II]at hch hbk;exact⟨v,he,hch,hv,F',ho,(Iz.1 hbk.1).1,λb hb=>hbk.2 b (Il.2 (.inl hb))⟩
section
variable {w w' w1:World} {w0:Base} {S:w_} {M:List Blk} {R:List Row} {D:List DI} {I:List (Bool×MP)}
theorem O_.wroteC {F F':m_} {c c':p_} {x x':α} (H:O_ w0 S M R (⟨F,MP.own F c x⟩::D) I w) (hR:R.all Row.tightB=true) (hc:Chg w w' F) (ho:GoTy.own w' F' c' x') (hb:Back w w' F F'):O_ w0 S M R (⟨F',MP.own F' c' x'⟩::D) [] w' :=
 H.wroteP hR hc ⟨ho,λ_ h=>h⟩ hb
end
end
section
open Go Go.RowKit Go.Proofs Go.Sort Go.Lib Go.Shelf
variable {w:World} {A:c_} {cap b n:Nat} {x:d_} {E:TypeId} {P:Program}
theorem FO {F:m_} (h:lown w F [.slice A x.length cap] x):∃E,w.ownsRow 0 E 1 (.slice A x.length cap) x.length (x.map (Value.int .i64))/\F=(Value.slice A x.length cap).ownBlock.toList:=by
 obtain⟨A',cap',E,cells,Fs,hcs,ho,hF,hl,hel⟩:=h;obtain⟨rfl,rfl⟩:A=A'/\cap=cap':=by simpa using hcs
 have hlen:cells.length=x.length * 1:=ho.1;have hE:∀(i:Nat) (y:Int) (Fi:m_),x[i]?=some y->Fs[i]?=some Fi->Fi=[]/\xf Int cells i=[.int .i64 y]:=hel;have hc:cells=x.map (Value.int .i64):=by
  apply Kq
  intro i
  by_cases hi:i<x.length
  · obtain⟨Fi,hFi⟩:=qk hl (Iq hi)
    have h2:=(hE i _ Fi (Iq hi) hFi).2
    have h3:(xf Int cells i)[0]?=some (.int .i64 x[i]):=by rw[h2]; rfl
    unfold xf at h3
    rw[show GoTy.n Int=1 from rfl,Nat.mul_one,IN (by omega),I0,I6]at h3
    rw[h3,JR,Iq hi]; rfl
  · rw[Ji (by omega),Ji (by simp; omega)]
 have hz:List.flatten Fs=[]:=by
  rw[List.flatten_eq_nil_iff]
  intro Fi hFi
  obtain⟨i,hi⟩:=Kn.1 hFi
  have hlt:i<x.length:=by rw[<-hl]; exact (It.1 hi).1
  exact (hE i _ Fi (Iq hlt) hi).1
 exact⟨E,by rw[<-hc]; exact ho,by rw[hF,hz,II]⟩
theorem sf (h:w.ownsRow 0 E 1 (.slice A x.length cap) x.length (x.map (Value.int .i64))):lown w (Value.slice A x.length cap).ownBlock.toList [.slice A x.length cap] x:=by
 refine⟨A,cap,E,_,List.replicate x.length [],rfl,h,by rw[mB,II],J7,λi y Fi hy hF=>?_⟩;have hi:=(It.1 hy).1;rw[JX,if_pos hi,IV]at hF;subst hF;refine⟨rfl,?_⟩;unfold xf;rw[show GoTy.n Int=1 from rfl,Nat.mul_one,<-List.map_drop,<-List.map_take];obtain⟨h1,rfl⟩:=It.1 hy;rw[<-IB h1];rfl
theorem rW (w:World) (b m:Nat) (d:Array Int) (os:Array Obj):Chg w (grow (putRow (Value.int .i64) (Sort.ahead w m) b 0 d) os) [b]:=by
 unfold putRow mapBlock Go.Sort.grow Go.Sort.ahead;refine⟨rfl,rfl,rfl,by simp,λc hc hn=>?_,Nat.le_add_right _ _⟩;simp only;rw[J0 (by simpa using hc),Km,if_neg (λe=>hn (by simp [e]))]
theorem putI {m:Nat} {cells:p_} {d r:d_} {os:Array Obj} (hd:d.length=n) (hr:r=d.take r.length) (hrl:r.length<=n) (ho:w.ownsRow 0 E 1 (.slice (some ⟨b,0,none⟩) n cap) n cells) :
 (grow (putRow (Value.int .i64) (Sort.ahead w m) b 0 d.toArray) os).ownsRow 0 E 1 (.slice (some ⟨b,0,none⟩) r.length cap) r.length (r.map (Value.int .i64)):=by
 refine⟨by simp,?_⟩;rcases ho.2 with ⟨h',_⟩ | ⟨g',cap',cur,h',hB,hg,hnc,hcm,hcs,htake⟩
 simp at h';simp only[Value.slice.injEq,IV,Addr.mk.injEq,and_true,true_and]at h';obtain⟨rfl,rfl⟩:=h';have hlt:b<w.heap.size:=(Jz.1 hg).1;have hsz:(putCells (Value.int .i64) 0 d.toArray cur).size=cur.size:=by simp [putCells]
 refine .inr ⟨b,cap,putCells (Value.int .i64) 0 d.toArray cur,rfl,hB,?_,by omega,hcm,by rw[hsz]; exact hcs,?_⟩;unfold putRow mapBlock Go.Sort.grow Go.Sort.ahead;simp only;rw[J0 (by simpa using hlt),Km,if_pos rfl,hg];rfl;apply JW;rw[Is,I5,I8 (xs:=putCells (Value.int .i64) 0 d.toArray cur),hsz];omega;intro i h1 h2;have hi:i<r.length:=by simpa using h2
 rw[Ja,Kp];simp only[putCells,Array.getElem_mapIdx];rw[if_pos ⟨JZ _,by rw[JD]; omega⟩];simp only[Kg];rw[J9];congr 1;have e:d.toArray[i]! =d[i]'(by omega):=by rw[getElem!_pos _ _ (by rw[JD]; omega)]; simp
 rw[e];have h5:r[i]?=(d.take r.length)[i]?:=by rw[<-hr]
 rw[Iq hi,IN hi,Iq (by omega)]at h5;exact (Im h5).symm
theorem Dv (hx:x.length=n) (ho:w.ownsRow 0 E 1 (.slice (some ⟨b,0,none⟩) n cap) n (x.map (Value.int .i64))):Holds (Value.int .i64) w b 0 x.toArray:=by
 intro j hj;rw[JD]at hj;have h1:=ho.cells (g:=b) rfl j (.int .i64 x[j]) (by rw[JR,Iq hj]; rfl);rw[add_lit]at h1;refine⟨?_,ho.frozenAt _⟩;rw[h1,getElem!_pos _ _ (by simpa using hj)];simp
theorem wI {ρ:Ren} (L:Lays.n189 P ρ) {w0:World} {F:m_} {A:c_} {cap:Nat} {x r:d_} (hO:lown w0 F [.slice A x.length cap] x) (hn:F.Nodup) (hr:BI x=some r) :
 Calls P (ρ.f 189) #[.slice A x.length cap] w0 λe w'=>∃v,e=.returned v/\(Chg w0 w' F/\v=.tuple #[]/\∃F',lown w' F' [.slice A x.length cap] r/\Back w0 w' F F'):=by
 have hlt:=GoTy.own_lt (α:=d_) hO;unfold BI at hr;split at hr
 case isFalse=>cases hr
 rename_i hsz;injection hr with hr
 have hrl:r.length=x.length:=by rw[<-hr]; simp
 rcases KU x.length with h0 | h0
 · have hx:x=[]:=IL h0
   subst hx
   have hr0:r=[]:=Ln.1 hrl
   subst hr0
   refine (Any.slices_Sort_int_none L A cap w0).mono λe w' ⟨he,hw⟩=>⟨_,he,?_⟩
   subst hw
   exact⟨Chg.refl _ _,rfl,F,hO,hn,λb hb=>⟨.inr hb,hlt b hb⟩⟩
 · obtain⟨E,ho,rfl⟩:=FO hO
   obtain⟨b,rfl,hb,-,-⟩:=jc h0 ho
   refine (Any.slices_Sort_int L b 0 cap x w0 (Dv rfl ho) hb hsz).mono λe w' ⟨he,m,os,hw⟩=>⟨_,he,?_⟩
   rw[hr]at hw
   have hc:=rW w0 b m r.toArray os
   have hp:=putI (m:=m) (os:=os) (r:=r) hrl (by simp) (by omega) ho
   rw[<-hw]at hc hp
   refine⟨hc,rfl,[b],?_,by simp,λc hcb=>⟨.inr hcb,JJ (hlt c hcb) hc.size⟩⟩
   rw[<-hrl]
   exact sf hp
theorem kv (x:d_):Lib.compact x=nq x:=by
 have h:∀m,m<=x.length->compactUpTo x.toArray m=nq (x.take m):=by
  intro m
  induction m with
  | zero=>intro _; simp [compactUpTo,nq]
  | succ m ih =>
   intro hm
   rw[compactUpTo_succ,ih (by omega),KZ (by omega),tN]
   congr 1
   have e1:x.toArray[m]! =x[m]:=by rw[getElem!_pos _ _ (by simp; omega)]; simp
   by_cases h0:m=0
   · subst h0; simp [keeps,e1]
   · have e2:x.toArray[m - 1]! =x[m - 1]:=by rw[getElem!_pos _ _ (by simp; omega)]; simp
     have e3:((x.take m).getLast?).getD 0=x[m - 1]:=by
      rw[KL,Is,Jy (by omega),IN (by omega),Iq (by omega)]; rfl
     have e4:x.take m≠[]:=by
      intro h
      have:=congrArg List.length h
      rw[Is,JG,Jy (by omega)]at this
      omega
     rw[e3,e1]
     by_cases h5:x[m]=x[m - 1]
     · simp [keeps,e1,e2,h5,h0,e4]
     · simp [keeps,e1,e2,h5,h0,e4]
 have:=h x.length (IC _);rw[KG]at this;exact this
theorem Bj (x:d_):(nq x).length<=x.length:=by
 rw[<-kv];unfold Lib.compact compactUpTo;rw[I5];exact Jo (K2 _ _) (by simp)
theorem Bi {ρ:Ren} (L:Lays2.n20 P ρ) {w0:World} {F:m_} {A:c_} {cap:Nat} {x r:d_} (hO:lown w0 F [.slice A x.length cap] x) (hn:F.Nodup) (hr:some (nq x)=some r) :
 Calls P (ρ.f 20) #[.slice A x.length cap] w0 λe w'=>∃v,e=.returned v/\(Chg w0 w' F/\v=.slice A r.length cap/\∃F',lown w' F' [.slice A r.length cap] r/\Back w0 w' F F'):=by
 have hlt:=GoTy.own_lt (α:=d_) hO;injection hr with hr
 rcases KU x.length with h0 | h0
 have hx:x=[]:=IL h0;subst hx;subst hr;refine (Any.slices_Compact_int_empty L A cap w0).mono λe w' ⟨he,hw⟩=>⟨_,he,?_⟩;subst hw;exact⟨Chg.refl _ _,rfl,F,hO,hn,λb hb=>⟨.inr hb,hlt b hb⟩⟩;obtain⟨E,ho,rfl⟩:=FO hO;obtain⟨b,rfl,hb,hcap,hcm⟩:=jc h0 ho;have hx1:x.length<=9223372036854775807:=by
  have:maxLen<=9223372036854775807:=by simp [maxLen]
  omega
 refine (Any.slices_Compact_int L b 0 cap x w0 (Dv rfl ho) hx1 hcap).mono λe w' ⟨he,q,hw⟩=>⟨_,he,?_⟩;rw[kv,hr]at hw;rw[kv,hr];have hrl:r.length<=x.length:=by rw[<-hr]; exact Bj x
 rw[<-grow_empty (putRow _ _ _ _ _)]at hw;have hc:=rW w0 b q (r++List.replicate (x.length - r.length) 0).toArray #[];have hp:=putI (m:=q) (os:=#[]) (r:=r) (d:=r++List.replicate (x.length - r.length) 0) (by simp; omega) (by simp) hrl ho;rw[<-hw]at hc hp;exact⟨hc,rfl,[b],sf hp,by simp,λc hcb=>⟨.inr hcb,JJ (hlt c hcb) hc.size⟩⟩
end
end AT
