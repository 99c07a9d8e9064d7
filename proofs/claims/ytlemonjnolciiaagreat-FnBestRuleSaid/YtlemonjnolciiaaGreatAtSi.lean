/- The library's sort of a row by a compare function, in the words of the walks. -/
import Derived.Test.YtlemonjnolciiaaGreatAtPI
import Derived.Shelf.SlSortCmp.WholeK
import Derived.Shelf.SlSortCmp.NoneTotal
import Derived.Shelf.Sort.Plain
import Derived.Shelf.Slices.In.SortNone
import Derived.Shelf.Slices.CompactI
set_option linter.unusedSimpArgs false
set_option linter.unusedVariables false
namespace AT
section
open Go Go.RowKit Go.Proofs Go.Sort Go.Lib Go.Shelf
theorem Below.grown {W w':World} (h:Below W.heap.size W w'):∃q os',w'=Go.Sort.grow (W.drewN q) os':=by
 refine⟨w'.drawn - W.drawn,w'.heap.extract W.heap.size w'.heap.size,?_⟩;have hh:w'.heap=W.heap++w'.heap.extract W.heap.size w'.heap.size:=by
  have hs:=h.size
  apply Array.ext
  · simp; omega
  · intro i h1 h2
    rw[Array.getElem_append]
    split
    · rename_i hi
      have:=h.block i hi
      rw[HZ h1,HZ hi]at this
      exact GJ this
    · rename_i hi
      rw[Array.getElem_extract]
      congr 1
      omega
 have hd:=h.drawn;cases w'
 cases W;simp only[Go.Sort.grow,World.drewN]at *;have h1:=h.os;have h2:=h.tape;have h3:=h.output;simp only at h1 h2 h3;subst h1; subst h2; subst h3;simp only[World.mk.injEq,true_and,and_true];exact⟨hh,by omega⟩
variable {β:Type} [Inhabited β]
theorem C2 {P:Program} {g:Nat} {cb:Array Value} {enc:β->p_} {k:Nat} {cf:β->β->Int} {blk off size:Nat} {w:World}
 (h:∀(m:Nat) (os:Array Obj) (dk:Array β),dk.size=size->∀x y:β,Calls P g (#[.agg (enc x).toArray,.agg (enc y).toArray]++cb) (sortWorldK enc k w blk off m dk os) λe w'=>∃v,e=.returned v/\(Below (sortWorldK enc k w blk off m dk os).heap.size (sortWorldK enc k w blk off m dk os) w'/\v=.int .i64 (cf x y))):CmpLays P g cb enc k cf blk off size w :=
 λm os dk hs x y=>(h m os dk hs x y).mono λe w' ⟨v,he,hb,hv⟩=>⟨by rw[he,hv],hb.grown⟩
theorem jj (enc:β->p_) (k:Nat) (w:World) (blk off m:Nat) (dk:Array β) (os:Array Obj):Chg w (sortWorldK enc k w blk off m dk os) [blk]:=by
 unfold sortWorldK putRowK putRow mapBlock Go.Sort.grow Go.Sort.ahead;refine⟨rfl,rfl,rfl,by simp,λc hc hn=>?_,Nat.le_add_right _ _⟩;simp only;rw[It (by simpa using hc),IP,if_neg (λe=>hn (by simp [e]))]
def gH (k:Nat) (cells:p_) (n i:Nat):p_:=(cells.drop ((if i<n then i else 0) * k)).take k
variable {w:World} {b n cap k m:Nat} {E:TypeId}
theorem CX {B:Nat} {cells:p_} (hk:0<k) (ho:w.ownsRow B E k (.slice (some ⟨b,0,none⟩) n cap) n cells):HoldsK (gH k cells n) k w b 0 (Array.range n):=by
 intro j hj;rw[size_flatK,Jc]at hj;have hc:cells.length=n * k:=ho.1;have hd:j / k<n:=Nat.div_lt_of_lt_mul (by rw[Jh]; exact hj);have hm:j % k<k:=Nat.mod_lt _ hk;have hdm:j / k * k + j % k=j:=by rw[Jh]; exact Nat.div_add_mod j k
 have hle:j / k * k + k<=n * k:=by
  have:=Hb k (show j / k + 1<=n from hd)
  rwa [Iq]at this
 have e1:(Array.range n)[j / k]! =j / k:=by
  rw[getElem!_pos _ _ (by simpa using hd)]; simp
 have e2:(flatK (gH k cells n) k (Array.range n))[j]! =cells[j]'(by omega):=by
  rw[get_flatK _ _ _ _ (by simpa using hj),e1,gH,if_pos hd,getElem!_pos _ _ (by simp; omega)]
  simp only[Hu,Im]
  congr 1
 rw[e2,HA];exact⟨by rw[ho.cellAt _ (by omega)]; exact GM _,ho.frozenAt _⟩
theorem tq {B:Nat} {cells:p_} {enc:β->p_} {d:Array β} {os:Array Obj} (hd:d.size=n)
 (ho:w.ownsRow B E k (.slice (some ⟨b,0,none⟩) n cap) n cells):(sortWorldK enc k w b 0 m d os).ownsRow B E k (.slice (some ⟨b,0,none⟩) n cap) n (flatK enc k d).toList:=by
 refine⟨by rw[Hw,size_flatK,hd],?_⟩;rcases ho.2 with ⟨h',_⟩ | ⟨g',cap',cur,h',hB,hg,hnc,hcm,hcs,htake⟩
 simp at h';simp only[Value.slice.injEq,Hj,Addr.mk.injEq,and_true,true_and]at h';obtain⟨rfl,rfl⟩:=h';have hlt:b<w.heap.size:=(HQ.1 hg).1;have hle:n * k<=cur.size:=by rw[hcs]; exact Hb k hnc
 have hsz:(putCells id 0 (flatK enc k d) cur).size=cur.size:=by simp [putCells]
 refine .inr ⟨b,cap,putCells id 0 (flatK enc k d) cur,rfl,hB,?_,hnc,hcm,by rw[hsz]; exact hcs,?_⟩;unfold sortWorldK putRowK putRow mapBlock Go.Sort.grow Go.Sort.ahead;simp only;rw[It (by simpa using hlt),IP,if_pos rfl,hg];rfl;apply IE;rw[GO,Hw,Hw,hsz,size_flatK,hd];omega;intro i h1 h2;have hi:i<n * k:=by rw[Hw,size_flatK,hd]at h2; exact h2
 rw[Hu,IR,IR];simp only[putCells,Array.getElem_mapIdx];rw[if_pos ⟨IK _,by rw[size_flatK,hd]; omega⟩];simp only[IZ,id];rw[getElem!_pos _ _ (by rw[size_flatK,hd]; exact hi)]
theorem wO {enc:Nat->p_} (hk:∀i,(enc i).length=k) (d:Array Nat) {j:Nat} (hj:j<d.size):((flatK enc k d).toList.drop (j * k)).take k=enc d[j]!:=by
 have hle:j * k + k<=d.size * k:=by
  have:=Hb k (show j + 1<=d.size from hj)
  rwa [Iq]at this
 apply IE;rw[GO,Hd,Hw,size_flatK,hk];omega;intro i h1 h2;have hi:i<k:=by rw[hk]at h2; exact h2
 have hlt:j * k + i<d.size * k:=by omega
 rw[Hu,Im,IR];have e:=get_flatK enc k d (j * k + i) hlt;rw[getElem!_pos _ _ (by rw[size_flatK]; exact hlt)]at e;rw[e];have e1:(j * k + i) / k=j:=by rw[Jh,Nat.mul_add_div (by omega),Nat.div_eq_of_lt hi,Hz]
 have e2:(j * k + i) % k=i:=by rw[Jh,Nat.mul_add_mod,Nat.mod_eq_of_lt hi]
 rw[e1,e2,getElem!_pos _ _ (by rw[hk]; exact hi)]
theorem pM {cells:p_} (hc:cells.length=n * k) (hn:0<n) (i:Nat):(gH k cells n i).length=k:=by
 unfold gH;have h:(if i<n then i else 0)<n:=by split <;> omega
 generalize (if i<n then i else 0)=q at h
 have:=Hb k (show q + 1<=n from h);rw[Iq]at this;rw[GO,Hd,hc];omega
theorem r9 {α:Type} [GoTy α] {cells:p_} {x:List α} {Fs:List (m_)} {d:Array Nat} {os:Array Obj}
 (ho:w.ownsRow 0 E (GoTy.n α) (.slice (some ⟨b,0,none⟩) x.length cap) x.length cells) (hl:Fs.length=x.length) (he:∀(i:Nat) (y:α) (Fi:m_),x[i]?=some y->Fs[i]?=some Fi->GoTy.own w Fi (xX α cells i) y)
 (hb:b∉List.flatten Fs) (hp:d.toList.Perm (List.range x.length)) (hx:0<x.length) (z:α) :
 lown (sortWorldK (gH (GoTy.n α) cells x.length) (GoTy.n α) w b 0 m d os) ([b]++List.flatten (d.toList.map λi=>(Fs[i]?).getD [])) [.slice (some ⟨b,0,none⟩) x.length cap] (d.toList.map λi=>(x[i]?).getD z):=by
 have hds:d.size=x.length:=by have:=hp.length_eq; rwa [Hw,Hx]at this
 have hc:cells.length=x.length * GoTy.n α:=ho.1;have hlen:(d.toList.map λi=>(x[i]?).getD z).length=x.length:=by rw[Hn,Hw,hds]
 refine⟨some ⟨b,0,none⟩,cap,E,(flatK (gH (GoTy.n α) cells x.length) (GoTy.n α) d).toList,d.toList.map λi=>(Fs[i]?).getD [],by rw[hlen],by rw[hlen]; exact tq hds ho,by rw[hlen]; rfl,by rw[Hn,Hn],λj y Fi hy hF=>?_⟩;have hj:j<d.size:=by have:=(GQ.1 hy).1; rwa [Hn,Hw]at this
 have hdj:d.toList[j]?=some d[j]:=by rw[Ju,HZ hj]
 rw[JM,hdj,Option.map_some,Hj]at hy hF;have hi:d[j]<x.length:=Hv.1 (hp.mem_iff.1 (GX hdj));rw[GM hi,Jz]at hy;have hi2:d[j]<Fs.length:=by rw[hl]; exact hi
 rw[GM hi2,Jz]at hF;subst hy; subst hF;have e:xX α (flatK (gH (GoTy.n α) cells x.length) (GoTy.n α) d).toList j=xX α cells d[j]:=by
  unfold xX
  rw[wO (pM hc hx) d hj,getElem!_pos d j hj,gH,if_pos hi]
 rw[e];have hown:=he d[j] _ _ (GM hi) (GM hi2);refine GoTy.own_mono hown λc hcF=>?_;refine (jj _ _ w b 0 m d os).block c (GoTy.own_lt hown c hcF) λhcb=>?_;rw[GR]at hcb;subst hcb;exact hb (Jy.2 ⟨_,GW hi2,hcF⟩)
def cfAt {α:Type} (cmp:α->α->Option Int) (x:List α) (z:α) (i j:Nat):Int:=(cmp ((x[if i<x.length then i else 0]?).getD z) ((x[if j<x.length then j else 0]?).getD z)).getD 0
variable {α:Type} {x:List α} {cmp:α->α->Option Int}
theorem at_mem (hx:0<x.length) (z:α) (i:Nat):(x[if i<x.length then i else 0]?).getD z∈x:=by
 have h:(if i<x.length then i else 0)<x.length:=by split <;> omega
 generalize (if i<x.length then i else 0)=q at h
 rw[GM h];exact GW h
theorem ltAt (hF:SoF cmp x) (hx:0<x.length) (z:α) (i j:Nat):ltOf (cfAt cmp x z) i j=O1 cmp ((x[if i<x.length then i else 0]?).getD z) ((x[if j<x.length then j else 0]?).getD z):=by
 have h:=hF.some_ _ (at_mem hx z i) _ (at_mem hx z j);unfold ltOf cfAt O1;obtain⟨c,hc⟩:=IT.1 h;rw[hc];rfl
theorem EF (hF:SoF cmp x) (hx:0<x.length) (z:α):SWO (ltOf (cfAt cmp x z)) where
 irrefl i:=by rw[ltAt hF hx]; exact hF.irr _ (at_mem hx z i)
 trans i j k h1 h2:=by
  rw[ltAt hF hx]at *
  exact hF.trans _ (at_mem hx z i) _ (at_mem hx z j) _ (at_mem hx z k) h1 h2
 ntrans i j k h1 h2:=by
  rw[ltAt hF hx]at *
  exact hF.nt (at_mem hx z k) (at_mem hx z j) (at_mem hx z i) h2 h1
theorem oY {β:Type} (x:List β) (z:β):(List.range x.length).map (λi=>(x[i]?).getD z)=x:=by
 apply IE;simp;intro i h1 h2;simp [GM h2]
theorem Ap {α:Type} [GoTy α] [DecidableEq α] {P:Program} {ρ:Ren} (L:SlLaysF0.n6 P ρ) (aE:∀w,(isAgg (ρ.t 24)).run P w=.ok true w) (zE:∀w,(Go.sizeOf (ρ.t 24)).run P w=.ok (GoTy.n α) w)
 {g:Nat} {cb:p_} (eg:∀args w,(callFunc g args).run P w=.ok (.enter g args) w) {cmp:α->α->Option Int} {w0:World} {F:m_} {A:c_} {cap:Nat} {x r:List α}
 (hO:lown w0 F [.slice A x.length cap] x) (hn:F.Nodup) (hr:lu cmp x=some r)
 (hc:∀(w:World) (c1 c2:p_) (a b:α) (v:Int),Moves w0 w (·∉F) (λ_=>True)->GoTy.rep w (λ_=>True) c1 a->GoTy.rep w (λ_=>True) c2 b->cmp a b=some v->Calls P g ([Value.agg c1.toArray,Value.agg c2.toArray]++cb).toArray w λe w'=>∃u,e=.returned u/\(Below w.heap.size w w'/\u=.int .i64 v)) :
 Calls P (ρ.f 6) #[.slice A x.length cap,.func (.func g) #[] cb.toArray] w0 λe w'=>∃v,e=.returned v/\(Chg w0 w' F/\v=.tuple #[]/\∃F',lown w' F' [.slice A x.length cap] r/\Back w0 w' F F'):=by
 have hlt:=GoTy.own_lt (α:=List α) hO;obtain⟨hF,hperm,hsorted⟩:=nM hr;rcases JH x.length with h0 | h0
 have hx:x=[]:=G6 h0;subst hx;have hr0:r=[]:=JV.1 hperm.length_eq;subst hr0;refine (AnyF.slices_SortFunc_none L A cap _ w0).mono λe w' ⟨he,hw⟩=>⟨_,he,?_⟩;subst hw;exact⟨Chg.refl _ _,rfl,F,hO,hn,λb hb=>⟨.inr hb,hlt b hb⟩⟩;obtain⟨A',cap',E,cells,Fs,hcs,ho,rfl,hl,hel⟩:=hO;obtain⟨rfl,rfl⟩:A=A'/\cap=cap':=by simpa using hcs
 obtain⟨b,rfl,hb⟩:∃b,A=some ⟨b,0,none⟩/\b<w0.heap.size:=by
  rcases ho.2 with ⟨-,hz⟩ | ⟨g',cap'',cur,hv,-,hg,hnc,hcm,-,-⟩
  · omega
  · simp only[Value.slice.injEq]at hv
    exact⟨g',hv.1,(HQ.1 hg).1⟩
 have hsz:=hF.len;have hob:(Value.slice (some ⟨b,0,none⟩) x.length cap).ownBlock.toList=[b]:=rfl;rw[hob]at hn hc hlt;have hbn:b∉List.flatten Fs:=by
  rw[ID,Hi,Ib]at hn
  exact hn.1
 have hlen:cells.length=x.length * GoTy.n α:=ho.1;obtain⟨z,hz⟩:∃z,x[0]?=some z:=⟨_,GM h0⟩;have hrep:∀(m:Nat) (os:Array Obj) (dk:Array Nat) (i:Nat),GoTy.rep (sortWorldK (gH (GoTy.n α) cells x.length) (GoTy.n α) w0 b 0 m dk os) (λ_=>True) (gH (GoTy.n α) cells x.length i) ((x[if i<x.length then i else 0]?).getD z):=by
  intro m os dk i
  have hw:=jj (gH (GoTy.n α) cells x.length) (GoTy.n α) w0 b 0 m dk os
  generalize sortWorldK (gH (GoTy.n α) cells x.length) (GoTy.n α) w0 b 0 m dk os=w1 at hw
  unfold gH
  have hq:(if i<x.length then i else 0)<x.length:=by split <;> omega
  generalize (if i<x.length then i else 0)=q at hq
  obtain⟨Fi,hFi⟩:=ru hl (GM hq)
  have hown:=hel q _ Fi (GM hq) hFi
  rw[GM hq,Jz]
  refine GoTy.mono (GoTy.own_rep (GoTy.own_mono hown λc hcF=>hw.block c (GoTy.own_lt hown c hcF) λhcb=>?_)) λ_ _ _=>⟨trivial,rfl⟩
  rw[GR]at hcb
  subst hcb
  exact hbn (fO hFi hcF)
 have hcb:∀u v:Value,#[u,v]++cb.toArray=([u,v]++cb).toArray:=λu v=>by simp
 have hcmp:CmpLays P g cb.toArray (gH (GoTy.n α) cells x.length) (GoTy.n α) (cfAt cmp x z) b 0 (Array.range x.length).size w0:=by
  refine C2 λm os dk _ i j=>?_
  rw[hcb]
  refine hc _ _ _ _ _ _ (λc hcn hcl=>⟨trivial,(jj _ _ w0 b 0 m dk os).block c hcl λhcb=>hcn (GI.2 (.inl hcb))⟩) (hrep m os dk i) (hrep m os dk j) ?_
  obtain⟨c,hc'⟩:=IT.1 (hF.some_ _ (at_mem h0 z i) _ (at_mem h0 z j))
  unfold cfAt
  rw[hc']
  rfl
 have hone:∀i,∀v∈gH (GoTy.n α) cells x.length i,v.oneCell'=true:=λi=>GoTy.one (hrep 0 #[] #[] i);have h:=AnyQ.slices_SortFunc L (GoTy.n α) aE zE (gH (GoTy.n α) cells x.length) (pM hlen h0) hone (cfAt cmp x z) (EF hF h0 z) g cb.toArray b 0 cap (Array.range x.length) w0 eg hcmp (CX GoTy.pos ho) hb (by rw[Jc]; exact hsz);rw[Jc]at h;refine h.mono λe w' ⟨he,d,m,os,hp,hs,hw⟩=>⟨_,he,?_⟩;have hds:d.size=x.length:=by rw[hp.1,Jc]
 have hpl:d.toList.Perm (List.range x.length):=by
  have h3:=hp.2.2
  have e1:d.extract 0 x.length=d:=by rw[<-hds]; exact Array.extract_size
  have e2:(Array.range x.length).extract 0 x.length=Array.range x.length:=by
   have:=Array.extract_size (xs:=Array.range x.length)
   rwa [Jc]at this
  rw[e1,e2]at h3
  simpa using h3
 have hgd:∀i,i<x.length->d.toList[i]?=some d[i]!:=λi hi=>by
  rw[Ju,HZ (by omega),getElem!_pos _ _ (by omega)]
 have hr':lu cmp x=some (d.toList.map λi=>(x[i]?).getD z):=by
  refine qR hF ?_ ?_
  · have:=hpl.map λi=>(x[i]?).getD z
    rwa [oY]at this
  · rw[List.pairwise_map]
    refine HM.2 λi j hi hj hij=>?_
    rw[Hw]at hi hj
    have h4:=hs i j (IK _) hij (by omega)
    rw[ltAt hF h0]at h4
    rw[getElem!_pos d i hi,getElem!_pos d j hj]at h4
    have hm:∀k (hk:k<d.size),d[k]<x.length:=λk hk=>Hv.1 (hpl.mem_iff.1 (GX (by rw[Ju,HZ hk])))
    rw[if_pos (hm j hj),if_pos (hm i hi)]at h4
    simpa only[IR] using h4
 rw[hr]at hr';injection hr' with hr'
 have hfp:(List.flatten (d.toList.map λi=>(Fs[i]?).getD [])).Perm (List.flatten Fs):=by
  rw[<-hl]at hpl
  have:=(hpl.map λi=>(Fs[i]?).getD []).flatten
  rwa [oY]at this
 have hchg:=jj (gH (GoTy.n α) cells x.length) (GoTy.n α) w0 b 0 m d os;have hown:=r9 (m:=m) (os:=os) ho hl hel hbn hpl h0 z;rw[<-hr',<-hw]at hown;rw[<-hw]at hchg;refine⟨hchg.sub λc hc=>GI.2 (.inl (by rw[hob]; exact hc)),rfl,_,hown,?_,λc hcF=>?_⟩;rw[ID,Hi,Ib]at hn ⊢;exact⟨λh=>hn.1 (hfp.mem_iff.1 h),hfp.nodup_iff.2 hn.2⟩;have h5:c∈[b]++List.flatten Fs:=by
  rcases GI.1 hcF with h | h
  · exact GI.2 (.inl h)
  · exact GI.2 (.inr (hfp.mem_iff.1 h))
 exact⟨.inr (by rw[hob]; exact h5),IG (hlt c h5) hchg.size⟩
theorem lv {s:Nat} {A:c_} {cells:p_} (h0:0<n) (ho:w.ownsRow 0 E s (.slice A n cap) n cells):∃b,A=some ⟨b,0,none⟩/\b<w.heap.size/\n<=cap/\cap<=maxLen:=by
 rcases ho.2 with ⟨-,hz⟩ | ⟨g',cap'',cur,hv,-,hg,hnc,hcm,-,-⟩
 omega;simp only[Value.slice.injEq]at hv;obtain⟨hA,-,rfl⟩:=hv;exact⟨g',hA,(HQ.1 hg).1,hnc,hcm⟩
end
section
open Go Go.RowKit
structure Ix (C:List (p_)) where
 i:Nat
@[reducible] def ixTy (C:List (p_)) (k:Nat) (ag:Bool) (hk:0<k) (hC:∀c∈C,c.length=k/\∀v∈c,v.oneCell'=true):GoTy (Ix C) where
 n:=k
 agg:=ag
 flat:=true
 rep _ _ cs x:=C[x.i]?=some cs
 own _ F cs x:=F=[]/\C[x.i]?=some cs
 pos:=hk
 len:=λh=>(hC _ (GX h)).1
 one:=λh=>(hC _ (GX h)).2
 mono:=λh _=>h
 own_rep:=λh=>h.2
 own_mono:=λh _=>h
 own_lt:=by rintro _ _ _ _ ⟨rfl,_⟩ _ h; cases h
 own_flat:=λ_ h=>⟨rfl,h⟩
section
variable {w w' w1:World} {w0:Base} {S:w_} {M:List Blk} {R:List Row} {D:List DI} {I:List (Bool×MP)}
end
section
variable {w w':World} {w0:World} {S:w_} {M:List Blk} {R:List Row} {D:List DI} {I:List (Bool×MP)}
end
structure DelSt (α σ:Type) where
 i:Nat
 j:Nat
 s:σ
 G:m_
 y:List α
structure DelInv {α σ:Type} (del:α->σ->Option (Bool×σ)) (x r:List α) (s1:σ) (z:DelSt α σ):Prop where
 lt:z.i<z.j
 le:z.j<=x.length
 len:z.y.length=x.length
 drop:z.y.drop z.j=x.drop z.j
 rest:∃q,delO del (x.drop z.j) z.s=some (q,s1)/\r=z.y.take z.i++q
theorem DelInv.start {α σ:Type} {del:α->σ->Option (Bool×σ)} {x r l2 q2:List α} {a0:α} {s1 s:σ} {k:Nat} {G:m_} (hk:k<x.length) (hd:x.drop k=a0::l2) (hq:delO del l2 s=some (q2,s1)) (hr:r=x.take k++q2):DelInv del x r s1 ⟨k,k + 1,s,G,x⟩:=by
 have h2:x.drop (k + 1)=l2:=by rw[<-IM,hd]; rfl
 exact⟨Nat.lt_succ_self _,hk,rfl,rfl,q2,by rw[h2]; exact hq,hr⟩
theorem DelInv.at_ {α σ:Type} {del:α->σ->Option (Bool×σ)} {x r:List α} {s1:σ} {z:DelSt α σ} (h:DelInv del x r s1 z) (hj:z.j<z.y.length):∃q,del z.y[z.j] z.s=some q /\
 (q.1=true->∀G,DelInv del x r s1 ⟨z.i,z.j + 1,q.2,G,z.y⟩)/\(q.1=false->∀G,DelInv del x r s1 ⟨z.i + 1,z.j + 1,q.2,G,z.y.set z.i z.y[z.j]⟩):=by
 obtain⟨i,j,s,G,y⟩:=z;obtain⟨lt,le,len,drop,q,hq,hr⟩:=h;change j<y.length at hj;simp only at lt le len drop hq hr ⊢;have hjx:j<x.length:=by omega
 have e1:x.drop j=y[j]::x.drop (j + 1):=by
  rw[<-drop,<-GU hj]
  congr 1
  rw[<-IM,<-IM,drop]
 have e2:y.drop (j + 1)=x.drop (j + 1):=by rw[<-IM,<-IM,drop]
 rw[e1]at hq;obtain⟨b,s',q',h1,h2,h3⟩:=wT hq;refine⟨(b,s'),h1,λhb G=>?_,λhb G=>?_⟩;simp only at hb;subst hb;exact⟨by simp only; omega,by simp only; omega,len,e2,q',h2,by rw[hr]; simp only at h3 ⊢; rw[h3]; rfl⟩;simp only at hb;subst hb;refine⟨by simp only; omega,by simp only; omega,by simp only; rw[GK]; exact len,?_,q',h2,?_⟩;simp only;rw[Jl (by omega)];exact e2;simp only at h3 ⊢;have hi:i<y.length:=JZ lt hj;rw[hr,h3];simp only[GT,if_false];rw[Jt (by rw[GK]; exact hi),List.getElem_set_self,Jm (GV _),GN];rfl
theorem Below.chg {w w':World} (h:Below w.heap.size w w') (X:m_):Chg w w' X:=⟨h.os,h.tape,h.output,h.size,λk hk _=>h.block k hk,h.drawn⟩
section
variable {w w' w1:World} {w0:Base} {S:w_} {M:List Blk} {R:List Row} {D:List DI} {I:List (Bool×MP)}
theorem O_.wroteC {α:Type} [GoTy α] {F F':m_} {c c':p_} {x x':α} (H:O_ w0 S M R (⟨F,MP.own F c x⟩::D) I w) (hR:R.all Row.tightB=true) (hc:Chg w w' F) (ho:GoTy.own w' F' c' x') (hb:Back w w' F F'):O_ w0 S M R (⟨F',MP.own F' c' x'⟩::D) [] w' :=
 H.wroteP hR hc ⟨ho,λ_ h=>h⟩ hb
end
end
section
open Go Go.RowKit Go.Proofs Go.Sort Go.Lib Go.Shelf
variable {w:World} {A:c_} {cap b n:Nat} {x:d_} {E:TypeId} {P:Program}
theorem DV {F:m_} (h:lown w F [.slice A x.length cap] x):∃E,w.ownsRow 0 E 1 (.slice A x.length cap) x.length (x.map (Value.int .i64))/\F=(Value.slice A x.length cap).ownBlock.toList:=by
 obtain⟨A',cap',E,cells,Fs,hcs,ho,hF,hl,hel⟩:=h;obtain⟨rfl,rfl⟩:A=A'/\cap=cap':=by simpa using hcs
 have hlen:cells.length=x.length * 1:=ho.1;have hE:∀(i:Nat) (y:Int) (Fi:m_),x[i]?=some y->Fs[i]?=some Fi->Fi=[]/\xX Int cells i=[.int .i64 y]:=hel;have hc:cells=x.map (Value.int .i64):=by
  apply IS
  intro i
  by_cases hi:i<x.length
  · obtain⟨Fi,hFi⟩:=ru hl (GM hi)
    have h2:=(hE i _ Fi (GM hi) hFi).2
    have h3:(xX Int cells i)[0]?=some (.int .i64 x[i]):=by rw[h2]; rfl
    unfold xX at h3
    rw[show GoTy.n Int=1 from rfl,Nat.mul_one,G9 (by omega),Hl,Hz]at h3
    rw[h3,JM,GM hi]; rfl
  · rw[HF (by omega),HF (by simp; omega)]
 have hz:List.flatten Fs=[]:=by
  rw[List.flatten_eq_nil_iff]
  intro Fi hFi
  obtain⟨i,hi⟩:=I1.1 hFi
  have hlt:i<x.length:=by rw[<-hl]; exact (GQ.1 hi).1
  exact (hE i _ Fi (GM hlt) hi).1
 exact⟨E,by rw[<-hc]; exact ho,by rw[hF,hz,G8]⟩
theorem rc (h:w.ownsRow 0 E 1 (.slice A x.length cap) x.length (x.map (Value.int .i64))):lown w (Value.slice A x.length cap).ownBlock.toList [.slice A x.length cap] x:=by
 refine⟨A,cap,E,_,List.replicate x.length [],rfl,h,by rw[lZ,G8],IC,λi y Fi hy hF=>?_⟩;have hi:=(GQ.1 hy).1;rw[IL,if_pos hi,Hj]at hF;subst hF;refine⟨rfl,?_⟩;unfold xX;rw[show GoTy.n Int=1 from rfl,Nat.mul_one,<-List.map_drop,<-List.map_take];obtain⟨h1,rfl⟩:=GQ.1 hy;rw[<-GU h1];rfl
theorem qZ (w:World) (b m:Nat) (d:Array Int) (os:Array Obj):Chg w (grow (putRow (Value.int .i64) (Sort.ahead w m) b 0 d) os) [b]:=by
 unfold putRow mapBlock Go.Sort.grow Go.Sort.ahead;refine⟨rfl,rfl,rfl,by simp,λc hc hn=>?_,Nat.le_add_right _ _⟩;simp only;rw[It (by simpa using hc),IP,if_neg (λe=>hn (by simp [e]))]
theorem putI {m:Nat} {cells:p_} {d r:d_} {os:Array Obj} (hd:d.length=n) (hr:r=d.take r.length) (hrl:r.length<=n) (ho:w.ownsRow 0 E 1 (.slice (some ⟨b,0,none⟩) n cap) n cells) :
 (grow (putRow (Value.int .i64) (Sort.ahead w m) b 0 d.toArray) os).ownsRow 0 E 1 (.slice (some ⟨b,0,none⟩) r.length cap) r.length (r.map (Value.int .i64)):=by
 refine⟨by simp,?_⟩;rcases ho.2 with ⟨h',_⟩ | ⟨g',cap',cur,h',hB,hg,hnc,hcm,hcs,htake⟩
 simp at h';simp only[Value.slice.injEq,Hj,Addr.mk.injEq,and_true,true_and]at h';obtain⟨rfl,rfl⟩:=h';have hlt:b<w.heap.size:=(HQ.1 hg).1;have hsz:(putCells (Value.int .i64) 0 d.toArray cur).size=cur.size:=by simp [putCells]
 refine .inr ⟨b,cap,putCells (Value.int .i64) 0 d.toArray cur,rfl,hB,?_,by omega,hcm,by rw[hsz]; exact hcs,?_⟩;unfold putRow mapBlock Go.Sort.grow Go.Sort.ahead;simp only;rw[It (by simpa using hlt),IP,if_pos rfl,hg];rfl;apply IE;rw[GO,Hn,Hw (xs:=putCells (Value.int .i64) 0 d.toArray cur),hsz];omega;intro i h1 h2;have hi:i<r.length:=by simpa using h2
 rw[Hu,IR];simp only[putCells,Array.getElem_mapIdx];rw[if_pos ⟨IK _,by rw[If]; omega⟩];simp only[IZ];rw[IF];congr 1;have e:d.toArray[i]! =d[i]'(by omega):=by rw[getElem!_pos _ _ (by rw[If]; omega)]; simp
 rw[e];have h5:r[i]?=(d.take r.length)[i]?:=by rw[<-hr]
 rw[GM hi,G9 hi,GM (by omega)]at h5;exact (GJ h5).symm
theorem BR (hx:x.length=n) (ho:w.ownsRow 0 E 1 (.slice (some ⟨b,0,none⟩) n cap) n (x.map (Value.int .i64))):Holds (Value.int .i64) w b 0 x.toArray:=by
 intro j hj;rw[If]at hj;have h1:=ho.cells (g:=b) rfl j (.int .i64 x[j]) (by rw[JM,GM hj]; rfl);rw[add_lit]at h1;refine⟨?_,ho.frozenAt _⟩;rw[h1,getElem!_pos _ _ (by simpa using hj)];simp
theorem tr {ρ:Ren} (L:Lays.n189 P ρ) {w0:World} {F:m_} {A:c_} {cap:Nat} {x r:d_} (hO:lown w0 F [.slice A x.length cap] x) (hn:F.Nodup) (hr:Ar x=some r) :
 Calls P (ρ.f 189) #[.slice A x.length cap] w0 λe w'=>∃v,e=.returned v/\(Chg w0 w' F/\v=.tuple #[]/\∃F',lown w' F' [.slice A x.length cap] r/\Back w0 w' F F'):=by
 have hlt:=GoTy.own_lt (α:=d_) hO;unfold Ar at hr;split at hr
 case isFalse=>cases hr
 rename_i hsz;injection hr with hr
 have hrl:r.length=x.length:=by rw[<-hr]; simp
 rcases JH x.length with h0 | h0
 · have hx:x=[]:=G6 h0
   subst hx
   have hr0:r=[]:=JV.1 hrl
   subst hr0
   refine (Any.slices_Sort_int_none L A cap w0).mono λe w' ⟨he,hw⟩=>⟨_,he,?_⟩
   subst hw
   exact⟨Chg.refl _ _,rfl,F,hO,hn,λb hb=>⟨.inr hb,hlt b hb⟩⟩
 · obtain⟨E,ho,rfl⟩:=DV hO
   obtain⟨b,rfl,hb,-,-⟩:=lv h0 ho
   refine (Any.slices_Sort_int L b 0 cap x w0 (BR rfl ho) hb hsz).mono λe w' ⟨he,m,os,hw⟩=>⟨_,he,?_⟩
   rw[hr]at hw
   have hc:=qZ w0 b m r.toArray os
   have hp:=putI (m:=m) (os:=os) (r:=r) hrl (by simp) (by omega) ho
   rw[<-hw]at hc hp
   refine⟨hc,rfl,[b],?_,by simp,λc hcb=>⟨.inr hcb,IG (hlt c hcb) hc.size⟩⟩
   rw[<-hrl]
   exact rc hp
theorem j8 (x:d_):Lib.compact x=mO x:=by
 have h:∀m,m<=x.length->compactUpTo x.toArray m=mO (x.take m):=by
  intro m
  induction m with
  | zero=>intro _; simp [compactUpTo,mO]
  | succ m ih =>
   intro hm
   rw[compactUpTo_succ,ih (by omega),Jt (by omega),sJ]
   congr 1
   have e1:x.toArray[m]! =x[m]:=by rw[getElem!_pos _ _ (by simp; omega)]; simp
   by_cases h0:m=0
   · subst h0; simp [keeps,e1]
   · have e2:x.toArray[m - 1]! =x[m - 1]:=by rw[getElem!_pos _ _ (by simp; omega)]; simp
     have e3:((x.take m).getLast?).getD 0=x[m - 1]:=by
      rw[Jj,GO,Ic (by omega),G9 (by omega),GM (by omega)]; rfl
     have e4:x.take m≠[]:=by
      intro h
      have:=congrArg List.length h
      rw[GO,HP,Ic (by omega)]at this
      omega
     rw[e3,e1]
     by_cases h5:x[m]=x[m - 1]
     · simp [keeps,e1,e2,h5,h0,e4]
     · simp [keeps,e1,e2,h5,h0,e4]
 have:=h x.length (GV _);rw[Jf]at this;exact this
theorem wX (x:d_):(mO x).length<=x.length:=by
 rw[<-j8];unfold Lib.compact compactUpTo;rw[Hn];exact HS (Jw _ _) (by simp)
theorem wW {ρ:Ren} (L:Lays2.n20 P ρ) {w0:World} {F:m_} {A:c_} {cap:Nat} {x r:d_} (hO:lown w0 F [.slice A x.length cap] x) (hn:F.Nodup) (hr:some (mO x)=some r) :
 Calls P (ρ.f 20) #[.slice A x.length cap] w0 λe w'=>∃v,e=.returned v/\(Chg w0 w' F/\v=.slice A r.length cap/\∃F',lown w' F' [.slice A r.length cap] r/\Back w0 w' F F'):=by
 have hlt:=GoTy.own_lt (α:=d_) hO;injection hr with hr
 rcases JH x.length with h0 | h0
 have hx:x=[]:=G6 h0;subst hx;subst hr;refine (Any.slices_Compact_int_empty L A cap w0).mono λe w' ⟨he,hw⟩=>⟨_,he,?_⟩;subst hw;exact⟨Chg.refl _ _,rfl,F,hO,hn,λb hb=>⟨.inr hb,hlt b hb⟩⟩;obtain⟨E,ho,rfl⟩:=DV hO;obtain⟨b,rfl,hb,hcap,hcm⟩:=lv h0 ho;have hx1:x.length<=9223372036854775807:=by
  have:maxLen<=9223372036854775807:=by simp [maxLen]
  omega
 refine (Any.slices_Compact_int L b 0 cap x w0 (BR rfl ho) hx1 hcap).mono λe w' ⟨he,q,hw⟩=>⟨_,he,?_⟩;rw[j8,hr]at hw;rw[j8,hr];have hrl:r.length<=x.length:=by rw[<-hr]; exact wX x
 rw[<-grow_empty (putRow _ _ _ _ _)]at hw;have hc:=qZ w0 b q (r++List.replicate (x.length - r.length) 0).toArray #[];have hp:=putI (m:=q) (os:=#[]) (r:=r) (d:=r++List.replicate (x.length - r.length) 0) (by simp; omega) (by simp) hrl ho;rw[<-hw]at hc hp;exact⟨hc,rfl,[b],rc hp,by simp,λc hcb=>⟨.inr hcb,IG (hlt c hcb) hc.size⟩⟩
end
end AT
