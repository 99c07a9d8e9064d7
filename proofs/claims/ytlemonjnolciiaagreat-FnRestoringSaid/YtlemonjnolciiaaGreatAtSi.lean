/- The library's sort of a row by a compare function, in the words of the walks. -/
import Derived.Test.YtlemonjnolciiaaGreatAtPS
import Derived.Shelf.SlSortCmp.WholeK
import Derived.Shelf.SlSortCmp.NoneTotal
import Derived.Test.YtlemonjnolciiaaGreatAtPI
import Derived.Shelf.Sort.Plain
import Derived.Shelf.Slices.In.SortNone
import Derived.Shelf.Slices.CompactI
set_option linter.unusedSimpArgs false
set_option linter.unusedVariables false
namespace AT
open Go Go.RowKit Go.Proofs Go.Sort Go.Lib Go.Shelf
theorem Below.grown {W w':World} (h:Below W.heap.size W w'):∃q os',w'=Go.Sort.grow (W.drewN q) os':=by
  refine⟨w'.drawn - W.drawn,w'.heap.extract W.heap.size w'.heap.size,?_⟩;have hh:w'.heap=W.heap++w'.heap.extract W.heap.size w'.heap.size:=by
    have hs:=h.size
    apply Array.ext
    · simp; omega
    · intro i h1 h2
      rw[Array.getElem_append]
      split
      · rename_i hi
        have:=h.block i hi
        rw[El h1,El hi]at this
        exact CS this
      · rename_i hi
        rw[Array.getElem_extract]
        congr 1
        omega
  have hd:=h.drawn;cases w'
  cases W;simp only[Go.Sort.grow,World.drewN]at *;have h1:=h.os;have h2:=h.tape;have h3:=h.output;simp only at h1 h2 h3;subst h1; subst h2; subst h3;simp only[World.mk.injEq,true_and,and_true];exact⟨hh,by omega⟩
variable {β:Type} [Inhabited β]
theorem wB {P:Program} {g:Nat} {cb:Array Value} {enc:β→List Value} {k:Nat} {cf:β→β→Int} {blk off size:Nat} {w:World}
    (h:∀(m:Nat) (os:Array Obj) (dk:Array β),dk.size=size→∀x y:β,Calls P g (#[.agg (enc x).toArray,.agg (enc y).toArray]++cb) (sortWorldK enc k w blk off m dk os) λe w'=>∃v,e=.returned v∧(Below (sortWorldK enc k w blk off m dk os).heap.size (sortWorldK enc k w blk off m dk os) w'∧v=.int .i64 (cf x y))):CmpLays P g cb enc k cf blk off size w :=
  λm os dk hs x y=>(h m os dk hs x y).mono λe w' ⟨v,he,hb,hv⟩=>⟨by rw[he,hv],hb.grown⟩
theorem gY (enc:β→List Value) (k:Nat) (w:World) (blk off m:Nat) (dk:Array β) (os:Array Obj):Chg w (sortWorldK enc k w blk off m dk os) [blk]:=by
 unfold sortWorldK putRowK putRow mapBlock Go.Sort.grow Go.Sort.ahead;refine⟨rfl,rfl,rfl,by simp,λc hc hn=>?_,Nat.le_add_right _ _⟩;simp only;rw[EE (by simpa using hc),EL,if_neg (λe=>hn (by simp [e]))]
def fE (k:Nat) (cells:List Value) (n i:Nat):List Value:=(cells.drop ((if i<n then i else 0) * k)).take k
variable {w:World} {b n cap k m:Nat} {E:TypeId}
theorem wv {B:Nat} {cells:List Value} (hk:0<k) (ho:w.ownsRow B E k (.slice (some ⟨b,0,none⟩) n cap) n cells):HoldsK (fE k cells n) k w b 0 (Array.range n):=by
 intro j hj;rw[size_flatK,Fq]at hj;have hc:cells.length=n * k:=ho.1;have hd:j / k<n:=Nat.div_lt_of_lt_mul (by rw[Fv]; exact hj);have hm:j % k<k:=Nat.mod_lt _ hk;have hdm:j / k * k + j % k=j:=by rw[Fv]; exact Nat.div_add_mod j k
 have hle:j / k * k + k≤n * k:=by
   have:=Dc k (show j / k + 1≤n from hd)
   rwa [Er]at this
 have e1:(Array.range n)[j / k]! =j / k:=by
   rw[getElem!_pos _ _ (by simpa using hd)]; simp
 have e2:(flatK (fE k cells n) k (Array.range n))[j]! =cells[j]'(by omega):=by
   rw[get_flatK _ _ _ _ (by simpa using hj),e1,fE,if_pos hd,getElem!_pos _ _ (by simp; omega)]
   simp only[DW,FL]
   congr 1
 rw[e2,DJ];exact⟨by rw[ho.cellAt _ (by omega)]; exact CR _,ho.frozenAt _⟩
theorem qj {B:Nat} {cells:List Value} {enc:β→List Value} {d:Array β} {os:Array Obj} (hd:d.size=n)
    (ho:w.ownsRow B E k (.slice (some ⟨b,0,none⟩) n cap) n cells):(sortWorldK enc k w b 0 m d os).ownsRow B E k (.slice (some ⟨b,0,none⟩) n cap) n (flatK enc k d).toList:=by
 refine⟨by rw[Dq,size_flatK,hd],?_⟩;rcases ho.2 with ⟨h',_⟩ | ⟨g',cap',cur,h',hB,hg,hnc,hcm,hcs,htake⟩
 simp at h';simp only[Value.slice.injEq,Dj,Addr.mk.injEq,and_true,true_and]at h';obtain⟨rfl,rfl⟩:=h';have hlt:b<w.heap.size:=(D8.1 hg).1;have hle:n * k≤cur.size:=by rw[hcs]; exact Dc k hnc
 have hsz:(putCells id 0 (flatK enc k d) cur).size=cur.size:=by simp [putCells]
 refine .inr ⟨b,cap,putCells id 0 (flatK enc k d) cur,rfl,hB,?_,hnc,hcm,by rw[hsz]; exact hcs,?_⟩;unfold sortWorldK putRowK putRow mapBlock Go.Sort.grow Go.Sort.ahead;simp only;rw[EE (by simpa using hlt),EL,if_pos rfl,hg];rfl;apply EI;rw[C0,Dq,Dq,hsz,size_flatK,hd];omega;intro i h1 h2;have hi:i<n * k:=by rw[Dq,size_flatK,hd]at h2; exact h2
 rw[DW,EP,EP];simp only[putCells,Array.getElem_mapIdx];rw[if_pos ⟨Es _,by rw[size_flatK,hd]; omega⟩];simp only[Ex,id];rw[getElem!_pos _ _ (by rw[size_flatK,hd]; exact hi)]
theorem ry {enc:Nat→List Value} (hk:∀i,(enc i).length=k) (d:Array Nat) {j:Nat} (hj:j<d.size):((flatK enc k d).toList.drop (j * k)).take k=enc d[j]!:=by
 have hle:j * k + k≤d.size * k:=by
   have:=Dc k (show j + 1≤d.size from hj)
   rwa [Er]at this
 apply EI;rw[C0,Du,Dq,size_flatK,hk];omega;intro i h1 h2;have hi:i<k:=by rw[hk]at h2; exact h2
 have hlt:j * k + i<d.size * k:=by omega
 rw[DW,FL,EP];have e:=get_flatK enc k d (j * k + i) hlt;rw[getElem!_pos _ _ (by rw[size_flatK]; exact hlt)]at e;rw[e];have e1:(j * k + i) / k=j:=by rw[Fv,Nat.mul_add_div (by omega),Nat.div_eq_of_lt hi,DG]
 have e2:(j * k + i) % k=i:=by rw[Fv,Nat.mul_add_mod,Nat.mod_eq_of_lt hi]
 rw[e1,e2,getElem!_pos _ _ (by rw[hk]; exact hi)]
theorem nm {cells:List Value} (hc:cells.length=n * k) (hn:0<n) (i:Nat):(fE k cells n i).length=k:=by
 unfold fE;have h:(if i<n then i else 0)<n:=by split <;> omega
 generalize (if i<n then i else 0)=q at h
 have:=Dc k (show q + 1≤n from h);rw[Er]at this;rw[C0,Du,hc];omega
theorem pg {α:Type} [GoTy α] {cells:List Value} {x:List α} {Fs:List (List Nat)} {d:Array Nat} {os:Array Obj}
    (ho:w.ownsRow 0 E (GoTy.n α) (.slice (some ⟨b,0,none⟩) x.length cap) x.length cells) (hl:Fs.length=x.length) (he:∀(i:Nat) (y:α) (Fi:List Nat),x[i]?=some y→Fs[i]?=some Fi→GoTy.own w Fi (xh α cells i) y)
    (hb:b∉List.flatten Fs) (hp:d.toList.Perm (List.range x.length)) (hx:0<x.length) (z:α) :
    lown (sortWorldK (fE (GoTy.n α) cells x.length) (GoTy.n α) w b 0 m d os) ([b]++List.flatten (d.toList.map λi=>(Fs[i]?).getD [])) [.slice (some ⟨b,0,none⟩) x.length cap] (d.toList.map λi=>(x[i]?).getD z):=by
 have hds:d.size=x.length:=by have:=hp.length_eq; rwa [Dq,D5]at this
 have hc:cells.length=x.length * GoTy.n α:=ho.1;have hlen:(d.toList.map λi=>(x[i]?).getD z).length=x.length:=by rw[DT,Dq,hds]
 refine⟨some ⟨b,0,none⟩,cap,E,(flatK (fE (GoTy.n α) cells x.length) (GoTy.n α) d).toList,d.toList.map λi=>(Fs[i]?).getD [],by rw[hlen],by rw[hlen]; exact qj hds ho,by rw[hlen]; rfl,by rw[DT,DT],λj y Fi hy hF=>?_⟩;have hj:j<d.size:=by have:=(CZ.1 hy).1; rwa [DT,Dq]at this
 have hdj:d.toList[j]?=some d[j]:=by rw[FP,El hj]
 rw[Ey,hdj,Fg,Dj]at hy hF;have hi:d[j]<x.length:=DC.1 (hp.mem_iff.1 (C8 hdj));rw[CR hi,Fw]at hy;have hi2:d[j]<Fs.length:=by rw[hl]; exact hi
 rw[CR hi2,Fw]at hF;subst hy; subst hF;have e:xh α (flatK (fE (GoTy.n α) cells x.length) (GoTy.n α) d).toList j=xh α cells d[j]:=by
   unfold xh
   rw[ry (nm hc hx) d hj,getElem!_pos d j hj,fE,if_pos hi]
 rw[e];have hown:=he d[j] _ _ (CR hi) (CR hi2);refine GoTy.own_mono hown λc hcF=>?_;refine (gY _ _ w b 0 m d os).block c (GoTy.own_lt hown c hcF) λhcb=>?_;rw[C2]at hcb;subst hcb;exact hb (FT.2 ⟨_,Dh hi2,hcF⟩)
def cfAt {α:Type} (cmp:α→α→Option Int) (x:List α) (z:α) (i j:Nat):Int:=(cmp ((x[if i<x.length then i else 0]?).getD z) ((x[if j<x.length then j else 0]?).getD z)).getD 0
variable {α:Type} {x:List α} {cmp:α→α→Option Int}
theorem at_mem (hx:0<x.length) (z:α) (i:Nat):(x[if i<x.length then i else 0]?).getD z∈x:=by
 have h:(if i<x.length then i else 0)<x.length:=by split <;> omega
 generalize (if i<x.length then i else 0)=q at h
 rw[CR h];exact Dh h
theorem ltAt (hF:SoF cmp x) (hx:0<x.length) (z:α) (i j:Nat):ltOf (cfAt cmp x z) i j=ltO cmp ((x[if i<x.length then i else 0]?).getD z) ((x[if j<x.length then j else 0]?).getD z):=by
 have h:=hF.some_ _ (at_mem hx z i) _ (at_mem hx z j);unfold ltOf cfAt ltO;obtain⟨c,hc⟩:=EC.1 h;rw[hc];rfl
theorem Bd (hF:SoF cmp x) (hx:0<x.length) (z:α):SWO (ltOf (cfAt cmp x z)) where
  irrefl i:=by rw[ltAt hF hx]; exact hF.irr _ (at_mem hx z i)
  trans i j k h1 h2:=by
    rw[ltAt hF hx]at *
    exact hF.trans _ (at_mem hx z i) _ (at_mem hx z j) _ (at_mem hx z k) h1 h2
  ntrans i j k h1 h2:=by
    rw[ltAt hF hx]at *
    exact hF.nt (at_mem hx z k) (at_mem hx z j) (at_mem hx z i) h2 h1
theorem jM {β:Type} (x:List β) (z:β):(List.range x.length).map (λi=>(x[i]?).getD z)=x:=by
 apply EI;simp;intro i h1 h2;simp [CR h2]
theorem rY {α:Type} [GoTy α] [DecidableEq α] {P:Program} {ρ:Ren} (L:SlLaysF0.n6 P ρ) (aE:∀w,(isAgg (ρ.t 24)).run P w=.ok true w) (zE:∀w,(Go.sizeOf (ρ.t 24)).run P w=.ok (GoTy.n α) w)
    {g:Nat} {cb:List Value} (eg:∀args w,(callFunc g args).run P w=.ok (.enter g args) w) {cmp:α→α→Option Int} {w0:World} {F:List Nat} {A:Option Addr} {cap:Nat} {x r:List α}
    (hO:lown w0 F [.slice A x.length cap] x) (hn:F.Nodup) (hr:jI cmp x=some r)
    (hc:∀(w:World) (c1 c2:List Value) (a b:α) (v:Int),Moves w0 w (·∉F) (λ_=>True)→GoTy.rep w (λ_=>True) c1 a→GoTy.rep w (λ_=>True) c2 b→cmp a b=some v→Calls P g ([Value.agg c1.toArray,Value.agg c2.toArray]++cb).toArray w λe w'=>∃u,e=.returned u∧(Below w.heap.size w w'∧u=.int .i64 v)) :
    Calls P (ρ.f 6) #[.slice A x.length cap,.func (.func g) #[] cb.toArray] w0 λe w'=>∃v,e=.returned v∧(Chg w0 w' F∧v=.tuple #[]∧∃F',lown w' F' [.slice A x.length cap] r∧Back w0 w' F F'):=by
 have hlt:=GoTy.own_lt (α:=List α) hO;obtain⟨hF,hperm,hsorted⟩:=lF hr;rcases FE x.length with h0 | h0
 have hx:x=[]:=D9 h0;subst hx;have hr0:r=[]:=Gp.1 hperm.length_eq;subst hr0;refine (AnyF.slices_SortFunc_none L A cap _ w0).mono λe w' ⟨he,hw⟩=>⟨_,he,?_⟩;subst hw;exact⟨Chg.refl _ _,rfl,F,hO,hn,λb hb=>⟨.inr hb,hlt b hb⟩⟩;obtain⟨A',cap',E,cells,Fs,hcs,ho,rfl,hl,hel⟩:=hO;obtain⟨rfl,rfl⟩:A=A'∧cap=cap':=by simpa using hcs
 obtain⟨b,rfl,hb⟩:∃b,A=some ⟨b,0,none⟩∧b<w0.heap.size:=by
   rcases ho.2 with ⟨-,hz⟩ | ⟨g',cap'',cur,hv,-,hg,hnc,hcm,-,-⟩
   · omega
   · simp only[Value.slice.injEq]at hv
     exact⟨g',hv.1,(D8.1 hg).1⟩
 have hsz:=hF.len;have hob:(Value.slice (some ⟨b,0,none⟩) x.length cap).ownBlock.toList=[b]:=rfl;rw[hob]at hn hc hlt;have hbn:b∉List.flatten Fs:=by
   rw[EW,Dt,D6]at hn
   exact hn.1
 have hlen:cells.length=x.length * GoTy.n α:=ho.1;obtain⟨z,hz⟩:∃z,x[0]?=some z:=⟨_,CR h0⟩;have hrep:∀(m:Nat) (os:Array Obj) (dk:Array Nat) (i:Nat),GoTy.rep (sortWorldK (fE (GoTy.n α) cells x.length) (GoTy.n α) w0 b 0 m dk os) (λ_=>True) (fE (GoTy.n α) cells x.length i) ((x[if i<x.length then i else 0]?).getD z):=by
   intro m os dk i
   have hw:=gY (fE (GoTy.n α) cells x.length) (GoTy.n α) w0 b 0 m dk os
   generalize sortWorldK (fE (GoTy.n α) cells x.length) (GoTy.n α) w0 b 0 m dk os=w1 at hw
   unfold fE
   have hq:(if i<x.length then i else 0)<x.length:=by split <;> omega
   generalize (if i<x.length then i else 0)=q at hq
   obtain⟨Fi,hFi⟩:=ni hl (CR hq)
   have hown:=hel q _ Fi (CR hq) hFi
   rw[CR hq,Fw]
   refine GoTy.mono (GoTy.own_rep (GoTy.own_mono hown λc hcF=>hw.block c (GoTy.own_lt hown c hcF) λhcb=>?_)) λ_ _ _=>⟨trivial,rfl⟩
   rw[C2]at hcb
   subst hcb
   exact hbn (eG hFi hcF)
 have hcb:∀u v:Value,#[u,v]++cb.toArray=([u,v]++cb).toArray:=λu v=>by simp
 have hcmp:CmpLays P g cb.toArray (fE (GoTy.n α) cells x.length) (GoTy.n α) (cfAt cmp x z) b 0 (Array.range x.length).size w0:=by
   refine wB λm os dk _ i j=>?_
   rw[hcb]
   refine hc _ _ _ _ _ _ (λc hcn hcl=>⟨trivial,(gY _ _ w0 b 0 m dk os).block c hcl λhcb=>hcn (CQ.2 (.inl hcb))⟩) (hrep m os dk i) (hrep m os dk j) ?_
   obtain⟨c,hc'⟩:=EC.1 (hF.some_ _ (at_mem h0 z i) _ (at_mem h0 z j))
   unfold cfAt
   rw[hc']
   rfl
 have hone:∀i,∀v∈fE (GoTy.n α) cells x.length i,v.oneCell'=true:=λi=>GoTy.one (hrep 0 #[] #[] i);have h:=AnyQ.slices_SortFunc L (GoTy.n α) aE zE (fE (GoTy.n α) cells x.length) (nm hlen h0) hone (cfAt cmp x z) (Bd hF h0 z) g cb.toArray b 0 cap (Array.range x.length) w0 eg hcmp (wv GoTy.pos ho) hb (by rw[Fq]; exact hsz);rw[Fq]at h;refine h.mono λe w' ⟨he,d,m,os,hp,hs,hw⟩=>⟨_,he,?_⟩;have hds:d.size=x.length:=by rw[hp.1,Fq]
 have hpl:d.toList.Perm (List.range x.length):=by
   have h3:=hp.2.2
   have e1:d.extract 0 x.length=d:=by rw[←hds]; exact Array.extract_size
   have e2:(Array.range x.length).extract 0 x.length=Array.range x.length:=by
     have:=Array.extract_size (xs:=Array.range x.length)
     rwa [Fq]at this
   rw[e1,e2]at h3
   simpa using h3
 have hgd:∀i,i<x.length→d.toList[i]?=some d[i]!:=λi hi=>by
   rw[FP,El (by omega),getElem!_pos _ _ (by omega)]
 have hr':jI cmp x=some (d.toList.map λi=>(x[i]?).getD z):=by
   refine oa hF ?_ ?_
   · have:=hpl.map λi=>(x[i]?).getD z
     rwa [jM]at this
   · rw[ES]
     refine Ed.2 λi j hi hj hij=>?_
     rw[Dq]at hi hj
     have h4:=hs i j (Es _) hij (by omega)
     rw[ltAt hF h0]at h4
     rw[getElem!_pos d i hi,getElem!_pos d j hj]at h4
     have hm:∀k (hk:k<d.size),d[k]<x.length:=λk hk=>DC.1 (hpl.mem_iff.1 (C8 (by rw[FP,El hk])))
     rw[if_pos (hm j hj),if_pos (hm i hi)]at h4
     simpa only[EP] using h4
 rw[hr]at hr';injection hr' with hr'
 have hfp:(List.flatten (d.toList.map λi=>(Fs[i]?).getD [])).Perm (List.flatten Fs):=by
   rw[←hl]at hpl
   have:=(hpl.map λi=>(Fs[i]?).getD []).flatten
   rwa [jM]at this
 have hchg:=gY (fE (GoTy.n α) cells x.length) (GoTy.n α) w0 b 0 m d os;have hown:=pg (m:=m) (os:=os) ho hl hel hbn hpl h0 z;rw[←hr',←hw]at hown;rw[←hw]at hchg;refine⟨hchg.sub λc hc=>CQ.2 (.inl (by rw[hob]; exact hc)),rfl,_,hown,?_,λc hcF=>?_⟩;rw[EW,Dt,D6]at hn ⊢;exact⟨λh=>hn.1 (hfp.mem_iff.1 h),hfp.nodup_iff.2 hn.2⟩;have h5:c∈[b]++List.flatten Fs:=by
   rcases CQ.1 hcF with h | h
   · exact CQ.2 (.inl h)
   · exact CQ.2 (.inr (hfp.mem_iff.1 h))
 exact⟨.inr (by rw[hob]; exact h5),Eh (hlt c h5) hchg.size⟩
theorem gD {s:Nat} {A:Option Addr} {cells:List Value} (h0:0<n) (ho:w.ownsRow 0 E s (.slice A n cap) n cells):∃b,A=some ⟨b,0,none⟩∧b<w.heap.size∧n≤cap∧cap≤maxLen:=by
 rcases ho.2 with ⟨-,hz⟩ | ⟨g',cap'',cur,hv,-,hg,hnc,hcm,-,-⟩
 omega;simp only[Value.slice.injEq]at hv;obtain⟨hA,-,rfl⟩:=hv;exact⟨g',hA,(D8.1 hg).1,hnc,hcm⟩
end AT
namespace AT
open Go Go.RowKit
def vof (ag:Bool) (cs:List Value):Value:=bif ag then .agg cs.toArray else cs.headD undef
theorem aV {α:Type} [GoTy α] (hfl:GoTy.flat α=true) {w w':World} {S T:Nat→Prop} {cs:List Value} {x:α} (h:GoTy.rep w S cs x):GoTy.rep w' T cs x :=
  GoTy.mono (GoTy.own_rep (GoTy.own_flat hfl h)) λb hb=>by cases hb
structure Ix (C:List (List Value)) where
  i:Nat
@[reducible] def ixTy (C:List (List Value)) (k:Nat) (ag:Bool) (hk:0<k) (hC:∀c∈C,c.length=k∧∀v∈c,v.oneCell'=true):GoTy (Ix C) where
  n:=k
  agg:=ag
  flat:=true
  rep _ _ cs x:=C[x.i]?=some cs
  own _ F cs x:=F=[]∧C[x.i]?=some cs
  pos:=hk
  len:=λh=>(hC _ (C8 h)).1
  one:=λh=>(hC _ (C8 h)).2
  mono:=λh _=>h
  own_rep:=λh=>h.2
  own_mono:=λh _=>h
  own_lt:=by rintro _ _ _ _ ⟨rfl,_⟩ _ h; cases h
  own_flat:=λ_ h=>⟨rfl,h⟩
def FnSpec (P:Program) {α σ:Type} [GoTy α] (g:Nat) (cb:List Value) (del:α→σ→Option (Bool×σ)) (Q:σ→List Nat→MP) (w0:World) (X G0:List Nat):Prop :=
  ∀(w:World) (G:List Nat) (c:List Value) (a:α) (s:σ) (q:Bool×σ),Chg w0 w (X++G0)→(Q s G).pred w (·∈G)→G.Nodup→(∀b∈G,(w0.heap.size≤b∨b∈G0)∧b∉X)→GoTy.rep w (λ_=>False) c a→del a s=some q →
    Calls P g ([vof (GoTy.agg α) c]++cb).toArray w λe w'=>∃v,e=.returned v∧(v=.bool q.1∧∃G',Chg w w' G∧(Q q.2 G').pred w' (·∈G')∧Back w w' G G')
def rQ (P:Program) (k s:Nat) (ag:Bool):Prop :=
  ∀{α σ:Type} [GoTy α] (_:GoTy.flat α=true) (_:GoTy.n α=s) (_:GoTy.agg α=ag) {g:Nat} {cb:List Value} (_:CL P g) {del:α→σ→Option (Bool×σ)} {Q:σ→List Nat→MP} {w0:World} {G0:List Nat} {E:TypeId} {A:Option Addr} {cap:Nat} {cells:List Value} {x:List α} {i:Int} {s0 s1:σ}
    (_:w0.ownsRow 0 E (GoTy.n α) (.slice A x.length cap) x.length cells) (_:∀(i:Nat) (y:α),x[i]?=some y→GoTy.rep w0 (λ_=>False) (xh α cells i) y) (_:(Q s0 G0).pred w0 (·∈G0)) (_:((Value.slice A x.length cap).ownBlock.toList++G0).Nodup) (_:∀b∈G0,b<w0.heap.size)
    (_:idxO del x 0 s0=some (i,s1)) (_:FnSpec P g cb del Q w0 (Value.slice A x.length cap).ownBlock.toList G0),
    Calls P k [.slice A x.length cap,.func (.func g) #[] cb.toArray].toArray w0 λe w'=>∃v,e=.returned v∧(v=.int .i64 i∧∃G',Chg w0 w' G0∧(Q s1 G').pred w' (·∈G')∧Back w0 w' G0 G')
def kj (P:Program) (k s:Nat) (ag:Bool):Prop :=
  ∀{α σ:Type} [GoTy α] (_:GoTy.flat α=true) (_:GoTy.n α=s) (_:GoTy.agg α=ag) {g:Nat} {cb:List Value} (_:CL P g) {del:α→σ→Option (Bool×σ)} {Q:σ→List Nat→MP} {w0:World} {G0:List Nat} {E:TypeId} {A:Option Addr} {cap:Nat} {cells:List Value} {x r:List α} {s0 s1:σ}
    (_:w0.ownsRow 0 E (GoTy.n α) (.slice A x.length cap) x.length cells) (_:∀(i:Nat) (y:α),x[i]?=some y→GoTy.rep w0 (λ_=>False) (xh α cells i) y) (_:(Q s0 G0).pred w0 (·∈G0)) (_:((Value.slice A x.length cap).ownBlock.toList++G0).Nodup) (_:∀b∈G0,b<w0.heap.size)
    (_:delO del x s0=some (r,s1)) (_:FnSpec P g cb del Q w0 (Value.slice A x.length cap).ownBlock.toList G0),
    Calls P k [.slice A x.length cap,.func (.func g) #[] cb.toArray].toArray w0 λe w'=>∃v,e=.returned v∧(v=.slice A r.length cap∧Chg w0 w' ((Value.slice A x.length cap).ownBlock.toList++G0) ∧
      ∃E' cells' G',w'.ownsRow 0 E' (GoTy.n α) (.slice A r.length cap) r.length cells'∧(∀(i:Nat) (y:α),r[i]?=some y→GoTy.rep w' (λ_=>False) (xh α cells' i) y)∧(Q s1 G').pred w' (·∈G')∧G'.Nodup∧∀b∈G',(w0.heap.size≤b∨b∈G0)∧b∉(Value.slice A x.length cap).ownBlock.toList∧b<w'.heap.size)
section
variable {w w' w1:World} {w0:Base} {S:Nat→Prop} {M:List Blk} {R:List Row} {D:List DI} {I:List (Bool×MP)}
variable {A:Option Addr}
theorem ownB {n m cap:Nat}:(Value.slice A n cap).ownBlock=(Value.slice A m cap).ownBlock:=by cases A <;> rfl
theorem Mem.startRP {α:Type} [GoTy α] (hfl:GoTy.flat α=true) {E:TypeId} {A:Option Addr} {cap:Nat} {x:List α} {cells:List Value} {G:List Nat} {p:MP} (S:Nat→Prop) (ho:w1.ownsRow 0 E (GoTy.n α) (.slice A x.length cap) x.length cells)
    (he:∀(i:Nat) (y:α),x[i]?=some y→GoTy.rep w1 (λ_=>False) (xh α cells i) y) (hp:p.pred w1 (·∈G)) (hn:((Value.slice A x.length cap).ownBlock.toList++G).Nodup) (hl:∀b∈G,b<w1.heap.size) :
    Mem ⟨w1,(Value.slice A x.length cap).ownBlock.toList++G⟩ S [] [⟨.sh true,E,A,cap,x⟩] [⟨G,p⟩] [] w1:=by
 have ha:allZ (zs [] [⟨.sh true,E,A,cap,x⟩] [⟨G,p⟩])=(Value.slice A x.length cap).ownBlock.toList++G:=by simp [allZ,zs,Res.all,Row.res,DI.res,Kd.fd,Row.v]
 refine⟨⟨rfl,rfl,rfl,Da _,λ_ _=>rfl,Da _⟩,λc hc=>?_,by rw[ha]; exact hn,λr hr=>?_,λf hf=>(by cases hf)⟩
 rw[ha]at hc;refine⟨.inr hc,?_⟩;rcases CQ.1 hc with h | h
 exact (ho.lt c (by simpa using h)).2;exact hl c h;have:r=Row.res ⟨.sh true,E,A,cap,x⟩∨r=DI.res ⟨G,p⟩:=by simpa [zs] using hr
 rcases this with rfl | rfl
 exact⟨cells,ho,trivial,λi y hy=>aV hfl (he i y hy)⟩;exact⟨hp,hl⟩
theorem Mem.stOff {n cap:Nat} {G0:List Nat} {r:Row} {d:DI} (H:Mem ⟨w1,(Value.slice A n cap).ownBlock.toList++G0⟩ S M [r] [d] I w) (hr:r.v.ownBlock=(Value.slice A n cap).ownBlock) :
    ∀b∈d.F,(w1.heap.size≤b∨b∈G0)∧b∉(Value.slice A n cap).ownBlock.toList:=by
 intro b hb;have hnd:=MemZ.nd (MemZ.perm H (zj d));rw[u6,vx]at hnd;have hx:b∉(Value.slice A n cap).ownBlock.toList:=λhx=>by
   refine (C1.1 hnd).2.2 b (by simpa [Res.all,DI.res] using hb) b ?_ rfl
   exact cB (Ag (r:=r) (by rw[hr]; exact hx))
 refine⟨?_,hx⟩;rcases (H.diNd.2 b hb).1 with h | h
 exact .inl h;rcases CQ.1 h with h | h
 exact absurd h hx;exact .inr h
end
theorem cells_one {v:Value} (h:v.oneCell'=true):v.cells=[v].toArray:=by
 cases v <;> simp_all [Value.oneCell',Value.cells]
theorem jh {α:Type} {l:List α} {i:Nat} (h:i<l.length):idx l (i:Int)=some l[i]:=by
 unfold idx;rw[if_pos (FC i),Ek,CR h]
theorem kl {i n:Nat} (h:i<n) (hn:n≤maxLen):w64 ((i:Int) + 1)=((i + 1:Nat):Int):=by
 have:maxLen≤9223372036854775807:=by simp [maxLen]
 rw[vq (by omega) (by omega)]; omega
theorem lQ {w:World} {E:TypeId} {s n cap:Nat} {A:Option Addr} {cells:List Value} (ho:w.ownsRow 0 E s (.slice A n cap) n cells):n≤maxLen:=by
 rcases FE n with h | h
 omega;obtain⟨b,-,-,h1,h2⟩:=gD h ho;omega
section
variable {w w':World} {w0:World} {S:Nat→Prop} {M:List Blk} {R:List Row} {D:List DI} {I:List (Bool×MP)}
variable {P:Program} {α:Type} [GoTy α] {cb:List Value} {G0 G:List Nat}
theorem FnSpec.callI {σ:Type} {g:Nat} {del:α→σ→Option (Bool×σ)} {Q:σ→List Nat→MP} {X:List Nat} {s:σ} (hc:FnSpec P g cb del Q w0 X G0) (H:Mem ⟨w0,G0⟩ S M R [⟨G,Q s G⟩] I w) (hX:∀b∈G0,b∉X) (hXl:∀b∈X,b<w0.heap.size)
    (hfl:GoTy.flat α=true) {w2:World} {T:Nat→Prop} {c:List Value} {a:α} {q:Bool×σ} (hr:GoTy.rep w2 T c a) (hd:del a s=some q):Calls P g ([vof (GoTy.agg α) c]++cb).toArray w λe w'=>∃v,e=.returned v∧(v=.bool q.1∧∃G',Chg w w' G∧(Q q.2 G').pred w' (·∈G')∧Back w w' G G'):=by
 refine hc w G c a s q (H.chg.sub λb hb=>CQ.2 (.inr hb)) H.diFront H.diNd.1 (λb hb=>?_) (aV hfl hr) hd;rcases (H.diNd.2 b hb).1 with h | h
 exact⟨.inl h,λhx=>by have:=hXl b hx; simp only at h; omega⟩;exact⟨.inr h,hX b h⟩
theorem FnSpec.callD {σ:Type} {g:Nat} {del:α→σ→Option (Bool×σ)} {Q:σ→List Nat→MP} {A:Option Addr} {n cap:Nat} {s:σ} {r:Row} (hc:FnSpec P g cb del Q w0 (Value.slice A n cap).ownBlock.toList G0) (H:Mem ⟨w0,(Value.slice A n cap).ownBlock.toList++G0⟩ S M [r] [⟨G,Q s G⟩] I w) (hr':r.v.ownBlock=(Value.slice A n cap).ownBlock)
    (hfl:GoTy.flat α=true) {w2:World} {T:Nat→Prop} {c:List Value} {a:α} {q:Bool×σ} (hr:GoTy.rep w2 T c a) (hd:del a s=some q):Calls P g ([vof (GoTy.agg α) c]++cb).toArray w λe w'=>∃v,e=.returned v∧(v=.bool q.1∧∃G',Chg w w' G∧(Q q.2 G').pred w' (·∈G')∧Back w w' G G') :=
  hc w G c a s q H.chg H.diFront H.diNd.1 (H.stOff hr') (aV hfl hr) hd
end
structure DelSt (α σ:Type) where
  i:Nat
  j:Nat
  s:σ
  G:List Nat
  y:List α
structure DelInv {α σ:Type} (del:α→σ→Option (Bool×σ)) (x r:List α) (s1:σ) (z:DelSt α σ):Prop where
  lt:z.i<z.j
  le:z.j≤x.length
  len:z.y.length=x.length
  drop:z.y.drop z.j=x.drop z.j
  rest:∃q,delO del (x.drop z.j) z.s=some (q,s1)∧r=z.y.take z.i++q
variable {α:Type} [GoTy α] {σ:Type} {k:Nat} {P:Program} {del:α→σ→Option (Bool×σ)} {x r:List α}
theorem DelInv.start {α:Type} {del:α→σ→Option (Bool×σ)} {x r l2 q2:List α} {a0:α} {s1 s:σ} {G:List Nat} (hk:k<x.length) (hd:x.drop k=a0::l2) (hq:delO del l2 s=some (q2,s1)) (hr:r=x.take k++q2):DelInv del x r s1 ⟨k,k + 1,s,G,x⟩:=by
 have h2:x.drop (k + 1)=l2:=by rw[←EX,hd]; rfl
 exact⟨Gu _,hk,rfl,rfl,q2,by rw[h2]; exact hq,hr⟩
theorem DelInv.at_ {α:Type} {del:α→σ→Option (Bool×σ)} {x r:List α} {s1:σ} {z:DelSt α σ} (h:DelInv del x r s1 z) (hj:z.j<z.y.length):∃q,del z.y[z.j] z.s=some q ∧
    (q.1=true→∀G,DelInv del x r s1 ⟨z.i,z.j + 1,q.2,G,z.y⟩)∧(q.1=false→∀G,DelInv del x r s1 ⟨z.i + 1,z.j + 1,q.2,G,z.y.set z.i z.y[z.j]⟩):=by
 obtain⟨i,j,s,G,y⟩:=z;obtain⟨lt,le,len,drop,q,hq,hr⟩:=h;change j<y.length at hj;simp only at lt le len drop hq hr ⊢;have hjx:j<x.length:=by omega
 have e1:x.drop j=y[j]::x.drop (j + 1):=by
   rw[←drop,←C7 hj]
   congr 1
   rw[←EX,←EX,drop]
 have e2:y.drop (j + 1)=x.drop (j + 1):=by rw[←EX,←EX,drop]
 rw[e1]at hq;obtain⟨b,s',q',h1,h2,h3⟩:=j9 hq;refine⟨(b,s'),h1,λhb G=>?_,λhb G=>?_⟩;simp only at hb;subst hb;exact⟨by simp only; omega,by simp only; omega,len,e2,q',h2,by rw[hr]; simp only at h3 ⊢; rw[h3]; rfl⟩;simp only at hb;subst hb;refine⟨by simp only; omega,by simp only; omega,by simp only; rw[CY]; exact len,?_,q',h2,?_⟩;simp only;rw[Fx (by omega)];exact e2;simp only at h3 ⊢;have hi:i<y.length:=Nat.lt_trans lt hj;rw[hr,h3];simp only[CU,if_false];rw[FM (by rw[CY]; exact hi),List.getElem_set_self,Fz (Da _),CX];rfl
theorem DelInv.end_ {α:Type} {del:α→σ→Option (Bool×σ)} {x r:List α} {s1:σ} {z:DelSt α σ} (h:DelInv del x r s1 z) (hj:z.j=z.y.length):r=z.y.take z.i∧z.s=s1∧z.i<z.y.length:=by
  obtain⟨i,j,s,G,y⟩:=z;obtain⟨lt,le,len,drop,q,hq,hr⟩:=h;simp only at *;rw[DN (by omega)]at hq;unfold delO at hq;injection hq with hq
  simp only[DV]at hq;rw[←hq.1,Db]at hr;exact⟨hr,hq.2,by omega⟩
theorem jB:∀{X Y:List (List Nat)},X.Sublist Y→(List.flatten X).Sublist (List.flatten Y)
  | _,_,.slnil=>.slnil
  | _,_,.cons x h=>by rw[Fl]; exact (jB h).trans (Ee _ _)
  | _,_,.cons_cons x h=>by rw[Fl,Fl]; exact (EG _).append (jB h)
theorem lf {α σ:Type} {del del':α→σ→Option (Bool×σ)}:∀{l:List α} (s:σ),(∀a∈l,∀s,del a s=del' a s)→delO del l s=delO del' l s
  | [],s,_=>rfl
  | a::l,s,h=>by
    unfold delO
    rw[h a Ds]
    congr 1
    funext r
    rw[lf r.2 λb hb=>h b (Df _ hb)]
theorem rC (hD:kj P k (GoTy.n α) (GoTy.agg α)) {g:Nat} {cb:List Value} (eg:CL P g) {del:α→σ→Option (Bool×σ)} {Q:σ→List Nat→MP} {w0:World} {F G0:List Nat} {A:Option Addr} {cap:Nat} {x r:List α} {s0 s1:σ}
    (hO:lown w0 F [.slice A x.length cap] x) (hG:(Q s0 G0).pred w0 (·∈G0)) (hn:(F++G0).Nodup) (hGl:∀b∈G0,b<w0.heap.size) (hr:delO del x s0=some (r,s1))
    (hc:∀(w:World) (G:List Nat) (c:List Value) (a:α) (s:σ) (q:Bool×σ),Moves w0 w (λb=>b∉F∧b∉G0) (·∉G)→(Q s G).pred w (·∈G)→G.Nodup→GoTy.rep w (·∉G) c a→del a s=some q →
      Calls P g ([vof (GoTy.agg α) c]++cb).toArray w λe w'=>∃v,e=.returned v∧(v=.bool q.1∧∃G',Chg w w' G∧(Q q.2 G').pred w' (·∈G')∧Back w w' G G')) :
    Calls P k [.slice A x.length cap,.func (.func g) #[] cb.toArray].toArray w0 λe w'=>∃v,e=.returned v∧(v=.slice A r.length cap∧Chg w0 w' (F++G0)∧∃F' G',lown w' F' [.slice A r.length cap] r∧(Q s1 G').pred w' (·∈G')∧Back w0 w' (F++G0) (F'++G')∧(∀b∈F',b∈F)∧∀b∈G',w0.heap.size≤b∨b∈G0):=by
 have hlt:=GoTy.own_lt (α:=List α) hO;obtain⟨A',cap',E,cells,Fs,hcs,ho,rfl,hl,hel⟩:=hO;obtain⟨rfl,rfl⟩:A=A'∧cap=cap':=by simpa using hcs
 generalize hob:(Value.slice A x.length cap).ownBlock.toList=ob at hn hc hlt ⊢;obtain⟨C,hCd⟩:∃C,C=(List.range x.length).map (xh α cells):=⟨_,rfl⟩;have hCat:∀i c,C[i]?=some c→i<x.length∧c=xh α cells i:=λi c h=>by
   rw[hCd,Ey]at h
   obtain⟨j,hj,rfl⟩:=Dk.1 h
   obtain⟨h1,h2⟩:=CZ.1 hj
   rw[D5]at h1
   rw[DZ]at h2
   subst h2
   exact⟨h1,rfl⟩
 have hCof:∀i,i<x.length→C[i]?=some (xh α cells i):=λi hi=>by
   rw[hCd,Ey,List.getElem?_range hi]; rfl
 have hrep:∀(i:Nat) (y:α),x[i]?=some y→∃Fi,Fs[i]?=some Fi∧GoTy.own w0 Fi (xh α cells i) y:=λi y hy=>by
   obtain⟨Fi,hFi⟩:=ni hl hy
   exact⟨Fi,hFi,hel i y Fi hy hFi⟩
 have hC:∀c∈C,c.length=GoTy.n α∧∀v∈c,v.oneCell'=true:=λc hcm=>by
   obtain⟨i,hi⟩:=EM.1 hcm
   obtain⟨h1,rfl⟩:=hCat i c hi
   obtain⟨Fi,-,h2⟩:=hrep i _ (CR h1)
   exact⟨GoTy.len (GoTy.own_rep h2),GoTy.one (GoTy.own_rep h2)⟩
 obtain⟨inst,hinst⟩:∃t:GoTy (Ix C),t=ixTy C (GoTy.n α) (GoTy.agg α) GoTy.pos hC:=⟨_,rfl⟩;obtain⟨y,hy⟩:∃y,y=x.zipIdx:=⟨_,rfl⟩;have hy1:y.map Prod.fst=x:=by rw[hy]; exact List.zipIdx_map_fst 0 x
 have hy2:y.map Prod.snd=List.range x.length:=by rw[hy,List.zipIdx_map_snd,List.range_eq_range']
 have hym:∀p∈y,x[p.2]?=some p.1:=λp hp=>by rw[hy]at hp; exact List.mem_zipIdx_iff_getElem?.1 hp
 obtain⟨x',hx'⟩:∃x':List (Ix C),x'=y.map λp=>⟨p.2⟩:=⟨_,rfl⟩;have hxl:x'.length=x.length:=by rw[hx',DT,←hy1,DT]
 have hxi:∀(i:Nat) (j:Ix C),x'[i]?=some j→j.i=i:=λi j h=>by
   rw[hx',Ey]at h
   obtain⟨p,hp,rfl⟩:=Dk.1 h
   have h3:(y.map Prod.snd)[i]?=some p.2:=by rw[Ey,hp]; rfl
   rw[hy2]at h3
   obtain⟨h1,h2⟩:=CZ.1 h3
   rw[DZ]at h2
   exact h2.symm
 let del':Ix C→σ→Option (Bool×σ):=λj s=>(x[j.i]?).bind λa=>del a s
 have hdy:∃yr:List (α×Nat),yr.Sublist y∧r=yr.map Prod.fst∧delO del' x' s0=some (yr.map (λp=>(⟨p.2⟩:Ix C)),s1):=by
   rw[←hy1,mr]at hr
   obtain⟨q,hq,hq2⟩:=Dk.1 hr
   simp only[DV]at hq2
   refine⟨q.1,oM hq,hq2.1.symm,?_⟩
   rw[hx',mr]
   have:delO (λ(p:α×Nat) s=>del' ⟨p.2⟩ s) y s0=delO (λ(p:α×Nat) s=>del p.1 s) y s0:=lf s0 λp hp s=>by
     show (x[p.2]?).bind _=_
     rw[hym p hp]; rfl
   rw[this,hq,←hq2.2]
   rfl
 obtain⟨yr,hys,rfl,hdel⟩:=hdy;have hnob:ob.Nodup:=(C1.1 (C1.1 hn).1).1;have hobG:(ob++G0).Nodup:=by
   refine C1.2 ⟨hnob,(C1.1 hn).2.1,λa ha b hb=>(C1.1 hn).2.2 a (CQ.2 (.inl ha)) b hb⟩
 have hFob:∀(i:Nat) (Fi:List Nat),Fs[i]?=some Fi→∀b∈Fi,b∉ob∧b∉G0∧b<w0.heap.size:=λi Fi hFi b hb=>by
   have hm:=eG hFi hb
   exact⟨λh=>(C1.1 (C1.1 hn).1).2.2 b h b hm rfl,λh=>(C1.1 hn).2.2 b (CQ.2 (.inr hm)) b h rfl,hlt b (CQ.2 (.inr hm))⟩
 have hsl:(Value.slice A x'.length cap)=.slice A x.length cap:=by rw[hxl]
 have hn1:GoTy.n (Ix C)=GoTy.n α:=by subst hinst; rfl
 have hrepI:∀{w:World} {S:Nat→Prop} {c:List Value} {j:Ix C},GoTy.rep w S c j↔C[j.i]?=some c:=by
   intro w S c j; subst hinst; exact Iff.rfl
 have hpart:∀cells i,xh (Ix C) cells i=xh α cells i:=λcells i=>by unfold xh; rw[hn1]
 have hfl1:GoTy.flat (Ix C)=true:=by subst hinst; rfl
 have hag1:GoTy.agg (Ix C)=GoTy.agg α:=by subst hinst; rfl
 clear hinst;have h:=hD (α:=Ix C) hfl1 hn1 hag1 eg (del:=del') (Q:=Q) (w0:=w0) (G0:=G0) (E:=E) (A:=A) (cap:=cap) (cells:=cells) (x:=x') (s0:=s0) (s1:=s1) (by rw[hsl,hn1,hxl]; exact ho)
   (λi j hj=>by
     rw[hrepI,hpart]
     have:=hxi i j hj
     have hlt2:=(CZ.1 hj).1
     rw[this]
     exact hCof i (by omega)) hG (by rw[hsl,hob]; exact hobG) hGl hdel
   (by
     rw[hsl,hob]
     intro w G c j s q hch hq hGn hGo hrp hdl
     rw[hrepI]at hrp
     obtain⟨hj,rfl⟩:=hCat _ _ hrp
     obtain⟨a,ha,hda⟩:=DX.1 hdl
     obtain⟨Fi,hFi,hown⟩:=hrep _ _ ha
     rw[hag1]
     refine hc w G _ a s q (λb hb hbl=>?_) hq hGn ?_ hda
     · refine⟨λhbG=>?_,hch.block b hbl λhx=>?_⟩
       · rcases (hGo b hbG).1 with h | h
         · omega
         · exact hb.2 h
       · rcases CQ.1 hx with h | h
         · exact hb.1 (CQ.2 (.inl h))
         · exact hb.2 h
     · refine GoTy.mono (GoTy.own_rep (GoTy.own_mono hown λb hb=>?_)) λb hb _=>⟨λhbG=>?_,rfl⟩
       · obtain⟨h1,h2,h3⟩:=hFob _ _ hFi b hb
         exact hch.block b h3 λhx=>(CQ.1 hx).elim h1 h2
       · obtain⟨h1,h2,h3⟩:=hFob _ _ hFi b hb
         rcases (hGo b hbG).1 with h | h
         · omega
         · exact h2 h)
 rw[hsl,DT,hob]at h;rw[DT];refine h.mono λe w' ⟨v,he,hv,hch,E',cells',G',ho',he',hq',hGn',hGo'⟩=>⟨v,he,hv,hch.sub λb hb=>?_,?_⟩;rcases CQ.1 hb with h | h
 exact CQ.2 (.inl (CQ.2 (.inl h)));exact CQ.2 (.inr h);have hsub:(yr.map λp=>(Fs[p.2]?).getD []).Sublist Fs:=by
   have h1:=hys.map λp=>(Fs[p.2]?).getD []
   have h2:(y.map λp=>(Fs[p.2]?).getD [])=Fs:=by
     have:(y.map λp=>(Fs[p.2]?).getD [])=(y.map Prod.snd).map λi=>(Fs[i]?).getD []:=by rw[List.map_map]; rfl
     rw[this,hy2,←hl,jM]
   rwa [h2]at h1
 have hsubf:=jB hsub;refine⟨ob++List.flatten (yr.map λp=>(Fs[p.2]?).getD []),G',?_,hq',⟨?_,λb hb=>?_⟩,λb hb=>?_,λb hb=>(hGo' b hb).1⟩;rw[hn1]at ho';have hlen2:(yr.map Prod.fst).length=yr.length:=DT ..;refine⟨A,cap,E',cells',yr.map λp=>(Fs[p.2]?).getD [],by rw[hlen2],by rw[hlen2]; exact ho',by rw[ownB (m:=x.length),hob],by rw[DT,DT],λi a Fi ha hFi=>?_⟩;rw[Ey]at ha hFi;obtain⟨p,hp,rfl⟩:=Dk.1 ha;rw[hp,Fg,Dj]at hFi;have hpy:=hym p (hys.subset (C8 hp));obtain⟨Fi0,hFi0,hown⟩:=hrep _ _ hpy;rw[hFi0,Fw]at hFi;subst hFi;have h6:=he' i ⟨p.2⟩ (by rw[Ey,hp]; rfl);rw[hrepI,hpart]at h6;rw[(hCat _ _ h6).2];refine GoTy.own_mono hown λb hb=>?_;obtain⟨h1,h2,h3⟩:=hFob _ _ hFi0 b hb;exact hch.block b h3 λhx=>(CQ.1 hx).elim h1 h2;refine C1.2 ⟨?_,hGn',λa ha b hb hab=>?_⟩;have hF:=(C1.1 hn).1;exact (List.Sublist.append (EG ob) hsubf).nodup hF;subst hab;obtain⟨h1,h2,h3⟩:=hGo' a hb;rcases CQ.1 ha with h | h
 exact h2 h;have hm:=hsubf.subset h;rcases h1 with h1 | h1
 have:=hlt a (CQ.2 (.inr hm)); omega;exact (C1.1 hn).2.2 a (CQ.2 (.inr hm)) a h1 rfl;rcases CQ.1 hb with h | h
 have hm:b∈ob++List.flatten Fs:=by
   rcases CQ.1 h with h | h
   · exact CQ.2 (.inl h)
   · exact CQ.2 (.inr (hsubf.subset h))
 exact⟨.inr (CQ.2 (.inl hm)),Eh (hlt b hm) hch.size⟩;obtain⟨h1,h2,h3⟩:=hGo' b h;exact⟨h1.imp id λh=>CQ.2 (.inr h),h3⟩;rcases CQ.1 hb with h | h
 exact CQ.2 (.inl h);exact CQ.2 (.inr (hsubf.subset h))
theorem Below.chg {w w':World} (h:Below w.heap.size w w') (X:List Nat):Chg w w' X:=⟨h.os,h.tape,h.output,h.size,λk hk _=>h.block k hk,h.drawn⟩
theorem sY (hD:kj P k (GoTy.n α) (GoTy.agg α)) {g:Nat} {cb:List Value} (eg:CL P g) {p:α→Option Bool} {w0:World} {F:List Nat} {A:Option Addr} {cap:Nat} {x r:List α}
    (hO:lown w0 F [.slice A x.length cap] x) (hn:F.Nodup) (hr:sZ p x=some r)
    (hc:∀(w:World) (c:List Value) (a:α) (q:Bool),Moves w0 w (·∉F) (λ_=>True)→GoTy.rep w (λ_=>True) c a→p a=some q →
      Calls P g ([vof (GoTy.agg α) c]++cb).toArray w λe w'=>∃v,e=.returned v∧(Below w.heap.size w w'∧v=.bool q)) :
    Calls P k [.slice A x.length cap,.func (.func g) #[] cb.toArray].toArray w0 λe w'=>∃v,e=.returned v∧(Chg w0 w' F∧v=.slice A r.length cap∧∃F',lown w' F' [.slice A r.length cap] r∧Back w0 w' F F'):=by
 unfold sZ at hr;obtain⟨q,hq,rfl⟩:=Dk.1 hr;refine (rC hD eg (Q:=λ_ _=>⟨λ_ _=>True,λh _=>trivial⟩) (G0:=[]) (s1:=q.2) hO trivial (by rw[Db]; exact hn) (λb hb=>by cases hb) (by rw[hq]) λw G c a s q' hm _ _ hrp hdl=>?_).mono ?_
 obtain⟨b,hb,rfl⟩:=Dk.1 hdl;refine (hc w c a b (λbb h1 h2=>⟨trivial,(hm bb ⟨h1,λh=>by cases h⟩ h2).2⟩) (GoTy.mono hrp λ_ _ _=>⟨trivial,rfl⟩) hb).mono λe w' ⟨v,he,hbl,hv⟩=>⟨v,he,hv,[],hbl.chg _,trivial,List.nodup_nil,λb hb=>by cases hb⟩
 rintro e w' ⟨v,he,hv,hch,F',G',ho,-,hbk,-,-⟩;rw[Db]at hch hbk;exact⟨v,he,hch,hv,F',ho,(C1.1 hbk.1).1,λb hb=>hbk.2 b (CQ.2 (.inl hb))⟩
def MP.bo {β:Type} [GoTy β] (b:Nat) (T:TypeId) (y:β) (G:List Nat):MP:=⟨λw S=>(∃cs Fb,G=b::Fb∧w.heap[b]?=some (.cells cs.toArray T (0,0))∧GoTy.own w Fb cs y)∧∀c∈G,S c,by
  rintro w w' S S' ⟨⟨cs,Fb,rfl,h1,h2⟩,h3⟩ hm
  have hb:b<w.heap.size:=by
    rcases Ep b w.heap.size with h' | h'
    · exact h'
    · rw[D1 h']at h1; cases h1
  have hF:∀c∈Fb,c<w.heap.size:=GoTy.own_lt h2
  have hl:∀c∈b::Fb,c<w.heap.size:=λc hc=>by
    rcases De.1 hc with rfl | h
    · exact hb
    · exact hF c h
  exact⟨⟨cs,Fb,rfl,((hm b (h3 b Ds) hb).2).trans h1,GoTy.own_mono h2 λc hc=>(hm c (h3 c (Df _ hc)) (hF c hc)).2⟩,λc hc=>(hm c (h3 c hc) (hl c hc)).1⟩⟩
theorem Ao {β:Type} [GoTy β] (hD:kj P k (GoTy.n α) (GoTy.agg α)) {g:Nat} {cb:List Value} (eg:CL P g) {del:α→β→Option (Bool×β)} {w0:World} {F:List Nat} {A:Option Addr} {cap:Nat} {x r:List α} {b:Nat} {T:TypeId} {cs:List Value} {Fb:List Nat} {y y':β}
    (hO:lown w0 F [.slice A x.length cap] x) (hb:w0.heap[b]?=some (.cells cs.toArray T (0,0))) (ho:GoTy.own w0 Fb cs y) (hn:(F++(b::Fb)).Nodup) (hr:delO del x y=some (r,y'))
    (hc:∀(w:World) (cs1:List Value) (Fb1:List Nat) (c:List Value) (a:α) (s:β) (q:Bool×β),Moves w0 w (·∉F++(b::Fb)) (NF b Fb1)→w.heap[b]?=some (.cells cs1.toArray T (0,0))→GoTy.own w Fb1 cs1 s→List.Nodup (List.cons b Fb1)→GoTy.rep w (NF b Fb1) c a→del a s=some q →
      Calls P g ([vof (GoTy.agg α) c]++cb).toArray w λe w'=>∃v,e=.returned v∧(Chg w w' (b::Fb1)∧v=.bool q.1∧∃cs' F',w'.heap[b]?=some (.cells cs'.toArray T (0,0))∧GoTy.own w' F' cs' q.2∧Back w w' Fb1 F'∧b∉F')) :
    Calls P k [.slice A x.length cap,.func (.func g) #[] cb.toArray].toArray w0 λe w'=>∃v,e=.returned v∧(Chg w0 w' (F++(b::Fb))∧v=.slice A r.length cap∧∃F' cs' F2,lown w' F' [.slice A r.length cap] r∧w'.heap[b]?=some (.cells cs'.toArray T (0,0))∧GoTy.own w' F2 cs' y'∧Back w0 w' (F++(b::Fb)) (F'++(b::F2))):=by
 have hbl:b<w0.heap.size:=by
   rcases Ep b w0.heap.size with h' | h'
   · exact h'
   · rw[D1 h']at hb; cases hb
 refine (rC hD eg (Q:=λs G=>MP.bo b T s G) (G0:=b::Fb) hO ⟨⟨cs,Fb,rfl,hb,ho⟩,λ_ h=>h⟩ hn (λc hcb=>?_) hr ?_).mono ?_;rcases De.1 hcb with rfl | h
 exact hbl;exact GoTy.own_lt ho c h;rintro w G c a s q hm ⟨⟨cs1,Fb1,rfl,hb1,ho1⟩,-⟩ hGn hrp hdl;refine (hc w cs1 Fb1 c a s q (λd hd hdl=>hm d ⟨λh=>hd (CQ.2 (.inl h)),λh=>hd (CQ.2 (.inr h))⟩ hdl) hb1 ho1 hGn hrp hdl).mono λe w' ⟨v,he,hch,hv,cs',F',hb',ho',hbk,hbF⟩=>⟨v,he,hv,b::F',hch,⟨⟨cs',F',rfl,hb',ho'⟩,λ_ h=>h⟩,D6.2 ⟨hbF,hbk.1⟩,λd hd=>?_⟩;rcases De.1 hd with rfl | h
 refine⟨.inr Ds,?_⟩;rcases Ep d w'.heap.size with h' | h'
 exact h';rw[D1 h']at hb'; cases hb'
 obtain⟨h1,h2⟩:=hbk.2 d h;exact⟨h1.imp id (Df _),h2⟩;rintro e w' ⟨v,he,hv,hch,F',G',ho',⟨⟨cs',F2,rfl,hb',ho2⟩,-⟩,hbk,-,-⟩;exact⟨v,he,hch,hv,F',cs',F2,ho',hb',ho2,hbk⟩
section
variable {w w' w1:World} {w0:Base} {S:Nat→Prop} {M:List Blk} {R:List Row} {D:List DI} {I:List (Bool×MP)}
def NG (G:List Nat):Nat→Prop:=λc=>c∉G
variable {b:Nat} {T:TypeId} {cs c c':List Value} {d1 d2:DI} {G F F':List Nat}
theorem Mem.b2Perm (i:Nat) (hi:M[i]?=some ⟨b,T,cs⟩):(zs M R (d1::d2::D)).Perm ([d1.res,Blk.res ⟨b,T,cs⟩,d2.res]++zs (M.eraseIdx i) R D) :=
  (zj d1).trans ((Mem.boPerm i hi).append_left [d1.res])
theorem Mem.b2All (d1 d2:DI):allZ [d1.res,Blk.res ⟨b,T,cs⟩,d2.res]=d1.F++(b::d2.F):=by simp [allZ,Res.all,Blk.res,DI.res]
theorem Mem.b2Nd (H:Mem w0 S M R (d1::d2::D) I w) (i:Nat) (hi:M[i]?=some ⟨b,T,cs⟩):(d1.F++(b::d2.F)).Nodup:=by
 have hnd:=MemZ.nd (MemZ.perm H (Mem.b2Perm i hi));rw[u6,Mem.b2All]at hnd;exact (C1.1 hnd).1
theorem Mem.b2Disj (H:Mem w0 S M R (d1::d2::D) I w) (i:Nat) (hi:M[i]?=some ⟨b,T,cs⟩) {c:Nat} (hc:c∈allZ (zs (M.eraseIdx i) R D)):NG (d1.F++(b::d2.F)) c:=by
 have hnd:=MemZ.nd (MemZ.perm H (Mem.b2Perm i hi));rw[u6,Mem.b2All]at hnd;exact λh=>(C1.1 hnd).2.2 c h c hc rfl
theorem Mem.arg2 (H:Mem ⟨w1,G⟩ S M R (d1::d2::D) I w) (i:Nat) (hi:M[i]?=some ⟨b,T,cs⟩) (hS:∀c∈G,¬S c) {p:MP} (h:p.pred w1 S):p.pred w (NG (d1.F++(b::d2.F))):=by
 refine p.mono h λc hc hlt=>?_;have hn:¬(⟨w1,G⟩:Base).nw c:=by
   rintro (h1 | h1)
   · simp only at h1; omega
   · exact hS c h1 hc
 refine⟨λhx=>?_,(MemZ.below H).block c hn⟩;exact hn (MemZ.lt (MemZ.perm H (Mem.b2Perm i hi)) c (by rw[u6,Mem.b2All]; exact CQ.2 (.inl hx))).1
theorem Mem.arg2v (H:Mem ⟨w1,G⟩ S M R (d1::d2::D) I w) (i:Nat) (hi:M[i]?=some ⟨b,T,cs⟩) (hS:∀c∈G,¬S c) {α:Type} [GoTy α] {cv:List Value} {x:α} (h:GoTy.rep w1 S cv x):GoTy.rep w (NG (d1.F++(b::d2.F))) cv x:=Mem.arg2 H i hi hS (p:=MP.val cv x) h
theorem Mem.box2 (H:Mem w0 S M R (d1::d2::D) I w) (i:Nat) (hi:M[i]?=some ⟨b,T,cs⟩) (j:Nat) {b2:Nat} {T2:TypeId} {cs2:List Value} (hj:M[j]?=some ⟨b2,T2,cs2⟩) (hij:Nat.beq j i=false):(MP.cells ⟨b2,0,none⟩ cs2).pred w (NG (d1.F++(b::d2.F))):=by
 have hne:j≠i:=λe=>by subst e; simp at hij
 have hm:(⟨b2,T2,cs2⟩:Blk)∈M.eraseIdx i:=FSq.2 ⟨j,hne,hj⟩;have ht:=H.boxTrue j hj;refine⟨Mem.b2Disj H i hi (Dv.2 ⟨Blk.res ⟨b2,T2,cs2⟩,CQ.2 (.inl (Do.2 ⟨_,hm,rfl⟩)),?_⟩),ht.2.1,ht.2.2⟩;simp [Res.all,Blk.res]
theorem Mem.wroteBO2 {β:Type} [GoTy β] {Fb F2:List Nat} {cs':List Value} {x x':α} {y y':β} (H:Mem w0 S M R (⟨F,MP.own F c x⟩::⟨Fb,MP.own Fb cs y⟩::D) I w) (i:Nat) {b:Nat} {T:TypeId} {c0:List Value} (hi:M[i]?=some ⟨b,T,c0⟩) (hR:R.all Row.tightB=true) (hc:Chg w w' (F++(b::Fb)))
    (ho:GoTy.own w' F' c' x') (hb:w'.heap[b]?=some (.cells cs'.toArray T (0,0))) (ho2:GoTy.own w' F2 cs' y') (hbk:Back w w' (F++(b::Fb)) (F'++(b::F2))):Mem w0 S (M.set i ⟨b,T,cs'⟩) R (⟨F',MP.own F' c' x'⟩::⟨F2,MP.own F2 cs' y'⟩::D) [] w':=by
 have hp':(zs (M.set i ⟨b,T,cs'⟩) R (⟨F',MP.own F' c' x'⟩::⟨F2,MP.own F2 cs' y'⟩::D)).Perm ([DI.res ⟨F',MP.own F' c' x'⟩,Blk.res ⟨b,T,cs'⟩,DI.res ⟨F2,MP.own F2 cs' y'⟩]++zs (M.eraseIdx i) R D) :=
   (zj _).trans (((gA _ hi).trans ((zj _).append_left [_])).append_left [_])
 have H1:=MemZ.perm H (Mem.b2Perm i hi);refine MemZ.perm (MemZ.turn (rs':=[DI.res ⟨F',MP.own F' c' x'⟩,Blk.res ⟨b,T,cs'⟩,DI.res ⟨F2,MP.own F2 cs' y'⟩]) H1 (by rw[Mem.b2All]; exact hc) (λd h=>?_) ?_ (gS hR) (λq hq=>?_)) hp'.symm;rw[Mem.b2All]at h ⊢;obtain⟨h1,h2⟩:=hbk.2 d h;exact h1.elim (λh=>.inr ⟨h,h2⟩) .inl;rw[Mem.b2All];exact hbk.1;have:q=DI.res ⟨F',MP.own F' c' x'⟩∨q=Blk.res ⟨b,T,cs'⟩∨q=DI.res ⟨F2,MP.own F2 cs' y'⟩:=by simpa using hq
 rcases this with rfl | rfl | rfl
 exact⟨⟨ho,λb h=>h⟩,λd h=>(hbk.2 d (CQ.2 (.inl h))).2⟩;exact hb;exact⟨⟨ho2,λb h=>h⟩,λd h=>(hbk.2 d (CQ.2 (.inr (Df _ h)))).2⟩
theorem Mem.wroteC {x x':α} (H:Mem w0 S M R (⟨F,MP.own F c x⟩::D) I w) (hR:R.all Row.tightB=true) (hc:Chg w w' F) (ho:GoTy.own w' F' c' x') (hb:Back w w' F F'):Mem w0 S M R (⟨F',MP.own F' c' x'⟩::D) [] w' :=
  H.wroteP hR hc ⟨ho,λ_ h=>h⟩ hb
end
end AT
namespace AT
open Go Go.RowKit Go.Proofs Go.Sort Go.Lib Go.Shelf
variable {w:World} {A:Option Addr} {cap b n:Nat} {x:List Int} {E:TypeId} {P:Program}
theorem An {F:List Nat} (h:lown w F [.slice A x.length cap] x):∃E,w.ownsRow 0 E 1 (.slice A x.length cap) x.length (x.map (Value.int .i64))∧F=(Value.slice A x.length cap).ownBlock.toList:=by
 obtain⟨A',cap',E,cells,Fs,hcs,ho,hF,hl,hel⟩:=h;obtain⟨rfl,rfl⟩:A=A'∧cap=cap':=by simpa using hcs
 have hlen:cells.length=x.length * 1:=ho.1;have hE:∀(i:Nat) (y:Int) (Fi:List Nat),x[i]?=some y→Fs[i]?=some Fi→Fi=[]∧xh Int cells i=[.int .i64 y]:=hel;have hc:cells=x.map (Value.int .i64):=by
   apply ER
   intro i
   by_cases hi:i<x.length
   · obtain⟨Fi,hFi⟩:=ni hl (CR hi)
     have h2:=(hE i _ Fi (CR hi) hFi).2
     have h3:(xh Int cells i)[0]?=some (.int .i64 x[i]):=by rw[h2]; rfl
     unfold xh at h3
     rw[show GoTy.n Int=1 from rfl,Nat.mul_one,Dg (by omega),Dr,DG]at h3
     rw[h3,Ey,CR hi]; rfl
   · rw[DK (by omega),DK (by simp; omega)]
 have hz:List.flatten Fs=[]:=by
   rw[List.flatten_eq_nil_iff]
   intro Fi hFi
   obtain⟨i,hi⟩:=EM.1 hFi
   have hlt:i<x.length:=by rw[←hl]; exact (CZ.1 hi).1
   exact (hE i _ Fi (CR hlt) hi).1
 exact⟨E,by rw[←hc]; exact ho,by rw[hF,hz,Db]⟩
theorem oE (h:w.ownsRow 0 E 1 (.slice A x.length cap) x.length (x.map (Value.int .i64))):lown w (Value.slice A x.length cap).ownBlock.toList [.slice A x.length cap] x:=by
 refine⟨A,cap,E,_,List.replicate x.length [],rfl,h,by rw[j7,Db],FR,λi y Fi hy hF=>?_⟩;have hi:=(CZ.1 hy).1;rw[FG,if_pos hi,Dj]at hF;subst hF;refine⟨rfl,?_⟩;unfold xh;rw[show GoTy.n Int=1 from rfl,Nat.mul_one,←List.map_drop,←List.map_take];obtain⟨h1,rfl⟩:=CZ.1 hy;rw[←C7 h1];rfl
theorem ou (w:World) (b m:Nat) (d:Array Int) (os:Array Obj):Chg w (grow (putRow (Value.int .i64) (Sort.ahead w m) b 0 d) os) [b]:=by
 unfold putRow mapBlock Go.Sort.grow Go.Sort.ahead;refine⟨rfl,rfl,rfl,by simp,λc hc hn=>?_,Nat.le_add_right _ _⟩;simp only;rw[EE (by simpa using hc),EL,if_neg (λe=>hn (by simp [e]))]
theorem putI {m:Nat} {cells:List Value} {d r:List Int} {os:Array Obj} (hd:d.length=n) (hr:r=d.take r.length) (hrl:r.length≤n) (ho:w.ownsRow 0 E 1 (.slice (some ⟨b,0,none⟩) n cap) n cells) :
    (grow (putRow (Value.int .i64) (Sort.ahead w m) b 0 d.toArray) os).ownsRow 0 E 1 (.slice (some ⟨b,0,none⟩) r.length cap) r.length (r.map (Value.int .i64)):=by
 refine⟨by simp,?_⟩;rcases ho.2 with ⟨h',_⟩ | ⟨g',cap',cur,h',hB,hg,hnc,hcm,hcs,htake⟩
 simp at h';simp only[Value.slice.injEq,Dj,Addr.mk.injEq,and_true,true_and]at h';obtain⟨rfl,rfl⟩:=h';have hlt:b<w.heap.size:=(D8.1 hg).1;have hsz:(putCells (Value.int .i64) 0 d.toArray cur).size=cur.size:=by simp [putCells]
 refine .inr ⟨b,cap,putCells (Value.int .i64) 0 d.toArray cur,rfl,hB,?_,by omega,hcm,by rw[hsz]; exact hcs,?_⟩;unfold putRow mapBlock Go.Sort.grow Go.Sort.ahead;simp only;rw[EE (by simpa using hlt),EL,if_pos rfl,hg];rfl;apply EI;rw[C0,DT,Dq (xs:=putCells (Value.int .i64) 0 d.toArray cur),hsz];omega;intro i h1 h2;have hi:i<r.length:=by simpa using h2
 rw[DW,EP];simp only[putCells,Array.getElem_mapIdx];rw[if_pos ⟨Es _,by rw[Ef]; omega⟩];simp only[Ex];rw[Gl];congr 1;have e:d.toArray[i]! =d[i]'(by omega):=by rw[getElem!_pos _ _ (by rw[Ef]; omega)]; simp
 rw[e];have h5:r[i]?=(d.take r.length)[i]?:=by rw[←hr]
 rw[CR hi,Dg hi,CR (by omega)]at h5;exact (CS h5).symm
theorem tK (hx:x.length=n) (ho:w.ownsRow 0 E 1 (.slice (some ⟨b,0,none⟩) n cap) n (x.map (Value.int .i64))):Holds (Value.int .i64) w b 0 x.toArray:=by
 intro j hj;rw[Ef]at hj;have h1:=ho.cells (g:=b) rfl j (.int .i64 x[j]) (by rw[Ey,CR hj]; rfl);rw[add_lit]at h1;refine⟨?_,ho.frozenAt _⟩;rw[h1,getElem!_pos _ _ (by simpa using hj)];simp
theorem ql {ρ:Ren} (L:Lays.n189 P ρ) {w0:World} {F:List Nat} {A:Option Addr} {cap:Nat} {x r:List Int} (hO:lown w0 F [.slice A x.length cap] x) (hn:F.Nodup) (hr:rZ x=some r) :
    Calls P (ρ.f 189) #[.slice A x.length cap] w0 λe w'=>∃v,e=.returned v∧(Chg w0 w' F∧v=.tuple #[]∧∃F',lown w' F' [.slice A x.length cap] r∧Back w0 w' F F'):=by
  have hlt:=GoTy.own_lt (α:=List Int) hO;unfold rZ at hr;split at hr
  case isFalse=>cases hr
  rename_i hsz;injection hr with hr
  have hrl:r.length=x.length:=by rw[←hr]; simp
  rcases FE x.length with h0 | h0
  · have hx:x=[]:=D9 h0
    subst hx
    have hr0:r=[]:=Gp.1 hrl
    subst hr0
    refine (Any.slices_Sort_int_none L A cap w0).mono λe w' ⟨he,hw⟩=>⟨_,he,?_⟩
    subst hw
    exact⟨Chg.refl _ _,rfl,F,hO,hn,λb hb=>⟨.inr hb,hlt b hb⟩⟩
  · obtain⟨E,ho,rfl⟩:=An hO
    obtain⟨b,rfl,hb,-,-⟩:=gD h0 ho
    refine (Any.slices_Sort_int L b 0 cap x w0 (tK rfl ho) hb hsz).mono λe w' ⟨he,m,os,hw⟩=>⟨_,he,?_⟩
    rw[hr]at hw
    have hc:=ou w0 b m r.toArray os
    have hp:=putI (m:=m) (os:=os) (r:=r) hrl (by simp) (by omega) ho
    rw[←hw]at hc hp
    refine⟨hc,rfl,[b],?_,by simp,λc hcb=>⟨.inr hcb,Eh (hlt c hcb) hc.size⟩⟩
    rw[←hrl]
    exact oE hp
theorem i7 (x:List Int):Lib.compact x=i8 x:=by
 have h:∀m,m≤x.length→compactUpTo x.toArray m=i8 (x.take m):=by
   intro m
   induction m with
   | zero=>intro _; simp [compactUpTo,i8]
   | succ m ih =>
     intro hm
     rw[compactUpTo_succ,ih (by omega),FM (by omega),pO]
     congr 1
     have e1:x.toArray[m]! =x[m]:=by rw[getElem!_pos _ _ (by simp; omega)]; simp
     by_cases h0:m=0
     · subst h0; simp [keeps,e1]
     · have e2:x.toArray[m - 1]! =x[m - 1]:=by rw[getElem!_pos _ _ (by simp; omega)]; simp
       have e3:((x.take m).getLast?).getD 0=x[m - 1]:=by
         rw[List.getLast?_eq_getElem?,C0,D7 (by omega),Dg (by omega),CR (by omega)]; rfl
       have e4:x.take m≠[]:=by
         intro h
         have:=congrArg List.length h
         rw[C0,En,D7 (by omega)]at this
         omega
       rw[e3,e1]
       by_cases h5:x[m]=x[m - 1]
       · simp [keeps,e1,e2,h5,h0,e4]
       · simp [keeps,e1,e2,h5,h0,e4]
 have:=h x.length (Da _);rw[Gr]at this;exact this
theorem rF (x:List Int):(i8 x).length≤x.length:=by
 rw[←i7];unfold Lib.compact compactUpTo;rw[DT];exact DU (Ez _ _) (by simp)
theorem rE {ρ:Ren} (L:Lays2.n20 P ρ) {w0:World} {F:List Nat} {A:Option Addr} {cap:Nat} {x r:List Int} (hO:lown w0 F [.slice A x.length cap] x) (hn:F.Nodup) (hr:some (i8 x)=some r) :
    Calls P (ρ.f 20) #[.slice A x.length cap] w0 λe w'=>∃v,e=.returned v∧(Chg w0 w' F∧v=.slice A r.length cap∧∃F',lown w' F' [.slice A r.length cap] r∧Back w0 w' F F'):=by
 have hlt:=GoTy.own_lt (α:=List Int) hO;injection hr with hr
 rcases FE x.length with h0 | h0
 have hx:x=[]:=D9 h0;subst hx;subst hr;refine (Any.slices_Compact_int_empty L A cap w0).mono λe w' ⟨he,hw⟩=>⟨_,he,?_⟩;subst hw;exact⟨Chg.refl _ _,rfl,F,hO,hn,λb hb=>⟨.inr hb,hlt b hb⟩⟩;obtain⟨E,ho,rfl⟩:=An hO;obtain⟨b,rfl,hb,hcap,hcm⟩:=gD h0 ho;have hx1:x.length≤9223372036854775807:=by
   have:maxLen≤9223372036854775807:=by simp [maxLen]
   omega
 refine (Any.slices_Compact_int L b 0 cap x w0 (tK rfl ho) hx1 hcap).mono λe w' ⟨he,q,hw⟩=>⟨_,he,?_⟩;rw[i7,hr]at hw;rw[i7,hr];have hrl:r.length≤x.length:=by rw[←hr]; exact rF x
 rw[←grow_empty (putRow _ _ _ _ _)]at hw;have hc:=ou w0 b q (r++List.replicate (x.length - r.length) 0).toArray #[];have hp:=putI (m:=q) (os:=#[]) (r:=r) (d:=r++List.replicate (x.length - r.length) 0) (by simp; omega) (by simp) hrl ho;rw[←hw]at hc hp;exact⟨hc,rfl,[b],oE hp,by simp,λc hcb=>⟨.inr hcb,Eh (hlt c hcb) hc.size⟩⟩
end AT
