/- The library's sort of a row by a compare function, in the words of the walks. -/
import Derived.Test.YtlemonjnolciiaaGreatAtPI
import Derived.Shelf.SlSortCmp.WholeK
import Derived.Shelf.SlSortCmp.NoneTotal
import Derived.Shelf.Sort.Plain
import Derived.Shelf.Slices.In.SortNone
import Derived.Shelf.Slices.CompactI
set_option linter.unusedSimpArgs false
set_option linter.unusedVariables false
namespace AT
open Go Go.RowKit Go.Proofs Go.Sort Go.Lib Go.Shelf
theorem Below.grown {W w':World} (h:Below W.heap.size W w'):∃q os',w'=Go.Sort.grow (W.drewN q) os':=by
  refine⟨w'.drawn - W.drawn,w'.heap.extract W.heap.size w'.heap.size,?_⟩;have hh:w'.heap=W.heap++w'.heap.extract W.heap.size w'.heap.size:=by
    have hs:=h.size
    apply Array.ext
    · simp; omega
    · intro i h1 h2
      rw[Array.getElem_append]
      split
      · rename_i hi
        have:=h.block i hi
        rw[wm h1,wm hi]at this
        exact sx this
      · rename_i hi
        rw[Array.getElem_extract]
        congr 1
        omega
  have hd:=h.drawn;cases w'
  cases W;simp only[Go.Sort.grow,World.drewN]at *;have h1:=h.os;have h2:=h.tape;have h3:=h.output;simp only at h1 h2 h3;subst h1; subst h2; subst h3;simp only[World.mk.injEq,true_and,and_true];exact⟨hh,by omega⟩
theorem fH {w:World} {E:TypeId} {s n cap:Nat} {A:Option Addr} {cells:List Value} (h0:0<n) (ho:w.ownsRow 0 E s (.slice A n cap) n cells):∃b,A=some ⟨b,0,none⟩∧b<w.heap.size∧n≤cap∧cap≤maxLen:=by
 rcases ho.2 with ⟨-,hz⟩ | ⟨g',cap'',cur,hv,-,hg,hnc,hcm,-,-⟩
 omega;simp only[Value.slice.injEq]at hv;obtain⟨hA,-,rfl⟩:=hv;exact⟨g',hA,(tz.1 hg).1,hnc,hcm⟩
end AT
namespace AT
open Go Go.RowKit
structure Ix (C:List (List Value)) where
  i:Nat
@[reducible] def ixTy (C:List (List Value)) (k:Nat) (ag:Bool) (hk:0<k) (hC:∀c∈C,c.length=k∧∀v∈c,v.oneCell'=true):GoTy (Ix C) where
  n:=k
  agg:=ag
  flat:=true
  rep _ _ cs x:=C[x.i]?=some cs
  own _ F cs x:=F=[]∧C[x.i]?=some cs
  pos:=hk
  len:=λh=>(hC _ (sF h)).1
  one:=λh=>(hC _ (sF h)).2
  mono:=λh _=>h
  own_rep:=λh=>h.2
  own_mono:=λh _=>h
  own_lt:=by rintro _ _ _ _ ⟨rfl,_⟩ _ h; cases h
  own_flat:=λ_ h=>⟨rfl,h⟩
section
variable {w w' w1:World} {w0:Base} {S:Nat→Prop} {M:List Blk} {R:List Row} {D:List DI} {I:List (Bool×MP)}
end
section
variable {w w':World} {w0:World} {S:Nat→Prop} {M:List Blk} {R:List Row} {D:List DI} {I:List (Bool×MP)}
end
structure DelSt (α σ:Type) where
  i:Nat
  j:Nat
  s:σ
  G:List Nat
  y:List α
structure DelInv {α σ:Type} (del:α→σ→Option (Bool×σ)) (x r:List α) (s1:σ) (z:DelSt α σ):Prop where
  lt:z.i<z.j
  le:z.j≤x.length
  len:z.y.length=x.length
  drop:z.y.drop z.j=x.drop z.j
  rest:∃q,delO del (x.drop z.j) z.s=some (q,s1)∧r=z.y.take z.i++q
theorem DelInv.start {α σ:Type} {del:α→σ→Option (Bool×σ)} {x r l2 q2:List α} {a0:α} {s1 s:σ} {k:Nat} {G:List Nat} (hk:k<x.length) (hd:x.drop k=a0::l2) (hq:delO del l2 s=some (q2,s1)) (hr:r=x.take k++q2):DelInv del x r s1 ⟨k,k + 1,s,G,x⟩:=by
 have h2:x.drop (k + 1)=l2:=by rw[←wj,hd]; rfl
 exact⟨Nat.lt_succ_self _,hk,rfl,rfl,q2,by rw[h2]; exact hq,hr⟩
theorem DelInv.at_ {α σ:Type} {del:α→σ→Option (Bool×σ)} {x r:List α} {s1:σ} {z:DelSt α σ} (h:DelInv del x r s1 z) (hj:z.j<z.y.length):∃q,del z.y[z.j] z.s=some q ∧
    (q.1=true→∀G,DelInv del x r s1 ⟨z.i,z.j + 1,q.2,G,z.y⟩)∧(q.1=false→∀G,DelInv del x r s1 ⟨z.i + 1,z.j + 1,q.2,G,z.y.set z.i z.y[z.j]⟩):=by
 obtain⟨i,j,s,G,y⟩:=z;obtain⟨lt,le,len,drop,q,hq,hr⟩:=h;change j<y.length at hj;simp only at lt le len drop hq hr ⊢;have hjx:j<x.length:=by omega
 have e1:x.drop j=y[j]::x.drop (j + 1):=by
   rw[←drop,←sL hj]
   congr 1
   rw[←wj,←wj,drop]
 have e2:y.drop (j + 1)=x.drop (j + 1):=by rw[←wj,←wj,drop]
 rw[e1]at hq;obtain⟨b,s',q',h1,h2,h3⟩:=mO hq;refine⟨(b,s'),h1,λhb G=>?_,λhb G=>?_⟩;simp only at hb;subst hb;exact⟨by simp only; omega,by simp only; omega,len,e2,q',h2,by rw[hr]; simp only at h3 ⊢; rw[h3]; rfl⟩;simp only at hb;subst hb;refine⟨by simp only; omega,by simp only; omega,by simp only; rw[sw]; exact len,?_,q',h2,?_⟩;simp only;rw[wa (by omega)];exact e2;simp only at h3 ⊢;have hi:i<y.length:=Nat.lt_trans lt hj;rw[hr,h3];simp only[sC,if_false];rw[wW (by rw[sw]; exact hi),List.getElem_set_self,wb (sK _),sE];rfl
theorem Below.chg {w w':World} (h:Below w.heap.size w w') (X:List Nat):Chg w w' X:=⟨h.os,h.tape,h.output,h.size,λk hk _=>h.block k hk,h.drawn⟩
section
variable {w w' w1:World} {w0:Base} {S:Nat→Prop} {M:List Blk} {R:List Row} {D:List DI} {I:List (Bool×MP)}
theorem Mem.wroteC {α:Type} [GoTy α] {F F':List Nat} {c c':List Value} {x x':α} (H:Mem w0 S M R (⟨F,MP.own F c x⟩::D) I w) (hR:R.all Row.tightB=true) (hc:Chg w w' F) (ho:GoTy.own w' F' c' x') (hb:Back w w' F F'):Mem w0 S M R (⟨F',MP.own F' c' x'⟩::D) [] w' :=
  H.wroteP hR hc ⟨ho,λ_ h=>h⟩ hb
end
end AT
namespace AT
open Go Go.RowKit Go.Proofs Go.Sort Go.Lib Go.Shelf
variable {w:World} {A:Option Addr} {cap b n:Nat} {x:List Int} {E:TypeId} {P:Program}
theorem pS {F:List Nat} (h:lown w F [.slice A x.length cap] x):∃E,w.ownsRow 0 E 1 (.slice A x.length cap) x.length (x.map (Value.int .i64))∧F=(Value.slice A x.length cap).ownBlock.toList:=by
 obtain⟨A',cap',E,cells,Fs,hcs,ho,hF,hl,hel⟩:=h;obtain⟨rfl,rfl⟩:A=A'∧cap=cap':=by simpa using hcs
 have hlen:cells.length=x.length * 1:=ho.1;have hE:∀(i:Nat) (y:Int) (Fi:List Nat),x[i]?=some y→Fs[i]?=some Fi→Fi=[]∧vt Int cells i=[.int .i64 y]:=hel;have hc:cells=x.map (Value.int .i64):=by
   apply t2
   intro i
   by_cases hi:i<x.length
   · obtain⟨Fi,hFi⟩:=gP hl (sv hi)
     have h2:=(hE i _ Fi (sv hi) hFi).2
     have h3:(vt Int cells i)[0]?=some (.int .i64 x[i]):=by rw[h2]; rfl
     unfold vt at h3
     rw[show GoTy.n Int=1 from rfl,Aw,sI (by omega),sN,sW]at h3
     rw[h3,wL,sv hi]; rfl
   · rw[sR (by omega),sR (by simp; omega)]
 have hz:List.flatten Fs=[]:=by
   rw[List.flatten_eq_nil_iff]
   intro Fi hFi
   obtain⟨i,hi⟩:=wI.1 hFi
   have hlt:i<x.length:=by rw[←hl]; exact (sy.1 hi).1
   exact (hE i _ Fi (sv hlt) hi).1
 exact⟨E,by rw[←hc]; exact ho,by rw[hF,hz,s5]⟩
theorem j8 (h:w.ownsRow 0 E 1 (.slice A x.length cap) x.length (x.map (Value.int .i64))):lown w (Value.slice A x.length cap).ownBlock.toList [.slice A x.length cap] x:=by
 refine⟨A,cap,E,_,List.replicate x.length [],rfl,h,by rw[cf,s5],wZ,λi y Fi hy hF=>?_⟩;have hi:=(sy.1 hy).1;rw[tY,if_pos hi,sO]at hF;subst hF;refine⟨rfl,?_⟩;unfold vt;rw[show GoTy.n Int=1 from rfl,Aw,←List.map_drop,←List.map_take];obtain⟨h1,rfl⟩:=sy.1 hy;rw[←sL h1];rfl
theorem j0 (w:World) (b m:Nat) (d:Array Int) (os:Array Obj):Chg w (grow (putRow (Value.int .i64) (Sort.ahead w m) b 0 d) os) [b]:=by
 unfold putRow mapBlock Go.Sort.grow Go.Sort.ahead;refine⟨rfl,rfl,rfl,by simp,λc hc hn=>?_,Nat.le_add_right _ _⟩;simp only;rw[wM (by simpa using hc),wY,if_neg (λe=>hn (by simp [e]))]
theorem putI {m:Nat} {cells:List Value} {d r:List Int} {os:Array Obj} (hd:d.length=n) (hr:r=d.take r.length) (hrl:r.length≤n) (ho:w.ownsRow 0 E 1 (.slice (some ⟨b,0,none⟩) n cap) n cells) :
    (grow (putRow (Value.int .i64) (Sort.ahead w m) b 0 d.toArray) os).ownsRow 0 E 1 (.slice (some ⟨b,0,none⟩) r.length cap) r.length (r.map (Value.int .i64)):=by
 refine⟨by simp,?_⟩;rcases ho.2 with ⟨h',_⟩ | ⟨g',cap',cur,h',hB,hg,hnc,hcm,hcs,htake⟩
 simp at h';simp only[Value.slice.injEq,sO,Addr.mk.injEq,and_true,true_and]at h';obtain⟨rfl,rfl⟩:=h';have hlt:b<w.heap.size:=(tz.1 hg).1;have hsz:(putCells (Value.int .i64) 0 d.toArray cur).size=cur.size:=by simp [putCells]
 refine .inr ⟨b,cap,putCells (Value.int .i64) 0 d.toArray cur,rfl,hB,?_,by omega,hcm,by rw[hsz]; exact hcs,?_⟩;unfold putRow mapBlock Go.Sort.grow Go.Sort.ahead;simp only;rw[wM (by simpa using hlt),wY,if_pos rfl,hg];rfl;apply Am;rw[sG,tJ,t7 (xs:=putCells (Value.int .i64) 0 d.toArray cur),hsz];omega;intro i h1 h2;have hi:i<r.length:=by simpa using h2
 rw[tO,Array.getElem_toList];simp only[putCells,Array.getElem_mapIdx];rw[if_pos ⟨wv _,by rw[tC]; omega⟩];simp only[t6];rw[List.getElem_map];congr 1;have e:d.toArray[i]! =d[i]'(by omega):=by rw[getElem!_pos _ _ (by rw[tC]; omega)]; simp
 rw[e];have h5:r[i]?=(d.take r.length)[i]?:=by rw[←hr]
 rw[sv hi,sI hi,sv (by omega)]at h5;exact (sx h5).symm
theorem oh (hx:x.length=n) (ho:w.ownsRow 0 E 1 (.slice (some ⟨b,0,none⟩) n cap) n (x.map (Value.int .i64))):Holds (Value.int .i64) w b 0 x.toArray:=by
 intro j hj;rw[tC]at hj;have h1:=ho.cells (g:=b) rfl j (.int .i64 x[j]) (by rw[wL,sv hj]; rfl);rw[add_lit]at h1;refine⟨?_,ho.frozenAt _⟩;rw[h1,getElem!_pos _ _ (by simpa using hj)];simp
theorem lE {ρ:Ren} (L:Lays.n189 P ρ) {w0:World} {F:List Nat} {A:Option Addr} {cap:Nat} {x r:List Int} (hO:lown w0 F [.slice A x.length cap] x) (hn:F.Nodup) (hr:nr x=some r) :
    Calls P (ρ.f 189) #[.slice A x.length cap] w0 λe w'=>∃v,e=.returned v∧(Chg w0 w' F∧v=.tuple #[]∧∃F',lown w' F' [.slice A x.length cap] r∧Back w0 w' F F'):=by
  have hlt:=GoTy.own_lt (α:=List Int) hO;unfold nr at hr;split at hr
  case isFalse=>cases hr
  rename_i hsz;injection hr with hr
  have hrl:r.length=x.length:=by rw[←hr]; simp
  rcases Nat.eq_zero_or_pos x.length with h0 | h0
  · have hx:x=[]:=tF h0
    subst hx
    have hr0:r=[]:=List.length_eq_zero_iff.1 hrl
    subst hr0
    refine (Any.slices_Sort_int_none L A cap w0).mono λe w' ⟨he,hw⟩=>⟨_,he,?_⟩
    subst hw
    exact⟨Chg.refl _ _,rfl,F,hO,hn,λb hb=>⟨.inr hb,hlt b hb⟩⟩
  · obtain⟨E,ho,rfl⟩:=pS hO
    obtain⟨b,rfl,hb,-,-⟩:=fH h0 ho
    refine (Any.slices_Sort_int L b 0 cap x w0 (oh rfl ho) hb hsz).mono λe w' ⟨he,m,os,hw⟩=>⟨_,he,?_⟩
    rw[hr]at hw
    have hc:=j0 w0 b m r.toArray os
    have hp:=putI (m:=m) (os:=os) (r:=r) hrl (by simp) (by omega) ho
    rw[←hw]at hc hp
    refine⟨hc,rfl,[b],?_,by simp,λc hcb=>⟨.inr hcb,tI (hlt c hcb) hc.size⟩⟩
    rw[←hrl]
    exact j8 hp
theorem eJ (x:List Int):Lib.compact x=gF x:=by
 have h:∀m,m≤x.length→compactUpTo x.toArray m=gF (x.take m):=by
   intro m
   induction m with
   | zero=>intro _; simp [compactUpTo,gF]
   | succ m ih =>
     intro hm
     rw[compactUpTo_succ,ih (by omega),wW (by omega),k6]
     congr 1
     have e1:x.toArray[m]! =x[m]:=by rw[getElem!_pos _ _ (by simp; omega)]; simp
     by_cases h0:m=0
     · subst h0; simp [keeps,e1]
     · have e2:x.toArray[m - 1]! =x[m - 1]:=by rw[getElem!_pos _ _ (by simp; omega)]; simp
       have e3:((x.take m).getLast?).getD 0=x[m - 1]:=by
         rw[List.getLast?_eq_getElem?,sG,tV (by omega),sI (by omega),sv (by omega)]; rfl
       have e4:x.take m≠[]:=by
         intro h
         have:=congrArg List.length h
         rw[sG,Ab,tV (by omega)]at this
         omega
       rw[e3,e1]
       by_cases h5:x[m]=x[m - 1]
       · simp [keeps,e1,e2,h5,h0,e4]
       · simp [keeps,e1,e2,h5,h0,e4]
 have:=h x.length (sK _);rw[w8]at this;exact this
theorem mS (x:List Int):(gF x).length≤x.length:=by
 rw[←eJ];unfold Lib.compact compactUpTo;rw[tJ];exact tL (wH _ _) (by simp)
theorem mR {ρ:Ren} (L:Lays2.n20 P ρ) {w0:World} {F:List Nat} {A:Option Addr} {cap:Nat} {x r:List Int} (hO:lown w0 F [.slice A x.length cap] x) (hn:F.Nodup) (hr:some (gF x)=some r) :
    Calls P (ρ.f 20) #[.slice A x.length cap] w0 λe w'=>∃v,e=.returned v∧(Chg w0 w' F∧v=.slice A r.length cap∧∃F',lown w' F' [.slice A r.length cap] r∧Back w0 w' F F'):=by
 have hlt:=GoTy.own_lt (α:=List Int) hO;injection hr with hr
 rcases Nat.eq_zero_or_pos x.length with h0 | h0
 have hx:x=[]:=tF h0;subst hx;subst hr;refine (Any.slices_Compact_int_empty L A cap w0).mono λe w' ⟨he,hw⟩=>⟨_,he,?_⟩;subst hw;exact⟨Chg.refl _ _,rfl,F,hO,hn,λb hb=>⟨.inr hb,hlt b hb⟩⟩;obtain⟨E,ho,rfl⟩:=pS hO;obtain⟨b,rfl,hb,hcap,hcm⟩:=fH h0 ho;have hx1:x.length≤9223372036854775807:=by
   have:maxLen≤9223372036854775807:=by simp [maxLen]
   omega
 refine (Any.slices_Compact_int L b 0 cap x w0 (oh rfl ho) hx1 hcap).mono λe w' ⟨he,q,hw⟩=>⟨_,he,?_⟩;rw[eJ,hr]at hw;rw[eJ,hr];have hrl:r.length≤x.length:=by rw[←hr]; exact mS x
 rw[←grow_empty (putRow _ _ _ _ _)]at hw;have hc:=j0 w0 b q (r++List.replicate (x.length - r.length) 0).toArray #[];have hp:=putI (m:=q) (os:=#[]) (r:=r) (d:=r++List.replicate (x.length - r.length) 0) (by simp; omega) (by simp) hrl ho;rw[←hw]at hc hp;exact⟨hc,rfl,[b],j8 hp,by simp,λc hcb=>⟨.inr hcb,tI (hlt c hcb) hc.size⟩⟩
end AT
namespace AT
open Go Go.RowKit
structure Tg (α:Type) (C:Nat→List Value) where
  a:α
  i:Nat
structure Nx (α:Type) (C:Nat→List Value) where
  i:Nat
instance {α:Type} [GoTy α] {C:Nat→List Value}:GoTy (Tg α C) where
  n:=GoTy.n α
  agg:=GoTy.agg α
  flat:=false
  rep w S cs x:=cs=C x.i∧GoTy.rep w S cs x.a
  own w F cs x:=cs=C x.i∧GoTy.own w F cs x.a
  pos:=GoTy.pos
  len:=λh=>GoTy.len h.2
  one:=λh=>GoTy.one h.2
  mono:=λh m=>⟨h.1,GoTy.mono h.2 m⟩
  own_rep:=λh=>⟨h.1,GoTy.own_rep h.2⟩
  own_mono:=λh m=>⟨h.1,GoTy.own_mono h.2 m⟩
  own_lt:=λh=>GoTy.own_lt h.2
  own_flat:=λh _=>by cases h
instance {α:Type} [GoTy α] {C:Nat→List Value}:GoTy (Nx α C) where
  n:=GoTy.n α
  agg:=GoTy.agg α
  flat:=true
  rep _ _ cs x:=cs=C x.i∧cs.length=GoTy.n α∧∀c∈cs,c.oneCell'=true
  own _ F cs x:=F=[]∧cs=C x.i∧cs.length=GoTy.n α∧∀c∈cs,c.oneCell'=true
  pos:=GoTy.pos
  len:=λh=>h.2.1
  one:=λh=>h.2.2
  mono:=λh _=>h
  own_rep:=λh=>h.2
  own_mono:=λh _=>h
  own_lt:=by rintro _ _ _ _ ⟨rfl,_⟩ _ h; cases h
  own_flat:=λ_ h=>⟨rfl,h⟩
def tagL {α:Type} (C:Nat→List Value) (L:List α):List (Tg α C):=L.zipIdx.map λp=>⟨p.1,p.2⟩
theorem fv {α:Type} (C:Nat→List Value) (L:List α):(tagL C L).length=L.length:=by
 unfold tagL;rw[tJ,List.length_zipIdx]
variable {C:Nat→List Value} {α:Type} [GoTy α] {F:List Nat} {A:Option Addr} {Fs:List (List Nat)} {L:List α}
theorem jt {α:Type} {L:List α} {i:Nat} {x:Tg α C}:(tagL C L)[i]?=some x↔L[i]?=some x.a∧x.i=i:=by
 unfold tagL;rw[wL,List.getElem?_zipIdx];cases L[i]? with
 | none=>simp
 | some y =>
   obtain⟨a,j⟩:=x
   simp only[As,sO,tc,Tg.mk.injEq]
   constructor
   · rintro⟨rfl,rfl⟩; exact⟨rfl,rfl⟩
   · rintro⟨rfl,rfl⟩; exact⟨rfl,rfl⟩
theorem nm {w:World} {m cap:Nat} (h:lown w F [.slice A m cap] L):∃C,lown w F [.slice A m cap] (tagL C L):=by
 obtain⟨A',cap',E,cells,Fs,hcs,ho,hF,hl,hel⟩:=h;have hn:=fv (λi=>vt α cells i) L;refine⟨λi=>vt α cells i,A',cap',E,cells,Fs,by rw[hn]; exact hcs,by rw[hn]; exact ho,by rw[hn]; exact hF,by rw[hn]; exact hl,λi x Fi hx hFi=>?_⟩;obtain⟨h1,h2⟩:=jt.1 hx;have h3:GoTy.own w Fi (vt α cells i) x.a:=hel i x.a Fi h1 hFi;refine⟨?_,h3⟩;show vt (Tg α _) cells i=vt α cells x.i;rw[h2];rfl
theorem me:(List.flatten Fs).Nodup↔(∀l∈Fs,l.Nodup)∧Fs.Pairwise λa b=>∀x∈a,∀y∈b,x≠y:=List.pairwise_flatten
theorem qG (h:(List.flatten Fs).Nodup) {i j:Nat} {a b:List Nat} (hi:Fs[i]?=some a) (hj:Fs[j]?=some b) (hne:i≠j):∀x∈a,x∉b:=by
 obtain⟨hi1,hi2⟩:=sy.1 hi;obtain⟨hj1,hj2⟩:=sy.1 hj;have hp:=(me.1 h).2;intro x hx hxb;rcases Nat.lt_or_gt_of_ne hne with hlt | hlt
 have:=wn.1 hp i j hi1 hj1 hlt;rw[hi2,hj2]at this;exact this x hx x hxb rfl;have:=wn.1 hp j i hj1 hi1 hlt;rw[hi2,hj2]at this;exact this x hxb x hx rfl
theorem kE {w:World} {F1:List Nat} {A1:Option Addr} {m c m1 c1:Nat} {is:List (Nx α C)} {z:α} (hL:lown w F [.slice A m c] (tagL C L)) (hI:lown w F1 [.slice A1 m1 c1] is) (hd:(is.map λx=>x.i).Nodup) (hlt:∀x∈is,x.i<L.length) (hn:(F1++F).Nodup) :
    ∃F',lown w F' [.slice A1 m1 c1] (is.map λx=>(L[x.i]?).getD z)∧F'.Nodup∧∀b∈F',b∈F1++F:=by
 obtain⟨A',cap',E,cells,Fs,hcs,ho,hF,hl,hel⟩:=hL;obtain⟨A1',cap1',E1,cells1,Fs1,hcs1,ho1,hF1,hl1,hel1⟩:=hI;rw[fv]at hl;have hlen:(is.map λx=>(L[x.i]?).getD z).length=is.length:=by rw[tJ]
 have hmem:∀x∈is,∃a,L[x.i]?=some a∧∃Fi,Fs[x.i]?=some Fi:=λx hx=>by
   have h:=hlt x hx
   exact⟨_,sv h,_,sv (by omega)⟩
 have hnF:(List.flatten Fs).Nodup:=by
   have h1:=(sA.1 hn).2.1
   rw[hF]at h1
   exact (sA.1 h1).2.1
 have hsub:∀b∈List.flatten (is.map λx=>(Fs[x.i]?).getD []),b∈F:=λb hb=>by
   obtain⟨l,hl2,hb2⟩:=wy.1 hb
   obtain⟨x,hx,rfl⟩:=sS.1 hl2
   obtain⟨a,ha,Fi,hFi⟩:=hmem x hx
   rw[hFi,wi]at hb2
   rw[hF]
   exact su.2 (.inr (wy.2 ⟨Fi,sF hFi,hb2⟩))
 refine⟨(Value.slice A1' is.length cap1').ownBlock.toList++List.flatten (is.map λx=>(Fs[x.i]?).getD []),⟨A1',cap1',E1,cells1,is.map λx=>(Fs[x.i]?).getD [],by rw[hlen]; exact hcs1,by rw[hlen]; exact ho1,by rw[hlen],by rw[tJ,tJ],λi x Fi hx hFi=>?_⟩,?_,λb hb=>?_⟩;rw[wL]at hx hFi;obtain⟨y,hy,rfl⟩:=sV.1 hx;rw[hy,As,sO]at hFi;obtain⟨a,ha,Fj,hFj⟩:=hmem y (sF hy);rw[hFj,wi]at hFi;subst hFi;rw[ha,wi];obtain⟨G,hG⟩:=gP hl1 hy;have h1:vt (Nx α C) cells1 i=C y.i:=(hel1 i y G hy hG).2.1;have h2:=hel y.i ⟨a,y.i⟩ Fj (jt.2 ⟨ha,rfl⟩) hFj;have h3:vt (Tg α C) cells y.i=C y.i:=h2.1;have h4:GoTy.own w Fj (vt (Tg α C) cells y.i) a:=h2.2;show GoTy.own w Fj (vt (Nx α C) cells1 i) a;rw[h1,←h3];exact h4;rw[sA];refine⟨?_,?_,λb hb d hd2 e=>?_⟩;have h1:=(sA.1 hn).1;rw[hF1]at h1;exact (sA.1 h1).1;rw[me];refine⟨λl hl2=>?_,?_⟩;obtain⟨x,hx,rfl⟩:=sS.1 hl2;obtain⟨a,ha,Fi,hFi⟩:=hmem x hx;rw[hFi,wi];exact (me.1 hnF).1 Fi (sF hFi);rw[List.pairwise_map];have hd':is.Pairwise λx y=>x.i≠y.i:=List.pairwise_map.1 hd;refine List.Pairwise.imp_of_mem ?_ hd';intro x y hx hy hne;obtain⟨a,ha,Fi,hFi⟩:=hmem x hx;obtain⟨a2,ha2,Fj,hFj⟩:=hmem y hy;rw[hFi,hFj,wi,wi];intro b hb b2 hb2 e;subst e;exact qG hnF hFi hFj hne b hb hb2;subst e;have h1:b∈F1:=by rw[hF1]; exact su.2 (.inl hb)
 exact (sA.1 hn).2.2 b h1 b (hsub b hd2) rfl;rcases su.1 hb with hb | hb
 exact su.2 (.inl (by rw[hF1]; exact su.2 (.inl hb)));exact su.2 (.inr (hsub b hb))
section
variable {w w':World} {w0:Base} {S:Nat→Prop} {M:List Blk} {R:List Row} {D:List DI} {I:List (Bool×MP)}
theorem Mem.wroteMapO {P:Program} {tk te:TypeId} {b:Nat} {m m':List (Int×Bool)} {p:MP} (H:Mem w0 S M R (⟨[b],MP.map P tk te b m⟩::D) I w) (hR:R.all Row.tightB=true) (hc:Chg w w' [b]) (ho:(MP.map P tk te b m').pred w' (·∈[b])) (hN:New w w' F) (hp:p.pred w' (·∈F)) :
    Mem w0 S M R (⟨[b],MP.map P tk te b m'⟩::⟨F,p⟩::D) [] w':=by
 have H1:=MemZ.perm H (xQ _);have hall:∀e:DI,allZ [e.res]=e.F:=λe=>by rw[uA]; rfl
 have hlt:b<w.heap.size:=by
   have h:=(MemZ.lt H1 b (by rw[uD,hall]; exact su.2 (.inl (by simp)))).2
   exact h
 have hall2:allZ ([DI.res ⟨[b],MP.map P tk te b m'⟩]++[DI.res ⟨F,p⟩])=[b]++F:=by rw[uD,hall,hall]
 have hp2:(zs M R (⟨[b],MP.map P tk te b m'⟩::⟨F,p⟩::D)).Perm (([DI.res ⟨[b],MP.map P tk te b m'⟩]++[DI.res ⟨F,p⟩])++zs M R D):=by
   refine (xQ _).trans ?_
   rw[sE]
   exact (xQ _).append_left _
 refine MemZ.perm (MemZ.turn (rs:=[DI.res ⟨[b],MP.map P tk te b m⟩]) (rs':=[DI.res ⟨[b],MP.map P tk te b m'⟩]++[DI.res ⟨F,p⟩]) H1 (by rw[hall]; exact hc) (λx h=>?_) ?_ (dP hR) (λq hq=>?_)) hp2.symm;rw[hall2]at h;rw[hall];rcases su.1 h with h | h
 exact .inl h;exact .inr (hN.2 x h);rw[hall2,sA];refine⟨by simp,hN.1,λx hx y hy e=>?_⟩;subst e;rw[sD]at hx;subst hx;have:=(hN.2 x hy).1;omega;rcases su.1 hq with hq | hq
 rw[sD]at hq; subst hq;refine⟨ho,λx h=>?_⟩;have hx:x=b:=by simpa [DI.res] using h
 subst hx;exact tI hlt hc.size;rw[sD]at hq; subst hq;exact⟨hp,λx h=>(hN.2 x h).2⟩
theorem Mem.endsM {w1:World} {b:Nat} {p q:MP} (H:Mem ⟨w1,[b]⟩ S M R (⟨F,p⟩::⟨[b],q⟩::D) I w):New w1 w F:=by
 have H1:=MemZ.perm H (xQ _);have hall:∀e:DI,allZ [e.res]=e.F:=λe=>by rw[uA]; rfl
 have h1:=MemZ.nd H1;rw[uD,hall]at h1;refine⟨(sA.1 h1).1,λc hc=>?_⟩;obtain⟨h2,h3⟩:=MemZ.lt H1 c (by rw[uD,hall]; exact su.2 (.inl hc));rcases h2 with h2 | h2
 exact⟨h2,h3⟩;have e:=sD.1 h2;subst e;have h4:c∈allZ (zs M R (⟨[c],q⟩::D)):=by
   have hpm:=xQ (M:=M) (R:=R) (D:=D) (⟨[c],q⟩:DI)
   have:c∈allZ ([DI.res ⟨[c],q⟩]++zs M R D):=by rw[uD,hall]; exact su.2 (.inl (by simp))
   exact (hpm.flatMap_right Res.all).mem_iff.2 this
 exact absurd rfl ((sA.1 h1).2.2 c hc c h4)
end
end AT
