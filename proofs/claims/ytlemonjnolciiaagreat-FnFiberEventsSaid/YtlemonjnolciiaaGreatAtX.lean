/- What a function does with rows: literals, append, reading, writing, handing on. -/
import Derived.Test.YtlemonjnolciiaaGreatAtR
import Derived.Deep.Slices
import Derived.ProofKit
import Derived.OpenShut
set_option linter.unusedSimpArgs false
set_option linter.unusedVariables false
namespace AT
open Go Go.RowKit
def AI (P:Program) (E:TypeId) (n:Nat) (z:Value) (bytes:Nat):Prop:=(P.info? E).map (λi=>(i.zero,i.size,i.bytes))=some (some z,n,bytes)
section
variable {P:Program} {Q:Exit→Act→World→Prop} {a:Act} {w:World} {w0:Base} {n:Nat} {L:List (Nat×Value)} {K:Act→World→Prop}
variable {S:Nat→Prop} {M:List Blk} {R:List Row} {D:List DI} {I:List (Bool×MP)} {dst:Option Tmp} {d:Nat} {ty:TypeId} {pos:String} {af:Array Edge} {g:Option (Nat×Bool)}
theorem np {r:Res} {b:Nat}:∀{Z:List Res},(allZ Z).Nodup→r∈Z→b∈r.fd→b∉fmZ Z
  | [],_,h,_=>by cases h
  | q::Z,hn,hr,hb=>by
    have hn':(q.all++allZ Z).Nodup:=hn
    obtain⟨h1,h2,h3⟩:=DW.1 hn'
    intro h
    have h':b∈q.fm++fmZ Z:=h
    rcases DZ.1 hr with rfl | hr
    · rcases Dx.1 h' with h | h
      · exact (DW.1 h1).2.2 b h b hb rfl
      · exact h3 b (Dx.2 (.inr hb)) b (cK h) rfl
    · rcases Dx.1 h' with h | h
      · exact h3 b (Dx.2 (.inl h)) b (Es.2 ⟨r,hr,Dx.2 (.inr hb)⟩) rfl
      · exact np h2 hr hb h
theorem MemZ.fd_st {Z:List Res} (H:MemZ w0 S Z I w) {r:Res} (hr:r∈Z) {b:Nat} (hb:b∈r.fd) (f:Bool):StZ w0 S Z f b :=
  .inr ⟨(H.lt b (Es.2 ⟨r,hr,Dx.2 (.inr hb)⟩)).1,np H.nd hr hb⟩
theorem l7 {r:Row} (hr:r∈R):r.res∈zs M R D:=Dx.2 (.inr (Dx.2 (.inl (Eh.2 ⟨r,hr,rfl⟩))))
theorem wF {d:DI} (hd:d∈D):d.res∈zs M R D:=Dx.2 (.inr (Dx.2 (.inr (Eh.2 ⟨d,hd,rfl⟩))))
theorem Mem.elRep (H:Mem w0 S M R D I w) {r:Row} (hr:r∈R) {i:Nat} {x:r.α} {cs:List Value} (hi:i<r.xs.length) (hf:r.k.fits r.xs.length) (h:r.k.holds w (St w0 S M R D r.k.fresh) i cs x):GoTy.rep w (St w0 S M R D r.k.fresh) cs x:=by
 cases hk:r.k with
 | sh f=>rw[hk]at h; exact h
 | ow Fs fr =>
   rw[hk]at h hf
   have hFi:Fs[i]?=some (Fs[i]'(by rw[show Fs.length=_ from hf]; exact hi)):=Dy _
   exact GoTy.mono (GoTy.own_rep (h _ hFi)) λb hb _=>⟨MemZ.fd_st H (l7 hr) (by show b∈r.k.fd; rw[hk]; exact eM hFi hb) _,rfl⟩
theorem Mem.freeze (H:Mem w0 S M R D I w) (i:Nat) {r:Row} (hi:R[i]?=some r):Mem w0 S M (R.eraseIdx i) D ((r.k.fresh,MP.val [r.v] r.xs)::I) w:=by
 have hmem:=DY hi;have hp:=iI (M:=M) (D:=D) hi;have H1:Mem w0 S M (R.eraseIdx i) D I w:=MemZ.step (rs:=[r.res]) (rs':=[]) (MemZ.perm H hp) (Chg.refl _ _) (λb hb=>by cases hb) (λb hb=>by cases hb) .nil (λ_ q hq=>by cases hq)
 obtain⟨cells,ho,hf,he⟩:=H.rowAtK hmem;have hsub:∀b,b∈fmZ (zs M (R.eraseIdx i) D)→b∈fmZ (zs M R D):=λb hb=>by
   refine (hp.flatMap_right Res.fm:(fmZ _).Perm (fmZ _)).mem_iff.2 ?_
   show b∈fmZ _
   rw[gV]; exact Dx.2 (.inr hb)
 refine H1.push _ (show lrep w _ [r.v] r.xs from lZ (eL ho) (λb hb=>?_) λj x hx=>?_);refine .inr ⟨(MemZ.lt H b (Es.2 ⟨_,l7 hmem,Dx.2 (.inl (by show b∈r.v.ownBlock.toList; rw[show r.v.ownBlock=some b from hb]; simp))⟩)).1,λh=>?_⟩;have h1:=MemZ.nd (MemZ.perm H hp);rw[uZ,vA]at h1;exact (DW.1 h1).2.2 b (Dx.2 (.inl (by show b∈r.v.ownBlock.toList; rw[show r.v.ownBlock=some b from hb]; simp))) b (cK h) rfl;exact GoTy.mono (H.elRep hmem (DK.1 hx).1 hf (he j x hx)) (gq hsub _)
theorem Mem.rowTrue (H:Mem w0 S M R D I w) (i:Nat) {r:Row} (hi:R[i]?=some r):lrep w (λ_=>True) [r.v] r.xs:=by
 have h:=(H.freeze i hi).get 0 (f:=(r.k.fresh,MP.val [r.v] r.xs)) rfl;exact GoTy.mono (α:=List r.α) h λb _ _=>⟨trivial,rfl⟩
theorem Mem.freezeOwn (H:Mem w0 S M R D I w) (i:Nat) {α:Type} [GoTy α] {Fs:List (List Nat)} {E:TypeId} {A:Option Addr} {cap:Nat} {xs:List α} (hi:R[i]?=some ⟨.ow Fs,E,A,cap,xs⟩) :
    ∃F,Mem w0 S M (R.eraseIdx i) (⟨F,MP.own F [.slice A xs.length cap] xs⟩::D) I w:=by
 have hp:=iI (M:=M) (D:=D) hi;have H1:=MemZ.perm H hp;refine⟨(Row.res ⟨.ow Fs,E,A,cap,xs⟩).all,MemZ.perm (MemZ.step (rs:=[Row.res ⟨.ow Fs,E,A,cap,xs⟩]) (rs':=[DI.res ⟨_,MP.own _ _ xs⟩]) H1 (Chg.refl _ _) (λb hb=>.inl ?_) (λb hb=>?_) ?_ (λ_ q hq=>?_)) (zy _).symm⟩;rw[vA]at hb ⊢;simpa [Res.all,DI.res] using hb;rw[cF]at hb; cases hb
 have h1:=MemZ.nd H1;rw[uZ,vA]at h1;rw[vA]; simpa [Res.all,DI.res] using (DW.1 h1).1;rw[DU]at hq; subst hq;obtain⟨cells,ho,hf,he⟩:=H.rowAt (DY hi);refine⟨⟨⟨A,cap,E,cells,Fs,rfl,ho,rfl,hf,λj x Fi hx hFi=>he j x hx Fi hFi⟩,λb hb=>hb⟩,λb hb=>?_⟩;exact (MemZ.lt H1 b (by rw[uZ,vA]; exact Dx.2 (.inl hb))).2
theorem ki (n:Nat):List.flatten (List.replicate n ([]:List Nat))=[]:=by induction n <;> simp_all [List.replicate_succ]
theorem Mem.rowOwn (H:Mem w0 S M R D I w) (i:Nat) {α:Type} [GoTy α] {f:Bool} {E:TypeId} {A:Option Addr} {cap:Nat} {xs:List α} (hfl:GoTy.flat α=true) (hi:R[i]?=some ⟨.sh f,E,A,cap,xs⟩) :
    Mem w0 S M (R.set i ⟨.ow (List.replicate xs.length []),E,A,cap,xs⟩) D I w:=by
 refine H.reRow hi ⟨⟨rfl,rfl,rfl,D3 _,λ_ _ _=>rfl⟩,D3 _⟩ (.inl rfl) (by show (List.flatten _).Perm []; rw[ki]) λhm=>?_;obtain⟨cells,ho,hf,he⟩:=H.rowAt (DY hi);refine⟨cells,ho,by simp [Kd.fits],λj x hx Fi hFi=>?_⟩;have:Fi=[]:=by
   rw[GD]at hFi
   split at hFi
   · exact (Dz hFi).symm
   · cases hFi
 subst this;exact GoTy.own_flat hfl (he j x hx)
theorem Mem.lend (H:Mem w0 S M R D I w) (j:Nat) {α:Type} [GoTy α] {F:List Nat} {cs:List Value} {x:α} (hj:D[j]?=some ⟨F,MP.own F cs x⟩):Mem w0 S M R D ((true,MP.val cs x)::I) w :=
  H.push _ (GoTy.mono (GoTy.own_rep (H.diAt (DY hj)).1) λb hb _=>⟨MemZ.fd_st H (wF (DY hj)) hb _,rfl⟩)
theorem Mem.frontR (H:Mem w0 S M R D I w) (i:Nat) {r:Row} (hi:R[i]?=some r):Mem w0 S M (r::R.eraseIdx i) D I w:=MemZ.perm H (lJ (perm_out hi))
theorem Mem.frontD (H:Mem w0 S M R D I w) (i:Nat) {d:DI} (hi:D[i]?=some d):Mem w0 S M R (d::D.eraseIdx i) I w:=MemZ.perm H (sK (perm_out hi))
theorem Mem.frontM (H:Mem w0 S M R D I w) (i:Nat) {m:Blk} (hi:M[i]?=some m):Mem w0 S (m::M.eraseIdx i) R D I w:=MemZ.perm H (((perm_out hi).map Blk.res).append_right _)
theorem fJ (X:List DI):(zs M R (X++D)).Perm (X.map DI.res++zs M R D):=by
 unfold zs;rw[Hn];have h:∀(A B C E:List Res),(A++(B++(C++E))).Perm (C++(A++(B++E))):=λA B C E=>by
   have h1:(B++(C++E)).Perm (C++(B++E)):=by
     rw[←DD,←DD]; exact FO.append_right _
   refine (h1.append_left A).trans ?_
   rw[←DD,←DD C]; exact FO.append_right _
 exact h _ _ _ _
theorem dz (X:List DI):allZ (X.map DI.res)=X.flatMap DI.F:=by
 simp [allZ,List.flatMap_map,Res.all,DI.res]
theorem sc (X:List DI):fmZ (X.map DI.res)=[]:=by
 induction X with
 | nil=>rfl
 | cons d X ih=>show d.res.fm++fmZ (X.map DI.res)=[]; rw[ih]; rfl
theorem Mem.recast {X Y:List DI} (H:Mem w0 S M R (X++D) I w) (hF:(Y.flatMap DI.F).Perm (X.flatMap DI.F)) (hY:(∀d∈X,d.p.pred w (·∈d.F))→∀d∈Y,d.p.pred w (·∈d.F)):Mem w0 S M R (Y++D) I w:=by
 have H1:=MemZ.perm H (fJ X);refine MemZ.perm (MemZ.step (rs:=X.map DI.res) (rs':=Y.map DI.res) H1 (Chg.refl _ _) (λb hb=>.inl ?_) (λb hb=>by rw[sc]at hb; cases hb) ?_ (λ_ q hq=>?_)) (fJ Y).symm
 rw[dz]at hb ⊢; exact hF.mem_iff.1 hb;have h1:=MemZ.nd H1;rw[uZ]at h1;rw[dz]; refine hF.nodup_iff.2 ?_;rw[←dz]; exact (DW.1 h1).1;obtain⟨d,hd,rfl⟩:=Eh.1 hq;refine⟨hY (λe he=>H.diAt (Dx.2 (.inl he))) d hd,λb hb=>?_⟩;refine (MemZ.lt H1 b ?_).2;rw[uZ,dz];exact Dx.2 (.inl (hF.mem_iff.1 (Es.2 ⟨d,hd,hb⟩)))
theorem Mem.addOwn (H:Mem w0 S M R D I w) {w':World} (hb:Below w.heap.size w w') {X:List DI} (hn:(X.flatMap DI.F).Nodup) (hX:∀d∈X,d.p.pred w' (·∈d.F)) (hl:∀b∈X.flatMap DI.F,w.heap.size≤b∧b<w'.heap.size):Mem w0 S M R (X++D) I w':=by
 refine MemZ.perm (MemZ.step (rs:=[]) (rs':=X.map DI.res) H ⟨hb.os,hb.tape,hb.output,hb.size,λk hk' _=>hb.block k hk',hb.drawn⟩ (λb h=>.inr (hl b (by rwa [dz]at h))) (λb h=>by rw[sc]at h; cases h) (by rwa [dz]) (λ_ q hq=>?_)) (fJ X).symm
 obtain⟨d,hd,rfl⟩:=Eh.1 hq;exact⟨hX d hd,λb h=>(hl b (Es.2 ⟨d,hd,h⟩)).2⟩
def Row.tightB (r:Row):Bool:=match r.k with | .ow _ _=>true | .sh _=>GoTy.flat r.α
theorem Row.tight {r:Row} (h:r.tightB=true):r.res.tight:=by
 intro w T T' ⟨cells,ho,hf,he⟩;refine⟨cells,ho,hf,λi x hx=>?_⟩;have h1:=he i x hx;unfold Row.tightB at h;cases hk:r.k with
 | ow Fs fr=>rw[hk]at h1; exact h1
 | sh f =>
   rw[hk]at h1 h
   exact GoTy.mono (GoTy.own_rep (GoTy.own_flat h h1)) λb hb _=>by cases hb
theorem hJ (hR:R.all Row.tightB=true):∀q∈zs M R D,q.tight:=by
 intro q hq;rcases Dx.1 hq with h | h
 obtain⟨m,_,rfl⟩:=Eh.1 h; exact m.tight;rcases Dx.1 h with h | h
 obtain⟨r,hr,rfl⟩:=Eh.1 h; exact Row.tight (Eo.1 hR r hr);obtain⟨d,_,rfl⟩:=Eh.1 h; exact d.tight
variable {α:Type} [GoTy α] {cs:List Value}
theorem Mem.thaw {F:List Nat} {A:Option Addr} {len cap:Nat} {xs:List α} (H:Mem w0 S M R (⟨F,MP.own F [.slice A len cap] xs⟩::D) I w) (hR:R.all Row.tightB=true) :
    ∃Fs E,Mem w0 S M (⟨.ow Fs,E,A,cap,xs⟩::R) D [] w∧F=(Value.slice A xs.length cap).ownBlock.toList++List.flatten Fs:=by
 obtain⟨⟨A',cap',E,cells,Fs,hcs,ho,hF,hl,he⟩,-⟩:=H.diAt (d:=⟨F,MP.own F [.slice A len cap] xs⟩) (by simp);simp only[Eu,Value.slice.injEq,and_true]at hcs;obtain⟨rfl,rfl,rfl⟩:=hcs;refine⟨Fs,E,?_,hF⟩;have H1:=MemZ.perm H (zy _);have e1:allZ [Row.res ⟨.ow Fs,E,A,cap,xs⟩]=F:=by rw[vA,hF]; rfl
 have e2:∀e:DI,allZ [e.res]=e.F:=λe=>by rw[vA]; rfl
 refine MemZ.perm (MemZ.turn (rs:=[DI.res ⟨F,MP.own F [.slice A xs.length cap] xs⟩]) (rs':=[Row.res ⟨.ow Fs,E,A,cap,xs⟩]) H1 (Chg.refl _ _) (λb hb=>.inl (by rw[e1]at hb; rw[e2]; exact hb)) ?_ (hJ hR) (λq hq=>?_)) (aX _).symm;have h1:=MemZ.nd H1;rw[uZ,e2]at h1;rw[e1]; exact (DW.1 h1).1;rw[DU]at hq; subst hq;exact⟨cells,ho,hl,λi x hx Fi hFi=>he i x Fi hx hFi⟩
theorem oO {T:Nat→Prop} {x:α} (h:GoTy.rep w T cs x):GoTy.rep w (λ_=>True) cs x:=GoTy.mono h λb _ _=>⟨trivial,rfl⟩
theorem xe {x:α} {f:Bool} (h:GoTy.rep w (St w0 S M R D f) cs x):GoTy.rep w (St w0 S M R D false) cs x:=GoTy.mono h λb hb _=>by
  refine⟨?_,rfl⟩
  rcases hb with ⟨rfl,h1,h2⟩ | h
  · exact .inl ⟨rfl,h1,h2⟩
  · exact .inr h
theorem Mem.pushNil (H:Mem w0 S M R D I w) (α:Type) [GoTy α] (f:Bool):Mem w0 S M R D ((f,MP.val [.slice none 0 0] ([]:List α))::I) w :=
  H.push _ ⟨none,0,rfl,D3 _,by simp [maxLen],λi x hx=>by simp at hx⟩
def evp (L:List (Nat×Value)):List (Nat×Operand)→Option (List (Nat×Value))
  | []=>some []
  | (i,x)::r=>(ev L x).bind λv=>(evp L r).map ((i,v)::·)
theorem Fr.evalp (hf:Fr a n L):∀{ps:List (Nat×Operand)} {qs:List (Nat×Value)},evp L ps=some qs→ps.map (λp=>(p.1,a.eval p.2))=qs
  | [],qs,h=>by simp [evp]at h; simp [h]
  | (i,x)::r,qs,h=>by
    simp only[evp,EO,Ed]at h
    obtain⟨v,hv,us,hus,rfl⟩:=h
    simp [hf.eval hv,hf.evalp hus]
variable {T:Nat→Prop} {news:List Value} {E:TypeId} {ys:List α}
theorem el0 {cells:List Value}:∀i (x:α),([]:List α)[i]?=some x→GoTy.rep w T ((cells.drop (i * GoTy.n α)).take (GoTy.n α)) x:=by intro i x h; simp at h
theorem el1 {cells:List Value} {y:α} (h:GoTy.rep w T cells y):∀i (x:α),[y][i]?=some x→GoTy.rep w T ((cells.drop (i * GoTy.n α)).take (GoTy.n α)) x:=by
 intro i x hx;cases i with
 | zero =>
   simp only[Gb,Ec]at hx
   subst hx
   rw[FX,D4,Fj (by rw[GoTy.len h]; exact D3 _)]
   exact h
 | succ i=>simp at hx
theorem elI (ys:List Int):∀i (x:Int),ys[i]?=some x→GoTy.rep w T (((ys.map (Value.int .i64)).drop (i * 1)).take 1) x:=by
 intro i x hx;show _=_;rw[Nat.mul_one,←List.map_drop];obtain⟨hl,he⟩:=DK.1 hx;rw[List.drop_eq_getElem_cons hl,he];rfl
theorem cz (hf:Fr a n L) (H:Mem w0 S M R D I w) {α:Type} [GoTy α] (kd:Kd) (hk0:kd.fd=[]) (E:TypeId) {T:TypeId} {m:Nat} {ps:List (Nat×Operand)} (xs:List α) (cells:List Value) {qs:List (Nat×Value)}
    (hp0:evp L ps=some qs) (hb:∀w,(Instr.buildSlice T m qs.toArray).run P w=.ok (.slice (some ⟨w.heap.size,0,none⟩) m m) (w.alloc (.cells cells.toArray E))) (hm:xs.length=m) (hmax:m≤1099511627776)
    (hlen:cells.length=m * GoTy.n α) (hfit:kd.fits m) (hel:∀i x,xs[i]?=some x→kd.holds w (St w0 S M R D kd.fresh) i (xp α cells i) x) (hdn:d<n)
    (k:∀A a' w',Fr a' n ((d,.slice A m m)::L)→Mem w0 S M (⟨kd,E,A,m,xs⟩::R) D I w'→K a' w'):Oper.wp P ⟨some d,.buildSlice T m ps.toArray,ty,pos,af,g⟩ a w K Q:=by
  have hp:=hf.evalp hp0;have h1:(execOp a.eval ⟨some d,.buildSlice T m ps.toArray,ty,pos,af,g⟩).run P w=.ok (.value (.slice (some ⟨w.heap.size,0,none⟩) m m)) (w.alloc (.cells cells.toArray E)):=by
    have e:(ps.toArray.map λp=>(p.1,a.eval p.2))=qs.toArray:=by rw[Gr,hp]
    simp only[execOp]
    rw[show (ps.toArray.map λx=>match x with | (i,x)=>(i,a.eval x))=qs.toArray from e]
    simp [hb]
  unfold Oper.wp;rw[h1,Oper.upon_value];exact k _ _ _ (hf.put hdn _) (H.newRow kd hk0 E xs cells m (by omega) (by simp only[maxLen]; omega) hlen (by rw[hm]; exact hfit) hel)
theorem cj (hf:Fr a n L) {α:Type} [GoTy α] (E:TypeId) {T:TypeId} {ps:List (Nat×Operand)} {F:List Nat} {x:α} {cells:List Value} {qs:List (Nat×Value)} (H:Mem w0 S M R (⟨F,MP.own F cells x⟩::D) I w)
    (hp0:evp L ps=some qs) (hb:∀w,(Instr.buildSlice T 1 qs.toArray).run P w=.ok (.slice (some ⟨w.heap.size,0,none⟩) 1 1) (w.alloc (.cells cells.toArray E))) (hdn:d<n)
    (k:∀A a' w',Fr a' n ((d,.slice A 1 1)::L)→Mem w0 S M (⟨.ow [F],E,A,1,[x]⟩::R) D I w'→K a' w'):Oper.wp P ⟨some d,.buildSlice T 1 ps.toArray,ty,pos,af,g⟩ a w K Q:=by
  have hp:=hf.evalp hp0;have h1:(execOp a.eval ⟨some d,.buildSlice T 1 ps.toArray,ty,pos,af,g⟩).run P w=.ok (.value (.slice (some ⟨w.heap.size,0,none⟩) 1 1)) (w.alloc (.cells cells.toArray E)):=by
    have e:(ps.toArray.map λp=>(p.1,a.eval p.2))=qs.toArray:=by rw[Gr,hp]
    simp only[execOp]
    rw[show (ps.toArray.map λx=>match x with | (i,x)=>(i,a.eval x))=qs.toArray from e]
    simp [hb]
  unfold Oper.wp;rw[h1,Oper.upon_value];refine k _ _ _ (hf.put hdn _) ?_;have hd:=(H.diAt (d:=⟨F,MP.own F cells x⟩) (by simp)).1;have hlen:cells.length=GoTy.n α:=GoTy.len (GoTy.own_rep hd);have H1:=MemZ.perm H (zy _);have hnd:=MemZ.nd H1;rw[uZ,vA]at hnd;have hFn:F.Nodup:=by simpa [Res.all,DI.res] using (DW.1 hnd).1
  have hFl:∀b∈F,b<w.heap.size:=λb hb=>(MemZ.lt H1 b (by rw[uZ,vA]; exact Dx.2 (.inl (Dx.2 (.inr hb))))).2;have e2:(Row.res ⟨.ow [F],E,some ⟨w.heap.size,0,none⟩,1,[x]⟩).all=w.heap.size::F:=by
    show [w.heap.size]++List.flatten [F]=_
    simp
  refine MemZ.perm (MemZ.step (rs':=[Row.res ⟨.ow [F],E,some ⟨w.heap.size,0,none⟩,1,[x]⟩]) H1 (Chg.alloc _ _ _) (λb hb=>?_) (λb hb=>?_) ?_ (λhm q hq=>?_)) (aX _).symm
  · rw[vA,e2]at hb
    rw[vA]
    rcases DZ.1 hb with rfl | h
    · exact .inr ⟨D3 _,by simp⟩
    · exact .inl (Dx.2 (.inr h))
  · rw[cF]at hb
    have:b=w.heap.size:=by simpa [Row.res,Row.v,Value.ownBlock] using hb
    exact .inr (by omega)
  · rw[vA,e2]
    exact EP.2 ⟨λh=>by have:=hFl _ h; omega,hFn⟩
  · rw[DU]at hq; subst hq
    refine⟨cells,⟨by simpa using hlen,.inr ⟨w.heap.size,1,cells.toArray,rfl,Fu _,heap_alloc_new w _,D3 _,by simp [maxLen],by simpa using hlen,by rw[show [x].length * GoTy.n α=cells.length by simp [hlen]]; exact Hi⟩⟩,rfl,λi e hi Fi hFi=>?_⟩
    cases i with
    | succ i=>simp at hi
    | zero =>
      simp only[Gb,Ec]at hi hFi
      subst hi hFi
      have:xp α cells 0=cells:=by unfold xp; rw[FX,D4,Fj (by omega)]
      rw[this]
      exact GoTy.own_mono hd λb hb=>Below.heap_alloc _ _ _ (hFl b hb)
theorem gather {α:Type} [GoTy α] {T:Nat→Prop} {p:Addr}:∀(ys:List α) (o:Nat),(∀i x,ys[i]?=some x→ElemAt α w T p (o + i) x) →
    ∃news:List Value,news.length=ys.length * GoTy.n α∧(∀j u,news[j]?=some u→w.cell? (p.add (o * GoTy.n α + j))=some u)∧(∀u∈news,u.oneCell'=true) ∧
      ∀i x,ys[i]?=some x→GoTy.rep w T ((news.drop (i * GoTy.n α)).take (GoTy.n α)) x
  | [],o,_=>⟨[],by simp,by simp,by simp,by simp⟩
  | y::ys,o,h=>by
    obtain⟨news,h1,h2,h3,h4⟩:=gather ys (o + 1) (λi x hx=>by have:=h (i + 1) x (by simpa using hx); rwa [show o + (i + 1)=o + 1 + i by omega]at this)
    obtain⟨cs,hc,hr⟩:=h 0 y rfl
    have hl:=GoTy.len hr
    refine⟨cs++news,by simp [hl,h1,Fg,GH],λj u hj=>?_,λu hu=>(Dx.1 hu).elim (GoTy.one hr u) (h3 u),λi x hx=>?_⟩
    · rw[EF]at hj
      split at hj
      · exact hc j u hj
      · have:=h2 _ u hj
        rw[show (o + 1) * GoTy.n α + (j - cs.length)=o * GoTy.n α + j by rw[Fg]; omega]at this
        exact this
    · cases i with
      | zero =>
        simp only[Gb,Ec]at hx
        subst hx
        simp only[FX,D4]
        rw[EM (by omega),Fj (by omega)]
        exact hr
      | succ i =>
        have:=h4 i x (by simpa using hx)
        have e:(cs++news).drop ((i + 1) * GoTy.n α)=news.drop (i * GoTy.n α):=by
          rw[Fg,Nat.one_mul,GH,←hl,List.drop_append]
          simp
        rw[e]
        exact this
theorem eK {cells:List Value} {m i:Nat} (hc:cells.length=m * GoTy.n α) (hi:i<m):xp α (cells++news) i=xp α cells i:=by
 unfold xp;have hle:i * GoTy.n α + GoTy.n α≤cells.length:=by
   rw[hc]
   have:=D5 (GoTy.n α) (show i + 1≤m from hi)
   rwa [Fq]at this
 rw[Gc (by omega),EM (by rw[Er]; omega)]
theorem fM {cells:List Value} {m i:Nat} (hc:cells.length=m * GoTy.n α) (hi:m≤i):xp α (cells++news) i=xp α news (i - m):=by
 unfold xp;rw[List.drop_append,En (by rw[hc]; exact D5 _ hi),Ek,hc,Hs]
theorem gL (w:World) (t ty e e0:TypeId) (i:TypeInfo) (ht:P.underlying t=some (.slice e)) (hi:P.info? e=some i) (g sLen sCap:Nat) (cur:Array Value) (hg:w.heap[g]?=some (.cells cur e0 (0,0)))
    (a:Addr) (m c:Nat) (news:List Value) (hl:news.length=m * i.size) (hnews:∀j u,news[j]?=some u→w.cell? (a.add j)=some u) (h1:∀u∈news,u.oneCell'=true) (hroom:sLen + m≤sCap) (hfit:sLen * i.size + news.length≤cur.size) :
    (Builtin.append_ #[t,t] ty #[.slice (some ⟨g,0,none⟩) sLen sCap,.slice (some a) m c]).run P w =
      .ok (.slice (some ⟨g,0,none⟩) (sLen + m) sCap) (w.setRow g (cur.toList.take (sLen * i.size)++news++cur.toList.drop (sLen * i.size + news.length)).toArray):=by
 have hf:=run_firstCells_some (P:=P) w i.size m a m c news hl hnews;have hst:=run_storeCells_at P g (sLen * i.size) e0 news 0 cur w hg (by simpa using hfit) h1;simp only[Ez]at hst;simp [Builtin.append_,run_underlying ht,Go.sizeOf,typeInfo,hi,Builtin.lenOf,hroom,hf,Addr.add_lit,hst]
theorem gF (w:World) (t ty e e0:TypeId) (i:TypeInfo) (z:Value) (size bytes:Nat) (ht:P.underlying t=some (.slice e)) (hi:P.info? e=some i) (hz:i.zero=some z)
    (hsize:i.size=size) (hby:i.bytes=bytes) (hzs:z.cells.size=size) (hsz:0<size) (v:Value) (n:Nat) (xs:List Value) (hown:w.ownsRow 0 e0 size v n xs)
    (a:Addr) (m c:Nat) (news:List Value) (hl:news.length=m * size) (hnews:∀j u,news[j]?=some u→w.cell? (a.add j)=some u) (h1:∀u∈news,u.oneCell'=true)
    (h63:n + m≤maxLen) (hbytes:(n + m) * bytes≤140737488355328) :
    ∃e1 v' w',(Builtin.append_ #[t,t] ty #[v,.slice (some a) m c]).run P w=.ok v' w'∧w'.ownsRow 0 e1 size v' (n + m) (xs++news)∧GB w w' v.ownBlock∧(v'.ownBlock=v.ownBlock∨v'.ownBlock=some w.heap.size):=by
 rcases hown.2 with ⟨rfl,rfl⟩ | ⟨g,cap,cur,rfl,hbg,hg,hnc,hcm,hcs,htake⟩
 have hx:xs=[]:=EU (by simpa using hown.1);subst hx;obtain⟨v',w',g1,g2,g3,_,g5⟩:=run_append_own_at (P:=P) w 0 t ty e i z size bytes ht hi hz hsize hby hzs hsz (.slice none 0 0) 0 [] (World.ownsRow_nil _ _ _ _) a m c news hl hnews h1 h63 hbytes (Fu _);refine⟨e,v',w',g1,g2,⟨g3,?_⟩,g5⟩;by_cases hm:m=0;subst hm;have hr:(Builtin.append_ #[t,t] ty #[.slice none 0 0,.slice (some a) 0 c]).run P w=.ok (.slice none 0 0) w:=by
   simp [Builtin.append_,run_underlying ht,Go.sizeOf,typeInfo,hi,Builtin.lenOf,Builtin.firstCells,loadCells,loadCellsFrom]
 rw[hr]at g1;injection g1 with _ e1
 rw[←e1]; exact D3 _;have hr:=run_append_nil (P:=P) w t ty e i z ht hi hz a m c news (by rw[hsize]; exact hl) hnews (by omega) (by simp only[maxLen]at h63; omega) (by rw[hby]; simp only[Ey]at hbytes; omega);rw[hr]at g1;injection g1 with _ e1
 rw[←e1]; exact Nat.le_succ _;subst hsize;subst hby;have hlen:(xs++news).length=(n + m) * i.size:=by rw[DR,hown.1,hl,Fg]
 by_cases hroom:n + m≤cap;have hfit:n * i.size + news.length≤cur.size:=by rw[hl,hcs,←Fg]; exact D5 _ hroom
 have hr:=gL (P:=P) w t ty e e0 i ht hi g n cap cur hg a m c news hl hnews h1 hroom hfit;refine⟨e0,_,_,hr,⟨hlen,.inr ⟨g,cap,_,rfl,hbg,setRow_heap w g cur _ e0 _ hg,hroom,hcm,?_,?_⟩⟩,⟨⟨rfl,rfl,rfl,by simp,λk _ hk=>setRow_other w g k _ (λe=>hk (by simp [Value.ownBlock,e]))⟩,D3 _⟩,Or.inl rfl⟩;simp only[Fe,DR,DO,Er,El];omega;rw[htake,←hlen];exact List.take_left;have holds:∀j u,xs[j]?=some u→w.cell? ((⟨g,0,none⟩:Addr).add j)=some u:=hown.cells (g:=g) rfl;have hsmall:n + m≤9223372036854775807:=by simp only[maxLen]at h63; omega
 have hr:=run_append_grow (P:=P) w t ty e i z ht hi hz ⟨g,0,none⟩ n cap xs hown.1 holds a m c news hl hnews (by omega) (by omega) (growslice_fits (by omega) hbytes);have hge:=grownCap_ge w (n + m) cap e;have hcm:grownCap w (n + m) cap e≤maxLen:=grownCap_le_maxLen w (n + m) cap e h63;refine⟨e,_,_,hr,⟨hlen,.inr ⟨w.heap.size,_,_,rfl,Fu _,heap_alloc_new w.drew _,hge,hcm,?_,?_⟩⟩,⟨⟨rfl,rfl,rfl,by simp,λk hk _=>heap_alloc_old w.drew _ hk⟩,Nat.le_succ _⟩,Or.inr rfl⟩;simp only[Gj,Fe,size_zeroCells,hzs,hown.1,hl,←Fg];congr 1;omega;simp only[GQ,DD];rw[←DD,←hlen];exact List.take_left
theorem qS {T E0 ty':TypeId} {z:Value} {bytes:Nat} (hT:P.underlying T=some (.slice E)) (hE:AI P E (GoTy.n α) z bytes) (hz:z.cells.size=GoTy.n α) (hby:bytes≤128) {A:Option Addr} {cap:Nat} {xs ys zs:List α} {cells:List Value}
    (ho:w.ownsRow 0 E0 (GoTy.n α) (.slice A xs.length cap) xs.length cells) (happ:app xs ys=some zs) {A':Option Addr} {c:Nat} (hsrc:lrep w (λ_=>True) [.slice A' ys.length c] ys) :
    ∃E1 A2 cap2 w' news,(Builtin.append_ #[T,T] ty' #[.slice A xs.length cap,.slice A' ys.length c]).run P w=.ok (.slice A2 zs.length cap2) w'∧w'.ownsRow 0 E1 (GoTy.n α) (.slice A2 zs.length cap2) zs.length (cells++news)∧GB w w' (Value.slice A xs.length cap).ownBlock ∧
      ((Value.slice A2 zs.length cap2).ownBlock=(Value.slice A xs.length cap).ownBlock∨((Value.slice A2 zs.length cap2).ownBlock=some w.heap.size∧w.heap.size<w'.heap.size))∧news.length=ys.length * GoTy.n α ∧
      (∀p,A'=some p→∀j u,news[j]?=some u→w.cell? (p.add j)=some u)∧zs=xs++ys:=by
  unfold app at happ;split at happ
  case isFalse=>cases happ
  rename_i hlen;injection happ with happ
  subst happ;obtain⟨inf,hinf,hpr⟩:=Ed.1 hE;simp only[EK]at hpr;obtain⟨hz1,hz2,hz3⟩:=hpr;obtain⟨A'',c'',hcs,hyc,hcm,hel⟩:=hsrc;simp only[Eu,Value.slice.injEq,and_true]at hcs;obtain⟨rfl,-,rfl⟩:=hcs;cases A' with
  | none =>
    have hy:ys=[]:=by
      cases ys with
      | nil=>rfl
      | cons y ys =>
        obtain⟨p,hp,_⟩:=hel 0 y rfl
        cases hp
    subst hy
    simp only[D1]
    refine⟨E0,A,cap,w,[],?_,by simpa using ho,⟨⟨rfl,rfl,rfl,D3 _,λ_ _ _=>rfl⟩,D3 _⟩,.inl rfl,by simp,by simp,trivial⟩
    rcases ho.2 with ⟨hv,h0⟩ | ⟨b,cap',cur,hv,_,_,hnc,_⟩
    · simp only[Value.slice.injEq]at hv
      obtain⟨rfl,hv2,rfl⟩:=hv
      simp [Builtin.append_,run_underlying hT,Go.sizeOf,typeInfo,hinf,Builtin.lenOf,Builtin.firstCells,hv2]
    · simp only[Value.slice.injEq]at hv
      obtain⟨rfl,-,rfl⟩:=hv
      simp [Builtin.append_,run_underlying hT,Go.sizeOf,typeInfo,hinf,Builtin.lenOf,Builtin.firstCells,hnc,storeCells]
  | some p =>
    obtain⟨news,g1,g2,g3,_⟩:=gather (w:=w) (T:=λ_=>True) (p:=p) ys 0 (λk x hx=>by
      obtain⟨p',hp',_,h⟩:=hel k x hx
      injection hp' with hp'; subst hp'
      rwa [Ey])
    simp only[FX,Ey]at g2
    have hbytes:(xs.length + ys.length) * bytes≤140737488355328:=by
      have:=Nat.mul_le_mul hlen hby
      omega
    obtain⟨E1,v',w',hr,h1,h2,h4⟩:=gF (P:=P) w T ty' E E0 inf z (GoTy.n α) bytes hT hinf hz1 hz2 hz3 hz (GoTy.pos (α:=α)) _ xs.length cells ho p ys.length c news g1 g2 g3 (by simp only[maxLen]; omega) hbytes
    have hform:∃A2 cap2,v'=.slice A2 (xs++ys).length cap2:=by
      rcases h1.2 with ⟨rfl,h0⟩ | ⟨b,cap',cur,rfl,_⟩
      · exact⟨none,0,by rw[DR,h0]⟩
      · exact⟨some ⟨b,0,none⟩,cap',by rw[DR]⟩
    obtain⟨A2,cap2,rfl⟩:=hform
    refine⟨E1,A2,cap2,w',news,hr,by rw[DR]at h1 ⊢; exact h1,h2,h4.imp id λh=>⟨h,(h1.lt _ h).2⟩,g1,λq hq=>by injection hq with hq; subst hq; exact g2,rfl⟩
theorem Mem.append (H:Mem w0 S M R D I w) {α:Type} [GoTy α] {T E E0 ty':TypeId} {z:Value} {bytes:Nat} (hT:P.underlying T=some (.slice E)) (hE:AI P E (GoTy.n α) z bytes) (hz:z.cells.size=GoTy.n α) (hby:bytes≤128) (i:Nat) {fr:Bool} {A:Option Addr} {cap:Nat} {xs ys zs:List α}
    (hi:R[i]?=some ⟨.sh fr,E0,A,cap,xs⟩) (happ:app xs ys=some zs) {A':Option Addr} {c:Nat}
    (hsrc:lrep w (λ_=>True) [.slice A' ys.length c] ys) (hrep:(∀(p:Addr) (news:List Value),A'=some p→news.length=ys.length * GoTy.n α→(∀j u,news[j]?=some u→w.cell? (p.add j)=some u)→∀i x,ys[i]?=some x→GoTy.rep w (St w0 S M R D fr) (xp α news i) x)) :
    ∃E1 A2 cap2 w',(Builtin.append_ #[T,T] ty' #[.slice A xs.length cap,.slice A' ys.length c]).run P w=.ok (.slice A2 zs.length cap2) w'∧Mem w0 S M (R.set i ⟨.sh fr,E1,A2,cap2,zs⟩) D I w':=by
 obtain⟨cells,ho,hf,he⟩:=H.rowAt (DY hi);obtain⟨E1,A2,cap2,w',news,hr,h1,h2,h4,g1,g2,rfl⟩:=qS (ty':=ty') hT hE hz hby ho happ hsrc;refine⟨E1,A2,cap2,w',hr,H.reRow hi h2 h4 (GE _) λhm=>⟨cells++news,h1,trivial,λk x hx=>?_⟩⟩;have hcl:cells.length=xs.length * GoTy.n α:=ho.1;simp only at hx;rw[EF]at hx;split at hx
 rename_i hk;show GoTy.rep _ _ _ _;rw[eK hcl hk];exact GoTy.mono (show GoTy.rep w _ _ x from he k x hx) (hm _);rename_i hk;show GoTy.rep _ _ _ _;rw[fM hcl (by omega)];cases A' with
 | none =>
   obtain⟨_,_,hcs,_,_,hel⟩:=hsrc
   obtain⟨p,hp,_⟩:=hel _ x hx
   simp only[Eu,Value.slice.injEq,and_true]at hcs
   rw[←hcs.1]at hp; cases hp
 | some p=>exact GoTy.mono (hrep p news rfl g1 (g2 p rfl) _ x hx) (hm _)
theorem dm (hf:Fr a n L) {T:TypeId} {x y:Operand} {v u:Value} (hx:ev L x=some v) (hy:ev L y=some u) {r:Value} {w':World} (hr:(Builtin.append_ #[T,T] ty #[v,u]).run P w=.ok r w') (hdn:d<n)
    (k:∀a',Fr a' n ((d,r)::L)→K a' w'):Oper.wp P ⟨some d,.call ⟨.builtin .append,#[x,y],#[T,T]⟩,ty,pos,af,g⟩ a w K Q:=by
 have h1:(execOp a.eval ⟨some d,.call ⟨.builtin .append,#[x,y],#[T,T]⟩,ty,pos,af,g⟩).run P w=.ok (.value r) w':=by
   simp [execOp,resolve,invoke,builtin,hf.eval hx,hf.eval hy,hr]
 unfold Oper.wp;rw[h1,Oper.upon_value];exact k _ (hf.put hdn _)
theorem s5 {p:Addr} {cap:Nat} {cells:List Value} (ho:w.ownsRow 0 E (GoTy.n α) (.slice (some p) ys.length cap) ys.length cells) (hl:news.length=ys.length * GoTy.n α)
    (hc:∀j u,news[j]?=some u→w.cell? (p.add j)=some u):news=cells:=by
 have hob:(Value.slice (some p) ys.length cap).ownBlock=some p.block:=rfl;have hp0:p=⟨p.block,0,none⟩:=by
   rcases ho.2 with ⟨hv,_⟩ | ⟨b,c2,cur,hv,_⟩
   · simp only[Value.slice.injEq]at hv; cases hv.1
   · simp only[Value.slice.injEq]at hv; injection hv.1 with h; rw[h]
 apply FT;intro t;have h1:cells.length=ys.length * GoTy.n α:=ho.1;by_cases ht:t<ys.length * GoTy.n α;have h2:=ho.cells hob t _ (Dy (by omega));have h3:=hc t _ (Dy (by omega));rw[←hp0,h3]at h2;rw[Dy (by omega),Dy (by omega)];exact h2;rw[EA (by omega),EA (by omega)]
theorem q8 {p:Addr} {cap:Nat} {cells:List Value} (ho:w.ownsTail E (GoTy.n α) (.slice (some p) ys.length cap) ys.length cells) (hl:news.length=ys.length * GoTy.n α)
    (hc:∀j u,news[j]?=some u→w.cell? (p.add j)=some u):news=cells:=by
 obtain⟨b,q,rfl⟩:∃b q,p=⟨b,q,none⟩:=by
   rcases ho.2 with ⟨hv,_⟩ | ⟨b,q,c2,cur,hv,_⟩
   · simp only[Value.slice.injEq]at hv; cases hv.1
   · simp only[Value.slice.injEq]at hv; injection hv.1 with h; exact⟨b,q,h⟩
 apply FT;intro t;have h1:cells.length=ys.length * GoTy.n α:=ho.1;by_cases ht:t<ys.length * GoTy.n α;have h2:=gf ho t _ (Dy (by omega));have h3:=hc t _ (Dy (by omega));rw[add_lit,h2]at h3;rw[Dy (by omega),Dy (by omega)];exact h3.symm;rw[EA (by omega),EA (by omega)]
theorem uV (hf:Fr a n L) (H:Mem w0 S M R D I w) {α:Type} [GoTy α] {T E E0 E':TypeId} {z:Value} {bytes:Nat} (hT:P.underlying T=some (.slice E)) (hE:AI P E (GoTy.n α) z bytes) (hz:z.cells.size=GoTy.n α) (hby:bytes≤128) (i j:Nat) {fr fr':Bool} {A A':Option Addr} {cap cap':Nat} {xs ys zs:List α}
    {x y:Operand} (hx:ev L x=some (.slice A xs.length cap)) (hy:ev L y=some (.slice A' ys.length cap')) (hi:R[i]?=some ⟨.sh fr,E0,A,cap,xs⟩) (hj:R[j]?=some ⟨.sh fr',E',A',cap',ys⟩) (hfr:fr=false∨fr'=true) (happ:app xs ys=some zs) (hdn:d<n)
    (k:∀E1 A2 cap2 a' w',Fr a' n ((d,.slice A2 zs.length cap2)::L)→Mem w0 S M (R.set i ⟨.sh fr,E1,A2,cap2,zs⟩) D I w'→K a' w'):Oper.wp P ⟨some d,.call ⟨.builtin .append,#[x,y],#[T,T]⟩,ty,pos,af,g⟩ a w K Q:=by
 obtain⟨E1,A2,cap2,w',hr,H2⟩:=H.append (ty':=ty) hT hE hz hby i hi happ (H.rowTrue j hj) (λp news hp hl hc q e hq=>by
   obtain⟨cells,ho,_,he⟩:=H.rowAt (DY hj)
   subst hp
   obtain rfl:=s5 ho hl hc
   have h5:GoTy.rep w (St w0 S M R D fr') _ e:=he q e hq
   rcases hfr with rfl | rfl
   · exact xe h5
   · cases fr
     · exact xe h5
     · exact h5)
 exact dm hf hx hy hr hdn λa' hf'=>k _ _ _ _ _ hf' H2
theorem vT (hf:Fr a n L) (H:Mem w0 S M R D I w) {α:Type} [GoTy α] {T E E0:TypeId} {z:Value} {bytes:Nat} (hT:P.underlying T=some (.slice E)) (hE:AI P E (GoTy.n α) z bytes) (hz:z.cells.size=GoTy.n α) (hby:bytes≤128) (i j:Nat) {fr f:Bool} {A A':Option Addr} {cap len' cap':Nat} {xs ys zs:List α}
    {x y:Operand} (hx:ev L x=some (.slice A xs.length cap)) (hy:ev L y=some (.slice A' len' cap')) (hi:R[i]?=some ⟨.sh fr,E0,A,cap,xs⟩) (hj:I[j]?=some (f,MP.val [.slice A' len' cap'] ys)) (hfr:fr=false∨f=true) (happ:app xs ys=some zs) (hdn:d<n)
    (k:∀E1 A2 cap2 a' w',Fr a' n ((d,.slice A2 zs.length cap2)::L)→Mem w0 S M (R.set i ⟨.sh fr,E1,A2,cap2,zs⟩) D I w'→K a' w'):Oper.wp P ⟨some d,.call ⟨.builtin .append,#[x,y],#[T,T]⟩,ty,pos,af,g⟩ a w K Q:=by
 have hl:lrep w (St w0 S M R D f) [.slice A' len' cap'] ys:=H.get j hj;obtain⟨A'',c'',hcs,hyc,hcm,hel⟩:=id hl;simp only[Eu,Value.slice.injEq,and_true]at hcs;obtain⟨rfl,rfl,rfl⟩:=hcs;obtain⟨E1,A2,cap2,w',hr,H2⟩:=H.append (ty':=ty) hT hE hz hby i hi happ (oO (α:=List α) hl) (λp news hp hl' hc q e hq=>by
   obtain⟨news',g1,g2,g3,g4⟩:=gather (w:=w) (T:=St w0 S M R D f) (p:=p) ys 0 (λk x hx=>by
     obtain⟨p',hp',_,h⟩:=hel k x hx
     rw[hp]at hp'
     injection hp' with hp'; subst hp'
     rwa [Ey])
   have hn:news=news':=by
     apply FT
     intro t
     by_cases ht:t<ys.length * GoTy.n α
     · have h2:=g2 t _ (Dy (by omega))
       have h3:=hc t _ (Dy (by omega))
       rw[FX,Ey,h3]at h2
       rw[Dy (by omega),Dy (by omega)]
       exact h2
     · rw[EA (by omega),EA (by omega)]
   subst hn
   have h5:GoTy.rep w (St w0 S M R D f) (xp α news q) e:=g4 q e hq
   rcases hfr with rfl | rfl
   · exact xe h5
   · cases fr
     · exact xe h5
     · exact h5)
 exact dm hf hx hy hr hdn λa' hf'=>k _ _ _ _ _ hf' H2
theorem jZ (hf:Fr a n L) {α:Type} [GoTy α] {T E E0 E':TypeId} {z:Value} {bytes:Nat} {Fs Gs:List (List Nat)} {A A':Option Addr} {cap cap':Nat} {xs ys zs:List α} {fr:Bool}
    (H:Mem w0 S M (⟨.ow Fs,E0,A,cap,xs⟩::⟨.ow Gs fr,E',A',cap',ys⟩::R) D I w) (hT:P.underlying T=some (.slice E)) (hE:AI P E (GoTy.n α) z bytes) (hz:z.cells.size=GoTy.n α) (hby:bytes≤128)
    {x y:Operand} (hx:ev L x=some (.slice A xs.length cap)) (hy:ev L y=some (.slice A' ys.length cap')) (happ:app xs ys=some zs) (hdn:d<n)
    (k:∀E1 A2 cap2 a' w',Fr a' n ((d,.slice A2 zs.length cap2)::L)→Mem w0 S M (⟨.ow (Fs++Gs),E1,A2,cap2,zs⟩::R) D I w'→K a' w'):Oper.wp P ⟨some d,.call ⟨.builtin .append,#[x,y],#[T,T]⟩,ty,pos,af,g⟩ a w K Q:=by
 obtain⟨cells,ho,hfit,he⟩:=H.rowAt (r:=⟨.ow Fs,E0,A,cap,xs⟩) (by simp);obtain⟨cells',ho',hfit',he'⟩:=H.rowAtK (r:=⟨.ow Gs fr,E',A',cap',ys⟩) (by simp);have hsrc:lrep w (λ_=>True) [.slice A' ys.length cap'] ys:=H.rowTrue 1 rfl;obtain⟨E1,A2,cap2,w',news,hr,h1,h2,h4,g1,g2,rfl⟩:=qS (ty':=ty) hT hE hz hby ho happ hsrc;refine dm hf hx hy hr hdn λa' hf'=>k E1 _ _ _ _ hf' ?_;have hp:(zs M (⟨.ow Fs,E0,A,cap,xs⟩::⟨.ow Gs fr,E',A',cap',ys⟩::R) D).Perm ([Row.res ⟨.ow Fs,E0,A,cap,xs⟩,Row.res ⟨.ow Gs fr,E',A',cap',ys⟩]++AT.zs M R D):=(aX _).trans ((aX _).append_left [_]);have H1:=MemZ.perm H hp;have hnd:=MemZ.nd H1;rw[uZ,ep]at hnd;have hnd':=(DW.1 hnd).1;have hlt:∀b∈allZ [Row.res ⟨.ow Fs,E0,A,cap,xs⟩,Row.res ⟨.ow Gs fr,E',A',cap',ys⟩],b<w.heap.size:=λb hb=>(MemZ.lt H1 b (by rw[uZ]; exact Dx.2 (.inl hb))).2;have e0:(Row.res ⟨.ow Fs,E0,A,cap,xs⟩).all=(Value.slice A xs.length cap).ownBlock.toList++List.flatten Fs:=rfl;have e1:(Row.res ⟨.ow Gs fr,E',A',cap',ys⟩).all=(Value.slice A' ys.length cap').ownBlock.toList++List.flatten Gs:=rfl;have e2:(Row.res ⟨.ow (Fs++Gs),E1,A2,cap2,xs++ys⟩).all=(Value.slice A2 (xs++ys).length cap2).ownBlock.toList++(List.flatten Fs++List.flatten Gs):=by
   show _++List.flatten (Fs++Gs)=_
   rw[Gx]; rfl
 rw[e0,e1]at hnd';have hxg:∀b,b∈(Value.slice A2 (xs++ys).length cap2).ownBlock.toList→b∈(Value.slice A xs.length cap).ownBlock.toList∨(w.heap.size≤b∧b<w'.heap.size):=λb hb=>by
   rcases h4 with h | ⟨h,h'⟩
   · rw[h]at hb; exact .inl hb
   · rw[h]at hb; simp at hb; subst hb; exact .inr ⟨D3 _,h'⟩
 have hflat:(List.flatten Fs++List.flatten Gs).Nodup:=by
   refine GA ?_ hnd'
   exact (EX _ _).append (EX _ _)
 refine MemZ.perm (MemZ.step (rs':=[Row.res ⟨.ow (Fs++Gs),E1,A2,cap2,xs++ys⟩]) H1 ⟨h2.by_.os,h2.by_.tape,h2.by_.output,h2.by_.size,λb hb hx=>h2.by_.block b hb λe=>hx ?_,h2.drawn⟩ (λb hb=>?_) (λb hb=>?_) ?_ (λhm q hq=>?_)) (aX _).symm;rw[mu]; exact Dx.2 (.inl (by show b∈(Value.slice A xs.length cap).ownBlock.toList; rw[←e]; simp));rw[vA,e2]at hb;rw[ep,e0,e1];simp only[Dx]at hb ⊢;rcases hb with h | h | h
 exact (hxg b h).imp (λh=>.inl (.inl h)) id;exact .inl (.inl (.inr h));exact .inl (.inr (.inr h));rw[cF]at hb; rw[mu];exact (hxg b hb).imp (λh=>Dx.2 (.inl h)) (·.1)
 rw[vA,e2];rcases h4 with h | ⟨h,h'⟩
 rw[h];refine GA ?_ hnd';rw[←DD];exact (FG _).append (EX _ _);rw[h];simp only[GY,EC,EP];refine⟨λhb=>?_,hflat⟩;have:=hlt w.heap.size (by
   rw[ep,e0,e1]
   simp only[Dx]at hb ⊢
   exact hb.imp .inr .inr)
 omega;rw[DU]at hq; subst hq;have hsame:∀b,b∈List.flatten Fs++List.flatten Gs→w'.heap[b]?=w.heap[b]?:=λb hb=>by
   refine h2.by_.block b (hlt b ?_) λe=>?_
   · rw[ep,e0,e1]
     simp only[Dx]at hb ⊢
     exact hb.imp .inr .inr
   · have hm:b∈(Value.slice A xs.length cap).ownBlock.toList:=by rw[←e]; simp
     rw[DD]at hnd'
     refine (DW.1 hnd').2.2 b hm b ?_ rfl
     simp only[Dx]at hb ⊢
     exact hb.imp id .inr
 refine⟨cells++news,h1,by simp only[Kd.fits,DR]at hfit hfit' ⊢; omega,λi e hi Fi hFi=>?_⟩;have hcl:cells.length=xs.length * GoTy.n α:=ho.1;have hfl:Fs.length=xs.length:=hfit;simp only at hi;rw[EF]at hi hFi;rw[hfl]at hFi;split at hi
 rename_i hlt';rw[if_pos hlt']at hFi;rw[eK hcl hlt'];exact GoTy.own_mono (he i e hi Fi hFi) λb hb=>hsame b (Dx.2 (.inl (eM hFi hb)));rename_i hlt';rw[if_neg hlt']at hFi;rw[fM hcl (by omega)];cases A' with
 | none =>
   obtain⟨_,_,hcs,_,_,hel⟩:=hsrc
   obtain⟨p,hp,_⟩:=hel _ e hi
   simp only[Eu,Value.slice.injEq,and_true]at hcs
   rw[←hcs.1]at hp; cases hp
 | some p =>
   obtain rfl:=q8 (eL ho') g1 (g2 p rfl)
   exact GoTy.own_mono (he' _ e hi Fi hFi) λb hb=>hsame b (Dx.2 (.inr (eM hFi hb)))
end
end AT
namespace AT
open Go Go.RowKit
structure Tab where
  sl:List TypeId
  bo:List TypeId
  st:List TypeId
  fa:List (TypeId×Nat×Nat)
def inl:List Nat→Nat→Bool
  | [],_=>false
  | x::r,y=>bif Nat.beq x y then true else inl r y
def foff:List (TypeId×Nat×Nat)→TypeId→Nat→Option Nat
  | [],_,_=>none
  | (t,f,o)::r,t',f'=>bif (Nat.beq t t'&&Nat.beq f f') then some o else foff r t' f'
structure TabOk (P:Program) (t:Tab):Prop where
  sl:∀T,inl t.sl T=true→∃E,P.underlying T=some (.slice E)
  bo:∀T,inl t.bo T=true→P.underlying T=some .bool
  st:∀T,inl t.st T=true→P.underlying T=some .string
  fa:∀T f o,foff t.fa T f=some o→FA P T f o
def p2 (tb:Tab) (op:BinOp) (T:TypeId) (v u:Value):Option Value :=
  match v,u with
  | .int .i64 i,.int .i64 j =>
    match op with
    | .add=>some (.int .i64 (w64 (i + j)))
    | .sub=>some (.int .i64 (w64 (i - j)))
    | .mul=>some (.int .i64 (w64 (i * j)))
    | .eql=>some (.bool (i==j))
    | .neq=>some (.bool (i != j))
    | .lss=>some (.bool (decide (i<j)))
    | .leq=>some (.bool (decide (i≤j)))
    | .gtr=>some (.bool (decide (i > j)))
    | .geq=>some (.bool (decide (i≥j)))
    | .and=>some (.int .i64 (band i j))
    | .or=>some (.int .i64 (bor i j))
    | .xor=>some (.int .i64 (bxor i j))
    | .andNot=>some (.int .i64 (Aw i j))
    | _=>none
  | .int .u8 i,.int .u8 j =>
    match op with
    | .eql=>some (.bool (i==j))
    | .neq=>some (.bool (i != j))
    | .lss=>some (.bool (decide (i<j)))
    | .leq=>some (.bool (decide (i≤j)))
    | .gtr=>some (.bool (decide (i > j)))
    | .geq=>some (.bool (decide (i≥j)))
    | _=>none
  | .bool b,.bool c =>
    match op with
    | .eql=>bif inl tb.bo T then some (.bool (b==c)) else none
    | .neq=>bif inl tb.bo T then some (.bool (b != c)) else none
    | _=>none
  | .string b,.string c =>
    match op with
    | .eql=>some (.bool (b.toList==c.toList))
    | .neq=>some (.bool (!(b.toList==c.toList)))
    | _=>none
  | _,_=>none
def p1 (op:UnOp) (v:Value):Option Value :=
  match op,v with
  | .not,.bool b=>some (.bool (!b))
  | .neg,.int .i64 i=>some (.int .i64 (w64 (0 - i)))
  | _,_=>none
def pb (tb:Tab) (b:Builtin) (vs:List Value) (ts:List TypeId):Option Value :=
  match b,vs,ts with
  | .len,[.slice _ m _],[T]=>bif inl tb.sl T then some (.int .i64 m) else none
  | .len,[.string s],[T]=>bif inl tb.st T then some (.int .i64 s.size) else none
  | .min,[.int .i64 i,.int .i64 j],[_,_]=>some (.int .i64 (gmin i j))
  | .max,[.int .i64 i,.int .i64 j],[_,_]=>some (.int .i64 (gmax i j))
  | _,_,_=>none
def pOp (tb:Tab) (L:List (Nat×Value)):Op→Option Value
  | .move x=>ev L x
  | .assign x=>ev L x
  | .pick c x y =>
    match ev L c with
    | some (.bool true)=>ev L x
    | some (.bool false)=>ev L y
    | _=>none
  | .unOp op _ x =>
    match ev L x with
    | some v=>p1 op v
    | none=>none
  | .binOp op T x y _ =>
    match ev L x,ev L y with
    | some v,some u=>p2 tb op T v u
    | _,_=>none
  | .extract x i =>
    match ev L x with
    | some (.tuple ⟨vs⟩)=>vs[i]?
    | _=>none
  | .nilCheck x =>
    match ev L x with
    | some (.pointer (some p))=>some (.pointer (some p))
    | _=>none
  | .call ⟨.builtin b,⟨xs⟩,⟨ts⟩⟩ =>
    match evs L xs with
    | some vs=>pb tb b vs ts
    | none=>none
  | .fieldAddr T x f =>
    match ev L x with
    | some (.pointer (some ⟨b,j,none⟩)) =>
      match foff tb.fa T f with
      | some o=>some (.pointer (some ⟨b,j + o,none⟩))
      | none=>none
    | _=>none
  | _=>none
def pRun (tb:Tab) (ops:List Oper):Nat→List (Nat×Value)→List Oper→List (Nat×Value)×List Oper
  | 0,L,l=>(L,l)
  | _ + 1,L,[]=>(L,[])
  | k + 1,L,⟨some d,op,ty,pos,af,none⟩::l =>
    match pOp tb L op with
    | some v=>pRun tb ops k ((d,v)::L) l
    | none=>(L,⟨some d,op,ty,pos,af,none⟩::l)
  | k + 1,L,⟨some d,op,ty,pos,af,some (j,want)⟩::l =>
    match (ops[j]?).bind (·.dst) with
    | none=>(L,⟨some d,op,ty,pos,af,some (j,want)⟩::l)
    | some e =>
      match lk L e,want with
      | some (.bool true),true | some (.bool false),false =>
        match pOp tb L op with
        | some v=>pRun tb ops k ((d,v)::L) l
        | none=>(L,⟨some d,op,ty,pos,af,some (j,want)⟩::l)
      | some (.bool true),false | some (.bool false),true=>pRun tb ops k ((d,undef)::L) l
      | _,_=>(L,⟨some d,op,ty,pos,af,some (j,want)⟩::l)
  | _ + 1,L,l=>(L,l)
section
variable {P:Program} {Q:Exit→Act→World→Prop} {a:Act} {w:World} {n:Nat} {L:List (Nat×Value)} {tb:Tab} {dst:Option Tmp} {ty:TypeId} {pos:String} {af:Array Edge} {g:Option (Nat×Bool)}
theorem mP {op:BinOp} {T U:TypeId} {x y:Operand} {v u r:Value} (htb:TabOk P tb) (hf:Fr a n L) (hx:ev L x=some v) (hy:ev L y=some u) (h:p2 tb op T v u=some r) :
    (execOp a.eval ⟨dst,.binOp op T x y U,ty,pos,af,g⟩).run P w=.ok (.value r) w:=by
 unfold p2 at h;split at h
 split at h <;> first | cases h | (injection h with h; subst h)
 exact AS hf hx hy;exact AE hf hx hy;exact AJ hf hx hy;exact wu hf hx hy;exact wm hf hx hy;exact wn hf hx hy;exact wo hf hx hy;exact wq hf hx hy;exact wt hf hx hy;exact AR hf hx hy;exact BR hf hx hy;exact AD hf hx hy;exact q7 hf hx hy;split at h <;> first | cases h | (injection h with h; subst h)
 exact wu hf hx hy;exact wm hf hx hy;exact wn hf hx hy;exact wo hf hx hy;exact wq hf hx hy;exact wt hf hx hy;split at h
 cases hb:inl tb.bo T <;> rw[hb]at h <;> first | cases h | (injection h with h; subst h)
 exact wU hf (htb.bo T hb) hx hy;cases hb:inl tb.bo T <;> rw[hb]at h <;> first | cases h | (injection h with h; subst h)
 exact wT hf (htb.bo T hb) hx hy;cases h
 split at h <;> first | cases h | (injection h with h; subst h)
 exact wP hf hx hy;exact wN hf hx hy;cases h
theorem mT {op:Op} {v:Value} (htb:TabOk P tb) (hf:Fr a n L) (h:pOp tb L op=some v):(execOp a.eval ⟨dst,op,ty,pos,af,g⟩).run P w=.ok (.value v) w:=by
  unfold pOp at h;split at h
  · exact wS hf h
  · exact q6 hf h
  · split at h
    · rename_i hc; exact qV hf hc h
    · rename_i hc; exact qW hf hc h
    · cases h
  · split at h
    · rename_i u hx
      unfold p1 at h
      split at h <;> first | cases h | (injection h with h; subst h)
      · exact AG hf hx
      · exact AH hf hx
    · cases h
  · split at h
    · rename_i v u hx hy
      exact mP htb hf hx hy h
    · cases h
  · split at h
    · rename_i vs hx; exact pN hf hx h
    · cases h
  · split at h
    · rename_i p hx
      injection h with h; subst h
      exact sX hf hx
    · cases h
  · split at h
    · rename_i xs ts _ vs hxs
      have hmap:=hf.evals hxs
      unfold pb at h
      split at h
      · rename_i A m c T
        cases hb:inl tb.sl T <;> rw[hb]at h <;> first | cases h | (injection h with h; subst h)
        obtain⟨E,hE⟩:=htb.sl T hb
        match xs,hmap,hxs with
        | [x],hmap,hxs =>
          have hx:ev L x=some (.slice A m c):=by
            simp only[evs,EO,Ed]at hxs
            obtain⟨v,hv,us,hus,he⟩:=hxs
            simp only[Eu]at he
            rw[hv,he.1]
          exact AN hf hE hx
        | [],hmap,_=>cases hmap
        | _::_::_,hmap,_=>simp at hmap
      · rename_i s T
        cases hb:inl tb.st T <;> rw[hb]at h <;> first | cases h | (injection h with h; subst h)
        match xs,hmap,hxs with
        | [x],hmap,hxs =>
          have hx:ev L x=some (.string s):=by
            simp only[evs,EO,Ed]at hxs
            obtain⟨v,hv,us,hus,he⟩:=hxs
            simp only[Eu]at he
            rw[hv,he.1]
          exact wO hf (htb.st T hb) hx
        | [],hmap,_=>cases hmap
        | _::_::_,hmap,_=>simp at hmap
      · rename_i i j T U
        injection h with h; subst h
        match xs,hmap,hxs with
        | [x,y],hmap,hxs =>
          simp only[evs,EO,Ed]at hxs
          obtain⟨v,hv,us,⟨u,hu,us',hus',rfl⟩,he⟩:=hxs
          simp only[Eu]at he
          exact AK hf (by rw[hv,he.1]) (by rw[hu,he.2.1])
        | [],hmap,_=>cases hmap
        | [_],hmap,_=>simp at hmap
        | _::_::_::_,hmap,_=>simp at hmap
      · rename_i i j T U
        injection h with h; subst h
        match xs,hmap,hxs with
        | [x,y],hmap,hxs =>
          simp only[evs,EO,Ed]at hxs
          obtain⟨v,hv,us,⟨u,hu,us',hus',rfl⟩,he⟩:=hxs
          simp only[Eu]at he
          exact AL hf (by rw[hv,he.1]) (by rw[hu,he.2.1])
        | [],hmap,_=>cases hmap
        | [_],hmap,_=>simp at hmap
        | _::_::_::_,hmap,_=>simp at hmap
      · cases h
    · cases h
  · split at h
    · rename_i b j hx
      split at h
      · rename_i o ho
        injection h with h; subst h
        exact qZ hf (htb.fa _ _ _ ho) hx
      · cases h
    · cases h
  · cases h
def qk (n:Nat):List Oper→Bool
  | []=>true
  | o::l=>(match o.dst with | some d=>Nat.blt d n | none=>true)&&qk n l
theorem Aa {ops:List Oper} (htb:TabOk P tb):∀(k:Nat) (L:List (Nat×Value)) (l:List Oper) {L':List (Nat×Value)} {l':List Oper} {a:Act},Fr a n L→qk n l=true→pRun tb ops k L l=(L',l') →
    (∀a',Fr a' n L'→wpList P ops.toArray Q l' a' w)→wpList P ops.toArray Q l a w:=by
 intro k;induction k with
 | zero =>
   intro L l L' l' a hf _ h hk
   simp only[pRun,EK]at h
   obtain⟨rfl,rfl⟩:=h
   exact hk a hf
 | succ k ih =>
   intro L l L' l' a hf hd h hk
   unfold pRun at h
   split at h
   · rename_i h1; cases h1
   · simp only[EK]at h
     obtain⟨rfl,rfl⟩:=h
     exact hk a hf
   · rename_i kk L0 d op ty pos af l0 h1
     injection h1 with h1; subst h1
     simp only[qk,DC,Nat.blt_eq]at hd
     split at h
     · rename_i v hv
       refine wl0 rfl (op_q hf (mT htb hf hv) rfl hd.1 λa' hf'=>?_)
       exact ih _ _ hf' hd.2 h hk
     · simp only[EK]at h
       obtain⟨rfl,rfl⟩:=h
       exact hk a hf
   · rename_i kk L0 d op ty pos af j want l0 h1
     injection h1 with h1; subst h1
     simp only[qk,DC,Nat.blt_eq]at hd
     split at h
     · simp only[EK]at h
       obtain⟨rfl,rfl⟩:=h
       exact hk a hf
     · rename_i e hj
       have hj':(ops.toArray[j]?).bind (·.dst)=some e:=by simpa using hj
       split at h
       · rename_i hb
         split at h
         · rename_i v hv
           refine wlg hf rfl hj' hb (op_q hf (mT htb hf hv) rfl hd.1 λa' hf'=>?_)
           exact ih _ _ hf' hd.2 h hk
         · simp only[EK]at h
           obtain⟨rfl,rfl⟩:=h
           exact hk a hf
       · rename_i hb
         split at h
         · rename_i v hv
           refine wlg hf rfl hj' hb (op_q hf (mT htb hf hv) rfl hd.1 λa' hf'=>?_)
           exact ih _ _ hf' hd.2 h hk
         · simp only[EK]at h
           obtain⟨rfl,rfl⟩:=h
           exact hk a hf
       · rename_i hb
         exact wls hf rfl hj' hb rfl rfl hd.1 λa' hf'=>ih _ _ hf' hd.2 h hk
       · rename_i hb
         exact wls hf rfl hj' hb rfl rfl hd.1 λa' hf'=>ih _ _ hf' hd.2 h hk
       · simp only[EK]at h
         obtain⟨rfl,rfl⟩:=h
         exact hk a hf
   · simp only[EK]at h
     obtain⟨rfl,rfl⟩:=h
     exact hk a hf
def VR {α:Type} [GoTy α] (w:World) (S:Nat→Prop) (v:Value) (x:α):Prop:=∃cs,GoTy.rep w S cs x∧v=(bif GoTy.agg α then .agg cs.toArray else cs.headD undef)
variable {S:Nat→Prop} {α:Type} [GoTy α] {cs:List Value} {K:Act→World→Prop} {i:Nat} {w0:Base} {M:List Blk} {R:List Row} {D:List DI} {I:List (Bool×MP)} {x:List α}
theorem ui {v:Value} {x:Int} (h:VR w S v x):v=.int .i64 x:=by obtain⟨cs,rfl,rfl⟩:=h; rfl
theorem ul {v:Value} {x:Bool} (h:VR w S v x):v=.bool x:=by obtain⟨cs,rfl,rfl⟩:=h; rfl
theorem lG {v:Value} {x:ByteArray} (h:VR w S v x):v=.string x:=by obtain⟨cs,rfl,rfl⟩:=h; rfl
theorem u7 {v:Value} (h:VR w S v x):∃A c,v=.slice A x.length c∧lrep w S [.slice A x.length c] x:=by
 obtain⟨cs,h,rfl⟩:=h;obtain⟨A,c,rfl,h'⟩:=id h;exact⟨A,c,rfl,h⟩
theorem zd (h:GoTy.rep w S cs x):∃A c,cs=[.slice A x.length c]∧lrep w S [.slice A x.length c] x:=by
 obtain⟨A,c,rfl,h'⟩:=id h;exact⟨A,c,rfl,h⟩
theorem uc {x:Int}:VR w S (.int .i64 x) x:=⟨_,rfl,rfl⟩
theorem um {x:Bool}:VR w S (.bool x) x:=⟨_,rfl,rfl⟩
theorem lh {x:ByteArray}:VR w S (.string x) x:=⟨_,rfl,rfl⟩
theorem uk {A:Option Addr} {m c:Nat} (h:lrep w S [.slice A m c] x):VR w S (.slice A m c) x:=⟨_,h,rfl⟩
theorem ua (h:K a w):Exit.then K Q .normal a w:=h
theorem cH (h:Q (.exit i) a w):Exit.then K Q (.exit i) a w:=h
theorem uf (h:Q .ret a w):Exit.then K Q .ret a w:=h
theorem vh (h:Q .ret a w):Exit.inBlock i Q .ret a w:=h
theorem uP (h:Q .normal a w):Exit.inBlock i Q .normal a w:=h
theorem kq (h:Q .normal a w):Exit.inBlock i Q (.exit i) a w:=by simpa [Exit.inBlock] using h
theorem Du {j:Nat} (hne:Nat.beq j i=false) (h:Q (.exit j) a w):Exit.inBlock i Q (.exit j) a w:=by
 have:j≠i:=λe=>by subst e; simp at hne
 simpa [Exit.inBlock,this] using h
theorem uH {d:Nat} (hf:Fr a n L) (H:Mem w0 S M R D I w) {α:Type} [GoTy α] {T E:TypeId} (hT:P.underlying T=some (.slice E)) (hE:SZ P E (GoTy.n α)) {x y:Operand} {A:Option Addr} {len cap:Nat} {k:IntKind} {i:Int} {xs:List α} {e:α} {f:Bool}
    (j:Nat) (hx:ev L x=some (.slice A len cap)) (hy:ev L y=some (.int k i)) (hi:I[j]?=some (f,MP.val [.slice A len cap] xs)) (he:idx xs i=some e) (hdn:d<n)
    (kk:∀b o cs a',Fr a' n ((d,.pointer (some ⟨b,o,none⟩))::L)→GoTy.rep w (St w0 S M R D f) cs e→Mem w0 S M R D ((f,MP.cells ⟨b,o,none⟩ cs)::I) w→K a' w):Oper.wp P ⟨some d,.indexAddr T x y,ty,pos,af,g⟩ a w K Q:=by
 obtain⟨b,o,cs,hq,hr,H2⟩:=sY (dst:=some d) (ty:=ty) (pos:=pos) (af:=af) (g:=g) hf H hT hE j hx hy hi he;exact op_q hf hq rfl hdn λa' hf'=>kk b o cs a' hf' hr H2
theorem Mem.resF {w':World} {S':Nat→Prop} (H:Mem w0 S M R D I w) {f:MP} (h:f.pred w' (St ⟨w,[]⟩ S' [] [] [] true)):f.pred w' (St w0 S M R D true) :=
  f.mono h λb hb _=>by
    refine⟨?_,rfl⟩
    rcases hb with ⟨h,_⟩ | ⟨h1 | h1,_⟩
    · cases h
    · exact H.new h1 _
    · cases h1
theorem Mem.start (w0:Base) (S:Nat→Prop):Mem w0 S [] [] [] [] w0.w:=⟨⟨rfl,rfl,rfl,D3 _,λ_ _=>rfl,D3 _⟩,λb hb=>(by cases hb),.nil,λr hr=>(by cases hr),λf hf=>(by cases hf)⟩
theorem Mem.pushArg {w1:World} (H:Mem ⟨w1,[]⟩ S M R D I w) (f:MP) (h:f.pred w1 S):Mem ⟨w1,[]⟩ S M R D ((false,f)::I) w :=
  H.push (false,f) (f.mono h λb hb hlt=>by
    have hn:¬(Base.nw ⟨w1,[]⟩ b):=λh=>by
      rcases h with h | h
      · simp only at h; omega
      · cases h
    exact⟨.inl ⟨rfl,hn,hb⟩,(MemZ.below H).block b hn⟩)
theorem Mem.bel {w1:World} (H:Mem ⟨w1,[]⟩ S M R D I w):Below w1.heap.size w1 w:=by
 have hb:=MemZ.below H;refine⟨hb.os,hb.tape,hb.output,hb.size,λk hk=>hb.block k λh=>?_,hb.drawn⟩;rcases h with h | h
 simp only at h; omega;cases h
theorem ve {f:Bool} {x:α} (h:GoTy.rep w (St w0 S M R D f) cs x):GoTy.rep w (St w0 S [] [] [] f) cs x :=
  GoTy.mono h (gq (λb hb=>by cases hb) f)
theorem ta {f:Bool} {x:α} (h:GoTy.rep w (St w0 S M R D f) cs x):GoTy.rep w (St w0 S [] [] [] false) cs x :=
  ve (xe h)
theorem Fr.lit (hf:Fr a n L) (t:Nat) {b c:Bool} (h:lk L t=some (.bool b)) (hb:b=c):Fr a n ((t,.bool c)::L):=by
 subst hb;refine⟨hf.size,hf.defs,λs v hs=>?_⟩;rw[mf]at hs;by_cases he:t=s;subst he; rw[if_pos rfl]at hs; injection hs with hs; subst hs; exact hf.get t _ h
 rw[if_neg he]at hs; exact hf.get s v hs
end
end AT
namespace AT
open Go Go.RowKit
theorem nle {a b:Nat} (h:Nat.ble a b=true):a≤b:=Nat.le_of_ble_eq_true h
def PT (P:Program) (E:TypeId):Prop:=∀w,(isAgg E).run P w=.ok false w∧(Go.sizeOf E).run P w=.ok 1 w
section
variable {P:Program} {Q:Exit→Act→World→Prop} {a:Act} {w:World} {w0:Base} {n:Nat} {L:List (Nat×Value)} {K:Act→World→Prop}
variable {S:Nat→Prop} {M:List Blk} {R:List Row} {D:List DI} {I:List (Bool×MP)} {dst:Option Tmp} {d:Nat} {ty:TypeId} {pos:String} {af:Array Edge} {g:Option (Nat×Bool)}
theorem mid {c:Code} (Mid:Act→World→Prop) (h:c.wp P (Exit.then Mid Q) a w) (h2:∀a w,Mid a w→Q .normal a w):c.wp P Q a w :=
  Code.wp_mono (λe a w q=>by cases e <;> first | exact q | exact h2 a w q) h
theorem uA (hf:Fr a n L) {T:TypeId} {ps:List (Nat×Operand)} {qs:List (Nat×Value)} {cs:List Value} (hp0:evp L ps=some qs) (hb:∀w,(Instr.build T qs.toArray).run P w=.ok (.agg cs.toArray) w) :
    (execOp a.eval ⟨dst,.build T ps.toArray,ty,pos,af,g⟩).run P w=.ok (.value (.agg cs.toArray)) w:=by
  have e:(ps.toArray.map λp=>(p.1,a.eval p.2))=qs.toArray:=by rw[Gr,hf.evalp hp0]
  simp only[execOp];rw[show (ps.toArray.map λx=>match x with | (i,x)=>(i,a.eval x))=qs.toArray from e]
  simp [hb]
theorem Mem.copyI (H:Mem w0 S M R D I w) (i:Nat) {f f':Bool} {p:MP} (hi:I[i]?=some (f,p)) (hff:f'=false∨f'=f):Mem w0 S M R D ((f',p)::I) w :=
  H.push _ (p.mono (H.get i hi) λb hb _=>by
    refine⟨?_,rfl⟩
    rcases hff with rfl | rfl
    · rcases hb with ⟨rfl,h⟩ | h
      · exact .inl ⟨rfl,h⟩
      · exact .inr h
    · exact hb)
theorem Mem.rowWeak (H:Mem w0 S M R D I w) (i:Nat) {α:Type} [GoTy α] {fr:Bool} {E:TypeId} {A:Option Addr} {cap:Nat} {xs:List α} (hi:R[i]?=some ⟨.sh fr,E,A,cap,xs⟩):Mem w0 S M (R.set i ⟨.sh false,E,A,cap,xs⟩) D I w:=by
 refine H.reRow hi ⟨⟨rfl,rfl,rfl,D3 _,λ_ _ _=>rfl⟩,D3 _⟩ (.inl rfl) (GE _) λhm=>?_;obtain⟨cells,ho,_,he⟩:=H.rowAt (DY hi);exact⟨cells,ho,trivial,λj x hx=>GoTy.mono (xe (show GoTy.rep w (St w0 S M R D fr) _ x from he j x hx)) (hm false)⟩
theorem Mem.rowSh (H:Mem w0 S M R D I w) (i:Nat) {α:Type} [GoTy α] {Fs:List (List Nat)} {E:TypeId} {A:Option Addr} {cap:Nat} {xs:List α} (hi:R[i]?=some ⟨.ow Fs,E,A,cap,xs⟩):Mem w0 S M (R.set i ⟨.sh true,E,A,cap,xs⟩) D I w:=by
 have H1:=MemZ.perm H (iI hi);refine MemZ.perm (MemZ.step (rs':=[Row.res ⟨.sh true,E,A,cap,xs⟩]) H1 (Chg.refl _ _) (λb hb=>.inl ?_) (λb hb=>.inl hb) ?_ (λhm q hq=>?_)) (qC _ hi).symm;rw[vA]at hb ⊢;have:b∈(Value.slice A xs.length cap).ownBlock.toList++[]:=hb;rw[D1]at this;exact Dx.2 (.inl this);have h1:=MemZ.nd H1;rw[uZ,vA]at h1;rw[vA];show ((Value.slice A xs.length cap).ownBlock.toList++[]).Nodup;rw[D1];exact (DW.1 (DW.1 h1).1).1;rw[DU]at hq; subst hq;have hmem:=DY hi;obtain⟨cells,ho,hf,he⟩:=H.rowAt hmem;refine⟨cells,ho,trivial,λj x hx=>?_⟩;have h1:=H.elRep hmem (DK.1 hx).1 hf (he j x hx);have h2:=hm true;rw[←gr (iI hi)]at h2;exact GoTy.mono (show GoTy.rep w (StZ w0 S (zs M R D) true) _ x from h1) h2
theorem oY {α:Type} [GoTy α] {T:Nat→Prop}:lrep w T [.slice none 0 0] ([]:List α):=⟨none,0,rfl,D3 _,by simp [maxLen],λi x hx=>by simp at hx⟩
theorem rD {z:Array Value} {m:Nat} (hz:z.size=m) (hm:0<m) (c i:Nat) (hi:i<c):((madeCells z (c * m)).toList.drop (i * m)).take m=z.toList:=by
 have hle:i * m + m≤c * m:=by
   have:=D5 m (show i + 1≤c from hi)
   rwa [Fq]at this
 apply FT;intro j;by_cases hj:j<m;rw[D8 hj,Em];have h1:i * m + j<c * m:=by omega
 have h2:(i * m + j) % z.size=j:=by rw[hz,Gu,Nat.mul_add_mod,Nat.mod_eq_of_lt hj]
 simp [madeCells,h1,h2];rw[getElem!_pos z j (by omega)];simp [show j<z.size by omega];rw[EA (by simp; omega),EA (by simp; omega)]
theorem Ac (hf:Fr a n L) (H:Mem w0 S M R D I w) {α:Type} [GoTy α] {T E:TypeId} {z:Value} {bytes:Nat} (hT:P.underlying T=some (.slice E)) (hE:AI P E (GoTy.n α) z bytes) (hz:z.cells.size=GoTy.n α) (hby:bytes≤128) {x y:Operand} {i:Int} {z0:α} {xs:List α}
    (hx:ev L x=some (.int .i64 i)) (hy:ev L y=some (.int .i64 i)) (hz0:GoTy.rep w (St w0 S M R D true) z.cells.toList z0) (hmk:mk z0 i=some xs) (hdn:d<n)
    (k:∀A c a' w',Fr a' n ((d,.slice A xs.length c)::L)→Mem w0 S M (⟨.sh true,E,A,c,xs⟩::R) D I w'→K a' w'):Oper.wp P ⟨some d,.makeSlice T x y,ty,pos,af,g⟩ a w K Q:=by
  unfold mk at hmk;split at hmk
  case isFalse=>cases hmk
  rename_i hi;injection hmk with hmk
  subst hmk;obtain⟨inf,hinf,hpr⟩:=Ed.1 hE;simp only[EK]at hpr;obtain⟨hz1,hz2,hz3⟩:=hpr;have hb:(inf.bytes:Int) * i≤281474976710656:=by
    rw[hz3]
    have h1:(bytes:Int) * i≤128 * i:=Int.mul_le_mul_of_nonneg_right (by omega) hi.1
    omega
  have hr:=run_make (P:=P) w T E inf z hT hinf hz1 .i64 .i64 i i hi.1 (Gl _) hb (by omega);have h1:(execOp a.eval ⟨some d,.makeSlice T x y,ty,pos,af,g⟩).run P w=.ok (.value (.slice (some ⟨w.heap.size,0,none⟩) i.toNat i.toNat)) (w.alloc (.cells (madeCells z.cells (i.toNat * inf.size)) E)):=by
    simp [execOp,hf.eval hx,hf.eval hy,hr]
  unfold Oper.wp;rw[h1,Oper.upon_value];have H2:=H.newRow (.sh true) rfl E (List.replicate i.toNat z0) (madeCells z.cells (i.toNat * inf.size)).toList i.toNat (by simp) (by simp only[maxLen]; omega) (by simp [size_madeCells,hz2]) trivial (λq e hq=>by
    have hql:q<i.toNat:=by have:=(DK.1 hq).1; simpa using this
    have he:e=z0:=by
      rw[GD]at hq; simp [hql]at hq; exact hq.symm
    subst he
    show GoTy.rep _ _ (xp α _ q) _
    unfold xp
    rw[hz2,rD hz (GoTy.pos (α:=α)) _ _ hql]
    exact hz0)
  rw[FSq]at H2;exact k _ _ _ _ (by have:=hf.put hdn (.slice (some ⟨w.heap.size,0,none⟩) i.toNat i.toNat); simpa using this) H2
def RA (A:Option Addr) (b o k:Nat):Prop:=∃q,A=some ⟨b,q,none⟩∧o=q + k
variable {α:Type} [GoTy α] {cap b off n' m:Nat} {E:TypeId} {vs:List Value}
theorem ik (H:Mem w0 S M R D I w) {j:Nat} {kd:Kd} {E:TypeId} {A:Option Addr} {cap:Nat} {xs:List α} (hj:R[j]?=some ⟨kd,E,A,cap,xs⟩) {i:Int} {e:α} (he:idx xs i=some e) :
    ∃b q,A=some ⟨b,q,none⟩∧∃cs,GoTy.rep w (St w0 S M R D kd.fresh) cs e∧∀k c,cs[k]?=some c→w.cell? ((⟨b,q + i.toNat * GoTy.n α,none⟩:Addr).add k)=some c:=by
  obtain⟨h0,h1,h2⟩:=ke he;have hmem:=DY hj;obtain⟨cells,ho,hf,hel⟩:=H.rowAtK hmem;have hpos:0<xs.length:=by omega
  obtain⟨b,q,rfl⟩:=tq ho hpos;have ht:=eL ho;refine⟨b,q,rfl,_,H.elRep hmem (DK.1 h2).1 hf (hel _ _ h2),λk c hk=>?_⟩;unfold xp at hk;have hlt:k<GoTy.n α:=by
    have:=(DK.1 hk).1
    simp only[DO]at this; omega
  have h4:=gf ht (i.toNat * GoTy.n α + k) c;rw[add_lit,FY];refine h4 ?_;rw[D8 hlt,Em]at hk;exact hk
theorem vV (hf:Fr a n L) (H:Mem w0 S M R D I w) {α:Type} [GoTy α] {T E E':TypeId} (hT:P.underlying T=some (.slice E)) (hE:SZ P E (GoTy.n α)) (j:Nat) {kd:Kd} {A:Option Addr} {cap:Nat} {xs:List α} {x y:Operand} {k:IntKind} {i:Int} {e:α}
    (hx:ev L x=some (.slice A xs.length cap)) (hy:ev L y=some (.int k i)) (hj:R[j]?=some ⟨kd,E',A,cap,xs⟩) (he:idx xs i=some e) (hdn:d<n)
    (kk:∀b o cs a',Fr a' n ((d,.pointer (some ⟨b,o,none⟩))::L)→RA A b o (i.toNat * GoTy.n α)→GoTy.rep w (St w0 S M R D kd.fresh) cs e→(∀q c,cs[q]?=some c→w.cell? ((⟨b,o,none⟩:Addr).add q)=some c)→K a' w) :
    Oper.wp P ⟨some d,.indexAddr T x y,ty,pos,af,g⟩ a w K Q:=by
  obtain⟨h0,h1,h2⟩:=ke he;obtain⟨b,q,rfl,cs,hr,hc⟩:=ik H hj he;have hi:=run_indexAt (P:=P) (w:=w) (cap:=cap) hT hE h0 h1 (p:=⟨b,q,none⟩) (k:=k);rw[add_lit]at hi;exact op_q hf (v:=.pointer (some ⟨b,q + i.toNat * GoTy.n α,none⟩)) (by simp [execOp,hf.eval hx,hf.eval hy,hi]) rfl hdn λa' hf'=>kk b _ cs a' hf' ⟨q,rfl,rfl⟩ hr hc
theorem nH {g o s:Nat} {xs:List Value} (h:w.ownsTail E s (.slice (some ⟨g,o,none⟩) n cap) n xs) (j:Nat) (hj:j<n * s) (u:Value) :
    (w.setCell ⟨g,o + j,none⟩ u).ownsTail E s (.slice (some ⟨g,o,none⟩) n cap) n (xs.set j u)∧GB w (w.setCell ⟨g,o + j,none⟩ u) (some g)∧w.frozen? ⟨g,o + j,none⟩=false:=by
 rcases h.2 with ⟨h',_⟩ | ⟨g',o',cap',cur,h',hg,hnc,hcm,hcs,htake⟩
 simp at h';simp only[Value.slice.injEq,Ec,Addr.mk.injEq,and_true,true_and]at h';obtain⟨⟨rfl,rfl⟩,rfl⟩:=h';refine⟨⟨by simpa using h.1,.inr ⟨g,o,cap,cur.setIfInBounds (o + j) u,rfl,heap_setCell_same w g (o + j) cur E u hg,hnc,hcm,by simpa using hcs,?_⟩⟩,
   ⟨⟨rfl,rfl,rfl,by simp,λk _ hk=>heap_setCell_other w ⟨g,o + j,none⟩ k u (λe=>hk (by simp [e]))⟩,D3 _⟩,frozen_of_row w g (o + j) cur E hg⟩
 rw[Array.toList_setIfInBounds,←htake,List.drop_set,if_neg (by omega),List.take_set,Hj]
theorem lX {size:Nat} (o:Nat):∀(vs:List Value) (w:World) (q:Nat) (cells:List Value),w.ownsTail E size (.slice (some ⟨b,off,none⟩) n' cap) n' cells→(∀v∈vs,v.oneCell'=true)→o + q + vs.length≤cells.length →
    ∃w',(storeCells ⟨b,off + o,none⟩ vs q).run P w=.ok () w'∧w'.ownsTail E size (.slice (some ⟨b,off,none⟩) n' cap) n' (cells.take (o + q)++vs++cells.drop (o + q + vs.length))∧GB w w' (some b):=by
 intro vs;induction vs with
 | nil =>
   intro w q cells ho _ _
   exact⟨w,by simp [storeCells],by simpa using ho,⟨rfl,rfl,rfl,D3 _,λ_ _ _=>rfl⟩,D3 _⟩
 | cons v vs ih =>
   intro w q cells ho h1 hlen
   simp only[Ep]at hlen
   have hcl:cells.length=n' * size:=ho.1
   have hcell:w.cell? ⟨b,off + (o + q),none⟩=some (cells[o + q]'(by omega)):=gf ho _ _ (Dy (by omega))
   obtain⟨ho1,hg1,hfz⟩:=nH ho (o + q) (by omega) v
   have hst:(store ((⟨b,off + o,none⟩:Addr).add q) v).run P w=.ok () (w.setCell ⟨b,off + (o + q),none⟩ v):=by
     rw[add_lit,FY,run_store P w _ v .plain (h1 v (by simp)),hcell]
     simp [hfz]
   obtain⟨w',hr,ho2,hg⟩:=ih _ (q + 1) _ ho1 (λu hu=>h1 u (by simp [hu])) (by simp; omega)
   refine⟨w',by simp [storeCells,hst,hr],?_,GB.trans hg1 hg⟩
   have e1:(cells.set (o + q) v).take (o + (q + 1))=cells.take (o + q)++[v]:=by
     rw[show o + (q + 1)=(o + q) + 1 by omega,G7,Gy (by omega)]
     simp [show o + q<cells.length by omega]
   rw[e1,Gw (by omega)]at ho2
   rw[Ep,show o + q + (vs.length + 1)=o + (q + 1) + vs.length by omega]
   simpa using ho2
theorem mO {B size:Nat} (o:Nat):∀(vs:List Value) (w:World) (q:Nat) (cells:List Value),w.ownsRow B E size (.slice (some ⟨b,0,none⟩) n' cap) n' cells→(∀v∈vs,v.oneCell'=true)→o + q + vs.length≤cells.length →
    ∃w',(storeCells ⟨b,o,none⟩ vs q).run P w=.ok () w'∧w'.ownsRow B E size (.slice (some ⟨b,0,none⟩) n' cap) n' (cells.take (o + q)++vs++cells.drop (o + q + vs.length))∧GB w w' (some b):=by
 intro vs;induction vs with
 | nil =>
   intro w q cells ho _ _
   exact⟨w,by simp [storeCells],by simpa using ho,⟨rfl,rfl,rfl,D3 _,λ_ _ _=>rfl⟩,D3 _⟩
 | cons v vs ih =>
   intro w q cells ho h1 hlen
   simp only[Ep]at hlen
   have hcl:cells.length=n' * size:=ho.1
   have hcell:w.cell? ⟨b,o + q,none⟩=some (cells[o + q]'(by omega)):=by
     rw[ho.cellAt _ (by omega)]; exact Dy (by omega)
   have hst:(store ((⟨b,o,none⟩:Addr).add q) v).run P w=.ok () (w.setCell ⟨b,o + q,none⟩ v):=by
     rw[add_lit,run_store P w _ v .plain (h1 v (by simp)),hcell]
     simp [ho.frozenAt]
   obtain⟨ho1,hg1'⟩:=ho.stored (o + q) v
   have hg1:GB w (w.setCell ⟨b,o + q,none⟩ v) (some b):=⟨hg1',D3 _⟩
   obtain⟨w',hr,ho2,hg⟩:=ih _ (q + 1) _ ho1 (λu hu=>h1 u (by simp [hu])) (by simp; omega)
   refine⟨w',by simp [storeCells,hst,hr],?_,GB.trans hg1 hg⟩
   have e1:(cells.set (o + q) v).take (o + (q + 1))=cells.take (o + q)++[v]:=by
     rw[show o + (q + 1)=(o + q) + 1 by omega,G7,Gy (by omega)]
     simp [show o + q<cells.length by omega]
   rw[e1,Gw (by omega)]at ho2
   rw[Ep,show o + q + (vs.length + 1)=o + (q + 1) + vs.length by omega]
   simpa using ho2
theorem nK {l:List Value} {p q:Nat} (hl:p * m + m≤l.length) (hv:off + vs.length≤m) :
    ((l.take (p * m + off)++vs++l.drop (p * m + off + vs.length)).drop (q * m)).take m =
      if q=p then ((l.drop (p * m)).take m).take off++vs++((l.drop (p * m)).take m).drop (off + vs.length) else (l.drop (q * m)).take m:=by
 apply FT;intro j;by_cases hj:j<m;rw[D8 hj,Em];have hlen1:(l.take (p * m + off)).length=p * m + off:=by rw[DO]; omega
 by_cases hq:q=p;subst hq;rw[if_pos rfl,DD,DD,EF,EF,hlen1];have hlen2:(((l.drop (q * m)).take m).take off).length=off:=by simp; omega
 rw[EF,EF,hlen2];by_cases h1:j<off;rw[if_pos (by omega),if_pos h1,D8 (by omega),D8 h1,D8 hj,Em];rw[if_neg (by omega),if_neg h1];by_cases h2:j<off + vs.length;rw[if_pos (by omega),if_pos (by omega)];congr 1; omega;rw[if_neg (by omega),if_neg (by omega),Em,Em,D8 (by omega),Em];congr 1; omega;rw[if_neg hq,D8 hj,Em,DD,EF,EF,hlen1];rcases GX hq with h | h
 have h1:q * m + m≤p * m:=by
   have:=D5 m (show q + 1≤p from h)
   rwa [Fq]at this
 rw[if_pos (by omega),D8 (by omega)];have h1:p * m + m≤q * m:=by
   have:=D5 m (show p + 1≤q from h)
   rwa [Fq]at this
 rw[if_neg (by omega),if_neg (by omega),Em];congr 1; omega;rw[EA (by simp; omega)];split
 rw[EA (by simp; omega)];rw[EA (by simp; omega)]
theorem run_store {T:TypeId} (hT:SZ P T m) (hf:Fr a n L) {E:TypeId} {A:Option Addr} {cap:Nat} {xs:List α} {x y:Operand} {b o off:Nat} {i:Int} {e:α} {v:Value} {vs cells:List Value} {fr:Bool}
    (hx:ev L x=some (.pointer (some ⟨b,o + off,none⟩))) (hy:ev L y=some v) (hv:v.cells=vs.toArray) (h1:(vs.all Value.oneCell')=true) (hm:vs.length=m) (hoff:off + m≤GoTy.n α)
    (hA:RA A b o (i.toNat * GoTy.n α)) (he:idx xs i=some e) (ho:w.ownsK fr E (GoTy.n α) (.slice A xs.length cap) xs.length cells) (e':α) :
    ∃w' cells',(execOp a.eval ⟨none,.store T x y,ty,pos,af,g⟩).run P w=.ok .skip w'∧GB w w' (Value.slice A xs.length cap).ownBlock∧w'.ownsK fr E (GoTy.n α) (.slice A (xs.set i.toNat e').length cap) (xs.set i.toNat e').length cells' ∧
      ∀q,xp α cells' q=if q=i.toNat then (xp α cells i.toNat).take off++vs++(xp α cells i.toNat).drop (off + vs.length) else xp α cells q:=by
  obtain⟨q0,rfl,rfl⟩:=hA;obtain⟨h0,hlt,hg⟩:=ke he;have hT':∀w,(Go.sizeOf T).run P w=.ok m w:=hT;have hcl:cells.length=xs.length * GoTy.n α:=(eL ho).1;have hle:i.toNat * GoTy.n α + GoTy.n α≤cells.length:=by
    rw[hcl]
    have:=D5 (GoTy.n α) (show i.toNat + 1≤xs.length by omega)
    rwa [Fq]at this
  have hrun:∃w',(storeCells ⟨b,q0 + i.toNat * GoTy.n α + off,none⟩ vs 0).run P w=.ok () w'∧w'.ownsK fr E (GoTy.n α) (.slice (some ⟨b,q0,none⟩) xs.length cap) xs.length (cells.take (i.toNat * GoTy.n α + off + 0)++vs++cells.drop (i.toNat * GoTy.n α + off + 0 + vs.length))∧GB w w' (some b):=by
    cases fr with
    | false =>
      have hq:q0=0:=by
        rcases ho.2 with ⟨hv,-⟩ | ⟨g,cap',cur,hv,-⟩
        · simp at hv
        · simp only[Value.slice.injEq,Ec,Addr.mk.injEq]at hv
          exact hv.1.2.1
      subst hq
      rw[Ey]
      exact mO (P:=P) (i.toNat * GoTy.n α + off) vs w 0 cells ho (by simpa using h1) (by omega)
    | true =>
      rw[FY]
      exact lX (P:=P) (i.toNat * GoTy.n α + off) vs w 0 cells ho (by simpa using h1) (by omega)
  obtain⟨w',hr,ho2,hg2⟩:=hrun;refine⟨w',_,?_,hg2,by rw[DN]; exact ho2,λq=>?_⟩
  · simp [execOp,Instr.storeAt,Instr.sureAddr,storeVar,hf.eval hx,hf.eval hy,hv,hT',hm,hr]
  · unfold xp
    rw[Ez]
    exact nK hle (by omega)
theorem getElem?_set' {β:Type} {l:List β} {i q:Nat} {x z:β} (h:(l.set i x)[q]?=some z):(q=i∧z=x)∨(q≠i∧l[q]?=some z):=by
 rw[G6]at h;by_cases hq:i=q;rw[if_pos hq]at h;split at h
 exact .inl ⟨hq.symm,(Dz h).symm⟩;cases h
 rw[if_neg hq]at h; exact .inr ⟨Ne.symm hq,h⟩
theorem xU (hf:Fr a n L) (H:Mem w0 S M R D I w) {α:Type} [GoTy α] {T:TypeId} {m:Nat} (hT:SZ P T m) (j:Nat) {kd:Kd} {E:TypeId} {A:Option Addr} {cap:Nat} {xs:List α} {x y:Operand} {b o off:Nat} {i:Int} {e e':α} {v:Value} {vs:List Value}
    (hx:ev L x=some (.pointer (some ⟨b,o + off,none⟩))) (hy:ev L y=some v) (hv:v.cells=vs.toArray) (h1:(vs.all Value.oneCell')=true) (hm:vs.length=m) (hoff:off + m≤GoTy.n α) (hj:R[j]?=some ⟨kd,E,A,cap,xs⟩)
    (hA:RA A b o (i.toNat * GoTy.n α)) (he:idx xs i=some e) (hnew:∀cs,kd.holds w (St w0 S M R D kd.fresh) i.toNat cs e→kd.holds w (St w0 S M R D kd.fresh) i.toNat (cs.take off++vs++cs.drop (off + vs.length)) e')
    (k:∀w',Mem w0 S M (R.set j ⟨kd,E,A,cap,xs.set i.toNat e'⟩) D I w'→K a w'):Oper.wp P ⟨none,.store T x y,ty,pos,af,g⟩ a w K Q:=by
 have hmem:=DY hj;obtain⟨cells,ho,hfit,hel⟩:=H.rowAtK hmem;obtain⟨w',cells',hr,hg,ho2,hpt⟩:=run_store (ty:=ty) (pos:=pos) (af:=af) (g:=g) hT hf hx hy hv h1 hm hoff hA he ho e';unfold Oper.wp;rw[hr,Oper.upon_skip];have hown:Same w w' kd.fd:=λc hc=>by
   have hp:=iI (M:=M) (D:=D) hj
   have h3:=MemZ.nd (MemZ.perm H hp)
   rw[uZ,vA]at h3
   have h4:(Value.slice A xs.length cap).ownBlock.toList++kd.fd=(Row.res ⟨kd,E,A,cap,xs⟩).all:=rfl
   have h5:=(DW.1 h3).1
   rw[←h4]at h5
   refine hg.block c (MemZ.lt H c (Es.2 ⟨_,l7 hmem,Dx.2 (.inr hc)⟩)).2 λe=>?_
   exact (DW.1 h5).2.2 c (by rw[←e]; simp) c hc rfl
 refine k w' (H.reRow hj hg (.inl (by show Value.ownBlock (.slice A (xs.set i.toNat e').length cap)=_; rw[DN]; rfl)) (GE _) λhmv=>⟨cells',ho2,by show kd.fits (xs.set _ _).length; rw[DN]; exact hfit,λq z hz=>?_⟩);rw[hpt];rcases getElem?_set' hz with ⟨hq,hz⟩ | ⟨hq,hz⟩
 rw[if_pos hq,hq,hz];exact Kd.holds_mono (hnew _ (hel _ _ (ke he).2.2)) hown (hmv _);rw[if_neg hq];exact Kd.holds_mono (hel _ _ hz) hown (hmv _)
theorem bf {T:Nat→Prop} {e e':α} (hv:GoTy.rep w T vs e'):∀cs,GoTy.rep w T cs e→GoTy.rep w T (cs.take 0++vs++cs.drop (0 + vs.length)) e':=by
 intro cs hc;rw[Hq,Ek,Ey,En (by rw[GoTy.len hc,GoTy.len hv]; exact D3 _),D1];exact hv
theorem ru (hf:Fr a n L) (H:Mem w0 S M R D I w) {α:Type} [GoTy α] {T E:TypeId} (hT:P.underlying T=some (.slice E)) (hE:SZ P E (GoTy.n α)) {x:Operand} {lo hi:Option Operand} {A:Option Addr} {len cap:Nat} {i j:Int} {xs ys:List α} {f:Bool} (q:Nat)
    (hx:ev L x=some (.slice A len cap)) (hlo:match lo with | some o=>ev L o=some (.int .i64 i) | none=>i=0) (hhi:match hi with | some o=>ev L o=some (.int .i64 j) | none=>j=len)
    (hq:I[q]?=some (f,MP.val [.slice A len cap] xs)) (hs:sub xs i j=some ys) (hdn:d<n)
    (k:∀A' c' a',Fr a' n ((d,.slice A' ys.length c')::L)→Mem w0 S M R D ((f,MP.val [.slice A' ys.length c'] ys)::I) w→K a' w):Oper.wp P ⟨some d,.slice T x lo hi none,ty,pos,af,g⟩ a w K Q:=by
  obtain⟨A',cap',hcs,hlc,hcm,hel⟩:lrep w (St w0 S M R D f) [.slice A len cap] xs:=H.get q hq;simp only[Eu,Value.slice.injEq,and_true]at hcs;obtain⟨rfl,rfl,rfl⟩:=hcs;unfold sub at hs;split at hs
  case isFalse=>cases hs
  rename_i hb;obtain⟨h0,h1,h2⟩:=hb;injection hs with hs
  have hyl:ys.length=j.toNat - i.toNat:=by rw[←hs]; simp; omega
  have hE':∀w,(Go.sizeOf E).run P w=.ok (GoTy.n α) w:=hE;have hval:(execOp a.eval ⟨some d,.slice T x lo hi none,ty,pos,af,g⟩).run P w=.ok (.value (.slice (if cap=i.toNat then A else A.map (·.add (i.toNat * GoTy.n α))) ys.length (cap - i.toNat))) w:=by
    have hj:(j.toNat:Int)=j:=EW (by omega)
    have hlo':(lo.map a.eval)=none∧i=0∨(lo.map a.eval)=some (.int .i64 i):=by
      cases lo with
      | none=>exact .inl ⟨rfl,hlo⟩
      | some o=>exact .inr (by simp [hf.eval hlo])
    have hhi':(hi.map a.eval)=none∧j=xs.length∨(hi.map a.eval)=some (.int .i64 j):=by
      cases hi with
      | none=>exact .inl ⟨rfl,hhi⟩
      | some o=>exact .inr (by simp [hf.eval hhi])
    have hsl:(Instr.sliceAt T (.slice A xs.length cap) (lo.map a.eval) (hi.map a.eval) none).run P w=.ok (.slice (if cap=i.toNat then A else A.map (·.add (i.toNat * GoTy.n α))) ys.length (cap - i.toNat)) w:=by
      rw[hyl]
      have hsb:(Instr.sliceBounds true xs.length cap (lo.map a.eval) (hi.map a.eval) none).run P w=.ok (i.toNat,j.toNat,cap) w:=by
        rcases hlo' with ⟨e1,rfl⟩ | e1 <;> rcases hhi' with ⟨e2,e3⟩ | e2 <;> rw[e1,e2]
        · subst e3; simp [Instr.sliceBounds]
        · simp [Instr.sliceBounds,Instr.sliceBound,asIntOf,show 0≤j by omega,show j≤cap by omega]
        · subst e3; simp [Instr.sliceBounds,Instr.sliceBound,asIntOf,h0,h1]
        · simp [Instr.sliceBounds,Instr.sliceBound,asIntOf,h0,show 0≤j by omega,show j≤cap by omega,hj,h1]
      simp [Instr.sliceAt,Instr.slice,run_underlying hT,hsb,hE']
    simp [execOp,hf.eval hx,hsl]
  refine op_q hf hval rfl hdn λa' hf'=>k _ _ a' hf' (H.push _ ?_);refine⟨_,_,rfl,by omega,by omega,λt z hz=>?_⟩;have hz':xs[i.toNat + t]?=some z:=by
    rw[←hs,Em]at hz
    rw[Ge]at hz
    split at hz
    · exact hz
    · cases hz
  obtain⟨p,hp,hSp,cs,hc,hr⟩:=hel _ _ hz';have hlt:=(DK.1 hz').1;rw[if_neg (by omega),hp];refine⟨p.add (i.toNat * GoTy.n α),rfl,by rw[block_add]; exact hSp,cs,λu c hu=>?_,hr⟩;rw[add_add,←FY,←Fg];exact hc u c hu
end
end AT
namespace AT
open Go Go.RowKit
section
variable {w w' w1:World} {w0:Base} {S:Nat→Prop} {M:List Blk} {R:List Row} {D:List DI} {I:List (Bool×MP)}
def VO {α:Type} [GoTy α] (w:World) (F:List Nat) (v:Value) (x:α):Prop:=∃cs,GoTy.own w F cs x∧v=(bif GoTy.agg α then .agg cs.toArray else cs.headD undef)
def New (w w':World) (F:List Nat):Prop:=F.Nodup∧∀b∈F,w.heap.size≤b∧b<w'.heap.size
def Back (w w':World) (F F':List Nat):Prop:=F'.Nodup∧∀b∈F',(w.heap.size≤b∨b∈F)∧b<w'.heap.size
variable {α:Type} [GoTy α] {F:List Nat} {cs:List Value} {x:List α}
theorem uT {v:Value} (h:VO w F v x):∃A c,v=.slice A x.length c∧lown w F [.slice A x.length c] x:=by
 obtain⟨cs,h,rfl⟩:=h;obtain⟨A,c,E,cells,Fs,rfl,h'⟩:=id h;exact⟨A,c,rfl,h⟩
theorem aY (h:GoTy.own w F cs x):∃A c,cs=[.slice A x.length c]∧lown w F [.slice A x.length c] x:=by
 obtain⟨A,c,E,cells,Fs,rfl,h'⟩:=id h;exact⟨A,c,rfl,h⟩
theorem vp {A:Option Addr} {m c:Nat} (h:lown w F [.slice A m c] x):VO w F (.slice A m c) x:=⟨_,h,rfl⟩
theorem tz:lown w [] [.slice none 0 0] ([]:List α):=⟨none,0,0,[],[],rfl,World.ownsRow_nil _ _ _ _,rfl,rfl,λi x Fi hx=>by simp at hx⟩
theorem Mem.ownNil (H:Mem w0 S M R D I w) (α:Type) [GoTy α]:Mem w0 S M R (⟨[],MP.own [] [.slice none 0 0] ([]:List α)⟩::D) I w :=
  H.recast (X:=[]) (Y:=[⟨[],MP.own [] [.slice none 0 0] ([]:List α)⟩]) (by simp) λ_ d hd=>by
    rw[DU]at hd; subst hd
    exact⟨tz,λb hb=>hb⟩
theorem Mem.diNd {d:DI} (H:Mem w0 S M R (d::D) I w):d.F.Nodup∧∀b∈d.F,w0.nw b∧b<w.heap.size:=by
 have H1:=MemZ.perm H (zy d);have hall:allZ [d.res]=d.F:=by rw[vA]; rfl
 have h1:=MemZ.nd H1;rw[uZ,hall]at h1;exact⟨(DW.1 h1).1,λb hb=>MemZ.lt H1 b (by rw[uZ,hall]; exact Dx.2 (.inl hb))⟩
theorem Mem.ends {X:List DI} (H:Mem ⟨w1,[]⟩ S M R (X++D) I w):New w1 w (X.flatMap DI.F):=by
 have H1:=MemZ.perm H (fJ X);have h1:=MemZ.nd H1;rw[uZ,dz]at h1;refine⟨(DW.1 h1).1,λb hb=>?_⟩;obtain⟨h2,h3⟩:=MemZ.lt H1 b (by rw[uZ,dz]; exact Dx.2 (.inl hb));rcases h2 with h2 | h2
 exact⟨h2,h3⟩;cases h2
theorem Mem.ownAt (H:Mem w0 S M R D I w) (j:Nat) {α:Type} [GoTy α] {F:List Nat} {cs:List Value} {x:α} (hj:D[j]?=some ⟨F,MP.own F cs x⟩):GoTy.own w F cs x:=(H.diAt (DY hj)).1
theorem Mem.chg (H:Mem ⟨w1,F⟩ S M R D I w):Chg w1 w F:=by
 have hb:=MemZ.below H;refine⟨hb.os,hb.tape,hb.output,hb.size,λk hk hn=>hb.block k λh=>?_,hb.drawn⟩;rcases h with h | h
 simp only at h; omega;exact hn h
theorem Mem.back {d:DI} (H:Mem ⟨w1,F⟩ S M R (d::D) I w):Back w1 w F d.F:=⟨H.diNd.1,λb hb=>H.diNd.2 b hb⟩
theorem Mem.wrote {F':List Nat} {x x':α} (H:Mem w0 S M R (⟨F,MP.own F cs x⟩::D) I w) (hR:R.all Row.tightB=true) (hc:Chg w w' F) (ho:GoTy.own w' F' cs x') (hb:Back w w' F F') :
    Mem w0 S M R (⟨F',MP.own F' cs x'⟩::D) [] w':=by
 have H1:=MemZ.perm H (zy _);have hall:∀e:DI,allZ [e.res]=e.F:=λe=>by rw[vA]; rfl
 refine MemZ.perm (MemZ.turn (rs:=[DI.res ⟨F,MP.own F cs x⟩]) (rs':=[DI.res ⟨F',MP.own F' cs x'⟩]) H1 (by rw[hall]; exact hc) (λb h=>?_) (by rw[hall]; exact hb.1) (hJ hR) (λq hq=>?_)) (zy _).symm;rw[hall]at h ⊢;obtain⟨h1,h2⟩:=hb.2 b h;exact h1.elim (λh=>.inr ⟨h,h2⟩) .inl;rw[DU]at hq; subst hq;exact⟨⟨ho,λb h=>h⟩,λb h=>(hb.2 b h).2⟩
structure Lens (α β:Type) [GoTy α] [GoTy β] (q:Nat) (get:α→β) (put:α→β→α):Prop where
  at_:∀{w:World} {F:List Nat} {cs:List Value} {e:α},GoTy.own w F cs e→∃Fa F1 Fc c,F=Fa++(F1++Fc)∧cs[q]?=some c∧GoTy.own w F1 [c] (get e) ∧
    ∀(w':World) (F1':List Nat) (y:β),GoTy.own w' F1' [c] y→Same w w' Fa→Same w w' Fc→GoTy.own w' (Fa++(F1'++Fc)) cs (put e y)
variable {β:Type} [GoTy β] {γ:Type} [GoTy γ]
theorem Lens.fst {q:Nat} {get:α→γ} {put:α→γ→α} (h:Lens α γ q get put):Lens (α×β) γ q (λx=>get x.1) (λx y=>(put x.1 y,x.2)):=by
 refine⟨?_⟩;rintro w F cs e ⟨c1,c2,F1,F2,rfl,rfl,h1,h2⟩;obtain⟨Fa,Fm,Fc,c,rfl,hq,hm,hp⟩:=h.at_ h1;refine⟨Fa,Fm,Fc++F2,c,by simp,?_,hm,λw' F1' y ho ha hc=>?_⟩;rw[List.getElem?_append_left (DK.1 hq).1]; exact hq;exact⟨c1,c2,Fa++(F1'++Fc),F2,rfl,by simp,hp w' F1' y ho ha (hc.sub λb hb=>Dx.2 (.inl hb)),GoTy.own_mono h2 (hc.sub λb hb=>Dx.2 (.inr hb))⟩
theorem Lens.snd {q:Nat} {get:β→γ} {put:β→γ→β} (h:Lens β γ q get put):Lens (α×β) γ (GoTy.n α + q) (λx=>get x.2) (λx y=>(x.1,put x.2 y)):=by
 refine⟨?_⟩;rintro w F cs e ⟨c1,c2,F1,F2,rfl,rfl,h1,h2⟩;obtain⟨Fa,Fm,Fc,c,rfl,hq,hm,hp⟩:=h.at_ h2;have hl:c1.length=GoTy.n α:=GoTy.len (GoTy.own_rep h1);refine⟨F1++Fa,Fm,Fc,c,by simp,?_,hm,λw' F1' y ho ha hc=>?_⟩;rw[List.getElem?_append_right (by omega),hl,Hj]; exact hq;exact⟨c1,c2,F1,Fa++(F1'++Fc),rfl,by simp,GoTy.own_mono h1 (ha.sub λb hb=>Dx.2 (.inl hb)),hp w' F1' y ho (ha.sub λb hb=>Dx.2 (.inr hb)) hc⟩
end
end AT
namespace AT
open Go Go.RowKit
def Rd (P:Program) (t:TypeId) (α:Type) [GoTy α] (ok:α→Prop):Prop :=
  ∀(H:Type) (enc:TypeId×Value→H) (w:World) (base:Nat) (spare:Nat→Bool) (held:Bool) (fuel:Nat) (cs:List Value) (x:DataW H×List MemPlace),
    DataW.trod enc P w base spare held fuel t cs=some x→∃y:α,GoTy.rep w (λ_=>True) cs y∧ok y
theorem ko {α:Type} (P:Nat→α→Prop):∀n,(∀i,i<n→∃x,P i x)→∃l:List α,l.length=n∧∀i x,l[i]?=some x→P i x
  | 0,_=>⟨[],rfl,by simp⟩
  | n + 1,h=>by
    obtain⟨l,hl,hp⟩:=ko P n (λi hi=>h i (by omega))
    obtain⟨x,hx⟩:=h n (by omega)
    refine⟨l++[x],by simp [hl],λi y hy=>?_⟩
    rw[EF]at hy
    split at hy
    · exact hp i y hy
    · rename_i hi
      have:i=n:=by
        have h1:=(DK.1 hy).1
        simp at h1; omega
      subst this
      rw[hl,Hy]at hy
      simp at hy
      subst hy; exact hx
variable {P:Program} {t e:TypeId} {α:Type} [GoTy α]
theorem w7 {ok:α→Prop} (ht:P.underlying t=some (.slice e)) (hn:P.cellsOf e=GoTy.n α) (he:Rd P e α ok) :
    Rd P t (List α) (λl=>(∀x∈l,ok x)∧l.length≤9223372036854775807):=by
 intro H enc w base spare held fuel cs x h;rcases Go.Deep.open_slice ht h with ⟨rfl,-⟩ | ⟨a,len,cap,m,n,D,Pl,rfl,-,hl,hm,hmm,-,hi⟩
 exact⟨[],oY,by simp⟩;have hel:∀i,i<len→∃y:α,(ElemAt α w (λ_=>True) a i y)∧ok y:=by
   intro i hlt
   obtain⟨cs',hc,ht'⟩:=hi i (by rw[hmm]; split <;> omega)
   obtain⟨y,hr,ho⟩:=he H enc w base spare held n cs' _ ht'
   refine⟨y,⟨cs',λj c hj=>?_,hr⟩,ho⟩
   obtain⟨_,hcl,hat⟩:=World.cells?_some hc
   have hj':j<P.cellsOf e:=by
     have:=(DK.1 hj).1
     rw[GoTy.len hr,←hn]at this; exact this
   have h1:=hat j hj'
   rw[hj,add_add,hn]at h1
   exact h1
 obtain⟨l,hll,hp⟩:=ko _ len hel;subst hll;refine⟨l,⟨some a,cap,rfl,hl,hm,λi x hx=>⟨a,rfl,trivial,(hp i x hx).1⟩⟩,λx hx=>?_,by simp only[maxLen]at hm; omega⟩;obtain⟨i,hi'⟩:=FN.1 hx;exact (hp i x hi').2
theorem w6 {ok:α→Prop} (hr:Rd P t α ok) (ha:GoTy.agg α=false) {H:Type} {enc:TypeId×Value→H} {w:World} {base:Nat} {spare:Nat→Bool} {held:Bool} {v:Value} {d:DataW H} {p:List MemPlace}
    (hv:v.cells=#[v]) (h:DataW.Trod enc P w base spare held t v d p):∃y:α,VR w (λ_=>True) v y∧ok y:=by
 obtain⟨fuel,hf⟩:=h;obtain⟨y,hy,ho⟩:=hr H enc w base spare held fuel _ _ hf;exact⟨y,⟨_,hy,by rw[ha,hv]; rfl⟩,ho⟩
theorem oE {w:World} {r:Reach} {base:Nat} {v:Value} (ht:P.underlying t=some (.slice e)) (h:Value.okWide P w r base t v):v.cells=#[v]:=by
 obtain⟨a,l,c,rfl⟩:=Go.WideShapes.okWide_slice ht h; rfl
theorem ai {a b:Bool} (h:a=true) (k:b=true):(a&&b)=true:=by rw[h,k]; rfl
theorem cW:∀(p:List Char) (_:p.all (· != (Char.ofNat (nat_lit 32)))=true) (r:List Char),wordsSigns (p++(Char.ofNat (nat_lit 32))::r)=p::wordsSigns r
  | [],_,_=>rfl
  | c::p,h,r=>by
    simp only[Hv,DC,bne_iff_ne]at h
    have ih:=cW p h.2 r
    rw[FZ,wordsSigns,ih]
    exact h.1
theorem Aj (P : Program) (sum r : List Char) (h : P.initOrder = String.ofList ("harness".toList ++ (Char.ofNat (nat_lit 32)) :: (sum ++ (Char.ofNat (nat_lit 32)) :: ("cut".toList ++ (Char.ofNat (nat_lit 32)) :: r))))
    (h1 : isSumSigns sum = true) (h2 : sum.all (· != (Char.ofNat (nat_lit 32))) = true) : behindMainWord (wordsSigns P.initOrder.toList) = "cut".toList :: wordsSigns r := by
 rw[h,String.toList_ofList,cW _ (by decide +kernel),cW _ h2,cW _ (by decide +kernel)]
 show (if (("harness".toList == "harness".toList || _) && isSumSigns sum) = true then _ else _) = _
 rw[h1]; simp
theorem Ae {R} (h : behindMainWord (wordsSigns P.initOrder.toList) = "cut".toList :: R) : P.make = some .cut := by
 unfold Program.make; rw[h]; rfl
theorem tA {R} (h : behindMainWord (wordsSigns P.initOrder.toList) = "cut".toList :: R) : P.liftsFinal = false := by
 unfold Program.liftsFinal Program.headLifts; rw[h]; rfl
theorem tN {R} (h : behindMainWord (wordsSigns P.initOrder.toList) = "cut".toList :: R) (a : P.laysLater = false) (b : P.bearsReflect = false) (c : P.doorRows.isEmpty = true) : P.mayEnter = true := by
 have e : stripLifts liftWords ("cut".toList :: R) = ([], "cut".toList :: R) := rfl
 have c':P.doorRows=[]:=List.isEmpty_iff.mp c
 unfold Program.mayEnter; rw[h]; simp only[e,a,b,Program.doorFits,c']
 cases R <;> rfl
end AT
namespace AT
open Go Go.RowKit
section
variable {P:Program} {md:Region.Mode} {ops:Array Oper} {Q:Exit→Act→World→Prop} {S:World→Prop} {B:List Nat}
def nb (B:List Nat) (listed:Array Bool):Bool:=B.all λb=>!listed.getD b true
def wpL (P:Program) (md:Region.Mode) (ops:Array Oper) (Q:Exit→Act→World→Prop) (S:World→Prop) (B:List Nat):Nat→Array Bool→Act→World→Prop
  | 0,listed,a,w=>Region.ready md ops listed=[]∧Q .normal a w
  | fuel + 1,listed,a,w=>(Region.ready md ops listed=[]→Q .normal a w) ∧
    ∀i∈Region.ready md ops listed,wpOp P ops Q i (λa' w'=>(nb B (listed.setIfInBounds i true)=true→S w')∧wpL P md ops Q S B fuel (listed.setIfInBounds i true) a' w') a w
theorem jj:∀(fuel:Nat) (listed:Array Bool) (a:Act) (w:World),wpL P md ops Q S B fuel listed a w→wpAny P md ops Q fuel listed a w
  | 0,_,_,_,h=>h
  | fuel + 1,_,_,_,h=>⟨h.1,λi hi=>wpOp_mono (λa' w' h'=>jj fuel _ a' w' h'.2) (h.2 i hi)⟩
variable {i:Nat}
theorem i9 {l:Array Bool} {j:Nat} (h:j≠i):(l.setIfInBounds j true).getD i true=l.getD i true:=getD_set_ne true h
theorem wB (hi:i∉B) (l:Array Bool):nb B (l.setIfInBounds i true)=nb B l:=by
 have h:∀b∈B,(l.setIfInBounds i true).getD b true=l.getD b true:=λb hb=>i9 λe=>hi (e▸hb);rw[Ej];unfold nb;simp only[Eo];exact⟨λg b hb=>by rw[←h b hb]; exact g b hb,λg b hb=>by rw[h b hb]; exact g b hb⟩
theorem qF {oi:Oper} {v:Value} (S0:World→Prop) (X:List Nat) (hi:ops[i]?=some oi) (hsel:∀(j:Nat) (o:Oper) cs b,ops[j]?=some o→o.op≠.select cs b)
    (hQ:∀c a w,Q (.panic c) (a.put oi.dst v) w→Q (.panic c) a w)
    (hX:∀j oj,j∈X→j≠i→ops[j]?=some oj→∃e∈oj.after,Region.binds md e=true∧e.on∈X) (hiB:i∉B) (hBX:(∀w,S0 w)∨((∀b∈B,b∈X)∧∀w,S w→S0 w)) :
    ∀(fuel:Nat) (listed:Array Bool) (a:Act) (w:World),
      (∀j oj,ops[j]?=some oj→j≠i→listed.getD j true=false→(∀e∈oj.after,Region.binds md e=true→e.on≠i)→oi.apart ops oj=true) →
      (∀x∈X,listed.getD x true=false)→i∈Region.ready md ops listed→YieldsIf P ops S0 oi v a→S0 w→(nb B listed=true→S w) →
      wpL P md ops Q S B fuel (listed.setIfInBounds i true) (a.put oi.dst v) w→wpL P md ops Q S B (fuel + 1) listed a w:=by
 intro fuel;have hnb:∀(listed:Array Bool),nb B (listed.setIfInBounds i true)=true→nb B listed=true:=λlisted h=>by rwa [wB hiB]at h
 induction fuel with
 | zero =>
   intro listed a w _ _ hr hy hS0 hS H
   refine⟨λh=>(by rw[h]at hr; cases hr),λj hj=>?_⟩
   by_cases hji:j=i
   · subst hji; exact hy.wpOp hi hS0 ⟨λh=>hS (hnb _ h),H⟩
   · have:=ready_mono hj hji
     rw[H.1]at this
     cases this
 | succ fuel ih =>
   intro listed a w hfree hXu hr hy hS0 hS H
   refine⟨λh=>(by rw[h]at hr; cases hr),λj hj=>?_⟩
   by_cases hji:j=i
   · subst hji; exact hy.wpOp hi hS0 ⟨λh=>hS (hnb _ h),H⟩
   · have h1:=H.2 j (ready_mono hj hji)
     obtain⟨hjun,oj,hoj,hall⟩:=mem_ready.1 hj
     have hlisted:∀k,k<listed.size∨True:=λ_=>.inr trivial
     have hnot:∀e∈oj.after,Region.binds md e=true→listed.getD e.on true=false→False:=λe he hb h0=>by
       have h1:=hall e he hb
       rcases Fl e.on listed.size with h' | h'
       · simp [h']at h0 h1; rw[h0]at h1; cases h1
       · simp [EQ h']at h1
     have hnoti:∀e∈oj.after,Region.binds md e=true→e.on≠i:=λe he hb heq=>hnot e he hb (by rw[heq]; exact (mem_ready.1 hr).1)
     have hjX:j∉X:=λh=>by
       obtain⟨e,he,hb,heX⟩:=hX j oj h hji hoj
       exact hnot e he hb (hXu _ heX)
     have h2:=wpOp_putIf hoj (hfree j oj hoj hji hjun hnoti) (λcs b=>hsel i oi cs b hi) (λcs b=>hsel j oj cs b hoj) hQ hy h1
     have hfree':∀k ok,ops[k]?=some ok→k≠i→(listed.setIfInBounds j true).getD k true=false →
         (∀e∈ok.after,Region.binds md e=true→e.on≠i)→oi.apart ops ok=true:=λk ok hk hki hun hno=>by
       refine hfree k ok hk hki ?_ hno
       by_cases hjk:j=k
       · subst hjk; exact hjun
       · rw[getD_set_ne true hjk]at hun; exact hun
     refine wpOp_mono (λa' w' h3=>?_) h2
     obtain⟨h4,h5,h6⟩:=h3
     have hS':nb B (listed.setIfInBounds j true)=true→S w':=λh=>h5 (by rw[G8 _ _ (Ne.symm hji),wB hiB]; exact h)
     refine⟨hS',ih (listed.setIfInBounds j true) a' w' hfree' (λx hx=>?_) (ready_mono hr (Ne.symm hji)) h4 ?_ hS' ?_⟩
     · rw[i9 (λe=>hjX (by rw[e]; exact hx))]; exact hXu x hx
     · rcases hBX with hall0 | ⟨hBX,hSS⟩
       · exact hall0 w'
       · refine hSS w' (hS' ?_)
         unfold nb
         rw[Eo]
         intro b hb
         rw[i9 (λe=>hjX (by rw[e]; exact hBX b hb))]
         rcases Fl b listed.size with h' | h'
         · have:=hXu b (hBX b hb); simp [h']at this ⊢; exact this
         · have:=hXu b (hBX b hb); simp [h']at this
     · rw[G8 _ _ hji]
       exact h6
end
section
variable {P:Program} {S:World→Prop} {B:List Nat} {l:List Oper} {bs bs':List Bool} {a:Act} {w:World} {n fuel d i:Nat} {L:List (Nat×Value)} {Mid:Act→World→Prop} {Q:Exit→Act→World→Prop} {o:Oper} {v:Value}
def only (Mid:Act→World→Prop):Exit→Act→World→Prop:=λe a w=>e=.normal∧Mid a w
abbrev DL (P:Program) (l:List Oper) (Mid:Act→World→Prop) (S:World→Prop) (B:List Nat) (fuel:Nat) (bs:List Bool) (a:Act) (w:World):Prop:=wpL P .any l.toArray (only Mid) S B fuel bs.toArray a w
theorem drawn {id:Nat} (B:List Nat) (hm:P.follows .mixedOrders=true) (hb:List.replicate l.length false=bs) (hn:l.length=fuel) (h:∀w1,Below w.heap.size w w1→DL P l (λa w=>Q .normal a w) (λ_=>True) B fuel bs a w1):(Code.region id l.toArray true).wp P Q a w:=by
 have h1:(Code.region id l.toArray true).wp P (only λa w=>Q .normal a w) a w:=wp_region_any hm (jj (S:=λ_=>True) (B:=B) _ _ _ _ (by
   have e1:l.toArray.size=fuel:=by simpa using hn
   have e2:Array.replicate l.toArray.size false=bs.toArray:=by rw[←hb]; simp
   rw[e2,e1]; exact h _ ((Below.refl _ _).drew)))
 exact Code.wp_mono (λe a w q=>by obtain⟨rfl,q⟩:=q; exact q) h1
theorem qE {md:Region.Mode} {ops:Array Oper} {S S':World→Prop} (hs:∀w,S' w→S w):∀(fuel:Nat) (listed:Array Bool) (a:Act) (w:World),wpL P md ops Q S' B fuel listed a w→wpL P md ops Q S B fuel listed a w
  | 0,_,_,_,h=>h
  | fuel + 1,_,_,_,h=>⟨h.1,λi hi=>wpOp_mono (λa' w' h'=>⟨λhn=>hs _ (h'.1 hn),qE hs fuel _ a' w' h'.2⟩) (h.2 i hi)⟩
theorem str (S':World→Prop) (hs:∀w,S' w→S w) (h:DL P l Mid S' B fuel bs a w):DL P l Mid S B fuel bs a w:=qE hs _ _ _ _ h
def takeB (l:List Oper) (bs:List Bool) (i:Nat) (X B:List Nat):Bool :=
  Region.noSelect l.toArray&&(Region.free .any l.toArray bs.toArray i&&((Region.ready .any l.toArray bs.toArray).contains i&&(X.all (λx=>!bs.getD x true)&&(X.all (λj=>j==i||(match l[j]? with | some oj=>oj.after.any (λe=>Region.binds .any e&&X.contains e.on) | none=>true))&&!B.contains i))))
theorem fA (hb:bs.set i true=bs'):bs.toArray.setIfInBounds i true=bs'.toArray:=by subst hb; simp
theorem pI {S0:World→Prop} (X:List Nat) (hi:l[i]?=some o) (hd:o.dst=some d) (hdn:d<n) (hf:Fr a n L) (hc:takeB l bs i X B=true) (hBX:(∀w,S0 w)∨((∀b∈B,b∈X)∧∀w,S w→S0 w)) (hS0:S0 w) (hS:nb B bs.toArray=true→S w)
    (hy:YieldsIf P l.toArray S0 o v a) (hb:bs.set i true=bs') (h:∀a',Fr a' n ((d,v)::L)→DL P l Mid S B fuel bs' a' w):DL P l Mid S B (fuel + 1) bs a w:=by
 unfold takeB at hc;simp only[DC]at hc;obtain⟨h1,h2,h3,h4,h5,h6⟩:=hc;have hi':l.toArray[i]?=some o:=by simpa using hi
 refine qF S0 X hi' (Region.noSelect_spec h1) (λc a w q=>by cases q.1) (λj oj hj hji hoj=>?_) (by simpa using h6) hBX fuel bs.toArray a w (Region.free_spec hi' h2) (λx hx=>?_) (by simpa using h3) hy hS0 hS ?_
 have:=Eo.1 h5 j hj;have hoj':l[j]?=some oj:=by simpa using hoj
 rw[hoj']at this;simp only[Fv,beq_iff_eq,hji,false_or,Array.any_eq_true,DC]at this;obtain⟨q,hq,h7,h8⟩:=this;exact⟨_,Array.getElem_mem hq,h7,by simpa using h8⟩;have:=Eo.1 h4 x hx;simp only[D9,List.getD_eq_getElem?_getD]at this;simpa using this;rw[fA hb,hd];exact h _ (hf.put hdn v)
theorem tkP (hi:l[i]?=some o) (hd:o.dst=some d) (hg:o.guard=none) (hdn:d<n) (hf:Fr a n L) (hc:takeB l bs i [] B=true) (hS:nb B bs.toArray=true→S w) (hy:∀w,(execOp a.eval o).run P w=.ok (.value v) w) (hb:bs.set i true=bs')
    (h:∀a',Fr a' n ((d,v)::L)→DL P l Mid S B fuel bs' a' w):DL P l Mid S B (fuel + 1) bs a w :=
  pI (S0:=λ_=>True) [] hi hd hdn hf hc (.inl λ_=>trivial) trivial hS (.inl ⟨by simp [Region.wanted,hg],λw _=>hy w⟩) hb h
theorem tkS (X:List Nat) (hi:l[i]?=some o) (hd:o.dst=some d) (hg:o.guard=none) (hdn:d<n) (hf:Fr a n L) (hc:takeB l bs i X B=true) (hBX:(B.all (X.contains ·))=true) (hS:S w) (hy:∀w,S w→(execOp a.eval o).run P w=.ok (.value v) w) (hb:bs.set i true=bs')
    (h:∀a',Fr a' n ((d,v)::L)→DL P l Mid S B fuel bs' a' w):DL P l Mid S B (fuel + 1) bs a w :=
  pI (S0:=S) X hi hd hdn hf hc (.inr ⟨λb hb=>by simpa using Eo.1 hBX b hb,λ_ h=>h⟩) hS (λ_=>hS) (.inl ⟨by simp [Region.wanted,hg],hy⟩) hb h
variable {j e:Nat} {b:Bool} {ops:Array Oper}
theorem tkPg (hi:l[i]?=some o) (hd:o.dst=some d) (hg:o.guard=some (j,b)) (hj:(l[j]?).bind (·.dst)=some e) (hv:lk L e=some (.bool b)) (hdn:d<n) (hf:Fr a n L) (hc:takeB l bs i [] B=true) (hS:nb B bs.toArray=true→S w) (hy:∀w,(execOp a.eval o).run P w=.ok (.value v) w) (hb:bs.set i true=bs')
    (h:∀a',Fr a' n ((d,v)::L)→DL P l Mid S B fuel bs' a' w):DL P l Mid S B (fuel + 1) bs a w :=
  pI (S0:=λ_=>True) [] hi hd hdn hf hc (.inl λ_=>trivial) trivial hS (.inl ⟨by simp [Region.wanted,hg,dJ (ops:=l.toArray) hf (by simpa using hj) hv],λw _=>hy w⟩) hb h
theorem tkSg (X:List Nat) (hi:l[i]?=some o) (hd:o.dst=some d) (hg:o.guard=some (j,b)) (hj:(l[j]?).bind (·.dst)=some e) (hv:lk L e=some (.bool b)) (hdn:d<n) (hf:Fr a n L) (hc:takeB l bs i X B=true) (hBX:(B.all (X.contains ·))=true) (hS:S w) (hy:∀w,S w→(execOp a.eval o).run P w=.ok (.value v) w) (hb:bs.set i true=bs')
    (h:∀a',Fr a' n ((d,v)::L)→DL P l Mid S B fuel bs' a' w):DL P l Mid S B (fuel + 1) bs a w :=
  pI (S0:=S) X hi hd hdn hf hc (.inr ⟨λb hb=>by simpa using Eo.1 hBX b hb,λ_ h=>h⟩) hS (λ_=>hS) (.inl ⟨by simp [Region.wanted,hg,dJ (ops:=l.toArray) hf (by simpa using hj) hv],hy⟩) hb h
theorem hP (hf:Fr a n L) {j d:Nat} (hj:(ops[j]?).bind (·.dst)=some d) (hb:lk L d=some undef):yielded ops a.tmps j=none:=by
 unfold yielded;simp [hj,hf.get d _ hb,undef]
theorem wlsu {rest:List Oper} (hf:Fr a n L) (hg:o.guard=some (j,b)) (hj:(ops[j]?).bind (·.dst)=some d) (hb:lk L d=some undef)
    (hd:o.dst=some e) (hdn:e<n) (h:∀a',Fr a' n ((e,undef)::L)→wpList P ops Q rest a' w):wpList P ops Q (o::rest) a w:=by
 unfold wpList;rw[if_neg (by simp [Region.wanted,hg,hP hf hj hb])];rw[hd];exact h _ (hf.put hdn undef)
theorem tkUU (hi:l[i]?=some o) (hd:o.dst=some d) (hg:o.guard=some (j,b)) (hj:(l[j]?).bind (·.dst)=some e) (hv:lk L e=some undef) (hdn:d<n) (hf:Fr a n L) (hc:takeB l bs i [] B=true) (hS:nb B bs.toArray=true→S w) (hb:bs.set i true=bs')
    (h:∀a',Fr a' n ((d,undef)::L)→DL P l Mid S B fuel bs' a' w):DL P l Mid S B (fuel + 1) bs a w :=
  pI (S0:=λ_=>True) (v:=undef) [] hi hd hdn hf hc (.inl λ_=>trivial) trivial hS (.inr ⟨by simp [Region.wanted,hg,hP (ops:=l.toArray) hf (by simpa using hj) hv],rfl⟩) hb h
theorem tkU {c:Bool} (hi:l[i]?=some o) (hd:o.dst=some d) (hg:o.guard=some (j,b)) (hj:(l[j]?).bind (·.dst)=some e) (hv:lk L e=some (.bool c)) (hne:(c==b)=false) (hdn:d<n) (hf:Fr a n L) (hc:takeB l bs i [] B=true) (hS:nb B bs.toArray=true→S w) (hb:bs.set i true=bs')
    (h:∀a',Fr a' n ((d,undef)::L)→DL P l Mid S B fuel bs' a' w):DL P l Mid S B (fuel + 1) bs a w :=
  pI (S0:=λ_=>True) (v:=undef) [] hi hd hdn hf hc (.inl λ_=>trivial) trivial hS (.inr ⟨by simp [Region.wanted,hg,dJ (ops:=l.toArray) hf (by simpa using hj) hv]; simpa using hne,rfl⟩) hb h
theorem on1 (hr:Region.ready .any l.toArray bs.toArray=[i]) (hi:l[i]?=some o) (hg:o.guard=none) (hb:bs.set i true=bs')
    (h:o.wp P a w (λa' w'=>(nb B bs'.toArray=true→S w')∧DL P l Mid S B fuel bs' a' w') (only Mid)):DL P l Mid S B (fuel + 1) bs a w:=by
 refine⟨λh0=>(by rw[hr]at h0; cases h0),λj hj=>?_⟩
 rw[hr,DU]at hj;subst hj;unfold wpOp;have hi':l.toArray[j]?=some o:=by simpa using hi
 simp only[hi',Region.wanted,hg];rw[fA hb];exact .inl h
theorem on1g (hr:Region.ready .any l.toArray bs.toArray=[i]) (hi:l[i]?=some o) (hg:o.guard=some (j,b)) (hj:(l[j]?).bind (·.dst)=some e) (hv:lk L e=some (.bool b)) (hf:Fr a n L) (hb:bs.set i true=bs')
    (h:o.wp P a w (λa' w'=>(nb B bs'.toArray=true→S w')∧DL P l Mid S B fuel bs' a' w') (only Mid)):DL P l Mid S B (fuel + 1) bs a w:=by
 refine⟨λh0=>(by rw[hr]at h0; cases h0),λq hq=>?_⟩
 rw[hr,DU]at hq;subst hq;unfold wpOp;have hi':l.toArray[q]?=some o:=by simpa using hi
 have hw:Region.wanted o (yielded l.toArray a.tmps)=true:=by simp [Region.wanted,hg,dJ (ops:=l.toArray) hf (by simpa using hj) hv]
 simp only[hi',hw,if_true];rw[fA hb];exact .inl h
theorem uB {w0:Base} {S:Nat→Prop} {M:List Blk} {R:List Row} {D:List DI} {I:List (Bool×MP)} (H:Mem w0 S M R D I w) {α:Type} [GoTy α] {T E:TypeId} (hT:P.underlying T=some (.slice E)) (hE:SZ P E (GoTy.n α)) {A:Option Addr} {len cap:Nat} {i:Int} {xs:List α} {e:α} {f:Bool}
    (j:Nat) (hi:I[j]?=some (f,MP.val [.slice A len cap] xs)) (he:idx xs i=some e) :
    ∃b o cs,(∀w' k,(Instr.indexAt T (.slice A len cap) (.int k i)).run P w'=.ok (.pointer (some ⟨b,o,none⟩)) w')∧GoTy.rep w (St w0 S M R D f) cs e∧Mem w0 S M R D ((f,MP.cells ⟨b,o,none⟩ cs)::I) w:=by
  obtain⟨A',cap',hcs,hlc,hcm,hel⟩:lrep w (St w0 S M R D f) [.slice A len cap] xs:=H.get j hi;obtain⟨h0,hl,hg⟩:=ke he;simp only[Eu,Value.slice.injEq,and_true]at hcs;obtain⟨rfl,rfl,rfl⟩:=hcs;obtain⟨p,rfl,hp,cs,hc,hr⟩:=hel _ _ hg;have hlt:p.block<w.heap.size:=ElemAt.lt (S:=St w0 S M R D f) (i:=i.toNat) (x:=e) ⟨cs,hc,hr⟩;have hlen:=GoTy.len hr;have hpos:=GoTy.pos (α:=α);have hq:p.add (i.toNat * GoTy.n α)=⟨p.block,(p.add (i.toNat * GoTy.n α)).off,none⟩:=by
    have h0:=hc 0 _ (Dy (by omega))
    rw[Ez]at h0
    have hs:(p.add (i.toNat * GoTy.n α)).spot=none:=by
      unfold World.cell? at h0
      cases hsp:(p.add (i.toNat * GoTy.n α)).spot with
      | none=>rfl
      | some s =>
        rw[hsp]at h0
        split at h0 <;> simp at h0
    rw[←block_add p (i.toNat * GoTy.n α)]
    generalize p.add (i.toNat * GoTy.n α)=q at hs
    cases q; simp only at hs; subst hs; rfl
  refine⟨p.block,(p.add (i.toNat * GoTy.n α)).off,cs,λw' k=>?_,hr,H.push _ ⟨hp,hlt,λq c hq'=>by rw[←hq,add_add]; exact hc q c hq'⟩⟩;rw[←hq];exact run_indexAt (P:=P) (w:=w') (cap:=cap) hT hE h0 hl (p:=p) (k:=k)
theorem ux {T:TypeId} {x y:Operand} {u r:Value} {dst:Option Tmp} {ty:TypeId} {pos:String} {af:Array Edge} {g:Option (Nat×Bool)} (hf:Fr a n L) (hx:ev L x=some u) (hy:ev L y=some v) {k:IntKind} {i:Int} (hv:v=.int k i) (h:∀w' k,(Instr.indexAt T u (.int k i)).run P w'=.ok r w') :
    ∀w,(execOp a.eval ⟨dst,.indexAddr T x y,ty,pos,af,g⟩).run P w=.ok (.value r) w:=by
 intro w;subst hv;simp [execOp,hf.eval hx,hf.eval hy,h]
theorem dn (hr:Region.ready .any l.toArray bs.toArray=[]) (h:Mid a w):DL P l Mid S B fuel bs a w:=by
 cases fuel with
 | zero=>exact⟨hr,rfl,h⟩
 | succ k=>exact⟨λ_=>⟨rfl,h⟩,by rw[hr]; simp⟩
end
end AT
