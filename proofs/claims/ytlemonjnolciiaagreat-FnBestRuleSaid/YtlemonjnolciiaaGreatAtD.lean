/- What a function does with rows: literals, append, reading, writing, handing on. -/
import Derived.Test.YtlemonjnolciiaaGreatAtR
import Derived.Deep.Slices
import Derived.ProofKit
import Derived.OpenShut
set_option linter.unusedSimpArgs false
set_option linter.unusedVariables false
namespace AT
open Go Go.RowKit
section
def AI (P:Program) (E:TypeId) (n:Nat) (z:Value) (bytes:Nat):Prop:=(P.info? E).map (λi=>(i.zero,i.size,i.bytes))=some (some z,n,bytes)
section
variable {P:Program} {Q:Exit->r_} {a:Act} {w:World} {w0:Base} {n:Nat} {L:g_} {K:r_}
variable {S:w_} {M:List Blk} {R:List Row} {D:List DI} {I:List (Bool×MP)} {dst:Option Tmp} {d:Nat} {ty:TypeId} {pos:String} {af:Array Edge} {g:x_}
theorem pL {r:Res} {b:Nat}:∀{Z:List Res},(allZ Z).Nodup->r∈Z->b∈r.fd->b∉V0 Z
 | [],_,h,_=>by cases h
 | q::Z,hn,hr,hb=>by
  have hn':(q.all++allZ Z).Nodup:=hn
  obtain⟨h1,h2,h3⟩:=GZ.1 hn'
  intro h
  have h':b∈q.fm++V0 Z:=h
  rcases Hf.1 hr with rfl | hr
  · rcases GI.1 h' with h | h
    · exact (GZ.1 h1).2.2 b h b hb rfl
    · exact h3 b (GI.2 (.inr hb)) b (dZ h) rfl
  · rcases GI.1 h' with h | h
    · exact h3 b (GI.2 (.inl h)) b (Hr.2 ⟨r,hr,GI.2 (.inr hb)⟩) rfl
    · exact pL h2 hr hb h
theorem MemZ.fd_st {Z:List Res} (H:MemZ w0 S Z I w) {r:Res} (hr:r∈Z) {b:Nat} (hb:b∈r.fd) (f:Bool):D0 w0 S Z f b :=
 .inr ⟨(H.lt b (Hr.2 ⟨r,hr,GI.2 (.inr hb)⟩)).1,pL H.nd hr hb⟩
theorem ql {r:Row} (hr:r∈R):r.res∈zs M R D:=GI.2 (.inr (GI.2 (.inl (Hy.2 ⟨r,hr,rfl⟩))))
theorem DW {d:DI} (hd:d∈D):d.res∈zs M R D:=GI.2 (.inr (GI.2 (.inr (Hy.2 ⟨d,hd,rfl⟩))))
theorem O_.elRep (H:O_ w0 S M R D I w) {r:Row} (hr:r∈R) {i:Nat} {x:r.α} {cs:p_} (hi:i<r.xs.length) (hf:r.k.fits r.xs.length) (h:r.k.holds w (St w0 S M R D r.k.fresh) i cs x):GoTy.rep w (St w0 S M R D r.k.fresh) cs x:=by
 cases hk:r.k with
 | sh f=>rw[hk]at h; exact h
 | ow Fs fr =>
  rw[hk]at h hf
  have hFi:Fs[i]?=some (Fs[i]'(by rw[show Fs.length=_ from hf]; exact hi)):=GM _
  exact GoTy.mono (GoTy.own_rep (h _ hFi)) λb hb _=>⟨MemZ.fd_st H (ql hr) (by show b∈r.k.fd; rw[hk]; exact fO hFi hb) _,rfl⟩
theorem O_.freeze (H:O_ w0 S M R D I w) (i:Nat) {r:Row} (hi:R[i]?=some r):O_ w0 S M (R.eraseIdx i) D ((r.k.fresh,MP.val [r.v] r.xs)::I) w:=by
 have hmem:=GX hi;have hp:=gL (M:=M) (D:=D) hi;have H1:O_ w0 S M (R.eraseIdx i) D I w:=MemZ.step (rs:=[r.res]) (rs':=[]) (MemZ.perm H hp) (Chg.refl _ _) (λb hb=>by cases hb) (λb hb=>by cases hb) .nil (λ_ q hq=>by cases hq)
 obtain⟨cells,ho,hf,he⟩:=H.rowAtK hmem;have hsub:∀b,b∈V0 (zs M (R.eraseIdx i) D)->b∈V0 (zs M R D):=λb hb=>by
  refine (hp.flatMap_right Res.fm:(V0 _).Perm (V0 _)).mem_iff.2 ?_
  show b∈V0 _
  rw[ii]; exact GI.2 (.inr hb)
 refine H1.push _ (show lrep w _ [r.v] r.xs from nT (ek ho) (λb hb=>?_) λj x hx=>?_);refine .inr ⟨(MemZ.lt H b (Hr.2 ⟨_,ql hmem,GI.2 (.inl (by show b∈r.v.ownBlock.toList; rw[show r.v.ownBlock=some b from hb]; simp))⟩)).1,λh=>?_⟩;have h1:=MemZ.nd (MemZ.perm H hp);rw[vf,vt]at h1;exact (GZ.1 h1).2.2 b (GI.2 (.inl (by show b∈r.v.ownBlock.toList; rw[show r.v.ownBlock=some b from hb]; simp))) b (dZ h) rfl;exact GoTy.mono (H.elRep hmem (GQ.1 hx).1 hf (he j x hx)) (iy hsub _)
theorem O_.rowTrue (H:O_ w0 S M R D I w) (i:Nat) {r:Row} (hi:R[i]?=some r):lrep w (λ_=>True) [r.v] r.xs:=by
 have h:=(H.freeze i hi).get 0 (f:=(r.k.fresh,MP.val [r.v] r.xs)) rfl;exact GoTy.mono (α:=List r.α) h λb _ _=>⟨trivial,rfl⟩
theorem O_.freezeOwn (H:O_ w0 S M R D I w) (i:Nat) {α:Type} [GoTy α] {Fs:List (m_)} {E:TypeId} {A:c_} {cap:Nat} {xs:List α} (hi:R[i]?=some ⟨.ow Fs,E,A,cap,xs⟩) :
 ∃F,O_ w0 S M (R.eraseIdx i) (⟨F,MP.own F [.slice A xs.length cap] xs⟩::D) I w:=by
 have hp:=gL (M:=M) (D:=D) hi;have H1:=MemZ.perm H hp;refine⟨(Row.res ⟨.ow Fs,E,A,cap,xs⟩).all,MemZ.perm (MemZ.step (rs:=[Row.res ⟨.ow Fs,E,A,cap,xs⟩]) (rs':=[DI.res ⟨_,MP.own _ _ xs⟩]) H1 (Chg.refl _ _) (λb hb=>.inl ?_) (λb hb=>?_) ?_ (λ_ q hq=>?_)) (zK _).symm⟩;rw[vt]at hb ⊢;simpa [Res.all,DI.res] using hb;rw[cm]at hb; cases hb
 have h1:=MemZ.nd H1;rw[vf,vt]at h1;rw[vt]; simpa [Res.all,DI.res] using (GZ.1 h1).1;rw[GR]at hq; subst hq;obtain⟨cells,ho,hf,he⟩:=H.rowAt (GX hi);refine⟨⟨⟨A,cap,E,cells,Fs,rfl,ho,rfl,hf,λj x Fi hx hFi=>he j x hx Fi hFi⟩,λb hb=>hb⟩,λb hb=>?_⟩;exact (MemZ.lt H1 b (by rw[vf,vt]; exact GI.2 (.inl hb))).2
theorem O_.freezeTl (H:O_ w0 S M R D I w) (i:Nat) {α:Type} [GoTy α] {Fs:List (m_)} {E:TypeId} {A:c_} {cap:Nat} {xs:List α} (hi:R[i]?=some ⟨.ow Fs true,E,A,cap,xs⟩) :
 ∃F,O_ w0 S M (R.eraseIdx i) (⟨F,MP.own F [.slice A xs.length cap] (Tl.mk xs)⟩::D) I w:=by
 have hp:=gL (M:=M) (D:=D) hi;have H1:=MemZ.perm H hp;refine⟨(Row.res ⟨.ow Fs true,E,A,cap,xs⟩).all,MemZ.perm (MemZ.step (rs:=[Row.res ⟨.ow Fs true,E,A,cap,xs⟩]) (rs':=[DI.res ⟨_,MP.own _ _ (Tl.mk xs)⟩]) H1 (Chg.refl _ _) (λb hb=>.inl ?_) (λb hb=>?_) ?_ (λ_ q hq=>?_)) (zK _).symm⟩;rw[vt]at hb ⊢;simpa [Res.all,DI.res] using hb;rw[cm]at hb; cases hb
 have h1:=MemZ.nd H1;rw[vf,vt]at h1;rw[vt]; simpa [Res.all,DI.res] using (GZ.1 h1).1;rw[GR]at hq; subst hq;obtain⟨cells,ho,hf,he⟩:=H.rowAtK (GX hi);refine⟨⟨⟨A,cap,E,cells,Fs,rfl,ho,rfl,hf,λj x Fi hx hFi=>he j x hx Fi hFi⟩,λb hb=>hb⟩,λb hb=>?_⟩;exact (MemZ.lt H1 b (by rw[vf,vt]; exact GI.2 (.inl hb))).2
theorem lZ (n:Nat):List.flatten (List.replicate n ([]:m_))=[]:=by induction n <;> simp_all [List.replicate_succ]
theorem O_.rowOwn (H:O_ w0 S M R D I w) (i:Nat) {α:Type} [GoTy α] {f:Bool} {E:TypeId} {A:c_} {cap:Nat} {xs:List α} (hfl:GoTy.flat α=true) (hi:R[i]?=some ⟨.sh f,E,A,cap,xs⟩) :
 O_ w0 S M (R.set i ⟨.ow (List.replicate xs.length []),E,A,cap,xs⟩) D I w:=by
 refine H.reRow hi ⟨⟨rfl,rfl,rfl,GV _,λ_ _ _=>rfl⟩,GV _⟩ (.inl rfl) (by show (List.flatten _).Perm []; rw[lZ]) λhm=>?_;obtain⟨cells,ho,hf,he⟩:=H.rowAt (GX hi);refine⟨cells,ho,by simp [Kd.fits],λj x hx Fi hFi=>?_⟩;have:Fi=[]:=by
  rw[IL]at hFi
  split at hFi
  · exact (GJ hFi).symm
  · cases hFi
 subst this;exact GoTy.own_flat hfl (he j x hx)
theorem O_.lend (H:O_ w0 S M R D I w) (j:Nat) {α:Type} [GoTy α] {F:m_} {cs:p_} {x:α} (hj:D[j]?=some ⟨F,MP.own F cs x⟩):O_ w0 S M R D ((true,MP.val cs x)::I) w :=
 H.push _ (GoTy.mono (GoTy.own_rep (H.diAt (GX hj)).1) λb hb _=>⟨MemZ.fd_st H (DW (GX hj)) hb _,rfl⟩)
theorem O_.frontR (H:O_ w0 S M R D I w) (i:Nat) {r:Row} (hi:R[i]?=some r):O_ w0 S M (r::R.eraseIdx i) D I w:=MemZ.perm H (nC (perm_out hi))
theorem O_.frontD (H:O_ w0 S M R D I w) (i:Nat) {d:DI} (hi:D[i]?=some d):O_ w0 S M R (d::D.eraseIdx i) I w:=MemZ.perm H (Ak (perm_out hi))
theorem iQ (X:List DI):(zs M R (X++D)).Perm (X.map DI.res++zs M R D):=by
 unfold zs;rw[I0];have h:∀(A B C E:List Res),(A++(B++(C++E))).Perm (C++(A++(B++E))):=λA B C E=>by
  have h1:(B++(C++E)).Perm (C++(B++E)):=by
   rw[<-GN,<-GN]; exact Io.append_right _
  refine (h1.append_left A).trans ?_
  rw[<-GN,<-GN C]; exact Io.append_right _
 exact h _ _ _ _
theorem eV (X:List DI):allZ (X.map DI.res)=X.flatMap DI.F:=by
 simp [allZ,List.flatMap_map,Res.all,DI.res]
theorem wN (X:List DI):V0 (X.map DI.res)=[]:=by
 induction X with
 | nil=>rfl
 | cons d X ih=>show d.res.fm++V0 (X.map DI.res)=[]; rw[ih]; rfl
theorem O_.recast {X Y:List DI} (H:O_ w0 S M R (X++D) I w) (hF:(Y.flatMap DI.F).Perm (X.flatMap DI.F)) (hY:(∀d∈X,d.p.pred w (·∈d.F))->∀d∈Y,d.p.pred w (·∈d.F)):O_ w0 S M R (Y++D) I w:=by
 have H1:=MemZ.perm H (iQ X);refine MemZ.perm (MemZ.step (rs:=X.map DI.res) (rs':=Y.map DI.res) H1 (Chg.refl _ _) (λb hb=>.inl ?_) (λb hb=>by rw[wN]at hb; cases hb) ?_ (λ_ q hq=>?_)) (iQ Y).symm
 rw[eV]at hb ⊢; exact hF.mem_iff.1 hb;have h1:=MemZ.nd H1;rw[vf]at h1;rw[eV]; refine hF.nodup_iff.2 ?_;rw[<-eV]; exact (GZ.1 h1).1;obtain⟨d,hd,rfl⟩:=Hy.1 hq;refine⟨hY (λe he=>H.diAt (GI.2 (.inl he))) d hd,λb hb=>?_⟩;refine (MemZ.lt H1 b ?_).2;rw[vf,eV];exact GI.2 (.inl (hF.mem_iff.1 (Hr.2 ⟨d,hd,hb⟩)))
theorem O_.addOwn (H:O_ w0 S M R D I w) {w':World} (hb:Below w.heap.size w w') {X:List DI} (hn:(X.flatMap DI.F).Nodup) (hX:∀d∈X,d.p.pred w' (·∈d.F)) (hl:∀b∈X.flatMap DI.F,w.heap.size<=b/\b<w'.heap.size):O_ w0 S M R (X++D) I w':=by
 refine MemZ.perm (MemZ.step (rs:=[]) (rs':=X.map DI.res) H ⟨hb.os,hb.tape,hb.output,hb.size,λk hk' _=>hb.block k hk',hb.drawn⟩ (λb h=>.inr (hl b (by rwa [eV]at h))) (λb h=>by rw[wN]at h; cases h) (by rwa [eV]) (λ_ q hq=>?_)) (iQ X).symm
 obtain⟨d,hd,rfl⟩:=Hy.1 hq;exact⟨hX d hd,λb h=>(hl b (Hr.2 ⟨d,hd,h⟩)).2⟩
def Row.tightB (r:Row):Bool:=match r.k with | .ow _ _=>true | .sh _=>GoTy.flat r.α
theorem Row.tight {r:Row} (h:r.tightB=true):r.res.tight:=by
 intro w T T' ⟨cells,ho,hf,he⟩;refine⟨cells,ho,hf,λi x hx=>?_⟩;have h1:=he i x hx;unfold Row.tightB at h;cases hk:r.k with
 | ow Fs fr=>rw[hk]at h1; exact h1
 | sh f =>
  rw[hk]at h1 h
  exact GoTy.mono (GoTy.own_rep (GoTy.own_flat h h1)) λb hb _=>by cases hb
theorem je (hR:R.all Row.tightB=true):∀q∈zs M R D,q.tight:=by
 intro q hq;rcases GI.1 hq with h | h
 obtain⟨m,_,rfl⟩:=Hy.1 h; exact m.tight;rcases GI.1 h with h | h
 obtain⟨r,hr,rfl⟩:=Hy.1 h; exact Row.tight (HH.1 hR r hr);obtain⟨d,_,rfl⟩:=Hy.1 h; exact d.tight
variable {α:Type} [GoTy α] {F:m_} {A:c_} {cs:p_} {xs:List α}
theorem O_.thaw {len cap:Nat} (H:O_ w0 S M R (⟨F,MP.own F [.slice A len cap] xs⟩::D) I w) (hR:R.all Row.tightB=true) :
 ∃Fs E,O_ w0 S M (⟨.ow Fs,E,A,cap,xs⟩::R) D [] w/\F=(Value.slice A xs.length cap).ownBlock.toList++List.flatten Fs:=by
 obtain⟨⟨A',cap',E,cells,Fs,hcs,ho,hF,hl,he⟩,-⟩:=H.diAt (d:=⟨F,MP.own F [.slice A len cap] xs⟩) (by simp);simp only[Ho,Value.slice.injEq,and_true]at hcs;obtain⟨rfl,rfl,rfl⟩:=hcs;refine⟨Fs,E,?_,hF⟩;have H1:=MemZ.perm H (zK _);have e1:allZ [Row.res ⟨.ow Fs,E,A,cap,xs⟩]=F:=by rw[vt,hF]; rfl
 have e2:∀e:DI,allZ [e.res]=e.F:=λe=>by rw[vt]; rfl
 refine MemZ.perm (MemZ.turn (rs:=[DI.res ⟨F,MP.own F [.slice A xs.length cap] xs⟩]) (rs':=[Row.res ⟨.ow Fs,E,A,cap,xs⟩]) H1 (Chg.refl _ _) (λb hb=>.inl (by rw[e1]at hb; rw[e2]; exact hb)) ?_ (je hR) (λq hq=>?_)) (aA _).symm;have h1:=MemZ.nd H1;rw[vf,e2]at h1;rw[e1]; exact (GZ.1 h1).1;rw[GR]at hq; subst hq;exact⟨cells,ho,hl,λi x hx Fi hFi=>he i x Fi hx hFi⟩
theorem O_.thawTl {len cap:Nat} (H:O_ w0 S M R (⟨F,MP.own F [.slice A len cap] (Tl.mk xs)⟩::D) I w) (hR:R.all Row.tightB=true) :
 ∃Fs E,O_ w0 S M (⟨.ow Fs true,E,A,cap,xs⟩::R) D [] w/\F=(Value.slice A xs.length cap).ownBlock.toList++List.flatten Fs:=by
 obtain⟨⟨A',cap',E,cells,Fs,hcs,ho,hF,hl,he⟩,-⟩:=H.diAt (d:=⟨F,MP.own F [.slice A len cap] (Tl.mk xs)⟩) (by simp);simp only[Ho,Value.slice.injEq,and_true]at hcs;obtain⟨rfl,rfl,rfl⟩:=hcs;refine⟨Fs,E,?_,hF⟩;have H1:=MemZ.perm H (zK _);have e1:allZ [Row.res ⟨.ow Fs true,E,A,cap,xs⟩]=F:=by rw[vt,hF]; rfl
 have e2:∀e:DI,allZ [e.res]=e.F:=λe=>by rw[vt]; rfl
 refine MemZ.perm (MemZ.turn (rs:=[DI.res ⟨F,MP.own F [.slice A xs.length cap] (Tl.mk xs)⟩]) (rs':=[Row.res ⟨.ow Fs true,E,A,cap,xs⟩]) H1 (Chg.refl _ _) (λb hb=>.inl (by rw[e1]at hb; rw[e2]; exact hb)) ?_ (je hR) (λq hq=>?_)) (aA _).symm;have h1:=MemZ.nd H1;rw[vf,e2]at h1;rw[e1]; exact (GZ.1 h1).1;rw[GR]at hq; subst hq;exact⟨cells,ho,hl,λi x hx Fi hFi=>he i x Fi hx hFi⟩
theorem qX {T:w_} {x:α} (h:GoTy.rep w T cs x):GoTy.rep w (λ_=>True) cs x:=GoTy.mono h λb _ _=>⟨trivial,rfl⟩
theorem xA {x:α} {f:Bool} (h:GoTy.rep w (St w0 S M R D f) cs x):GoTy.rep w (St w0 S M R D false) cs x:=GoTy.mono h λb hb _=>by
 refine⟨?_,rfl⟩
 rcases hb with ⟨rfl,h1,h2⟩ | h
 · exact .inl ⟨rfl,h1,h2⟩
 · exact .inr h
theorem O_.pushNil (H:O_ w0 S M R D I w) (α:Type) [GoTy α] (f:Bool):O_ w0 S M R D ((f,MP.val [.slice none 0 0] ([]:List α))::I) w :=
 H.push _ ⟨none,0,rfl,GV _,by simp [maxLen],λi x hx=>by simp at hx⟩
def evp (L:g_):List (Nat×Operand)->Option (g_)
 | []=>some []
 | (i,x)::r=>(ev L x).bind λv=>(evp L r).map ((i,v)::·)
theorem Fr.evalp (hf:Fr a n L):∀{ps:List (Nat×Operand)} {qs:g_},evp L ps=some qs->ps.map (λp=>(p.1,a.eval p.2))=qs
 | [],qs,h=>by simp [evp]at h; simp [h]
 | (i,x)::r,qs,h=>by
  simp only[evp,Ih,Ht]at h
  obtain⟨v,hv,us,hus,rfl⟩:=h
  simp [hf.eval hv,hf.evalp hus]
variable {T:w_} {news:p_} {E:TypeId} {ys:List α}
theorem K0 {cells:p_}:∀i (x:α),([]:List α)[i]?=some x->GoTy.rep w T ((cells.drop (i * GoTy.n α)).take (GoTy.n α)) x:=by intro i x h; simp at h
theorem Y_ {cells:p_} {y:α} (h:GoTy.rep w T cells y):∀i (x:α),[y][i]?=some x->GoTy.rep w T ((cells.drop (i * GoTy.n α)).take (GoTy.n α)) x:=by
 intro i x hx;cases i with
 | zero =>
  simp only[IV,Hj]at hx
  subst hx
  rw[IJ,He,HV (by rw[GoTy.len h]; exact GV _)]
  exact h
 | succ i=>simp at hx
theorem elI (ys:d_):∀i (x:Int),ys[i]?=some x->GoTy.rep w T (((ys.map (Value.int .i64)).drop (i * 1)).take 1) x:=by
 intro i x hx;show _=_;rw[Nat.mul_one,<-List.map_drop];obtain⟨hl,he⟩:=GQ.1 hx;rw[List.drop_eq_getElem_cons hl,he];rfl
theorem eL (hf:Fr a n L) (H:O_ w0 S M R D I w) {α:Type} [GoTy α] (kd:Kd) (hk0:kd.fd=[]) (E:TypeId) {T:TypeId} {m:Nat} {ps:List (Nat×Operand)} (xs:List α) (cells:p_) {qs:g_}
 (hp0:evp L ps=some qs) (hb:∀w,(Instr.buildSlice T m qs.toArray).run P w=.ok (.slice (some ⟨w.heap.size,0,none⟩) m m) (w.alloc (.cells cells.toArray E))) (hm:xs.length=m) (hmax:m<=1099511627776)
 (hlen:cells.length=m * GoTy.n α) (hfit:kd.fits m) (hel:∀i x,xs[i]?=some x->kd.holds w (St w0 S M R D kd.fresh) i (xX α cells i) x) (hdn:d<n)
 (k:∀A a' w',Fr a' n ((d,.slice A m m)::L)->O_ w0 S M (⟨kd,E,A,m,xs⟩::R) D I w'->K a' w'):Oper.wp P ⟨some d,.buildSlice T m ps.toArray,ty,pos,af,g⟩ a w K Q:=by
 have hp:=hf.evalp hp0;have h1:(execOp a.eval ⟨some d,.buildSlice T m ps.toArray,ty,pos,af,g⟩).run P w=.ok (.value (.slice (some ⟨w.heap.size,0,none⟩) m m)) (w.alloc (.cells cells.toArray E)):=by
  have e:(ps.toArray.map λp=>(p.1,a.eval p.2))=qs.toArray:=by rw[Je,hp]
  simp only[execOp]
  rw[show (ps.toArray.map λx=>match x with | (i,x)=>(i,a.eval x))=qs.toArray from e]
  simp [hb]
 unfold Oper.wp;rw[h1,Oper.upon_value];exact k _ _ _ (hf.put hdn _) (H.newRow kd hk0 E xs cells m (by omega) (by simp only[maxLen]; omega) hlen (by rw[hm]; exact hfit) hel)
theorem dy (hf:Fr a n L) {α:Type} [GoTy α] (E:TypeId) {T:TypeId} {ps:List (Nat×Operand)} {F:m_} {x:α} {cells:p_} {qs:g_} (H:O_ w0 S M R (⟨F,MP.own F cells x⟩::D) I w)
 (hp0:evp L ps=some qs) (hb:∀w,(Instr.buildSlice T 1 qs.toArray).run P w=.ok (.slice (some ⟨w.heap.size,0,none⟩) 1 1) (w.alloc (.cells cells.toArray E))) (hdn:d<n)
 (k:∀A a' w',Fr a' n ((d,.slice A 1 1)::L)->O_ w0 S M (⟨.ow [F],E,A,1,[x]⟩::R) D I w'->K a' w'):Oper.wp P ⟨some d,.buildSlice T 1 ps.toArray,ty,pos,af,g⟩ a w K Q:=by
 have hp:=hf.evalp hp0;have h1:(execOp a.eval ⟨some d,.buildSlice T 1 ps.toArray,ty,pos,af,g⟩).run P w=.ok (.value (.slice (some ⟨w.heap.size,0,none⟩) 1 1)) (w.alloc (.cells cells.toArray E)):=by
  have e:(ps.toArray.map λp=>(p.1,a.eval p.2))=qs.toArray:=by rw[Je,hp]
  simp only[execOp]
  rw[show (ps.toArray.map λx=>match x with | (i,x)=>(i,a.eval x))=qs.toArray from e]
  simp [hb]
 unfold Oper.wp;rw[h1,Oper.upon_value];refine k _ _ _ (hf.put hdn _) ?_;have hd:=(H.diAt (d:=⟨F,MP.own F cells x⟩) (by simp)).1;have hlen:cells.length=GoTy.n α:=GoTy.len (GoTy.own_rep hd);have H1:=MemZ.perm H (zK _);have hnd:=MemZ.nd H1;rw[vf,vt]at hnd;have hFn:F.Nodup:=by simpa [Res.all,DI.res] using (GZ.1 hnd).1
 have hFl:∀b∈F,b<w.heap.size:=λb hb=>(MemZ.lt H1 b (by rw[vf,vt]; exact GI.2 (.inl (GI.2 (.inr hb))))).2;have e2:(Row.res ⟨.ow [F],E,some ⟨w.heap.size,0,none⟩,1,[x]⟩).all=w.heap.size::F:=by
  show [w.heap.size]++List.flatten [F]=_
  simp
 refine MemZ.perm (MemZ.step (rs':=[Row.res ⟨.ow [F],E,some ⟨w.heap.size,0,none⟩,1,[x]⟩]) H1 (Chg.alloc _ _ _) (λb hb=>?_) (λb hb=>?_) ?_ (λhm q hq=>?_)) (aA _).symm
 · rw[vt,e2]at hb
   rw[vt]
   rcases Hf.1 hb with rfl | h
   · exact .inr ⟨GV _,by simp⟩
   · exact .inl (GI.2 (.inr h))
 · rw[cm]at hb
   have:b=w.heap.size:=by simpa [Row.res,Row.v,Value.ownBlock] using hb
   exact .inr (by omega)
 · rw[vt,e2]
   exact Ib.2 ⟨λh=>by have:=hFl _ h; omega,hFn⟩
 · rw[GR]at hq; subst hq
   refine⟨cells,⟨by simpa using hlen,.inr ⟨w.heap.size,1,cells.toArray,rfl,IK _,heap_alloc_new w _,GV _,by simp [maxLen],by simpa using hlen,by rw[show [x].length * GoTy.n α=cells.length by simp [hlen]]; exact Jf⟩⟩,rfl,λi e hi Fi hFi=>?_⟩
   cases i with
   | succ i=>simp at hi
   | zero =>
    simp only[IV,Hj]at hi hFi
    subst hi hFi
    have:xX α cells 0=cells:=by unfold xX; rw[IJ,He,HV (by omega)]
    rw[this]
    exact GoTy.own_mono hd λb hb=>Below.heap_alloc _ _ _ (hFl b hb)
theorem gather {α:Type} [GoTy α] {T:w_} {p:Addr}:∀(ys:List α) (o:Nat),(∀i x,ys[i]?=some x->ElemAt α w T p (o + i) x) ->
 ∃news:p_,news.length=ys.length * GoTy.n α/\(∀j u,news[j]?=some u->w.cell? (p.add (o * GoTy.n α + j))=some u)/\(∀u∈news,u.oneCell'=true) /\
  ∀i x,ys[i]?=some x->GoTy.rep w T ((news.drop (i * GoTy.n α)).take (GoTy.n α)) x
 | [],o,_=>⟨[],by simp,by simp,by simp,by simp⟩
 | y::ys,o,h=>by
  obtain⟨news,h1,h2,h3,h4⟩:=gather ys (o + 1) (λi x hx=>by have:=h (i + 1) x (by simpa using hx); rwa [show o + (i + 1)=o + 1 + i by omega]at this)
  obtain⟨cs,hc,hr⟩:=h 0 y rfl
  have hl:=GoTy.len hr
  refine⟨cs++news,by simp [hl,h1,HN,Jg],λj u hj=>?_,λu hu=>(GI.1 hu).elim (GoTy.one hr u) (h3 u),λi x hx=>?_⟩
  · rw[HE]at hj
    split at hj
    · exact hc j u hj
    · have:=h2 _ u hj
      rw[show (o + 1) * GoTy.n α + (j - cs.length)=o * GoTy.n α + j by rw[HN]; omega]at this
      exact this
  · cases i with
    | zero =>
     simp only[IV,Hj]at hx
     subst hx
     simp only[IJ,He]
     rw[HK (by omega),HV (by omega)]
     exact hr
    | succ i =>
     have:=h4 i x (by simpa using hx)
     have e:(cs++news).drop ((i + 1) * GoTy.n α)=news.drop (i * GoTy.n α):=by
      rw[HN,Nat.one_mul,Jg,<-hl,List.drop_append]
      simp
     rw[e]
     exact this
theorem eJ {cells:p_} {m i:Nat} (hc:cells.length=m * GoTy.n α) (hi:i<m):xX α (cells++news) i=xX α cells i:=by
 unfold xX;have hle:i * GoTy.n α + GoTy.n α<=cells.length:=by
  rw[hc]
  have:=Hb (GoTy.n α) (show i + 1<=m from hi)
  rwa [Iq]at this
 rw[IW (by omega),HK (by rw[Hd]; omega)]
theorem fN {cells:p_} {m i:Nat} (hc:cells.length=m * GoTy.n α) (hi:m<=i):xX α (cells++news) i=xX α news (i - m):=by
 unfold xX;rw[List.drop_append,HI (by rw[hc]; exact Hb _ hi),Hi,hc,Nat.sub_mul]
theorem iY (w:World) (t ty e e0:TypeId) (i:TypeInfo) (ht:P.underlying t=some (.slice e)) (hi:P.info? e=some i) (g sLen sCap:Nat) (cur:Array Value) (hg:w.heap[g]?=some (.cells cur e0 (0,0)))
 (a:Addr) (m c:Nat) (news:p_) (hl:news.length=m * i.size) (hnews:∀j u,news[j]?=some u->w.cell? (a.add j)=some u) (h1:∀u∈news,u.oneCell'=true) (hroom:sLen + m<=sCap) (hfit:sLen * i.size + news.length<=cur.size) :
 (Builtin.append_ #[t,t] ty #[.slice (some ⟨g,0,none⟩) sLen sCap,.slice (some a) m c]).run P w =
   .ok (.slice (some ⟨g,0,none⟩) (sLen + m) sCap) (w.setRow g (cur.toList.take (sLen * i.size)++news++cur.toList.drop (sLen * i.size + news.length)).toArray):=by
 have hf:=run_firstCells_some (P:=P) w i.size m a m c news hl hnews;have hst:=run_storeCells_at P g (sLen * i.size) e0 news 0 cur w hg (by simpa using hfit) h1;simp only[Hz]at hst;simp [Builtin.append_,run_underlying ht,Go.sizeOf,typeInfo,hi,Builtin.lenOf,hroom,hf,Addr.add_lit,hst]
theorem fB (w:World) (t ty e e0:TypeId) (i:TypeInfo) (z:Value) (size bytes:Nat) (ht:P.underlying t=some (.slice e)) (hi:P.info? e=some i) (hz:i.zero=some z)
 (hsize:i.size=size) (hby:i.bytes=bytes) (hzs:z.cells.size=size) (hsz:0<size) (v:Value) (n:Nat) (xs:p_) (hown:w.ownsRow 0 e0 size v n xs)
 (a:Addr) (m c:Nat) (news:p_) (hl:news.length=m * size) (hnews:∀j u,news[j]?=some u->w.cell? (a.add j)=some u) (h1:∀u∈news,u.oneCell'=true)
 (h63:n + m<=maxLen) (hbytes:(n + m) * bytes<=140737488355328) :
 ∃e1 v' w',(Builtin.append_ #[t,t] ty #[v,.slice (some a) m c]).run P w=.ok v' w'/\w'.ownsRow 0 e1 size v' (n + m) (xs++news)/\GB w w' v.ownBlock/\(v'.ownBlock=v.ownBlock∨v'.ownBlock=some w.heap.size):=by
 rcases hown.2 with ⟨rfl,rfl⟩ | ⟨g,cap,cur,rfl,hbg,hg,hnc,hcm,hcs,htake⟩
 have hx:xs=[]:=G6 (by simpa using hown.1);subst hx;obtain⟨v',w',g1,g2,g3,_,g5⟩:=run_append_own_at (P:=P) w 0 t ty e i z size bytes ht hi hz hsize hby hzs hsz (.slice none 0 0) 0 [] (World.ownsRow_nil _ _ _ _) a m c news hl hnews h1 h63 hbytes (IK _);refine⟨e,v',w',g1,g2,⟨g3,?_⟩,g5⟩;by_cases hm:m=0;subst hm;have hr:(Builtin.append_ #[t,t] ty #[.slice none 0 0,.slice (some a) 0 c]).run P w=.ok (.slice none 0 0) w:=by
  simp [Builtin.append_,run_underlying ht,Go.sizeOf,typeInfo,hi,Builtin.lenOf,Builtin.firstCells,loadCells,loadCellsFrom]
 rw[hr]at g1;injection g1 with _ e1
 rw[<-e1]; exact GV _;have hr:=run_append_nil (P:=P) w t ty e i z ht hi hz a m c news (by rw[hsize]; exact hl) hnews (by omega) (by simp only[maxLen]at h63; omega) (by rw[hby]; simp only[HA]at hbytes; omega);rw[hr]at g1;injection g1 with _ e1
 rw[<-e1]; exact J7 _;subst hsize;subst hby;have hlen:(xs++news).length=(n + m) * i.size:=by rw[GL,hown.1,hl,HN]
 by_cases hroom:n + m<=cap;have hfit:n * i.size + news.length<=cur.size:=by rw[hl,hcs,<-HN]; exact Hb _ hroom
 have hr:=iY (P:=P) w t ty e e0 i ht hi g n cap cur hg a m c news hl hnews h1 hroom hfit;refine⟨e0,_,_,hr,⟨hlen,.inr ⟨g,cap,_,rfl,hbg,setRow_heap w g cur _ e0 _ hg,hroom,hcm,?_,?_⟩⟩,⟨⟨rfl,rfl,rfl,by simp,λk _ hk=>setRow_other w g k _ (λe=>hk (by simp [Value.ownBlock,e]))⟩,GV _⟩,Or.inl rfl⟩;simp only[If,GL,GO,Hd,Hw];omega;rw[htake,<-hlen];exact Ja;have holds:∀j u,xs[j]?=some u->w.cell? ((⟨g,0,none⟩:Addr).add j)=some u:=hown.cells (g:=g) rfl;have hsmall:n + m<=9223372036854775807:=by simp only[maxLen]at h63; omega
 have hr:=run_append_grow (P:=P) w t ty e i z ht hi hz ⟨g,0,none⟩ n cap xs hown.1 holds a m c news hl hnews (by omega) (by omega) (growslice_fits (by omega) hbytes);have hge:=grownCap_ge w (n + m) cap e;have hcm:grownCap w (n + m) cap e<=maxLen:=grownCap_le_maxLen w (n + m) cap e h63;refine⟨e,_,_,hr,⟨hlen,.inr ⟨w.heap.size,_,_,rfl,IK _,heap_alloc_new w.drew _,hge,hcm,?_,?_⟩⟩,⟨⟨rfl,rfl,rfl,by simp,λk hk _=>heap_alloc_old w.drew _ hk⟩,J7 _⟩,Or.inr rfl⟩;simp only[Jr,If,size_zeroCells,hzs,hown.1,hl,<-HN];congr 1;omega;simp only[Jk,GN];rw[<-GN,<-hlen];exact Ja
theorem tz {T E0 ty':TypeId} {z:Value} {bytes:Nat} (hT:P.underlying T=some (.slice E)) (hE:AI P E (GoTy.n α) z bytes) (hz:z.cells.size=GoTy.n α) (hby:bytes<=128) {A:c_} {cap:Nat} {xs ys zs:List α} {cells:p_}
 (ho:w.ownsRow 0 E0 (GoTy.n α) (.slice A xs.length cap) xs.length cells) (happ:M_ xs ys=some zs) {A':c_} {c:Nat} (hsrc:lrep w (λ_=>True) [.slice A' ys.length c] ys) :
 ∃E1 A2 cap2 w' news,(Builtin.append_ #[T,T] ty' #[.slice A xs.length cap,.slice A' ys.length c]).run P w=.ok (.slice A2 zs.length cap2) w'/\w'.ownsRow 0 E1 (GoTy.n α) (.slice A2 zs.length cap2) zs.length (cells++news)/\GB w w' (Value.slice A xs.length cap).ownBlock /\
  ((Value.slice A2 zs.length cap2).ownBlock=(Value.slice A xs.length cap).ownBlock∨((Value.slice A2 zs.length cap2).ownBlock=some w.heap.size/\w.heap.size<w'.heap.size))/\news.length=ys.length * GoTy.n α /\
  (∀p,A'=some p->∀j u,news[j]?=some u->w.cell? (p.add j)=some u)/\zs=xs++ys:=by
 unfold M_ at happ;split at happ
 case isFalse=>cases happ
 rename_i hlen;injection happ with happ
 subst happ;obtain⟨inf,hinf,hpr⟩:=Ht.1 hE;simp only[Ie]at hpr;obtain⟨hz1,hz2,hz3⟩:=hpr;obtain⟨A'',c'',hcs,hyc,hcm,hel⟩:=hsrc;simp only[Ho,Value.slice.injEq,and_true]at hcs;obtain⟨rfl,-,rfl⟩:=hcs;cases A' with
 | none =>
  have hy:ys=[]:=by
   cases ys with
   | nil=>rfl
   | cons y ys =>
    obtain⟨p,hp,_⟩:=hel 0 y rfl
    cases hp
  subst hy
  simp only[G8]
  refine⟨E0,A,cap,w,[],?_,by simpa using ho,⟨⟨rfl,rfl,rfl,GV _,λ_ _ _=>rfl⟩,GV _⟩,.inl rfl,by simp,by simp,trivial⟩
  rcases ho.2 with ⟨hv,h0⟩ | ⟨b,cap',cur,hv,_,_,hnc,_⟩
  · simp only[Value.slice.injEq]at hv
    obtain⟨rfl,hv2,rfl⟩:=hv
    simp [Builtin.append_,run_underlying hT,Go.sizeOf,typeInfo,hinf,Builtin.lenOf,Builtin.firstCells,hv2]
  · simp only[Value.slice.injEq]at hv
    obtain⟨rfl,-,rfl⟩:=hv
    simp [Builtin.append_,run_underlying hT,Go.sizeOf,typeInfo,hinf,Builtin.lenOf,Builtin.firstCells,hnc,storeCells]
 | some p =>
  obtain⟨news,g1,g2,g3,_⟩:=gather (w:=w) (T:=λ_=>True) (p:=p) ys 0 (λk x hx=>by
   obtain⟨p',hp',_,h⟩:=hel k x hx
   injection hp' with hp'; subst hp'
   rwa [HA])
  simp only[IJ,HA]at g2
  have hbytes:(xs.length + ys.length) * bytes<=140737488355328:=by
   have:=J9 hlen hby
   omega
  obtain⟨E1,v',w',hr,h1,h2,h4⟩:=fB (P:=P) w T ty' E E0 inf z (GoTy.n α) bytes hT hinf hz1 hz2 hz3 hz (GoTy.pos (α:=α)) _ xs.length cells ho p ys.length c news g1 g2 g3 (by simp only[maxLen]; omega) hbytes
  have hform:∃A2 cap2,v'=.slice A2 (xs++ys).length cap2:=by
   rcases h1.2 with ⟨rfl,h0⟩ | ⟨b,cap',cur,rfl,_⟩
   · exact⟨none,0,by rw[GL,h0]⟩
   · exact⟨some ⟨b,0,none⟩,cap',by rw[GL]⟩
  obtain⟨A2,cap2,rfl⟩:=hform
  refine⟨E1,A2,cap2,w',news,hr,by rw[GL]at h1 ⊢; exact h1,h2,h4.imp id λh=>⟨h,(h1.lt _ h).2⟩,g1,λq hq=>by injection hq with hq; subst hq; exact g2,rfl⟩
theorem O_.append (H:O_ w0 S M R D I w) {α:Type} [GoTy α] {T E E0 ty':TypeId} {z:Value} {bytes:Nat} (hT:P.underlying T=some (.slice E)) (hE:AI P E (GoTy.n α) z bytes) (hz:z.cells.size=GoTy.n α) (hby:bytes<=128) (i:Nat) {fr:Bool} {A:c_} {cap:Nat} {xs ys zs:List α}
 (hi:R[i]?=some ⟨.sh fr,E0,A,cap,xs⟩) (happ:M_ xs ys=some zs) {A':c_} {c:Nat}
 (hsrc:lrep w (λ_=>True) [.slice A' ys.length c] ys) (hrep:(∀(p:Addr) (news:p_),A'=some p->news.length=ys.length * GoTy.n α->(∀j u,news[j]?=some u->w.cell? (p.add j)=some u)->∀i x,ys[i]?=some x->GoTy.rep w (St w0 S M R D fr) (xX α news i) x)) :
 ∃E1 A2 cap2 w',(Builtin.append_ #[T,T] ty' #[.slice A xs.length cap,.slice A' ys.length c]).run P w=.ok (.slice A2 zs.length cap2) w'/\O_ w0 S M (R.set i ⟨.sh fr,E1,A2,cap2,zs⟩) D I w':=by
 obtain⟨cells,ho,hf,he⟩:=H.rowAt (GX hi);obtain⟨E1,A2,cap2,w',news,hr,h1,h2,h4,g1,g2,rfl⟩:=tz (ty':=ty') hT hE hz hby ho happ hsrc;refine⟨E1,A2,cap2,w',hr,H.reRow hi h2 h4 (Iw _) λhm=>⟨cells++news,h1,trivial,λk x hx=>?_⟩⟩;have hcl:cells.length=xs.length * GoTy.n α:=ho.1;simp only at hx;rw[HE]at hx;split at hx
 rename_i hk;show GoTy.rep _ _ _ _;rw[eJ hcl hk];exact GoTy.mono (show GoTy.rep w _ _ x from he k x hx) (hm _);rename_i hk;show GoTy.rep _ _ _ _;rw[fN hcl (by omega)];cases A' with
 | none =>
  obtain⟨_,_,hcs,_,_,hel⟩:=hsrc
  obtain⟨p,hp,_⟩:=hel _ x hx
  simp only[Ho,Value.slice.injEq,and_true]at hcs
  rw[<-hcs.1]at hp; cases hp
 | some p=>exact GoTy.mono (hrep p news rfl g1 (g2 p rfl) _ x hx) (hm _)
theorem cN (hf:Fr a n L) {T:TypeId} {x y:Operand} {v u:Value} (hx:ev L x=some v) (hy:ev L y=some u) {r:Value} {w':World} (hr:(Builtin.append_ #[T,T] ty #[v,u]).run P w=.ok r w') (hdn:d<n)
 (k:∀a',Fr a' n ((d,r)::L)->K a' w'):Oper.wp P ⟨some d,.call ⟨.builtin .append,#[x,y],#[T,T]⟩,ty,pos,af,g⟩ a w K Q:=by
 have h1:(execOp a.eval ⟨some d,.call ⟨.builtin .append,#[x,y],#[T,T]⟩,ty,pos,af,g⟩).run P w=.ok (.value r) w':=by
  simp [execOp,resolve,invoke,builtin,hf.eval hx,hf.eval hy,hr]
 unfold Oper.wp;rw[h1,Oper.upon_value];exact k _ (hf.put hdn _)
theorem AA {p:Addr} {cap:Nat} {cells:p_} (ho:w.ownsRow 0 E (GoTy.n α) (.slice (some p) ys.length cap) ys.length cells) (hl:news.length=ys.length * GoTy.n α)
 (hc:∀j u,news[j]?=some u->w.cell? (p.add j)=some u):news=cells:=by
 have hob:(Value.slice (some p) ys.length cap).ownBlock=some p.block:=rfl;have hp0:p=⟨p.block,0,none⟩:=by
  rcases ho.2 with ⟨hv,_⟩ | ⟨b,c2,cur,hv,_⟩
  · simp only[Value.slice.injEq]at hv; cases hv.1
  · simp only[Value.slice.injEq]at hv; injection hv.1 with h; rw[h]
 apply IS;intro t;have h1:cells.length=ys.length * GoTy.n α:=ho.1;by_cases ht:t<ys.length * GoTy.n α;have h2:=ho.cells hob t _ (GM (by omega));have h3:=hc t _ (GM (by omega));rw[<-hp0,h3]at h2;rw[GM (by omega),GM (by omega)];exact h2;rw[HF (by omega),HF (by omega)]
theorem tJ {p:Addr} {cap:Nat} {cells:p_} (ho:w.ownsTail E (GoTy.n α) (.slice (some p) ys.length cap) ys.length cells) (hl:news.length=ys.length * GoTy.n α)
 (hc:∀j u,news[j]?=some u->w.cell? (p.add j)=some u):news=cells:=by
 obtain⟨b,q,rfl⟩:∃b q,p=⟨b,q,none⟩:=by
  rcases ho.2 with ⟨hv,_⟩ | ⟨b,q,c2,cur,hv,_⟩
  · simp only[Value.slice.injEq]at hv; cases hv.1
  · simp only[Value.slice.injEq]at hv; injection hv.1 with h; exact⟨b,q,h⟩
 apply IS;intro t;have h1:cells.length=ys.length * GoTy.n α:=ho.1;by_cases ht:t<ys.length * GoTy.n α;have h2:=fG ho t _ (GM (by omega));have h3:=hc t _ (GM (by omega));rw[add_lit,h2]at h3;rw[GM (by omega),GM (by omega)];exact h3.symm;rw[HF (by omega),HF (by omega)]
theorem vj (hf:Fr a n L) (H:O_ w0 S M R D I w) {α:Type} [GoTy α] {T E E0 E':TypeId} {z:Value} {bytes:Nat} (hT:P.underlying T=some (.slice E)) (hE:AI P E (GoTy.n α) z bytes) (hz:z.cells.size=GoTy.n α) (hby:bytes<=128) (i j:Nat) {fr fr':Bool} {A A':c_} {cap cap':Nat} {xs ys zs:List α}
 {x y:Operand} (hx:ev L x=some (.slice A xs.length cap)) (hy:ev L y=some (.slice A' ys.length cap')) (hi:R[i]?=some ⟨.sh fr,E0,A,cap,xs⟩) (hj:R[j]?=some ⟨.sh fr',E',A',cap',ys⟩) (hfr:fr=false∨fr'=true) (happ:M_ xs ys=some zs) (hdn:d<n)
 (k:∀E1 A2 cap2 a' w',Fr a' n ((d,.slice A2 zs.length cap2)::L)->O_ w0 S M (R.set i ⟨.sh fr,E1,A2,cap2,zs⟩) D I w'->K a' w'):Oper.wp P ⟨some d,.call ⟨.builtin .append,#[x,y],#[T,T]⟩,ty,pos,af,g⟩ a w K Q:=by
 obtain⟨E1,A2,cap2,w',hr,H2⟩:=H.append (ty':=ty) hT hE hz hby i hi happ (H.rowTrue j hj) (λp news hp hl hc q e hq=>by
  obtain⟨cells,ho,_,he⟩:=H.rowAt (GX hj)
  subst hp
  obtain rfl:=AA ho hl hc
  have h5:GoTy.rep w (St w0 S M R D fr') _ e:=he q e hq
  rcases hfr with rfl | rfl
  · exact xA h5
  · cases fr
    · exact xA h5
    · exact h5)
 exact cN hf hx hy hr hdn λa' hf'=>k _ _ _ _ _ hf' H2
theorem vW (hf:Fr a n L) (H:O_ w0 S M R D I w) {α:Type} [GoTy α] {T E E0:TypeId} {z:Value} {bytes:Nat} (hT:P.underlying T=some (.slice E)) (hE:AI P E (GoTy.n α) z bytes) (hz:z.cells.size=GoTy.n α) (hby:bytes<=128) (i j:Nat) {fr f:Bool} {A A':c_} {cap len' cap':Nat} {xs ys zs:List α}
 {x y:Operand} (hx:ev L x=some (.slice A xs.length cap)) (hy:ev L y=some (.slice A' len' cap')) (hi:R[i]?=some ⟨.sh fr,E0,A,cap,xs⟩) (hj:I[j]?=some (f,MP.val [.slice A' len' cap'] ys)) (hfr:fr=false∨f=true) (happ:M_ xs ys=some zs) (hdn:d<n)
 (k:∀E1 A2 cap2 a' w',Fr a' n ((d,.slice A2 zs.length cap2)::L)->O_ w0 S M (R.set i ⟨.sh fr,E1,A2,cap2,zs⟩) D I w'->K a' w'):Oper.wp P ⟨some d,.call ⟨.builtin .append,#[x,y],#[T,T]⟩,ty,pos,af,g⟩ a w K Q:=by
 have hl:lrep w (St w0 S M R D f) [.slice A' len' cap'] ys:=H.get j hj;obtain⟨A'',c'',hcs,hyc,hcm,hel⟩:=id hl;simp only[Ho,Value.slice.injEq,and_true]at hcs;obtain⟨rfl,rfl,rfl⟩:=hcs;obtain⟨E1,A2,cap2,w',hr,H2⟩:=H.append (ty':=ty) hT hE hz hby i hi happ (qX (α:=List α) hl) (λp news hp hl' hc q e hq=>by
  obtain⟨news',g1,g2,g3,g4⟩:=gather (w:=w) (T:=St w0 S M R D f) (p:=p) ys 0 (λk x hx=>by
   obtain⟨p',hp',_,h⟩:=hel k x hx
   rw[hp]at hp'
   injection hp' with hp'; subst hp'
   rwa [HA])
  have hn:news=news':=by
   apply IS
   intro t
   by_cases ht:t<ys.length * GoTy.n α
   · have h2:=g2 t _ (GM (by omega))
     have h3:=hc t _ (GM (by omega))
     rw[IJ,HA,h3]at h2
     rw[GM (by omega),GM (by omega)]
     exact h2
   · rw[HF (by omega),HF (by omega)]
  subst hn
  have h5:GoTy.rep w (St w0 S M R D f) (xX α news q) e:=g4 q e hq
  rcases hfr with rfl | rfl
  · exact xA h5
  · cases fr
    · exact xA h5
    · exact h5)
 exact cN hf hx hy hr hdn λa' hf'=>k _ _ _ _ _ hf' H2
theorem nW (hf:Fr a n L) {α:Type} [GoTy α] {T E E0 E':TypeId} {z:Value} {bytes:Nat} {Fs Gs:List (m_)} {A A':c_} {cap cap':Nat} {xs ys zs:List α} {fr:Bool}
 (H:O_ w0 S M (⟨.ow Fs,E0,A,cap,xs⟩::⟨.ow Gs fr,E',A',cap',ys⟩::R) D I w) (hT:P.underlying T=some (.slice E)) (hE:AI P E (GoTy.n α) z bytes) (hz:z.cells.size=GoTy.n α) (hby:bytes<=128)
 {x y:Operand} (hx:ev L x=some (.slice A xs.length cap)) (hy:ev L y=some (.slice A' ys.length cap')) (happ:M_ xs ys=some zs) (hdn:d<n)
 (k:∀E1 A2 cap2 a' w',Fr a' n ((d,.slice A2 zs.length cap2)::L)->O_ w0 S M (⟨.ow (Fs++Gs),E1,A2,cap2,zs⟩::R) D I w'->K a' w'):Oper.wp P ⟨some d,.call ⟨.builtin .append,#[x,y],#[T,T]⟩,ty,pos,af,g⟩ a w K Q:=by
 obtain⟨cells,ho,hfit,he⟩:=H.rowAt (r:=⟨.ow Fs,E0,A,cap,xs⟩) (by simp);obtain⟨cells',ho',hfit',he'⟩:=H.rowAtK (r:=⟨.ow Gs fr,E',A',cap',ys⟩) (by simp);have hsrc:lrep w (λ_=>True) [.slice A' ys.length cap'] ys:=H.rowTrue 1 rfl;obtain⟨E1,A2,cap2,w',news,hr,h1,h2,h4,g1,g2,rfl⟩:=tz (ty':=ty) hT hE hz hby ho happ hsrc;refine cN hf hx hy hr hdn λa' hf'=>k E1 _ _ _ _ hf' ?_;have hp:(zs M (⟨.ow Fs,E0,A,cap,xs⟩::⟨.ow Gs fr,E',A',cap',ys⟩::R) D).Perm ([Row.res ⟨.ow Fs,E0,A,cap,xs⟩,Row.res ⟨.ow Gs fr,E',A',cap',ys⟩]++AT.zs M R D):=(aA _).trans ((aA _).append_left [_]);have H1:=MemZ.perm H hp;have hnd:=MemZ.nd H1;rw[vf,fl]at hnd;have hnd':=(GZ.1 hnd).1;have hlt:∀b∈allZ [Row.res ⟨.ow Fs,E0,A,cap,xs⟩,Row.res ⟨.ow Gs fr,E',A',cap',ys⟩],b<w.heap.size:=λb hb=>(MemZ.lt H1 b (by rw[vf]; exact GI.2 (.inl hb))).2;have e0:(Row.res ⟨.ow Fs,E0,A,cap,xs⟩).all=(Value.slice A xs.length cap).ownBlock.toList++List.flatten Fs:=rfl;have e1:(Row.res ⟨.ow Gs fr,E',A',cap',ys⟩).all=(Value.slice A' ys.length cap').ownBlock.toList++List.flatten Gs:=rfl;have e2:(Row.res ⟨.ow (Fs++Gs),E1,A2,cap2,xs++ys⟩).all=(Value.slice A2 (xs++ys).length cap2).ownBlock.toList++(List.flatten Fs++List.flatten Gs):=by
  show _++List.flatten (Fs++Gs)=_
  rw[IU]; rfl
 rw[e0,e1]at hnd';have hxg:∀b,b∈(Value.slice A2 (xs++ys).length cap2).ownBlock.toList->b∈(Value.slice A xs.length cap).ownBlock.toList∨(w.heap.size<=b/\b<w'.heap.size):=λb hb=>by
  rcases h4 with h | ⟨h,h'⟩
  · rw[h]at hb; exact .inl hb
  · rw[h]at hb; simp at hb; subst hb; exact .inr ⟨GV _,h'⟩
 have hflat:(List.flatten Fs++List.flatten Gs).Nodup:=by
  refine Jp ?_ hnd'
  exact (HT _ _).append (HT _ _)
 refine MemZ.perm (MemZ.step (rs':=[Row.res ⟨.ow (Fs++Gs),E1,A2,cap2,xs++ys⟩]) H1 ⟨h2.by_.os,h2.by_.tape,h2.by_.output,h2.by_.size,λb hb hx=>h2.by_.block b hb λe=>hx ?_,h2.drawn⟩ (λb hb=>?_) (λb hb=>?_) ?_ (λhm q hq=>?_)) (aA _).symm;rw[oh]; exact GI.2 (.inl (by show b∈(Value.slice A xs.length cap).ownBlock.toList; rw[<-e]; simp));rw[vt,e2]at hb;rw[fl,e0,e1];simp only[GI]at hb ⊢;rcases hb with h | h | h
 exact (hxg b h).imp (λh=>.inl (.inl h)) id;exact .inl (.inl (.inr h));exact .inl (.inr (.inr h));rw[cm]at hb; rw[oh];exact (hxg b hb).imp (λh=>GI.2 (.inl h)) (·.1)
 rw[vt,e2];rcases h4 with h | ⟨h,h'⟩
 rw[h];refine Jp ?_ hnd';rw[<-GN];exact (I4 _).append (HT _ _);rw[h];simp only[JJ,HY,Ib];refine⟨λhb=>?_,hflat⟩;have:=hlt w.heap.size (by
  rw[fl,e0,e1]
  simp only[GI]at hb ⊢
  exact hb.imp .inr .inr)
 omega;rw[GR]at hq; subst hq;have hsame:∀b,b∈List.flatten Fs++List.flatten Gs->w'.heap[b]?=w.heap[b]?:=λb hb=>by
  refine h2.by_.block b (hlt b ?_) λe=>?_
  · rw[fl,e0,e1]
    simp only[GI]at hb ⊢
    exact hb.imp .inr .inr
  · have hm:b∈(Value.slice A xs.length cap).ownBlock.toList:=by rw[<-e]; simp
    rw[GN]at hnd'
    refine (GZ.1 hnd').2.2 b hm b ?_ rfl
    simp only[GI]at hb ⊢
    exact hb.imp id .inr
 refine⟨cells++news,h1,by simp only[Kd.fits,GL]at hfit hfit' ⊢; omega,λi e hi Fi hFi=>?_⟩;have hcl:cells.length=xs.length * GoTy.n α:=ho.1;have hfl:Fs.length=xs.length:=hfit;simp only at hi;rw[HE]at hi hFi;rw[hfl]at hFi;split at hi
 rename_i hlt';rw[if_pos hlt']at hFi;rw[eJ hcl hlt'];exact GoTy.own_mono (he i e hi Fi hFi) λb hb=>hsame b (GI.2 (.inl (fO hFi hb)));rename_i hlt';rw[if_neg hlt']at hFi;rw[fN hcl (by omega)];cases A' with
 | none =>
  obtain⟨_,_,hcs,_,_,hel⟩:=hsrc
  obtain⟨p,hp,_⟩:=hel _ e hi
  simp only[Ho,Value.slice.injEq,and_true]at hcs
  rw[<-hcs.1]at hp; cases hp
 | some p =>
  obtain rfl:=tJ (ek ho') g1 (g2 p rfl)
  exact GoTy.own_mono (he' _ e hi Fi hFi) λb hb=>hsame b (GI.2 (.inr (fO hFi hb)))
end
end
section
structure Tab where
 sl:List TypeId
 bo:List TypeId
 st:List TypeId
 fa:List (TypeId×Nat×Nat)
def inl:m_->Nat->Bool
 | [],_=>false
 | x::r,y=>bif Nat.beq x y then true else inl r y
def foff:List (TypeId×Nat×Nat)->TypeId->Nat->Option Nat
 | [],_,_=>none
 | (t,f,o)::r,t',f'=>bif (Nat.beq t t'&&Nat.beq f f') then some o else foff r t' f'
structure TabOk (P:Program) (t:Tab):Prop where
 sl:∀T,inl t.sl T=true->∃E,P.underlying T=some (.slice E)
 bo:∀T,inl t.bo T=true->P.underlying T=some .bool
 st:∀T,inl t.st T=true->P.underlying T=some .string
 fa:∀T f o,foff t.fa T f=some o->FA P T f o
def p2 (tb:Tab) (op:BinOp) (T:TypeId) (v u:Value):Option Value :=
 match v,u with
 | .int .i64 i,.int .i64 j =>
  match op with
  | .add=>some (.int .i64 (y_ (i + j)))
  | .sub=>some (.int .i64 (y_ (i - j)))
  | .mul=>some (.int .i64 (y_ (i * j)))
  | .eql=>some (.bool (i==j))
  | .neq=>some (.bool (i != j))
  | .lss=>some (.bool (decide (i<j)))
  | .leq=>some (.bool (decide (i<=j)))
  | .gtr=>some (.bool (decide (i > j)))
  | .geq=>some (.bool (decide (i>=j)))
  | .and=>some (.int .i64 (band i j))
  | .or=>some (.int .i64 (Z1 i j))
  | .xor=>some (.int .i64 (bxor i j))
  | .andNot=>some (.int .i64 (Dg i j))
  | _=>none
 | .int .u8 i,.int .u8 j =>
  match op with
  | .eql=>some (.bool (i==j))
  | .neq=>some (.bool (i != j))
  | .lss=>some (.bool (decide (i<j)))
  | .leq=>some (.bool (decide (i<=j)))
  | .gtr=>some (.bool (decide (i > j)))
  | .geq=>some (.bool (decide (i>=j)))
  | _=>none
 | .bool b,.bool c =>
  match op with
  | .eql=>bif inl tb.bo T then some (.bool (b==c)) else none
  | .neq=>bif inl tb.bo T then some (.bool (b != c)) else none
  | _=>none
 | .string b,.string c =>
  match op with
  | .eql=>some (.bool (b.toList==c.toList))
  | .neq=>some (.bool (!(b.toList==c.toList)))
  | _=>none
 | _,_=>none
def p1 (op:UnOp) (v:Value):Option Value :=
 match op,v with
 | .not,.bool b=>some (.bool (!b))
 | .neg,.int .i64 i=>some (.int .i64 (y_ (0 - i)))
 | _,_=>none
def pb (tb:Tab) (b:Builtin) (vs:p_) (ts:List TypeId):Option Value :=
 match b,vs,ts with
 | .len,[.slice _ m _],[T]=>bif inl tb.sl T then some (.int .i64 m) else none
 | .len,[.string s],[T]=>bif inl tb.st T then some (.int .i64 s.size) else none
 | .min,[.int .i64 i,.int .i64 j],[_,_]=>some (.int .i64 (gmin i j))
 | .max,[.int .i64 i,.int .i64 j],[_,_]=>some (.int .i64 (gmax i j))
 | _,_,_=>none
def pOp (tb:Tab) (L:g_):Op->Option Value
 | .move x=>ev L x
 | .assign x=>ev L x
 | .pick c x y =>
  match ev L c with
  | some (.bool true)=>ev L x
  | some (.bool false)=>ev L y
  | _=>none
 | .unOp op _ x =>
  match ev L x with
  | some v=>p1 op v
  | none=>none
 | .binOp op T x y _ =>
  match ev L x,ev L y with
  | some v,some u=>p2 tb op T v u
  | _,_=>none
 | .extract x i =>
  match ev L x with
  | some (.tuple ⟨vs⟩)=>vs[i]?
  | _=>none
 | .nilCheck x =>
  match ev L x with
  | some (.pointer (some p))=>some (.pointer (some p))
  | _=>none
 | .call ⟨.builtin b,⟨xs⟩,⟨ts⟩⟩ =>
  match evs L xs with
  | some vs=>pb tb b vs ts
  | none=>none
 | .fieldAddr T x f =>
  match ev L x with
  | some (.pointer (some ⟨b,j,none⟩)) =>
   match foff tb.fa T f with
   | some o=>some (.pointer (some ⟨b,j + o,none⟩))
   | none=>none
  | _=>none
 | _=>none
def pRun (tb:Tab) (ops:List Oper):Nat->g_->List Oper->g_×List Oper
 | 0,L,l=>(L,l)
 | _ + 1,L,[]=>(L,[])
 | k + 1,L,⟨some d,op,ty,pos,af,none⟩::l =>
  match pOp tb L op with
  | some v=>pRun tb ops k ((d,v)::L) l
  | none=>(L,⟨some d,op,ty,pos,af,none⟩::l)
 | k + 1,L,⟨some d,op,ty,pos,af,some (j,want)⟩::l =>
  match (ops[j]?).bind (·.dst) with
  | none=>(L,⟨some d,op,ty,pos,af,some (j,want)⟩::l)
  | some e =>
   match lk L e,want with
   | some (.bool true),true | some (.bool false),false =>
    match pOp tb L op with
    | some v=>pRun tb ops k ((d,v)::L) l
    | none=>(L,⟨some d,op,ty,pos,af,some (j,want)⟩::l)
   | some (.bool true),false | some (.bool false),true=>pRun tb ops k ((d,undef)::L) l
   | _,_=>(L,⟨some d,op,ty,pos,af,some (j,want)⟩::l)
 | _ + 1,L,l=>(L,l)
section
variable {P:Program} {Q:Exit->r_} {a:Act} {w:World} {n:Nat} {L:g_} {tb:Tab} {dst:Option Tmp} {ty:TypeId} {pos:String} {af:Array Edge} {g:x_}
theorem oU {op:BinOp} {T U:TypeId} {x y:Operand} {v u r:Value} (htb:TabOk P tb) (hf:Fr a n L) (hx:ev L x=some v) (hy:ev L y=some u) (h:p2 tb op T v u=some r) :
 (execOp a.eval ⟨dst,.binOp op T x y U,ty,pos,af,g⟩).run P w=.ok (.value r) w:=by
 unfold p2 at h;split at h
 split at h <;> first | cases h | (injection h with h; subst h)
 exact DJ hf hx hy;exact Ds hf hx hy;exact Dv hf hx hy;exact BK hf hx hy;exact BF hf hx hy;exact BG hf hx hy;exact BH hf hx hy;exact BI hf hx hy;exact BJ hf hx hy;exact DG hf hx hy;exact EJ hf hx hy;exact Dr hf hx hy;exact tI hf hx hy;split at h <;> first | cases h | (injection h with h; subst h)
 exact BK hf hx hy;exact BF hf hx hy;exact BG hf hx hy;exact BH hf hx hy;exact BI hf hx hy;exact BJ hf hx hy;split at h
 cases hb:inl tb.bo T <;> rw[hb]at h <;> first | cases h | (injection h with h; subst h)
 exact Cz hf (htb.bo T hb) hx hy;cases hb:inl tb.bo T <;> rw[hb]at h <;> first | cases h | (injection h with h; subst h)
 exact Cy hf (htb.bo T hb) hx hy;cases h
 split at h <;> first | cases h | (injection h with h; subst h)
 exact Cu hf hx hy;exact B8 hf hx hy;cases h
theorem pd {op:Op} {v:Value} (htb:TabOk P tb) (hf:Fr a n L) (h:pOp tb L op=some v):(execOp a.eval ⟨dst,op,ty,pos,af,g⟩).run P w=.ok (.value v) w:=by
 unfold pOp at h;split at h
 · exact Cx hf h
 · exact tH hf h
 · split at h
   · rename_i hc; exact tC hf hc h
   · rename_i hc; exact tD hf hc h
   · cases h
 · split at h
   · rename_i u hx
     unfold p1 at h
     split at h <;> first | cases h | (injection h with h; subst h)
     · exact Dt hf hx
     · exact Du hf hx
   · cases h
 · split at h
   · rename_i v u hx hy
     exact oU htb hf hx hy h
   · cases h
 · split at h
   · rename_i vs hx; exact rR hf hx h
   · cases h
 · split at h
   · rename_i p hx
     injection h with h; subst h
     exact Ay hf hx
   · cases h
 · split at h
   · rename_i xs ts _ vs hxs
     have hmap:=hf.evals hxs
     unfold pb at h
     split at h
     · rename_i A m c T
       cases hb:inl tb.sl T <;> rw[hb]at h <;> first | cases h | (injection h with h; subst h)
       obtain⟨E,hE⟩:=htb.sl T hb
       match xs,hmap,hxs with
       | [x],hmap,hxs =>
        have hx:ev L x=some (.slice A m c):=by
         simp only[evs,Ih,Ht]at hxs
         obtain⟨v,hv,us,hus,he⟩:=hxs
         simp only[Ho]at he
         rw[hv,he.1]
        exact Dz hf hE hx
       | [],hmap,_=>cases hmap
       | _::_::_,hmap,_=>simp at hmap
     · rename_i s T
       cases hb:inl tb.st T <;> rw[hb]at h <;> first | cases h | (injection h with h; subst h)
       match xs,hmap,hxs with
       | [x],hmap,hxs =>
        have hx:ev L x=some (.string s):=by
         simp only[evs,Ih,Ht]at hxs
         obtain⟨v,hv,us,hus,he⟩:=hxs
         simp only[Ho]at he
         rw[hv,he.1]
        exact B9 hf (htb.st T hb) hx
       | [],hmap,_=>cases hmap
       | _::_::_,hmap,_=>simp at hmap
     · rename_i i j T U
       injection h with h; subst h
       match xs,hmap,hxs with
       | [x,y],hmap,hxs =>
        simp only[evs,Ih,Ht]at hxs
        obtain⟨v,hv,us,⟨u,hu,us',hus',rfl⟩,he⟩:=hxs
        simp only[Ho]at he
        exact Dw hf (by rw[hv,he.1]) (by rw[hu,he.2.1])
       | [],hmap,_=>cases hmap
       | [_],hmap,_=>simp at hmap
       | _::_::_::_,hmap,_=>simp at hmap
     · rename_i i j T U
       injection h with h; subst h
       match xs,hmap,hxs with
       | [x,y],hmap,hxs =>
        simp only[evs,Ih,Ht]at hxs
        obtain⟨v,hv,us,⟨u,hu,us',hus',rfl⟩,he⟩:=hxs
        simp only[Ho]at he
        exact Dx hf (by rw[hv,he.1]) (by rw[hu,he.2.1])
       | [],hmap,_=>cases hmap
       | [_],hmap,_=>simp at hmap
       | _::_::_::_,hmap,_=>simp at hmap
     · cases h
   · cases h
 · split at h
   · rename_i b j hx
     split at h
     · rename_i o ho
       injection h with h; subst h
       exact tG hf (htb.fa _ _ _ ho) hx
     · cases h
   · cases h
 · cases h
def sC (n:Nat):List Oper->Bool
 | []=>true
 | o::l=>(match o.dst with | some d=>Nat.blt d n | none=>true)&&sC n l
theorem CJ {ops:List Oper} (htb:TabOk P tb):∀(k:Nat) (L:g_) (l:List Oper) {L':g_} {l':List Oper} {a:Act},Fr a n L->sC n l=true->pRun tb ops k L l=(L',l') ->
 (∀a',Fr a' n L'->wpList P ops.toArray Q l' a' w)->wpList P ops.toArray Q l a w:=by
 intro k;induction k with
 | zero =>
  intro L l L' l' a hf _ h hk
  simp only[pRun,Ie]at h
  obtain⟨rfl,rfl⟩:=h
  exact hk a hf
 | succ k ih =>
  intro L l L' l' a hf hd h hk
  unfold pRun at h
  split at h
  · rename_i h1; cases h1
  · simp only[Ie]at h
    obtain⟨rfl,rfl⟩:=h
    exact hk a hf
  · rename_i kk L0 d op ty pos af l0 h1
    injection h1 with h1; subst h1
    simp only[sC,GP,Nat.blt_eq]at hd
    split at h
    · rename_i v hv
      refine U_ rfl (op_q hf (pd htb hf hv) rfl hd.1 λa' hf'=>?_)
      exact ih _ _ hf' hd.2 h hk
    · simp only[Ie]at h
      obtain⟨rfl,rfl⟩:=h
      exact hk a hf
  · rename_i kk L0 d op ty pos af j want l0 h1
    injection h1 with h1; subst h1
    simp only[sC,GP,Nat.blt_eq]at hd
    split at h
    · simp only[Ie]at h
      obtain⟨rfl,rfl⟩:=h
      exact hk a hf
    · rename_i e hj
      have hj':(ops.toArray[j]?).bind (·.dst)=some e:=by simpa using hj
      split at h
      · rename_i hb
        split at h
        · rename_i v hv
          refine Q0 hf rfl hj' hb (op_q hf (pd htb hf hv) rfl hd.1 λa' hf'=>?_)
          exact ih _ _ hf' hd.2 h hk
        · simp only[Ie]at h
          obtain⟨rfl,rfl⟩:=h
          exact hk a hf
      · rename_i hb
        split at h
        · rename_i v hv
          refine Q0 hf rfl hj' hb (op_q hf (pd htb hf hv) rfl hd.1 λa' hf'=>?_)
          exact ih _ _ hf' hd.2 h hk
        · simp only[Ie]at h
          obtain⟨rfl,rfl⟩:=h
          exact hk a hf
      · rename_i hb
        exact wls hf rfl hj' hb rfl rfl hd.1 λa' hf'=>ih _ _ hf' hd.2 h hk
      · rename_i hb
        exact wls hf rfl hj' hb rfl rfl hd.1 λa' hf'=>ih _ _ hf' hd.2 h hk
      · simp only[Ie]at h
        obtain⟨rfl,rfl⟩:=h
        exact hk a hf
  · simp only[Ie]at h
    obtain⟨rfl,rfl⟩:=h
    exact hk a hf
def VR {α:Type} [GoTy α] (w:World) (S:w_) (v:Value) (x:α):Prop:=∃cs,GoTy.rep w S cs x/\v=(bif GoTy.agg α then .agg cs.toArray else cs.headD undef)
variable {S:w_} {α:Type} [GoTy α] {cs:p_} {K:r_} {i:Nat} {w0:Base} {M:List Blk} {R:List Row} {D:List DI} {I:List (Bool×MP)} {x:List α}
theorem ui {v:Value} {x:Int} (h:VR w S v x):v=.int .i64 x:=by obtain⟨cs,rfl,rfl⟩:=h; rfl
theorem uq {v:Value} {x:Bool} (h:VR w S v x):v=.bool x:=by obtain⟨cs,rfl,rfl⟩:=h; rfl
theorem nz {v:Value} {x:ByteArray} (h:VR w S v x):v=.string x:=by obtain⟨cs,rfl,rfl⟩:=h; rfl
theorem uT {v:Value} (h:VR w S v x):∃A c,v=.slice A x.length c/\lrep w S [.slice A x.length c] x:=by
 obtain⟨cs,h,rfl⟩:=h;obtain⟨A,c,rfl,h'⟩:=id h;exact⟨A,c,rfl,h⟩
theorem aQ (h:GoTy.rep w S cs x):∃A c,cs=[.slice A x.length c]/\lrep w S [.slice A x.length c] x:=by
 obtain⟨A,c,rfl,h'⟩:=id h;exact⟨A,c,rfl,h⟩
theorem ub {x:Int}:VR w S (.int .i64 x) x:=⟨_,rfl,rfl⟩
theorem ut {x:Bool}:VR w S (.bool x) x:=⟨_,rfl,rfl⟩
theorem nh {x:ByteArray}:VR w S (.string x) x:=⟨_,rfl,rfl⟩
theorem ul {A:c_} {m c:Nat} (h:lrep w S [.slice A m c] x):VR w S (.slice A m c) x:=⟨_,h,rfl⟩
theorem ua (h:K a w):Exit.then K Q .normal a w:=h
theorem kg (h:Q (.exit i) a w):Exit.then K Q (.exit i) a w:=h
theorem uh (h:Q .ret a w):Exit.then K Q .ret a w:=h
theorem vw (h:Q .ret a w):Exit.inBlock i Q .ret a w:=h
theorem u7 (h:Q .normal a w):Exit.inBlock i Q .normal a w:=h
theorem Ab (h:Q .normal a w):Exit.inBlock i Q (.exit i) a w:=by simpa [Exit.inBlock] using h
theorem GD {j:Nat} (hne:Nat.beq j i=false) (h:Q (.exit j) a w):Exit.inBlock i Q (.exit j) a w:=by
 have:j≠i:=λe=>by subst e; simp at hne
 simpa [Exit.inBlock,this] using h
theorem vc {d:Nat} (hf:Fr a n L) (H:O_ w0 S M R D I w) {α:Type} [GoTy α] {T E:TypeId} (hT:P.underlying T=some (.slice E)) (hE:SZ P E (GoTy.n α)) {x y:Operand} {A:c_} {len cap:Nat} {k:IntKind} {i:Int} {xs:List α} {e:α} {f:Bool}
 (j:Nat) (hx:ev L x=some (.slice A len cap)) (hy:ev L y=some (.int k i)) (hi:I[j]?=some (f,MP.val [.slice A len cap] xs)) (he:V_ xs i=some e) (hdn:d<n)
 (kk:∀b o cs a',Fr a' n ((d,.pointer (some ⟨b,o,none⟩))::L)->GoTy.rep w (St w0 S M R D f) cs e->O_ w0 S M R D ((f,MP.cells ⟨b,o,none⟩ cs)::I) w->K a' w):Oper.wp P ⟨some d,.indexAddr T x y,ty,pos,af,g⟩ a w K Q:=by
 obtain⟨b,o,cs,hq,hr,H2⟩:=Az (dst:=some d) (ty:=ty) (pos:=pos) (af:=af) (g:=g) hf H hT hE j hx hy hi he;exact op_q hf hq rfl hdn λa' hf'=>kk b o cs a' hf' hr H2
theorem O_.resF {w':World} {S':w_} (H:O_ w0 S M R D I w) {f:MP} (h:f.pred w' (St ⟨w,[]⟩ S' [] [] [] true)):f.pred w' (St w0 S M R D true) :=
 f.mono h λb hb _=>by
  refine⟨?_,rfl⟩
  rcases hb with ⟨h,_⟩ | ⟨h1 | h1,_⟩
  · cases h
  · exact H.new h1 _
  · cases h1
theorem O_.start (w0:Base) (S:w_):O_ w0 S [] [] [] [] w0.w:=⟨⟨rfl,rfl,rfl,GV _,λ_ _=>rfl,GV _⟩,λb hb=>(by cases hb),.nil,λr hr=>(by cases hr),λf hf=>(by cases hf)⟩
theorem O_.pushArg {w1:World} (H:O_ ⟨w1,[]⟩ S M R D I w) (f:MP) (h:f.pred w1 S):O_ ⟨w1,[]⟩ S M R D ((false,f)::I) w :=
 H.push (false,f) (f.mono h λb hb hlt=>by
  have hn:¬(Base.nw ⟨w1,[]⟩ b):=λh=>by
   rcases h with h | h
   · simp only at h; omega
   · cases h
  exact⟨.inl ⟨rfl,hn,hb⟩,(MemZ.below H).block b hn⟩)
theorem O_.bel {w1:World} (H:O_ ⟨w1,[]⟩ S M R D I w):Below w1.heap.size w1 w:=by
 have hb:=MemZ.below H;refine⟨hb.os,hb.tape,hb.output,hb.size,λk hk=>hb.block k λh=>?_,hb.drawn⟩;rcases h with h | h
 simp only at h; omega;cases h
theorem xr {f:Bool} {x:α} (h:GoTy.rep w (St w0 S M R D f) cs x):GoTy.rep w (St w0 S [] [] [] f) cs x :=
 GoTy.mono h (iy (λb hb=>by cases hb) f)
theorem kP {f:Bool} {x:α} (h:GoTy.rep w (St w0 S M R D f) cs x):GoTy.rep w (St w0 S [] [] [] false) cs x :=
 xr (xA h)
theorem Fr.lit (hf:Fr a n L) (t:Nat) {b c:Bool} (h:lk L t=some (.bool b)) (hb:b=c):Fr a n ((t,.bool c)::L):=by
 subst hb;refine⟨hf.size,hf.defs,λs v hs=>?_⟩;rw[nX]at hs;by_cases he:t=s;subst he; rw[if_pos rfl]at hs; injection hs with hs; subst hs; exact hf.get t _ h
 rw[if_neg he]at hs; exact hf.get s v hs
end
end
section
theorem M1 {a b:Nat} (h:Nat.ble a b=true):a<=b:=Nat.le_of_ble_eq_true h
def PT (P:Program) (E:TypeId):Prop:=∀w,(isAgg E).run P w=.ok false w/\(Go.sizeOf E).run P w=.ok 1 w
section
variable {P:Program} {Q:Exit->r_} {a:Act} {w:World} {w0:Base} {n:Nat} {L:g_} {K:r_}
variable {S:w_} {M:List Blk} {R:List Row} {D:List DI} {I:List (Bool×MP)} {dst:Option Tmp} {d:Nat} {ty:TypeId} {pos:String} {af:Array Edge} {g:x_}
theorem mid {c:Code} (Mid:r_) (h:c.wp P (Exit.then Mid Q) a w) (h2:∀a w,Mid a w->Q .normal a w):c.wp P Q a w :=
 Code.wp_mono (λe a w q=>by cases e <;> first | exact q | exact h2 a w q) h
theorem uw (hf:Fr a n L) {T:TypeId} {ps:List (Nat×Operand)} {qs:g_} {cs:p_} (hp0:evp L ps=some qs) (hb:∀w,(Instr.build T qs.toArray).run P w=.ok (.agg cs.toArray) w) :
 (execOp a.eval ⟨dst,.build T ps.toArray,ty,pos,af,g⟩).run P w=.ok (.value (.agg cs.toArray)) w:=by
 have e:(ps.toArray.map λp=>(p.1,a.eval p.2))=qs.toArray:=by rw[Je,hf.evalp hp0]
 simp only[execOp];rw[show (ps.toArray.map λx=>match x with | (i,x)=>(i,a.eval x))=qs.toArray from e]
 simp [hb]
theorem O_.rowWeak (H:O_ w0 S M R D I w) (i:Nat) {α:Type} [GoTy α] {fr:Bool} {E:TypeId} {A:c_} {cap:Nat} {xs:List α} (hi:R[i]?=some ⟨.sh fr,E,A,cap,xs⟩):O_ w0 S M (R.set i ⟨.sh false,E,A,cap,xs⟩) D I w:=by
 refine H.reRow hi ⟨⟨rfl,rfl,rfl,GV _,λ_ _ _=>rfl⟩,GV _⟩ (.inl rfl) (Iw _) λhm=>?_;obtain⟨cells,ho,_,he⟩:=H.rowAt (GX hi);exact⟨cells,ho,trivial,λj x hx=>GoTy.mono (xA (show GoTy.rep w (St w0 S M R D fr) _ x from he j x hx)) (hm false)⟩
theorem O_.rowSh (H:O_ w0 S M R D I w) (i:Nat) {α:Type} [GoTy α] {Fs:List (m_)} {E:TypeId} {A:c_} {cap:Nat} {xs:List α} (hi:R[i]?=some ⟨.ow Fs,E,A,cap,xs⟩):O_ w0 S M (R.set i ⟨.sh true,E,A,cap,xs⟩) D I w:=by
 have H1:=MemZ.perm H (gL hi);refine MemZ.perm (MemZ.step (rs':=[Row.res ⟨.sh true,E,A,cap,xs⟩]) H1 (Chg.refl _ _) (λb hb=>.inl ?_) (λb hb=>.inl hb) ?_ (λhm q hq=>?_)) (sY _ hi).symm;rw[vt]at hb ⊢;have:b∈(Value.slice A xs.length cap).ownBlock.toList++[]:=hb;rw[G8]at this;exact GI.2 (.inl this);have h1:=MemZ.nd H1;rw[vf,vt]at h1;rw[vt];show ((Value.slice A xs.length cap).ownBlock.toList++[]).Nodup;rw[G8];exact (GZ.1 (GZ.1 h1).1).1;rw[GR]at hq; subst hq;have hmem:=GX hi;obtain⟨cells,ho,hf,he⟩:=H.rowAt hmem;refine⟨cells,ho,trivial,λj x hx=>?_⟩;have h1:=H.elRep hmem (GQ.1 hx).1 hf (he j x hx);have h2:=hm true;rw[<-iz (gL hi)]at h2;exact GoTy.mono (show GoTy.rep w (D0 w0 S (zs M R D) true) _ x from h1) h2
theorem ra {α:Type} [GoTy α] {T:w_}:lrep w T [.slice none 0 0] ([]:List α):=⟨none,0,rfl,GV _,by simp [maxLen],λi x hx=>by simp at hx⟩
theorem wm {z:Array Value} {m:Nat} (hz:z.size=m) (hm:0<m) (c i:Nat) (hi:i<c):((madeCells z (c * m)).toList.drop (i * m)).take m=z.toList:=by
 have hle:i * m + m<=c * m:=by
  have:=Hb m (show i + 1<=c from hi)
  rwa [Iq]at this
 apply IS;intro j;by_cases hj:j<m;rw[G9 hj,Hl];have h1:i * m + j<c * m:=by omega
 have h2:(i * m + j) % z.size=j:=by rw[hz,Jh,Nat.mul_add_mod,Nat.mod_eq_of_lt hj]
 simp [madeCells,h1,h2];rw[getElem!_pos z j (by omega)];simp [show j<z.size by omega];rw[HF (by simp; omega),HF (by simp; omega)]
theorem eK (hf:Fr a n L) (H:O_ w0 S M R D I w) {α:Type} [GoTy α] {T E:TypeId} {z:Value} {bytes:Nat} (hT:P.underlying T=some (.slice E)) (hE:AI P E (GoTy.n α) z bytes) (hz:z.cells.size=GoTy.n α) (hby:bytes<=128) {x y:Operand} {i:Int} {z0:α} {xs:List α}
 (hx:ev L x=some (.int .i64 i)) (hy:ev L y=some (.int .i64 i)) (hz0:GoTy.rep w (St w0 S M R D true) z.cells.toList z0) (hmk:mk z0 i=some xs) (hdn:d<n)
 (k:∀A c a' w',Fr a' n ((d,.slice A xs.length c)::L)->O_ w0 S M (⟨.sh true,E,A,c,xs⟩::R) D I w'->K a' w'):Oper.wp P ⟨some d,.makeSlice T x y,ty,pos,af,g⟩ a w K Q:=by
 unfold mk at hmk;split at hmk
 case isFalse=>cases hmk
 rename_i hi;injection hmk with hmk
 subst hmk;obtain⟨inf,hinf,hpr⟩:=Ht.1 hE;simp only[Ie]at hpr;obtain⟨hz1,hz2,hz3⟩:=hpr;have hb:(inf.bytes:Int) * i<=281474976710656:=by
  rw[hz3]
  have h1:(bytes:Int) * i<=128 * i:=Int.mul_le_mul_of_nonneg_right (by omega) hi.1
  omega
 have hr:=run_make (P:=P) w T E inf z hT hinf hz1 .i64 .i64 i i hi.1 (Iz _) hb (by omega);have h1:(execOp a.eval ⟨some d,.makeSlice T x y,ty,pos,af,g⟩).run P w=.ok (.value (.slice (some ⟨w.heap.size,0,none⟩) i.toNat i.toNat)) (w.alloc (.cells (madeCells z.cells (i.toNat * inf.size)) E)):=by
  simp [execOp,hf.eval hx,hf.eval hy,hr]
 unfold Oper.wp;rw[h1,Oper.upon_value];have H2:=H.newRow (.sh true) rfl E (List.replicate i.toNat z0) (madeCells z.cells (i.toNat * inf.size)).toList i.toNat (by simp) (by simp only[maxLen]; omega) (by simp [size_madeCells,hz2]) trivial (λq e hq=>by
  have hql:q<i.toNat:=by have:=(GQ.1 hq).1; simpa using this
  have he:e=z0:=by
   rw[IL]at hq; simp [hql]at hq; exact hq.symm
  subst he
  show GoTy.rep _ _ (xX α _ q) _
  unfold xX
  rw[hz2,wm hz (GoTy.pos (α:=α)) _ _ hql]
  exact hz0)
 rw[I6]at H2;exact k _ _ _ _ (by have:=hf.put hdn (.slice (some ⟨w.heap.size,0,none⟩) i.toNat i.toNat); simpa using this) H2
def RA (A:c_) (b o k:Nat):Prop:=∃q,A=some ⟨b,q,none⟩/\o=q + k
variable {α:Type} [GoTy α] {cap b off n' m:Nat} {E:TypeId} {vs:p_}
theorem jp (H:O_ w0 S M R D I w) {j:Nat} {kd:Kd} {E:TypeId} {A:c_} {cap:Nat} {xs:List α} (hj:R[j]?=some ⟨kd,E,A,cap,xs⟩) {i:Int} {e:α} (he:V_ xs i=some e) :
 ∃b q,A=some ⟨b,q,none⟩/\∃cs,GoTy.rep w (St w0 S M R D kd.fresh) cs e/\∀k c,cs[k]?=some c->w.cell? ((⟨b,q + i.toNat * GoTy.n α,none⟩:Addr).add k)=some c:=by
 obtain⟨h0,h1,h2⟩:=lW he;have hmem:=GX hj;obtain⟨cells,ho,hf,hel⟩:=H.rowAtK hmem;have hpos:0<xs.length:=by omega
 obtain⟨b,q,rfl⟩:=AH ho hpos;have ht:=ek ho;refine⟨b,q,rfl,_,H.elRep hmem (GQ.1 h2).1 hf (hel _ _ h2),λk c hk=>?_⟩;unfold xX at hk;have hlt:k<GoTy.n α:=by
  have:=(GQ.1 hk).1
  simp only[GO]at this; omega
 have h4:=fG ht (i.toNat * GoTy.n α + k) c;rw[add_lit,II];refine h4 ?_;rw[G9 hlt,Hl]at hk;exact hk
theorem xB (hf:Fr a n L) (H:O_ w0 S M R D I w) {α:Type} [GoTy α] {T E E':TypeId} (hT:P.underlying T=some (.slice E)) (hE:SZ P E (GoTy.n α)) (j:Nat) {kd:Kd} {A:c_} {cap:Nat} {xs:List α} {x y:Operand} {k:IntKind} {i:Int} {e:α}
 (hx:ev L x=some (.slice A xs.length cap)) (hy:ev L y=some (.int k i)) (hj:R[j]?=some ⟨kd,E',A,cap,xs⟩) (he:V_ xs i=some e) (hdn:d<n)
 (kk:∀b o cs a',Fr a' n ((d,.pointer (some ⟨b,o,none⟩))::L)->RA A b o (i.toNat * GoTy.n α)->GoTy.rep w (St w0 S M R D kd.fresh) cs e->(∀q c,cs[q]?=some c->w.cell? ((⟨b,o,none⟩:Addr).add q)=some c)->K a' w) :
 Oper.wp P ⟨some d,.indexAddr T x y,ty,pos,af,g⟩ a w K Q:=by
 obtain⟨h0,h1,h2⟩:=lW he;obtain⟨b,q,rfl,cs,hr,hc⟩:=jp H hj he;have hi:=run_indexAt (P:=P) (w:=w) (cap:=cap) hT hE h0 h1 (p:=⟨b,q,none⟩) (k:=k);rw[add_lit]at hi;exact op_q hf (v:=.pointer (some ⟨b,q + i.toNat * GoTy.n α,none⟩)) (by simp [execOp,hf.eval hx,hf.eval hy,hi]) rfl hdn λa' hf'=>kk b _ cs a' hf' ⟨q,rfl,rfl⟩ hr hc
theorem qf {g o s:Nat} {xs:p_} (h:w.ownsTail E s (.slice (some ⟨g,o,none⟩) n cap) n xs) (j:Nat) (hj:j<n * s) (u:Value) :
 (w.setCell ⟨g,o + j,none⟩ u).ownsTail E s (.slice (some ⟨g,o,none⟩) n cap) n (xs.set j u)/\GB w (w.setCell ⟨g,o + j,none⟩ u) (some g)/\w.frozen? ⟨g,o + j,none⟩=false:=by
 rcases h.2 with ⟨h',_⟩ | ⟨g',o',cap',cur,h',hg,hnc,hcm,hcs,htake⟩
 simp at h';simp only[Value.slice.injEq,Hj,Addr.mk.injEq,and_true,true_and]at h';obtain⟨⟨rfl,rfl⟩,rfl⟩:=h';refine⟨⟨by simpa using h.1,.inr ⟨g,o,cap,cur.setIfInBounds (o + j) u,rfl,heap_setCell_same w g (o + j) cur E u hg,hnc,hcm,by simpa using hcs,?_⟩⟩,
  ⟨⟨rfl,rfl,rfl,by simp,λk _ hk=>heap_setCell_other w ⟨g,o + j,none⟩ k u (λe=>hk (by simp [e]))⟩,GV _⟩,frozen_of_row w g (o + j) cur E hg⟩
 rw[Array.toList_setIfInBounds,<-htake,List.drop_set,if_neg (by omega),List.take_set,Ig]
theorem nR {size:Nat} (o:Nat):∀(vs:p_) (w:World) (q:Nat) (cells:p_),w.ownsTail E size (.slice (some ⟨b,off,none⟩) n' cap) n' cells->(∀v∈vs,v.oneCell'=true)->o + q + vs.length<=cells.length ->
 ∃w',(storeCells ⟨b,off + o,none⟩ vs q).run P w=.ok () w'/\w'.ownsTail E size (.slice (some ⟨b,off,none⟩) n' cap) n' (cells.take (o + q)++vs++cells.drop (o + q + vs.length))/\GB w w' (some b):=by
 intro vs;induction vs with
 | nil =>
  intro w q cells ho _ _
  exact⟨w,by simp [storeCells],by simpa using ho,⟨rfl,rfl,rfl,GV _,λ_ _ _=>rfl⟩,GV _⟩
 | cons v vs ih =>
  intro w q cells ho h1 hlen
  simp only[Hq]at hlen
  have hcl:cells.length=n' * size:=ho.1
  have hcell:w.cell? ⟨b,off + (o + q),none⟩=some (cells[o + q]'(by omega)):=fG ho _ _ (GM (by omega))
  obtain⟨ho1,hg1,hfz⟩:=qf ho (o + q) (by omega) v
  have hst:(store ((⟨b,off + o,none⟩:Addr).add q) v).run P w=.ok () (w.setCell ⟨b,off + (o + q),none⟩ v):=by
   rw[add_lit,II,run_store P w _ v .plain (h1 v (by simp)),hcell]
   simp [hfz]
  obtain⟨w',hr,ho2,hg⟩:=ih _ (q + 1) _ ho1 (λu hu=>h1 u (by simp [hu])) (by simp; omega)
  refine⟨w',by simp [storeCells,hst,hr],?_,GB.trans hg1 hg⟩
  have e1:(cells.set (o + q) v).take (o + (q + 1))=cells.take (o + q)++[v]:=by
   rw[show o + (q + 1)=(o + q) + 1 by omega,Js,Jm (by omega)]
   simp [show o + q<cells.length by omega]
  rw[e1,Jl (by omega)]at ho2
  rw[Hq,show o + q + (vs.length + 1)=o + (q + 1) + vs.length by omega]
  simpa using ho2
theorem oT {B size:Nat} (o:Nat):∀(vs:p_) (w:World) (q:Nat) (cells:p_),w.ownsRow B E size (.slice (some ⟨b,0,none⟩) n' cap) n' cells->(∀v∈vs,v.oneCell'=true)->o + q + vs.length<=cells.length ->
 ∃w',(storeCells ⟨b,o,none⟩ vs q).run P w=.ok () w'/\w'.ownsRow B E size (.slice (some ⟨b,0,none⟩) n' cap) n' (cells.take (o + q)++vs++cells.drop (o + q + vs.length))/\GB w w' (some b):=by
 intro vs;induction vs with
 | nil =>
  intro w q cells ho _ _
  exact⟨w,by simp [storeCells],by simpa using ho,⟨rfl,rfl,rfl,GV _,λ_ _ _=>rfl⟩,GV _⟩
 | cons v vs ih =>
  intro w q cells ho h1 hlen
  simp only[Hq]at hlen
  have hcl:cells.length=n' * size:=ho.1
  have hcell:w.cell? ⟨b,o + q,none⟩=some (cells[o + q]'(by omega)):=by
   rw[ho.cellAt _ (by omega)]; exact GM (by omega)
  have hst:(store ((⟨b,o,none⟩:Addr).add q) v).run P w=.ok () (w.setCell ⟨b,o + q,none⟩ v):=by
   rw[add_lit,run_store P w _ v .plain (h1 v (by simp)),hcell]
   simp [ho.frozenAt]
  obtain⟨ho1,hg1'⟩:=ho.stored (o + q) v
  have hg1:GB w (w.setCell ⟨b,o + q,none⟩ v) (some b):=⟨hg1',GV _⟩
  obtain⟨w',hr,ho2,hg⟩:=ih _ (q + 1) _ ho1 (λu hu=>h1 u (by simp [hu])) (by simp; omega)
  refine⟨w',by simp [storeCells,hst,hr],?_,GB.trans hg1 hg⟩
  have e1:(cells.set (o + q) v).take (o + (q + 1))=cells.take (o + q)++[v]:=by
   rw[show o + (q + 1)=(o + q) + 1 by omega,Js,Jm (by omega)]
   simp [show o + q<cells.length by omega]
  rw[e1,Jl (by omega)]at ho2
  rw[Hq,show o + q + (vs.length + 1)=o + (q + 1) + vs.length by omega]
  simpa using ho2
theorem qg {l:p_} {p q:Nat} (hl:p * m + m<=l.length) (hv:off + vs.length<=m) :
 ((l.take (p * m + off)++vs++l.drop (p * m + off + vs.length)).drop (q * m)).take m =
   if q=p then ((l.drop (p * m)).take m).take off++vs++((l.drop (p * m)).take m).drop (off + vs.length) else (l.drop (q * m)).take m:=by
 apply IS;intro j;by_cases hj:j<m;rw[G9 hj,Hl];have hlen1:(l.take (p * m + off)).length=p * m + off:=by rw[GO]; omega
 by_cases hq:q=p;subst hq;rw[if_pos rfl,GN,GN,HE,HE,hlen1];have hlen2:(((l.drop (q * m)).take m).take off).length=off:=by simp; omega
 rw[HE,HE,hlen2];by_cases h1:j<off;rw[if_pos (by omega),if_pos h1,G9 (by omega),G9 h1,G9 hj,Hl];rw[if_neg (by omega),if_neg h1];by_cases h2:j<off + vs.length;rw[if_pos (by omega),if_pos (by omega)];congr 1; omega;rw[if_neg (by omega),if_neg (by omega),Hl,Hl,G9 (by omega),Hl];congr 1; omega;rw[if_neg hq,G9 hj,Hl,GN,HE,HE,hlen1];rcases JI hq with h | h
 have h1:q * m + m<=p * m:=by
  have:=Hb m (show q + 1<=p from h)
  rwa [Iq]at this
 rw[if_pos (by omega),G9 (by omega)];have h1:p * m + m<=q * m:=by
  have:=Hb m (show p + 1<=q from h)
  rwa [Iq]at this
 rw[if_neg (by omega),if_neg (by omega),Hl];congr 1; omega;rw[HF (by simp; omega)];split
 rw[HF (by simp; omega)];rw[HF (by simp; omega)]
theorem run_store {T:TypeId} (hT:SZ P T m) (hf:Fr a n L) {E:TypeId} {A:c_} {cap:Nat} {xs:List α} {x y:Operand} {b o off:Nat} {i:Int} {e:α} {v:Value} {vs cells:p_} {fr:Bool}
 (hx:ev L x=some (.pointer (some ⟨b,o + off,none⟩))) (hy:ev L y=some v) (hv:v.cells=vs.toArray) (h1:(vs.all Value.oneCell')=true) (hm:vs.length=m) (hoff:off + m<=GoTy.n α)
 (hA:RA A b o (i.toNat * GoTy.n α)) (he:V_ xs i=some e) (ho:w.ownsK fr E (GoTy.n α) (.slice A xs.length cap) xs.length cells) (e':α) :
 ∃w' cells',(execOp a.eval ⟨none,.store T x y,ty,pos,af,g⟩).run P w=.ok .skip w'/\GB w w' (Value.slice A xs.length cap).ownBlock/\w'.ownsK fr E (GoTy.n α) (.slice A (xs.set i.toNat e').length cap) (xs.set i.toNat e').length cells' /\
  ∀q,xX α cells' q=if q=i.toNat then (xX α cells i.toNat).take off++vs++(xX α cells i.toNat).drop (off + vs.length) else xX α cells q:=by
 obtain⟨q0,rfl,rfl⟩:=hA;obtain⟨h0,hlt,hg⟩:=lW he;have hT':∀w,(Go.sizeOf T).run P w=.ok m w:=hT;have hcl:cells.length=xs.length * GoTy.n α:=(ek ho).1;have hle:i.toNat * GoTy.n α + GoTy.n α<=cells.length:=by
  rw[hcl]
  have:=Hb (GoTy.n α) (show i.toNat + 1<=xs.length by omega)
  rwa [Iq]at this
 have hrun:∃w',(storeCells ⟨b,q0 + i.toNat * GoTy.n α + off,none⟩ vs 0).run P w=.ok () w'/\w'.ownsK fr E (GoTy.n α) (.slice (some ⟨b,q0,none⟩) xs.length cap) xs.length (cells.take (i.toNat * GoTy.n α + off + 0)++vs++cells.drop (i.toNat * GoTy.n α + off + 0 + vs.length))/\GB w w' (some b):=by
  cases fr with
  | false =>
   have hq:q0=0:=by
    rcases ho.2 with ⟨hv,-⟩ | ⟨g,cap',cur,hv,-⟩
    · simp at hv
    · simp only[Value.slice.injEq,Hj,Addr.mk.injEq]at hv
      exact hv.1.2.1
   subst hq
   rw[HA]
   exact oT (P:=P) (i.toNat * GoTy.n α + off) vs w 0 cells ho (by simpa using h1) (by omega)
  | true =>
   rw[II]
   exact nR (P:=P) (i.toNat * GoTy.n α + off) vs w 0 cells ho (by simpa using h1) (by omega)
 obtain⟨w',hr,ho2,hg2⟩:=hrun;refine⟨w',_,?_,hg2,by rw[GK]; exact ho2,λq=>?_⟩
 · simp [execOp,Instr.storeAt,Instr.sureAddr,storeVar,hf.eval hx,hf.eval hy,hv,hT',hm,hr]
 · unfold xX
   rw[Hz]
   exact qg hle (by omega)
theorem nG:∀{l l':List (m_)},l'.Sublist l->(List.flatten l').Sublist (List.flatten l)
 | _,_,.slnil=>.slnil
 | _,_,.cons x h=>by rw[I5]; exact (nG h).trans (HT _ _)
 | _,_,.cons_cons x h=>by rw[I5,I5]; exact (I4 _).append (nG h)
theorem getElem?_set' {β:Type} {l:List β} {i q:Nat} {x z:β} (h:(l.set i x)[q]?=some z):(q=i/\z=x)∨(q≠i/\l[q]?=some z):=by
 rw[JN]at h;by_cases hq:i=q;rw[if_pos hq]at h;split at h
 exact .inl ⟨hq.symm,(GJ h).symm⟩;cases h
 rw[if_neg hq]at h; exact .inr ⟨Ne.symm hq,h⟩
theorem yM (hf:Fr a n L) (H:O_ w0 S M R D I w) {α:Type} [GoTy α] {T:TypeId} {m:Nat} (hT:SZ P T m) (j:Nat) {kd:Kd} {E:TypeId} {A:c_} {cap:Nat} {xs:List α} {x y:Operand} {b o off:Nat} {i:Int} {e e':α} {v:Value} {vs:p_}
 (hx:ev L x=some (.pointer (some ⟨b,o + off,none⟩))) (hy:ev L y=some v) (hv:v.cells=vs.toArray) (h1:(vs.all Value.oneCell')=true) (hm:vs.length=m) (hoff:off + m<=GoTy.n α) (hj:R[j]?=some ⟨kd,E,A,cap,xs⟩)
 (hA:RA A b o (i.toNat * GoTy.n α)) (he:V_ xs i=some e) (hnew:∀cs,kd.holds w (St w0 S M R D kd.fresh) i.toNat cs e->kd.holds w (St w0 S M R D kd.fresh) i.toNat (cs.take off++vs++cs.drop (off + vs.length)) e')
 (k:∀w',O_ w0 S M (R.set j ⟨kd,E,A,cap,xs.set i.toNat e'⟩) D I w'->K a w'):Oper.wp P ⟨none,.store T x y,ty,pos,af,g⟩ a w K Q:=by
 have hmem:=GX hj;obtain⟨cells,ho,hfit,hel⟩:=H.rowAtK hmem;obtain⟨w',cells',hr,hg,ho2,hpt⟩:=run_store (ty:=ty) (pos:=pos) (af:=af) (g:=g) hT hf hx hy hv h1 hm hoff hA he ho e';unfold Oper.wp;rw[hr,Oper.upon_skip];have hown:Same w w' kd.fd:=λc hc=>by
  have hp:=gL (M:=M) (D:=D) hj
  have h3:=MemZ.nd (MemZ.perm H hp)
  rw[vf,vt]at h3
  have h4:(Value.slice A xs.length cap).ownBlock.toList++kd.fd=(Row.res ⟨kd,E,A,cap,xs⟩).all:=rfl
  have h5:=(GZ.1 h3).1
  rw[<-h4]at h5
  refine hg.block c (MemZ.lt H c (Hr.2 ⟨_,ql hmem,GI.2 (.inr hc)⟩)).2 λe=>?_
  exact (GZ.1 h5).2.2 c (by rw[<-e]; simp) c hc rfl
 refine k w' (H.reRow hj hg (.inl (by show Value.ownBlock (.slice A (xs.set i.toNat e').length cap)=_; rw[GK]; rfl)) (Iw _) λhmv=>⟨cells',ho2,by show kd.fits (xs.set _ _).length; rw[GK]; exact hfit,λq z hz=>?_⟩);rw[hpt];rcases getElem?_set' hz with ⟨hq,hz⟩ | ⟨hq,hz⟩
 rw[if_pos hq,hq,hz];exact Kd.holds_mono (hnew _ (hel _ _ (lW he).2.2)) hown (hmv _);rw[if_neg hq];exact Kd.holds_mono (hel _ _ hz) hown (hmv _)
theorem cj {T:w_} {e e':α} (hv:GoTy.rep w T vs e'):∀cs,GoTy.rep w T cs e->GoTy.rep w T (cs.take 0++vs++cs.drop (0 + vs.length)) e':=by
 intro cs hc;rw[J6,Hi,HA,HI (by rw[GoTy.len hc,GoTy.len hv]; exact GV _),G8];exact hv
theorem tY (hf:Fr a n L) (H:O_ w0 S M R D I w) {α:Type} [GoTy α] {T E:TypeId} (hT:P.underlying T=some (.slice E)) (hE:SZ P E (GoTy.n α)) {x:Operand} {lo hi:Option Operand} {A:c_} {len cap:Nat} {i j:Int} {xs ys:List α} {f:Bool} (q:Nat)
 (hx:ev L x=some (.slice A len cap)) (hlo:match lo with | some o=>ev L o=some (.int .i64 i) | none=>i=0) (hhi:match hi with | some o=>ev L o=some (.int .i64 j) | none=>j=len)
 (hq:I[q]?=some (f,MP.val [.slice A len cap] xs)) (hs:sub xs i j=some ys) (hdn:d<n)
 (k:∀A' c' a',Fr a' n ((d,.slice A' ys.length c')::L)->O_ w0 S M R D ((f,MP.val [.slice A' ys.length c'] ys)::I) w->K a' w):Oper.wp P ⟨some d,.slice T x lo hi none,ty,pos,af,g⟩ a w K Q:=by
 obtain⟨A',cap',hcs,hlc,hcm,hel⟩:lrep w (St w0 S M R D f) [.slice A len cap] xs:=H.get q hq;simp only[Ho,Value.slice.injEq,and_true]at hcs;obtain⟨rfl,rfl,rfl⟩:=hcs;unfold sub at hs;split at hs
 case isFalse=>cases hs
 rename_i hb;obtain⟨h0,h1,h2⟩:=hb;injection hs with hs
 have hyl:ys.length=j.toNat - i.toNat:=by rw[<-hs]; simp; omega
 have hE':∀w,(Go.sizeOf E).run P w=.ok (GoTy.n α) w:=hE;have hval:(execOp a.eval ⟨some d,.slice T x lo hi none,ty,pos,af,g⟩).run P w=.ok (.value (.slice (if cap=i.toNat then A else A.map (·.add (i.toNat * GoTy.n α))) ys.length (cap - i.toNat))) w:=by
  have hj:(j.toNat:Int)=j:=HG (by omega)
  have hlo':(lo.map a.eval)=none/\i=0∨(lo.map a.eval)=some (.int .i64 i):=by
   cases lo with
   | none=>exact .inl ⟨rfl,hlo⟩
   | some o=>exact .inr (by simp [hf.eval hlo])
  have hhi':(hi.map a.eval)=none/\j=xs.length∨(hi.map a.eval)=some (.int .i64 j):=by
   cases hi with
   | none=>exact .inl ⟨rfl,hhi⟩
   | some o=>exact .inr (by simp [hf.eval hhi])
  have hsl:(Instr.sliceAt T (.slice A xs.length cap) (lo.map a.eval) (hi.map a.eval) none).run P w=.ok (.slice (if cap=i.toNat then A else A.map (·.add (i.toNat * GoTy.n α))) ys.length (cap - i.toNat)) w:=by
   rw[hyl]
   have hsb:(Instr.sliceBounds true xs.length cap (lo.map a.eval) (hi.map a.eval) none).run P w=.ok (i.toNat,j.toNat,cap) w:=by
    rcases hlo' with ⟨e1,rfl⟩ | e1 <;> rcases hhi' with ⟨e2,e3⟩ | e2 <;> rw[e1,e2]
    · subst e3; simp [Instr.sliceBounds]
    · simp [Instr.sliceBounds,Instr.sliceBound,asIntOf,show 0<=j by omega,show j<=cap by omega]
    · subst e3; simp [Instr.sliceBounds,Instr.sliceBound,asIntOf,h0,h1]
    · simp [Instr.sliceBounds,Instr.sliceBound,asIntOf,h0,show 0<=j by omega,show j<=cap by omega,hj,h1]
   simp [Instr.sliceAt,Instr.slice,run_underlying hT,hsb,hE']
  simp [execOp,hf.eval hx,hsl]
 refine op_q hf hval rfl hdn λa' hf'=>k _ _ a' hf' (H.push _ ?_);refine⟨_,_,rfl,by omega,by omega,λt z hz=>?_⟩;have hz':xs[i.toNat + t]?=some z:=by
  rw[<-hs,Hl]at hz
  rw[IY]at hz
  split at hz
  · exact hz
  · cases hz
 obtain⟨p,hp,hSp,cs,hc,hr⟩:=hel _ _ hz';have hlt:=(GQ.1 hz').1;rw[if_neg (by omega),hp];refine⟨p.add (i.toNat * GoTy.n α),rfl,by rw[block_add]; exact hSp,cs,λu c hu=>?_,hr⟩;rw[add_add,<-II,<-HN];exact hc u c hu
end
end
section
section
variable {w w' w1:World} {w0:Base} {S:w_} {M:List Blk} {R:List Row} {D:List DI} {I:List (Bool×MP)}
def VO {α:Type} [GoTy α] (w:World) (F:m_) (v:Value) (x:α):Prop:=∃cs,GoTy.own w F cs x/\v=(bif GoTy.agg α then .agg cs.toArray else cs.headD undef)
def K1 (w w':World) (F:m_):Prop:=F.Nodup/\∀b∈F,w.heap.size<=b/\b<w'.heap.size
def Back (w w':World) (F F':m_):Prop:=F'.Nodup/\∀b∈F',(w.heap.size<=b∨b∈F)/\b<w'.heap.size
variable {α:Type} [GoTy α] {F:m_} {cs:p_} {x:List α}
theorem vK {v:Value} (h:VO w F v x):∃A c,v=.slice A x.length c/\lown w F [.slice A x.length c] x:=by
 obtain⟨cs,h,rfl⟩:=h;obtain⟨A,c,E,cells,Fs,rfl,h'⟩:=id h;exact⟨A,c,rfl,h⟩
theorem yQ (h:GoTy.own w F cs x):∃A c,cs=[.slice A x.length c]/\lown w F [.slice A x.length c] x:=by
 obtain⟨A,c,E,cells,Fs,rfl,h'⟩:=id h;exact⟨A,c,rfl,h⟩
theorem vF {A:c_} {m c:Nat} (h:lown w F [.slice A m c] x):VO w F (.slice A m c) x:=⟨_,h,rfl⟩
theorem AP:lown w [] [.slice none 0 0] ([]:List α):=⟨none,0,0,[],[],rfl,World.ownsRow_nil _ _ _ _,rfl,rfl,λi x Fi hx=>by simp at hx⟩
theorem O_.ownNil (H:O_ w0 S M R D I w) (α:Type) [GoTy α]:O_ w0 S M R (⟨[],MP.own [] [.slice none 0 0] ([]:List α)⟩::D) I w :=
 H.recast (X:=[]) (Y:=[⟨[],MP.own [] [.slice none 0 0] ([]:List α)⟩]) (by simp) λ_ d hd=>by
  rw[GR]at hd; subst hd
  exact⟨AP,λb hb=>hb⟩
theorem O_.diNd {d:DI} (H:O_ w0 S M R (d::D) I w):d.F.Nodup/\∀b∈d.F,w0.nw b/\b<w.heap.size:=by
 have H1:=MemZ.perm H (zK d);have hall:allZ [d.res]=d.F:=by rw[vt]; rfl
 have h1:=MemZ.nd H1;rw[vf,hall]at h1;exact⟨(GZ.1 h1).1,λb hb=>MemZ.lt H1 b (by rw[vf,hall]; exact GI.2 (.inl hb))⟩
theorem O_.ends {X:List DI} (H:O_ ⟨w1,[]⟩ S M R (X++D) I w):K1 w1 w (X.flatMap DI.F):=by
 have H1:=MemZ.perm H (iQ X);have h1:=MemZ.nd H1;rw[vf,eV]at h1;refine⟨(GZ.1 h1).1,λb hb=>?_⟩;obtain⟨h2,h3⟩:=MemZ.lt H1 b (by rw[vf,eV]; exact GI.2 (.inl hb));rcases h2 with h2 | h2
 exact⟨h2,h3⟩;cases h2
theorem O_.ownAt (H:O_ w0 S M R D I w) (j:Nat) {α:Type} [GoTy α] {F:m_} {cs:p_} {x:α} (hj:D[j]?=some ⟨F,MP.own F cs x⟩):GoTy.own w F cs x:=(H.diAt (GX hj)).1
theorem O_.startG {x:α} (S:w_) (h:GoTy.own w1 F cs x) (hn:F.Nodup):O_ ⟨w1,F⟩ S [] [] [⟨F,MP.own F cs x⟩] [] w1:=by
 refine⟨⟨rfl,rfl,rfl,GV _,λ_ _=>rfl,GV _⟩,λb hb=>?_,?_,λr hr=>?_,λf hf=>(by cases hf)⟩
 have hb':b∈F:=by simpa [allZ,zs,Res.all,DI.res] using hb
 exact⟨.inr hb',GoTy.own_lt h b hb'⟩;have:allZ (zs [] [] [⟨F,MP.own F cs x⟩])=F:=by simp [allZ,zs,Res.all,DI.res]
 rw[this]; exact hn;have:r=DI.res ⟨F,MP.own F cs x⟩:=by simpa [zs] using hr
 subst this;exact⟨⟨h,λb hb=>hb⟩,λb hb=>GoTy.own_lt h b hb⟩
theorem O_.chg (H:O_ ⟨w1,F⟩ S M R D I w):Chg w1 w F:=by
 have hb:=MemZ.below H;refine⟨hb.os,hb.tape,hb.output,hb.size,λk hk hn=>hb.block k λh=>?_,hb.drawn⟩;rcases h with h | h
 simp only at h; omega;exact hn h
theorem O_.back {d:DI} (H:O_ ⟨w1,F⟩ S M R (d::D) I w):Back w1 w F d.F:=⟨H.diNd.1,λb hb=>H.diNd.2 b hb⟩
theorem O_.wrote {F':m_} {x x':α} (H:O_ w0 S M R (⟨F,MP.own F cs x⟩::D) I w) (hR:R.all Row.tightB=true) (hc:Chg w w' F) (ho:GoTy.own w' F' cs x') (hb:Back w w' F F') :
 O_ w0 S M R (⟨F',MP.own F' cs x'⟩::D) [] w':=by
 have H1:=MemZ.perm H (zK _);have hall:∀e:DI,allZ [e.res]=e.F:=λe=>by rw[vt]; rfl
 refine MemZ.perm (MemZ.turn (rs:=[DI.res ⟨F,MP.own F cs x⟩]) (rs':=[DI.res ⟨F',MP.own F' cs x'⟩]) H1 (by rw[hall]; exact hc) (λb h=>?_) (by rw[hall]; exact hb.1) (je hR) (λq hq=>?_)) (zK _).symm;rw[hall]at h ⊢;obtain⟨h1,h2⟩:=hb.2 b h;exact h1.elim (λh=>.inr ⟨h,h2⟩) .inl;rw[GR]at hq; subst hq;exact⟨⟨ho,λb h=>h⟩,λb h=>(hb.2 b h).2⟩
structure Lens (α β:Type) [GoTy α] [GoTy β] (q:Nat) (get:α->β) (put:α->β->α):Prop where
 at_:∀{w:World} {F:m_} {cs:p_} {e:α},GoTy.own w F cs e->∃Fa F1 Fc c,F=Fa++(F1++Fc)/\cs[q]?=some c/\GoTy.own w F1 [c] (get e) /\
  ∀(w':World) (F1':m_) (y:β),GoTy.own w' F1' [c] y->Same w w' Fa->Same w w' Fc->GoTy.own w' (Fa++(F1'++Fc)) cs (put e y)
variable {β:Type} [GoTy β] {γ:Type} [GoTy γ]
theorem Lens.fst {q:Nat} {get:α->γ} {put:α->γ->α} (h:Lens α γ q get put):Lens (α×β) γ q (λx=>get x.1) (λx y=>(put x.1 y,x.2)):=by
 refine⟨?_⟩;rintro w F cs e ⟨c1,c2,F1,F2,rfl,rfl,h1,h2⟩;obtain⟨Fa,Fm,Fc,c,rfl,hq,hm,hp⟩:=h.at_ h1;refine⟨Fa,Fm,Fc++F2,c,by simp,?_,hm,λw' F1' y ho ha hc=>?_⟩;rw[List.getElem?_append_left (GQ.1 hq).1]; exact hq;exact⟨c1,c2,Fa++(F1'++Fc),F2,rfl,by simp,hp w' F1' y ho ha (hc.sub λb hb=>GI.2 (.inl hb)),GoTy.own_mono h2 (hc.sub λb hb=>GI.2 (.inr hb))⟩
theorem Lens.snd {q:Nat} {get:β->γ} {put:β->γ->β} (h:Lens β γ q get put):Lens (α×β) γ (GoTy.n α + q) (λx=>get x.2) (λx y=>(x.1,put x.2 y)):=by
 refine⟨?_⟩;rintro w F cs e ⟨c1,c2,F1,F2,rfl,rfl,h1,h2⟩;obtain⟨Fa,Fm,Fc,c,rfl,hq,hm,hp⟩:=h.at_ h2;have hl:c1.length=GoTy.n α:=GoTy.len (GoTy.own_rep h1);refine⟨F1++Fa,Fm,Fc,c,by simp,?_,hm,λw' F1' y ho ha hc=>?_⟩;rw[List.getElem?_append_right (by omega),hl,Ig]; exact hq;exact⟨c1,c2,F1,Fa++(F1'++Fc),rfl,by simp,GoTy.own_mono h1 (ha.sub λb hb=>GI.2 (.inl hb)),hp w' F1' y ho (ha.sub λb hb=>GI.2 (.inr hb)) hc⟩
end
end
section
def Rd (P:Program) (t:TypeId) (α:Type) [GoTy α] (ok:α->Prop):Prop :=
 ∀(H:Type) (enc:TypeId×Value->H) (w:World) (base:Nat) (spare:Nat->Bool) (held:Bool) (fuel:Nat) (cs:p_) (x:DataW H×List MemPlace),
   DataW.trod enc P w base spare held fuel t cs=some x->∃y:α,GoTy.rep w (λ_=>True) cs y/\ok y
theorem mg {α:Type} (P:Nat->α->Prop):∀n,(∀i,i<n->∃x,P i x)->∃l:List α,l.length=n/\∀i x,l[i]?=some x->P i x
 | 0,_=>⟨[],rfl,by simp⟩
 | n + 1,h=>by
  obtain⟨l,hl,hp⟩:=mg P n (λi hi=>h i (by omega))
  obtain⟨x,hx⟩:=h n (by omega)
  refine⟨l++[x],by simp [hl],λi y hy=>?_⟩
  rw[HE]at hy
  split at hy
  · exact hp i y hy
  · rename_i hi
    have:i=n:=by
     have h1:=(GQ.1 hy).1
     simp at h1; omega
    subst this
    rw[hl,Nat.sub_self]at hy
    simp at hy
    subst hy; exact hx
variable {P:Program} {t e:TypeId} {α:Type} [GoTy α]
theorem CF {ok:α->Prop} (ht:P.underlying t=some (.slice e)) (hn:P.cellsOf e=GoTy.n α) (he:Rd P e α ok) :
 Rd P t (List α) (λl=>(∀x∈l,ok x)/\l.length<=9223372036854775807):=by
 intro H enc w base spare held fuel cs x h;rcases Go.Deep.open_slice ht h with ⟨rfl,-⟩ | ⟨a,len,cap,m,n,D,Pl,rfl,-,hl,hm,hmm,-,hi⟩
 exact⟨[],ra,by simp⟩;have hel:∀i,i<len->∃y:α,(ElemAt α w (λ_=>True) a i y)/\ok y:=by
  intro i hlt
  obtain⟨cs',hc,ht'⟩:=hi i (by rw[hmm]; split <;> omega)
  obtain⟨y,hr,ho⟩:=he H enc w base spare held n cs' _ ht'
  refine⟨y,⟨cs',λj c hj=>?_,hr⟩,ho⟩
  obtain⟨_,hcl,hat⟩:=World.cells?_some hc
  have hj':j<P.cellsOf e:=by
   have:=(GQ.1 hj).1
   rw[GoTy.len hr,<-hn]at this; exact this
  have h1:=hat j hj'
  rw[hj,add_add,hn]at h1
  exact h1
 obtain⟨l,hll,hp⟩:=mg _ len hel;subst hll;refine⟨l,⟨some a,cap,rfl,hl,hm,λi x hx=>⟨a,rfl,trivial,(hp i x hx).1⟩⟩,λx hx=>?_,by simp only[maxLen]at hm; omega⟩;obtain⟨i,hi'⟩:=I1.1 hx;exact (hp i x hi').2
theorem CC {ok:α->Prop} (hr:Rd P t α ok) (ha:GoTy.agg α=false) {H:Type} {enc:TypeId×Value->H} {w:World} {base:Nat} {spare:Nat->Bool} {held:Bool} {v:Value} {d:DataW H} {p:List MemPlace}
 (hv:v.cells=#[v]) (h:DataW.Trod enc P w base spare held t v d p):∃y:α,VR w (λ_=>True) v y/\ok y:=by
 obtain⟨fuel,hf⟩:=h;obtain⟨y,hy,ho⟩:=hr H enc w base spare held fuel _ _ hf;exact⟨y,⟨_,hy,by rw[ha,hv]; rfl⟩,ho⟩
theorem qF {w:World} {r:Reach} {base:Nat} {v:Value} (ht:P.underlying t=some (.slice e)) (h:Value.okWide P w r base t v):v.cells=#[v]:=by
 obtain⟨a,l,c,rfl⟩:=Go.WideShapes.okWide_slice ht h; rfl
theorem ai {a b:Bool} (h:a=true) (k:b=true):(a&&b)=true:=by rw[h,k]; rfl
theorem dF:∀(p:List Char) (_:p.all (· != (Char.ofNat (nat_lit 32)))=true) (r:List Char),wordsSigns (p++(Char.ofNat (nat_lit 32))::r)=p::wordsSigns r
 | [],_,_=>rfl
 | c::p,h,r=>by
  simp only[Jn,GP,bne_iff_ne]at h
  have ih:=dF p h.2 r
  rw[ID,wordsSigns,ih]
  exact h.1
theorem CY (P : Program) (sum r : List Char) (h : P.initOrder = String.ofList ("harness".toList ++ (Char.ofNat (nat_lit 32)) :: (sum ++ (Char.ofNat (nat_lit 32)) :: ("cut".toList ++ (Char.ofNat (nat_lit 32)) :: r))))
 (h1 : isSumSigns sum = true) (h2 : sum.all (· != (Char.ofNat (nat_lit 32))) = true) : behindMainWord (wordsSigns P.initOrder.toList) = "cut".toList :: wordsSigns r := by
 rw[h,String.toList_ofList,dF _ (by decide +kernel),dF _ h2,dF _ (by decide +kernel)]
 show (if (("harness".toList == "harness".toList || _) && isSumSigns sum) = true then _ else _) = _
 rw[h1]; simp
theorem CP {R} (h : behindMainWord (wordsSigns P.initOrder.toList) = "cut".toList :: R) : P.make = some .cut := by
 unfold Program.make; rw[h]; rfl
theorem AQ {R} (h : behindMainWord (wordsSigns P.initOrder.toList) = "cut".toList :: R) : P.liftsFinal = false := by
 unfold Program.liftsFinal Program.headLifts; rw[h]; rfl
theorem AZ {R} (h : behindMainWord (wordsSigns P.initOrder.toList) = "cut".toList :: R) (a : P.laysLater = false) (b : P.bearsReflect = false) (c : P.doorRows.isEmpty = true) : P.mayEnter = true := by
 have e : stripLifts liftWords ("cut".toList :: R) = ([], "cut".toList :: R) := rfl
 have c':P.doorRows=[]:=List.isEmpty_iff.mp c
 unfold Program.mayEnter; rw[h]; simp only[e,a,b,Program.doorFits,c']
 cases R <;> rfl
end
end AT
