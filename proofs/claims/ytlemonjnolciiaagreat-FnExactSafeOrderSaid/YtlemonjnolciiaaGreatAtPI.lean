/- Callees that write something that hangs on what they are handed (a map; a slice in a variable that is only read) and that hand data back. -/
import Derived.Test.YtlemonjnolciiaaGreatAtPM
import Derived.Maps.OwnOps
import Derived.Maps.Views
import Derived.Test.YtlemonjnolciiaaGreatAtR
set_option linter.unusedSimpArgs false
set_option linter.unusedVariables false
namespace AT
open Go Go.RowKit Go.WideShapes Go.Maps
section
variable {w w' w1:World} {w0:Base} {S:Nat→Prop} {M:List Blk} {R:List Row} {D:List DI} {I:List (Bool×MP)}
def SD (F:List Nat) (T:Nat→Prop):Nat→Prop:=λc=>c∉F∧T c
variable {d:DI} {G F:List Nat}
theorem Mem.diOff {e:DI} (H:Mem w0 S M R (d::D) I w) {j:Nat} (hj:D[j]?=some e) {c:Nat} (hc:c∈e.F):SD d.F (St w0 S M R (d::D) false) c:=by
 have hnd:=MemZ.nd (MemZ.perm H (xQ d));rw[uD,uA]at hnd;refine⟨λh=>(sA.1 hnd).2.2 c (by simpa [Res.all,DI.res] using h) c (tt.2 ⟨DI.res e,su.2 (.inr (su.2 (.inr (sS.2 ⟨_,sF hj,rfl⟩)))),by simpa [Res.all,DI.res] using hc⟩) rfl,?_⟩;exact MemZ.fd_st H (mN (tH _ (sF hj))) hc _
theorem Mem.ownS (H:Mem w0 S M R (d::D) I w) (j:Nat) {α:Type} [GoTy α] {F2:List Nat} {cv:List Value} {x:α} (hj:D[j]?=some ⟨F2,MP.own F2 cv x⟩):GoTy.rep w (SD d.F (St w0 S M R (d::D) false)) cv x :=
  GoTy.mono (GoTy.own_rep (H.diAt (tH _ (sF hj))).1) λc hc _=>⟨H.diOff hj hc,rfl⟩
theorem Mem.argOff (H:Mem ⟨w1,G⟩ S M R (d::D) I w) (hS:∀c∈G,¬S c) {c:Nat} (hc:S c) (hlt:c<w1.heap.size):SD d.F (St ⟨w1,G⟩ S M R (d::D) false) c∧w.heap[c]?=w1.heap[c]?:=by
 have hn:¬(⟨w1,G⟩:Base).nw c:=by
   rintro (h1 | h1)
   · simp only at h1; omega
   · exact hS c h1 hc
 exact⟨⟨λhx=>hn (H.diNd.2 c hx).1,.inl ⟨rfl,hn,hc⟩⟩,(MemZ.below H).block c hn⟩
theorem Mem.argS (H:Mem ⟨w1,G⟩ S M R (d::D) I w) (hS:∀c∈G,¬S c) {α:Type} [GoTy α] {cv:List Value} {x:α} (h:GoTy.rep w1 S cv x):GoTy.rep w (SD d.F (St ⟨w1,G⟩ S M R (d::D) false)) cv x :=
  GoTy.mono h λc hc hlt=>H.argOff hS hc hlt
theorem Mem.wroteP {F':List Nat} {p p':MP} (H:Mem w0 S M R (⟨F,p⟩::D) I w) (hR:R.all Row.tightB=true) (hc:Chg w w' F) (ho:p'.pred w' (·∈F')) (hb:Back w w' F F'):Mem w0 S M R (⟨F',p'⟩::D) [] w':=by
 have H1:=MemZ.perm H (xQ _);have hall:∀e:DI,allZ [e.res]=e.F:=λe=>by rw[uA]; rfl
 refine MemZ.perm (MemZ.turn (rs:=[DI.res ⟨F,p⟩]) (rs':=[DI.res ⟨F',p'⟩]) H1 (by rw[hall]; exact hc) (λb h=>?_) (by rw[hall]; exact hb.1) (dP hR) (λq hq=>?_)) (xQ _).symm;rw[hall]at h ⊢;obtain⟨h1,h2⟩:=hb.2 b h;exact h1.elim (λh=>.inr ⟨h,h2⟩) .inl;rw[sD]at hq; subst hq;exact⟨ho,λb h=>(hb.2 b h).2⟩
theorem Mem.startP {p:MP} (S:Nat→Prop) (h:p.pred w1 (·∈F)) (hn:F.Nodup) (hl:∀b∈F,b<w1.heap.size):Mem ⟨w1,F⟩ S [] [] [⟨F,p⟩] [] w1:=by
 refine⟨⟨rfl,rfl,rfl,sK _,λ_ _=>rfl,sK _⟩,λb hb=>?_,?_,λr hr=>?_,λf hf=>(by cases hf)⟩
 have hb':b∈F:=by simpa [allZ,zs,Res.all,DI.res] using hb
 exact⟨.inr hb',hl b hb'⟩;have:allZ (zs [] [] [⟨F,p⟩])=F:=by simp [allZ,zs,Res.all,DI.res]
 rw[this]; exact hn;have:r=DI.res ⟨F,p⟩:=by simpa [zs] using hr
 subst this;exact⟨h,hl⟩
theorem Mem.diFront (H:Mem w0 S M R (d::D) I w):d.p.pred w (·∈d.F):=H.diAt tW
theorem Mem.freezeBox (H:Mem w0 S M R D I w) (i:Nat) {b:Nat} {T:TypeId} {cs:List Value} (hi:M[i]?=some ⟨b,T,cs⟩):Mem w0 S (M.eraseIdx i) R (⟨[b],MP.cells ⟨b,0,none⟩ cs⟩::D) I w:=by
 have hp:=jq (R:=R) (D:=D) hi;have H1:=MemZ.perm H hp;have ht:=H.boxTrue i hi;refine MemZ.perm (MemZ.step (rs:=[Blk.res ⟨b,T,cs⟩]) (rs':=[DI.res ⟨[b],MP.cells ⟨b,0,none⟩ cs⟩]) H1 (Chg.refl _ _) (λc hc=>.inl ?_) (λc hc=>?_) ?_ (λ_ q hq=>?_)) (xQ _).symm;rw[uA]at hc ⊢;simpa [Res.all,DI.res,Blk.res] using hc;rw[ym]at hc; cases hc
 simp [allZ,Res.all,DI.res];rw[sD]at hq; subst hq;exact⟨⟨sD.2 rfl,ht.2.1,ht.2.2⟩,λc hc=>by rw[sD]at hc; subst hc; exact ht.2.1⟩
def TX (w0:Base) (S:Nat→Prop) (F:List Nat) (c:Nat):Prop:=(¬w0.nw c∧S c)∨(w0.nw c∧c∉F)
theorem Mem.weakQ {p:MP} {f:Bool} (H:Mem w0 S M R D I w) (j:Nat) (hj:I[j]?=some (f,p)):p.pred w (St w0 S M R D false):=p.mono (H.get j hj) λb hb _=>by
  refine⟨?_,rfl⟩
  rcases hb with ⟨-,h1,h2⟩ | h
  · exact .inl ⟨rfl,h1,h2⟩
  · exact .inr h
theorem l9 (v:Value):v.ownBlock.toList.Nodup:=by cases v.ownBlock <;> simp
theorem jY {r:Row} {c:Nat} (hc:c∈r.v.ownBlock.toList):c∈fmZ (zs M (r::R) D):=tt.2 ⟨r.res,hP tW,hc⟩
variable {α:Type} [GoTy α] {E:TypeId} {A:Option Addr} {cap n:Nat} {xs:List α}
theorem Mem.callRow (H:Mem w0 S M (⟨.sh true,E,A,cap,xs⟩::R) D I w) (hfl:GoTy.flat α=true) (hl:xs.length=n) :
    lown w (Row.v ⟨.sh true,E,A,cap,xs⟩).ownBlock.toList [.slice A n cap] xs∧(Row.v ⟨.sh true,E,A,cap,xs⟩).ownBlock.toList.Nodup∧∀c∈(Row.v ⟨.sh true,E,A,cap,xs⟩).ownBlock.toList,¬St w0 S M (⟨.sh true,E,A,cap,xs⟩::R) D false c:=by
 subst hl;obtain⟨cells,ho,hf,he⟩:=H.rowAt tW;refine⟨⟨A,cap,E,cells,List.replicate xs.length [],rfl,ho,by rw[cf,s5]; rfl,wZ,λj x Fi hx hFi=>?_⟩,l9 _,λc hc h=>?_⟩;have:Fi=[]:=by
   rw[tY]at hFi
   split at hFi
   · exact (sx hFi).symm
   · cases hFi
 subst this;exact GoTy.own_flat hfl (he j x hx);have hm:=jY (M:=M) (R:=R) (D:=D) hc;rcases h with ⟨-,h2,-⟩ | ⟨-,h2⟩
 exact h2 (MemZ.lt H c (zf hm)).1;exact h2 hm
theorem Mem.rowOut (H:Mem ⟨w1,G⟩ S M (⟨.sh true,E,A,cap,xs⟩::R) D I w) (hfl:GoTy.flat α=true) (hl:xs.length=n) :
    lown w (Row.v ⟨.sh true,E,A,cap,xs⟩).ownBlock.toList [.slice A n cap] xs∧Back w1 w G (Row.v ⟨.sh true,E,A,cap,xs⟩).ownBlock.toList :=
  ⟨(H.callRow hfl hl).1,l9 _,λc hc=>MemZ.lt H c (zf (jY hc))⟩
theorem ia {r:Row} {f:Bool} {cs:List Value} {x:α} (h:GoTy.rep w (St w0 S M (r::R) D f) cs x):GoTy.rep w (TX w0 S r.v.ownBlock.toList) cs x :=
  GoTy.mono (uz h) λc hc _=>by
    refine⟨?_,rfl⟩
    rcases hc with ⟨-,h2,h3⟩ | ⟨h1,h2⟩
    · exact .inl ⟨h2,h3⟩
    · exact .inr ⟨h1,λh=>h2 (jY h)⟩
theorem Mem.wroteRow {xs':List α} {F':List Nat} (H:Mem w0 S M (⟨.sh true,E,A,cap,xs⟩::R) D I w) (hfl:GoTy.flat α=true)
    (hc:Chg w w' (Row.v ⟨.sh true,E,A,cap,xs⟩).ownBlock.toList) (ho:lown w' F' [.slice A n cap] xs') (hb:Back w w' (Row.v ⟨.sh true,E,A,cap,xs⟩).ownBlock.toList F') :
    ∃E',xs'.length=n∧Mem w0 S M (⟨.sh true,E',A,cap,xs'⟩::R) D I w' ∧
      Moves w' w' (TX ⟨w,(Row.v ⟨.sh true,E,A,cap,xs⟩).ownBlock.toList⟩ (St w0 S M (⟨.sh true,E,A,cap,xs⟩::R) D false) F') (St w0 S M (⟨.sh true,E',A,cap,xs'⟩::R) D false):=by
 obtain⟨A',cap',E',cells,Fs,hcs,hoR,hF,hlF,hel⟩:=ho;simp only[s4,Value.slice.injEq,and_true]at hcs;obtain⟨rfl,rfl,rfl⟩:=hcs;have H1:=MemZ.perm H (vL _);have hsub:∀c∈(Row.v ⟨.sh true,E',A,cap,xs'⟩).ownBlock.toList,c∈F':=λc hc=>by rw[hF]; exact su.2 (.inl hc)
 have hall:∀{r:Row},r.k=.sh true→allZ [r.res]=r.v.ownBlock.toList:=λ{r} hr=>by
   rw[uA]
   show r.v.ownBlock.toList++r.k.fd=_
   rw[hr]
   exact s5 _
 have hperm:∀(r:Row) (c:Nat),c∈fmZ (zs M (r::R) D)↔c∈r.v.ownBlock.toList∨c∈fmZ (zs M R D):=λr c=>by
   have h1:(fmZ (zs M (r::R) D)).Perm (fmZ ([r.res]++zs M R D)):=(vL (M:=M) (R:=R) (D:=D) r).flatMap_right Res.fm
   rw[h1.mem_iff,dL,ym,su]
   exact Iff.rfl
 refine⟨E',rfl,MemZ.perm (MemZ.step (rs:=[Row.res ⟨.sh true,E,A,cap,xs⟩]) (rs':=[Row.res ⟨.sh true,E',A,cap,xs'⟩]) H1 (by rw[ym]; exact hc) (λc hc=>?_) (λc hc=>?_) (by rw[hall rfl]; exact l9 _) (λ_ q hq=>?_)) (vL _).symm,λc hc hlt=>⟨?_,rfl⟩⟩;rw[hall rfl]at hc ⊢;obtain⟨h1,h2⟩:=hb.2 c (hsub c hc);exact h1.elim (λh=>.inr ⟨h,h2⟩) .inl;rw[ym]at hc ⊢;obtain⟨h1,h2⟩:=hb.2 c (hsub c hc);exact h1.elim .inr .inl;rw[sD]at hq; subst hq;refine⟨cells,hoR,trivial,λj x hx=>?_⟩;have hj:j<Fs.length:=by rw[hlF]; exact (sy.1 hx).1
 exact nA hfl (GoTy.own_rep (hel j x _ hx (sv hj)));have hnw:(Base.mk w (Row.v ⟨.sh true,E,A,cap,xs⟩).ownBlock.toList).nw c→w0.nw c∧c∉fmZ (zs M R D):=λh=>by
   rcases h with h | h
   · refine⟨MemZ.nw_new H h,λh3=>?_⟩
     have:=(MemZ.lt H c (zf ((hperm _ c).2 (.inr h3)))).2
     simp only at h
     omega
   · refine⟨(MemZ.lt H c (zf (jY h))).1,λh3=>?_⟩
     have hnd:=MemZ.nd H1
     rw[uD,hall rfl]at hnd
     exact (sA.1 hnd).2.2 c h c (zf h3) rfl
 rcases hc with ⟨h1,h2⟩ | ⟨h1,h2⟩
 rcases h2 with ⟨-,h3,h4⟩ | ⟨h3,h4⟩
 exact .inl ⟨rfl,h3,h4⟩;refine .inr ⟨h3,λh=>?_⟩;rcases (hperm _ c).1 h with h | h
 exact h1 (hb.2 c (hsub c h)).1;exact h4 ((hperm _ c).2 (.inr h));obtain⟨h3,h4⟩:=hnw h1;refine .inr ⟨h3,λh=>?_⟩;rcases (hperm _ c).1 h with h | h
 exact h2 (hsub c h);exact h4 h
end
theorem gK {P:Program} {w1:World} {S:Nat→Prop} {α:Type} [GoTy α] {T E:TypeId} (hT:P.underlying T=some (.slice E)) (hE:SZ P E (GoTy.n α)) {A:Option Addr} {len cap:Nat} {i:Int} {xs:List α} {e:α}
    (h:lrep w1 S [.slice A len cap] xs) (he:idx xs i=some e) :
    ∃b o cs,(∀w' k,(Instr.indexAt T (.slice A len cap) (.int k i)).run P w'=.ok (.pointer (some ⟨b,o,none⟩)) w')∧GoTy.rep w1 S cs e∧(MP.cells ⟨b,o,none⟩ cs).pred w1 S:=by
 have hm:Moves w1 w1 (St ⟨w1,[]⟩ S [] [] [] false) S:=λc hc hlt=>by
   rcases hc with ⟨-,-,h3⟩ | ⟨h1,-⟩
   · exact⟨h3,rfl⟩
   · rcases h1 with h1 | h1
     · simp only at h1; omega
     · cases h1
 obtain⟨b,o,cs,h1,h2,h3⟩:=um ((Mem.start ⟨w1,[]⟩ S).pushArg (MP.val [.slice A len cap] xs) h) hT hE 0 rfl he;exact⟨b,o,cs,h1,GoTy.mono h2 hm,(MP.cells ⟨b,o,none⟩ cs).mono (h3.get 0 rfl) hm⟩
theorem ov {k:Int} (h:wf64 k=true):(Lit.int .i64 k).wf=true:=by
 unfold wf64 at h;simp only[sH,decide_eq_true_eq]at h;simp [Lit.wf,IntKind.min,IntKind.max,IntKind.signed,IntKind.bits];omega
def MapAt (P:Program) (tk te:TypeId) (w:World) (b:Nat) (m:List (Int×Bool)):Prop :=
  ∃D:DataW Unit,w.ownsMap P tk (plainElem P te) b m.length D∧∀k,D.atKey (.int .i64 k) (.lit (.bool false))=.lit (.bool (mget m k))
theorem iS {P:Program} {tk:TypeId} {Rr:Value→Option (DataW Unit×List MemPlace)} {w w':World} {b n:Nat} {D:DataW Unit} (h:w.ownsMap P tk Rr b n D) (e:w'.heap[b]?=w.heap[b]?):w'.ownsMap P tk Rr b n D:=by
 obtain⟨es,clock,hb,F,hs,hD⟩:=h;exact⟨es,clock,e.trans hb,F,hs,hD⟩
def MP.map (P:Program) (tk te:TypeId) (b:Nat) (m:List (Int×Bool)):MP:=⟨λw S=>MapAt P tk te w b m∧S b,by
  rintro w w' S S' ⟨⟨D,h1,h2⟩,h3⟩ hm
  obtain⟨a1,a2⟩:=hm b h3 h1.lt
  exact⟨⟨D,iS h1 a2,h2⟩,a1⟩⟩
section
variable {w w' w1:World} {w0:Base} {S:Nat→Prop} {M:List Blk} {R:List Row} {D:List DI} {I:List (Bool×MP)}
theorem Mem.startMap {P:Program} {tk te:TypeId} {b:Nat} {m:List (Int×Bool)} (S:Nat→Prop) (h:(MP.map P tk te b m).pred w1 (·∈[b])):Mem ⟨w1,[b]⟩ S [] [] [⟨[b],MP.map P tk te b m⟩] [] w1 :=
  Mem.startP S h (by simp) λc hc=>by
    rw[sD]at hc; subst hc
    obtain⟨⟨_,h1,_⟩,_⟩:=h
    exact h1.lt
end
section
variable {P:Program} {Q:Exit→Act→World→Prop} {a:Act} {w:World} {n:Nat} {L:List (Nat×Value)} {ty:TypeId} {pos:String} {af:Array Edge} {g:Option (Nat×Bool)} {K:Act→World→Prop} {d:Nat} {dst:Option Tmp}
variable {w0:Base} {S:Nat→Prop} {M:List Blk} {R:List Row} {D:List DI} {I:List (Bool×MP)}
theorem kG (hf:Fr a n L) (H:Mem w0 S M R D I w) {T tk te:TypeId} (hdn:d<n)
    (k:∀b a' w',Fr a' n ((d,.map (some b))::L)→Mem w0 S M R (⟨[b],MP.map P tk te b []⟩::D) I w'→K a' w'):Oper.wp P ⟨some d,.makeMap T none,ty,pos,af,g⟩ a w K Q:=by
 have h1:(execOp a.eval ⟨some d,.makeMap T none,ty,pos,af,g⟩).run P w=.ok (.value (.map (some w.heap.size))) (w.alloc (.map #[] 0)):=by
   have:=run_makeMap (P:=P) T w
   simp [execOp,this]
 unfold Oper.wp;rw[h1,Oper.upon_value];refine k _ _ _ (hf.put hdn _) (MemZ.perm (MemZ.step (rs:=[]) (rs':=[DI.res ⟨[w.heap.size],MP.map P tk te w.heap.size []⟩]) H (Chg.alloc w _ _) (λb hb=>.inr ?_) (λb hb=>?_) ?_ (λ_ q hq=>?_)) (xQ _).symm);have:b=w.heap.size:=by simpa [allZ,Res.all,DI.res] using hb
 subst this;exact⟨sK _,by show w.heap.size<(w.heap.push (Obj.map #[] 0)).size; rw[Array.size_push]; omega⟩;rw[ym]at hb; cases hb
 simp [allZ,Res.all,DI.res];rw[sD]at hq; subst hq;exact⟨⟨⟨_,World.ownsMap_made w P tk (plainElem P te),λ_=>rfl⟩,sD.2 rfl⟩,λc hc=>by
   rw[sD]at hc; subst hc; show w.heap.size<(w.heap.push (Obj.map #[] 0)).size; rw[Array.size_push]; omega⟩
theorem lP (hf:Fr a n L) (H:Mem w0 S M R D I w) {T tk te:TypeId} (hT:P.underlying T=some (.map tk te)) (hk:P.underlying tk=some (.int .i64)) (he:P.underlying te=some .bool) (hz:∀w,(zeroValue te).run P w=.ok (.bool false) w) {x y:Operand} {b:Nat} {m:List (Int×Bool)} {q:Int} {v:Bool} (j:Nat)
    (hx:ev L x=some (.map (some b))) (hy:ev L y=some (.int .i64 q)) (hj:D[j]?=some ⟨[b],MP.map P tk te b m⟩) (hv:kK m q=some v):(execOp a.eval ⟨dst,.lookup T x y false,ty,pos,af,g⟩).run P w=.ok (.value (.bool v)) w:=by
  obtain⟨⟨Dm,h1,h2⟩,-⟩:=H.diAt (sF hj);unfold kK at hv;split at hv
  case isFalse=>cases hv
  rename_i hw;injection hv with hv
  obtain⟨r,ps,hr,hR⟩:=h1.lookup (int_keyed hk) hT (hz w) (plainElem_bool he false) (keyOf_int_mk hk (ov hw));have hR':plainElem P te r=some ((.lit (.bool v):DataW Unit),ps):=by rw[hR,h2 q,hv]
  have:r=.bool v:=by
    unfold plainElem at hR'
    rw[he]at hR'
    cases r <;> simp at hR'
    exact congrArg Value.bool hR'.1
  subst this;simp [execOp,hf.eval hx,hf.eval hy,hr]
theorem iV (hf:Fr a n L) (H:Mem w0 S M R D I w) {T tk te:TypeId} (hT:P.underlying T=some (.map tk te)) (hk:P.underlying tk=some (.int .i64)) (he:P.underlying te=some .bool) {x y z:Operand} {b:Nat} {m m':List (Int×Bool)} {q:Int} {v:Bool}
    (hx:ev L x=some (.map (some b))) (hy:ev L y=some (.int .i64 q)) (hz:ev L z=some (.bool v)) (hj:D[0]?=some ⟨[b],MP.map P tk te b m⟩) (hR:R.all Row.tightB=true) (hv:kH m q v=some m')
    (k:∀w',Mem w0 S M R (⟨[b],MP.map P tk te b m'⟩::D.eraseIdx 0) [] w'→K a w'):Oper.wp P ⟨none,.mapUpdate T x y z,ty,pos,af,g⟩ a w K Q:=by
  obtain⟨⟨Dm,h1,h2⟩,-⟩:=H.diAt (sF hj);unfold kH at hv;split at hv
  case isFalse=>cases hv
  rename_i hw;injection hv with hv
  subst hv;obtain⟨w',hr,h3,h4⟩:=h1.update (int_keyed hk) hT (tI hw.2 (by decide)) (keyOf_int_mk hk (ov hw.1)) (plainElem_bool he v);have hrun:(execOp a.eval ⟨none,.mapUpdate T x y z,ty,pos,af,g⟩).run P w=.ok .skip w':=by
    simp [execOp,hf.eval hx,hf.eval hy,hf.eval hz,hr]
  unfold Oper.wp;rw[hrun,Oper.upon_skip];have hD:D=⟨[b],MP.map P tk te b m⟩::D.eraseIdx 0:=by
    cases D with
    | nil=>cases hj
    | cons e D=>simp at hj; subst hj; rfl
  rw[hD]at H;have hMap:Go.Maps.IsMap Dm:=by
    obtain⟨es,clock,hb,F,hs,hD⟩:=h1
    exact⟨_,hD⟩
  have hd:w.drawn≤w'.drawn:=by
    obtain⟨es,clock,hb,F,hs,-⟩:=h1
    obtain⟨es',clock',hrun2,-⟩:=Maps.fit_store (R':=plainElem P te) (int_keyed hk) hT hb F (Nat.lt_of_le_of_lt hs (tI hw.2 (by decide))) (λ_ _ _ _ hz=>hz) (keyOf_int_mk hk (ov hw.1)) (plainElem_bool he v)
    rw[hr]at hrun2
    injection hrun2 with _ e
    rw[e]; exact sK _
  refine k w' (Mem.wroteP H hR ⟨h4.os,h4.tape,h4.output,h4.size,λc hc hn=>h4.block c hc λe=>hn (by injection e with e; subst e; simp),hd⟩ ⟨⟨_,h3,λkk=>?_⟩,sD.2 rfl⟩ ⟨by simp,λc hc=>?_⟩)
  · rw[iX]
    by_cases e:q=kk
    · subst e
      rw[if_pos rfl]
      exact Go.Maps.atKey_put_same (k:=.int .i64 q) hMap trivial _ _
    · rw[if_neg e,←h2 kk]
      exact Go.Maps.atKey_put_other (λh=>e (by injection h with _ h; exact h.symm)) _ _
  · rw[sD]at hc; subst hc
    exact⟨.inr (by simp),h3.lt⟩
end
section
variable {P:Program} {S:World→Prop} {B:List Nat} {l:List Oper} {bs:List Bool} {a:Act} {w:World} {fuel:Nat} {Mid:Act→World→Prop}
end
end AT
namespace AT
def ltO {α:Type} (cmp:α→α→Option Int) (a b:α):Bool:=match cmp a b with
  | some c=>decide (c<0)
  | none=>false
structure SoF {α:Type} (cmp:α→α→Option Int) (l:List α):Prop where
  irr:∀a∈l,ltO cmp a a=false
  tot:∀a∈l,∀b∈l,ltO cmp a b=false→ltO cmp b a=false→a=b
  trans:∀a∈l,∀b∈l,∀c∈l,ltO cmp a b=true→ltO cmp b c=true→ltO cmp a c=true
  some_:∀a∈l,∀b∈l,(cmp a b).isSome=true
  len:l.length<4611686018427387904
end AT
namespace AT
def nr (l:List Int):Option (List Int):=if l.length<4611686018427387904 then some (l.mergeSort λx y=>decide (x≤y)) else none
def cB (p:Int):List Int→List Int
  | []=>[]
  | b::l=>if b=p then cB b l else b::cB b l
def gF:List Int→List Int
  | []=>[]
  | a::l=>a::cB a l
def delO {α σ:Type} (del:α→σ→Option (Bool×σ)):List α→σ→Option (List α×σ)
  | [],s=>some ([],s)
  | a::l,s=>(del a s).bind λr=>(delO del l r.2).bind λq=>some (if r.1 then q.1 else a::q.1,q.2)
theorem mO {α σ:Type} {del:α→σ→Option (Bool×σ)} {a:α} {l:List α} {s:σ} {q:List α×σ} (h:delO del (a::l) s=some q):∃b s' q',del a s=some (b,s')∧delO del l s'=some (q',q.2)∧q.1=if b then q' else a::q':=by
 unfold delO at h;cases h1:del a s with
 | none=>rw[h1]at h; cases h
 | some r =>
   rw[h1,ss]at h
   cases h2:delO del l r.2 with
   | none=>rw[h2]at h; cases h
   | some q2 =>
     rw[h2,ss]at h
     injection h with h
     subst h
     exact⟨r.1,r.2,q2.1,rfl,h2,rfl⟩
theorem gQ (b:Int):∀(l:List Int) (p:Int),cB p (l++[b])=cB p l++if b=(l.getLast?).getD p then [] else [b]
  | [],p=>by
    show (if b=p then cB b [] else b::cB b [])=_
    by_cases h:b=p <;> simp [cB,h]
  | a::l,p=>by
    have ih:=gQ b l a
    have e:((a::l).getLast?).getD p=(l.getLast?).getD a:=by
      cases l with
      | nil=>rfl
      | cons c l=>simp [Ao,List.getLast?_cons]
    show (if a=p then cB a (l++[b]) else a::cB a (l++[b]))=(if a=p then cB a l else a::cB a l)++_
    rw[ih,e]
    split <;> simp
theorem k6 (b:Int) (l:List Int):gF (l++[b])=gF l++if l≠[]∧b=(l.getLast?).getD 0 then [] else [b]:=by
 cases l with
 | nil=>simp [gF,cB]
 | cons a l =>
   show a::cB a (l++[b])=a::cB a l++_
   rw[gQ]
   have e:((a::l).getLast?).getD 0=(l.getLast?).getD a:=by
     cases l with
     | nil=>rfl
     | cons c l=>simp [Ao,List.getLast?_cons]
   rw[e]
   simp
end AT
