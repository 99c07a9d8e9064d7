/- Callees that write something that hangs on what they are handed (a map; a slice in a variable that is only read) and that hand data back. -/
import Derived.Test.YtlemonjnolciiaaGreatAtPM
import Derived.Maps.OwnOps
import Derived.Maps.Views
set_option linter.unusedSimpArgs false
set_option linter.unusedVariables false
namespace AT
open Go Go.RowKit Go.WideShapes Go.Maps
section
variable {w w' w1:World} {w0:Base} {S:Nat→Prop} {M:List Blk} {R:List Row} {D:List DI} {I:List (Bool×MP)}
def SD (F:List Nat) (T:Nat→Prop):Nat→Prop:=fun c=>c∉F∧T c
theorem Mem.diOff {d e:DI} (H:Mem w0 S M R (d::D) I w) {j:Nat} (hj:D[j]?=some e) {c:Nat} (hc:c∈e.F):SD d.F (St w0 S M R (d::D) false) c:=by
 have hnd:=MemZ.nd (MemZ.perm H (zZ d))
 rw [u7,u6] at hnd
 refine ⟨fun h=>(List.nodup_append.1 hnd).2.2 c (by simpa [Res.all,DI.res] using h) c (List.mem_flatMap.2 ⟨DI.res e,List.mem_append.2 (.inr (List.mem_append.2 (.inr (List.mem_map.2 ⟨_,List.mem_of_getElem? hj,rfl⟩)))),by simpa [Res.all,DI.res] using hc⟩) rfl,?_⟩
 exact MemZ.fd_st H (gg3 (List.mem_cons_of_mem _ (List.mem_of_getElem? hj))) hc _
theorem Mem.ownS {d:DI} (H:Mem w0 S M R (d::D) I w) (j:Nat) {α:Type} [GoTy α] {F2:List Nat} {cv:List Value} {x:α} (hj:D[j]?=some ⟨F2,MP.own F2 cv x⟩):GoTy.rep w (SD d.F (St w0 S M R (d::D) false)) cv x :=
  GoTy.mono (GoTy.own_rep (H.diAt (List.mem_cons_of_mem _ (List.mem_of_getElem? hj))).1) fun c hc _=>⟨H.diOff hj hc,rfl⟩
theorem Mem.argOff {G:List Nat} {d:DI} (H:Mem ⟨w1,G⟩ S M R (d::D) I w) (hS:∀ c∈G,¬S c) {c:Nat} (hc:S c) (hlt:c<w1.heap.size):SD d.F (St ⟨w1,G⟩ S M R (d::D) false) c∧w.heap[c]?=w1.heap[c]?:=by
 have hn:¬(⟨w1,G⟩:Base).nw c:=by
   rintro (h1 | h1)
   · simp only at h1; omega
   · exact hS c h1 hc
 exact ⟨⟨fun hx=>hn (H.diNd.2 c hx).1,.inl ⟨rfl,hn,hc⟩⟩,(MemZ.below H).block c hn⟩
theorem Mem.argS {G:List Nat} {d:DI} (H:Mem ⟨w1,G⟩ S M R (d::D) I w) (hS:∀ c∈G,¬S c) {α:Type} [GoTy α] {cv:List Value} {x:α} (h:GoTy.rep w1 S cv x):GoTy.rep w (SD d.F (St ⟨w1,G⟩ S M R (d::D) false)) cv x :=
  GoTy.mono h fun c hc hlt=>H.argOff hS hc hlt
theorem gjJ {d d':DI} {f:Bool}:St w0 S M R (d::D) f=St w0 S M R (d'::D) f:=by
 unfold St
 have e:fmZ (zs M R (d::D))=fmZ (zs M R (d'::D)):=by
   unfold zs
   simp [fmZ,DI.res]
 funext b
 unfold StZ
 rw [e]
theorem Mem.movesD {d d' d2:DI} (H:Mem w0 S M R (d::D) I w):Moves w' w' (St ⟨w,d.F⟩ (SD d.F (St w0 S M R (d::D) false)) [] [] [d2] false) (St w0 S M R (d'::D) false):=by
 intro c hc _
 refine ⟨?_,rfl⟩
 rw [gjJ (d':=d)]
 rcases hc with ⟨-,-,h⟩ | ⟨h1,h2⟩
 exact h.2
 rcases h1 with h1 | h1
 refine .inr ⟨MemZ.nw_new H h1,fun h3=>?_⟩
 have:=(MemZ.lt H c (zE h3)).2
 simp only at h1
 omega
 exact MemZ.fd_st H (gg3 (List.mem_cons_self)) h1 _
theorem gd6 {d:DI} {f:Bool} {α:Type} [GoTy α] {cs:List Value} {x:α} (h:GoTy.rep w (St w0 S M R (d::D) f) cs x):GoTy.rep w (St w0 S [] [] [d] false) cs x :=
  GoTy.mono (show GoTy.rep w (St w0 S M R (d::D) false) cs x by
    cases f
    · exact h
    · exact uK h) fun c hc _=>by
    refine ⟨?_,rfl⟩
    rcases hc with hc | ⟨h1,h2⟩
    · exact .inl hc
    · refine .inr ⟨h1,fun h3=>?_⟩
      simp [fmZ,zs,DI.res] at h3
theorem Mem.wroteP {F F':List Nat} {p p':MP} (H:Mem w0 S M R (⟨F,p⟩::D) I w) (hR:R.all Row.tightB=true) (hc:Chg w w' F) (ho:p'.pred w' (·∈F')) (hb:Back w w' F F'):Mem w0 S M R (⟨F',p'⟩::D) [] w':=by
 have H1:=MemZ.perm H (zZ _)
 have hall:∀ e:DI,allZ [e.res]=e.F:=fun e=>by rw [u6]; rfl
 refine MemZ.perm (MemZ.turn (rs:=[DI.res ⟨F,p⟩]) (rs':=[DI.res ⟨F',p'⟩]) H1 (by rw [hall]; exact hc) (fun b h=>?_) (by rw [hall]; exact hb.1) (ge8 hR) (fun q hq=>?_)) (zZ _).symm
 rw [hall] at h ⊢
 obtain ⟨h1,h2⟩:=hb.2 b h
 exact h1.elim (fun h=>.inr ⟨h,h2⟩) .inl
 rw [List.mem_singleton] at hq; subst hq
 exact ⟨ho,fun b h=>(hb.2 b h).2⟩
theorem Mem.startP {F:List Nat} {p:MP} (S:Nat→Prop) (h:p.pred w1 (·∈F)) (hn:F.Nodup) (hl:∀ b∈F,b<w1.heap.size):Mem ⟨w1,F⟩ S [] [] [⟨F,p⟩] [] w1:=by
 refine ⟨⟨rfl,rfl,rfl,Nat.le_refl _,fun _ _=>rfl⟩,fun b hb=>?_,?_,fun r hr=>?_,fun f hf=>(by cases hf)⟩
 have hb':b∈F:=by simpa [allZ,zs,Res.all,DI.res] using hb
 exact ⟨.inr hb',hl b hb'⟩
 have:allZ (zs [] [] [⟨F,p⟩])=F:=by simp [allZ,zs,Res.all,DI.res]
 rw [this]; exact hn
 have:r=DI.res ⟨F,p⟩:=by simpa [zs] using hr
 subst this
 exact ⟨h,hl⟩
theorem Mem.diFront {d:DI} (H:Mem w0 S M R (d::D) I w):d.p.pred w (·∈d.F):=H.diAt List.mem_cons_self
theorem Mem.freezeBox (H:Mem w0 S M R D I w) (i:Nat) {b:Nat} {T:TypeId} {cs:List Value} (hi:M[i]?=some ⟨b,T,cs⟩):Mem w0 S (M.eraseIdx i) R (⟨[b],MP.cells ⟨b,0,none⟩ cs⟩::D) I w:=by
 have hp:=gec (R:=R) (D:=D) hi
 have H1:=MemZ.perm H hp
 have ht:=H.boxTrue i hi
 refine MemZ.perm (MemZ.step (rs:=[Blk.res ⟨b,T,cs⟩]) (rs':=[DI.res ⟨[b],MP.cells ⟨b,0,none⟩ cs⟩]) H1 (Chg.refl _ _) (fun c hc=>.inl ?_) (fun c hc=>?_) ?_ (fun _ q hq=>?_)) (zZ _).symm
 rw [u6] at hc ⊢
 simpa [Res.all,DI.res,Blk.res] using hc
 rw [yR] at hc; cases hc
 simp [allZ,Res.all,DI.res]
 rw [List.mem_singleton] at hq; subst hq
 exact ⟨⟨List.mem_singleton.2 rfl,ht.2.1,ht.2.2⟩,fun c hc=>by rw [List.mem_singleton] at hc; subst hc; exact ht.2.1⟩
def TX (w0:Base) (S:Nat→Prop) (F:List Nat) (c:Nat):Prop:=(¬w0.nw c∧S c)∨(w0.nw c∧c∉F)
theorem Mem.weakQ {p:MP} {f:Bool} (H:Mem w0 S M R D I w) (j:Nat) (hj:I[j]?=some (f,p)):p.pred w (St w0 S M R D false):=p.mono (H.get j hj) fun b hb _=>by
  refine ⟨?_,rfl⟩
  rcases hb with ⟨-,h1,h2⟩ | h
  · exact .inl ⟨rfl,h1,h2⟩
  · exact .inr h
theorem gh9 (v:Value):v.ownBlock.toList.Nodup:=by cases v.ownBlock <;> simp
theorem ggR {r:Row} {c:Nat} (hc:c∈r.v.ownBlock.toList):c∈fmZ (zs M (r::R) D):=List.mem_flatMap.2 ⟨r.res,gfh List.mem_cons_self,hc⟩
theorem Mem.callRow {α:Type} [GoTy α] {E:TypeId} {A:Option Addr} {cap n:Nat} {xs:List α} (H:Mem w0 S M (⟨.sh true,E,A,cap,xs⟩::R) D I w) (hfl:GoTy.flat α=true) (hl:xs.length=n) :
    lown w (Row.v ⟨.sh true,E,A,cap,xs⟩).ownBlock.toList [.slice A n cap] xs∧(Row.v ⟨.sh true,E,A,cap,xs⟩).ownBlock.toList.Nodup∧∀ c∈(Row.v ⟨.sh true,E,A,cap,xs⟩).ownBlock.toList,¬St w0 S M (⟨.sh true,E,A,cap,xs⟩::R) D false c:=by
 subst hl
 obtain ⟨cells,ho,hf,he⟩:=H.rowAt List.mem_cons_self
 refine ⟨⟨A,cap,E,cells,List.replicate xs.length [],rfl,ho,by rw [gew,List.append_nil]; rfl,List.length_replicate,fun j x Fi hx hFi=>?_⟩,gh9 _,fun c hc h=>?_⟩
 have:Fi=[]:=by
   rw [List.getElem?_replicate] at hFi
   split at hFi
   · exact (Option.some.inj hFi).symm
   · cases hFi
 subst this
 exact GoTy.own_flat hfl (he j x hx)
 have hm:=ggR (M:=M) (R:=R) (D:=D) hc
 rcases h with ⟨-,h2,-⟩ | ⟨-,h2⟩
 exact h2 (MemZ.lt H c (zE hm)).1
 exact h2 hm
theorem Mem.rowOut {G:List Nat} {α:Type} [GoTy α] {E:TypeId} {A:Option Addr} {cap n:Nat} {xs:List α} (H:Mem ⟨w1,G⟩ S M (⟨.sh true,E,A,cap,xs⟩::R) D I w) (hfl:GoTy.flat α=true) (hl:xs.length=n) :
    lown w (Row.v ⟨.sh true,E,A,cap,xs⟩).ownBlock.toList [.slice A n cap] xs∧Back w1 w G (Row.v ⟨.sh true,E,A,cap,xs⟩).ownBlock.toList :=
  ⟨(H.callRow hfl hl).1,gh9 _,fun c hc=>MemZ.lt H c (zE (ggR hc))⟩
theorem gfi {r:Row} {f:Bool} {α:Type} [GoTy α] {cs:List Value} {x:α} (h:GoTy.rep w (St w0 S M (r::R) D f) cs x):GoTy.rep w (TX w0 S r.v.ownBlock.toList) cs x :=
  GoTy.mono (uK h) fun c hc _=>by
    refine ⟨?_,rfl⟩
    rcases hc with ⟨-,h2,h3⟩ | ⟨h1,h2⟩
    · exact .inl ⟨h2,h3⟩
    · exact .inr ⟨h1,fun h=>h2 (ggR h)⟩
theorem Mem.wroteRow {α:Type} [GoTy α] {E:TypeId} {A:Option Addr} {cap n:Nat} {xs xs':List α} {F':List Nat} (H:Mem w0 S M (⟨.sh true,E,A,cap,xs⟩::R) D I w) (hfl:GoTy.flat α=true)
    (hc:Chg w w' (Row.v ⟨.sh true,E,A,cap,xs⟩).ownBlock.toList) (ho:lown w' F' [.slice A n cap] xs') (hb:Back w w' (Row.v ⟨.sh true,E,A,cap,xs⟩).ownBlock.toList F') :
    ∃ E',xs'.length=n∧Mem w0 S M (⟨.sh true,E',A,cap,xs'⟩::R) D I w' ∧
      Moves w' w' (TX ⟨w,(Row.v ⟨.sh true,E,A,cap,xs⟩).ownBlock.toList⟩ (St w0 S M (⟨.sh true,E,A,cap,xs⟩::R) D false) F') (St w0 S M (⟨.sh true,E',A,cap,xs'⟩::R) D false):=by
 obtain ⟨A',cap',E',cells,Fs,hcs,hoR,hF,hlF,hel⟩:=ho
 simp only [List.cons.injEq,Value.slice.injEq,and_true] at hcs
 obtain ⟨rfl,rfl,rfl⟩:=hcs
 have H1:=MemZ.perm H (xI _)
 have hsub:∀ c∈(Row.v ⟨.sh true,E',A,cap,xs'⟩).ownBlock.toList,c∈F':=fun c hc=>by rw [hF]; exact List.mem_append.2 (.inl hc)
 have hall:∀ {r:Row},r.k=.sh true→allZ [r.res]=r.v.ownBlock.toList:=fun {r} hr=>by
   rw [u6]
   show r.v.ownBlock.toList++r.k.fd=_
   rw [hr]
   exact List.append_nil _
 have hperm:∀ (r:Row) (c:Nat),c∈fmZ (zs M (r::R) D)↔c∈r.v.ownBlock.toList∨c∈fmZ (zs M R D):=fun r c=>by
   have h1:(fmZ (zs M (r::R) D)).Perm (fmZ ([r.res]++zs M R D)):=(xI (M:=M) (R:=R) (D:=D) r).flatMap_right Res.fm
   rw [h1.mem_iff,gc2,yR,List.mem_append]
   exact Iff.rfl
 refine ⟨E',rfl,MemZ.perm (MemZ.step (rs:=[Row.res ⟨.sh true,E,A,cap,xs⟩]) (rs':=[Row.res ⟨.sh true,E',A,cap,xs'⟩]) H1 (by rw [yR]; exact hc) (fun c hc=>?_) (fun c hc=>?_) (by rw [hall rfl]; exact gh9 _) (fun _ q hq=>?_)) (xI _).symm,fun c hc hlt=>⟨?_,rfl⟩⟩
 rw [hall rfl] at hc ⊢
 obtain ⟨h1,h2⟩:=hb.2 c (hsub c hc)
 exact h1.elim (fun h=>.inr ⟨h,h2⟩) .inl
 rw [yR] at hc ⊢
 obtain ⟨h1,h2⟩:=hb.2 c (hsub c hc)
 exact h1.elim .inr .inl
 rw [List.mem_singleton] at hq; subst hq
 refine ⟨cells,hoR,trivial,fun j x hx=>?_⟩
 have hj:j<Fs.length:=by rw [hlF]; exact (List.getElem?_eq_some_iff.1 hx).1
 exact gjd hfl (GoTy.own_rep (hel j x _ hx (List.getElem?_eq_getElem hj)))
 have hnw:(Base.mk w (Row.v ⟨.sh true,E,A,cap,xs⟩).ownBlock.toList).nw c→w0.nw c∧c∉fmZ (zs M R D):=fun h=>by
   rcases h with h | h
   · refine ⟨MemZ.nw_new H h,fun h3=>?_⟩
     have:=(MemZ.lt H c (zE ((hperm _ c).2 (.inr h3)))).2
     simp only at h
     omega
   · refine ⟨(MemZ.lt H c (zE (ggR h))).1,fun h3=>?_⟩
     have hnd:=MemZ.nd H1
     rw [u7,hall rfl] at hnd
     exact (List.nodup_append.1 hnd).2.2 c h c (zE h3) rfl
 rcases hc with ⟨h1,h2⟩ | ⟨h1,h2⟩
 rcases h2 with ⟨-,h3,h4⟩ | ⟨h3,h4⟩
 exact .inl ⟨rfl,h3,h4⟩
 refine .inr ⟨h3,fun h=>?_⟩
 rcases (hperm _ c).1 h with h | h
 exact h1 (hb.2 c (hsub c h)).1
 exact h4 ((hperm _ c).2 (.inr h))
 obtain ⟨h3,h4⟩:=hnw h1
 refine .inr ⟨h3,fun h=>?_⟩
 rcases (hperm _ c).1 h with h | h
 exact h2 (hsub c h)
 exact h4 h
end
theorem ge0 {P:Program} {w1:World} {S:Nat→Prop} {α:Type} [GoTy α] {T E:TypeId} (hT:P.underlying T=some (.slice E)) (hE:SZ P E (GoTy.n α)) {A:Option Addr} {len cap:Nat} {i:Int} {xs:List α} {e:α}
    (h:lrep w1 S [.slice A len cap] xs) (he:idx xs i=some e) :
    ∃ b o cs,(∀ w' k,(Instr.indexAt T (.slice A len cap) (.int k i)).run P w'=.ok (.pointer (some ⟨b,o,none⟩)) w')∧GoTy.rep w1 S cs e∧(MP.cells ⟨b,o,none⟩ cs).pred w1 S:=by
 have hm:Moves w1 w1 (St ⟨w1,[]⟩ S [] [] [] false) S:=fun c hc hlt=>by
   rcases hc with ⟨-,-,h3⟩ | ⟨h1,-⟩
   · exact ⟨h3,rfl⟩
   · rcases h1 with h1 | h1
     · simp only at h1; omega
     · cases h1
 obtain ⟨b,o,cs,h1,h2,h3⟩:=ux ((Mem.start ⟨w1,[]⟩ S).pushArg (MP.val [.slice A len cap] xs) h) hT hE 0 rfl he
 exact ⟨b,o,cs,h1,GoTy.mono h2 hm,(MP.cells ⟨b,o,none⟩ cs).mono (h3.get 0 rfl) hm⟩
theorem gkK {k:Int} (h:wf64 k=true):(Lit.int .i64 k).wf=true:=by
 unfold wf64 at h
 simp only [Bool.and_eq_true,decide_eq_true_eq] at h
 simp [Lit.wf,IntKind.min,IntKind.max,IntKind.signed,IntKind.bits]
 omega
def MapAt (P:Program) (tk te:TypeId) (w:World) (b:Nat) (m:List (Int×Bool)):Prop :=
  ∃ D:DataW Unit,w.ownsMap P tk (plainElem P te) b m.length D∧∀ k,D.atKey (.int .i64 k) (.lit (.bool false))=.lit (.bool (mget m k))
theorem gfR {P:Program} {tk:TypeId} {Rr:Value→Option (DataW Unit×List MemPlace)} {w w':World} {b n:Nat} {D:DataW Unit} (h:w.ownsMap P tk Rr b n D) (e:w'.heap[b]?=w.heap[b]?):w'.ownsMap P tk Rr b n D:=by
 obtain ⟨es,clock,hb,F,hs,hD⟩:=h
 exact ⟨es,clock,e.trans hb,F,hs,hD⟩
def MP.map (P:Program) (tk te:TypeId) (b:Nat) (m:List (Int×Bool)):MP:=⟨fun w S=>MapAt P tk te w b m∧S b,by
  rintro w w' S S' ⟨⟨D,h1,h2⟩,h3⟩ hm
  obtain ⟨a1,a2⟩:=hm b h3 h1.lt
  exact ⟨⟨D,gfR h1 a2,h2⟩,a1⟩⟩
section
variable {w w' w1:World} {w0:Base} {S:Nat→Prop} {M:List Blk} {R:List Row} {D:List DI} {I:List (Bool×MP)}
theorem Mem.startMap {P:Program} {tk te:TypeId} {b:Nat} {m:List (Int×Bool)} (S:Nat→Prop) (h:(MP.map P tk te b m).pred w1 (·∈[b])):Mem ⟨w1,[b]⟩ S [] [] [⟨[b],MP.map P tk te b m⟩] [] w1 :=
  Mem.startP S h (by simp) fun c hc=>by
    rw [List.mem_singleton] at hc; subst hc
    obtain ⟨⟨_,h1,_⟩,_⟩:=h
    exact h1.lt
theorem Mem.wroteMap {P:Program} {tk te:TypeId} {b:Nat} {m m':List (Int×Bool)} (H:Mem w0 S M R (⟨[b],MP.map P tk te b m⟩::D) I w) (hR:R.all Row.tightB=true) (hc:Chg w w' [b]) (ho:(MP.map P tk te b m').pred w' (·∈[b])):Mem w0 S M R (⟨[b],MP.map P tk te b m'⟩::D) [] w' :=
  Mem.wroteP H hR hc ho ⟨by simp,fun c hc=>⟨.inr hc,by
    rw [List.mem_singleton] at hc; subst hc
    obtain ⟨⟨_,h1,_⟩,_⟩:=ho
    exact h1.lt⟩⟩
end
section
variable {P:Program} {Q:Exit→Act→World→Prop} {a:Act} {w:World} {n:Nat} {L:List (Nat×Value)} {ty:TypeId} {pos:String} {af:Array Edge} {g:Option (Nat×Bool)} {K:Act→World→Prop} {d:Nat} {dst:Option Tmp}
variable {w0:Base} {S:Nat→Prop} {M:List Blk} {R:List Row} {D:List DI} {I:List (Bool×MP)}
theorem ghh (hf:Fr a n L) (H:Mem w0 S M R D I w) {T tk te:TypeId} (hdn:d<n)
    (k:∀ b a' w',Fr a' n ((d,.map (some b))::L)→Mem w0 S M R (⟨[b],MP.map P tk te b []⟩::D) I w'→K a' w'):Oper.wp P ⟨some d,.makeMap T none,ty,pos,af,g⟩ a w K Q:=by
 have h1:(execOp a.eval ⟨some d,.makeMap T none,ty,pos,af,g⟩).run P w=.ok (.value (.map (some w.heap.size))) (w.alloc (.map #[] 0)):=by
   have:=run_makeMap (P:=P) T w
   simp [execOp,this]
 unfold Oper.wp
 rw [h1,Oper.upon_value]
 refine k _ _ _ (hf.put hdn _) (MemZ.perm (MemZ.step (rs:=[]) (rs':=[DI.res ⟨[w.heap.size],MP.map P tk te w.heap.size []⟩]) H (Chg.alloc w _ _) (fun b hb=>.inr ?_) (fun b hb=>?_) ?_ (fun _ q hq=>?_)) (zZ _).symm)
 have:b=w.heap.size:=by simpa [allZ,Res.all,DI.res] using hb
 subst this
 exact ⟨Nat.le_refl _,by show w.heap.size<(w.heap.push (Obj.map #[] 0)).size; rw [Array.size_push]; omega⟩
 rw [yR] at hb; cases hb
 simp [allZ,Res.all,DI.res]
 rw [List.mem_singleton] at hq; subst hq
 exact ⟨⟨⟨_,World.ownsMap_made w P tk (plainElem P te),fun _=>rfl⟩,List.mem_singleton.2 rfl⟩,fun c hc=>by
   rw [List.mem_singleton] at hc; subst hc; show w.heap.size<(w.heap.push (Obj.map #[] 0)).size; rw [Array.size_push]; omega⟩
theorem ghY (hf:Fr a n L) (H:Mem w0 S M R D I w) {T tk te:TypeId} (hT:P.underlying T=some (.map tk te)) (hk:P.underlying tk=some (.int .i64)) (he:P.underlying te=some .bool) (hz:∀ w,(zeroValue te).run P w=.ok (.bool false) w) {x y:Operand} {b:Nat} {m:List (Int×Bool)} {q:Int} {v:Bool} (j:Nat)
    (hx:ev L x=some (.map (some b))) (hy:ev L y=some (.int .i64 q)) (hj:D[j]?=some ⟨[b],MP.map P tk te b m⟩) (hv:gil m q=some v):(execOp a.eval ⟨dst,.lookup T x y false,ty,pos,af,g⟩).run P w=.ok (.value (.bool v)) w:=by
  obtain ⟨⟨Dm,h1,h2⟩,-⟩:=H.diAt (List.mem_of_getElem? hj)
  unfold gil at hv
  split at hv
  case isFalse=>cases hv
  rename_i hw
  injection hv with hv
  obtain ⟨r,ps,hr,hR⟩:=h1.lookup (int_keyed hk) hT (hz w) (plainElem_bool he false) (keyOf_int_mk hk (gkK hw))
  have hR':plainElem P te r=some ((.lit (.bool v):DataW Unit),ps):=by rw [hR,h2 q,hv]
  have:r=.bool v:=by
    unfold plainElem at hR'
    rw [he] at hR'
    cases r <;> simp at hR'
    exact congrArg Value.bool hR'.1
  subst this
  simp [execOp,hf.eval hx,hf.eval hy,hr]
theorem gfS (hf:Fr a n L) (H:Mem w0 S M R D I w) {T tk te:TypeId} (hT:P.underlying T=some (.map tk te)) (hk:P.underlying tk=some (.int .i64)) (he:P.underlying te=some .bool) {x y z:Operand} {b:Nat} {m m':List (Int×Bool)} {q:Int} {v:Bool}
    (hx:ev L x=some (.map (some b))) (hy:ev L y=some (.int .i64 q)) (hz:ev L z=some (.bool v)) (hj:D[0]?=some ⟨[b],MP.map P tk te b m⟩) (hR:R.all Row.tightB=true) (hv:gii m q v=some m')
    (k:∀ w',Mem w0 S M R (⟨[b],MP.map P tk te b m'⟩::D.eraseIdx 0) [] w'→K a w'):Oper.wp P ⟨none,.mapUpdate T x y z,ty,pos,af,g⟩ a w K Q:=by
  obtain ⟨⟨Dm,h1,h2⟩,-⟩:=H.diAt (List.mem_of_getElem? hj)
  unfold gii at hv
  split at hv
  case isFalse=>cases hv
  rename_i hw
  injection hv with hv
  subst hv
  obtain ⟨w',hr,h3,h4⟩:=h1.update (int_keyed hk) hT (Nat.lt_of_lt_of_le hw.2 (by decide)) (keyOf_int_mk hk (gkK hw.1)) (plainElem_bool he v)
  have hrun:(execOp a.eval ⟨none,.mapUpdate T x y z,ty,pos,af,g⟩).run P w=.ok .skip w':=by
    simp [execOp,hf.eval hx,hf.eval hy,hf.eval hz,hr]
  unfold Oper.wp
  rw [hrun,Oper.upon_skip]
  have hD:D=⟨[b],MP.map P tk te b m⟩::D.eraseIdx 0:=by
    cases D with
    | nil=>cases hj
    | cons e D=>simp at hj; subst hj; rfl
  rw [hD] at H
  have hMap:Go.Maps.IsMap Dm:=by
    obtain ⟨es,clock,hb,F,hs,hD⟩:=h1
    exact ⟨_,hD⟩
  refine k w' (Mem.wroteP H hR ⟨h4.os,h4.tape,h4.output,h4.size,fun c hc hn=>h4.block c hc fun e=>hn (by injection e with e; subst e; simp)⟩ ⟨⟨_,h3,fun kk=>?_⟩,List.mem_singleton.2 rfl⟩ ⟨by simp,fun c hc=>?_⟩)
  · rw [gfU]
    by_cases e:q=kk
    · subst e
      rw [if_pos rfl]
      exact Go.Maps.atKey_put_same (k:=.int .i64 q) hMap trivial _ _
    · rw [if_neg e,←h2 kk]
      exact Go.Maps.atKey_put_other (fun h=>e (by injection h with _ h; exact h.symm)) _ _
  · rw [List.mem_singleton] at hc; subst hc
    exact ⟨.inr (by simp),h3.lt⟩
end
end AT
