/- Closures that write a variable which owns its data; append onto a slice that is full. -/
import Derived.Test.YtlemonjnolciiaaGreatAtBO
import Derived.Maps.OwnOps
import Derived.Maps.Views
set_option linter.unusedSimpArgs false
set_option linter.unusedVariables false
namespace AT
section
open Go Go.RowKit
section
variable {w w' w1:World} {w0:Base} {S:w_} {M:List Blk} {R:List Row} {D:List DI} {I:List (Bool×MP)}
def NF (b:Nat) (F:m_):w_:=λc=>c∉List.cons b F
variable {b:Nat} {T:TypeId} {cs:p_} {d:DI} {G:m_}
theorem O_.boPerm (i:Nat) (hi:M[i]?=some ⟨b,T,cs⟩):(zs M R (d::D)).Perm ([Blk.res ⟨b,T,cs⟩,d.res]++zs (M.eraseIdx i) R D):=(gM hi).trans ((zK _).append_left [_])
theorem O_.boAll (d:DI):allZ [Blk.res ⟨b,T,cs⟩,d.res]=b::d.F:=by simp [allZ,Res.all,Blk.res,DI.res]
theorem O_.boNd (H:O_ w0 S M R (d::D) I w) (i:Nat) (hi:M[i]?=some ⟨b,T,cs⟩):List.Nodup (List.cons b d.F):=by
 have hnd:=MemZ.nd (MemZ.perm H (O_.boPerm i hi));rw[vf,O_.boAll]at hnd;exact (GZ.1 hnd).1
theorem O_.boDisj (H:O_ w0 S M R (d::D) I w) (i:Nat) (hi:M[i]?=some ⟨b,T,cs⟩) {c:Nat} (hc:c∈allZ (zs (M.eraseIdx i) R D)):NF b d.F c:=by
 have hnd:=MemZ.nd (MemZ.perm H (O_.boPerm i hi));rw[vf,O_.boAll]at hnd;exact λh=>(GZ.1 hnd).2.2 c h c hc rfl
theorem O_.argN (H:O_ ⟨w1,G⟩ S M R (d::D) I w) (i:Nat) (hi:M[i]?=some ⟨b,T,cs⟩) (hS:∀c∈G,¬S c) {p:MP} (h:p.pred w1 S):p.pred w (NF b d.F):=by
 refine p.mono h λc hc hlt=>?_;have hn:¬(⟨w1,G⟩:Base).nw c:=by
  rintro (h1 | h1)
  · simp only at h1; omega
  · exact hS c h1 hc
 refine⟨λhx=>?_,(MemZ.below H).block c hn⟩;exact hn (MemZ.lt (MemZ.perm H (O_.boPerm i hi)) c (by rw[vf,O_.boAll]; exact GI.2 (.inl hx))).1
theorem O_.argNv (H:O_ ⟨w1,G⟩ S M R (d::D) I w) (i:Nat) (hi:M[i]?=some ⟨b,T,cs⟩) (hS:∀c∈G,¬S c) {α:Type} [GoTy α] {cv:p_} {x:α} (h:GoTy.rep w1 S cv x):GoTy.rep w (NF b d.F) cv x:=O_.argN H i hi hS (p:=MP.val cv x) h
theorem O_.boxN (H:O_ w0 S M R (d::D) I w) (i:Nat) (hi:M[i]?=some ⟨b,T,cs⟩) (j:Nat) {b2:Nat} {T2:TypeId} {cs2:p_} (hj:M[j]?=some ⟨b2,T2,cs2⟩) (hij:Nat.beq j i=false):(MP.cells ⟨b2,0,none⟩ cs2).pred w (NF b d.F):=by
 have hne:j≠i:=λe=>by subst e; simp at hij
 have hm:(⟨b2,T2,cs2⟩:Blk)∈M.eraseIdx i:=List.mem_eraseIdx_iff_getElem?.2 ⟨j,hne,hj⟩;have ht:=H.boxTrue j hj;refine⟨O_.boDisj H i hi (Hr.2 ⟨Blk.res ⟨b2,T2,cs2⟩,GI.2 (.inl (Hy.2 ⟨_,hm,rfl⟩)),?_⟩),ht.2.1,ht.2.2⟩;simp [Res.all,Blk.res]
theorem O_.ownN (H:O_ w0 S M R (d::D) I w) (i:Nat) (hi:M[i]?=some ⟨b,T,cs⟩) (j:Nat) {α:Type} [GoTy α] {F2:m_} {cv:p_} {x:α} (hj:D[j]?=some ⟨F2,MP.own F2 cv x⟩):GoTy.rep w (NF b d.F) cv x:=by
 have ho:GoTy.own w F2 cv x:=(H.diAt (Hs _ (GX hj))).1;refine GoTy.mono (GoTy.own_rep ho) λc hc _=>⟨O_.boDisj H i hi (Hr.2 ⟨DI.res ⟨F2,MP.own F2 cv x⟩,GI.2 (.inr (GI.2 (.inr (Hy.2 ⟨_,GX hj,rfl⟩)))),?_⟩),rfl⟩;simpa [Res.all,DI.res] using hc
end
section
variable {P:Program} {Q:Exit->r_} {a:Act} {w:World} {n:Nat} {L:g_} {ty:TypeId} {pos:String} {af:Array Edge} {g:x_} {K:r_} {d:Nat}
variable {w0:Base} {S:w_} {M:List Blk} {R:List Row} {D:List DI} {I:List (Bool×MP)}
theorem qY {α:Type} [GoTy α] (hfl:GoTy.flat α=true) {T T':w_} {cs:p_} {x:α} (h:GoTy.rep w T cs x):GoTy.rep w T' cs x :=
 GoTy.mono (GoTy.own_rep (GoTy.own_flat hfl h)) λb hb=>by cases hb
theorem pk (hf:Fr a n L) (H:O_ w0 S M R D I w) {α:Type} [GoTy α] {T E:TypeId} (hT:P.underlying T=some (.slice E)) (hE:SZ P E (GoTy.n α)) {x hi ma:Operand} {A:c_} {len cap:Nat} {xs:List α} {f:Bool} (q:Nat)
 (hx:ev L x=some (.slice A len cap)) (hhi:ev L hi=some (.int .i64 len)) (hma:ev L ma=some (.int .i64 len)) (hq:I[q]?=some (f,MP.val [.slice A len cap] xs)) (hdn:d<n)
 (k:∀a',Fr a' n ((d,.slice A len len)::L)->O_ w0 S M R D ((f,MP.val [.slice A len len] xs)::I) w->K a' w):Oper.wp P ⟨some d,.slice T x none (some hi) (some ma),ty,pos,af,g⟩ a w K Q:=by
 obtain⟨A',cap',hcs,hlc,hcm,hel⟩:lrep w (St w0 S M R D f) [.slice A len cap] xs:=H.get q hq;simp only[Ho,Value.slice.injEq,and_true]at hcs;obtain⟨rfl,rfl,rfl⟩:=hcs;have hE':∀w,(Go.sizeOf E).run P w=.ok (GoTy.n α) w:=hE;have hA:(A.map λp=>p.add 0)=A:=by cases A <;> simp [Addr.add]
 have hval:(execOp a.eval ⟨some d,.slice T x none (some hi) (some ma),ty,pos,af,g⟩).run P w=.ok (.value (.slice A xs.length xs.length)) w:=by
  have hsl:(Instr.sliceAt T (.slice A xs.length cap) none (some (.int .i64 xs.length)) (some (.int .i64 xs.length))).run P w=.ok (.slice A xs.length xs.length) w:=by
   have hsb:(Instr.sliceBounds true xs.length cap none (some (.int .i64 xs.length)) (some (.int .i64 xs.length))).run P w=.ok (0,xs.length,xs.length) w:=by
    simp [Instr.sliceBounds,Instr.sliceBound,asIntOf,hlc]
   simp [Instr.sliceAt,Instr.slice,run_underlying hT,hsb,hE',hA]
  simp [execOp,hf.eval hx,hf.eval hhi,hf.eval hma,hsl]
 exact op_q hf hval rfl hdn λa' hf'=>k a' hf' (H.push _ ⟨A,xs.length,rfl,GV _,HS hlc hcm,hel⟩)
theorem t6 (hf:Fr a n L) (H:O_ w0 S M R D I w) {α:Type} [GoTy α] {T E E':TypeId} {z:Value} {bytes:Nat} (hT:P.underlying T=some (.slice E)) (hE:AI P E (GoTy.n α) z bytes) (hz:z.cells.size=GoTy.n α) (hby:bytes<=128) (q j:Nat) {f:Bool} {A A':c_} {len cap':Nat} {xs ys zs:List α}
 {x y:Operand} (hx:ev L x=some (.slice A len len)) (hy:ev L y=some (.slice A' ys.length cap')) (hq:I[q]?=some (f,MP.val [.slice A len len] xs)) (hj:R[j]?=some ⟨.sh true,E',A',cap',ys⟩) (hne:ys≠[]) (hfl:GoTy.flat α=true) (happ:M_ xs ys=some zs) (hdn:d<n)
 (k:∀E1 A2 cap2 a' w',Fr a' n ((d,.slice A2 zs.length cap2)::L)->O_ w0 S M (⟨.sh true,E1,A2,cap2,zs⟩::R) D I w'->K a' w'):Oper.wp P ⟨some d,.call ⟨.builtin .append,#[x,y],#[T,T]⟩,ty,pos,af,g⟩ a w K Q:=by
 obtain⟨A0,cap0,hcs,hlc,hcm,hel⟩:lrep w (St w0 S M R D f) [.slice A len len] xs:=H.get q hq;simp only[Ho,Value.slice.injEq,and_true]at hcs;obtain⟨rfl,rfl,h3⟩:=hcs;subst h3;cases A with
 | none =>
  have hxs:xs=[]:=by
   cases xs with
   | nil=>rfl
   | cons x xs=>obtain⟨p,hp,_⟩:=hel 0 x rfl; cases hp
  subst hxs
  have H1:=H.nilRow α (.sh true) rfl trivial E
  exact vj (fr:=true) (xs:=[]) hf H1 hT hE hz hby 0 (j + 1) hx hy rfl hj (.inr rfl) happ hdn λE1 A2 cap2 a' w' hf' H'=>k E1 A2 cap2 a' w' hf' H'
 | some p =>
  obtain⟨A1,c1,hcs1,-,-,hel1⟩:lrep w (λ_=>True) [.slice A' ys.length cap'] ys:=H.rowTrue j hj
  simp only[Ho,Value.slice.injEq,and_true]at hcs1
  obtain⟨rfl,-,rfl⟩:=hcs1
  obtain⟨p',rfl⟩:∃p',A'=some p':=by
   cases ys with
   | nil=>exact absurd rfl hne
   | cons y ys=>obtain⟨p',hp',_⟩:=hel1 0 y rfl; exact⟨p',hp'⟩
  have hyl:0<ys.length:=JC.2 hne
  obtain⟨olds,o1,o2,o3,o4⟩:=gather (w:=w) (T:=St w0 S M R D f) (p:=p) xs 0 (λk x hx=>by
   obtain⟨q',hq',_,h⟩:=hel k x hx
   injection hq' with hq'; subst hq'
   rwa [HA])
  obtain⟨news,g1,g2,g3,g4⟩:=gather (w:=w) (T:=λ_=>True) (p:=p') ys 0 (λk x hx=>by
   obtain⟨q',hq',_,h⟩:=hel1 k x hx
   injection hq' with hq'; subst hq'
   rwa [HA])
  simp only[IJ,HA]at o2 g2
  unfold M_ at happ
  split at happ
  case isFalse=>cases happ
  rename_i hlen
  injection happ with happ
  subst happ
  obtain⟨inf,hinf,hpr⟩:=Ht.1 hE
  simp only[Ie]at hpr
  obtain⟨hz1,hz2,hz3⟩:=hpr
  have hbytes:(xs.length + ys.length) * inf.bytes<=140737488355328:=by
   have:=J9 hlen hby
   rw[hz3]; omega
  have hr:=run_append_grow (P:=P) w T ty E inf z hT hinf hz1 p xs.length xs.length olds (by rw[hz2]; exact o1) o2 p' ys.length cap' news (by rw[hz2]; exact g1) g2 (by omega) (by omega) (growslice_fits (by omega) hbytes)
  have hge:=grownCap_ge w (xs.length + ys.length) xs.length E
  have hcm2:grownCap w (xs.length + ys.length) xs.length E<=maxLen:=grownCap_le_maxLen w _ _ E (by simp only[maxLen]; omega)
  generalize grownCap w (xs.length + ys.length) xs.length E=cap2 at hr hge hcm2
  have hcl:olds.length=xs.length * GoTy.n α:=o1
  have H2:=H.drew.newRow (.sh true) rfl E (xs++ys) ((olds++news)++(Builtin.zeroCells z.cells (cap2 - (xs.length + ys.length))).toList) cap2 (by rw[GL]; exact hge) hcm2
   (by
     simp only[GL,Hw,size_zeroCells,hz,o1,g1,<-HN]
     congr 1
     omega) trivial (λi x hx=>by
     have hi:i<xs.length + ys.length:=by rw[<-GL]; exact (GQ.1 hx).1
     show GoTy.rep _ _ _ _
     rw[eJ (m:=xs.length + ys.length) (by simp only[GL,o1,g1,<-HN]) hi]
     rw[HE]at hx
     split at hx
     · rename_i hk
       rw[eJ hcl hk]
       exact GoTy.mono (qY hfl (o4 i x hx)) λb hb hlt=>⟨hb,rfl⟩
     · rename_i hk
       rw[fN hcl (by omega)]
       exact GoTy.mono (qY hfl (g4 _ x hx)) λb hb hlt=>⟨hb,rfl⟩)
  have hl2:(xs++ys).length=xs.length + ys.length:=GL
  refine cN hf hx hy hr hdn λa' hf'=>k E _ cap2 a' _ (by rw[hl2]; exact hf') ?_
  have e:olds.toArray++news.toArray++Builtin.zeroCells z.cells (cap2 - (xs.length + ys.length))=((olds++news)++(Builtin.zeroCells z.cells (cap2 - (xs.length + ys.length))).toList).toArray:=by
   apply Array.ext'; simp
  rw[e]
  exact H2
end
section
variable {w:World} {w0:Base} {S:w_} {M:List Blk} {R:List Row} {D:List DI} {I:List (Bool×MP)}
end
section
variable {w w1:World} {w0:Base} {S:w_} {M:List Blk} {R:List Row} {D:List DI} {I:List (Bool×MP)}
def NO (F:m_):w_:=λc=>c∉F
variable {G:m_} {d:DI}
theorem O_.argO (H:O_ ⟨w1,G⟩ S M R (d::D) I w) (hS:∀c∈G,¬S c) {α:Type} [GoTy α] {cv:p_} {x:α} (h:GoTy.rep w1 S cv x):GoTy.rep w (NO d.F) cv x:=by
 refine GoTy.mono h λc hc hlt=>?_;have hn:¬(⟨w1,G⟩:Base).nw c:=by
  rintro (h1 | h1)
  · simp only at h1; omega
  · exact hS c h1 hc
 exact⟨λhx=>hn (H.diNd.2 c hx).1,(MemZ.below H).block c hn⟩
theorem O_.argOc (H:O_ ⟨w1,G⟩ S M R (d::D) I w) (hS:∀c∈G,¬S c) {p:MP} (h:p.pred w1 S):p.pred w (NO d.F):=by
 refine p.mono h λc hc hlt=>?_;have hn:¬(⟨w1,G⟩:Base).nw c:=by
  rintro (h1 | h1)
  · simp only at h1; omega
  · exact hS c h1 hc
 exact⟨λhx=>hn (H.diNd.2 c hx).1,(MemZ.below H).block c hn⟩
theorem O_.boxO (H:O_ w0 S M R (d::D) I w) (j:Nat) {b2:Nat} {T2:TypeId} {cs2:p_} (hj:M[j]?=some ⟨b2,T2,cs2⟩):(MP.cells ⟨b2,0,none⟩ cs2).pred w (NO d.F):=by
 have ht:=H.boxTrue j hj;have hnd:=MemZ.nd (MemZ.perm H (zK d));rw[vf,vt]at hnd;refine⟨λh=>(GZ.1 hnd).2.2 b2 ?_ b2 (Hr.2 ⟨Blk.res ⟨b2,T2,cs2⟩,GI.2 (.inl (Hy.2 ⟨_,GX hj,rfl⟩)),by simp [Res.all,Blk.res]⟩) rfl,ht.2.1,ht.2.2⟩;simpa [Res.all,DI.res] using h
theorem O_.ownO (H:O_ w0 S M R (d::D) I w) (j:Nat) {α:Type} [GoTy α] {F2:m_} {cv:p_} {x:α} (hj:D[j]?=some ⟨F2,MP.own F2 cv x⟩):GoTy.rep w (NO d.F) cv x:=by
 have ho:GoTy.own w F2 cv x:=(H.diAt (Hs _ (GX hj))).1;have hnd:=MemZ.nd (MemZ.perm H (zK d));rw[vf,vt]at hnd;refine GoTy.mono (GoTy.own_rep ho) λc hc _=>⟨λh=>(GZ.1 hnd).2.2 c ?_ c (Hr.2 ⟨DI.res ⟨F2,MP.own F2 cv x⟩,GI.2 (.inr (GI.2 (.inr (Hy.2 ⟨_,GX hj,rfl⟩)))),?_⟩) rfl,rfl⟩;simpa [Res.all,DI.res] using h;simpa [Res.all,DI.res] using hc
end
section
variable {w w':World} {w0:Base} {S:w_} {M:List Blk} {R:List Row} {D:List DI} {I:List (Bool×MP)}
theorem O_.addRow {α:Type} [GoTy α] {F:m_} {A:c_} {len cap:Nat} {xs:List α} (H:O_ w0 S M R D I w) (hb:Below w.heap.size w w') (h:lown w' F [.slice A len cap] xs) (hN:K1 w w' F) :
 ∃Fs E,O_ w0 S M (⟨.ow Fs,E,A,cap,xs⟩::R) D I w':=by
 obtain⟨A',cap',E,cells,Fs,hcs,ho,hF,hl,he⟩:=h;simp only[Ho,Value.slice.injEq,and_true]at hcs;obtain⟨rfl,rfl,rfl⟩:=hcs;have e1:allZ [Row.res ⟨.ow Fs,E,A,cap,xs⟩]=F:=by rw[vt,hF]; rfl
 refine⟨Fs,E,MemZ.perm (MemZ.step (rs:=[]) (rs':=[Row.res ⟨.ow Fs,E,A,cap,xs⟩]) H ⟨hb.os,hb.tape,hb.output,hb.size,λk hk' _=>hb.block k hk',hb.drawn⟩ (λb h=>.inr (hN.2 b (by rw[<-e1]; exact h))) (λb h=>.inr (hN.2 b (by rw[<-e1]; exact dZ h)).1) (by rw[e1]; exact hN.1) (λ_ q hq=>?_)) (aA _).symm⟩;rw[GR]at hq; subst hq;exact⟨cells,ho,hl,λi x hx Fi hFi=>he i x Fi hx hFi⟩
end
section
variable {P:Program} {Q:Exit->r_} {a:Act} {w:World} {n:Nat} {L:g_} {ty:TypeId} {pos:String} {af:Array Edge} {g:x_} {K:r_} {d:Nat}
variable {w0:Base} {S:w_} {M:List Blk} {R:List Row} {D:List DI} {I:List (Bool×MP)}
end
section
variable {w w':World} {w0:Base} {S:w_} {M:List Blk} {R:List Row} {D:List DI} {I:List (Bool×MP)}
theorem MemZ.sub {Z Z':List Res} (H:MemZ w0 S Z I w) (hz:Z'.Sublist Z):MemZ w0 S Z' I w:=by
 have ha:(allZ Z').Sublist (allZ Z):=du hz;have hf:(V0 Z').Sublist (V0 Z):=du hz;have hw:∀f,Moves w w (D0 w0 S Z f) (D0 w0 S Z' f):=iy λb hb=>hf.mem hb;exact⟨MemZ.below H,λb hb=>MemZ.lt H b (ha.mem hb),ha.nodup (MemZ.nd H),λr hr=>r.mono (MemZ.ok H r (hz.mem hr)) (λ_ _=>rfl) (hw _),λf hf=>f.2.mono (MemZ.imm H f hf) (hw _)⟩
end
end
section
def mget (m:List (Int×Bool)) (k:Int):Bool:=((m.find? λe=>e.1==k).map (·.2)).getD false
end
section
open Go Go.RowKit Go.WideShapes Go.Maps
section
variable {w w' w1:World} {w0:Base} {S:w_} {M:List Blk} {R:List Row} {D:List DI} {I:List (Bool×MP)}
theorem O_.wroteP {F F':m_} {p p':MP} (H:O_ w0 S M R (⟨F,p⟩::D) I w) (hR:R.all Row.tightB=true) (hc:Chg w w' F) (ho:p'.pred w' (·∈F')) (hb:Back w w' F F'):O_ w0 S M R (⟨F',p'⟩::D) [] w':=by
 have H1:=MemZ.perm H (zK _);have hall:∀e:DI,allZ [e.res]=e.F:=λe=>by rw[vt]; rfl
 refine MemZ.perm (MemZ.turn (rs:=[DI.res ⟨F,p⟩]) (rs':=[DI.res ⟨F',p'⟩]) H1 (by rw[hall]; exact hc) (λb h=>?_) (by rw[hall]; exact hb.1) (je hR) (λq hq=>?_)) (zK _).symm;rw[hall]at h ⊢;obtain⟨h1,h2⟩:=hb.2 b h;exact h1.elim (λh=>.inr ⟨h,h2⟩) .inl;rw[GR]at hq; subst hq;exact⟨ho,λb h=>(hb.2 b h).2⟩
end
def MapAt (P:Program) (tk te:TypeId) (w:World) (b:Nat) (m:List (Int×Bool)):Prop :=
 ∃D:DataW Unit,w.ownsMap P tk (plainElem P te) b m.length D/\∀k,D.atKey (.int .i64 k) (.lit (.bool false))=.lit (.bool (mget m k))
theorem pf {P:Program} {tk:TypeId} {Rr:Value->Option (DataW Unit×List MemPlace)} {w w':World} {b n:Nat} {D:DataW Unit} (h:w.ownsMap P tk Rr b n D) (e:w'.heap[b]?=w.heap[b]?):w'.ownsMap P tk Rr b n D:=by
 obtain⟨es,clock,hb,F,hs,hD⟩:=h;exact⟨es,clock,e.trans hb,F,hs,hD⟩
def MP.map (P:Program) (tk te:TypeId) (b:Nat) (m:List (Int×Bool)):MP:=⟨λw S=>MapAt P tk te w b m/\S b,by
 rintro w w' S S' ⟨⟨D,h1,h2⟩,h3⟩ hm
 obtain⟨a1,a2⟩:=hm b h3 h1.lt
 exact⟨⟨D,pf h1 a2,h2⟩,a1⟩⟩
section
variable {w w' w1:World} {w0:Base} {S:w_} {M:List Blk} {R:List Row} {D:List DI} {I:List (Bool×MP)}
end
section
variable {P:Program} {Q:Exit->r_} {a:Act} {w:World} {n:Nat} {L:g_} {ty:TypeId} {pos:String} {af:Array Edge} {g:x_} {K:r_} {d:Nat} {dst:Option Tmp}
variable {w0:Base} {S:w_} {M:List Blk} {R:List Row} {D:List DI} {I:List (Bool×MP)}
end
section
variable {P:Program} {S:t_} {B:m_} {l:List Oper} {bs:List Bool} {a:Act} {w:World} {fuel:Nat} {Mid:r_}
end
end
section
open Go Go.RowKit
def Ne (k:Nat) (C:Nat->{cs:p_ // cs.length=k/\∀c∈cs,c.oneCell'=true}):Type:=Nat
section
variable {k:Nat} {C:Nat->{cs:p_ // cs.length=k/\∀c∈cs,c.oneCell'=true}}
def Ne.nat (x:Ne k C):Nat:=x
def tN (n:Nat):List (Ne k C):=List.range n
theorem iq (n:Nat):(tN n:List (Ne k C)).length=n:=Hx (n:=n)
theorem tM {n i:Nat} {y:Ne k C} (h:(tN n:List (Ne k C))[i]?=some y):i<n/\y.nat=i:=by
 have h':(List.range n)[i]?=some y.nat:=h;have hi:i<n:=by have:=(GQ.1 h').1; rwa [Hx]at this
 rw[List.getElem?_range hi]at h';injection h' with h'
 exact⟨hi,h'.symm⟩
def Ne.cells (x:Ne k C):p_:=(C x.nat).1
theorem Ne.len (x:Ne k C):x.cells.length=k:=(C x.nat).2.1
theorem Ne.all (x:Ne k C):(x.cells.all Value.oneCell')=true:=by
 rw[HH];exact (C x.nat).2.2
theorem Ne.whole (x:Ne k C):(x.cells.drop 0).take k=x.cells:=by
 rw[He];exact HV (by rw[x.len]; exact GV _)
instance [NeZero k]:GoTy (Ne k C) where
 n:=k
 agg:=true
 flat:=true
 rep _ _ cs x:=cs=x.cells
 own _ F cs x:=F=[]/\cs=x.cells
 pos:=Nat.pos_of_ne_zero (NeZero.ne k)
 len:=by rintro _ _ _ _ rfl; exact Ne.len _
 one:=by rintro _ _ _ x rfl; exact (C x.nat).2.2
 mono:=λh _=>h
 own_rep:=λh=>h.2
 own_mono:=λh _=>h
 own_lt:=by rintro _ _ _ _ ⟨rfl,_⟩ _ h; cases h
 own_flat:=λ_ h=>⟨rfl,h⟩
def CfSpec (P:Program) (g:Nat) (cf:Ne k C->Ne k C->Option Int) (w0:World) (F:m_):Prop :=
 ∀(w:World) (x y:Ne k C) (v:Int),Chg w0 w F->cf x y=some v->Calls P g [.agg x.cells.toArray,.agg y.cells.toArray].toArray w λe w'=>∃u,e=.returned u/\(Below w.heap.size w w'/\u=.int .i64 v)
variable {F:m_} {S:w_} {M:List Blk} {R:List Row} {D:List DI} {I:List (Bool×MP)}
theorem O_.chgD {w0 w w':World} {d:DI} (H:O_ ⟨w0,F⟩ S M R (d::D) I w) (h:Chg w w' d.F):Chg w0 w' F:=by
 have hc:=H.chg;refine⟨h.os.trans hc.os,h.tape.trans hc.tape,h.output.trans hc.output,HS hc.size h.size,λk hk hn=>?_,HS hc.drawn h.drawn⟩;refine (h.block k (IG hk hc.size) λhx=>?_).trans (hc.block k hk hn);rcases (H.diNd.2 k hx).1 with h1 | h1
 simp only at h1;omega;exact hn h1
theorem CfSpec.sub {P:Program} {g:Nat} {cf:Ne k C->Ne k C->Option Int} {w0 w:World} {d:DI} (hcf:CfSpec P g cf w0 F) (H:O_ ⟨w0,F⟩ S M R (d::D) I w):CfSpec P g cf w d.F :=
 λw2 x y v hc h=>hcf w2 x y v (H.chgD hc) h
end
def mY (α:Type) [GoTy α] (k:Nat) (cells:p_) (i:Nat):{cs:p_ // cs.length=k/\∀c∈cs,c.oneCell'=true} :=
 if h:(xX α cells i).length=k/\∀c∈xX α cells i,c.oneCell'=true then ⟨xX α cells i,h⟩ else ⟨List.replicate k (.int .i64 0),by simp,λc hc=>by rw[List.eq_of_mem_replicate hc]; rfl⟩
variable {α:Type} [GoTy α]
theorem lD {cells:p_} {i:Nat} {w:World} {S:w_} {x:α} (h:GoTy.rep w S (xX α cells i) x):(mY α (GoTy.n α) cells i).1=xX α cells i:=by
 unfold mY;rw[dif_pos ⟨GoTy.len h,GoTy.one h⟩]
theorem mapM_at {α β:Type} {f:α->Option β}:∀{l:List α} {r:List β},l.mapM f=some r->r.length=l.length/\∀(i:Nat) (y:β),r[i]?=some y->∃a,l[i]?=some a/\f a=some y
 | [],r,h=>by
  rw[List.mapM_nil]at h
  cases h
  exact⟨rfl,λi y hy=>by simp at hy⟩
 | a::l,r,h=>by
  rw[J5]at h
  cases hf:f a with
  | none=>rw[hf]at h; cases h
  | some b =>
   cases hl:l.mapM f with
   | none=>rw[hf,hl]at h; cases h
   | some q =>
    rw[hf,hl]at h
    cases h
    obtain⟨h1,h2⟩:=mapM_at hl
    refine⟨by simp [h1],λi y hy=>?_⟩
    cases i with
    | zero =>
     cases hy
     exact⟨a,rfl,hf⟩
    | succ i=>exact h2 i y hy
theorem O_.placesRow {k:Nat} [NeZero k] (hk:GoTy.n α=k) {w:World} {w0:Base} {S:w_} {M:List Blk} {R:List Row} {D:List DI} {I:List (Bool×MP)} {fr:Bool} {E:TypeId} {A:c_} {cap:Nat} {x:List α} (H:O_ w0 S M (⟨.sh fr,E,A,cap,x⟩::R) D I w) :
 ∃(C:Nat->{cs:p_ // cs.length=k/\∀c∈cs,c.oneCell'=true}) (F:m_),GoTy.own w F [.slice A x.length cap] (tN x.length:List (Ne k C))/\F.Nodup /\
   (∀(w':World) (i:Nat) (a:α),Chg w w' F->x[i]?=some a->GoTy.rep w' (λ_=>True) (C i).1 a) /\
   ∀(w':World) (F':m_) (is:List (Ne k C)) (r:List α),Chg w w' F->GoTy.own w' F' [.slice A x.length cap] is->is.mapM (λi:Ne k C=>x[i.nat]?)=some r->r.length=x.length/\∃E',O_ w0 S M (⟨.sh fr,E',A,cap,r⟩::R) D I w':=by
 subst hk;obtain⟨cells,ho,-,hel⟩:=H.rowAt (r:=⟨.sh fr,E,A,cap,x⟩) (Hp ..);have hel':∀(i:Nat) (y:α),x[i]?=some y->GoTy.rep w (St w0 S M (⟨.sh fr,E,A,cap,x⟩::R) D fr) (xX α cells i) y:=hel;have ho':w.ownsRow 0 E (GoTy.n α) (.slice A x.length cap) x.length cells:=ho;have hzp:=aA (M:=M) (D:=D) (R:=R) (⟨.sh fr,E,A,cap,x⟩:Row);have hfm:∀b∈(Value.slice A x.length cap).ownBlock.toList,∀f,¬St w0 S M (⟨.sh fr,E,A,cap,x⟩::R) D f b:=λb hb f hS=>by
  have hin:b∈V0 (zs M (⟨.sh fr,E,A,cap,x⟩::R) D):=by
   have h1:(V0 (zs M (⟨.sh fr,E,A,cap,x⟩::R) D)).Perm (V0 ([Row.res ⟨.sh fr,E,A,cap,x⟩]++zs M R D)):=hzp.flatMap_right _
   rw[h1.mem_iff,ii]
   exact GI.2 (.inl (by simpa [V0,Row.res,Row.v] using hb))
  rcases hS with ⟨-,h1,-⟩ | ⟨-,h1⟩
  · exact h1 (MemZ.lt H b (dZ hin)).1
  · exact h1 hin
 have hmv:∀w':World,Chg w w' (Value.slice A x.length cap).ownBlock.toList->∀f,Moves w w' (St w0 S M (⟨.sh fr,E,A,cap,x⟩::R) D f) (λ_=>True):=λw' hc f b hb hl=>⟨trivial,hc.block b hl λhx=>hfm b hx f hb⟩;refine⟨mY α (GoTy.n α) cells,(Value.slice A x.length cap).ownBlock.toList,?_,?_,λw' i a hc ha=>?_,λw' F' is r hc hO hr=>?_⟩;refine⟨A,cap,E,cells,List.replicate x.length [],by rw[iq],by rw[iq]; exact ho',by rw[iq,List.flatten_replicate_nil,G8],by rw[iq,IC],λi y Fi hy hF=>?_⟩;obtain⟨hi,hyi⟩:=tM hy;rw[IL,if_pos hi]at hF;obtain rfl:[]=Fi:=by injection hF
 refine⟨rfl,?_⟩;show xX (Ne (GoTy.n α) (mY α (GoTy.n α) cells)) cells i=(mY α (GoTy.n α) cells y.nat).1;rw[hyi];exact (lD (hel' i _ (GM hi))).symm;cases A <;> simp [Value.ownBlock]
 rw[lD (hel' i a ha)];exact GoTy.mono (hel' i a ha) (hmv w' hc fr);obtain⟨A',cap',E',cells',Fs',hcs,ho2,hF',hl2,hel2⟩:=hO;obtain⟨hrl,hrm⟩:=mapM_at hr;have hlen:is.length=x.length:=by
  simp only[Ho,Value.slice.injEq,and_true]at hcs
  exact hcs.2.1.symm
 obtain⟨rfl,rfl⟩:A=A'/\cap=cap':=by
  simp only[Ho,Value.slice.injEq,and_true]at hcs
  exact⟨hcs.1,hcs.2.2⟩
 rw[hlen]at ho2 hl2;refine⟨by rw[hrl,hlen],E',?_⟩;have hb:(⟨.sh fr,E',A,cap,r⟩:Row).v.ownBlock.toList=(Value.slice A x.length cap).ownBlock.toList:=by
  cases A <;> rfl
 have H1:=MemZ.perm H hzp;have ha1:∀(y:List α) (E2:TypeId),allZ [Row.res ⟨.sh fr,E2,A,cap,y⟩]=(Value.slice A x.length cap).ownBlock.toList:=λy E2=>by cases A <;> simp [allZ,Res.all,Row.res,Row.v,Kd.fd,Value.ownBlock]
 have hf1:∀(y:List α) (E2:TypeId),V0 [Row.res ⟨.sh fr,E2,A,cap,y⟩]=(Value.slice A x.length cap).ownBlock.toList:=λy E2=>by cases A <;> simp [V0,Row.res,Row.v,Value.ownBlock]
 refine MemZ.perm (MemZ.step (rs:=[Row.res ⟨.sh fr,E,A,cap,x⟩]) (rs':=[Row.res ⟨.sh fr,E',A,cap,r⟩]) (Z:=zs M R D) H1 (hc.sub λb hb=>?_) (λb hb=>?_) (λb hb=>?_) ?_ λhm q hq=>?_) (aA _).symm;rw[hf1]; exact hb;rw[ha1]at hb ⊢; exact .inl hb;rw[hf1]at hb ⊢; exact .inl hb;rw[ha1]; cases A <;> simp [Value.ownBlock]
 rw[GR]at hq;subst hq;refine⟨cells',?_,trivial,λi y hy=>?_⟩;show w'.ownsRow 0 E' (GoTy.n α) (.slice A r.length cap) r.length cells';rw[hrl,hlen]; exact ho2;obtain⟨j,hj,hjx⟩:=hrm i y hy;have hi:i<x.length:=by have:=(GQ.1 hj).1; rwa [hlen]at this
 have h2:=hel2 i j (Fs'[i]'(by rw[hl2]; exact hi)) hj (GM _);have h3:xX α cells' i=(mY α (GoTy.n α) cells j.nat).1:=h2.2;show GoTy.rep w' _ (xX α cells' i) y;rw[h3,lD (hel' j.nat y hjx)];have h4:=hm fr;refine GoTy.mono (hel' j.nat y hjx) λb hb hl=>?_;have hst:St w0 S M (⟨.sh fr,E,A,cap,x⟩::R) D fr b=D0 w0 S ([Row.res ⟨.sh fr,E,A,cap,x⟩]++zs M R D) fr b:=by
  unfold St D0
  have h5:(V0 (zs M (⟨.sh fr,E,A,cap,x⟩::R) D)).Perm (V0 ([Row.res ⟨.sh fr,E,A,cap,x⟩]++zs M R D)):=hzp.flatMap_right _
  rw[h5.mem_iff]
 exact h4 b (hst▸hb) hl
end
section
open Go Go.RowKit
section
variable {P:Program} {w w':World} {w0:Base} {S:w_} {M:List Blk} {R:List Row} {D:List DI} {I:List (Bool×MP)}
theorem iI (w:World) (t ty e e0:TypeId) (i:TypeInfo) (ht:P.underlying t=some (.slice e)) (hi:P.info? e=some i) (g o sLen sCap:Nat) (cur:Array Value) (hg:w.heap[g]?=some (.cells cur e0 (0,0)))
 (a:Addr) (m c:Nat) (news:p_) (hl:news.length=m * i.size) (hnews:∀j u,news[j]?=some u->w.cell? (a.add j)=some u) (h1:∀u∈news,u.oneCell'=true) (hroom:sLen + m<=sCap) (hfit:o + sLen * i.size + news.length<=cur.size) :
 (Builtin.append_ #[t,t] ty #[.slice (some ⟨g,o,none⟩) sLen sCap,.slice (some a) m c]).run P w =
   .ok (.slice (some ⟨g,o,none⟩) (sLen + m) sCap) (w.setRow g (cur.toList.take (o + sLen * i.size)++news++cur.toList.drop (o + sLen * i.size + news.length)).toArray):=by
 have hf:=run_firstCells_some (P:=P) w i.size m a m c news hl hnews;have hst:=run_storeCells_at P g (o + sLen * i.size) e0 news 0 cur w hg (by simpa using hfit) h1;simp only[Hz]at hst;simp [Builtin.append_,run_underlying ht,Go.sizeOf,typeInfo,hi,Builtin.lenOf,hroom,hf,add_lit,hst]
theorem lx (w:World) (t ty e e0:TypeId) (i:TypeInfo) (z:Value) (size bytes:Nat) (ht:P.underlying t=some (.slice e)) (hi:P.info? e=some i) (hz:i.zero=some z)
 (hsize:i.size=size) (hby:i.bytes=bytes) (hzs:z.cells.size=size) (hsz:0<size) (v:Value) (n:Nat) (xs:p_) (hown:w.ownsTail e0 size v n xs)
 (a:Addr) (m c:Nat) (news:p_) (hl:news.length=m * size) (hnews:∀j u,news[j]?=some u->w.cell? (a.add j)=some u) (h1:∀u∈news,u.oneCell'=true)
 (h63:n + m<=maxLen) (hbytes:(n + m) * bytes<=140737488355328) :
 ∃e1 v' w',(Builtin.append_ #[t,t] ty #[v,.slice (some a) m c]).run P w=.ok v' w'/\w'.ownsTail e1 size v' (n + m) (xs++news)/\GB w w' v.ownBlock/\(v'.ownBlock=v.ownBlock∨v'.ownBlock=some w.heap.size):=by
 rcases hown.2 with ⟨rfl,rfl⟩ | ⟨g,o,cap,cur,rfl,hg,hnc,hcm,hcs,htake⟩
 have hx:xs=[]:=G6 (by simpa using hown.1);subst hx;obtain⟨e1,v',w',g1,g2,g3,g5⟩:=fB (P:=P) w t ty e e0 i z size bytes ht hi hz hsize hby hzs hsz (.slice none 0 0) 0 [] (World.ownsRow_nil _ _ _ _) a m c news hl hnews h1 h63 hbytes;exact⟨e1,v',w',g1,lh g2,g3,g5⟩;subst hsize;subst hby;have hlen:(xs++news).length=(n + m) * i.size:=by rw[GL,hown.1,hl,HN]
 by_cases hroom:n + m<=cap;have hfit:o + n * i.size + news.length<=cur.size:=by
  have:=Hb i.size hroom
  rw[HN]at this
  rw[hl]; omega
 have hr:=iI (P:=P) w t ty e e0 i ht hi g o n cap cur hg a m c news hl hnews h1 hroom hfit;refine⟨e0,_,_,hr,⟨hlen,.inr ⟨g,o,cap,_,rfl,setRow_heap w g cur _ e0 _ hg,hroom,hcm,?_,?_⟩⟩,⟨⟨rfl,rfl,rfl,by simp,λk _ hk=>setRow_other w g k _ (λe=>hk (by simp [Value.ownBlock,e]))⟩,GV _⟩,Or.inl rfl⟩;simp only[If,GL,GO,Hd,Hw];omega;have ho:o<=cur.size:=by omega
 have e1:cur.toList.take (o + n * i.size)=cur.toList.take o++xs:=by
  rw[<-htake,List.take_add]
 simp only[e1,GN];have hto:(cur.toList.take o).length=o:=by rw[GO,Hw]; omega
 rw[List.drop_left' hto,<-GN,<-hlen];exact Ja;have holds:∀j u,xs[j]?=some u->w.cell? ((⟨g,o,none⟩:Addr).add j)=some u:=λj u hu=>by
  rw[add_lit]
  exact fG hown j u hu
 have hsmall:n + m<=9223372036854775807:=by simp only[maxLen]at h63; omega
 have hr:=run_append_grow (P:=P) w t ty e i z ht hi hz ⟨g,o,none⟩ n cap xs hown.1 holds a m c news hl hnews (by omega) (by omega) (growslice_fits (by omega) hbytes);have hge:=grownCap_ge w (n + m) cap e;have hcm:grownCap w (n + m) cap e<=maxLen:=grownCap_le_maxLen w (n + m) cap e h63;refine⟨e,_,_,hr,⟨hlen,.inr ⟨w.heap.size,0,_,_,rfl,heap_alloc_new w.drew _,hge,hcm,?_,?_⟩⟩,⟨⟨rfl,rfl,rfl,by simp,λk hk _=>heap_alloc_old w.drew _ hk⟩,J7 _⟩,Or.inr rfl⟩;simp only[Jr,If,size_zeroCells,hzs,hown.1,hl,<-HN];rw[HA];refine Nat.le_of_eq ?_;congr 1;omega;simp only[Jk,GN,He];rw[<-GN,<-hlen];exact Ja
theorem Ax {α:Type} [GoTy α] {T E E0 ty':TypeId} {z:Value} {bytes:Nat} (hT:P.underlying T=some (.slice E)) (hE:AI P E (GoTy.n α) z bytes) (hz:z.cells.size=GoTy.n α) (hby:bytes<=128) {A:c_} {cap:Nat} {xs ys zs:List α} {cells:p_}
 (ho:w.ownsTail E0 (GoTy.n α) (.slice A xs.length cap) xs.length cells) (happ:M_ xs ys=some zs) {A':c_} {c:Nat} (hsrc:lrep w (λ_=>True) [.slice A' ys.length c] ys) (hy:0<ys.length) :
 ∃E1 A2 cap2 w' news,(Builtin.append_ #[T,T] ty' #[.slice A xs.length cap,.slice A' ys.length c]).run P w=.ok (.slice A2 zs.length cap2) w'/\w'.ownsTail E1 (GoTy.n α) (.slice A2 zs.length cap2) zs.length (cells++news)/\GB w w' (Value.slice A xs.length cap).ownBlock /\
  ((Value.slice A2 zs.length cap2).ownBlock=(Value.slice A xs.length cap).ownBlock∨((Value.slice A2 zs.length cap2).ownBlock=some w.heap.size/\w.heap.size<w'.heap.size)) /\
  (∀i x,ys[i]?=some x->GoTy.rep w (λ_=>True) (xX α news i) x)/\zs=xs++ys:=by
 unfold M_ at happ;split at happ
 case isFalse=>cases happ
 rename_i hlen;injection happ with happ
 subst happ;obtain⟨inf,hinf,hpr⟩:=Ht.1 hE;simp only[Ie]at hpr;obtain⟨hz1,hz2,hz3⟩:=hpr;obtain⟨A'',c'',hcs,hyc,hcm,hel⟩:=hsrc;simp only[Ho,Value.slice.injEq,and_true]at hcs;obtain⟨rfl,-,rfl⟩:=hcs;obtain⟨p,rfl,-⟩:=hel 0 _ (GM hy);obtain⟨news,g1,g2,g3,g4⟩:=gather (w:=w) (T:=λ_=>True) (p:=p) ys 0 (λk x hx=>by
  obtain⟨p',hp',_,h⟩:=hel k x hx
  injection hp' with hp'; subst hp'
  rwa [HA])
 simp only[IJ,HA]at g2;have hbytes:(xs.length + ys.length) * bytes<=140737488355328:=by
  have:=J9 hlen hby
  omega
 obtain⟨E1,v',w',hr,h1,h2,h4⟩:=lx (P:=P) w T ty' E E0 inf z (GoTy.n α) bytes hT hinf hz1 hz2 hz3 hz (GoTy.pos (α:=α)) _ xs.length cells ho p ys.length c news g1 g2 g3 (by simp only[maxLen]; omega) hbytes;have hform:∃A2 cap2,v'=.slice A2 (xs++ys).length cap2:=by
  rcases h1.2 with ⟨rfl,h0⟩ | ⟨b,o,cap',cur,rfl,_⟩
  · exact⟨none,0,by rw[GL,h0]⟩
  · exact⟨some ⟨b,o,none⟩,cap',by rw[GL]⟩
 obtain⟨A2,cap2,rfl⟩:=hform;refine⟨E1,A2,cap2,w',news,hr,by rw[GL]at h1 ⊢; exact h1,h2,h4.imp id λh=>⟨h,td h1 _ h⟩,g4,rfl⟩
theorem CN {a:Act} {n:Nat} {L:g_} {d:Nat} {ty:TypeId} {pos af g:_} {K:r_} {Q:Exit->r_} (hf:Fr a n L) (H:O_ w0 S M R D I w) {α:Type} [GoTy α] (hfl:GoTy.flat α=true) {T E E0:TypeId} {z:Value} {bytes:Nat} (hT:P.underlying T=some (.slice E)) (hE:AI P E (GoTy.n α) z bytes) (hz:z.cells.size=GoTy.n α) (hby:bytes<=128) (i j:Nat) {Fs:List (m_)} {fr':Bool} {E':TypeId} {A A':c_} {cap cap':Nat} {xs ys zs:List α}
 {x y:Operand} (hx:ev L x=some (.slice A xs.length cap)) (hy:ev L y=some (.slice A' ys.length cap')) (hi:R[i]?=some ⟨.ow Fs true,E0,A,cap,xs⟩) (hj:R[j]?=some ⟨.sh fr',E',A',cap',ys⟩) (hy0:0<ys.length) (happ:M_ xs ys=some zs) (hdn:d<n)
 (k:∀E1 A2 cap2 a' w',Fr a' n ((d,.slice A2 zs.length cap2)::L)->O_ w0 S M (R.set i ⟨.ow (Fs++List.replicate ys.length []) true,E1,A2,cap2,zs⟩) D I w'->K a' w'):Oper.wp P ⟨some d,.call ⟨.builtin .append,#[x,y],#[T,T]⟩,ty,pos,af,g⟩ a w K Q:=by
 obtain⟨cells,ho,hfit,he⟩:=H.rowAtK (GX hi);have hfit':Fs.length=xs.length:=hfit;have he':∀(q:Nat) (u:α),xs[q]?=some u->∀Fi,Fs[q]?=some Fi->GoTy.own w Fi (xX α cells q) u:=he;obtain⟨E1,A2,cap2,w',news,hr,h1,h2,h4,g4,rfl⟩:=Ax (ty':=ty) hT hE hz hby ho happ (H.rowTrue j hj) hy0;have hcl:cells.length=xs.length * GoTy.n α:=(ek ho).1;refine cN hf hx hy hr hdn λa' hf'=>k E1 _ _ _ _ hf' (H.reRow hi h2 h4 ?_ λhm=>⟨cells++news,h1,?_,λq u hu Fi hF=>?_⟩)
 · show (List.flatten (Fs++List.replicate ys.length [])).Perm (List.flatten Fs)
   rw[IU,List.flatten_replicate_nil,G8]
 · show (Fs++List.replicate ys.length []).length=(xs++ys).length
   rw[GL,IC,GL,hfit']
 · have hu':(xs++ys)[q]?=some u:=hu
   rw[HE]at hu' hF
   split at hu'
   · rename_i hq
     rw[if_pos (by rw[hfit']; exact hq)]at hF
     show GoTy.own w' Fi (xX α (cells++news) q) u
     rw[eJ hcl hq]
     have h5:=he' q u hu' Fi hF
     have h6:=MemZ.nd (MemZ.perm H (gL hi))
     rw[vf,vt]at h6
     have h7:=(GZ.1 h6).1
     refine GoTy.own_mono h5 λb hb=>h2.by_.block b (GoTy.own_lt h5 b hb) λe=>?_
     have h8:(Row.res ⟨.ow Fs true,E0,A,cap,xs⟩).all=(Value.slice A xs.length cap).ownBlock.toList++List.flatten Fs:=rfl
     rw[h8]at h7
     exact (GZ.1 h7).2.2 b (by rw[<-e]; simp) b (fO hF hb) rfl
   · rename_i hq
     rw[if_neg (by rw[hfit']; exact hq),hfit',IL]at hF
     split at hF
     case isFalse=>cases hF
     obtain rfl:[]=Fi:=by injection hF
     show GoTy.own w' [] (xX α (cells++news) q) u
     rw[fN hcl (by omega)]
     exact GoTy.own_mono (GoTy.own_flat hfl (g4 _ u hu')) λb hb=>by cases hb
end
end
section
def O1 {α:Type} (cmp:α->α->Option Int) (a b:α):Bool:=match cmp a b with
 | some c=>decide (c<0)
 | none=>false
def nL {α:Type} [DecidableEq α] (cmp:α->α->Option Int) (l:List α):Bool :=
 decide (l.length<4611686018427387904)&&l.all λa=>!O1 cmp a a&&l.all λb=>(cmp a b).isSome&&((O1 cmp a b||(O1 cmp b a||decide (a=b)))&&l.all λc=>!(O1 cmp a b&&O1 cmp b c)||O1 cmp a c)
def leF {α:Type} (cmp:α->α->Option Int) (l:List α) (i j:Fin l.length):Bool:=!O1 cmp l[j] l[i]
def lu {α:Type} [DecidableEq α] (cmp:α->α->Option Int) (l:List α):Option (List α) :=
 if nL cmp l=true then some (((List.finRange l.length).mergeSort (leF cmp l)).map λi=>l[i]) else none
structure SoF {α:Type} (cmp:α->α->Option Int) (l:List α):Prop where
 irr:∀a∈l,O1 cmp a a=false
 tot:∀a∈l,∀b∈l,O1 cmp a b=false->O1 cmp b a=false->a=b
 trans:∀a∈l,∀b∈l,∀c∈l,O1 cmp a b=true->O1 cmp b c=true->O1 cmp a c=true
 some_:∀a∈l,∀b∈l,(cmp a b).isSome=true
 len:l.length<4611686018427387904
variable {α:Type} [DecidableEq α] {cmp:α->α->Option Int} {l r:List α}
theorem soF:nL cmp l=true↔SoF cmp l:=by
 unfold nL;simp only[HH,GP,Hk,Ii,decide_eq_true_eq];constructor;rintro⟨hl,h⟩;refine⟨λa ha=>(h a ha).1,λa ha b hb h1 h2=>?_,λa ha b hb c hc h1 h2=>?_,λa ha b hb=>((h a ha).2 b hb).1,hl⟩;rcases ((h a ha).2 b hb).2.1 with h3 | h3 | h3
 rw[h1]at h3; cases h3
 rw[h2]at h3; cases h3
 exact h3;rcases ((h a ha).2 b hb).2.2 c hc with h3 | h3
 rw[h1,h2]at h3; cases h3
 exact h3;intro h;refine⟨h.len,λa ha=>?_⟩;refine⟨h.irr a ha,λb hb=>⟨h.some_ a ha b hb,?_,λc hc=>?_⟩⟩;cases h1:O1 cmp a b
 cases h2:O1 cmp b a;exact .inr (.inr (h.tot a ha b hb h1 h2));exact .inr (.inl rfl);exact .inl rfl;cases h1:O1 cmp a b;exact .inl rfl;cases h2:O1 cmp b c;exact .inl rfl;exact .inr (h.trans a ha b hb c hc h1 h2)
theorem SoF.nt {α:Type} {cmp:α->α->Option Int} {l:List α} (h:SoF cmp l) {a b c:α} (ha:a∈l) (hb:b∈l) (hc:c∈l) (h1:O1 cmp b a=false) (h2:O1 cmp c b=false):O1 cmp c a=false:=by
 cases h3:O1 cmp c a;rfl;cases h4:O1 cmp a b;have:=h.tot a ha b hb h4 h1;subst this;rw[h2]at h3; cases h3;rw[h.trans c hc a ha b hb h3 h4]at h2; cases h2
theorem SoF.le_total {α:Type} {cmp:α->α->Option Int} {l:List α} (h:SoF cmp l) {a b:α} (ha:a∈l) (hb:b∈l):O1 cmp a b=false∨O1 cmp b a=false:=by
 cases h1:O1 cmp a b;exact .inl rfl;cases h2:O1 cmp b a;exact .inr rfl;have:=h.trans a ha b hb a ha h1 h2;rw[h.irr a ha]at this; cases this
theorem C0 {α:Type} (l:List α):(List.finRange l.length).map (λi=>l[i])=l:=by
 apply IE;simp;intro i h1 h2;simp
theorem nM (h:lu cmp l=some r):SoF cmp l/\r.Perm l/\r.Pairwise λa b=>O1 cmp b a=false:=by
 unfold lu at h;split at h
 case isFalse=>cases h
 rename_i hs;have hF:=soF.1 hs;injection h with h
 subst h;have hm:∀i:Fin l.length,l[i]∈l:=λi=>GW _;refine⟨hF,?_,?_⟩
 · have h1:=(List.mergeSort_perm (List.finRange l.length) (leF cmp l)).map (λi=>l[i])
   rwa [C0]at h1
 · rw[List.pairwise_map]
   have h1:=JW (le:=leF cmp l) (λa b c h1 h2=>by
    unfold leF at h1 h2 ⊢
    simp only[Hk]at h1 h2 ⊢
    exact hF.nt (hm a) (hm b) (hm c) h1 h2) (λa b=>by
    unfold leF
    rw[Ii,Hk,Hk]
    exact (hF.le_total (hm b) (hm a))) (List.finRange l.length)
   exact h1.imp λh=>by
    unfold leF at h
    simpa using h
theorem rM {α:Type} {cmp:α->α->Option Int} {l r r':List α} (hF:SoF cmp l) (h1:r.Perm l) (h2:r'.Perm l) (s1:r.Pairwise λa b=>O1 cmp b a=false) (s2:r'.Pairwise λa b=>O1 cmp b a=false):r=r' :=
 JQ (le:=λa b=>O1 cmp b a=false) (λa b ha hb h3 h4=>hF.tot a (h1.mem_iff.1 ha) b (h2.mem_iff.1 hb) h4 h3) s1 s2 (h1.trans h2.symm)
theorem qR (hF:SoF cmp l) (h2:r.Perm l) (s2:r.Pairwise λa b=>O1 cmp b a=false):lu cmp l=some r:=by
 have hs:=soF.2 hF;have h:lu cmp l=some (((List.finRange l.length).mergeSort (leF cmp l)).map λi=>l[i]):=by
  unfold lu
  rw[if_pos hs]
 obtain⟨-,g1,g2⟩:=nM h;rw[h,rM hF g1 h2 g2 s2]
end
section
def Ar (l:d_):Option (d_):=if l.length<4611686018427387904 then some (l.mergeSort λx y=>decide (x<=y)) else none
def gJ (p:Int):d_->d_
 | []=>[]
 | b::l=>if b=p then gJ b l else b::gJ b l
def mO:d_->d_
 | []=>[]
 | a::l=>a::gJ a l
def delO {α σ:Type} (del:α->σ->Option (Bool×σ)):List α->σ->Option (List α×σ)
 | [],s=>some ([],s)
 | a::l,s=>(del a s).bind λr=>(delO del l r.2).bind λq=>some (if r.1 then q.1 else a::q.1,q.2)
theorem wT {α σ:Type} {del:α->σ->Option (Bool×σ)} {a:α} {l:List α} {s:σ} {q:List α×σ} (h:delO del (a::l) s=some q):∃b s' q',del a s=some (b,s')/\delO del l s'=some (q',q.2)/\q.1=if b then q' else a::q':=by
 unfold delO at h;cases h1:del a s with
 | none=>rw[h1]at h; cases h
 | some r =>
  rw[h1,GH]at h
  cases h2:delO del l r.2 with
  | none=>rw[h2]at h; cases h
  | some q2 =>
   rw[h2,GH]at h
   injection h with h
   subst h
   exact⟨r.1,r.2,q2.1,rfl,h2,rfl⟩
theorem np (b:Int):∀(l:d_) (p:Int),gJ p (l++[b])=gJ p l++if b=(l.getLast?).getD p then [] else [b]
 | [],p=>by
  show (if b=p then gJ b [] else b::gJ b [])=_
  by_cases h:b=p <;> simp [gJ,h]
 | a::l,p=>by
  have ih:=np b l a
  have e:((a::l).getLast?).getD p=(l.getLast?).getD a:=by
   cases l with
   | nil=>rfl
   | cons c l=>simp [JU,List.getLast?_cons]
  show (if a=p then gJ a (l++[b]) else a::gJ a (l++[b]))=(if a=p then gJ a l else a::gJ a l)++_
  rw[ih,e]
  split <;> simp
theorem sJ (b:Int) (l:d_):mO (l++[b])=mO l++if l≠[]/\b=(l.getLast?).getD 0 then [] else [b]:=by
 cases l with
 | nil=>simp [mO,gJ]
 | cons a l =>
  show a::gJ a (l++[b])=a::gJ a l++_
  rw[np]
  have e:((a::l).getLast?).getD 0=(l.getLast?).getD a:=by
   cases l with
   | nil=>rfl
   | cons c l=>simp [JU,List.getLast?_cons]
  rw[e]
  simp
end
end AT
