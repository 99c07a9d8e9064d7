/- Regions that draw their order: what only reads is taken first, as long as what is read has not been written (the operations B write). -/
import Derived.Test.YtlemonjnolciiaaGreatAtD
import Derived.Laws.BytesString
import Derived.Lib.AppendZerosOnto
import Derived.Lib.Overlaps
set_option linter.unusedSimpArgs false
set_option linter.unusedVariables false
namespace AT
section
open Go Go.RowKit
section
variable {P:Program} {md:Region.Mode} {ops:Array Oper} {Q:Exit->r_} {S:t_} {B:m_}
def nb (B:m_) (listed:Array Bool):Bool:=B.all λb=>!listed.getD b true
def wpL (P:Program) (md:Region.Mode) (ops:Array Oper) (Q:Exit->r_) (S:t_) (B:m_):Nat->Array Bool->r_
 | 0,listed,a,w=>Region.ready md ops listed=[]/\Q .normal a w
 | fuel + 1,listed,a,w=>(Region.ready md ops listed=[]->Q .normal a w) /\
  ∀i∈Region.ready md ops listed,wpOp P ops Q i (λa' w'=>(nb B (listed.setIfInBounds i true)=true->S w')/\wpL P md ops Q S B fuel (listed.setIfInBounds i true) a' w') a w
theorem kf:∀(fuel:Nat) (listed:Array Bool) (a:Act) (w:World),wpL P md ops Q S B fuel listed a w->wpAny P md ops Q fuel listed a w
 | 0,_,_,_,h=>h
 | fuel + 1,_,_,_,h=>⟨h.1,λi hi=>wpOp_mono (λa' w' h'=>kf fuel _ a' w' h'.2) (h.2 i hi)⟩
variable {i:Nat}
theorem j1 {l:Array Bool} {j:Nat} (h:j≠i):(l.setIfInBounds j true).getD i true=l.getD i true:=getD_set_ne true h
theorem BO (hi:i∉B) (l:Array Bool):nb B (l.setIfInBounds i true)=nb B l:=by
 have h:∀b∈B,(l.setIfInBounds i true).getD b true=l.getD b true:=λb hb=>j1 λe=>hi (e▸hb);rw[HB];unfold nb;simp only[HH];exact⟨λg b hb=>by rw[<-h b hb]; exact g b hb,λg b hb=>by rw[h b hb]; exact g b hb⟩
theorem s5 {oi:Oper} {v:Value} (S0:t_) (X:m_) (hi:ops[i]?=some oi) (hsel:∀(j:Nat) (o:Oper) cs b,ops[j]?=some o->o.op≠.select cs b)
 (hQ:∀c a w,Q (.panic c) (a.put oi.dst v) w->Q (.panic c) a w)
 (hX:∀j oj,j∈X->j≠i->ops[j]?=some oj->∃e∈oj.after,Region.binds md e=true/\e.on∈X) (hiB:i∉B) (hBX:(∀w,S0 w)∨((∀b∈B,b∈X)/\∀w,S w->S0 w)) :
 ∀(fuel:Nat) (listed:Array Bool) (a:Act) (w:World),
   (∀j oj,ops[j]?=some oj->j≠i->listed.getD j true=false->(∀e∈oj.after,Region.binds md e=true->e.on≠i)->oi.apart ops oj=true) ->
   (∀x∈X,listed.getD x true=false)->i∈Region.ready md ops listed->YieldsIf P ops S0 oi v a->S0 w->(nb B listed=true->S w) ->
   wpL P md ops Q S B fuel (listed.setIfInBounds i true) (a.put oi.dst v) w->wpL P md ops Q S B (fuel + 1) listed a w:=by
 intro fuel;have hnb:∀(listed:Array Bool),nb B (listed.setIfInBounds i true)=true->nb B listed=true:=λlisted h=>by rwa [BO hiB]at h
 induction fuel with
 | zero =>
  intro listed a w _ _ hr hy hS0 hS H
  refine⟨λh=>(by rw[h]at hr; cases hr),λj hj=>?_⟩
  by_cases hji:j=i
  · subst hji; exact hy.wpOp hi hS0 ⟨λh=>hS (hnb _ h),H⟩
  · have:=ready_mono hj hji
    rw[H.1]at this
    cases this
 | succ fuel ih =>
  intro listed a w hfree hXu hr hy hS0 hS H
  refine⟨λh=>(by rw[h]at hr; cases hr),λj hj=>?_⟩
  by_cases hji:j=i
  · subst hji; exact hy.wpOp hi hS0 ⟨λh=>hS (hnb _ h),H⟩
  · have h1:=H.2 j (ready_mono hj hji)
    obtain⟨hjun,oj,hoj,hall⟩:=mem_ready.1 hj
    have hlisted:∀k,k<listed.size∨True:=λ_=>.inr trivial
    have hnot:∀e∈oj.after,Region.binds md e=true->listed.getD e.on true=false->False:=λe he hb h0=>by
     have h1:=hall e he hb
     rcases Iy e.on listed.size with h' | h'
     · simp [h']at h0 h1; rw[h0]at h1; cases h1
     · simp [Ij h']at h1
    have hnoti:∀e∈oj.after,Region.binds md e=true->e.on≠i:=λe he hb heq=>hnot e he hb (by rw[heq]; exact (mem_ready.1 hr).1)
    have hjX:j∉X:=λh=>by
     obtain⟨e,he,hb,heX⟩:=hX j oj h hji hoj
     exact hnot e he hb (hXu _ heX)
    have h2:=wpOp_putIf hoj (hfree j oj hoj hji hjun hnoti) (λcs b=>hsel i oi cs b hi) (λcs b=>hsel j oj cs b hoj) hQ hy h1
    have hfree':∀k ok,ops[k]?=some ok->k≠i->(listed.setIfInBounds j true).getD k true=false ->
     (∀e∈ok.after,Region.binds md e=true->e.on≠i)->oi.apart ops ok=true:=λk ok hk hki hun hno=>by
     refine hfree k ok hk hki ?_ hno
     by_cases hjk:j=k
     · subst hjk; exact hjun
     · rw[getD_set_ne true hjk]at hun; exact hun
    refine wpOp_mono (λa' w' h3=>?_) h2
    obtain⟨h4,h5,h6⟩:=h3
    have hS':nb B (listed.setIfInBounds j true)=true->S w':=λh=>h5 (by rw[JO _ _ (Ne.symm hji),BO hiB]; exact h)
    refine⟨hS',ih (listed.setIfInBounds j true) a' w' hfree' (λx hx=>?_) (ready_mono hr (Ne.symm hji)) h4 ?_ hS' ?_⟩
    · rw[j1 (λe=>hjX (by rw[e]; exact hx))]; exact hXu x hx
    · rcases hBX with hall0 | ⟨hBX,hSS⟩
      · exact hall0 w'
      · refine hSS w' (hS' ?_)
        unfold nb
        rw[HH]
        intro b hb
        rw[j1 (λe=>hjX (by rw[e]; exact hBX b hb))]
        rcases Iy b listed.size with h' | h'
        · have:=hXu b (hBX b hb); simp [h']at this ⊢; exact this
        · have:=hXu b (hBX b hb); simp [h']at this
    · rw[JO _ _ hji]
      exact h6
end
section
variable {P:Program} {S:t_} {B:m_} {l:List Oper} {bs bs':List Bool} {a:Act} {w:World} {n fuel d i:Nat} {L:g_} {Mid:r_} {Q:Exit->r_} {o:Oper} {v:Value}
def only (Mid:r_):Exit->r_:=λe a w=>e=.normal/\Mid a w
abbrev DL (P:Program) (l:List Oper) (Mid:r_) (S:t_) (B:m_) (fuel:Nat) (bs:List Bool) (a:Act) (w:World):Prop:=wpL P .any l.toArray (only Mid) S B fuel bs.toArray a w
theorem drawn {id:Nat} (B:m_) (hm:P.follows .mixedOrders=true) (hb:List.replicate l.length false=bs) (hn:l.length=fuel) (h:∀w1,Below w.heap.size w w1->DL P l (λa w=>Q .normal a w) (λ_=>True) B fuel bs a w1):(Code.region id l.toArray true).wp P Q a w:=by
 have h1:(Code.region id l.toArray true).wp P (only λa w=>Q .normal a w) a w:=wp_region_any hm (kf (S:=λ_=>True) (B:=B) _ _ _ _ (by
  have e1:l.toArray.size=fuel:=by simpa using hn
  have e2:Array.replicate l.toArray.size false=bs.toArray:=by rw[<-hb]; simp
  rw[e2,e1]; exact h _ ((Below.refl _ _).drew)))
 exact Code.wp_mono (λe a w q=>by obtain⟨rfl,q⟩:=q; exact q) h1
theorem sZ {md:Region.Mode} {ops:Array Oper} {S S':t_} (hs:∀w,S' w->S w):∀(fuel:Nat) (listed:Array Bool) (a:Act) (w:World),wpL P md ops Q S' B fuel listed a w->wpL P md ops Q S B fuel listed a w
 | 0,_,_,_,h=>h
 | fuel + 1,_,_,_,h=>⟨h.1,λi hi=>wpOp_mono (λa' w' h'=>⟨λhn=>hs _ (h'.1 hn),sZ hs fuel _ a' w' h'.2⟩) (h.2 i hi)⟩
theorem str (S':t_) (hs:∀w,S' w->S w) (h:DL P l Mid S' B fuel bs a w):DL P l Mid S B fuel bs a w:=sZ hs _ _ _ _ h
def takeB (l:List Oper) (bs:List Bool) (i:Nat) (X B:m_):Bool :=
 Region.noSelect l.toArray&&(Region.free .any l.toArray bs.toArray i&&((Region.ready .any l.toArray bs.toArray).contains i&&(X.all (λx=>!bs.getD x true)&&(X.all (λj=>j==i||(match l[j]? with | some oj=>oj.after.any (λe=>Region.binds .any e&&X.contains e.on) | none=>true))&&!B.contains i))))
theorem ki (hb:bs.set i true=bs'):bs.toArray.setIfInBounds i true=bs'.toArray:=by subst hb; simp
theorem rI {S0:t_} (X:m_) (hi:l[i]?=some o) (hd:o.dst=some d) (hdn:d<n) (hf:Fr a n L) (hc:takeB l bs i X B=true) (hBX:(∀w,S0 w)∨((∀b∈B,b∈X)/\∀w,S w->S0 w)) (hS0:S0 w) (hS:nb B bs.toArray=true->S w)
 (hy:YieldsIf P l.toArray S0 o v a) (hb:bs.set i true=bs') (h:∀a',Fr a' n ((d,v)::L)->DL P l Mid S B fuel bs' a' w):DL P l Mid S B (fuel + 1) bs a w:=by
 unfold takeB at hc;simp only[GP]at hc;obtain⟨h1,h2,h3,h4,h5,h6⟩:=hc;have hi':l.toArray[i]?=some o:=by simpa using hi
 refine s5 S0 X hi' (Region.noSelect_spec h1) (λc a w q=>by cases q.1) (λj oj hj hji hoj=>?_) (by simpa using h6) hBX fuel bs.toArray a w (Region.free_spec hi' h2) (λx hx=>?_) (by simpa using h3) hy hS0 hS ?_
 have:=HH.1 h5 j hj;have hoj':l[j]?=some oj:=by simpa using hoj
 rw[hoj']at this;simp only[Ii,beq_iff_eq,hji,false_or,Array.any_eq_true,GP]at this;obtain⟨q,hq,h7,h8⟩:=this;exact⟨_,Array.getElem_mem hq,h7,by simpa using h8⟩;have:=HH.1 h4 x hx;simp only[Hk,List.getD_eq_getElem?_getD]at this;simpa using this;rw[ki hb,hd];exact h _ (hf.put hdn v)
theorem tkP (hi:l[i]?=some o) (hd:o.dst=some d) (hg:o.guard=none) (hdn:d<n) (hf:Fr a n L) (hc:takeB l bs i [] B=true) (hS:nb B bs.toArray=true->S w) (hy:∀w,(execOp a.eval o).run P w=.ok (.value v) w) (hb:bs.set i true=bs')
 (h:∀a',Fr a' n ((d,v)::L)->DL P l Mid S B fuel bs' a' w):DL P l Mid S B (fuel + 1) bs a w :=
 rI (S0:=λ_=>True) [] hi hd hdn hf hc (.inl λ_=>trivial) trivial hS (.inl ⟨by simp [Region.wanted,hg],λw _=>hy w⟩) hb h
theorem tkS (X:m_) (hi:l[i]?=some o) (hd:o.dst=some d) (hg:o.guard=none) (hdn:d<n) (hf:Fr a n L) (hc:takeB l bs i X B=true) (hBX:(B.all (X.contains ·))=true) (hS:S w) (hy:∀w,S w->(execOp a.eval o).run P w=.ok (.value v) w) (hb:bs.set i true=bs')
 (h:∀a',Fr a' n ((d,v)::L)->DL P l Mid S B fuel bs' a' w):DL P l Mid S B (fuel + 1) bs a w :=
 rI (S0:=S) X hi hd hdn hf hc (.inr ⟨λb hb=>by simpa using HH.1 hBX b hb,λ_ h=>h⟩) hS (λ_=>hS) (.inl ⟨by simp [Region.wanted,hg],hy⟩) hb h
variable {j e:Nat} {b:Bool} {ops:Array Oper}
theorem tkPg (hi:l[i]?=some o) (hd:o.dst=some d) (hg:o.guard=some (j,b)) (hj:(l[j]?).bind (·.dst)=some e) (hv:lk L e=some (.bool b)) (hdn:d<n) (hf:Fr a n L) (hc:takeB l bs i [] B=true) (hS:nb B bs.toArray=true->S w) (hy:∀w,(execOp a.eval o).run P w=.ok (.value v) w) (hb:bs.set i true=bs')
 (h:∀a',Fr a' n ((d,v)::L)->DL P l Mid S B fuel bs' a' w):DL P l Mid S B (fuel + 1) bs a w :=
 rI (S0:=λ_=>True) [] hi hd hdn hf hc (.inl λ_=>trivial) trivial hS (.inl ⟨by simp [Region.wanted,hg,ee (ops:=l.toArray) hf (by simpa using hj) hv],λw _=>hy w⟩) hb h
theorem tkSg (X:m_) (hi:l[i]?=some o) (hd:o.dst=some d) (hg:o.guard=some (j,b)) (hj:(l[j]?).bind (·.dst)=some e) (hv:lk L e=some (.bool b)) (hdn:d<n) (hf:Fr a n L) (hc:takeB l bs i X B=true) (hBX:(B.all (X.contains ·))=true) (hS:S w) (hy:∀w,S w->(execOp a.eval o).run P w=.ok (.value v) w) (hb:bs.set i true=bs')
 (h:∀a',Fr a' n ((d,v)::L)->DL P l Mid S B fuel bs' a' w):DL P l Mid S B (fuel + 1) bs a w :=
 rI (S0:=S) X hi hd hdn hf hc (.inr ⟨λb hb=>by simpa using HH.1 hBX b hb,λ_ h=>h⟩) hS (λ_=>hS) (.inl ⟨by simp [Region.wanted,hg,ee (ops:=l.toArray) hf (by simpa using hj) hv],hy⟩) hb h
theorem jf (hf:Fr a n L) {j d:Nat} (hj:(ops[j]?).bind (·.dst)=some d) (hb:lk L d=some undef):yielded ops a.tmps j=none:=by
 unfold yielded;simp [hj,hf.get d _ hb,undef]
theorem wlsu {rest:List Oper} (hf:Fr a n L) (hg:o.guard=some (j,b)) (hj:(ops[j]?).bind (·.dst)=some d) (hb:lk L d=some undef)
 (hd:o.dst=some e) (hdn:e<n) (h:∀a',Fr a' n ((e,undef)::L)->wpList P ops Q rest a' w):wpList P ops Q (o::rest) a w:=by
 unfold wpList;rw[if_neg (by simp [Region.wanted,hg,jf hf hj hb])];rw[hd];exact h _ (hf.put hdn undef)
theorem tkUU (hi:l[i]?=some o) (hd:o.dst=some d) (hg:o.guard=some (j,b)) (hj:(l[j]?).bind (·.dst)=some e) (hv:lk L e=some undef) (hdn:d<n) (hf:Fr a n L) (hc:takeB l bs i [] B=true) (hS:nb B bs.toArray=true->S w) (hb:bs.set i true=bs')
 (h:∀a',Fr a' n ((d,undef)::L)->DL P l Mid S B fuel bs' a' w):DL P l Mid S B (fuel + 1) bs a w :=
 rI (S0:=λ_=>True) (v:=undef) [] hi hd hdn hf hc (.inl λ_=>trivial) trivial hS (.inr ⟨by simp [Region.wanted,hg,jf (ops:=l.toArray) hf (by simpa using hj) hv],rfl⟩) hb h
theorem tkU {c:Bool} (hi:l[i]?=some o) (hd:o.dst=some d) (hg:o.guard=some (j,b)) (hj:(l[j]?).bind (·.dst)=some e) (hv:lk L e=some (.bool c)) (hne:(c==b)=false) (hdn:d<n) (hf:Fr a n L) (hc:takeB l bs i [] B=true) (hS:nb B bs.toArray=true->S w) (hb:bs.set i true=bs')
 (h:∀a',Fr a' n ((d,undef)::L)->DL P l Mid S B fuel bs' a' w):DL P l Mid S B (fuel + 1) bs a w :=
 rI (S0:=λ_=>True) (v:=undef) [] hi hd hdn hf hc (.inl λ_=>trivial) trivial hS (.inr ⟨by simp [Region.wanted,hg,ee (ops:=l.toArray) hf (by simpa using hj) hv]; simpa using hne,rfl⟩) hb h
theorem on1 (hr:Region.ready .any l.toArray bs.toArray=[i]) (hi:l[i]?=some o) (hg:o.guard=none) (hb:bs.set i true=bs')
 (h:o.wp P a w (λa' w'=>(nb B bs'.toArray=true->S w')/\DL P l Mid S B fuel bs' a' w') (only Mid)):DL P l Mid S B (fuel + 1) bs a w:=by
 refine⟨λh0=>(by rw[hr]at h0; cases h0),λj hj=>?_⟩
 rw[hr,GR]at hj;subst hj;unfold wpOp;have hi':l.toArray[j]?=some o:=by simpa using hi
 simp only[hi',Region.wanted,hg];rw[ki hb];exact .inl h
theorem on1g (hr:Region.ready .any l.toArray bs.toArray=[i]) (hi:l[i]?=some o) (hg:o.guard=some (j,b)) (hj:(l[j]?).bind (·.dst)=some e) (hv:lk L e=some (.bool b)) (hf:Fr a n L) (hb:bs.set i true=bs')
 (h:o.wp P a w (λa' w'=>(nb B bs'.toArray=true->S w')/\DL P l Mid S B fuel bs' a' w') (only Mid)):DL P l Mid S B (fuel + 1) bs a w:=by
 refine⟨λh0=>(by rw[hr]at h0; cases h0),λq hq=>?_⟩
 rw[hr,GR]at hq;subst hq;unfold wpOp;have hi':l.toArray[q]?=some o:=by simpa using hi
 have hw:Region.wanted o (yielded l.toArray a.tmps)=true:=by simp [Region.wanted,hg,ee (ops:=l.toArray) hf (by simpa using hj) hv]
 simp only[hi',hw,if_true];rw[ki hb];exact .inl h
theorem uO {w0:Base} {S:w_} {M:List Blk} {R:List Row} {D:List DI} {I:List (Bool×MP)} (H:O_ w0 S M R D I w) {α:Type} [GoTy α] {T E:TypeId} (hT:P.underlying T=some (.slice E)) (hE:SZ P E (GoTy.n α)) {A:c_} {len cap:Nat} {i:Int} {xs:List α} {e:α} {f:Bool}
 (j:Nat) (hi:I[j]?=some (f,MP.val [.slice A len cap] xs)) (he:V_ xs i=some e) :
 ∃b o cs,(∀w' k,(Instr.indexAt T (.slice A len cap) (.int k i)).run P w'=.ok (.pointer (some ⟨b,o,none⟩)) w')/\GoTy.rep w (St w0 S M R D f) cs e/\O_ w0 S M R D ((f,MP.cells ⟨b,o,none⟩ cs)::I) w:=by
 obtain⟨A',cap',hcs,hlc,hcm,hel⟩:lrep w (St w0 S M R D f) [.slice A len cap] xs:=H.get j hi;obtain⟨h0,hl,hg⟩:=lW he;simp only[Ho,Value.slice.injEq,and_true]at hcs;obtain⟨rfl,rfl,rfl⟩:=hcs;obtain⟨p,rfl,hp,cs,hc,hr⟩:=hel _ _ hg;have hlt:p.block<w.heap.size:=ElemAt.lt (S:=St w0 S M R D f) (i:=i.toNat) (x:=e) ⟨cs,hc,hr⟩;have hlen:=GoTy.len hr;have hpos:=GoTy.pos (α:=α);have hq:p.add (i.toNat * GoTy.n α)=⟨p.block,(p.add (i.toNat * GoTy.n α)).off,none⟩:=by
  have h0:=hc 0 _ (GM (by omega))
  rw[Hz]at h0
  have hs:(p.add (i.toNat * GoTy.n α)).spot=none:=by
   unfold World.cell? at h0
   cases hsp:(p.add (i.toNat * GoTy.n α)).spot with
   | none=>rfl
   | some s =>
    rw[hsp]at h0
    split at h0 <;> simp at h0
  rw[<-block_add p (i.toNat * GoTy.n α)]
  generalize p.add (i.toNat * GoTy.n α)=q at hs
  cases q; simp only at hs; subst hs; rfl
 refine⟨p.block,(p.add (i.toNat * GoTy.n α)).off,cs,λw' k=>?_,hr,H.push _ ⟨hp,hlt,λq c hq'=>by rw[<-hq,add_add]; exact hc q c hq'⟩⟩;rw[<-hq];exact run_indexAt (P:=P) (w:=w') (cap:=cap) hT hE h0 hl (p:=p) (k:=k)
theorem uo {T:TypeId} {x y:Operand} {u r:Value} {dst:Option Tmp} {ty:TypeId} {pos:String} {af:Array Edge} {g:x_} (hf:Fr a n L) (hx:ev L x=some u) (hy:ev L y=some v) {k:IntKind} {i:Int} (hv:v=.int k i) (h:∀w' k,(Instr.indexAt T u (.int k i)).run P w'=.ok r w') :
 ∀w,(execOp a.eval ⟨dst,.indexAddr T x y,ty,pos,af,g⟩).run P w=.ok (.value r) w:=by
 intro w;subst hv;simp [execOp,hf.eval hx,hf.eval hy,h]
theorem dn (hr:Region.ready .any l.toArray bs.toArray=[]) (h:Mid a w):DL P l Mid S B fuel bs a w:=by
 cases fuel with
 | zero=>exact⟨hr,rfl,h⟩
 | succ k=>exact⟨λ_=>⟨rfl,h⟩,by rw[hr]; simp⟩
end
end
section
open Go Go.RowKit
section
variable {P:Program} {Q:Exit->r_} {a:Act} {w:World} {n:Nat} {L:g_} {dst:Option Tmp} {ty:TypeId} {pos:String} {af:Array Edge} {g:x_} {K:r_} {d:Nat}
variable {w0:Base} {S:w_} {M:List Blk} {R:List Row} {D:List DI} {I:List (Bool×MP)}
theorem bh (hf:Fr a n L) {fn:Fn} {xs:List Operand} {vs:p_} (hx:evs L xs=some vs) :
 (execOp a.eval ⟨dst,.makeFunc fn #[] xs.toArray,ty,pos,af,g⟩).run P w=.ok (.value (.func fn #[] vs.toArray)) w:=by
 simp [execOp,Instr.makeFunc,hf.evals hx]
theorem cB (hf:Fr a n L) {f:FuncId} (hk:CL P f) {x:Operand} {ca:p_} (hx:ev L x=some (.func (.func f) #[] ca.toArray)) {xs:List Operand} {ats:Array TypeId} {vs:p_} (hxs:evs L xs=some vs) (hdn:d<n) {Post:Value->t_}
 (hc:Calls P f (vs++ca).toArray w λe w'=>∃v,e=.returned v/\Post v w') (k:∀v w' a',Post v w'->Fr a' n ((d,v)::L)->K a' w') :
 Oper.wp P ⟨some d,.call ⟨.value x,xs.toArray,ats⟩,ty,pos,af,g⟩ a w K Q:=by
 have hk':∀args w,(callFunc f args).run P w=.ok (.enter f args) w:=hk;have h1:execOp a.eval ⟨some d,.call ⟨.value x,xs.toArray,ats⟩,ty,pos,af,g⟩=callFunc f (vs++ca).toArray:=by
  simp [execOp,resolve,Deferred.ofValue,hf.eval hx,hf.evals hxs,invoke]
 unfold Oper.wp;rw[h1,hk',Oper.upon_enter];refine hc.mono λe w' ⟨v,he,hp⟩=>?_;subst he;exact k v w' _ hp (hf.put hdn v)
theorem O_.boxTrue (H:O_ w0 S M R D I w) (i:Nat) {b:Nat} {T:TypeId} {cs:p_} (hi:M[i]?=some ⟨b,T,cs⟩):(MP.cells ⟨b,0,none⟩ cs).pred w (λ_=>True):=by
 have h:w.heap[b]?=some (.cells cs.toArray T (0,0)):=MemZ.ok H (Blk.res ⟨b,T,cs⟩) (GI.2 (.inl (Hy.2 ⟨_,GX hi,rfl⟩)));refine⟨trivial,?_,λj c hc=>?_⟩;rcases Iy b w.heap.size with h' | h'
 exact h';rw[Ij h']at h; cases h
 rw[add_lit,HA,H.cell hi]; exact hc
theorem gW {p:MP} {T:w_} (h:p.pred w T):p.pred w (λ_=>True):=p.mono h λ_ _ _=>⟨trivial,rfl⟩
end
end
section
open Go Go.RowKit
section
variable {P:Program} {Q:Exit->r_} {a:Act} {w w' w1:World} {n:Nat} {L:g_} {dst:Option Tmp} {ty:TypeId} {pos:String} {af:Array Edge} {g:x_} {K:r_} {d:Nat}
variable {w0:Base} {S:w_} {M:List Blk} {R:List Row} {D:List DI} {I:List (Bool×MP)}
theorem ps0:∀d∈([]:List DI),d.p.pred w (·∈d.F):=λ_ h=>by cases h
variable {α:Type} [GoTy α]
theorem R1 {F:m_} {cs:p_} {x:α} {X:List DI} (h:GoTy.own w F cs x) (t:∀d∈X,d.p.pred w (·∈d.F)):∀d∈((⟨F,MP.own F cs x⟩:DI)::X),d.p.pred w (·∈d.F):=by
 intro d hd;rcases Hf.1 hd with rfl | hd
 exact⟨h,λb hb=>hb⟩;exact t d hd
theorem O_.arg (H:O_ ⟨w1,[]⟩ S M R D I w) {p:MP} (h:p.pred w1 S):O_ ⟨w1,[]⟩ S M R D ((false,p)::I) w:=H.pushArg p h
theorem Dj {Fs:List (m_)} {i off:Nat} {vs:p_} {e e':α} (h:∀F cs,GoTy.own w F cs e->GoTy.own w F (cs.take off++vs++cs.drop (off + vs.length)) e') {T:w_} {fr:Bool} :
 ∀cs,(Kd.ow Fs fr).holds w T i cs e->(Kd.ow Fs fr).holds w T i (cs.take off++vs++cs.drop (off + vs.length)) e':=λcs hc Fi hFi=>h Fi cs (hc Fi hFi)
end
end
section
open Go Go.RowKit
section
variable {P:Program} {Q:Exit->r_} {a:Act} {w w' w1:World} {n:Nat} {L:g_} {dst:Option Tmp} {ty:TypeId} {pos:String} {af:Array Edge} {g:x_} {K:r_} {d:Nat}
variable {w0:Base} {S:w_} {M:List Blk} {R:List Row} {D:List DI} {I:List (Bool×MP)}
def evo (L:g_):Option Operand->Option (Option Value)
 | none=>some none
 | some o=>(ev L o).map some
theorem jc (hf:Fr a n L) {o:Option Operand} {v:Option Value} (h:evo L o=some v):o.map a.eval=v:=by
 cases o with
 | none=>simpa [evo] using h
 | some o =>
  simp only[evo,Ht]at h
  obtain⟨u,hu,rfl⟩:=h
  simp [hf.eval hu]
theorem aO (hf:Fr a n L) {T:TypeId} {x:Operand} {u r:Value} (hx:ev L x=some u) {lo hi:Option Operand} {lov hiv:Option Value} (hlo:evo L lo=some lov) (hhi:evo L hi=some hiv) (h:∀w',(Instr.sliceAt T u lov hiv none).run P w'=.ok r w') :
 ∀w,(execOp a.eval ⟨dst,.slice T x lo hi none,ty,pos,af,g⟩).run P w=.ok (.value r) w:=by
 intro w;simp [execOp,hf.eval hx,jc hf hlo,jc hf hhi,h]
theorem aP (H:O_ w0 S M R D I w) {α:Type} [GoTy α] {T E:TypeId} (hT:P.underlying T=some (.slice E)) (hE:SZ P E (GoTy.n α)) {A:c_} {len cap:Nat} {i j:Int} {xs ys:List α} {f:Bool} (q:Nat) {lov hiv:Option Value}
 (hlo:lov=none/\i=0∨lov=some (.int .i64 i)) (hhi:hiv=none/\j=xs.length∨hiv=some (.int .i64 j)) (hq:I[q]?=some (f,MP.val [.slice A len cap] xs)) (hs:sub xs i j=some ys) :
 ∃A' c',(∀w',(Instr.sliceAt T (.slice A len cap) lov hiv none).run P w'=.ok (.slice A' ys.length c') w')/\O_ w0 S M R D ((f,MP.val [.slice A' ys.length c'] ys)::I) w:=by
 obtain⟨A',cap',hcs,hlc,hcm,hel⟩:lrep w (St w0 S M R D f) [.slice A len cap] xs:=H.get q hq;simp only[Ho,Value.slice.injEq,and_true]at hcs;obtain⟨rfl,rfl,rfl⟩:=hcs;unfold sub at hs;split at hs
 case isFalse=>cases hs
 rename_i hb;obtain⟨h0,h1,h2⟩:=hb;injection hs with hs
 have hyl:ys.length=j.toNat - i.toNat:=by rw[<-hs]; simp; omega
 have hE':∀w,(Go.sizeOf E).run P w=.ok (GoTy.n α) w:=hE;refine⟨if cap=i.toNat then A else A.map (·.add (i.toNat * GoTy.n α)),cap - i.toNat,λw'=>?_,H.push _ ?_⟩
 · have hj:(j.toNat:Int)=j:=HG (by omega)
   rw[hyl]
   have hsb:(Instr.sliceBounds true xs.length cap lov hiv none).run P w'=.ok (i.toNat,j.toNat,cap) w':=by
    rcases hlo with ⟨e1,rfl⟩ | e1 <;> rcases hhi with ⟨e2,e3⟩ | e2 <;> rw[e1,e2]
    · subst e3; simp [Instr.sliceBounds]
    · simp [Instr.sliceBounds,Instr.sliceBound,asIntOf,show 0<=j by omega,show j<=cap by omega]
    · subst e3; simp [Instr.sliceBounds,Instr.sliceBound,asIntOf,h0,h1]
    · simp [Instr.sliceBounds,Instr.sliceBound,asIntOf,h0,show 0<=j by omega,show j<=cap by omega,hj,h1]
   simp [Instr.sliceAt,Instr.slice,run_underlying hT,hsb,hE']
 refine⟨_,_,rfl,by omega,by omega,λt z hz=>?_⟩;have hz':xs[i.toNat + t]?=some z:=by
  rw[<-hs,Hl]at hz
  rw[IY]at hz
  split at hz
  · exact hz
  · cases hz
 obtain⟨p,hp,hSp,cs,hc,hr⟩:=hel _ _ hz';have hlt:=(GQ.1 hz').1;rw[if_neg (by omega),hp];refine⟨p.add (i.toNat * GoTy.n α),rfl,by rw[block_add]; exact hSp,cs,λu c hu=>?_,hr⟩;rw[add_add,<-II,<-HN];exact hc u c hu
theorem B6 {T E:TypeId} (hT:P.underlying T=some (.slice E)) {A:c_} {n1 c1:Nat}:(Op.equal T (.slice A n1 c1) (.slice none 0 0)).run P w=.ok A.isNone w:=by
 have h:∀d,(Op.equalIn (d + 1) T (.slice A n1 c1) (.slice none 0 0)).run P w=.ok A.isNone w:=λd=>by
  cases A <;> simp [Op.equalIn,run_underlying hT]
 obtain⟨d,hd⟩:∃d,Op.maxDepth=d + 1:=⟨_,rfl⟩;unfold Op.equal;rw[hd]; exact h d
theorem tE (hf:Fr a n L) {T U E:TypeId} (hT:P.underlying T=some (.slice E)) {x y:Operand} {A:c_} {n1 c1:Nat} (hx:ev L x=some (.slice A n1 c1)) (hy:ev L y=some (.slice none 0 0)) :
 (execOp a.eval ⟨dst,.binOp .eql T x y U,ty,pos,af,g⟩).run P w=.ok (.value (.bool A.isNone)) w:=by
 have hb:(binOp .eql T (.slice A n1 c1) (.slice none 0 0)).run P w=.ok (.bool A.isNone) w:=by
  show (do pure (.bool (<-Op.equal T (.slice A n1 c1) (.slice none 0 0))):Sem Value).run P w=_
  simp [B6 (P:=P) (w:=w) hT]
 have hg:(eqGuard .eql T x y (.slice A n1 c1) (.slice none 0 0)).run P w=.ok () w:=by simp [eqGuard]
 show (do pure (.value (<-(do eqGuard .eql T x y (a.eval x) (a.eval y); binOp .eql T (a.eval x) (a.eval y)))):Sem Next).run P w=_
 rw[hf.eval hx,hf.eval hy];simp [hg,hb]
theorem Cw (hf:Fr a n L) {T U E:TypeId} (hT:P.underlying T=some (.slice E)) {x y:Operand} {n1 c1:Nat} (hx:ev L x=some (.slice none n1 c1)) (hy:ev L y=some (.slice none 0 0)) :
 (execOp a.eval ⟨dst,.binOp .eql T x y U,ty,pos,af,g⟩).run P w=.ok (.value (.bool true)) w:=tE hf hT hx hy
theorem Cv (hf:Fr a n L) {T U E:TypeId} (hT:P.underlying T=some (.slice E)) {x y:Operand} {p:Addr} {n1 c1:Nat} (hx:ev L x=some (.slice (some p) n1 c1)) (hy:ev L y=some (.slice none 0 0)) :
 (execOp a.eval ⟨dst,.binOp .eql T x y U,ty,pos,af,g⟩).run P w=.ok (.value (.bool false)) w:=tE hf hT hx hy
theorem AL {α:Type} [GoTy α] {T:w_} {m c:Nat} {xs:List α} (h:GoTy.rep w T [.slice none m c] xs):xs=[]:=by
 obtain⟨A,c',hcs,-,-,hel⟩:lrep w T [.slice none m c] xs:=h;simp only[Ho,Value.slice.injEq,and_true]at hcs;obtain⟨rfl,rfl,rfl⟩:=hcs;cases xs with
 | nil=>rfl
 | cons x xs=>obtain⟨p,hp,_⟩:=hel 0 x rfl; cases hp
end
section
variable {P:Program} {l:List Oper} {Mid S:t_} {a:Act} {w:World} {B:m_} {fuel:Nat} {bs:List Bool} {n:Nat} {L:g_}
theorem on2 {Mid:r_} {i j:Nat} {oi oj:Oper} {bi bj:List Bool} (hr:Region.ready .any l.toArray bs.toArray=[i,j]) (hi:l[i]?=some oi) (hgi:oi.guard=none) (hbi:bs.set i true=bi) (hj:l[j]?=some oj) (hgj:oj.guard=none) (hbj:bs.set j true=bj)
 (h:oi.wp P a w (λa' w'=>(nb B bi.toArray=true->S w')/\DL P l Mid S B fuel bi a' w') (only Mid)) (h':oj.wp P a w (λa' w'=>(nb B bj.toArray=true->S w')/\DL P l Mid S B fuel bj a' w') (only Mid)):DL P l Mid S B (fuel + 1) bs a w:=by
 refine⟨λh0=>(by rw[hr]at h0; cases h0),λq hq=>?_⟩
 rw[hr]at hq;simp only[Hf,Is,or_false]at hq;rcases hq with rfl | rfl
 unfold wpOp;have hi':l.toArray[q]?=some oi:=by simpa using hi
 simp only[hi',Region.wanted,hgi];rw[ki hbi];exact .inl h;unfold wpOp;have hi':l.toArray[q]?=some oj:=by simpa using hj
 simp only[hi',Region.wanted,hgj];rw[ki hbj];exact .inl h'
end
instance:GoTy By where
 n:=1
 agg:=false
 flat:=true
 rep _ _ cs x:=cs=[.int .u8 x.n]
 own _ F cs x:=F=[]/\cs=[.int .u8 x.n]
 pos:=by decide
 len:=by rintro _ _ _ _ rfl; rfl
 one:=by rintro _ _ _ _ rfl; simp [Value.oneCell']
 mono:=λh _=>h
 own_rep:=λh=>h.2
 own_mono:=λh _=>h
 own_lt:=by rintro _ _ _ _ ⟨rfl,_⟩ _ h; cases h
 own_flat:=λ_ h=>⟨rfl,h⟩
instance:GoTy U64 where
 n:=1
 agg:=false
 flat:=true
 rep _ _ cs x:=cs=[.int .u64 x.n]
 own _ F cs x:=F=[]/\cs=[.int .u64 x.n]
 pos:=by decide
 len:=by rintro _ _ _ _ rfl; rfl
 one:=by rintro _ _ _ _ rfl; simp [Value.oneCell']
 mono:=λh _=>h
 own_rep:=λh=>h.2
 own_mono:=λh _=>h
 own_lt:=by rintro _ _ _ _ ⟨rfl,_⟩ _ h; cases h
 own_flat:=λ_ h=>⟨rfl,h⟩
variable {S:w_}
theorem GG {w:World} {v:Value} {x:By} (h:VR w S v x):v=.int .u8 x.n:=by obtain⟨cs,rfl,rfl⟩:=h; rfl
theorem ER {w:World} {x:By}:VR w S (.int .u8 x.n) x:=⟨_,rfl,rfl⟩
section
variable {P:Program} {a:Act} {w:World} {n:Nat} {L:g_} {dst:Option Tmp} {ty:TypeId} {pos:String} {af:Array Edge} {g:x_}
variable {T U:TypeId} {x y:Operand} {k:IntKind} {i j:Int} {f:Int->Int}
theorem nS (hk:∀n,k.wrap n=f n) (hf:Fr a n L) (hx:ev L x=some (.int k i)) (hy:ev L y=some (.int k j)):(execOp a.eval ⟨dst,.binOp .add T x y U,ty,pos,af,g⟩).run P w=.ok (.value (.int k (f (i + j)))) w:=by
 simp [execOp,hf.eval hx,hf.eval hy,eqGuard,binOp,Op.intArith,hk]
theorem tF (hk:∀n,k.wrap n=f n) (hf:Fr a n L) (hx:ev L x=some (.int k i)) (hy:ev L y=some (.int k j)):(execOp a.eval ⟨dst,.binOp .mul T x y U,ty,pos,af,g⟩).run P w=.ok (.value (.int k (f (i * j)))) w:=by
 simp [execOp,hf.eval hx,hf.eval hy,eqGuard,binOp,Op.intArith,hk]
theorem oW (hf:Fr a n L) (hx:ev L x=some (.int .u64 i)) (hy:ev L y=some (.int .u64 j)):(execOp a.eval ⟨dst,.binOp .and T x y U,ty,pos,af,g⟩).run P w=.ok (.value (.int .u64 (jG i j))) w:=by
 simp [execOp,hf.eval hx,hf.eval hy,eqGuard,binOp,Op.intBits,u64w,jG];try rfl
variable {k':IntKind}
theorem jN {b:Nat} {q:Int} (hb:k.bits=b) (hf:Fr a n L) (hx:ev L x=some (.int k i)) (hy:ev L y=some (.int k' j)) (h:shrk b i j=some q):(execOp a.eval ⟨dst,.binOp .shr T x y U,ty,pos,af,g⟩).run P w=.ok (.value (.int k q)) w:=by
 unfold shrk at h;split at h
 cases h;rename_i h0;injection h with h; subst h
 subst hb;simp [execOp,hf.eval hx,hf.eval hy,eqGuard,binOp,Op.shift,h0]
theorem Dy (hf:Fr a n L) (hx:ev L x=some (.int k i)) (hy:ev L y=some (.int k j)):(execOp a.eval ⟨dst,.binOp .lss T x y U,ty,pos,af,g⟩).run P w=.ok (.value (.bool (decide (i<j)))) w:=by
 simp [execOp,hf.eval hx,hf.eval hy,eqGuard,binOp,Op.intCmp]
theorem mV (hf:Fr a n L) (hx:ev L x=some (.int k i)) (hy:ev L y=some (.int k j)):(execOp a.eval ⟨dst,.binOp .leq T x y U,ty,pos,af,g⟩).run P w=.ok (.value (.bool (decide (i<=j)))) w:=by
 simp [execOp,hf.eval hx,hf.eval hy,eqGuard,binOp,Op.intCmp]
theorem DC (hf:Fr a n L) (hx:ev L x=some (.int k i)) (hy:ev L y=some (.int k j)):(execOp a.eval ⟨dst,.binOp .gtr T x y U,ty,pos,af,g⟩).run P w=.ok (.value (.bool (decide (i > j)))) w:=by
 simp [execOp,hf.eval hx,hf.eval hy,eqGuard,binOp,Op.intCmp]
theorem oV (hf:Fr a n L) (hx:ev L x=some (.int k i)) (hy:ev L y=some (.int k j)):(execOp a.eval ⟨dst,.binOp .geq T x y U,ty,pos,af,g⟩).run P w=.ok (.value (.bool (decide (i>=j)))) w:=by
 simp [execOp,hf.eval hx,hf.eval hy,eqGuard,binOp,Op.intCmp]
theorem ck {us:TypeDesc} (hk:∀n,k.wrap n=f n) (hs:P.underlying T=some us) (hd:P.underlying U=some (.int k)) (hf:Fr a n L) (hx:ev L x=some (.int k' i)):(execOp a.eval ⟨dst,.convert T U x,ty,pos,af,g⟩).run P w=.ok (.value (.int k (f i))) w:=by
 simp [execOp,hf.eval hx,convert,run_underlying hs,run_underlying hd,Conv.intToInt,hk]
end
section
variable {w w' w1:World} {w0:Base} {S:w_} {M:List Blk} {R:List Row} {D:List DI} {I:List (Bool×MP)}
theorem O_.boxAt (H:O_ w0 S M R D I w) (i:Nat) {b:Nat} {T:TypeId} {cs:p_} (hi:M[i]?=some ⟨b,T,cs⟩):w.heap[b]?=some (.cells cs.toArray T (0,0)) :=
 MemZ.ok H (Blk.res ⟨b,T,cs⟩) (GI.2 (.inl (Hy.2 ⟨_,GX hi,rfl⟩)))
variable {i b:Nat} {T:TypeId} {cs:p_}
theorem rB (hi:M[i]?=some ⟨b,T,cs⟩):b∈V0 (zs M R D) :=
 Hr.2 ⟨Blk.res ⟨b,T,cs⟩,GI.2 (.inl (Hy.2 ⟨_,GX hi,rfl⟩)),by simp [Blk.res]⟩
theorem O_.notSt (H:O_ w0 S M R D I w) (i:Nat) {b:Nat} {T:TypeId} {cs:p_} (hi:M[i]?=some ⟨b,T,cs⟩) (f:Bool):¬St w0 S M R D f b:=by
 have h1:=rB (R:=R) (D:=D) hi;rintro (⟨-,h,-⟩ | ⟨-,h⟩)
 exact h (MemZ.lt H b (dZ h1)).1;exact h h1
theorem O_.startB (S:w_) {b:Nat} {T:TypeId} {cs:p_} (h:w1.heap[b]?=some (.cells cs.toArray T (0,0))):O_ ⟨w1,[b]⟩ S [⟨b,T,cs⟩] [] [] [] w1:=by
 have hlt:b<w1.heap.size:=by
  rcases Iy b w1.heap.size with h' | h'
  · exact h'
  · rw[Ij h']at h; cases h
 refine⟨⟨rfl,rfl,rfl,GV _,λ_ _=>rfl,GV _⟩,λc hc=>?_,?_,λr hr=>?_,λf hf=>(by cases hf)⟩
 have hc':c=b:=by simpa [allZ,zs,Res.all,Blk.res] using hc
 subst hc';exact⟨.inr (by simp),hlt⟩;simp [allZ,zs,Res.all,Blk.res];have:r=Blk.res ⟨b,T,cs⟩:=by simpa [zs] using hr
 subst this;exact h
theorem O_.argB {G:m_} (H:O_ ⟨w1,G⟩ S M R D I w) (hS:∀b∈G,¬S b) {p:MP} (h:p.pred w1 S):O_ ⟨w1,G⟩ S M R D ((false,p)::I) w:=by
 refine H.push _ (p.mono h λb hb hlt=>?_);have hn:¬(⟨w1,G⟩:Base).nw b:=by
  rintro (h1 | h1)
  · simp only at h1; omega
  · exact hS b h1 hb
 exact⟨.inl ⟨rfl,hn,hb⟩,(MemZ.below H).block b hn⟩
theorem Ez {T':TypeId} {cs':p_} (hi:M[i]?=some ⟨b,T,cs⟩) (f:Bool):St w0 S (M.set i ⟨b,T',cs'⟩) R D f=St w0 S M R D f:=by
 unfold St;rw[iz (gM (R:=R) (D:=D) hi),iz (jH (R:=R) (D:=D) ⟨b,T',cs'⟩ hi)];funext c;unfold D0;simp only[ii,cm];rfl
theorem O_.wroteBox (H:O_ w0 S M R D I w) (i:Nat) {b:Nat} {T:TypeId} {cs cs':p_} (hi:M[i]?=some ⟨b,T,cs⟩) (hc:Chg w w' [b]) (hb:w'.heap[b]?=some (.cells cs'.toArray T (0,0))):O_ w0 S (M.set i ⟨b,T,cs'⟩) R D I w':=by
 refine MemZ.perm (MemZ.step (rs:=[Blk.res ⟨b,T,cs⟩]) (rs':=[Blk.res ⟨b,T,cs'⟩]) (MemZ.perm H (gM hi)) (hc.sub λx hx=>?_) (λx hx=>.inl hx) (λx hx=>.inl hx) (by simp [allZ,Res.all,Blk.res]) λ_ q hq=>?_) (jH _ hi).symm;rw[cm]; simpa [Blk.res] using hx;rw[GR]at hq; subst hq;exact hb
theorem O_.movesB (H:O_ w0 S M R D I w) (i:Nat) {b:Nat} {T T':TypeId} {cs cs':p_} (hi:M[i]?=some ⟨b,T,cs⟩) (tag:Bool):Moves w' w' (St ⟨w,[b]⟩ (St w0 S M R D false) [⟨b,T',cs'⟩] [] [] tag) (St w0 S (M.set i ⟨b,T',cs'⟩) R D tag):=by
 intro c hc _;refine⟨?_,rfl⟩;rw[Ez hi];rcases hc with ⟨rfl,-,h⟩ | ⟨h1,h2⟩
 exact h;rcases h1 with h1 | h1
 exact H.new h1 _;have e:=GR.1 h1;rw[e]at h2;exact absurd (rB (M:=[⟨b,T',cs'⟩]) (R:=[]) (D:=[]) (i:=0) rfl) h2
theorem AB {bs:p_} {f:Bool} {α:Type} [GoTy α] {x:α} (hi:M[i]?=some ⟨b,T,bs⟩) (h:GoTy.rep w (St w0 S M R D f) cs x):GoTy.rep w (St w0 S [⟨b,T,bs⟩] [] [] f) cs x :=
 GoTy.mono h λc hc _=>by
  refine⟨?_,rfl⟩
  rcases hc with hc | ⟨h1,h2⟩
  · exact .inl hc
  · refine .inr ⟨h1,λh3=>h2 ?_⟩
    have:c=b:=by simpa [V0,zs,Blk.res] using h3
    subst this; exact rB hi
end
section
variable {P:Program} {Q:Exit->r_} {a:Act} {w:World} {n:Nat} {L:g_} {ty:TypeId} {pos:String} {af:Array Edge} {g:x_} {K:r_} {d:Nat}
variable {w0:Base} {S:w_} {M:List Blk} {R:List Row} {D:List DI} {I:List (Bool×MP)}
theorem pe {B:Nat} {E:TypeId} {s:Nat} {A:c_} {m cap k:Nat} {cells:p_} (h:w.ownsRow B E s (.slice A m cap) m cells) (hk:k<=m):w.ownsRow B E s (.slice A k cap) k (cells.take (k * s)):=by
 obtain⟨h1,h2⟩:=h;have hks:k * s<=m * s:=Hb s hk;refine⟨by rw[GO,h1]; exact Ic hks,?_⟩;rcases h2 with ⟨hv,hn⟩ | ⟨b,cap',cur,hv,hb,hg,hl,hm,hsz,ht⟩
 simp only[Value.slice.injEq]at hv;obtain⟨rfl,rfl,rfl⟩:=hv;obtain rfl:k=0:=by omega
 exact .inl ⟨rfl,rfl⟩;simp only[Value.slice.injEq]at hv;obtain⟨rfl,-,rfl⟩:=hv;exact .inr ⟨b,cap,cur,rfl,hb,hg,by omega,hm,hsz,by rw[<-ht,IN,Ic hks]⟩
theorem pj (hf:Fr a n L) (H:O_ w0 S M R D I w) {α:Type} [GoTy α] {T E E':TypeId} (hT:P.underlying T=some (.slice E)) (hE:SZ P E (GoTy.n α)) {x:Operand} {lo hi:Option Operand} {A:c_} {cap:Nat} {j:Int} {xs ys:List α} {fr:Bool} (q:Nat) {lov hiv:Option Value}
 (hx:ev L x=some (.slice A xs.length cap)) (hlo:evo L lo=some lov) (hhi:evo L hi=some hiv) (hlo':lov=none∨lov=some (.int .i64 0)) (hhi':hiv=none/\j=xs.length∨hiv=some (.int .i64 j)) (hq:R[q]?=some ⟨.sh fr,E',A,cap,xs⟩) (hs:sub xs 0 j=some ys) (hdn:d<n)
 (k:∀a',Fr a' n ((d,.slice A ys.length cap)::L)->O_ w0 S M (R.set q ⟨.sh fr,E',A,cap,ys⟩) D I w->K a' w):Oper.wp P ⟨some d,.slice T x lo hi none,ty,pos,af,g⟩ a w K Q:=by
 obtain⟨cells,ho,hfit,hel⟩:=H.rowAt (GX hq);unfold sub at hs;split at hs
 case isFalse=>cases hs
 rename_i hb;obtain⟨h0,h1,h2⟩:=hb;injection hs with hs
 have hyl:ys.length=j.toNat:=by rw[<-hs]; simp; omega
 have hcap:xs.length<=cap:=by
  rcases ho.2 with ⟨hv,hn⟩ | ⟨b,cap',cur,hv,hb,hg,hl,hm,hsz,ht⟩
  · have:xs.length=0:=hn
    omega
  · simp only[Row.v,Value.slice.injEq]at hv
    obtain⟨-,-,rfl⟩:=hv
    exact hl
 have hE':∀w,(Go.sizeOf E).run P w=.ok (GoTy.n α) w:=hE;have hA:(A.map λp=>p.add 0)=A:=by cases A <;> simp [Addr.add]
 have hval:(execOp a.eval ⟨some d,.slice T x lo hi none,ty,pos,af,g⟩).run P w=.ok (.value (.slice A ys.length cap)) w:=by
  have hsl:(Instr.sliceAt T (.slice A xs.length cap) lov hiv none).run P w=.ok (.slice A ys.length cap) w:=by
   rw[hyl]
   have hsb:(Instr.sliceBounds true xs.length cap lov hiv none).run P w=.ok (0,j.toNat,cap) w:=by
    rcases hlo' with e1 | e1 <;> rcases hhi' with ⟨e2,e3⟩ | e2 <;> rw[e1,e2]
    · subst e3; simp [Instr.sliceBounds]
    · simp [Instr.sliceBounds,Instr.sliceBound,asIntOf,show 0<=j by omega,show j<=cap by omega]
    · subst e3; simp [Instr.sliceBounds,Instr.sliceBound,asIntOf]
    · simp [Instr.sliceBounds,Instr.sliceBound,asIntOf,show 0<=j by omega,show j<=cap by omega]
   simp [Instr.sliceAt,Instr.slice,run_underlying hT,hsb,hE',hA]
  simp [execOp,hf.eval hx,jc hf hlo,jc hf hhi,hsl]
 refine op_q hf hval rfl hdn λa' hf'=>k a' hf' (H.reRow hq ⟨⟨rfl,rfl,rfl,GV _,λ_ _ _=>rfl⟩,GV _⟩ (.inl (by cases A <;> rfl)) (Iw _) λhm=>?_)
 have hyx:ys.length<=xs.length:=by omega
 refine⟨cells.take (ys.length * GoTy.n α),pe ho hyx,trivial,λi y hy=>?_⟩;have hi:i<ys.length:=(GQ.1 hy).1;have hx':xs[i]?=some y:=by
  rw[<-hs]at hy
  simp only[Int.toNat_zero,He]at hy
  rw[IY]at hy
  split at hy
  · exact hy
  · cases hy
 have e:xX α (cells.take (ys.length * GoTy.n α)) i=xX α cells i:=by
  unfold xX
  have h3:i * GoTy.n α + GoTy.n α<=ys.length * GoTy.n α:=by
   have:=Hb (GoTy.n α) (show i + 1<=ys.length from hi)
   rwa [Iq]at this
  rw[JG,IN,Ic (by omega)]
 show GoTy.rep _ _ (xX α _ i) y;rw[e];exact GoTy.mono (hel i y hx') (hm _)
end
end
section
open Go Go.RowKit
theorem EK {P:Program} {t:TypeId} (ht:P.underlying t=some (.int .u8)):Rd P t By (λx=>0<=x.n/\x.n<=255):=by
 intro H enc w base spare held fuel cs x h;obtain⟨n,rfl,-,hw⟩:=DataW.trod_int ht h;refine⟨⟨n⟩,rfl,?_⟩;simp [Lit.wf,IntKind.min,IntKind.max,IntKind.signed,IntKind.bits]at hw;simp only;omega
end
section
open Go Go.RowKit
def IA.cells {n:Nat} (x:IA n):p_:=x.l.map (Value.int .i64)
theorem IA.cells_len {n:Nat} (x:IA n):x.cells.length=n:=by unfold IA.cells; rw[Hn]; exact x.h
@[reducible] def iaTy (n:Nat) (hn:0<n):GoTy (IA n) where
 n:=n
 agg:=true
 flat:=true
 rep _ _ cs x:=cs=x.cells
 own _ F cs x:=F=[]/\cs=x.cells
 pos:=hn
 len:=by rintro _ _ _ _ rfl; exact IA.cells_len _
 one:=by
  rintro _ _ _ x rfl c hc
  obtain⟨i,-,rfl⟩:=Hy.1 hc
  simp [Value.oneCell']
 mono:=λh _=>h
 own_rep:=λh=>h.2
 own_mono:=λh _=>h
 own_lt:=by rintro _ _ _ _ ⟨rfl,_⟩ _ h; cases h
 own_flat:=λ_ h=>⟨rfl,h⟩
section
variable {P:Program} {Q:Exit->r_} {a:Act} {w:World} {n:Nat} {L:g_} {dst:Option Tmp} {ty:TypeId} {pos:String} {af:Array Edge} {g:x_} {K:r_} {d:Nat}
variable {w0:Base} {S:w_} {M:List Blk} {R:List Row} {D:List DI} {I:List (Bool×MP)}
end
end
section
open Go Go.RowKit
end
section
open Go Go.RowKit
end
section
open Go Go.RowKit
section
variable {P:Program} {Q:Exit->r_} {a:Act} {w:World} {n:Nat} {L:g_} {dst:Option Tmp} {ty:TypeId} {pos:String} {af:Array Edge} {g:x_} {K:r_} {d:Nat}
variable {T U:TypeId} {x y:Operand} {s t:ByteArray}
theorem dS (hf:Fr a n L) (hT:P.underlying T=some .string) {k:IntKind} {i:Int} {e:By} (hx:ev L x=some (.string s)) (hy:ev L y=some (.int k i)) (h:sidx s i=some e):(execOp a.eval ⟨dst,.index T x y,ty,pos,af,g⟩).run P w=.ok (.value (.int .u8 e.n)) w:=by
 unfold sidx at h;split at h
 case isFalse=>cases h
 rename_i h0;obtain⟨b,hb,rfl⟩:=Ht.1 h;have h1:(Instr.index T (.string s) (.int k i)).run P w=.ok (.int .u8 b.toNat) w:=by
  simp [Instr.index,asIntOf,run_underlying hT,h0,hb]
 simp [execOp,hf.eval hx,hf.eval hy,h1]
end
end
section
open Go Go.RowKit
theorem elL {w:World} {T:w_} {α:Type} [GoTy α]:∀(l:List (p_×α)),(∀p∈l,GoTy.rep w T p.1 p.2)->∀i x,(l.map Prod.snd)[i]?=some x->GoTy.rep w T (xX α ((l.map Prod.fst).flatten) i) x
 | [],_,i,x,h=>by simp at h
 | p::l,hp,i,x,h=>by
  have h0:=hp p (by simp)
  have hl:p.1.length=GoTy.n α:=GoTy.len h0
  cases i with
  | zero =>
   simp only[HX,IV,Hj]at h
   subst h
   unfold xX
   rw[IJ,He,HX,I5,HK (by omega),HV (by omega)]
   exact h0
  | succ i =>
   simp only[HX,List.getElem?_cons_succ]at h
   have:=elL l (λq hq=>hp q (by simp [hq])) i x h
   unfold xX at this ⊢
   rw[HX,I5,Iq,Jg,<-IM,<-hl,J3,hl]
   exact this
variable {T:w_} {α:Type} [GoTy α]
theorem al0 {w:World} :∀p∈([]:List (p_×α)),GoTy.rep w T p.1 p.2:=λ_ h=>by cases h
theorem al1 {w:World} {cs:p_} {x:α} {l:List (p_×α)} (h:GoTy.rep w T cs x) (t:∀p∈l,GoTy.rep w T p.1 p.2):∀p∈((cs,x)::l),GoTy.rep w T p.1 p.2:=by
 intro p hp;rcases Hf.1 hp with rfl | hp
 exact h;exact t p hp
end
section
open Go Go.RowKit
section
variable {P:Program} {Q:Exit->r_} {a:Act} {w:World} {n:Nat} {L:g_} {dst:Option Tmp} {ty:TypeId} {pos:String} {af:Array Edge} {g:x_} {K:r_} {d:Nat}
variable {w0:Base} {S:w_} {M:List Blk} {R:List Row} {D:List DI} {I:List (Bool×MP)}
theorem vo (H:O_ w0 S M R D I w) {α:Type} [GoTy α] {T E E':TypeId} (hT:P.underlying T=some (.slice E)) (hE:SZ P E (GoTy.n α)) (j:Nat) {kd:Kd} {A:c_} {cap:Nat} {xs:List α} {i:Int} {e:α}
 (hj:R[j]?=some ⟨kd,E',A,cap,xs⟩) (he:V_ xs i=some e) :
 ∃b o,RA A b o (i.toNat * GoTy.n α)/\∀w' k,(Instr.indexAt T (.slice A xs.length cap) (.int k i)).run P w'=.ok (.pointer (some ⟨b,o,none⟩)) w':=by
 obtain⟨h0,h1,h2⟩:=lW he;obtain⟨b,q,rfl,cs,hr,hc⟩:=jp H hj he;refine⟨b,_,⟨q,rfl,rfl⟩,λw' k=>?_⟩;have hi:=run_indexAt (P:=P) (w:=w') (cap:=cap) hT hE h0 h1 (p:=⟨b,q,none⟩) (k:=k);rw[add_lit]at hi;exact hi
theorem zY (hf:Fr a n L) (H:O_ w0 S M R D I w) {α:Type} [GoTy α] {T:TypeId} (hT:LS P T) (j:Nat) {x:Operand} {b o off:Nat} {kd:Kd} {E:TypeId} {A:c_} {cap:Nat} {xs:List α} {i:Int} {e:α} {v:Value}
 (hx:ev L x=some (.pointer (some ⟨b,o + off,none⟩))) (hj:R[j]?=some ⟨kd,E,A,cap,xs⟩) (hA:RA A b o (i.toNat * GoTy.n α)) (he:V_ xs i=some e) (hv:∀(w:World) (T:w_) (cs:p_),GoTy.rep w T cs e->cs[off]?=some v) :
 (execOp a.eval ⟨dst,.load T x,ty,pos,af,g⟩).run P w=.ok (.value v) w:=by
 obtain⟨b',q',hA',cs,hr,hc⟩:=jp H hj he;obtain⟨q0,rfl,rfl⟩:=hA;injection hA' with hA'
 injection hA' with hA' hA2
 subst hA';subst hA2;have:=hc off v (hv _ _ _ hr);rw[add_lit]at this;exact jo hf hT hx this
theorem xw (hf:Fr a n L) (H:O_ w0 S M R D I w) {α:Type} [GoTy α] {T:TypeId} {m:Nat} (hT:LA P T m) (j:Nat) {x:Operand} {b o off:Nat} {kd:Kd} {E:TypeId} {A:c_} {cap:Nat} {xs:List α} {i:Int} {e:α} {vs:p_}
 (hx:ev L x=some (.pointer (some ⟨b,o + off,none⟩))) (hj:R[j]?=some ⟨kd,E,A,cap,xs⟩) (hA:RA A b o (i.toNat * GoTy.n α)) (he:V_ xs i=some e) (hl:vs.length=m) (hv:∀(w:World) (T:w_) (cs:p_),GoTy.rep w T cs e->(cs.drop off).take m=vs) :
 (execOp a.eval ⟨dst,.load T x,ty,pos,af,g⟩).run P w=.ok (.value (.agg vs.toArray)) w:=by
 obtain⟨b',q',hA',cs,hr,hc⟩:=jp H hj he;obtain⟨q0,rfl,rfl⟩:=hA;injection hA' with hA'
 injection hA' with hA' hA2
 subst hA';subst hA2;refine ff hf hT hx hl λq c hq=>?_;rw[<-hv _ _ _ hr]at hq;have hqm:q<m:=by
  have:=(GQ.1 hq).1
  simp only[GO,Hd]at this; omega
 rw[G9 hqm,Hl]at hq;have:=hc _ _ hq;rw[add_lit]at this ⊢;rw[II];exact this
end
end
section
open Go Go.RowKit
theorem iteB {R:Type} {b:Bool} {x y r:R} {G:Prop} (h:(if b=true then x else y)=r) (h1:b=true->x=r->G) (h2:b=false->y=r->G):G:=by
 cases b;exact h2 rfl (by simpa using h);exact h1 rfl (by simpa using h)
theorem EP {P:Program} {o:Oper} {a:Act} {w:World} {K K':r_} {Q Q':Exit->r_} (h:∀a w,K a w->K' a w) (hq:∀e a w,e≠.normal->Q e a w->Q' e a w) (hh:o.wp P a w K Q):o.wp P a w K' Q':=by
 unfold Oper.wp at *;generalize (execOp a.eval o).run P w=r at *;cases r with
 | ok n w' =>
  cases n <;> simp only[Oper.upon]at hh ⊢ <;>
   first
    | exact h _ _ hh
    | exact Calls.mono hh (λe w'' he=>by cases e <;> first | exact h _ _ he | exact hq _ _ _ (by simp) he | exact he.imp λ_ he=>he.imp λ_ he=>hq _ _ _ (by simp) he)
    | exact Rows.mono hh (λ_ _ he=>h _ _ he)
 | halt x w'=>cases x <;> simp only[Oper.upon]at hh ⊢ <;> first | exact hq _ _ _ (by simp) hh | exact hh
theorem iR {P:Program} {ops:Array Oper} {Q:Exit->r_} (Mid:r_) (h2:∀a w,Mid a w->Q .normal a w):∀(rest:List Oper) (a:Act) (w:World),wpList P ops (Exit.then Mid Q) rest a w->wpList P ops Q rest a w
 | [],a,w,h=>h2 a w h
 | o::rest,a,w,h=>by
  unfold wpList at h ⊢
  split at h <;> rename_i hw
  · rw[if_pos hw]
    exact h.elim (λh=>.inl (EP (λa w h=>iR Mid h2 rest a w h) (λe a w he h=>by cases e <;> first | exact absurd rfl he | exact h) h)) λh=>.inr ⟨h.1,h.2⟩
  · rw[if_neg hw]
    exact iR Mid h2 rest _ w h
section
variable {P:Program} {Q:Exit->r_} {a:Act} {w:World} {n:Nat} {L:g_}
variable {w0:Base} {S:w_} {M:List Blk} {R:List Row} {D:List DI} {I:List (Bool×MP)}
theorem midL {ops:Array Oper} {rest:List Oper} (t:Nat) (v:Value) (hf:Fr a n L) (H:O_ w0 S M R D I w) (h:wpList P ops (Exit.then (λa w=>Fr a n ((t,v)::L)/\O_ w0 S M R D I w) Q) rest a w)
 (h2:∀a w,Fr a n ((t,v)::L)->O_ w0 S M R D I w->Q .normal a w):wpList P ops Q rest a w:=iR _ (λa w q=>h2 a w q.1 q.2) rest a w h
theorem midF {c:Code} (t:Nat) (v:Value) (hf:Fr a n L) (H:O_ w0 S M R D I w) (h:c.wp P (Exit.then (λa w=>Fr a n ((t,v)::L)/\O_ w0 S M R D I w) Q) a w)
 (h2:∀a w,Fr a n ((t,v)::L)->O_ w0 S M R D I w->Q .normal a w):c.wp P Q a w:=mid _ h λa w q=>h2 a w q.1 q.2
theorem vz {σ:Type} {id:Nat} {c:Code} (Inv:σ->r_) (G:Nat->σ->Prop) (E:σ->Prop) (s0:σ) (k0:Nat) (hL:G k0 s0) (hI:Inv s0 a w) (h0:∀s,¬G 0 s)
 (round:∀k s a w,G (k + 1) s->Inv s a w->c.wp P (Exit.then (λa' w'=>∃s',G k s'/\Inv s' a' w') (Exit.inBlock id (Exit.then (λa w=>∃s,E s/\Inv s a w) Q))) a w)
 (after:∀a w,(∃s,E s/\Inv s a w)->Q .normal a w):(Code.block id (.loop c)).wp P Q a w :=
 mid _ (wp_block (wo G Inv h0 round k0 s0 a w hL hI)) after
end
section
variable {P:Program} {S0:t_} {B:m_} {l:List Oper} {bs bs':List Bool} {a:Act} {w:World} {n fuel d i:Nat} {L:g_} {Mid:r_} {o:Oper} {v:Value}
variable {w0:Base} {S:w_} {M:List Blk} {R:List Row} {D:List DI} {I:List (Bool×MP)}
theorem strT (H:O_ w0 S M R D I w) (hs:∀w,O_ w0 S M R D I w->S0 w) (h:O_ w0 S M R D I w->DL P l Mid (λw=>O_ w0 S M R D I w) B fuel bs a w):DL P l Mid S0 B fuel bs a w:=str _ hs (h H)
theorem tP (i:Nat) (hi:l[i]?=some o) (hd:o.dst=some d) (hg:o.guard=none) (hdn:Nat.ble (d + 1) n=true) (hf:Fr a n L) (hc:takeB l bs i [] B=true) (hS:nb B bs.toArray=true->S0 w) (hy:∀w,(execOp a.eval o).run P w=.ok (.value v) w)
 (h:∀a',Fr a' n ((d,v)::L)->DL P l Mid S0 B fuel (bs.set i true) a' w):DL P l Mid S0 B (fuel + 1) bs a w:=tkP hi hd hg (M1 hdn) hf hc hS hy rfl h
theorem U0 (i:Nat) {j e:Nat} {b:Bool} (hi:l[i]?=some o) (hd:o.dst=some d) (hg:o.guard=some (j,b)) (hj:(l[j]?).bind (·.dst)=some e) (hv:lk L e=some (.bool b)) (hdn:Nat.ble (d + 1) n=true) (hf:Fr a n L) (hc:takeB l bs i [] B=true) (hS:nb B bs.toArray=true->S0 w) (hy:∀w,(execOp a.eval o).run P w=.ok (.value v) w)
 (h:∀a',Fr a' n ((d,v)::L)->DL P l Mid S0 B fuel (bs.set i true) a' w):DL P l Mid S0 B (fuel + 1) bs a w:=tkPg hi hd hg hj hv (M1 hdn) hf hc hS hy rfl h
theorem tS (i:Nat) (X:m_) (hi:l[i]?=some o) (hd:o.dst=some d) (hg:o.guard=none) (hdn:Nat.ble (d + 1) n=true) (hf:Fr a n L) (hc:takeB l bs i X B=true) (hBX:(B.all (X.contains ·))=true) (hS:S0 w) (hy:∀w,S0 w->(execOp a.eval o).run P w=.ok (.value v) w)
 (h:∀a',Fr a' n ((d,v)::L)->DL P l Mid S0 B fuel (bs.set i true) a' w):DL P l Mid S0 B (fuel + 1) bs a w:=tkS X hi hd hg (M1 hdn) hf hc hBX hS hy rfl h
theorem R_ (i:Nat) (X:m_) {j e:Nat} {b:Bool} (hi:l[i]?=some o) (hd:o.dst=some d) (hg:o.guard=some (j,b)) (hj:(l[j]?).bind (·.dst)=some e) (hv:lk L e=some (.bool b)) (hdn:Nat.ble (d + 1) n=true) (hf:Fr a n L) (hc:takeB l bs i X B=true) (hBX:(B.all (X.contains ·))=true) (hS:S0 w) (hy:∀w,S0 w->(execOp a.eval o).run P w=.ok (.value v) w)
 (h:∀a',Fr a' n ((d,v)::L)->DL P l Mid S0 B fuel (bs.set i true) a' w):DL P l Mid S0 B (fuel + 1) bs a w:=tkSg X hi hd hg hj hv (M1 hdn) hf hc hBX hS hy rfl h
theorem tUU (i:Nat) {j e:Nat} {b:Bool} (hi:l[i]?=some o) (hd:o.dst=some d) (hg:o.guard=some (j,b)) (hj:(l[j]?).bind (·.dst)=some e) (hv:lk L e=some undef) (hdn:Nat.ble (d + 1) n=true) (hf:Fr a n L) (hc:takeB l bs i [] B=true) (hS:nb B bs.toArray=true->S0 w)
 (h:∀a',Fr a' n ((d,undef)::L)->DL P l Mid S0 B fuel (bs.set i true) a' w):DL P l Mid S0 B (fuel + 1) bs a w:=tkUU hi hd hg hj hv (M1 hdn) hf hc hS rfl h
theorem tU (i:Nat) {j e:Nat} {b c:Bool} (hi:l[i]?=some o) (hd:o.dst=some d) (hg:o.guard=some (j,b)) (hj:(l[j]?).bind (·.dst)=some e) (hv:lk L e=some (.bool c)) (hne:(c==b)=false) (hdn:Nat.ble (d + 1) n=true) (hf:Fr a n L) (hc:takeB l bs i [] B=true) (hS:nb B bs.toArray=true->S0 w)
 (h:∀a',Fr a' n ((d,undef)::L)->DL P l Mid S0 B fuel (bs.set i true) a' w):DL P l Mid S0 B (fuel + 1) bs a w:=tkU hi hd hg hj hv hne (M1 hdn) hf hc hS rfl h
theorem n1 (i:Nat) (hr:Region.ready .any l.toArray bs.toArray=[i]) (hi:l[i]?=some o) (hg:o.guard=none)
 (h:o.wp P a w (λa' w'=>(nb B (bs.set i true).toArray=true->S0 w')/\DL P l Mid S0 B fuel (bs.set i true) a' w') (only Mid)):DL P l Mid S0 B (fuel + 1) bs a w:=on1 hr hi hg rfl h
theorem n1g (i:Nat) {j e:Nat} {b:Bool} (hr:Region.ready .any l.toArray bs.toArray=[i]) (hi:l[i]?=some o) (hg:o.guard=some (j,b)) (hj:(l[j]?).bind (·.dst)=some e) (hv:lk L e=some (.bool b)) (hf:Fr a n L)
 (h:o.wp P a w (λa' w'=>(nb B (bs.set i true).toArray=true->S0 w')/\DL P l Mid S0 B fuel (bs.set i true) a' w') (only Mid)):DL P l Mid S0 B (fuel + 1) bs a w:=on1g hr hi hg hj hv hf rfl h
end
end
section
open Go Go.RowKit
theorem qW {P:Program} {w:World} {a:Act} {n:Nat} {L:g_} {fn:Func} {Rr:Ending->t_} (hf:Fr a n L) (hres:fn.results=#[]) (hR:Rr (.returned (.tuple #[])) w):bodyPost P fn Rr .ret a w :=
 ⟨hf.defs,_,eG (rs:=[]) hres .nil,by simpa using hR⟩
end
section
open Go Go.RowKit
theorem O_.ownLen {w:World} {w0:Base} {S:w_} {M:List Blk} {R:List Row} {D:List DI} {I:List (Bool×MP)} (H:O_ w0 S M R D I w) {α:Type} [GoTy α] {F:m_} {A:c_} {len cap:Nat} {xs:List α} (h:D[0]?=some ⟨F,MP.own F [.slice A len cap] xs⟩):xs.length=len:=by
 obtain⟨⟨A',cap',E,cells,Fs,hcs,_⟩,-⟩:=H.diAt (GX h);simp only[Ho,Value.slice.injEq,and_true]at hcs;exact hcs.2.1.symm
end
section
open Go Go.RowKit
def MP.and (p q:MP):MP:=⟨λw S=>p.pred w S/\q.pred w S,λh hm=>⟨p.mono h.1 hm,q.mono h.2 hm⟩⟩
end
section
open Go Go.RowKit
section
variable {P:Program} {a:Act} {w:World} {n:Nat} {L:g_} {dst:Option Tmp} {ty:TypeId} {pos:String} {af:Array Edge} {g:x_}
structure QS (P:Program) (T:TypeId) (fs:List Field) (m:Nat):Prop where
 u:P.underlying T=some (.struct fs.toArray)
 s:P.stoodInHeld T=false
 f : ∀ f ∈ fs, (f.name == "_") = false ∧ f.offset < m ∧ PT P f.type ∧ ∃ k, P.underlying f.type = some (.int k)
def flds (P:Program) (T:TypeId):List Field:=match P.underlying T with
 | some (.struct fs)=>fs.toList
 | _=>[]
structure EQT (P:Program) (T:TypeId) (m:Nat) (E:TypeId):Prop where
 u:P.underlying T=some (.struct (flds P T).toArray)
 s:P.stoodInHeld T=false
 g:P.eqGuardType P.depth T=false
 o:(flds P T).map (·.offset)=List.range m
 f : ((flds P T).all fun f => !(f.name == "_") && f.type == E) = true
 p:PT P E
 i:∃k,P.underlying E=some (.int k)
theorem EQT.qs {T:TypeId} {m:Nat} {E:TypeId} (h:EQT P T m E):QS P T (flds P T) m:=by
 refine⟨h.u,h.s,λf hf=>?_⟩;have h1:=HH.1 h.f f hf;simp only[GP,Hk,beq_iff_eq]at h1;have h2:f.offset∈List.range m:=by rw[<-h.o]; exact List.mem_map_of_mem hf
 exact⟨h1.1,Hv.1 h2,h1.2▸h.p,h1.2▸h.i⟩
end
end
section
open Go Go.RowKit
def Ai (P:Program) (f:FuncId) (s:Nat):Prop:=∀(w:World) (A A2:c_) (n cap m cap2:Nat) (E E2:TypeId) (cells vs:p_) (i:Nat),w.ownsRow 0 E s (.slice A n cap) n cells->w.ownsRow 0 E2 s (.slice A2 m cap2) m vs->(∀u∈cells,u.oneCell'=true)->(∀u∈vs,u.oneCell'=true) ->
 (∀b,(Value.slice A n cap).ownBlock=some b->(Value.slice A2 m cap2).ownBlock≠some b)->i<=n->n + m<=1099511627776 ->
 Calls P f #[.slice A n cap,.int .i64 i,.slice A2 m cap2] w λe w'=>∃v,e=.returned v/\∃E1 A1 cap1,v=.slice A1 (n + m) cap1/\GB w w' (Value.slice A n cap).ownBlock /\
  ((Value.slice A1 (n + m) cap1).ownBlock=(Value.slice A n cap).ownBlock∨((Value.slice A1 (n + m) cap1).ownBlock=some w.heap.size/\w.heap.size<w'.heap.size))/\w'.ownsRow 0 E1 s (.slice A1 (n + m) cap1) (n + m) (cells.take (i * s)++(vs++cells.drop (i * s)))
section
variable {P:Program} {Q:Exit->r_} {a:Act} {w:World} {w0:Base} {n:Nat} {L:g_} {K:r_} {S:w_} {M:List Blk} {D:List DI} {I:List (Bool×MP)} {d:Tmp} {ty:TypeId} {pos:String} {af:Array Edge} {g:x_}
variable {α:Type} [GoTy α]
theorem pc (cells:p_) (j q:Nat):xX α (cells.drop (j * GoTy.n α)) q=xX α cells (q + j):=by
 unfold xX;rw[IM,HN,Jg]
theorem pa (cells:p_) {i q:Nat} (h:q<i):xX α (cells.take (i * GoTy.n α)) q=xX α cells q:=by
 unfold xX;have h1:(q + 1) * GoTy.n α<=i * GoTy.n α:=Hb _ h;rw[HN,Nat.one_mul]at h1;rw[JG,IN];congr 1;omega
theorem take_len {cells:p_} {m i:Nat} (hl:cells.length=m * GoTy.n α) (h:i<=m):(cells.take (i * GoTy.n α)).length=i * GoTy.n α:=by
 have:=Hb (GoTy.n α) h;rw[GO];omega
theorem row_one {E:TypeId} {A:c_} {cap:Nat} {xs:List α} {cells:p_} (h:lrep w (λ_=>True) [.slice A xs.length cap] xs) (ho:w.ownsRow 0 E (GoTy.n α) (.slice A xs.length cap) xs.length cells):∀u∈cells,u.oneCell'=true:=by
 obtain⟨A',c',hcs,hyc,hcm,hel⟩:=h;simp only[Ho,Value.slice.injEq,and_true]at hcs;obtain⟨rfl,-,rfl⟩:=hcs;rcases ho.2 with ⟨hv,h0⟩ | ⟨gb,cap',cur,hv,hrest⟩
 have:cells=[]:=G6 (by rw[ho.1,h0,IJ]);subst this;intro u hu; cases hu
 simp only[Value.slice.injEq]at hv;obtain⟨rfl,-,rfl⟩:=hv;obtain⟨news,g1,g2,g3,_⟩:=gather (w:=w) (T:=λ_=>True) (p:=⟨gb,0,none⟩) xs 0 (λk x hx=>by
  obtain⟨p',hp',_,h⟩:=hel k x hx
  injection hp' with hp'; subst hp'
  rwa [HA])
 simp only[IJ,HA]at g2;intro u hu;obtain⟨j,hj,rfl⟩:=G4.1 hu;have hc:=ho.cells (g:=gb) rfl j _ (GM hj);have hjn:j<news.length:=by rw[g1,<-ho.1]; exact hj
 have hn:=g2 j _ (GM hjn);rw[hc]at hn;injection hn with hn
 rw[hn];exact g3 _ (GW hjn)
theorem CM {R:List Row} (hf:Fr a n L) {α:Type} [GoTy α] {f:FuncId} {E0 E':TypeId} {Fs Gs:List (m_)} {A A':c_} {cap cap':Nat} {xs ys zs:List α} {i:Int}
 (H:O_ w0 S M (⟨.ow Fs,E0,A,cap,xs⟩::⟨.ow Gs,E',A',cap',ys⟩::R) D I w) (hk:CL P f) (hs:Ai P f (GoTy.n α)) {x y z:Operand} (hxs:evs L [x,y,z]=some [.slice A xs.length cap,.int .i64 i,.slice A' ys.length cap']) {ats:Array TypeId} (hd:insl xs i ys=some zs) (hdn:d<n)
 (k:∀Fs' E1 A2 cap2 a' w',Fr a' n ((d,.slice A2 zs.length cap2)::L)->O_ w0 S M (⟨.ow Fs',E1,A2,cap2,zs⟩::R) D I w'->K a' w'):Oper.wp P ⟨some d,.call ⟨.value (.func f),[x,y,z].toArray,ats⟩,ty,pos,af,g⟩ a w K Q:=by
 obtain⟨cells,ho,hfit,he⟩:=H.rowAt (r:=⟨.ow Fs,E0,A,cap,xs⟩) (by simp);obtain⟨cells',ho',hfit',he'⟩:=H.rowAt (r:=⟨.ow Gs,E',A',cap',ys⟩) (by simp);unfold insl at hd;split at hd
 case isFalse=>cases hd
 rename_i hij;injection hd with hd
 obtain⟨i,rfl⟩:=JR hij.1;simp only[Int.ofNat_eq_natCast,Hh]at hd hij hxs;have hzl:zs.length=xs.length + ys.length:=by rw[<-hd]; simp; omega
 have hcl:cells.length=xs.length * GoTy.n α:=ho.1;have hcl':cells'.length=ys.length * GoTy.n α:=ho'.1;have hfl:Fs.length=xs.length:=hfit;have hfl':Gs.length=ys.length:=hfit';have hp:(AT.zs M (⟨.ow Fs,E0,A,cap,xs⟩::⟨.ow Gs,E',A',cap',ys⟩::R) D).Perm ([Row.res ⟨.ow Fs,E0,A,cap,xs⟩,Row.res ⟨.ow Gs,E',A',cap',ys⟩]++AT.zs M R D):=(aA _).trans ((aA _).append_left [_]);have H1:=MemZ.perm H hp;have hnd:=MemZ.nd H1;rw[vf,fl]at hnd;have hnd':=(GZ.1 hnd).1;have hlt:∀b∈allZ [Row.res ⟨.ow Fs,E0,A,cap,xs⟩,Row.res ⟨.ow Gs,E',A',cap',ys⟩],b<w.heap.size:=λb hb=>(MemZ.lt H1 b (by rw[vf]; exact GI.2 (.inl hb))).2;have e0:(Row.res ⟨.ow Fs,E0,A,cap,xs⟩).all=(Value.slice A xs.length cap).ownBlock.toList++List.flatten Fs:=rfl;have e1:(Row.res ⟨.ow Gs,E',A',cap',ys⟩).all=(Value.slice A' ys.length cap').ownBlock.toList++List.flatten Gs:=rfl;rw[e0,e1]at hnd';refine nV hf hk hxs hdn (hs w A A' xs.length cap ys.length cap' E0 E' cells cells' i ho ho' (row_one (H.rowTrue 0 rfl) ho) (row_one (H.rowTrue 1 rfl) ho') (λb hb hb'=>?_) (by omega) (by omega)) λv w' a' hp hf'=>?_
 · have h1:b∈(Value.slice A xs.length cap).ownBlock.toList:=by rw[hb]; simp
   have h2:b∈(Value.slice A' ys.length cap').ownBlock.toList:=by rw[hb']; simp
   exact (GZ.1 hnd').2.2 b (GI.2 (.inl h1)) b (GI.2 (.inl h2)) rfl
 obtain⟨E1,A2,cap2,rfl,h2,h4,h3⟩:=hp;rw[<-hzl]at h3 hf' h4;refine k (Fs.take i++(Gs++Fs.drop i)) E1 A2 cap2 a' w' hf' ?_;have hperm:(List.flatten (Fs.take i++(Gs++Fs.drop i))).Perm (List.flatten Fs++List.flatten Gs):=by
  have h:List.flatten Fs=List.flatten (Fs.take i)++List.flatten (Fs.drop i):=by rw[<-IU,Ha]
  rw[IU,IU,h,GN]
  exact Io.append_left _
 have e2:(Row.res ⟨.ow (Fs.take i++(Gs++Fs.drop i)),E1,A2,cap2,zs⟩).all=(Value.slice A2 zs.length cap2).ownBlock.toList++List.flatten (Fs.take i++(Gs++Fs.drop i)):=rfl;have hxg:∀b,b∈(Value.slice A2 zs.length cap2).ownBlock.toList->b∈(Value.slice A xs.length cap).ownBlock.toList∨(w.heap.size<=b/\b<w'.heap.size):=λb hb=>by
  rcases h4 with h | ⟨h,h'⟩
  · rw[h]at hb; exact .inl hb
  · rw[h]at hb; simp at hb; subst hb; exact .inr ⟨GV _,h'⟩
 have hflat:(List.flatten Fs++List.flatten Gs).Nodup:=by
  refine Jp ?_ hnd'
  exact (HT _ _).append (HT _ _)
 refine MemZ.perm (MemZ.step (rs':=[Row.res ⟨.ow (Fs.take i++(Gs++Fs.drop i)),E1,A2,cap2,zs⟩]) H1 ⟨h2.os,h2.tape,h2.output,h2.size,λb hb hx=>h2.block b hb λe=>hx ?_,h2.drawn⟩ (λb hb=>?_) (λb hb=>?_) ?_ (λhm q hq=>?_)) (aA _).symm
 · rw[oh]; exact GI.2 (.inl (by show b∈(Value.slice A xs.length cap).ownBlock.toList; rw[<-e]; simp))
 · rw[vt,e2]at hb
   rw[fl,e0,e1]
   rcases GI.1 hb with h | h
   · exact (hxg b h).imp (λh=>GI.2 (.inl (GI.2 (.inl h)))) id
   · rcases GI.1 (hperm.mem_iff.1 h) with h | h
     · exact .inl (GI.2 (.inl (GI.2 (.inr h))))
     · exact .inl (GI.2 (.inr (GI.2 (.inr h))))
 · rw[cm]at hb; rw[oh]
   exact (hxg b hb).imp (λh=>GI.2 (.inl h)) (·.1)
 · rw[vt,e2]
   refine ((Iw _).append hperm).nodup_iff.2 ?_
   rcases h4 with h | ⟨h,h'⟩
   · rw[h]
     refine Jp ?_ hnd'
     rw[<-GN]
     exact (I4 _).append (HT _ _)
   · rw[h]
     simp only[JJ,HY,Ib]
     refine⟨λhb=>?_,hflat⟩
     have:=hlt w.heap.size (by
      rw[fl,e0,e1]
      simp only[GI]at hb ⊢
      exact hb.imp .inr .inr)
     omega
 · rw[GR]at hq; subst hq
   have hsame:∀b,b∈List.flatten Fs++List.flatten Gs->w'.heap[b]?=w.heap[b]?:=λb hb=>by
    refine h2.block b (hlt b ?_) λe=>?_
    · rw[fl,e0,e1]
      simp only[GI]at hb ⊢
      exact hb.imp .inr .inr
    · have hm:b∈(Value.slice A xs.length cap).ownBlock.toList:=by rw[<-e]; simp
      rw[GN]at hnd'
      refine (GZ.1 hnd').2.2 b hm b ?_ rfl
      simp only[GI]at hb ⊢
      exact hb.imp id .inr
   refine⟨_,h3,by simp only[Kd.fits,GL,GO,Hd]; omega,λq e hi Fi hFi=>?_⟩
   simp only at hi
   rw[<-hd]at hi
   have htl:(xs.take i).length=i:=by rw[GO]; omega
   have htf:(Fs.take i).length=i:=by rw[GO]; omega
   have htc:=take_len hcl (show i<=xs.length by omega)
   rw[HE]at hi hFi
   rw[htl]at hi
   rw[htf]at hFi
   split at hi
   · rename_i hq
     rw[if_pos hq,G9 hq]at hFi
     rw[G9 hq]at hi
     rw[eJ htc hq,pa _ hq]
     exact GoTy.own_mono (he q e hi Fi hFi) λb hb=>hsame b (GI.2 (.inl (fO hFi hb)))
   · rename_i hq
     rw[if_neg hq]at hFi
     rw[fN htc (by omega)]
     rw[HE]at hi hFi
     rw[hfl']at hFi
     split at hi
     · rename_i hq2
       rw[if_pos hq2]at hFi
       rw[eJ hcl' hq2]
       exact GoTy.own_mono (he' _ e hi Fi hFi) λb hb=>hsame b (GI.2 (.inr (fO hFi hb)))
     · rename_i hq2
       rw[if_neg hq2,Hl]at hFi
       rw[Hl]at hi
       rw[fN hcl' (by omega),pc,Jg]
       exact GoTy.own_mono (he _ e hi Fi hFi) λb hb=>hsame b (GI.2 (.inl (fO hFi hb)))
end
end
section
open Go Go.RowKit
section
variable {P:Program} {Q:Exit->r_} {a:Act} {w:World} {n:Nat} {L:g_} {K:r_} {d:Nat} {dst:Option Tmp} {ty:TypeId} {pos:String} {af:Array Edge} {g:x_}
variable {i j cap:Nat}
theorem io (h:i + j<=1099511627776):y_ ((i:Int) + (j:Int))=((i + j:Nat):Int):=by rw[va (by omega) (by omega)]; omega
theorem Al (h0:i<=j) (h:j<=1099511627776):y_ ((j:Int) - (i:Int))=((j - i:Nat):Int):=by rw[va (by omega) (by omega)]; omega
theorem b_lo {len:Nat} (h:i<=len):(Instr.sliceBounds true len cap (some (.int .i64 (i:Int))) none none).run P w=.ok (i,len,cap) w:=by
 simp [Instr.sliceBounds,Instr.sliceBound,asIntOf,h]
theorem b_hi {len:Nat} (h:j<=cap):(Instr.sliceBounds true len cap none (some (.int .i64 (j:Int))) none).run P w=.ok (0,j,cap) w:=by
 simp [Instr.sliceBounds,Instr.sliceBound,asIntOf,h]
def cutA (A:c_) (s i m:Nat):c_:=if m=i then A else A.map (·.add (i * s))
variable {s m:Nat}
theorem eH {T E:TypeId} (hT:P.underlying T=some (.slice E)) (hE:SZ P E s) {A:c_} {len cap:Nat} {lov hiv mxv:Option Value} {i j m:Nat} (hb:∀w,(Instr.sliceBounds true len cap lov hiv mxv).run P w=.ok (i,j,m) w) :
 ∀w,(Instr.sliceAt T (.slice A len cap) lov hiv mxv).run P w=.ok (.slice (cutA A s i m) (j - i) (m - i)) w:=by
 intro w;have hE':∀w,(Go.sizeOf E).run P w=.ok s w:=hE;simp [Instr.sliceAt,Instr.slice,run_underlying hT,hb,hE',cutA]
theorem iO (hf:Fr a n L) {T:TypeId} {x:Operand} {u r:Value} (hx:ev L x=some u) {lo hi mx:Option Operand} {lov hiv mxv:Option Value} (hlo:evo L lo=some lov) (hhi:evo L hi=some hiv) (hmx:evo L mx=some mxv) (h:∀w',(Instr.sliceAt T u lov hiv mxv).run P w'=.ok r w') :
 ∀w,(execOp a.eval ⟨dst,.slice T x lo hi mx,ty,pos,af,g⟩).run P w=.ok (.value r) w:=by
 intro w;simp [execOp,hf.eval hx,jc hf hlo,jc hf hhi,jc hf hmx,h]
theorem ix {g o:Nat} (h:m≠i):cutA (some ⟨g,o,none⟩) s i m=some ⟨g,o + i * s,none⟩:=by
 unfold cutA;rw[if_neg h,Option.map_some,add_lit]
theorem Bc {A:c_} (hA:∀p,A=some p->p.spot=none):cutA A s 0 m=A:=by
 unfold cutA;split
 rfl;cases A with
 | none=>rfl
 | some p =>
  have:=hA p rfl
  cases p; simp only at this; subst this
  simp [Addr.add]
structure GS (w0 w:World) (g:Nat) (E:TypeId) (cur:p_):Prop where
 os:w.os=w0.os
 tape:w.tape=w0.tape
 output:w.output=w0.output
 size:w0.heap.size<=w.heap.size
 old:∀k,k<w0.heap.size->k≠g->w.heap[k]?=w0.heap[k]?
 at_:w.heap[g]?=some (.cells cur.toArray E (0,0))
 drawn:w0.drawn<=w.drawn
variable {w0 w1:World} {E:TypeId} {cur:p_}
theorem GS.below {g:Nat} (h:GS w0 w g E cur) (hg:g<w0.heap.size) (hb:Below w.heap.size w w1):GS w0 w1 g E cur :=
 ⟨hb.os.trans h.os,hb.tape.trans h.tape,hb.output.trans h.output,HS h.size hb.size,λk hk hne=>(hb.block k (by have:=h.size; omega)).trans (h.old k hk hne),(hb.block g (by have:=h.size; omega)).trans h.at_,HS h.drawn hb.drawn⟩
theorem GS.below' {g:Nat} (h:GS w0 w g E cur) (hg:g<w.heap.size) (hb:Below w.heap.size w w1):GS w0 w1 g E cur :=
 ⟨hb.os.trans h.os,hb.tape.trans h.tape,hb.output.trans h.output,HS h.size hb.size,λk hk hne=>(hb.block k (by have:=h.size; omega)).trans (h.old k hk hne),(hb.block g hg).trans h.at_,HS h.drawn hb.drawn⟩
theorem GS.lt {g:Nat} (h:GS w0 w g E cur):g<w.heap.size:=(HQ.1 h.at_).1
theorem GS.set {g:Nat} (h:GS w0 w g E cur) (new:Array Value):GS w0 (w.setRow g new) g E new.toList :=
 ⟨h.os,h.tape,h.output,by simpa using h.size,λk hk hne=>(setRow_other w g k new hne).trans (h.old k hk hne),by rw[I6]; exact setRow_heap w g _ new E _ h.at_,h.drawn⟩
theorem GS.cell {w0 w:World} {g:Nat} {E:TypeId} {cur:p_} (h:GS w0 w g E cur) (j:Nat):w.cell? ⟨g,j,none⟩=cur[j]?:=by
 simp [World.cell?,h.at_]
theorem GS.start {g:Nat} {cur:Array Value} (h:w.heap[g]?=some (.cells cur E (0,0))):GS w w g E cur.toList :=
 ⟨rfl,rfl,rfl,GV _,λ_ _ _=>rfl,by rw[I6]; exact h,GV _⟩
theorem GS.grown {g:Nat} (h:GS w0 w g E cur) (o:Option Nat) (ho:g<w0.heap.size->o=some g):GB w0 w o :=
 ⟨⟨h.os,h.tape,h.output,h.size,λk hk hne=>h.old k hk λe=>by subst e; exact hne (ho hk).symm⟩,h.drawn⟩
theorem GS.other {g b:Nat} (h:GS w0 w g E cur) (hb:b<w0.heap.size) (hne:b≠g) (j:Nat):w.cell? ⟨b,j,none⟩=w0.cell? ⟨b,j,none⟩:=by
 simp [World.cell?,h.old b hb hne]
theorem GS.alloc (w:World) (cs:Array Value) (E:TypeId):GS w (w.drew.alloc (.cells cs E)) w.heap.size E cs.toList :=
 ⟨rfl,rfl,rfl,by simp,λk hk _=>heap_alloc_old w.drew _ hk,by rw[I6]; exact heap_alloc_new w.drew _,J7 _⟩
def P0 (cur:p_) (o:Nat) (cs:p_):p_:=cur.take o++cs++cur.drop (o + cs.length)
variable {o k:Nat} {cs:p_}
theorem lH (h:o + cs.length<=cur.length):(P0 cur o cs).length=cur.length:=by
 unfold P0;simp only[GL,GO,Hd];omega
theorem rh (h:o<=cur.length):(P0 cur o cs).take (o + cs.length)=cur.take o++cs:=by
 unfold P0;rw[HK (by simp only[GL,GO]; omega)];exact HV (by simp only[GL,GO]; omega)
theorem qt (h:o<=cur.length) (hk:k<=o):(P0 cur o cs).take k=cur.take k:=by
 unfold P0;rw[GN,HK (by rw[GO]; omega),IN,Ic hk]
theorem AR (h:o<=cur.length):(P0 cur o cs).drop o=cs++cur.drop (o + cs.length):=by
 unfold P0;rw[GN,IW (by rw[GO]; omega),HI (by rw[GO]; omega),Hi]
theorem CR {vs:p_} (h:o + vs.length + cs.length<=cur.length):(P0 (P0 cur (o + vs.length) cs) o vs).take (o + vs.length + cs.length)=cur.take o++(vs++cs):=by
 have hl:(P0 cur (o + vs.length) cs).length=cur.length:=lH h;have hd:=AR (cur:=cur) (o:=o + vs.length) (cs:=cs) (by omega);have ht:=qt (cur:=cur) (o:=o + vs.length) (k:=o) (cs:=cs) (by omega) (by omega);have e:P0 (P0 cur (o + vs.length) cs) o vs=(P0 cur (o + vs.length) cs).take o++vs++(P0 cur (o + vs.length) cs).drop (o + vs.length):=rfl;rw[e,hd,ht,<-GN,HK (by simp only[GL,GO]; omega),HV (by simp only[GL,GO]; omega),GN]
theorem jn {T U E0:TypeId} {gb dLen dCap:Nat} {p:Addr} {sLen sCap:Nat} (hT:P.underlying T=some (.slice E)) (hE:SZ P E s) (h:GS w0 w gb E0 cur) (hk:Nat.min sLen dLen=k) (hl:cs.length=k * s)
 (hsrc:∀j v,cs[j]?=some v->w.cell? (p.add j)=some v) (hfit:o + cs.length<=cur.length) (h1:∀v∈cs,v.oneCell'=true) :
 (Builtin.copy_ #[T,U] ty #[.slice (some ⟨gb,o,none⟩) dLen dCap,.slice (some p) sLen sCap]).run P w=.ok (goInt k) (w.setRow gb (P0 cur o cs).toArray):=by
 have hE':∀w,(Go.sizeOf E).run P w=.ok s w:=hE;have hfc:=run_firstCells_some (P:=P) w s k p sLen sCap cs hl hsrc;have hst:=run_storeCells_at P gb o E0 cs 0 cur.toArray w h.at_ (by simpa using hfit) h1;simp only[Hz]at hst;simp [Builtin.copy_,run_underlying hT,Builtin.lenOf,hE',hk,hfc,hst,P0]
theorem ir (hf:Fr a n L) {T U:TypeId} {x y:Operand} {v u:Value} (hx:ev L x=some v) (hy:ev L y=some u) {r:Value} {w':World} (hr:(Builtin.copy_ #[T,U] ty #[v,u]).run P w=.ok r w') (hdn:d<n)
 (k:∀a',Fr a' n ((d,r)::L)->K a' w'):Oper.wp P ⟨some d,.call ⟨.builtin .copy,#[x,y],#[T,U]⟩,ty,pos,af,g⟩ a w K Q:=by
 have h1:(execOp a.eval ⟨some d,.call ⟨.builtin .copy,#[x,y],#[T,U]⟩,ty,pos,af,g⟩).run P w=.ok (.value r) w':=by
  simp [execOp,resolve,invoke,builtin,hf.eval hx,hf.eval hy,hr]
 unfold Oper.wp;rw[h1,Oper.upon_value];exact k _ (hf.put hdn r)
theorem tZ (hf:Fr a n L) {T U:TypeId} {x y:Operand} {v u:Value} (hx:ev L x=some v) (hy:ev L y=some u) {r:Value} {w':World} (hr:(Builtin.append_ #[T,U] ty #[v,u]).run P w=.ok r w') (hdn:d<n)
 (k:∀a',Fr a' n ((d,r)::L)->K a' w'):Oper.wp P ⟨some d,.call ⟨.builtin .append,#[x,y],#[T,U]⟩,ty,pos,af,g⟩ a w K Q:=by
 have h1:(execOp a.eval ⟨some d,.call ⟨.builtin .append,#[x,y],#[T,U]⟩,ty,pos,af,g⟩).run P w=.ok (.value r) w':=by
  simp [execOp,resolve,invoke,builtin,hf.eval hx,hf.eval hy,hr]
 unfold Oper.wp;rw[h1,Oper.upon_value];exact k _ (hf.put hdn r)
theorem DF (hf:Fr a n L) {T E:TypeId} (hT:P.underlying T=some (.slice E)) {x:Operand} {A:c_} {m c:Nat} (hx:ev L x=some (.slice A m c)):∀w,(execOp a.eval ⟨dst,.call ⟨.builtin .cap,#[x],#[T]⟩,ty,pos,af,g⟩).run P w=.ok (.value (.int .i64 (c:Int))) w:=by
 intro w;simp [execOp,resolve,invoke,builtin,hf.eval hx,Builtin.cap_,run_underlying hT,goInt]
theorem DD (hf:Fr a n L) {f:FuncId} {xs:List Operand} {ats:Array TypeId} {vs:p_} (hxs:evs L xs=some vs) {r:Value} (h:(callFunc f vs.toArray).run P w=.ok (.value r) w) :
 (execOp a.eval ⟨dst,.call ⟨.value (.func f),xs.toArray,ats⟩,ty,pos,af,g⟩).run P w=.ok (.value r) w:=by
 rw[execOp_call_go];simp only[Array.empty_append,Array.append_empty,Je,hf.evals hxs,h]
theorem Ae {f : FuncId} {fn : Func} {T TR:TypeId} (hf : P.funcs[f]? = some fn) (hname : (fn.name == "runtime.NumGoroutine") = false) (hb : fn.body.isNone = true) (hn : Extern.findNext fn = none) (he : Extern.find fn = some (Extern.SlicesOverlaps.overlaps #[T, T] #[TR])) (hT : P.underlying T = some (.slice E)) (hE : SZ P E s)
 {b gb o la ca lb cb:Nat} (hne:b≠gb) {Eb Eg:TypeId} {curb curg:Array Value} (hvb:w.heap[b]?=some (.cells curb Eb (0,0))) (hvg:w.heap[gb]?=some (.cells curg Eg (0,0))) (hpos:curg.size≠0) :
 (callFunc f #[.slice (some ⟨b,0,none⟩) la ca,.slice (some ⟨gb,o,none⟩) lb cb]).run P w=.ok (.value (.bool false)) w:=by
 rw[run_callFunc_extern hf hname hb hn he];have:=Lib.run_overlaps_apart (P:=P) w T TR E hT s hE ⟨b,0,none⟩ ⟨gb,o,none⟩ la ca lb cb hne Eb Eg curb.size curg.size (by simp [World.shape?,hvb]) (by simp [World.shape?,hvg]) hpos (by simp [World.frozen?,hvb]) (by simp [World.frozen?,hvb]);rw[this];rfl
variable {w0:Base} {S:w_} {M:List Blk} {R:List Row} {D:List DI} {I:List (Bool×MP)}
end
end
section
open Go Go.RowKit
section
variable {w w1 w2:World} {S:w_} {M:List Blk} {R:List Row} {D:List DI} {I:List (Bool×MP)}
end
end
section
open Go Go.RowKit
section
variable {w w' w1:World} {w0:Base} {S:w_} {M:List Blk} {R:List Row} {D:List DI} {I:List (Bool×MP)}
theorem O_.wroteBoxO (H:O_ w0 S M R D I w) (i:Nat) {b:Nat} {T:TypeId} {cs cs':p_} (hi:M[i]?=some ⟨b,T,cs⟩) (hc:Chg w w' [b]) (hb:w'.heap[b]?=some (.cells cs'.toArray T (0,0)))
 {X:List DI} (hn:(X.flatMap DI.F).Nodup) (hX:∀d∈X,d.p.pred w' (·∈d.F)) (hl:∀b∈X.flatMap DI.F,w.heap.size<=b/\b<w'.heap.size):O_ w0 S (M.set i ⟨b,T,cs'⟩) R (X++D) I w':=by
 have hblt:b<w.heap.size:=by
  have h:=H.boxAt i hi
  rcases Iy b w.heap.size with h' | h'
  · exact h'
  · rw[Ij h']at h; cases h
 have hp1:(zs (M.set i ⟨b,T,cs'⟩) R (X++D)).Perm (([Blk.res ⟨b,T,cs'⟩]++X.map DI.res)++zs (M.eraseIdx i) R D):=by
  refine (jH (R:=R) (D:=X++D) ⟨b,T,cs'⟩ hi).trans ?_
  rw[GN]
  exact (iQ X).append_left _
 have ha:allZ ([Blk.res ⟨b,T,cs'⟩]++X.map DI.res)=b::X.flatMap DI.F:=by
  rw[vf,vt,eV]; rfl
 have hf:V0 ([Blk.res ⟨b,T,cs'⟩]++X.map DI.res)=[b]:=by
  rw[ii,cm,wN]; rfl
 refine MemZ.perm (MemZ.step (rs:=[Blk.res ⟨b,T,cs⟩]) (rs':=[Blk.res ⟨b,T,cs'⟩]++X.map DI.res) (MemZ.perm H (gM hi)) (hc.sub λx hx=>?_) (λx hx=>?_) (λx hx=>?_) ?_ (λ_ q hq=>?_)) hp1.symm;rw[cm]; simpa [Blk.res] using hx;rw[ha]at hx;rcases Hf.1 hx with rfl | hx
 left; rw[vt]; simp [Res.all,Blk.res];exact .inr (hl x hx);rw[hf]at hx;left; rw[cm]; simpa [Blk.res] using hx;rw[ha];exact Ib.2 ⟨λh=>by have:=(hl b h).1; omega,hn⟩;rcases GI.1 hq with h | h
 rw[GR]at h; subst h; exact hb;obtain⟨d,hd,rfl⟩:=Hy.1 h;exact⟨hX d hd,λc hc=>(hl c (Hr.2 ⟨d,hd,hc⟩)).2⟩
theorem O_.endsB {X:List DI} {b:Nat} {T:TypeId} {cs:p_} (H:O_ ⟨w1,[b]⟩ S M R (X++D) I w) (i:Nat) (hi:M[i]?=some ⟨b,T,cs⟩):K1 w1 w (X.flatMap DI.F):=by
 have H1:=MemZ.perm H (iQ X);have h1:=MemZ.nd H1;rw[vf,eV]at h1;refine⟨(GZ.1 h1).1,λc hc=>?_⟩;obtain⟨h2,h3⟩:=MemZ.lt H1 c (by rw[vf,eV]; exact GI.2 (.inl hc));rcases h2 with h2 | h2
 exact⟨h2,h3⟩;have e:=GR.1 h2;subst e;exact absurd rfl ((GZ.1 h1).2.2 c hc c (dZ (rB hi)))
end
theorem uv {l l':p_} {q:Nat} {A A':c_} {m m' c c':Nat} (h:l'[q]?=l[q]?) (h1:l'[q]?=some (.slice A' m' c')) (h2:l[q]?=some (.slice A m c)):A=A'/\c=c':=by
 rw[h1,h2]at h;simp only[Hj,Value.slice.injEq]at h;exact⟨h.1.symm,h.2.2.symm⟩
section
variable {w w':World} {w0:Base} {S S1:w_} {I I':List (Bool×MP)}
theorem MemZ.comp {rs rs' Z:List Res} {G:m_} (H:MemZ w0 S (rs++Z) I w) (hG:∀b∈G,b∈V0 rs) (H':MemZ ⟨w,G⟩ S1 rs' I' w')
 (hS:((∀r∈rs',r.fresh=true)/\∀f∈I',f.1=true)∨S1=D0 w0 S (rs++Z) false):MemZ w0 S (rs'++Z) (I'++I) w':=by
 have hlt:∀b∈V0 Z,b<w.heap.size/\b∉V0 rs:=λb hb=>by
  have h1:=H.nd
  rw[vf]at h1
  exact⟨(H.lt b (by rw[vf]; exact GI.2 (.inr (dZ hb)))).2,λh=>(GZ.1 h1).2.2 b (dZ h) b (dZ hb) rfl⟩
 have hmv:∀f,(f=true∨S1=D0 w0 S (rs++Z) false)->Moves w' w' (D0 ⟨w,G⟩ S1 rs' f) (D0 w0 S (rs'++Z) f):=λf hf b hb _=>by
  refine⟨?_,rfl⟩
  rcases hb with ⟨rfl,h1,h2⟩ | ⟨h1,h2⟩
  · rcases hf with hf | hf
    · cases hf
    · rw[hf]at h2
      have hn:b∉V0 rs':=λh=>h1 (H'.lt b (dZ h)).1
      rcases h2 with ⟨-,h3,h4⟩ | ⟨h3,h4⟩
      · exact .inl ⟨rfl,h3,h4⟩
      · refine .inr ⟨h3,?_⟩
        rw[ii]at h4 ⊢
        exact λh=>(GI.1 h).elim hn λh=>h4 (GI.2 (.inr h))
  · refine .inr ⟨?_,?_⟩
    · rcases h1 with h1 | h1
      · exact H.nw_new h1
      · exact (H.lt b (by rw[vf]; exact GI.2 (.inl (dZ (hG b h1))))).1
    · rw[ii]
      refine λh=>(GI.1 h).elim h2 λh=>?_
      rcases h1 with h1 | h1
      · have:=(hlt b h).1; simp only at h1; omega
      · exact (hlt b h).2 (hG b h1)
 have hb:=H'.below;have H2:MemZ w0 S (rs'++Z) I w':=by
  refine MemZ.step (rs:=rs) (rs':=rs') H ⟨hb.os,hb.tape,hb.output,hb.size,λk hk hn=>hb.block k ?_,hb.drawn⟩ (λb h=>?_) (λb h=>?_) H'.nd (λ_ r hr=>?_)
  · rintro (h | h)
    · simp only at h; omega
    · exact hn (hG k h)
  · obtain⟨h1,h2⟩:=H'.lt b h
    rcases h1 with h1 | h1
    · exact .inr ⟨h1,h2⟩
    · exact .inl (dZ (hG b h1))
  · obtain⟨h1,h2⟩:=H'.lt b (dZ h)
    rcases h1 with h1 | h1
    · exact .inr h1
    · exact .inl (hG b h1)
  · exact r.mono (H'.ok r hr) (λ_ _=>rfl) (hmv _ (hS.imp (λh=>h.1 r hr) id))
 refine⟨H2.below,H2.lt,H2.nd,H2.ok,λf hf=>?_⟩;rcases GI.1 hf with h | h
 exact f.2.mono (H'.imm f h) (hmv _ (hS.imp (λhh=>hh.2 f h) id));exact H2.imm f h
end
section
variable {w w':World} {w0:Base} {S S1:w_} {M:List Blk} {R R':List Row} {D D':List DI} {I I':List (Bool×MP)}
theorem BX (X:List Row):(zs M (X++R) D).Perm (X.map Row.res++zs M R D):=by
 unfold zs;rw[I0,GN];have h:∀(A B C:List Res),(A++(B++C)).Perm (B++(A++C)):=λA B C=>by
  rw[<-GN,<-GN]; exact Io.append_right _
 exact h _ _ _
theorem qO (X:List Row) (Y:List DI):(zs M (X++R) (Y++D)).Perm ((X.map Row.res++Y.map DI.res)++zs M R D):=by
 refine (BX X).trans ?_;rw[GN];exact (iQ Y).append_left _
theorem pI {bs:List Blk} (h:(R'.all (λr=>r.k.fresh)&&I'.all (λf=>f.1))=true):(∀r∈zs bs R' D',r.fresh=true)/\∀f∈I',f.1=true:=by
 rw[GP,HH,HH]at h;refine⟨λr hr=>?_,λf hf=>h.2 f hf⟩;rcases GI.1 hr with hr | hr
 obtain⟨m,-,rfl⟩:=Hy.1 hr; rfl;rcases GI.1 hr with hr | hr
 obtain⟨m,hm,rfl⟩:=Hy.1 hr; exact h.1 m hm;obtain⟨m,-,rfl⟩:=Hy.1 hr; rfl
theorem O_.comp (H:O_ w0 S M R D I w) (H':O_ ⟨w,[]⟩ S1 [] R' D' I' w') (hS:(R'.all (λr=>r.k.fresh)&&I'.all (λf=>f.1))=true∨S1=St w0 S M R D false):O_ w0 S M (R'++R) (D'++D) (I'++I) w':=by
 have h:=MemZ.comp (rs:=[]) (Z:=zs M R D) H (λb h=>by cases h) H' (hS.imp pI id)
 exact MemZ.perm h (qO R' D').symm
theorem O_.compB (H:O_ w0 S M R D I w) (i:Nat) {b:Nat} {T T':TypeId} {cs cs':p_} (hi:M[i]?=some ⟨b,T,cs⟩) (H':O_ ⟨w,[b]⟩ S1 [⟨b,T',cs'⟩] R' D' I' w')
 (hS:(R'.all (λr=>r.k.fresh)&&I'.all (λf=>f.1))=true∨S1=St w0 S M R D false):O_ w0 S (M.set i ⟨b,T',cs'⟩) (R'++R) (D'++D) (I'++I) w':=by
 have hp:=gM (R:=R) (D:=D) hi;have h:=MemZ.comp (rs:=[Blk.res ⟨b,T,cs⟩]) (MemZ.perm H hp) (λc h=>by rw[cm]; simpa [Blk.res] using h) H' (hS.imp pI λe=>e.trans (iz hp _));refine MemZ.perm h ?_;refine List.Perm.symm ?_;refine (jH (R:=R'++R) (D:=D'++D) ⟨b,T',cs'⟩ hi).trans ?_;exact (qO (M:=M.eraseIdx i) R' D').append_left [Blk.res ⟨b,T',cs'⟩]
end
def NB (b:Nat):w_:=λc=>c≠b
theorem O_.nb {w:World} {w0:Base} {S:w_} {M:List Blk} {R:List Row} {D:List DI} {I:List (Bool×MP)} (H:O_ w0 S M R D I w) (i:Nat) {b:Nat} {T:TypeId} {cs0:p_} (hi:M[i]?=some ⟨b,T,cs0⟩) {α:Type} [GoTy α] {f:Bool} {cs:p_} {x:List α} (h:lrep w (St w0 S M R D f) cs x):lrep w (NB b) cs x :=
 GoTy.mono (α:=List α) h λc hc _=>⟨λe=>H.notSt i hi f (e▸hc),rfl⟩
section
variable {P:Program} {Q:Exit->r_} {a:Act} {w:World} {n:Nat} {L:g_} {ty:TypeId} {pos:String} {af:Array Edge} {g:x_} {K:r_} {d:Nat}
variable {w0:Base} {S:w_} {M:List Blk} {R:List Row} {D:List DI} {I:List (Bool×MP)}
end
section
variable {P:Program} {Q:Exit->r_} {a:Act} {w:World} {n:Nat} {L:g_} {dst:Option Tmp} {ty:TypeId} {pos:String} {af:Array Edge} {g:x_} {K:r_} {d:Nat}
variable {w0:Base} {S:w_} {M:List Blk} {R:List Row} {D:List DI} {I:List (Bool×MP)}
variable {α:Type} [GoTy α] {F:m_} {xs:List α}
theorem O_.tl {cs:p_} (H:O_ w0 S M R (⟨F,MP.own F cs xs⟩::D) I w):O_ w0 S M R (⟨F,MP.own F cs (Tl.mk xs)⟩::D) I w :=
 H.recast (X:=[⟨F,MP.own F cs xs⟩]) (Y:=[⟨F,MP.own F cs (Tl.mk xs)⟩]) (Iw _) λh=>R1 (α:=Tl α) (B0 (h _ (GR.2 rfl)).1) ps0
theorem O_.lendTl (H:O_ w0 S M R D I w) (j:Nat) {α:Type} [GoTy α] {F:m_} {cs:p_} {x:List α} (hj:D[j]?=some ⟨F,MP.own F cs (Tl.mk x)⟩):O_ w0 S M R D ((true,MP.val cs x)::I) w :=
 (H.lend j hj:O_ w0 S M R D ((true,MP.val cs (Tl.mk x))::I) w)
theorem O_.shrinkD {e e':DI} (H:O_ w0 S M R (e::D) I w) (hF:e'.F.Sublist e.F) (hd:e'.p.pred w (·∈e'.F)):O_ w0 S M R (e'::D) I w:=by
 have H1:=MemZ.perm H (zK e);have hall:∀e:DI,allZ [e.res]=e.F:=λe=>by rw[vt]; rfl
 refine MemZ.perm (MemZ.step (rs:=[e.res]) (rs':=[e'.res]) H1 (Chg.refl _ _) (λb hb=>.inl ?_) (λb hb=>?_) ?_ (λ_ q hq=>?_)) (zK e').symm;rw[hall]at hb ⊢; exact hF.subset hb;rw[cm]at hb; cases hb
 have h1:=MemZ.nd H1;rw[vf,hall]at h1;rw[hall]; exact hF.nodup (GZ.1 h1).1;rw[GR]at hq; subst hq;exact⟨hd,λb hb=>(MemZ.lt H1 b (by rw[vf,hall]; exact GI.2 (.inl (hF.subset hb)))).2⟩
theorem tQ {A:c_} {len cap:Nat} {ys:List α} (H:O_ w0 S M R (⟨F,MP.own F [.slice A len cap] (Tl.mk xs)⟩::D) I w) {T E:TypeId} (hT:P.underlying T=some (.slice E)) (hE:SZ P E (GoTy.n α)) {i j:Int} {lov hiv:Option Value}
 (hlo:lov=none/\i=0∨lov=some (.int .i64 i)) (hhi:hiv=none/\j=xs.length∨hiv=some (.int .i64 j)) (hs:sub xs i j=some ys) :
 ∃F' A' c',(∀w',(Instr.sliceAt T (.slice A len cap) lov hiv none).run P w'=.ok (.slice A' ys.length c') w')/\O_ w0 S M R (⟨F',MP.own F' [.slice A' ys.length c'] (Tl.mk ys)⟩::D) I w:=by
 obtain⟨⟨A',cap',E',cells,Fs,hcs,ho,hF,hl,hel⟩,-⟩:=H.diAt (d:=⟨F,MP.own F [.slice A len cap] (Tl.mk xs)⟩) (by simp);simp only[Ho,Value.slice.injEq,and_true]at hcs;obtain⟨rfl,rfl,rfl⟩:=hcs;obtain⟨A',c',hrun,-⟩:=aP (P:=P) (H.lendTl 0 rfl) hT hE 0 hlo hhi rfl hs;unfold sub at hs;split at hs
 case isFalse=>cases hs
 rename_i hb;obtain⟨h0,h1,h2⟩:=hb;injection hs with hs
 have h2':j.toNat<=xs.length:=by omega
 have hij:i.toNat<=j.toNat:=by omega
 have hyl:ys.length=j.toNat - i.toNat:=by rw[<-hs]; simp; omega
 have hE':∀w,(Go.sizeOf E).run P w=.ok (GoTy.n α) w:=hE;have hcap:xs.length<=cap:=by
  rcases ho.2 with ⟨hv,hn⟩ | ⟨g,o,cap',cur,hv,-,hnc,-⟩
  · have:xs.length=0:=hn
    omega
  · simp only[Value.slice.injEq]at hv
    have h3:xs.length<=cap':=hnc
    omega
 have hv:Value.slice (cutA A (GoTy.n α) i.toNat cap) ys.length (cap - i.toNat)=.slice A' ys.length c':=by
  have hj:(j.toNat:Int)=j:=HG (by omega)
  have hi:(i.toNat:Int)=i:=HG h0
  have e1:=hrun w
  have e2:(Instr.sliceAt T (.slice A xs.length cap) lov hiv none).run P w=.ok (.slice (cutA A (GoTy.n α) i.toNat cap) (j.toNat - i.toNat) (cap - i.toNat)) w:=by
   refine eH hT hE (λw'=>?_) w
   rcases hlo with ⟨q1,rfl⟩ | q1 <;> rcases hhi with ⟨q2,q3⟩ | q2 <;> rw[q1,q2]
   · subst q3; simp [Instr.sliceBounds]
   · simp [Instr.sliceBounds,Instr.sliceBound,asIntOf,show 0<=j by omega,show j<=cap by omega]
   · subst q3; simp [Instr.sliceBounds,Instr.sliceBound,asIntOf,h0,h1]
   · simp [Instr.sliceBounds,Instr.sliceBound,asIntOf,h0,show 0<=j by omega,show j<=cap by omega,hj,h1]
  rw[e2,<-hyl]at e1
  injection e1 with e1
 refine⟨(Value.slice A' ys.length c').ownBlock.toList++List.flatten ((Fs.drop i.toNat).take (j.toNat - i.toNat)),A',c',hrun,?_⟩;rw[<-hv];have hob:(Value.slice (cutA A (GoTy.n α) i.toNat cap) ys.length (cap - i.toNat)).ownBlock=(Value.slice A xs.length cap).ownBlock:=by
  unfold cutA
  split
  · cases A <;> rfl
  · cases A with
    | none=>rfl
    | some p=>simp [Value.ownBlock,block_add]
 refine H.shrinkD ?_ ⟨⟨_,_,E',(cells.drop (i.toNat * GoTy.n α)).take ((j.toNat - i.toNat) * GoTy.n α),(Fs.drop i.toNat).take (j.toNat - i.toNat),rfl,?_,rfl,?_,λk x Fk hx hFk=>?_⟩,λb hb=>hb⟩
 · show List.Sublist _ F
   rw[hF,hob]
   exact (I4 _).append (nG ((List.take_sublist _ _).trans (List.drop_sublist _ _)))
 · have hcl:cells.length=xs.length * GoTy.n α:=ho.1
   have m1:i.toNat * GoTy.n α + (j.toNat - i.toNat) * GoTy.n α=j.toNat * GoTy.n α:=by rw[<-HN]; congr 1; omega
   have m2:j.toNat * GoTy.n α<=xs.length * GoTy.n α:=Hb _ h2'
   refine⟨?_,?_⟩
   · show _=ys.length * _
     rw[GO,Hd,hcl,hyl]; omega
   rcases ho.2 with ⟨hv0,hn⟩ | ⟨g,o,cap',cur,hv0,hg,hnc,hcm,hsz,htk⟩
   · left
     have hx0:xs.length=0:=hn
     simp only[Value.slice.injEq]at hv0
     obtain⟨rfl,-,rfl⟩:=hv0
     have hy0:ys.length=0:=by omega
     refine⟨?_,hy0⟩
     show Value.slice (cutA none _ _ _) ys.length _=_
     rw[hy0]
     unfold cutA
     split
     · simp
     · simp
   · right
     simp only[Value.slice.injEq]at hv0
     obtain⟨rfl,-,rfl⟩:=hv0
     show ∃g' o' cap' cur',Value.slice (cutA (some ⟨g,o,none⟩) (GoTy.n α) i.toNat cap) ys.length (cap - i.toNat)=_/\_
     by_cases hc:cap=i.toNat
     · have hy0:ys.length=0:=by omega
       refine⟨g,o,0,cur,?_,hg,by show ys.length<=0; omega,IK _,by omega,?_⟩
       · unfold cutA
         rw[if_pos hc,hc,Nat.sub_self]
       · have e:j.toNat - i.toNat=0:=by omega
         show List.take (ys.length * _) _=_
         rw[hy0,e,IJ,J6,J6]
     · have m3:i.toNat * GoTy.n α + (cap - i.toNat) * GoTy.n α=cap * GoTy.n α:=by rw[<-HN]; congr 1; omega
       refine⟨g,o + i.toNat * GoTy.n α,cap - i.toNat,cur,by rw[ix hc],hg,by show ys.length<=_; omega,by omega,by omega,?_⟩
       show List.take (ys.length * _) _=_
       rw[<-htk,hyl,<-IM,JG,IN]
       congr 1
       show _=min _ (xs.length * _ - _)
       omega
 · show ((Fs.drop i.toNat).take (j.toNat - i.toNat)).length=ys.length
   have:Fs.length=xs.length:=hl
   rw[GO,Hd,hyl]; omega
 · have hx':ys[k]?=some x:=hx
   have hk:k<j.toNat - i.toNat:=by have:=(GQ.1 hx').1; omega
   rw[G9 hk,Hl]at hFk
   have hxx:xs[i.toNat + k]?=some x:=by
    rw[<-hs]at hx'
    first
     | (rw[G9 (by omega),Hl]at hx'; exact hx')
     | (rw[Hl,G9 (by omega)]at hx'; exact hx')
   rw[pa _ hk,pc,Jg]
   exact hel _ x Fk hxx hFk
theorem AK (hf:Fr a n L) {α:Type} [GoTy α] {F:m_} {A:c_} {len cap:Nat} {xs ys:List α} (H:O_ w0 S M R (⟨F,MP.own F [.slice A len cap] (Tl.mk xs)⟩::D) I w) {T E:TypeId} (hT:P.underlying T=some (.slice E)) (hE:SZ P E (GoTy.n α)) {x:Operand} {lo hi:Option Operand} {i j:Int} {lov hiv:Option Value}
 (hx:ev L x=some (.slice A len cap)) (hl:evo L lo=some lov) (hh:evo L hi=some hiv) (hlo:lov=none/\i=0∨lov=some (.int .i64 i)) (hhi:hiv=none/\j=xs.length∨hiv=some (.int .i64 j)) (hs:sub xs i j=some ys) (hdn:d<n)
 (k:∀F' A' c' a',Fr a' n ((d,.slice A' ys.length c')::L)->O_ w0 S M R (⟨F',MP.own F' [.slice A' ys.length c'] (Tl.mk ys)⟩::D) I w->K a' w):Oper.wp P ⟨some d,.slice T x lo hi none,ty,pos,af,g⟩ a w K Q:=by
 obtain⟨F',A',c',hr,H'⟩:=tQ H hT hE hlo hhi hs;exact op_q hf (aO hf hx hl hh hr w) rfl hdn λa' hf'=>k F' A' c' a' hf' H'
end
end
section
open Go Go.RowKit
section
variable {w w' w1:World} {w0:Base} {S:w_} {M:List Blk} {R:List Row} {D:List DI} {I:List (Bool×MP)}
variable {α:Type} [GoTy α] {F:m_} {cs:p_}
theorem O_.startBO (S:w_) {b:Nat} {T:TypeId} {cs:p_} {F:m_} {x:α} (h:w1.heap[b]?=some (.cells cs.toArray T (0,0))) (hO:GoTy.own w1 F cs x) (hn:(b::F).Nodup) :
 O_ ⟨w1,b::F⟩ S [⟨b,T,cs⟩] [] [⟨F,MP.own F cs x⟩] [] w1:=by
 have hlt:b<w1.heap.size:=by
  rcases Iy b w1.heap.size with h' | h'
  · exact h'
  · rw[Ij h']at h; cases h
 have ha:allZ (zs [⟨b,T,cs⟩] [] [⟨F,MP.own F cs x⟩])=b::F:=by simp [allZ,zs,Res.all,Blk.res,DI.res]
 refine⟨⟨rfl,rfl,rfl,GV _,λ_ _=>rfl,GV _⟩,λc hc=>?_,by rw[ha]; exact hn,λr hr=>?_,λf hf=>(by cases hf)⟩
 rw[ha]at hc;refine⟨.inr hc,?_⟩;rcases Hf.1 hc with rfl | hc
 exact hlt;exact GoTy.own_lt hO c hc;have:r=Blk.res ⟨b,T,cs⟩∨r=DI.res ⟨F,MP.own F cs x⟩:=by simpa [zs] using hr
 rcases this with rfl | rfl
 exact h;exact⟨⟨hO,λb hb=>hb⟩,λb hb=>GoTy.own_lt hO b hb⟩
theorem O_.wroteBO {F':m_} {cs':p_} {x x':α} (H:O_ w0 S M R (⟨F,MP.own F cs x⟩::D) I w) (i:Nat) {b:Nat} {T:TypeId} {c0:p_} (hi:M[i]?=some ⟨b,T,c0⟩) (hR:R.all Row.tightB=true) (hc:Chg w w' (b::F))
 (hb:w'.heap[b]?=some (.cells cs'.toArray T (0,0))) (ho:GoTy.own w' F' cs' x') (hbk:Back w w' F F') (hbF:b∉F'):O_ w0 S (M.set i ⟨b,T,cs'⟩) R (⟨F',MP.own F' cs' x'⟩::D) [] w':=by
 have hall:∀(m:Blk) (e:DI),allZ [m.res,e.res]=m.b::e.F:=λm e=>by simp [allZ,Res.all,Blk.res,DI.res]
 have hp:(zs M R (⟨F,MP.own F cs x⟩::D)).Perm ([Blk.res ⟨b,T,c0⟩,DI.res ⟨F,MP.own F cs x⟩]++zs (M.eraseIdx i) R D) :=
  (gM hi).trans ((zK _).append_left [_])
 have hp':(zs (M.set i ⟨b,T,cs'⟩) R (⟨F',MP.own F' cs' x'⟩::D)).Perm ([Blk.res ⟨b,T,cs'⟩,DI.res ⟨F',MP.own F' cs' x'⟩]++zs (M.eraseIdx i) R D) :=
  (jH _ hi).trans ((zK _).append_left [_])
 have H1:=MemZ.perm H hp;have hblt:b<w.heap.size:=(MemZ.lt H1 b (by rw[vf,hall]; simp)).2;refine MemZ.perm (MemZ.turn (rs':=[Blk.res ⟨b,T,cs'⟩,DI.res ⟨F',MP.own F' cs' x'⟩]) H1 (by rw[hall]; exact hc) (λc h=>?_) ?_ (je hR) (λq hq=>?_)) hp'.symm;rw[hall]at h ⊢;rcases Hf.1 h with rfl | h
 exact .inl (Hp ..);obtain⟨h1,h2⟩:=hbk.2 c h;exact h1.elim (λh=>.inr ⟨h,h2⟩) λh=>.inl (Hs _ h);rw[hall];exact Ib.2 ⟨hbF,hbk.1⟩;have:q=Blk.res ⟨b,T,cs'⟩∨q=DI.res ⟨F',MP.own F' cs' x'⟩:=by simpa using hq
 rcases this with rfl | rfl
 exact hb;exact⟨⟨ho,λb h=>h⟩,λb h=>(hbk.2 b h).2⟩
theorem O_.endBO {d:DI} {b:Nat} {T:TypeId} (H:O_ ⟨w1,b::F⟩ S M R (d::D) I w) (i:Nat) (hi:M[i]?=some ⟨b,T,cs⟩):Back w1 w F d.F/\b∉d.F:=by
 have hall:∀(m:Blk) (e:DI),allZ [m.res,e.res]=m.b::e.F:=λm e=>by simp [allZ,Res.all,Blk.res,DI.res]
 have hp:(zs M R (d::D)).Perm ([Blk.res ⟨b,T,cs⟩,d.res]++zs (M.eraseIdx i) R D):=(gM hi).trans ((zK _).append_left [_]);have H1:=MemZ.perm H hp;have hnd:=MemZ.nd H1;rw[vf,hall]at hnd;obtain⟨h1,h2⟩:=Ib.1 (GZ.1 hnd).1;refine⟨⟨h2,λc hc=>?_⟩,h1⟩;obtain⟨h3,h4⟩:=MemZ.lt H1 c (by rw[vf,hall]; exact GI.2 (.inl (Hs _ hc)));refine⟨?_,h4⟩;rcases h3 with h3 | h3
 exact .inl h3;rcases Hf.1 h3 with e | h3
 subst e; exact absurd hc h1;exact .inr h3
end
section
variable {P:Program} {l:List Oper} {S:t_} {a:Act} {w:World} {B:m_} {fuel:Nat} {bs:List Bool}
theorem on3 {Mid:r_} {i j k:Nat} {oi oj ok:Oper} {bi bj bk:List Bool} (hr:Region.ready .any l.toArray bs.toArray=[i,j,k]) (hi:l[i]?=some oi) (hgi:oi.guard=none) (hbi:bs.set i true=bi) (hj:l[j]?=some oj) (hgj:oj.guard=none) (hbj:bs.set j true=bj) (hk:l[k]?=some ok) (hgk:ok.guard=none) (hbk:bs.set k true=bk)
 (h:oi.wp P a w (λa' w'=>(nb B bi.toArray=true->S w')/\DL P l Mid S B fuel bi a' w') (only Mid)) (h':oj.wp P a w (λa' w'=>(nb B bj.toArray=true->S w')/\DL P l Mid S B fuel bj a' w') (only Mid)) (h'':ok.wp P a w (λa' w'=>(nb B bk.toArray=true->S w')/\DL P l Mid S B fuel bk a' w') (only Mid)):DL P l Mid S B (fuel + 1) bs a w:=by
 refine⟨λh0=>(by rw[hr]at h0; cases h0),λq hq=>?_⟩
 rw[hr]at hq;simp only[Hf,Is,or_false]at hq;rcases hq with rfl | rfl | rfl
 unfold wpOp;have hi':l.toArray[q]?=some oi:=by simpa using hi
 simp only[hi',Region.wanted,hgi];rw[ki hbi];exact .inl h;unfold wpOp;have hi':l.toArray[q]?=some oj:=by simpa using hj
 simp only[hi',Region.wanted,hgj];rw[ki hbj];exact .inl h';unfold wpOp;have hi':l.toArray[q]?=some ok:=by simpa using hk
 simp only[hi',Region.wanted,hgk];rw[ki hbk];exact .inl h''
end
section
variable {P:Program} {a:Act} {w:World} {n:Nat} {L:g_} {dst:Option Tmp} {ty:TypeId} {pos:String} {af:Array Edge} {g:x_}
end
end
end AT
